/- A part of the proof: contracts, printed by program. -/
import Derived.Test.YtmblnmgpmdapnaaGreatB
import Derived.Test.YtmblnmgpmdapnaaGreatD
import Derived.Test.YtmblnmgpmdapnaaGreatG
set_option linter.unusedVariables false
set_option linter.unusedSimpArgs false
set_option linter.unnecessarySimpa false
set_option linter.deprecated false
set_option linter.unusedSectionVars false
set_option linter.constructorNameAsVariable false
open Go.IntKind renaming wrap->kwr,bits->kbt
section
set_option maxRecDepth 100000
open Go Go.Proofs Ax
namespace W
abbrev zb2 (r:Bool):PV:=PV.bool r
def qp2 (n:Nat) (p:qaf) (s:Bool):Option (Bool):=
 match p with
 | ⟨q,o,e,⟨f,g,⟨i,j,k,l,a,b⟩,c,d⟩⟩=>
 bnd (qga n q) fun t=>
 bif(!t)then(
 some false)
 else(
 bif(o==([]:SS))then(
 bnd (qkg n e) fun m=>
 bnd (qaw m (qtu n (qaa.mk f g (Val.mk i j k l a b) c d))) fun u=>
 some (bif m then u else false))
 else(
 bnd (qaw (!(!(e==([]:SS)))) (qkg n o)) fun v=>
 bif(bif(!(e==([]:SS)))then true else(!v))then(
 some false)
 else(
 bif s then(
 bnd (qfm n (qaa.mk f g (Val.mk i j k l a b) c d)) fun w=>
 some w)
 else(
 bnd (qtu n (qaa.mk f g (Val.mk i j k l a b) c d)) fun x=>
 some x))))
theorem q8r (n:Nat):∀ (a:qaf) (d r:Bool),qp2 n a d=some r->qai TP 72 [PV.agg (qjo.cells a),PV.bool d] (zb2 r):=by
 intro a d r h;obtain⟨_,_,_,⟨_,_,⟨_,_,_,_,_,_⟩,_,_⟩⟩:=a;unfold qp2 at h;refine zN Tryz.call72 Tryz.func72 [1000000] ?_;conv=>whnf
 refine bq h fun _ k h=>?_;refine⟨_,(qgi n _ _ k),?_⟩;conv=>whnf
 apply ifc h<;>intro b h
 ·obtain rfl:=sj h
  conv=>whnf
  try exact fin
 conv=>whnf
 apply ifc h<;>intro b h
 ·conv=>whnf
  refine bq h fun _ f h=>?_;refine⟨_,(qiy n _ _ f),?_⟩;conv=>whnf
  refine⟨id,id,?_⟩;conv=>whnf
  refine bq h fun _ e h=>?_;refine⟨_,fun c=>(q3f n _ _ (qac e c)),?_⟩;conv=>whnf
  refine⟨id,?_⟩;obtain rfl:=sj h;conv=>whnf
  try exact fin
 conv=>whnf
 refine⟨id,id,?_⟩;conv=>whnf
 refine bq h fun _ j h=>?_;refine⟨_,fun c=>(qiy n _ _ (qac j c)),?_⟩;conv=>whnf
 refine⟨id,id,?_⟩;conv=>whnf
 apply ifc h<;>intro b h
 ·obtain rfl:=sj h
  conv=>whnf
  try exact fin
 conv=>whnf
 apply ifc h<;>intro b h
 ·conv=>whnf
  refine bq h fun _ g h=>?_;refine⟨_,(qir n _ _ g),?_⟩;obtain rfl:=sj h;conv=>whnf
  try exact fin
 conv=>whnf
 refine bq h fun _ i h=>?_;refine⟨_,(q3f n _ _ i),?_⟩;obtain rfl:=sj h;conv=>whnf
 try exact fin
abbrev q5f (r:Bool):PV:=PV.bool r
def qfo (n:Nat) (a:List qaf) (d:Int):LK (Int) (Bool):=fun c b=>
 bif(decide (b<((qaf.rows a).length:Int)))then(
 bnd (idx a b) fun⟨e,f,g,⟨i,j,⟨k,l,m,o,p,q⟩,s,t⟩⟩=>
 bnd (qp2 n (qaf.mk e f g (qaa.mk i j (Val.mk k l m o p q) s t)) (d==6)) fun u=>
 bif(!u)then(
 some false)
 else(
 c (kwr .i64 (b+1))))
 else(
 some (decide (((qaf.rows a).length:Int)>0)))
def qfp (n:Nat) (a:List SS):LK (Int) (Bool):=fun c b=>
 bif(decide (b<((qak a).length:Int)))then(
 bnd (idx a b) fun d=>
 bnd (qga n d) fun e=>
 bif(!e)then(
 some false)
 else(
 c (kwr .i64 (b+1))))
 else(
 some (decide (((qak a).length:Int)>0)))
def qi3 (n:Nat) (b:List qaf) (a:Int) (c:List SS):Bool->Option (Bool):=fun d=>
 bif d then(
 qam (qfo n b a) n (0:Int))
 else(
 bif(a==8)then(
 qam (qfp n c) n (0:Int))
 else(
 some false))
def qi2 (n:Nat) (a:Int) (b:List qa9) (e:List qaa) (u:Int) (v:SS) (z:Int) (A:Bool) (B:Int) (C:SS) (g:List Val) (i j:List SS) (k:List qaa) (l:SS) (m:List qbn) (o:Bool) (p:List qat) (q s:List qaa) (c:List qaf) (d:List SS) (t:Bool):Bool->Option (Bool):=fun w=>
 bif w then(
 bnd (qwm n (qab.mk a b e (qaa.mk u v (Val.mk z A B C g i) j k) l m o p q s c d t)) fun f=>
 bnd (qaw f (qmz n e (1:Int))) fun x=>
 some (bif f then x else false))
 else(
 bif(a==4)then(
 some (decide (((qa9.rows b).length:Int)>0)))
 else(
 bif(a==5)then(
 bnd (qaw (((qa9.rows b).length:Int)==1) (idx b (0:Int))) fun⟨_,y⟩=>
 some (bif(((qa9.rows b).length:Int)==1)then(((qag.rows y).length:Int)==0)else false))
 else(
 bif(a==6)then(
 qi3 n c a d (a==6))
 else(
 qi3 n c a d (a==7)))))
def qfn (n:Nat) (b:List qa9) (a:Int) (i:List qaa) (j:Int) (l:SS) (m:Int) (o:Bool) (p:Int) (q:SS) (c:List Val) (d e:List SS) (f:List qaa) (g:SS) (s:List qbn) (t:Bool) (u:List qat) (v w:List qaa) (x:List qaf) (y:List SS) (z:Bool):LK (Int) (Bool):=fun B k=>
 bif(decide (k<((qa9.rows b).length:Int)))then(
 bnd (idx b k) fun⟨C,D⟩=>
 bnd (qno n (qa9.mk C D)) fun E=>
 bif(!E)then(
 some false)
 else(
 B (kwr .i64 (k+1))))
 else(
 bif(a==1)then(
 bnd (qaw (decide (((qa9.rows b).length:Int)>0)) (qmz n i (1:Int))) fun F=>
 some (bif(decide (((qa9.rows b).length:Int)>0))then F else false))
 else(
 bif(a==2)then(
 bnd (qfm n (qaa.mk j l (Val.mk m o p q c d) e f)) fun A=>
 bnd (qaw A (qga n g)) fun G=>
 some (bif A then G else false))
 else(
 bif(a==3)then(
 qi2 n a b i j l m o p q c d e f g s t u v w x y z (a==3))
 else(
 qi2 n a b i j l m o p q c d e f g s t u v w x y z (a==9)))))
def qgk (n:Nat) (z:qab):Option (Bool):=
 match z with
 | ⟨a,m,s,⟨t,u,⟨v,w,x,y,b,c⟩,d,e⟩,f,g,i,j,k,l,o,p,q⟩=>
 bnd (qub n (qab.mk a m s (qaa.mk t u (Val.mk v w x y b c) d e) f g i j k l o p q)) fun⟨A,B,C,⟨D,E,⟨F,G,H,I,J,K⟩,L,M⟩,N,O,P,Q,R,S,T,U,V⟩=>
 bnd (qg4 n (qab.mk A B C (qaa.mk D E (Val.mk F G H I J K) L M) N O P Q R S T U V) (qab.mk a m s (qaa.mk t u (Val.mk v w x y b c) d e) f g i j k l o p q)) fun W=>
 bif(!W)then(
 some false)
 else(
 qam (qfn n m a s t u v w x y b c d e f g i j k l o p q) n (0:Int))
set_option maxHeartbeats 4000000 in
theorem q3g (n:Nat):∀ (C:qab) (r:Bool),qgk n C=some r->qai TP 40 [PV.agg (qcz.cells C)] (q5f r):=by
 intro C r h;obtain⟨b,s,u,⟨v,w,⟨x,y,z,A,f,g⟩,i,j⟩,k,l,m,o,p,q,c,d,t⟩:=C;unfold qgk at h;refine zN Tryz.call40 Tryz.func40 [1000000] ?_;conv=>whnf
 refine bq h fun⟨_,_,_,⟨_,_,⟨_,_,_,_,_,_⟩,_,_⟩,_,_,_,_,_,_,_,_,_⟩ N h=>?_;refine⟨_,(zgc n _ _ N),?_⟩;conv=>whnf
 refine bq h fun _ M h=>?_;refine⟨_,(q19 n _ _ _ M),?_⟩;conv=>whnf
 apply ifc h<;>intro a h
 ·obtain rfl:=sj h
  conv=>whnf
  try exact fin
 conv=>whnf
 refine qbh.fn [1000000] (S:=Int) (fun D=>[(1,.ptr 0 0),(3,pI D)]) (fun D=>[.box 51 [pI b,pP s,pE u,pI v,pS w,pI x,pB y,pI z,pS A,pV f,pT g,pT i,pE j,pS k,pA l,pB m,pO o,pE p,pE q,pU c,pT d,pB t]]) (B:=qfn n s b u v w x y z A f g i j k l m o p q c d t) h (wk [0] []) ?_;intro _ D h;unfold qfn at h;conv=>whnf
 apply ifc h<;>intro a h
 ·conv=>whnf
  refine bq h fun⟨_,_⟩ O h=>?_;refine⟨_,Codec.at_ qlh O,?_⟩;conv=>whnf
  refine bq h fun _ I h=>?_;refine⟨_,(q6y n _ _ I),?_⟩;conv=>whnf
  apply ifc h<;>intro a h
  ·obtain rfl:=sj h
   conv=>whnf
   try exact fin
  conv=>whnf
  exact⟨(kwr .i64 (D+1)),h,wk [0] []⟩
 conv=>whnf
 apply ifc h<;>intro a h
 ·conv=>whnf
  refine⟨id,id,?_⟩;conv=>whnf
  refine bq h fun _ P h=>?_;refine⟨_,fun e=>(qr1 n _ _ _ (qac P e)),?_⟩;conv=>whnf
  refine⟨id,?_⟩;obtain rfl:=sj h;conv=>whnf
  try exact fin
 conv=>whnf
 apply ifc h<;>intro a h
 ·conv=>whnf
  refine bq h fun _ R h=>?_;refine⟨_,(qir n _ _ R),?_⟩;conv=>whnf
  refine⟨id,id,?_⟩;conv=>whnf
  refine bq h fun _ Q h=>?_;refine⟨_,fun e=>(qgi n _ _ (qac Q e)),?_⟩;conv=>whnf
  refine⟨id,?_⟩;obtain rfl:=sj h;conv=>whnf
  try exact fin
 conv=>whnf
 refine qhd.cut (S:=Bool) (fun G=>[(1,.ptr 0 0),(26,pI b),(48,pB G)]) (fun G=>[.box 51 [pI b,pP s,pE u,pI v,pS w,pI x,pB y,pI z,pS A,pV f,pT g,pT i,pE j,pS k,pA l,pB m,pO o,pE p,pE q,pU c,pT d,pB t]]) (qi2 n b s u v w x y z A f g i j k l m o p q c d t) (r:=r) ?_ ?_
 ·intro G h
  unfold qi2 at h;conv=>whnf
  apply ifc h<;>intro a h
  ·conv=>whnf
   refine bq h fun _ U h=>?_;refine⟨_,(zdv n _ _ U),?_⟩;conv=>whnf
   refine⟨id,id,?_⟩;conv=>whnf
   refine bq h fun _ T h=>?_;refine⟨_,fun e=>(qr1 n _ _ _ (qac T e)),?_⟩;conv=>whnf
   refine⟨id,?_⟩;obtain rfl:=sj h;conv=>whnf
   try exact fin
  conv=>whnf
  apply ifc h<;>intro a h
  ·obtain rfl:=sj h
   conv=>whnf
   try exact fin
  conv=>whnf
  apply ifc h<;>intro a h
  ·conv=>whnf
   refine⟨id,id,?_⟩;conv=>whnf
   refine bq h fun⟨_,_⟩ V h=>?_;refine⟨_,fun e=>Codec.at_ qlh (qac V e),?_⟩;conv=>whnf
   refine⟨id,id,id,id,id,?_⟩;obtain rfl:=sj h;conv=>whnf
   try exact fin
  conv=>whnf
  refine qhd.cut (S:=Bool) (fun H=>[(1,.ptr 0 0),(26,pI b),(79,pB H)]) (fun H=>[.box 51 [pI b,pP s,pE u,pI v,pS w,pI x,pB y,pI z,pS A,pV f,pT g,pT i,pE j,pS k,pA l,pB m,pO o,pE p,pE q,pU c,pT d,pB t]]) (qi3 n c b d) (r:=r) ?_ ?_
  ·intro H h
   unfold qi3 at h;conv=>whnf
   apply ifc h<;>intro a h
   ·conv=>whnf
    refine qbh.fn [1000000] (S:=Int) (fun E=>[(1,.ptr 0 0),(4,pI E)]) (fun E=>[.box 51 [pI b,pP s,pE u,pI v,pS w,pI x,pB y,pI z,pS A,pV f,pT g,pT i,pE j,pS k,pA l,pB m,pO o,pE p,pE q,pU c,pT d,pB t]]) (B:=qfo n c b) h (wk [0] []) ?_;intro _ E h;unfold qfo at h;(conv=>whnf);apply ifc h<;>intro a h
    ·conv=>whnf
     refine bq h fun⟨_,_,_,⟨_,_,⟨_,_,_,_,_,_⟩,_,_⟩⟩ J h=>?_;refine⟨_,Codec.at_ qjo J,?_⟩;(conv=>whnf);refine bq h fun _ W h=>?_;refine⟨_,(q8r n _ _ _ W),?_⟩;(conv=>whnf);apply ifc h<;>intro a h
     ·obtain rfl:=sj h
      conv=>whnf
      try exact fin
     (conv=>whnf);exact⟨(kwr .i64 (E+1)),h,wk [0] []⟩
    obtain rfl:=sj h;conv=>whnf
    try exact fin
   conv=>whnf
   apply ifc h<;>intro a h
   ·conv=>whnf
    refine qbh.fn [1000000] (S:=Int) (fun F=>[(1,.ptr 0 0),(5,pI F)]) (fun F=>[.box 51 [pI b,pP s,pE u,pI v,pS w,pI x,pB y,pI z,pS A,pV f,pT g,pT i,pE j,pS k,pA l,pB m,pO o,pE p,pE q,pU c,pT d,pB t]]) (B:=qfp n d) h (wk [0] []) ?_;intro _ F h;unfold qfp at h;(conv=>whnf);apply ifc h<;>intro a h
    ·conv=>whnf
     refine bq h fun _ L h=>?_;refine⟨_,Codec.at_ qpr L,?_⟩;(conv=>whnf);refine bq h fun _ K h=>?_;refine⟨_,(qgi n _ _ K),?_⟩;(conv=>whnf);apply ifc h<;>intro a h
     ·obtain rfl:=sj h
      conv=>whnf
      try exact fin
     (conv=>whnf);exact⟨(kwr .i64 (F+1)),h,wk [0] []⟩
    obtain rfl:=sj h;conv=>whnf
    try exact fin
   obtain rfl:=sj h;conv=>whnf
   try exact fin
  conv=>whnf
  apply ifc h<;>intro a h
  ·conv=>whnf
   exact⟨(b==6),h,wk [0] []⟩
  conv=>whnf
  exact⟨(b==7),h,wk [0] []⟩
 conv=>whnf
 apply ifc h<;>intro a h
 ·conv=>whnf
  exact⟨(b==3),h,wk [0] []⟩
 conv=>whnf
 exact⟨(b==9),h,wk [0] []⟩
abbrev zi8 (r:Bool):PV:=PV.bool r
def qmy (n:Nat) (a:List qab):LK (Int) (Bool):=fun e b=>
 bif(decide (b<((qab.rows a).length:Int)))then(
 bnd (idx a b) fun⟨y,z,A,⟨B,C,⟨E,F,f,g,i,j⟩,k,l⟩,m,o,p,q,s,t,u,v,w⟩=>
 bnd (qgk n (qab.mk y z A (qaa.mk B C (Val.mk E F f g i j) k l) m o p q s t u v w)) fun d=>
 bnd (qaw (!(!d)) (idx a b)) fun⟨x,_,_,⟨_,_,⟨_,_,_,_,_,_⟩,_,_⟩,_,_,_,_,_,_,_,_,_⟩=>
 bif(bif(!d)then true else(bif(x==9)then(decide ((kwr .i64 (b+1))<((qab.rows a).length:Int)))else false))then(
 some false)
 else(
 e (kwr .i64 (b+1))))
 else(
 bnd (qaw (bif(decide (((qab.rows a).length:Int)>0))then(decide (((qab.rows a).length:Int)<=64))else false) (idx a (kwr .i64 (((qab.rows a).length:Int) - 1)))) fun⟨c,_,_,⟨_,_,⟨_,_,_,_,_,_⟩,_,_⟩,_,_,_,_,_,_,_,_,_⟩=>
 bnd (qaw ((bif(decide (((qab.rows a).length:Int)>0))then(decide (((qab.rows a).length:Int)<=64))else false)&&(!(c==9))) (idx a (kwr .i64 (((qab.rows a).length:Int) - 1)))) fun⟨D,_,_,⟨_,_,⟨_,_,_,_,_,_⟩,_,_⟩,_,_,_,_,_,_,_,_,_⟩=>
 bnd (qaw ((bif(decide (((qab.rows a).length:Int)>0))then(decide (((qab.rows a).length:Int)<=64))else false)&&(!(c==9))) (qi1 n D)) fun G=>
 some (bif(bif(decide (((qab.rows a).length:Int)>0))then(decide (((qab.rows a).length:Int)<=64))else false)then(bif(c==9)then true else G)else false))
def qqp (n:Nat) (a:qip):Option (Bool):=
 match a with
 | ⟨b⟩=>
 qam (qmy n b) n (0:Int)
theorem qu8 (n:Nat):∀ (b:qip) (r:Bool),qqp n b=some r->qai TP 19 [PV.agg (qy0.cells b)] (zi8 r):=by
 intro b r h;obtain⟨d⟩:=b;unfold qqp at h;refine zN Tryz.call19 Tryz.func19 [1000000] ?_;conv=>whnf
 refine qbh.fn [1000000] (S:=Int) (fun c=>[(1,.ptr 0 0),(3,.p (.int .i64 ((qab.rows d).length:Int))),(4,pI c)]) (fun c=>[.box 24 [pC d]]) (B:=qmy n d) h (wk [0] []) ?_;intro _ c h;unfold qmy at h;conv=>whnf
 apply ifc h<;>intro l h
 ·conv=>whnf
  refine bq h fun⟨_,_,_,⟨_,_,⟨_,_,_,_,_,_⟩,_,_⟩,_,_,_,_,_,_,_,_,_⟩ g h=>?_;refine⟨_,Codec.at_ qcz g,?_⟩;conv=>whnf
  refine bq h fun _ f h=>?_;refine⟨_,(q3g n _ _ f),?_⟩;conv=>whnf
  refine⟨id,id,id,?_⟩;conv=>whnf
  refine bq h fun⟨_,_,_,⟨_,_,⟨_,_,_,_,_,_⟩,_,_⟩,_,_,_,_,_,_,_,_,_⟩ e h=>?_;refine⟨_,fun a=>Codec.at_ qcz (qac e a),?_⟩;conv=>whnf
  iterate 10 refine⟨id,?_⟩
  conv=>whnf
  apply ifc h<;>intro l h
  ·obtain rfl:=sj h
   conv=>whnf
   try exact fin
  conv=>whnf
  exact⟨(kwr .i64 (c+1)),h,wk [0] []⟩
 conv=>whnf
 iterate 6 refine⟨id,?_⟩
 conv=>whnf
 refine bq h fun⟨_,_,_,⟨_,_,⟨_,_,_,_,_,_⟩,_,_⟩,_,_,_,_,_,_,_,_,_⟩ k h=>?_;refine⟨_,fun a=>Codec.at_ qcz (qac k a),?_⟩;conv=>whnf
 iterate 8 refine⟨id,?_⟩
 conv=>whnf
 refine bq h fun⟨_,_,_,⟨_,_,⟨_,_,_,_,_,_⟩,_,_⟩,_,_,_,_,_,_,_,_,_⟩ j h=>?_;refine⟨_,fun a=>Codec.at_ qcz (qac j a),?_⟩;conv=>whnf
 refine⟨id,id,id,?_⟩;conv=>whnf
 refine bq h fun _ i h=>?_;refine⟨_,fun a=>(qua n _ _ (qac i a)),?_⟩;conv=>whnf
 refine⟨id,id,id,?_⟩;obtain rfl:=sj h;conv=>whnf
 try exact fin
abbrev zer (r:qip×Int×Int):PV:=PV.tup [PV.agg (qy0.cells r.1),PV.int .i64 r.2.1,PV.int .i64 r.2.2]
def qr2 (n:Nat) (d:List qap):Int×Bool×List qab->Option (qip×Int×Int):=fun(e,f,a)=>
 bif f then(
 bnd (idx d e) fun⟨_,_,_,b⟩=>
 some (qip.mk ([]:List qab),b,(1:Int)))
 else(
 bnd (qqp n (qip.mk a)) fun c=>
 bif(!c)then(
 some (qip.mk ([]:List qab),(0:Int),(8:Int)))
 else(
 some (qip.mk a,(0:Int),(0:Int))))
def qvy (n:Nat) (d:List qap):LK (Int×Int×Bool×List qab) (qip×Int×Int):=fun F (e,b,a,c)=>
 bnd (qaw (!a) (idx d b)) fun⟨g,_,_,_⟩=>
 bnd (qaw ((!a)&&(!(g != 6))) (qi1 n e)) fun G=>
 bif(bif(!a)then(bif(g != 6)then true else(bif(!G)then(e != 9)else false))else false)then(
 bif(e==9)then(
 qr2 n d (b,true,c))
 else(
 bnd (qvv n d b a) fun⟨⟨f,i,j,⟨k,l,⟨m,o,p,q,s,t⟩,u,v⟩,w,x,y,z,A,B,C,D,E⟩,H,I⟩=>
 chk (decide ((qab.rows (c++[qab.mk f i j (qaa.mk k l (Val.mk m o p q s t) u v) w x y z A B C D E])).length * 392<=140737488355328)) (
 F (f,H,I,(c++[qab.mk f i j (qaa.mk k l (Val.mk m o p q s t) u v) w x y z A B C D E])))))
 else(
 qr2 n d (b,a,c))
def q2a (n:Nat) (b:SS):Option (qip×Int×Int):=
 bnd (q41 n b) fun⟨c,d,a⟩=>
 bif(a != 0)then(
 some (qip.mk ([]:List qab),d,a))
 else(
 qam (qvy n c) n ((0:Int),(0:Int),false,([]:List _)))
set_option maxHeartbeats 4000000 in
theorem zbe (n:Nat):∀ (I:SS) (r:qip×Int×Int),q2a n I=some r->qai TP 23 [PV.str I] (zer r):=by
 intro I r h;unfold q2a at h;refine zN Tryz.call23 Tryz.func23 [47,40000014,50000002,60004000,1000000] ?_;conv=>whnf
 refine bq h fun⟨D,_,_⟩ V h=>?_;refine⟨_,(zdr n _ _ V),?_⟩;conv=>whnf
 apply ifc h<;>intro E h
 ·obtain rfl:=sj h
  conv=>whnf
  try exact fin
 conv=>whnf
 refine qhd.cut (S:=Int×Bool×List qab) (fun(K,L,G)=>[(2,.ptr 0 0),(8,.ptr 1 0),(9,.ptr 2 0)]) (fun(K,L,G)=>[.box 24 [zq2],.box 113 [pK D,pI K,pB L],.box 24 [.tsl 3 (qab.rows G)],.tail 51 22 (qab.rows G).length]) (qr2 n D) (r:=r) ?_ ?_
 ·intro st h
  obtain⟨K,L,G⟩:=st;unfold qr2 at h;conv=>whnf
  apply ifc h<;>intro E h
  ·conv=>whnf
   refine bq h fun⟨_,_,_,_⟩ P h=>?_;refine⟨_,Codec.at_ qsv P,?_⟩;obtain rfl:=sj h;conv=>whnf
   try exact fin
  conv=>whnf
  refine bq h fun _ Q h=>?_;refine⟨_,(qu8 n _ _ Q),?_⟩;conv=>whnf
  apply ifc h<;>intro E h
  ·obtain rfl:=sj h
   conv=>whnf
   try exact fin
  obtain rfl:=sj h;conv=>whnf
  try exact fin
 conv=>whnf
 refine qbh.fn [47,40000014,50000002,60004000,1000000] (S:=Int×Int×Bool×List qab) (fun(J,C,F,a)=>[(2,.ptr 0 0),(8,.ptr 1 0),(9,.ptr 2 0),(10,pI J)]) (fun(J,C,F,a)=>[.box 24 [zq2],.box 113 [pK D,pI C,pB F],.box 24 [.tsl 3 (qab.rows a)],.tail 51 22 (qab.rows a).length]) (B:=qvy n D) h (wk [0,1,2,0] [3]) ?_;intro _ st h;obtain⟨J,C,F,a⟩:=st;unfold qvy at h;conv=>whnf
 iterate 8 refine⟨id,?_⟩
 conv=>whnf
 refine bq h fun⟨_,_,_,_⟩ U h=>?_;refine⟨_,fun H=>Codec.at_ qsv (qac U H),?_⟩;conv=>whnf
 refine⟨id,id,id,id,id,?_⟩;conv=>whnf
 refine bq h fun _ T h=>?_;refine⟨_,fun H=>(qua n _ _ (qac T H)),?_⟩;conv=>whnf
 iterate 8 refine⟨id,?_⟩
 conv=>whnf
 apply ifc h<;>intro E h
 ·conv=>whnf
  apply ifc h<;>intro E h
  ·conv=>whnf
   exact⟨(C,true,a),h,wk [0,1,2,3] []⟩
  conv=>whnf
  refine bq h fun⟨⟨b,c,d,⟨e,f,⟨g,i,j,k,l,m⟩,o,q⟩,s,t,u,v,w,x,y,z,A⟩,N,O⟩ R h=>?_;refine qcq (q44 n _ _ _ _ R) [1] [] ?_;rintro _ _ ⟨rfl,rfl⟩;refine⟨.p (.agg [.int .i64 b,.sl (qa9.rows c),.sl (qaa.rows d),.int .i64 e,.str f,.int .i64 g,.bool i,.int .i64 j,.str k,.sl (Val.rows l),.sl (qak m),.sl (qak o),.sl (qaa.rows q),.str s,.sl (qbn.rows t),.bool u,.sl (qat.rows v),.sl (qaa.rows w),.sl (qaa.rows x),.sl (qaf.rows y),.sl (qak z),.bool A]),[.box 24 [zq2],.box 113 [pK D,pI N,pB O],.box 24 [.tsl 3 (qab.rows a)],.tail 51 22 (qab.rows a).length],rfl,rfl,?_⟩;conv=>whnf
  refine⟨Codec.one qcz [qab.mk b c d (qaa.mk e f (Val.mk g i j k l m) o q) s t u v w x y z A],qab.rows [qab.mk b c d (qaa.mk e f (Val.mk g i j k l m) o q) s t u v w x y z A],.inl rfl,?_⟩;conv=>whnf
  rw[show qab.rows a++qab.rows [qab.mk b c d (qaa.mk e f (Val.mk g i j k l m) o q) s t u v w x y z A]=qab.rows (a++[qab.mk b c d (qaa.mk e f (Val.mk g i j k l m) o q) s t u v w x y z A])from Codec.append qcz a [qab.mk b c d (qaa.mk e f (Val.mk g i j k l m) o q) s t u v w x y z A]];conv=>whnf
  obtain⟨M,h⟩:=qah h;refine⟨⟨Codec.wide qcz (a++[qab.mk b c d (qaa.mk e f (Val.mk g i j k l m) o q) s t u v w x y z A]),kod M,qb5 M (by decide)⟩,?_⟩;conv=>whnf
  refine⟨⟨rfl,rfl,rfl⟩,?_⟩;conv=>whnf
  exact⟨(b,N,O,(a++[qab.mk b c d (qaa.mk e f (Val.mk g i j k l m) o q) s t u v w x y z A])),h,wk [0,1,2,5] []⟩
 conv=>whnf
 exact⟨(C,F,a),h,wk [0,1,2,3] []⟩
abbrev q7q (r:Bool):PV:=PV.bool r
def qr3 (n:Nat) (a:Int):Option (Bool):=
 some (bif(decide (a≥4))then(decide (a<=8))else false)
theorem q49 (n:Nat):∀ (a:Int) (r:Bool),qr3 n a=some r->qai TP 84 [PV.int .i64 a] (q7q r):=by
 intro a r h;unfold qr3 at h;refine zN Tryz.call84 Tryz.func84 [1000000] ?_;conv=>whnf
 refine⟨id,id,?_⟩;obtain rfl:=sj h;conv=>whnf
 try exact fin
abbrev q2m (r:qb4):PV:=(PV.ifc (qb4.tid r) (qb4.val r))
def qn6 (n:Nat) (a:qa9):Option (qb4):=
 match a with
 | ⟨b,c⟩=>
 some (qb4.path (qa9.mk b c))
theorem q0x (n:Nat):∀ (a:qa9) (r:qb4),qn6 n a=some r->qai TP 126 [PV.agg (qlh.cells a)] (q2m r):=by
 intro a r h;obtain⟨_,_⟩:=a;unfold qn6 at h;refine zN Tryz.call126 Tryz.func126 [1000000] ?_;obtain rfl:=sj h;conv=>whnf
 try exact fin
abbrev qoj (r:List qb4):PV:=PV.sl (qb4.rows r)
def qb2 (n:Nat) (c:List qa9):LK (List qb4×Int) (List qb4):=fun e (a,b)=>
 bif(decide (b<((qa9.rows c).length:Int)))then(
 bnd (idx c b) fun⟨f,g⟩=>
 bnd (qn6 n (qa9.mk f g)) fun d=>
 chk (decide ((qb4.rows (a++[d])).length * 16<=140737488355328)) (
 e ((a++[d]),(kwr .i64 (b+1)))))
 else(
 some a)
def qdw (n:Nat) (a:List qa9):Option (List qb4):=
 qam (qb2 n a) n (([]:List _),(0:Int))
theorem qne (n:Nat):∀ (c:List qa9) (r:List qb4),qdw n c=some r->qai TP 125 [PV.sl (qa9.rows c),PV.fn 126] (qoj r):=by
 intro c r h;unfold qdw at h;refine zN Tryz.call125 Tryz.func125 [1000000] ?_;conv=>whnf
 refine qbh.fn [1000000] (S:=List qb4×Int) (fun(a,d)=>[(1,.p (.fn 126)),(5,.tsl 0 (qb4.rows a)),(8,pP c),(9,.p (.int .i64 ((qa9.rows c).length:Int))),(10,pI d)]) (fun(a,d)=>[.tail 156 1 (qb4.rows a).length]) (B:=qb2 n c) h (wk [0] [0]) ?_;intro _ st h;obtain⟨a,d⟩:=st;unfold qb2 at h;conv=>whnf
 apply ifc h<;>intro _ h
 ·conv=>whnf
  refine bq h fun⟨_,_⟩ g h=>?_;refine⟨_,Codec.at_ qlh g,?_⟩;conv=>whnf
  refine bq h fun b f h=>?_;refine⟨_,(q0x n _ _ f),?_⟩;conv=>whnf
  refine⟨Codec.one qrx [b],qb4.rows [b],.inl rfl,?_⟩;conv=>whnf
  rw[show qb4.rows a++qb4.rows [b]=qb4.rows (a++[b])from Codec.append qrx a [b]];conv=>whnf
  obtain⟨e,h⟩:=qah h;refine⟨⟨Codec.wide qrx (a++[b]),kod e,qb5 e (by decide)⟩,?_⟩;conv=>whnf
  refine⟨⟨rfl,rfl,rfl⟩,?_⟩;conv=>whnf
  exact⟨((a++[b]),(kwr .i64 (d+1))),h,wk [2] []⟩
 obtain rfl:=sj h;conv=>whnf
 try exact fin
abbrev q2n (r:qb4):PV:=(PV.ifc (qb4.tid r) (qb4.val r))
def qn7 (n:Nat) (a:qaa):Option (qb4):=
 match a with
 | ⟨b,d,⟨e,f,g,i,j,k⟩,l,c⟩=>
 some (qb4.expr (qaa.mk b d (Val.mk e f g i j k) l c))
theorem q0y (n:Nat):∀ (a:qaa) (r:qb4),qn7 n a=some r->qai TP 128 [PV.agg (qck.cells a)] (q2n r):=by
 intro a r h;obtain⟨_,_,⟨_,_,_,_,_,_⟩,_,_⟩:=a;unfold qn7 at h;refine zN Tryz.call128 Tryz.func128 [1000000] ?_;obtain rfl:=sj h;conv=>whnf
 try exact fin
abbrev qof (r:List qb4):PV:=PV.sl (qb4.rows r)
def qby (n:Nat) (c:List qaa):LK (List qb4×Int) (List qb4):=fun e (a,b)=>
 bif(decide (b<((qaa.rows c).length:Int)))then(
 bnd (idx c b) fun⟨k,l,⟨m,o,p,q,f,g⟩,i,j⟩=>
 bnd (qn7 n (qaa.mk k l (Val.mk m o p q f g) i j)) fun d=>
 chk (decide ((qb4.rows (a++[d])).length * 16<=140737488355328)) (
 e ((a++[d]),(kwr .i64 (b+1)))))
 else(
 some a)
def qds (n:Nat) (a:List qaa):Option (List qb4):=
 qam (qby n a) n (([]:List _),(0:Int))
theorem qna (n:Nat):∀ (c:List qaa) (r:List qb4),qds n c=some r->qai TP 127 [PV.sl (qaa.rows c),PV.fn 128] (qof r):=by
 intro c r h;unfold qds at h;refine zN Tryz.call127 Tryz.func127 [1000000] ?_;conv=>whnf
 refine qbh.fn [1000000] (S:=List qb4×Int) (fun(a,d)=>[(1,.p (.fn 128)),(5,.tsl 0 (qb4.rows a)),(8,pE c),(9,.p (.int .i64 ((qaa.rows c).length:Int))),(10,pI d)]) (fun(a,d)=>[.tail 156 1 (qb4.rows a).length]) (B:=qby n c) h (wk [0] [0]) ?_;intro _ st h;obtain⟨a,d⟩:=st;unfold qby at h;conv=>whnf
 apply ifc h<;>intro _ h
 ·conv=>whnf
  refine bq h fun⟨_,_,⟨_,_,_,_,_,_⟩,_,_⟩ g h=>?_;refine⟨_,Codec.at_ qck g,?_⟩;conv=>whnf
  refine bq h fun b f h=>?_;refine⟨_,(q0y n _ _ f),?_⟩;conv=>whnf
  refine⟨Codec.one qrx [b],qb4.rows [b],.inl rfl,?_⟩;conv=>whnf
  rw[show qb4.rows a++qb4.rows [b]=qb4.rows (a++[b])from Codec.append qrx a [b]];conv=>whnf
  obtain⟨e,h⟩:=qah h;refine⟨⟨Codec.wide qrx (a++[b]),kod e,qb5 e (by decide)⟩,?_⟩;conv=>whnf
  refine⟨⟨rfl,rfl,rfl⟩,?_⟩;conv=>whnf
  exact⟨((a++[b]),(kwr .i64 (d+1))),h,wk [2] []⟩
 obtain rfl:=sj h;conv=>whnf
 try exact fin
abbrev q2o (r:qb4):PV:=(PV.ifc (qb4.tid r) (qb4.val r))
def qn8 (n:Nat) (a:qbn):Option (qb4):=
 match a with
 | ⟨⟨b,e,⟨f,g,i,j,k,l⟩,m,c⟩,d⟩=>
 some (qb4.item (qbn.mk (qaa.mk b e (Val.mk f g i j k l) m c) d))
theorem q0z (n:Nat):∀ (a:qbn) (r:qb4),qn8 n a=some r->qai TP 130 [PV.agg (qst.cells a)] (q2o r):=by
 intro a r h;obtain⟨⟨_,_,⟨_,_,_,_,_,_⟩,_,_⟩,_⟩:=a;unfold qn8 at h;refine zN Tryz.call130 Tryz.func130 [1000000] ?_;obtain rfl:=sj h;conv=>whnf
 try exact fin
abbrev qoi (r:List qb4):PV:=PV.sl (qb4.rows r)
def qb1 (n:Nat) (c:List qbn):LK (List qb4×Int) (List qb4):=fun e (a,b)=>
 bif(decide (b<((qbn.rows c).length:Int)))then(
 bnd (idx c b) fun⟨⟨l,m,⟨o,p,q,s,f,g⟩,i,j⟩,k⟩=>
 bnd (qn8 n (qbn.mk (qaa.mk l m (Val.mk o p q s f g) i j) k)) fun d=>
 chk (decide ((qb4.rows (a++[d])).length * 16<=140737488355328)) (
 e ((a++[d]),(kwr .i64 (b+1)))))
 else(
 some a)
def qdv (n:Nat) (a:List qbn):Option (List qb4):=
 qam (qb1 n a) n (([]:List _),(0:Int))
theorem qnd (n:Nat):∀ (c:List qbn) (r:List qb4),qdv n c=some r->qai TP 129 [PV.sl (qbn.rows c),PV.fn 130] (qoi r):=by
 intro c r h;unfold qdv at h;refine zN Tryz.call129 Tryz.func129 [1000000] ?_;conv=>whnf
 refine qbh.fn [1000000] (S:=List qb4×Int) (fun(a,d)=>[(1,.p (.fn 130)),(5,.tsl 0 (qb4.rows a)),(8,pA c),(9,.p (.int .i64 ((qbn.rows c).length:Int))),(10,pI d)]) (fun(a,d)=>[.tail 156 1 (qb4.rows a).length]) (B:=qb1 n c) h (wk [0] [0]) ?_;intro _ st h;obtain⟨a,d⟩:=st;unfold qb1 at h;conv=>whnf
 apply ifc h<;>intro _ h
 ·conv=>whnf
  refine bq h fun⟨⟨_,_,⟨_,_,_,_,_,_⟩,_,_⟩,_⟩ g h=>?_;refine⟨_,Codec.at_ qst g,?_⟩;conv=>whnf
  refine bq h fun b f h=>?_;refine⟨_,(q0z n _ _ f),?_⟩;conv=>whnf
  refine⟨Codec.one qrx [b],qb4.rows [b],.inl rfl,?_⟩;conv=>whnf
  rw[show qb4.rows a++qb4.rows [b]=qb4.rows (a++[b])from Codec.append qrx a [b]];conv=>whnf
  obtain⟨e,h⟩:=qah h;refine⟨⟨Codec.wide qrx (a++[b]),kod e,qb5 e (by decide)⟩,?_⟩;conv=>whnf
  refine⟨⟨rfl,rfl,rfl⟩,?_⟩;conv=>whnf
  exact⟨((a++[b]),(kwr .i64 (d+1))),h,wk [2] []⟩
 obtain rfl:=sj h;conv=>whnf
 try exact fin
abbrev q2p (r:qb4):PV:=(PV.ifc (qb4.tid r) (qb4.val r))
def qn9 (n:Nat) (a:qat):Option (qb4):=
 match a with
 | ⟨⟨b,e,⟨f,g,i,j,k,l⟩,m,c⟩,d⟩=>
 some (qb4.sorted (qat.mk (qaa.mk b e (Val.mk f g i j k l) m c) d))
theorem q00 (n:Nat):∀ (a:qat) (r:qb4),qn9 n a=some r->qai TP 132 [PV.agg (qqf.cells a)] (q2p r):=by
 intro a r h;obtain⟨⟨_,_,⟨_,_,_,_,_,_⟩,_,_⟩,_⟩:=a;unfold qn9 at h;refine zN Tryz.call132 Tryz.func132 [1000000] ?_;obtain rfl:=sj h;conv=>whnf
 try exact fin
abbrev qok (r:List qb4):PV:=PV.sl (qb4.rows r)
def qb3 (n:Nat) (c:List qat):LK (List qb4×Int) (List qb4):=fun e (a,b)=>
 bif(decide (b<((qat.rows c).length:Int)))then(
 bnd (idx c b) fun⟨⟨l,m,⟨o,p,q,s,f,g⟩,i,j⟩,k⟩=>
 bnd (qn9 n (qat.mk (qaa.mk l m (Val.mk o p q s f g) i j) k)) fun d=>
 chk (decide ((qb4.rows (a++[d])).length * 16<=140737488355328)) (
 e ((a++[d]),(kwr .i64 (b+1)))))
 else(
 some a)
def qdx (n:Nat) (a:List qat):Option (List qb4):=
 qam (qb3 n a) n (([]:List _),(0:Int))
theorem qnf (n:Nat):∀ (c:List qat) (r:List qb4),qdx n c=some r->qai TP 131 [PV.sl (qat.rows c),PV.fn 132] (qok r):=by
 intro c r h;unfold qdx at h;refine zN Tryz.call131 Tryz.func131 [1000000] ?_;conv=>whnf
 refine qbh.fn [1000000] (S:=List qb4×Int) (fun(a,d)=>[(1,.p (.fn 132)),(5,.tsl 0 (qb4.rows a)),(8,pO c),(9,.p (.int .i64 ((qat.rows c).length:Int))),(10,pI d)]) (fun(a,d)=>[.tail 156 1 (qb4.rows a).length]) (B:=qb3 n c) h (wk [0] [0]) ?_;intro _ st h;obtain⟨a,d⟩:=st;unfold qb3 at h;conv=>whnf
 apply ifc h<;>intro _ h
 ·conv=>whnf
  refine bq h fun⟨⟨_,_,⟨_,_,_,_,_,_⟩,_,_⟩,_⟩ g h=>?_;refine⟨_,Codec.at_ qqf g,?_⟩;conv=>whnf
  refine bq h fun b f h=>?_;refine⟨_,(q00 n _ _ f),?_⟩;conv=>whnf
  refine⟨Codec.one qrx [b],qb4.rows [b],.inl rfl,?_⟩;conv=>whnf
  rw[show qb4.rows a++qb4.rows [b]=qb4.rows (a++[b])from Codec.append qrx a [b]];conv=>whnf
  obtain⟨e,h⟩:=qah h;refine⟨⟨Codec.wide qrx (a++[b]),kod e,qb5 e (by decide)⟩,?_⟩;conv=>whnf
  refine⟨⟨rfl,rfl,rfl⟩,?_⟩;conv=>whnf
  exact⟨((a++[b]),(kwr .i64 (d+1))),h,wk [2] []⟩
 obtain rfl:=sj h;conv=>whnf
 try exact fin
abbrev q2q (r:qb4):PV:=(PV.ifc (qb4.tid r) (qb4.val r))
def qoa (n:Nat) (a:qaa):Option (qb4):=
 match a with
 | ⟨b,d,⟨e,f,g,i,j,k⟩,l,c⟩=>
 some (qb4.expr (qaa.mk b d (Val.mk e f g i j k) l c))
theorem q01 (n:Nat):∀ (a:qaa) (r:qb4),qoa n a=some r->qai TP 133 [PV.agg (qck.cells a)] (q2q r):=by
 intro a r h;obtain⟨_,_,⟨_,_,_,_,_,_⟩,_,_⟩:=a;unfold qoa at h;refine zN Tryz.call133 Tryz.func133 [1000000] ?_;obtain rfl:=sj h;conv=>whnf
 try exact fin
abbrev qog (r:List qb4):PV:=PV.sl (qb4.rows r)
def qbz (n:Nat) (c:List qaa):LK (List qb4×Int) (List qb4):=fun e (a,b)=>
 bif(decide (b<((qaa.rows c).length:Int)))then(
 bnd (idx c b) fun⟨k,l,⟨m,o,p,q,f,g⟩,i,j⟩=>
 bnd (qoa n (qaa.mk k l (Val.mk m o p q f g) i j)) fun d=>
 chk (decide ((qb4.rows (a++[d])).length * 16<=140737488355328)) (
 e ((a++[d]),(kwr .i64 (b+1)))))
 else(
 some a)
def qdt (n:Nat) (a:List qaa):Option (List qb4):=
 qam (qbz n a) n (([]:List _),(0:Int))
theorem qnb (n:Nat):∀ (c:List qaa) (r:List qb4),qdt n c=some r->qai TP 127 [PV.sl (qaa.rows c),PV.fn 133] (qog r):=by
 intro c r h;unfold qdt at h;refine zN Tryz.call127 Tryz.func127 [1000000] ?_;conv=>whnf
 refine qbh.fn [1000000] (S:=List qb4×Int) (fun(a,d)=>[(1,.p (.fn 133)),(5,.tsl 0 (qb4.rows a)),(8,pE c),(9,.p (.int .i64 ((qaa.rows c).length:Int))),(10,pI d)]) (fun(a,d)=>[.tail 156 1 (qb4.rows a).length]) (B:=qbz n c) h (wk [0] [0]) ?_;intro _ st h;obtain⟨a,d⟩:=st;unfold qbz at h;conv=>whnf
 apply ifc h<;>intro _ h
 ·conv=>whnf
  refine bq h fun⟨_,_,⟨_,_,_,_,_,_⟩,_,_⟩ g h=>?_;refine⟨_,Codec.at_ qck g,?_⟩;conv=>whnf
  refine bq h fun b f h=>?_;refine⟨_,(q01 n _ _ f),?_⟩;conv=>whnf
  refine⟨Codec.one qrx [b],qb4.rows [b],.inl rfl,?_⟩;conv=>whnf
  rw[show qb4.rows a++qb4.rows [b]=qb4.rows (a++[b])from Codec.append qrx a [b]];conv=>whnf
  obtain⟨e,h⟩:=qah h;refine⟨⟨Codec.wide qrx (a++[b]),kod e,qb5 e (by decide)⟩,?_⟩;conv=>whnf
  refine⟨⟨rfl,rfl,rfl⟩,?_⟩;conv=>whnf
  exact⟨((a++[b]),(kwr .i64 (d+1))),h,wk [2] []⟩
 obtain rfl:=sj h;conv=>whnf
 try exact fin
abbrev q2r (r:qb4):PV:=(PV.ifc (qb4.tid r) (qb4.val r))
def qob (n:Nat) (a:qaa):Option (qb4):=
 match a with
 | ⟨b,d,⟨e,f,g,i,j,k⟩,l,c⟩=>
 some (qb4.expr (qaa.mk b d (Val.mk e f g i j k) l c))
theorem q02 (n:Nat):∀ (a:qaa) (r:qb4),qob n a=some r->qai TP 134 [PV.agg (qck.cells a)] (q2r r):=by
 intro a r h;obtain⟨_,_,⟨_,_,_,_,_,_⟩,_,_⟩:=a;unfold qob at h;refine zN Tryz.call134 Tryz.func134 [1000000] ?_;obtain rfl:=sj h;conv=>whnf
 try exact fin
abbrev qoh (r:List qb4):PV:=PV.sl (qb4.rows r)
def qb0 (n:Nat) (c:List qaa):LK (List qb4×Int) (List qb4):=fun e (a,b)=>
 bif(decide (b<((qaa.rows c).length:Int)))then(
 bnd (idx c b) fun⟨k,l,⟨m,o,p,q,f,g⟩,i,j⟩=>
 bnd (qob n (qaa.mk k l (Val.mk m o p q f g) i j)) fun d=>
 chk (decide ((qb4.rows (a++[d])).length * 16<=140737488355328)) (
 e ((a++[d]),(kwr .i64 (b+1)))))
 else(
 some a)
def qdu (n:Nat) (a:List qaa):Option (List qb4):=
 qam (qb0 n a) n (([]:List _),(0:Int))
theorem qnc (n:Nat):∀ (c:List qaa) (r:List qb4),qdu n c=some r->qai TP 127 [PV.sl (qaa.rows c),PV.fn 134] (qoh r):=by
 intro c r h;unfold qdu at h;refine zN Tryz.call127 Tryz.func127 [1000000] ?_;conv=>whnf
 refine qbh.fn [1000000] (S:=List qb4×Int) (fun(a,d)=>[(1,.p (.fn 134)),(5,.tsl 0 (qb4.rows a)),(8,pE c),(9,.p (.int .i64 ((qaa.rows c).length:Int))),(10,pI d)]) (fun(a,d)=>[.tail 156 1 (qb4.rows a).length]) (B:=qb0 n c) h (wk [0] [0]) ?_;intro _ st h;obtain⟨a,d⟩:=st;unfold qb0 at h;conv=>whnf
 apply ifc h<;>intro _ h
 ·conv=>whnf
  refine bq h fun⟨_,_,⟨_,_,_,_,_,_⟩,_,_⟩ g h=>?_;refine⟨_,Codec.at_ qck g,?_⟩;conv=>whnf
  refine bq h fun b f h=>?_;refine⟨_,(q02 n _ _ f),?_⟩;conv=>whnf
  refine⟨Codec.one qrx [b],qb4.rows [b],.inl rfl,?_⟩;conv=>whnf
  rw[show qb4.rows a++qb4.rows [b]=qb4.rows (a++[b])from Codec.append qrx a [b]];conv=>whnf
  obtain⟨e,h⟩:=qah h;refine⟨⟨Codec.wide qrx (a++[b]),kod e,qb5 e (by decide)⟩,?_⟩;conv=>whnf
  refine⟨⟨rfl,rfl,rfl⟩,?_⟩;conv=>whnf
  exact⟨((a++[b]),(kwr .i64 (d+1))),h,wk [2] []⟩
 obtain rfl:=sj h;conv=>whnf
 try exact fin
abbrev q2s (r:qb4):PV:=(PV.ifc (qb4.tid r) (qb4.val r))
def qoc (n:Nat) (a:SS):Option (qb4):=
 some (qb4.name a)
theorem q03 (n:Nat):∀ (a:SS) (r:qb4),qoc n a=some r->qai TP 136 [PV.str a] (q2s r):=by
 intro a r h;unfold qoc at h;refine zN Tryz.call136 Tryz.func136 [1000000] ?_;obtain rfl:=sj h;conv=>whnf
 try exact fin
abbrev qo3 (r:List qb4):PV:=PV.sl (qb4.rows r)
def qcb (n:Nat) (c:List SS):LK (List qb4×Int) (List qb4):=fun e (a,b)=>
 bif(decide (b<((qak c).length:Int)))then(
 bnd (idx c b) fun f=>
 bnd (qoc n f) fun d=>
 chk (decide ((qb4.rows (a++[d])).length * 16<=140737488355328)) (
 e ((a++[d]),(kwr .i64 (b+1)))))
 else(
 some a)
def qd4 (n:Nat) (a:List SS):Option (List qb4):=
 qam (qcb n a) n (([]:List _),(0:Int))
theorem qon (n:Nat):∀ (c:List SS) (r:List qb4),qd4 n c=some r->qai TP 135 [PV.sl (qak c),PV.fn 136] (qo3 r):=by
 intro c r h;unfold qd4 at h;refine zN Tryz.call135 Tryz.func135 [1000000] ?_;conv=>whnf
 refine qbh.fn [1000000] (S:=List qb4×Int) (fun(a,d)=>[(1,.p (.fn 136)),(5,.tsl 0 (qb4.rows a)),(8,pT c),(9,.p (.int .i64 ((qak c).length:Int))),(10,pI d)]) (fun(a,d)=>[.tail 156 1 (qb4.rows a).length]) (B:=qcb n c) h (wk [0] [0]) ?_;intro _ st h;obtain⟨a,d⟩:=st;unfold qcb at h;conv=>whnf
 apply ifc h<;>intro _ h
 ·conv=>whnf
  refine bq h fun _ g h=>?_;refine⟨_,Codec.at_ qpr g,?_⟩;conv=>whnf
  refine bq h fun b f h=>?_;refine⟨_,(q03 n _ _ f),?_⟩;conv=>whnf
  refine⟨Codec.one qrx [b],qb4.rows [b],.inl rfl,?_⟩;conv=>whnf
  rw[show qb4.rows a++qb4.rows [b]=qb4.rows (a++[b])from Codec.append qrx a [b]];conv=>whnf
  obtain⟨e,h⟩:=qah h;refine⟨⟨Codec.wide qrx (a++[b]),kod e,qb5 e (by decide)⟩,?_⟩;conv=>whnf
  refine⟨⟨rfl,rfl,rfl⟩,?_⟩;conv=>whnf
  exact⟨((a++[b]),(kwr .i64 (d+1))),h,wk [1] []⟩
 obtain rfl:=sj h;conv=>whnf
 try exact fin
abbrev q2t (_:Int) (_:List qa9) (_:List qaa) (_:Int) (_:SS) (_:Int) (_:Bool) (_:Int) (_:SS) (_:List Val) (_ _:List SS) (_:List qaa) (_:SS) (_:List qbn) (_:Bool) (_:List qat) (_ _:List qaa) (_:List qaf) (_:List SS) (_:Bool) (r:qb4):FV:=.p ((PV.ifc (qb4.tid r) (qb4.val r)))
abbrev q2i (a:Int) (b:List qa9) (c:List qaa) (d:Int) (e:SS) (f:Int) (g:Bool) (i:Int) (j:SS) (k:List Val) (l m:List SS) (o:List qaa) (p:SS) (q:List qbn) (s:Bool) (t:List qat) (u v:List qaa) (w:List qaf) (x:List SS) (y:Bool) (r:qb4):List AObj:=[.box 51 [pI a,pP b,pE c,pI d,pS e,pI f,pB g,pI i,pS j,pV k,pT l,pT m,pE o,pS p,pA q,pB s,pO t,pE u,pE v,pU w,pT x,pB y]]
def qod (n:Nat) (a:qaf) (g:Int) (_:List qa9) (_:List qaa) (_:Int) (_:SS) (_:Int) (_:Bool) (_:Int) (_:SS) (_:List Val) (_ _:List SS) (_:List qaa) (_:SS) (_:List qbn) (_:Bool) (_:List qat) (_ _:List qaa) (_:List qaf) (_:List SS) (_:Bool):Option (qb4):=
 match a with
 | ⟨b,i,j,⟨k,l,⟨m,o,p,q,c,d⟩,e,f⟩⟩=>
 some (qb4.change (qu6.mk (qaf.mk b i j (qaa.mk k l (Val.mk m o p q c d) e f)) (g==6)))
theorem q04 (n:Nat):∀ (B:qaf) (a:Int) (b:List qa9) (c:List qaa) (d:Int) (e:SS) (f:Int) (g:Bool) (i:Int) (j:SS) (k:List Val) (l m:List SS) (o:List qaa) (q:SS) (s:List qbn) (t:Bool) (u:List qat) (w x:List qaa) (y:List qaf) (z:List SS) (A:Bool) (r:qb4),qod n B a b c d e f g i j k l m o q s t u w x y z A=some r->qbq TP 138 [.p (PV.agg (qjo.cells B)),.ptr 0 0] [.box 51 [pI a,pP b,pE c,pI d,pS e,pI f,pB g,pI i,pS j,pV k,pT l,pT m,pE o,pS q,pA s,pB t,pO u,pE w,pE x,pU y,pT z,pB A]] 1 (fun v lo=>v=q2t a b c d e f g i j k l m o q s t u w x y z A r/\lo=q2i a b c d e f g i j k l m o q s t u w x y z A r):=by
 intro B a b c d e f g i j k l m o q s t u w x y z A r h;obtain⟨_,_,_,⟨_,_,⟨_,_,_,_,_,_⟩,_,_⟩⟩:=B;unfold qod at h;refine zO Tryz.call138 Tryz.func138 [1000000] ?_;obtain rfl:=sj h;conv=>whnf
 refine⟨_,_,⟨rfl,rfl⟩,wk [0] []⟩
abbrev qmi (_:Int) (_:List qa9) (_:List qaa) (_:Int) (_:SS) (_:Int) (_:Bool) (_:Int) (_:SS) (_:List Val) (_ _:List SS) (_:List qaa) (_:SS) (_:List qbn) (_:Bool) (_:List qat) (_ _:List qaa) (_:List qaf) (_:List SS) (_:Bool) (r:(List qb4)):FV:=.p (.sl (qb4.rows r))
abbrev qmh (l:Int) (s:List qa9) (t:List qaa) (u:Int) (v:SS) (w:Int) (x:Bool) (y:Int) (a:SS) (b:List Val) (c d:List SS) (e:List qaa) (f:SS) (g:List qbn) (i:Bool) (j:List qat) (k m:List qaa) (o:List qaf) (p:List SS) (q:Bool) (r:(List qb4)):List AObj:=[.box 51 [pI l,pP s,pE t,pI u,pS v,pI w,pB x,pI y,pS a,pV b,pT c,pT d,pE e,pS f,pA g,pB i,pO j,pE k,pE m,pU o,pT p,pB q]]
def qbo (n:Nat) (c:List qaf) (s:Int) (B:List qa9) (L:List qaa) (M:Int) (N:SS) (O:Int) (P:Bool) (Q:Int) (f:SS) (g:List Val) (i j:List SS) (k:List qaa) (l:SS) (m:List qbn) (o:Bool) (p:List qat) (q t:List qaa) (u:List qaf) (v:List SS) (w:Bool):LK (List qb4×Int) ((List qb4)):=fun e (a,b)=>
 bif(decide (b<((qaf.rows c).length:Int)))then(
 bnd (idx c b) fun⟨x,y,z,⟨A,C,⟨D,E,F,G,H,I⟩,J,K⟩⟩=>
 bnd (qod n (qaf.mk x y z (qaa.mk A C (Val.mk D E F G H I) J K)) s B L M N O P Q f g i j k l m o p q t u v w) fun d=>
 chk (decide ((qb4.rows (a++[d])).length * 16<=140737488355328)) (
 e ((a++[d]),(kwr .i64 (b+1)))))
 else(
 some a)
def qdf (n:Nat) (a:List qaf) (m:Int) (t:List qa9) (u:List qaa) (v:Int) (w:SS) (x:Int) (y:Bool) (z:Int) (b:SS) (c:List Val) (d e:List SS) (f:List qaa) (g:SS) (i:List qbn) (j:Bool) (k:List qat) (l o:List qaa) (p:List qaf) (q:List SS) (s:Bool):Option ((List qb4)):=
 qam (qbo n a m t u v w x y z b c d e f g i j k l o p q s) n (([]:List _),(0:Int))
theorem qlp (n:Nat):∀ (E:List qaf) (o:Int) (w:List qa9) (x:List qaa) (y:Int) (z:SS) (A:Int) (C:Bool) (D:Int) (c:SS) (d:List Val) (e f:List SS) (g:List qaa) (i:SS) (j:List qbn) (k:Bool) (l:List qat) (m q:List qaa) (s:List qaf) (t:List SS) (u:Bool) (r:(List qb4)),qdf n E o w x y z A C D c d e f g i j k l m q s t u=some r->qbq TP 137 [.p (PV.sl (qaf.rows E)),.clo 138 (.cap (.ptr 0 0) (.cap0))] [.box 51 [pI o,pP w,pE x,pI y,pS z,pI A,pB C,pI D,pS c,pV d,pT e,pT f,pE g,pS i,pA j,pB k,pO l,pE m,pE q,pU s,pT t,pB u]] 1 (fun v lo=>v=qmi o w x y z A C D c d e f g i j k l m q s t u r/\lo=qmh o w x y z A C D c d e f g i j k l m q s t u r):=by
 intro E o w x y z A C D c d e f g i j k l m q s t u r h;unfold qdf at h;refine zO Tryz.call137 Tryz.func137 [20000015,1000000] ?_;conv=>whnf
 refine qbh.fn [20000015,1000000] (S:=List qb4×Int) (fun(a,F)=>[(1,.clo 138 (.cap (.ptr 0 0) (.cap0))),(5,.tsl 1 (qb4.rows a)),(8,pU E),(9,.p (.int .i64 ((qaf.rows E).length:Int))),(10,pI F)]) (fun(a,F)=>[.box 51 [pI o,pP w,pE x,pI y,pS z,pI A,pB C,pI D,pS c,pV d,pT e,pT f,pE g,pS i,pA j,pB k,pO l,pE m,pE q,pU s,pT t,pB u],.tail 156 1 (qb4.rows a).length]) (B:=qbo n E o w x y z A C D c d e f g i j k l m q s t u) h (wk [0,0] [1]) ?_;intro _ st h;obtain⟨a,F⟩:=st;unfold qbo at h;conv=>whnf
 apply ifc h<;>intro _ h
 ·conv=>whnf
  refine bq h fun⟨J,K,L,⟨M,N,⟨O,P,Q,R,T,U⟩,V,W⟩⟩ I h=>?_;refine⟨_,Codec.at_ qjo I,?_⟩;conv=>whnf
  refine bq h fun b H h=>?_;refine qcq (q04 n _ _ _ _ _ _ _ _ _ _ _ _ _ _ _ _ _ _ _ _ _ _ _ _ H) [0] [] ?_;rintro _ _ ⟨rfl,rfl⟩;refine⟨.p ((PV.ifc (qb4.tid b) (qb4.val b))),[.box 51 [pI o,pP w,pE x,pI y,pS z,pI A,pB C,pI D,pS c,pV d,pT e,pT f,pE g,pS i,pA j,pB k,pO l,pE m,pE q,pU s,pT t,pB u],.tail 156 1 (qb4.rows a).length,.box 74 [pS J,pS K,pS L,pI M,pS N,pI O,pB P,pI Q,pS R,pV T,pT U,pT V,pE W]],rfl,rfl,?_⟩;conv=>whnf
  refine⟨Codec.one qrx [b],qb4.rows [b],.inl rfl,?_⟩;conv=>whnf
  rw[show qb4.rows a++qb4.rows [b]=qb4.rows (a++[b])from Codec.append qrx a [b]];conv=>whnf
  obtain⟨G,h⟩:=qah h;refine⟨⟨Codec.wide qrx (a++[b]),kod G,qb5 G (by decide)⟩,?_⟩;conv=>whnf
  refine⟨⟨rfl,rfl,rfl⟩,?_⟩;conv=>whnf
  exact⟨((a++[b]),(kwr .i64 (F+1))),h,wk [0,3] []⟩
 obtain rfl:=sj h;conv=>whnf
 refine⟨_,_,⟨rfl,rfl⟩,wk [0] []⟩
abbrev qsm (r:Bool):PV:=PV.bool r
def qdr (n:Nat) (b d:List SS):LK (Int) (Bool):=fun c a=>
 bif(decide (a<((qak b).length:Int)))then(
 bnd (idx b a) fun e=>
 bnd (idx d a) fun f=>
 bif(!(e==f))then(
 some false)
 else(
 c (kwr .i64 (a+1))))
 else(
 some true)
def qea (n:Nat) (a b:List SS):Option (Bool):=
 bif(((qak a).length:Int) != ((qak b).length:Int))then(
 some false)
 else(
 qam (qdr n a b) n (0:Int))
theorem qrp (n:Nat):∀ (a b:List SS) (r:Bool),qea n a b=some r->qai TP 179 [PV.sl (qak a),PV.sl (qak b)] (qsm r):=by
 intro a b r h;unfold qea at h;refine zN Tryz.call179 Tryz.func179 [1000000] ?_;conv=>whnf
 apply ifc h<;>intro d h
 ·obtain rfl:=sj h
  conv=>whnf
  try exact fin
 conv=>whnf
 refine qbh.fn [1000000] (S:=Int) (fun c=>[(0,pT a),(1,pT b),(12,.p (.int .i64 ((qak a).length:Int))),(13,pI c)]) (fun c=>[]) (B:=qdr n a b) h (wk [] []) ?_;intro _ c h;unfold qdr at h;conv=>whnf
 apply ifc h<;>intro d h
 ·conv=>whnf
  refine bq h fun _ f h=>?_;refine⟨_,Codec.at_ qpr f,?_⟩;conv=>whnf
  refine bq h fun _ e h=>?_;refine⟨_,Codec.at_ qpr e,?_⟩;conv=>whnf
  apply ifc h<;>intro d h
  ·obtain rfl:=sj h
   conv=>whnf
   try exact fin
  conv=>whnf
  exact⟨(kwr .i64 (c+1)),h,wk [] []⟩
 obtain rfl:=sj h;conv=>whnf
 try exact fin
abbrev qo4 (r:Bool):PV:=PV.bool r
abbrev zwc:Type:=Val->Val->Option (Bool)
def qtc (n:Nat) (g174:zwc) (g180z174:(List Val)->(List Val)->Option (Bool)) (k l:Val):Option (Bool):=
 match k,l with
 | ⟨a,c,d,e,q,s⟩,⟨f,g,i,b,m,o⟩=>
 bnd (qaw (bif(bif(bif(a==f)then(c==g)else false)then(d==i)else false)then(e==b)else false) (qea n s o)) fun j=>
 bnd (qaw (bif(bif(bif(bif(a==f)then(c==g)else false)then(d==i)else false)then(e==b)else false)then j else false) (g180z174 q m)) fun p=>
 some (bif(bif(bif(bif(bif(a==f)then(c==g)else false)then(d==i)else false)then(e==b)else false)then j else false)then p else false)
abbrev qa2 (r:Bool):PV:=PV.bool r
def qav (n:Nat) (b l:List Val) (g174:zwc):LK (Int) (Bool):=fun c a=>
 bif(decide (a<((Val.rows b).length:Int)))then(
 bnd (idx b a) fun⟨m,o,p,q,s,t⟩=>
 bnd (idx l a) fun⟨d,e,f,g,i,j⟩=>
 bnd (g174 (Val.mk m o p q s t) (Val.mk d e f g i j)) fun k=>
 bif(!k)then(
 some false)
 else(
 c (kwr .i64 (a+1))))
 else(
 some true)
def qa3 (n:Nat) (g174:zwc) (g180z174:(List Val)->(List Val)->Option (Bool)) (a b:List Val):Option (Bool):=
 bif(((Val.rows a).length:Int) != ((Val.rows b).length:Int))then(
 some false)
 else(
 qam (qav n a b g174) n (0:Int))
theorem q6w (n:Nat) (g174:zwc) (g180z174:(List Val)->(List Val)->Option (Bool)) (g174_ok:∀ (a b:Val) (r:Bool),g174 a b=some r->qai TP 174 [PV.agg (qvp.cells a),PV.agg (qvp.cells b)] (qo4 r)) (g180_174_ok:∀ (d e:List Val) (r:Bool),g180z174 d e=some r->qai TP 180 [PV.sl (Val.rows d),PV.sl (Val.rows e),PV.fn 174] (qa2 r)):∀ (a b:Val) (r:Bool),qtc n g174 g180z174 a b=some r->qai TP 174 [PV.agg (qvp.cells a),PV.agg (qvp.cells b)] (qo4 r):=by
 intro a b r h;obtain⟨d,e,_,_,_,_⟩:=a;obtain⟨_,_,_,_,_,_⟩:=b;unfold qtc at h;refine zN Tryz.call174 Tryz.func174 [1000000] ?_;conv=>whnf
 iterate 19 refine⟨id,?_⟩
 conv=>whnf
 refine bq h fun _ g h=>?_;refine⟨_,fun c=>(qrp n _ _ _ (qac g c)),?_⟩;conv=>whnf
 refine⟨id,id,id,id,id,?_⟩;conv=>whnf
 refine bq h fun _ f h=>?_;refine⟨_,fun c=>(g180_174_ok _ _ _ (qac f c)),?_⟩;conv=>whnf
 refine⟨id,?_⟩;obtain rfl:=sj h;conv=>whnf
 try exact fin
theorem qeo (n:Nat) (g174:zwc) (g180z174:(List Val)->(List Val)->Option (Bool)) (g174_ok:∀ (d e:Val) (r:Bool),g174 d e=some r->qai TP 174 [PV.agg (qvp.cells d),PV.agg (qvp.cells e)] (qo4 r)) (g180_174_ok:∀ (a b:List Val) (r:Bool),g180z174 a b=some r->qai TP 180 [PV.sl (Val.rows a),PV.sl (Val.rows b),PV.fn 174] (qa2 r)):∀ (a b:List Val) (r:Bool),qa3 n g174 g180z174 a b=some r->qai TP 180 [PV.sl (Val.rows a),PV.sl (Val.rows b),PV.fn 174] (qa2 r):=by
 intro a b r h;unfold qa3 at h;refine zN Tryz.call180 Tryz.func180 [1000000] ?_;conv=>whnf
 apply ifc h<;>intro f h
 ·obtain rfl:=sj h
  conv=>whnf
  try exact fin
 conv=>whnf
 refine qbh.fn [1000000] (S:=Int) (fun c=>[(1,pV b),(2,.p (.fn 174)),(15,pV a),(16,.p (.int .i64 ((Val.rows a).length:Int))),(17,pI c)]) (fun c=>[]) (B:=qav n a b g174) h (wk [] []) ?_;intro _ c h;unfold qav at h;conv=>whnf
 apply ifc h<;>intro f h
 ·conv=>whnf
  refine bq h fun⟨_,_,_,_,_,_⟩ j h=>?_;refine⟨_,Codec.at_ qvp j,?_⟩;conv=>whnf
  refine bq h fun⟨_,_,_,_,_,_⟩ i h=>?_;refine⟨_,Codec.at_ qvp i,?_⟩;conv=>whnf
  refine bq h fun _ g h=>?_;refine⟨_,(g174_ok _ _ _ g),?_⟩;conv=>whnf
  apply ifc h<;>intro f h
  ·obtain rfl:=sj h
   conv=>whnf
   try exact fin
  conv=>whnf
  exact⟨(kwr .i64 (c+1)),h,wk [] []⟩
 obtain rfl:=sj h;conv=>whnf
 try exact fin
mutual
def qhw:Nat->Val->Val->Option (Bool)
 | 0=>fun _ _=>none
 | n+1=>qtc n (qhw n) (qan n)
def qan:Nat->(List Val)->(List Val)->Option (Bool)
 | 0=>fun _ _=>none
 | n+1=>qa3 n (qhw n) (qan n)
end
theorem q68 (n:Nat):(∀ (a b:Val) (r:Bool),qhw n a b=some r->qai TP 174 [PV.agg (qvp.cells a),PV.agg (qvp.cells b)] (qo4 r))/\(∀ (c d:List Val) (r:Bool),qan n c d=some r->qai TP 180 [PV.sl (Val.rows c),PV.sl (Val.rows d),PV.fn 174] (qa2 r)):=by
 induction n with
 | zero=>exact⟨(by intros; rename_i h; cases h),(by intros; rename_i h; cases h)⟩
 | succ n ih=>
  obtain⟨hg174,hg180_174⟩:=ih;exact⟨q6w n (qhw n) (qan n) hg174 hg180_174,qeo n (qhw n) (qan n) hg174 hg180_174⟩
theorem qzq (n:Nat):∀ (a b:Val) (r:Bool),qhw n a b=some r->qai TP 174 [PV.agg (qvp.cells a),PV.agg (qvp.cells b)] (qo4 r):=(q68 n).1
abbrev q9o (r:Bool):PV:=PV.bool r
def qjh (n:Nat) (c:qaa):Option (Bool):=
 match c with
 | ⟨a,b,⟨f,g,i,j,k,l⟩,m,d⟩=>
 bnd (qaw (bif(a==0)then(b==([]:SS))else false) (qhw n (Val.mk f g i j k l) (Val.mk (0:Int) false (0:Int) ([]:SS) ([]:List Val) ([]:List SS)))) fun e=>
 some (bif(bif(bif(bif(a==0)then(b==([]:SS))else false)then e else false)then(((qak m).length:Int)==0)else false)then(((qaa.rows d).length:Int)==0)else false)
theorem qyk (n:Nat):∀ (a:qaa) (r:Bool),qjh n a=some r->qai TP 160 [PV.agg (qck.cells a)] (q9o r):=by
 intro a r h;obtain⟨_,_,⟨_,_,_,_,_,_⟩,_,_⟩:=a;unfold qjh at h;refine zN Tryz.call160 Tryz.func160 [1000000] ?_;conv=>whnf
 iterate 6 refine⟨id,?_⟩
 conv=>whnf
 refine bq h fun _ b h=>?_;refine⟨_,fun c=>(qai.leArgs (qzq n _ _ _ (qac b c)) (by try exact fin)),?_⟩;conv=>whnf
 iterate 9 refine⟨id,?_⟩
 obtain rfl:=sj h;conv=>whnf
 try exact fin
abbrev q9n (r:Bool):PV:=PV.bool r
def qeb (n:Nat) (f g:qab):Option (Bool):=
 match f,g with
 | ⟨_,a,e,⟨B,I,⟨J,K,L,M,i,j⟩,k,l⟩,m,o,p,q,s,t,u,v,w⟩,⟨_,b,c,⟨d,_,⟨_,_,_,_,_,_⟩,_,_⟩,x,y,z,A,C,D,E,F,G⟩=>
 bnd (qaw ((bif(((qa9.rows a).length:Int)==((qa9.rows b).length:Int))then(((qaa.rows e).length:Int)==((qaa.rows c).length:Int))else false)&&(!(d != 0))) (qjh n (qaa.mk B I (Val.mk J K L M i j) k l))) fun H=>
 some (bif(bif(bif(bif(bif(bif(bif(bif(bif(bif(bif(((qa9.rows a).length:Int)==((qa9.rows b).length:Int))then(((qaa.rows e).length:Int)==((qaa.rows c).length:Int))else false)then(bif(d != 0)then true else H)else false)then(m==x)else false)then(((qbn.rows o).length:Int)==((qbn.rows y).length:Int))else false)then(p==z)else false)then(((qat.rows q).length:Int)==((qat.rows A).length:Int))else false)then(((qaa.rows s).length:Int)==((qaa.rows C).length:Int))else false)then(((qaa.rows t).length:Int)==((qaa.rows D).length:Int))else false)then(((qaf.rows u).length:Int)==((qaf.rows E).length:Int))else false)then(((qak v).length:Int)==((qak F).length:Int))else false)then(w==G)else false)
set_option maxHeartbeats 4000000 in
theorem qf2 (n:Nat):∀ (a b:qab) (r:Bool),qeb n a b=some r->qai TP 139 [PV.agg (qcz.cells a),PV.agg (qcz.cells b)] (q9n r):=by
 intro a b r h;obtain⟨_,_,_,⟨_,_,⟨_,_,_,_,_,_⟩,_,_⟩,_,_,_,_,_,_,_,_,_⟩:=a;obtain⟨_,_,_,⟨_,_,⟨_,_,_,_,_,_⟩,_,_⟩,_,_,_,_,_,_,_,_,_⟩:=b;unfold qeb at h;refine zN Tryz.call139 Tryz.func139 [1000000] ?_;conv=>whnf
 iterate 13 refine⟨id,?_⟩
 conv=>whnf
 refine bq h fun _ c h=>?_;refine⟨_,fun d=>(qyk n _ _ (qac c d)),?_⟩;conv=>whnf
 iterate 60 refine⟨id,?_⟩
 obtain rfl:=sj h;conv=>whnf
 try exact fin
abbrev q7p (r:List qbb×Bool):PV:=PV.tup [PV.sl (qbb.rows r.1),PV.bool r.2]
def qh7 (n:Nat) (a:Int) (m:List qa9) (s:List qaa) (w:Int) (x:SS) (y:Int) (z:Bool) (A:Int) (B:SS) (g:List Val) (i j:List SS) (k:List qaa) (l:SS) (b:List qbn) (c:Bool) (d:List qat) (e f:List qaa) (o:List qaf) (p:List SS) (q:Bool):List qbb×List qaa->Option (List qbb×Bool):=fun(t,u)=>
 bnd (qeb n (qab.mk a m s (qaa.mk w x (Val.mk y z A B g i) j k) l b c d e f o p q) (qab.mk a ([]:List qa9) u (qaa.mk (0:Int) ([]:SS) (Val.mk (0:Int) false (0:Int) ([]:SS) ([]:List Val) ([]:List SS)) ([]:List SS) ([]:List qaa)) ([]:SS) b c d e f ([]:List qaf) ([]:List SS) false)) fun v=>
 some (t,v)
def qji (n:Nat) (a:Int) (o:List qa9) (s:List qaa) (u:Int) (x:SS) (y:Int) (z:Bool) (A:Int) (B:SS) (c:List Val) (d e:List SS) (f:List qaa) (g:SS) (i:List qbn) (j:Bool) (k:List qat) (l m:List qaa) (b:List qaf) (p:List SS) (q:Bool) (t:List qb4):SS->Option (List qbb×Bool):=fun v=>
 bnd (qeb n (qab.mk a o s (qaa.mk u x (Val.mk y z A B c d) e f) g i j k l m b p q) (qab.mk a ([]:List qa9) ([]:List qaa) (qaa.mk (0:Int) ([]:SS) (Val.mk (0:Int) false (0:Int) ([]:SS) ([]:List Val) ([]:List SS)) ([]:List SS) ([]:List qaa)) ([]:SS) ([]:List qbn) false ([]:List qat) ([]:List qaa) ([]:List qaa) b ([]:List SS) false)) fun w=>
 some ([qbb.mk v t (1:Int) (1048576:Int)],w)
def qjj (n:Nat) (a:Int) (p:List qa9) (t:List qaa) (u:Int) (w:SS) (y:Int) (z:Bool) (A:Int) (B:SS) (d:List Val) (e f:List SS) (g:List qaa) (i:SS) (j:List qbn) (k:Bool) (l:List qat) (m o:List qaa) (q:List qaf) (b:List SS) (c:Bool) (s:List qb4):SS->Option (List qbb×Bool):=fun v=>
 bnd (qeb n (qab.mk a p t (qaa.mk u w (Val.mk y z A B d e) f g) i j k l m o q b c) (qab.mk a ([]:List qa9) ([]:List qaa) (qaa.mk (0:Int) ([]:SS) (Val.mk (0:Int) false (0:Int) ([]:SS) ([]:List Val) ([]:List SS)) ([]:List SS) ([]:List qaa)) ([]:SS) ([]:List qbn) false ([]:List qat) ([]:List qaa) ([]:List qaa) ([]:List qaf) b c)) fun x=>
 some ([qbb.mk v s (1:Int) (1048576:Int)],x)
def qkw (n:Nat) (a:Int) (o:List qa9) (s:List qaa) (t:Int) (u:SS) (v:Int) (w:Bool) (x:Int) (y:SS) (c:List Val) (d e:List SS) (f:List qaa) (g:SS) (i:List qbn) (j:Bool) (k:List qat) (l m:List qaa) (p:List qaf) (q:List SS) (b:Bool) (A z:List qb4):Bool->Option (List qbb×Bool):=fun B=>
 bif B then(
 bif(a==7)then(
 qji n a o s t u v w x y c d e f g i j k l m p q b A ([82,69,77,79,86,69,32]:SS))
 else(
 qji n a o s t u v w x y c d e f g i j k l m p q b A ([83,69,84,32]:SS)))
 else(
 bif(a==8)then(
 bif b then(
 qjj n a o s t u v w x y c d e f g i j k l m p q b z ([68,69,84,65,67,72,32,68,69,76,69,84,69,32]:SS))
 else(
 qjj n a o s t u v w x y c d e f g i j k l m p q b z ([68,69,76,69,84,69,32]:SS)))
 else(
 bnd (qeb n (qab.mk a o s (qaa.mk t u (Val.mk v w x y c d) e f) g i j k l m p q b) (qab.mk a ([]:List qa9) ([]:List qaa) (qaa.mk (0:Int) ([]:SS) (Val.mk (0:Int) false (0:Int) ([]:SS) ([]:List Val) ([]:List SS)) ([]:List SS) ([]:List qaa)) ([]:SS) ([]:List qbn) false ([]:List qat) ([]:List qaa) ([]:List qaa) ([]:List qaf) ([]:List SS) false)) fun C=>
 some (([]:List qbb),C)))
def qh6 (n:Nat) (c:SS) (u v:List qb4) (w x:List qb4) (a:Int) (F:List qb4) (b:List qa9) (d:List qaa) (y:Int) (z:SS) (A:Int) (B:Bool) (C:Int) (D:SS) (e:List Val) (f g:List SS) (i:List qaa) (j:SS) (k:List qbn) (l:Bool) (m:List qat) (o p:List qaa) (q:List qaf) (s:List SS) (t:Bool) (E H G:List qb4):Bool->Option (List qbb×Bool):=fun L=>
 bif L then(
 chk (decide (((([82,69,84,85,82,78,32]:SS).length+c.length:Nat):Int)<=qhj)) (
 chk (decide ((qbb.rows ([qbb.mk (([82,69,84,85,82,78,32]:SS)++c) u (1:Int) (1048576:Int)]++[qbb.mk ([32,79,82,68,69,82,32,66,89,32]:SS) v (0:Int) (1048576:Int),qbb.mk ([32,83,75,73,80,32]:SS) w (0:Int) (1:Int),qbb.mk ([32,76,73,77,73,84,32]:SS) x (0:Int) (1:Int)])).length * 56<=140737488355328)) (
 bif(a==3)then(
 chk (decide (((([87,73,84,72,32]:SS).length+c.length:Nat):Int)<=qhj)) (
 chk (decide (0<(qbb.rows ([qbb.mk (([82,69,84,85,82,78,32]:SS)++c) u (1:Int) (1048576:Int)]++[qbb.mk ([32,79,82,68,69,82,32,66,89,32]:SS) v (0:Int) (1048576:Int),qbb.mk ([32,83,75,73,80,32]:SS) w (0:Int) (1:Int),qbb.mk ([32,76,73,77,73,84,32]:SS) x (0:Int) (1:Int)])).length)) (
 bnd (([qbb.mk (([82,69,84,85,82,78,32]:SS)++c) u (1:Int) (1048576:Int)]++[qbb.mk ([32,79,82,68,69,82,32,66,89,32]:SS) v (0:Int) (1048576:Int),qbb.mk ([32,83,75,73,80,32]:SS) w (0:Int) (1:Int),qbb.mk ([32,76,73,77,73,84,32]:SS) x (0:Int) (1:Int)])[0]?) fun⟨_,I,J,K⟩=>
 chk (decide ((qbb.rows ((([qbb.mk (([82,69,84,85,82,78,32]:SS)++c) u (1:Int) (1048576:Int)]++[qbb.mk ([32,79,82,68,69,82,32,66,89,32]:SS) v (0:Int) (1048576:Int),qbb.mk ([32,83,75,73,80,32]:SS) w (0:Int) (1:Int),qbb.mk ([32,76,73,77,73,84,32]:SS) x (0:Int) (1:Int)]).set 0 (qbb.mk (([87,73,84,72,32]:SS)++c) I J K))++[qbb.mk ([32,87,72,69,82,69,32]:SS) F (0:Int) (1:Int)])).length * 56<=140737488355328)) (
 qh7 n a b d y z A B C D e f g i j k l m o p q s t (((([qbb.mk (([82,69,84,85,82,78,32]:SS)++c) u (1:Int) (1048576:Int)]++[qbb.mk ([32,79,82,68,69,82,32,66,89,32]:SS) v (0:Int) (1048576:Int),qbb.mk ([32,83,75,73,80,32]:SS) w (0:Int) (1:Int),qbb.mk ([32,76,73,77,73,84,32]:SS) x (0:Int) (1:Int)]).set 0 (qbb.mk (([87,73,84,72,32]:SS)++c) I J K))++[qbb.mk ([32,87,72,69,82,69,32]:SS) F (0:Int) (1:Int)]),d)))))
 else(
 qh7 n a b d y z A B C D e f g i j k l m o p q s t (([qbb.mk (([82,69,84,85,82,78,32]:SS)++c) u (1:Int) (1048576:Int)]++[qbb.mk ([32,79,82,68,69,82,32,66,89,32]:SS) v (0:Int) (1048576:Int),qbb.mk ([32,83,75,73,80,32]:SS) w (0:Int) (1:Int),qbb.mk ([32,76,73,77,73,84,32]:SS) x (0:Int) (1:Int)]),([]:List _))))))
 else(
 bif(a==4)then(
 bnd (qeb n (qab.mk a b d (qaa.mk y z (Val.mk A B C D e f) g i) j k l m o p q s t) (qab.mk a b ([]:List qaa) (qaa.mk (0:Int) ([]:SS) (Val.mk (0:Int) false (0:Int) ([]:SS) ([]:List Val) ([]:List SS)) ([]:List SS) ([]:List qaa)) ([]:SS) ([]:List qbn) false ([]:List qat) ([]:List qaa) ([]:List qaa) ([]:List qaf) ([]:List SS) false)) fun M=>
 some ([qbb.mk ([67,82,69,65,84,69,32]:SS) E (1:Int) (1048576:Int)],M))
 else(
 bif(a==5)then(
 bnd (qaw (((qa9.rows b).length:Int)==1) (idx b (0:Int))) fun⟨_,N⟩=>
 bif(bif(((qa9.rows b).length:Int)==1)then(decide (((qag.rows N).length:Int)>0))else false)then(
 some (([]:List qbb),false))
 else(
 bnd (qeb n (qab.mk a b d (qaa.mk y z (Val.mk A B C D e f) g i) j k l m o p q s t) (qab.mk a b ([]:List qaa) (qaa.mk (0:Int) ([]:SS) (Val.mk (0:Int) false (0:Int) ([]:SS) ([]:List Val) ([]:List SS)) ([]:List SS) ([]:List qaa)) ([]:SS) ([]:List qbn) false ([]:List qat) ([]:List qaa) ([]:List qaa) ([]:List qaf) ([]:List SS) false)) fun O=>
 some ([qbb.mk ([77,69,82,71,69,32]:SS) E (1:Int) (1:Int)],O)))
 else(
 bif(a==6)then(
 qkw n a b d y z A B C D e f g i j k l m o p q s t H G (a==6))
 else(
 qkw n a b d y z A B C D e f g i j k l m o p q s t H G (a==7)))))
def qh5 (n:Nat) (a:Int) (o:List qa9) (p:List qaa) (g:Int) (i:SS) (j:Int) (k:Bool) (l:Int) (m:SS) (b:List Val) (c d:List SS) (e:List qaa) (f:SS) (q:List qbn) (s:Bool) (t:List qat) (u v:List qaa) (w:List qaf) (x:List SS) (y:Bool) (z A:List qb4) (B C:List qb4) (D E:List qb4) (G F:List qb4):SS->Option (List qbb×Bool):=fun H=>
 bif(a==1)then(
 bnd (qeb n (qab.mk a o p (qaa.mk g i (Val.mk j k l m b c) d e) f q s t u v w x y) (qab.mk a o p (qaa.mk (0:Int) ([]:SS) (Val.mk (0:Int) false (0:Int) ([]:SS) ([]:List Val) ([]:List SS)) ([]:List SS) ([]:List qaa)) ([]:SS) ([]:List qbn) false ([]:List qat) ([]:List qaa) ([]:List qaa) ([]:List qaf) ([]:List SS) false)) fun I=>
 some ([qbb.mk ([77,65,84,67,72,32]:SS) z (1:Int) (1048576:Int),qbb.mk ([32,87,72,69,82,69,32]:SS) A (0:Int) (1:Int)],I))
 else(
 bif(a==2)then(
 bnd (qeb n (qab.mk a o p (qaa.mk g i (Val.mk j k l m b c) d e) f q s t u v w x y) (qab.mk a ([]:List qa9) ([]:List qaa) (qaa.mk g i (Val.mk j k l m b c) d e) f ([]:List qbn) false ([]:List qat) ([]:List qaa) ([]:List qaa) ([]:List qaf) ([]:List SS) false)) fun J=>
 some ([qbb.mk ([85,78,87,73,78,68,32]:SS) [(qb4.expr (qaa.mk g i (Val.mk j k l m b c) d e))] (1:Int) (1:Int),qbb.mk ([32,65,83,32]:SS) [(qb4.name f)] (1:Int) (1:Int)],J))
 else(
 bif(a==3)then(
 qh6 n H B C D E a A o p g i j k l m b c d e f q s t u v w x y z G F (a==3))
 else(
 qh6 n H B C D E a A o p g i j k l m b c d e f q s t u v w x y z G F (a==9))))
def qmc (n:Nat) (H:qab):Option (List qbb×Bool):=
 match H with
 | ⟨k,f,j,⟨t,u,⟨v,w,x,y,l,m⟩,o,p⟩,q,a,b,c,d,e,g,i,s⟩=>
 bnd (qdw n f) fun z=>
 bnd (qds n j) fun A=>
 bnd (qdv n a) fun B=>
 bnd (qdx n c) fun C=>
 bnd (qdt n d) fun D=>
 bnd (qdu n e) fun E=>
 bnd (qd4 n i) fun F=>
 bnd (qdf n g k f j t u v w x y l m o p q a b c d e g i s) fun G=>
 bif b then(
 qh5 n k f j t u v w x y l m o p q a b c d e g i s z A B C D E G F ([68,73,83,84,73,78,67,84,32]:SS))
 else(
 qh5 n k f j t u v w x y l m o p q a b c d e g i s z A B C D E G F ([]:SS))
set_option maxHeartbeats 4000000 in
theorem q47 (n:Nat):∀ (M:qab) (r:List qbb×Bool),qmc n M=some r->qai TP 85 [PV.agg (qcz.cells M)] (q7p r):=by
 intro M r h;obtain⟨a,y,q,⟨i,j,⟨k,l,m,o,b,c⟩,d,e⟩,f,t,u,v,w,x,z,A,B⟩:=M;unfold qmc at h;refine zN Tryz.call85 Tryz.func85 [137,10000092,40000015,40000017,40000024,40000025,40000043,50000064,50000083,50000120,50000121,50000122,50000123,50000179,60003002,60007006,1000000] ?_;conv=>whnf
 refine bq h fun H b2 h=>?_;refine⟨_,(qne n _ _ b2),?_⟩;conv=>whnf
 refine bq h fun C b1 h=>?_;refine⟨_,(qna n _ _ b1),?_⟩;conv=>whnf
 refine bq h fun D b0 h=>?_;refine⟨_,(qnd n _ _ b0),?_⟩;conv=>whnf
 refine bq h fun E a9 h=>?_;refine⟨_,(qnf n _ _ a9),?_⟩;conv=>whnf
 refine bq h fun F a7 h=>?_;refine⟨_,(qnb n _ _ a7),?_⟩;conv=>whnf
 refine bq h fun G a6 h=>?_;refine⟨_,(qnc n _ _ a6),?_⟩;conv=>whnf
 refine⟨Codec.one qs9 [qbb.mk ([32,79,82,68,69,82,32,66,89,32]:SS) E (0:Int) (1048576:Int),qbb.mk ([32,83,75,73,80,32]:SS) F (0:Int) (1:Int),qbb.mk ([32,76,73,77,73,84,32]:SS) G (0:Int) (1:Int)],qbb.rows [qbb.mk ([32,79,82,68,69,82,32,66,89,32]:SS) E (0:Int) (1048576:Int),qbb.mk ([32,83,75,73,80,32]:SS) F (0:Int) (1:Int),qbb.mk ([32,76,73,77,73,84,32]:SS) G (0:Int) (1:Int)],.inl rfl,?_⟩;conv=>whnf
 refine bq h fun I a5 h=>?_;refine⟨_,(qon n _ _ a5),?_⟩;conv=>whnf
 refine bq h fun J X h=>?_;refine qcq (qlp n _ _ _ _ _ _ _ _ _ _ _ _ _ _ _ _ _ _ _ _ _ _ _ _ X) [0] [] ?_;rintro _ _ ⟨rfl,rfl⟩;refine⟨.p (.sl (qb4.rows J)),[.box 51 [pI a,pP y,pE q,pI i,pS j,pI k,pB l,pI m,pS o,pV b,pT c,pT d,pE e,pS f,pA t,pB u,pO v,pE w,pE x,pU z,pT A,pB B],.box 154 [zq1,.p (.sl (qb4.rows H)),.p (.int .i64 (1:Int)),.p (.int .i64 (1048576:Int))],.box 154 [.p (.str ([32,87,72,69,82,69,32]:SS)),.p (.sl (qb4.rows C)),zq0,.p (.int .i64 (1:Int))],.box 154 [zq1,.p (.sl (qb4.rows D)),.p (.int .i64 (1:Int)),.p (.int .i64 (1048576:Int))],.box 154 [.p (.str ([68,69,76,69,84,69,32]:SS)),.p (.sl (qb4.rows I)),.p (.int .i64 (1:Int)),.p (.int .i64 (1048576:Int))]],rfl,rfl,?_⟩;conv=>whnf
 refine qhd.cut (S:=SS) (fun g=>[(1,.ptr 0 0),(4,.ptr 1 0),(5,.ptr 2 0),(6,.ptr 3 0),(7,.p (.sl (qbb.rows [qbb.mk ([32,79,82,68,69,82,32,66,89,32]:SS) E (0:Int) (1048576:Int),qbb.mk ([32,83,75,73,80,32]:SS) F (0:Int) (1:Int),qbb.mk ([32,76,73,77,73,84,32]:SS) G (0:Int) (1:Int)]))),(8,.ptr 4 0),(9,.ptr 5 0),(10,pS g)]) (fun g=>[.box 51 [pI a,pP y,pE q,pI i,pS j,pI k,pB l,pI m,pS o,pV b,pT c,pT d,pE e,pS f,pA t,pB u,pO v,pE w,pE x,pU z,pT A,pB B],.box 154 [zq1,.p (.sl (qb4.rows H)),.p (.int .i64 (1:Int)),.p (.int .i64 (1048576:Int))],.box 154 [.p (.str ([32,87,72,69,82,69,32]:SS)),.p (.sl (qb4.rows C)),zq0,.p (.int .i64 (1:Int))],.box 154 [zq1,.p (.sl (qb4.rows D)),.p (.int .i64 (1:Int)),.p (.int .i64 (1048576:Int))],.box 154 [.p (.str ([68,69,76,69,84,69,32]:SS)),.p (.sl (qb4.rows I)),.p (.int .i64 (1:Int)),.p (.int .i64 (1048576:Int))],.box 154 [zq1,.p (.sl (qb4.rows J)),.p (.int .i64 (1:Int)),.p (.int .i64 (1048576:Int))]]) (qh5 n a y q i j k l m o b c d e f t u v w x z A B H C D E F G J I) (r:=r) ?_ ?_
 ·intro g h
  unfold qh5 at h;conv=>whnf
  refine qhd.go ?_;conv=>whnf
  apply ifc h<;>intro s h
  ·conv=>whnf
   refine⟨Codec.one qs9 [qbb.mk ([77,65,84,67,72,32]:SS) H (1:Int) (1048576:Int),qbb.mk ([32,87,72,69,82,69,32]:SS) C (0:Int) (1:Int)],qbb.rows [qbb.mk ([77,65,84,67,72,32]:SS) H (1:Int) (1048576:Int),qbb.mk ([32,87,72,69,82,69,32]:SS) C (0:Int) (1:Int)],.inl rfl,?_⟩;conv=>whnf
   refine bq h fun _ a8 h=>?_;refine⟨_,(qai.leArgs (qf2 n _ _ _ a8) (by try exact fin)),?_⟩;obtain rfl:=sj h;conv=>whnf
   try exact fin
  conv=>whnf
  apply ifc h<;>intro s h
  ·conv=>whnf
   refine⟨Codec.one qrx [(qb4.expr (qaa.mk i j (Val.mk k l m o b c) d e))],qb4.rows [(qb4.expr (qaa.mk i j (Val.mk k l m o b c) d e))],.inl rfl,?_⟩;conv=>whnf
   refine⟨Codec.one qrx [(qb4.name f)],qb4.rows [(qb4.name f)],.inl rfl,?_⟩;conv=>whnf
   refine⟨Codec.one qs9 [qbb.mk ([85,78,87,73,78,68,32]:SS) [(qb4.expr (qaa.mk i j (Val.mk k l m o b c) d e))] (1:Int) (1:Int),qbb.mk ([32,65,83,32]:SS) [(qb4.name f)] (1:Int) (1:Int)],qbb.rows [qbb.mk ([85,78,87,73,78,68,32]:SS) [(qb4.expr (qaa.mk i j (Val.mk k l m o b c) d e))] (1:Int) (1:Int),qbb.mk ([32,65,83,32]:SS) [(qb4.name f)] (1:Int) (1:Int)],.inl rfl,?_⟩;conv=>whnf
   refine bq h fun _ b3 h=>?_;refine⟨_,(qai.leArgs (qf2 n _ _ _ b3) (by try exact fin)),?_⟩;obtain rfl:=sj h;conv=>whnf
   try exact fin
  conv=>whnf
  refine qhd.cut (S:=Bool) (fun O=>[(1,.ptr 0 0),(4,.ptr 1 0),(5,.ptr 2 0),(6,.ptr 3 0),(7,.p (.sl (qbb.rows [qbb.mk ([32,79,82,68,69,82,32,66,89,32]:SS) E (0:Int) (1048576:Int),qbb.mk ([32,83,75,73,80,32]:SS) F (0:Int) (1:Int),qbb.mk ([32,76,73,77,73,84,32]:SS) G (0:Int) (1:Int)]))),(8,.ptr 4 0),(9,.ptr 5 0),(10,pS g),(11,zq2),(12,.ptr 6 0),(53,pI a),(85,pB O)]) (fun O=>[.box 51 [pI a,pP y,pE q,pI i,pS j,pI k,pB l,pI m,pS o,pV b,pT c,pT d,pE e,pS f,pA t,pB u,pO v,pE w,pE x,pU z,pT A,pB B],.box 154 [zq1,.p (.sl (qb4.rows H)),.p (.int .i64 (1:Int)),.p (.int .i64 (1048576:Int))],.box 154 [.p (.str ([32,87,72,69,82,69,32]:SS)),.p (.sl (qb4.rows C)),zq0,.p (.int .i64 (1:Int))],.box 154 [zq1,.p (.sl (qb4.rows D)),.p (.int .i64 (1:Int)),.p (.int .i64 (1048576:Int))],.box 154 [.p (.str ([68,69,76,69,84,69,32]:SS)),.p (.sl (qb4.rows I)),.p (.int .i64 (1:Int)),.p (.int .i64 (1048576:Int))],.box 154 [zq1,.p (.sl (qb4.rows J)),.p (.int .i64 (1:Int)),.p (.int .i64 (1048576:Int))],.box 51 [pI a,zq2,zq2,zq0,zq1,zq0,pB false,zq0,zq1,zq2,zq2,zq2,zq2,zq1,zq2,pB false,zq2,zq2,zq2,zq2,zq2,pB false]]) (qh6 n g D E F G a C y q i j k l m o b c d e f t u v w x z A B H J I) (r:=r) ?_ ?_
  ·intro O h
   unfold qh6 at h;conv=>whnf
   apply ifc h<;>intro s h
   ·conv=>whnf
    obtain⟨Y,h⟩:=qah h;refine⟨(kod Y:((([82,69,84,85,82,78,32]:SS).length+g.length:Nat):Int)<=qhj),?_⟩;(conv=>whnf);refine⟨Codec.one qs9 [qbb.mk (([82,69,84,85,82,78,32]:SS)++g) D (1:Int) (1048576:Int)],qbb.rows [qbb.mk (([82,69,84,85,82,78,32]:SS)++g) D (1:Int) (1048576:Int)],.inl rfl,?_⟩;(conv=>whnf);obtain⟨W,h⟩:=qah h;refine⟨_,⟨Codec.append qs9 [qbb.mk (([82,69,84,85,82,78,32]:SS)++g) D (1:Int) (1048576:Int)] [qbb.mk ([32,79,82,68,69,82,32,66,89,32]:SS) E (0:Int) (1048576:Int),qbb.mk ([32,83,75,73,80,32]:SS) F (0:Int) (1:Int),qbb.mk ([32,76,73,77,73,84,32]:SS) G (0:Int) (1:Int)],rfl,rfl,Codec.wide qs9 [qbb.mk ([32,79,82,68,69,82,32,66,89,32]:SS) E (0:Int) (1048576:Int),qbb.mk ([32,83,75,73,80,32]:SS) F (0:Int) (1:Int),qbb.mk ([32,76,73,77,73,84,32]:SS) G (0:Int) (1:Int)],kod W,qb5 W (by decide)⟩,?_⟩;(conv=>whnf);refine qhd.cut (S:=List qbb×List qaa) (fun(N,P)=>[(1,.ptr 0 0),(11,.vsl 1 ((qbb.rows N).length)),(12,.ptr 2 0)]) (fun(N,P)=>[.box 51 [pI a,pP y,pE q,pI i,pS j,pI k,pB l,pI m,pS o,pV b,pT c,pT d,pE e,pS f,pA t,pB u,pO v,pE w,pE x,pU z,pT A,pB B],.vec 154 4 (qbb.rows N),.box 51 [pI a,zq2,pE P,zq0,zq1,zq0,pB false,zq0,zq1,zq2,zq2,zq2,zq2,zq1,zq2,pB false,zq2,zq2,zq2,zq2,zq2,pB false]]) (qh7 n a y q i j k l m o b c d e f t u v w x z A B) (r:=r) ?_ ?_
    ·intro st h
     obtain⟨N,P⟩:=st;unfold qh7 at h;(conv=>whnf);refine bq h fun _ b4 h=>?_;refine⟨_,(qai.leArgs (qf2 n _ _ _ b4) (by try exact fin)),?_⟩;obtain rfl:=sj h;conv=>whnf
     try exact fin
    (conv=>whnf);apply ifc h<;>intro s h
    ·conv=>whnf
     obtain⟨b7,h⟩:=qah h;refine⟨(kod b7:((([87,73,84,72,32]:SS).length+g.length:Nat):Int)<=qhj),?_⟩;(conv=>whnf);obtain⟨b6,h⟩:=qah h;refine⟨0,⟨rfl,kod b6⟩,?_⟩;(conv=>whnf);refine bq h fun⟨_,Q,R,T⟩ b5 h=>?_;refine⟨_,⟨rfl,Codec.getN qs9 b5,rfl⟩,?_⟩;(conv=>whnf);refine⟨_,Codec.setN qs9 ([qbb.mk (([82,69,84,85,82,78,32]:SS)++g) D (1:Int) (1048576:Int)]++[qbb.mk ([32,79,82,68,69,82,32,66,89,32]:SS) E (0:Int) (1048576:Int),qbb.mk ([32,83,75,73,80,32]:SS) F (0:Int) (1:Int),qbb.mk ([32,76,73,77,73,84,32]:SS) G (0:Int) (1:Int)]) 0 (qbb.mk (([87,73,84,72,32]:SS)++g) Q R T),?_⟩;(conv=>whnf);refine⟨Codec.one qs9 [qbb.mk ([32,87,72,69,82,69,32]:SS) C (0:Int) (1:Int)],qbb.rows [qbb.mk ([32,87,72,69,82,69,32]:SS) C (0:Int) (1:Int)],.inl rfl,?_⟩;(conv=>whnf);obtain⟨V,h⟩:=qah h;refine⟨_,⟨Codec.append qs9 (([qbb.mk (([82,69,84,85,82,78,32]:SS)++g) D (1:Int) (1048576:Int)]++[qbb.mk ([32,79,82,68,69,82,32,66,89,32]:SS) E (0:Int) (1048576:Int),qbb.mk ([32,83,75,73,80,32]:SS) F (0:Int) (1:Int),qbb.mk ([32,76,73,77,73,84,32]:SS) G (0:Int) (1:Int)]).set 0 (qbb.mk (([87,73,84,72,32]:SS)++g) Q R T)) [qbb.mk ([32,87,72,69,82,69,32]:SS) C (0:Int) (1:Int)],rfl,rfl,Codec.wide qs9 [qbb.mk ([32,87,72,69,82,69,32]:SS) C (0:Int) (1:Int)],kod V,qb5 V (by decide)⟩,?_⟩;(conv=>whnf);exact⟨(((([qbb.mk (([82,69,84,85,82,78,32]:SS)++g) D (1:Int) (1048576:Int)]++[qbb.mk ([32,79,82,68,69,82,32,66,89,32]:SS) E (0:Int) (1048576:Int),qbb.mk ([32,83,75,73,80,32]:SS) F (0:Int) (1:Int),qbb.mk ([32,76,73,77,73,84,32]:SS) G (0:Int) (1:Int)]).set 0 (qbb.mk (([87,73,84,72,32]:SS)++g) Q R T))++[qbb.mk ([32,87,72,69,82,69,32]:SS) C (0:Int) (1:Int)]),q),h,wk [0,9,6] []⟩
    (conv=>whnf);exact⟨(([qbb.mk (([82,69,84,85,82,78,32]:SS)++g) D (1:Int) (1048576:Int)]++[qbb.mk ([32,79,82,68,69,82,32,66,89,32]:SS) E (0:Int) (1048576:Int),qbb.mk ([32,83,75,73,80,32]:SS) F (0:Int) (1:Int),qbb.mk ([32,76,73,77,73,84,32]:SS) G (0:Int) (1:Int)]),([]:List _)),h,wk [0,8,6] []⟩
   conv=>whnf
   apply ifc h<;>intro s h
   ·conv=>whnf
    refine⟨Codec.one qs9 [qbb.mk ([67,82,69,65,84,69,32]:SS) H (1:Int) (1048576:Int)],qbb.rows [qbb.mk ([67,82,69,65,84,69,32]:SS) H (1:Int) (1048576:Int)],.inl rfl,?_⟩;(conv=>whnf);refine bq h fun _ Z h=>?_;refine⟨_,(qai.leArgs (qf2 n _ _ _ Z) (by try exact fin)),?_⟩;obtain rfl:=sj h;conv=>whnf
    try exact fin
   conv=>whnf
   apply ifc h<;>intro s h
   ·conv=>whnf
    refine⟨id,id,?_⟩;(conv=>whnf);refine bq h fun⟨_,_⟩ a1 h=>?_;refine⟨_,fun b8=>Codec.at_ qlh (qac a1 b8),?_⟩;(conv=>whnf);refine⟨id,id,id,id,id,?_⟩;(conv=>whnf);apply ifc h<;>intro s h
    ·obtain rfl:=sj h
     conv=>whnf
     try exact fin
    (conv=>whnf);refine⟨Codec.one qs9 [qbb.mk ([77,69,82,71,69,32]:SS) H (1:Int) (1:Int)],qbb.rows [qbb.mk ([77,69,82,71,69,32]:SS) H (1:Int) (1:Int)],.inl rfl,?_⟩
    (conv=>whnf);refine bq h fun _ a0 h=>?_
    refine⟨_,(qai.leArgs (qf2 n _ _ _ a0) (by try exact fin)),?_⟩;obtain rfl:=sj h;conv=>whnf
    try exact fin
   conv=>whnf
   refine qhd.cut (S:=Bool) (fun U=>[(1,.ptr 0 0),(8,.ptr 1 0),(9,.ptr 2 0),(11,zq2),(12,.ptr 3 0),(53,pI a),(155,pB U)]) (fun U=>[.box 51 [pI a,pP y,pE q,pI i,pS j,pI k,pB l,pI m,pS o,pV b,pT c,pT d,pE e,pS f,pA t,pB u,pO v,pE w,pE x,pU z,pT A,pB B],.box 154 [.p (.str ([68,69,76,69,84,69,32]:SS)),.p (.sl (qb4.rows I)),.p (.int .i64 (1:Int)),.p (.int .i64 (1048576:Int))],.box 154 [zq1,.p (.sl (qb4.rows J)),.p (.int .i64 (1:Int)),.p (.int .i64 (1048576:Int))],.box 51 [pI a,zq2,zq2,zq0,zq1,zq0,pB false,zq0,zq1,zq2,zq2,zq2,zq2,zq1,zq2,pB false,zq2,zq2,zq2,zq2,zq2,pB false]]) (qkw n a y q i j k l m o b c d e f t u v w x z A B J I) (r:=r) ?_ ?_
   ·intro U h
    unfold qkw at h;(conv=>whnf);apply ifc h<;>intro s h
    ·conv=>whnf
     refine qhd.cut (S:=SS) (fun K=>[(1,.ptr 0 0),(9,.ptr 1 0),(12,.ptr 2 0)]) (fun K=>[.box 51 [pI a,pP y,pE q,pI i,pS j,pI k,pB l,pI m,pS o,pV b,pT c,pT d,pE e,pS f,pA t,pB u,pO v,pE w,pE x,pU z,pT A,pB B],.box 154 [pS K,.p (.sl (qb4.rows J)),.p (.int .i64 (1:Int)),.p (.int .i64 (1048576:Int))],.box 51 [pI a,zq2,zq2,zq0,zq1,zq0,pB false,zq0,zq1,zq2,zq2,zq2,zq2,zq1,zq2,pB false,zq2,zq2,zq2,zq2,zq2,pB false]]) (qji n a y q i j k l m o b c d e f t u v w x z A B J) (r:=r) ?_ ?_
     ·intro K h
      unfold qji at h;(conv=>whnf);refine⟨Codec.one qs9 [qbb.mk K J (1:Int) (1048576:Int)],qbb.rows [qbb.mk K J (1:Int) (1048576:Int)],.inl rfl,?_⟩;(conv=>whnf);refine bq h fun _ a2 h=>?_;refine⟨_,(qai.leArgs (qf2 n _ _ _ a2) (by try exact fin)),?_⟩;obtain rfl:=sj h;conv=>whnf
      try exact fin
     (conv=>whnf);apply ifc h<;>intro s h
     ·conv=>whnf
      exact⟨([82,69,77,79,86,69,32]:SS),h,wk [0,2,3] []⟩
     (conv=>whnf);exact⟨([83,69,84,32]:SS),h,wk [0,2,3] []⟩
    (conv=>whnf);apply ifc h<;>intro s h
    ·conv=>whnf
     refine qhd.cut (S:=SS) (fun L=>[(1,.ptr 0 0),(8,.ptr 1 0),(12,.ptr 2 0)]) (fun L=>[.box 51 [pI a,pP y,pE q,pI i,pS j,pI k,pB l,pI m,pS o,pV b,pT c,pT d,pE e,pS f,pA t,pB u,pO v,pE w,pE x,pU z,pT A,pB B],.box 154 [pS L,.p (.sl (qb4.rows I)),.p (.int .i64 (1:Int)),.p (.int .i64 (1048576:Int))],.box 51 [pI a,zq2,zq2,zq0,zq1,zq0,pB false,zq0,zq1,zq2,zq2,zq2,zq2,zq1,zq2,pB false,zq2,zq2,zq2,zq2,zq2,pB false]]) (qjj n a y q i j k l m o b c d e f t u v w x z A B I) (r:=r) ?_ ?_
     ·intro L h
      unfold qjj at h;(conv=>whnf);refine⟨Codec.one qs9 [qbb.mk L I (1:Int) (1048576:Int)],qbb.rows [qbb.mk L I (1:Int) (1048576:Int)],.inl rfl,?_⟩;(conv=>whnf);refine bq h fun _ a3 h=>?_;refine⟨_,(qai.leArgs (qf2 n _ _ _ a3) (by try exact fin)),?_⟩;obtain rfl:=sj h;conv=>whnf
      try exact fin
     (conv=>whnf);apply ifc h<;>intro s h
     ·conv=>whnf
      exact⟨([68,69,84,65,67,72,32,68,69,76,69,84,69,32]:SS),h,wk [0,1,3] []⟩
     (conv=>whnf);exact⟨([68,69,76,69,84,69,32]:SS),h,wk [0,1,3] []⟩
    (conv=>whnf);refine bq h fun _ a4 h=>?_
    refine⟨_,(qai.leArgs (qf2 n _ _ _ a4) (by try exact fin)),?_⟩;obtain rfl:=sj h;conv=>whnf
    try exact fin
   conv=>whnf
   apply ifc h<;>intro s h
   ·conv=>whnf
    exact⟨(a==6),h,wk [0,4,5,6] []⟩
   conv=>whnf
   exact⟨(a==7),h,wk [0,4,5,6] []⟩
  conv=>whnf
  apply ifc h<;>intro s h
  ·conv=>whnf
   exact⟨(a==3),h,wk [0,1,2,3,4,5,6] []⟩
  conv=>whnf
  exact⟨(a==9),h,wk [0,1,2,3,4,5,6] []⟩
 conv=>whnf
 apply ifc h<;>intro s h
 ·conv=>whnf
  exact⟨([68,73,83,84,73,78,67,84,32]:SS),h,wk [0,1,2,3,4,5] []⟩
 conv=>whnf
 exact⟨([]:SS),h,wk [0,1,2,3,4,5] []⟩
abbrev ze6 (r:Bool):PV:=PV.bool r
def qlc (n:Nat) (a:SS):Option (Bool):=
 some (bif(!(a==([]:SS)))then(decide (((a.length:Nat):Int)<=64))else false)
theorem qmd (n:Nat):∀ (a:SS) (r:Bool),qlc n a=some r->qai TP 215 [PV.str a] (ze6 r):=by
 intro a r h;unfold qlc at h;refine zN Tryz.call215 Tryz.func215 [1000000] ?_;conv=>whnf
 refine⟨id,id,id,?_⟩;obtain rfl:=sj h;conv=>whnf
 try exact fin
abbrev ze0 (r:SS):PV:=PV.str r
def ql7 (n:Nat) (a:Int×SS->Option SS) (b:Int):SS->Option SS:=fun c=>
 a ((kwr .i64 (b+1)),c)
def ql8 (n:Nat) (g:SS):(Int×SS->Option SS)->Int×SS->Option SS:=fun e (b,a)=>
 bif(decide (b<((g.length:Nat):Int)))then(
 bnd (qwb b) fun f=>
 chk (decide (f<a.length)) (
 bnd (a[f]?) fun c=>
 bif(bif(decide (((c.toNat:Nat):Int)≥97))then(decide (((c.toNat:Nat):Int)<=122))else false)then(
 bnd (qwb b) fun d=>
 chk (decide (d<a.length)) (
 bnd (u8I (kwr .u8 (((c.toNat:Nat):Int) - 32))) fun i=>
 chk (decide (d<a.length)) (
 ql7 n e b (a.set d i))))
 else(
 ql7 n e b a)))
 else(
 some a)
def qro (n:Nat) (a:SS):Option SS:=
 qam (ql8 n a) n ((0:Int),a)
theorem zbo (n:Nat):∀ (b r:SS),qro n b=some r->qai TP 144 [PV.str b] (ze0 r):=by
 intro b r h;unfold qro at h;refine zN Tryz.call144 Tryz.func144 [10000007,1000000] ?_;conv=>whnf
 refine qbh.fn [10000007,1000000] (S:=Int×SS) (fun(c,a)=>[(3,.vsl 0 a.length),(8,.vsl 0 a.length),(9,.p (.int .i64 ((b.length:Nat):Int))),(10,pI c)]) (fun(c,a)=>[.bv a]) (B:=ql8 n b) h (wk [0] []) ?_;intro s st h;obtain⟨c,a⟩:=st;unfold ql8 at h;conv=>whnf
 apply ifc h<;>intro q h
 ·conv=>whnf
  refine qhd.cut (S:=SS) (fun d=>[(3,.vsl 0 d.length),(8,.vsl 0 d.length),(9,.p (.int .i64 ((b.length:Nat):Int))),(10,pI c)]) (fun d=>[.bv d]) (ql7 n s c) (r:=r) ?_ ?_
  ·intro d h
   unfold ql7 at h;conv=>whnf
   exact⟨((kwr .i64 (c+1)),d),h,wk [0] []⟩
  conv=>whnf
  refine bq h fun t o h=>?_;have e:=qct o;conv=>whnf
  obtain⟨m,h⟩:=qah h;refine⟨t,⟨e,kod m⟩,?_⟩;conv=>whnf
  refine bq h fun _ l h=>?_;refine⟨_,⟨rfl,rfl,l⟩,?_⟩;conv=>whnf
  refine⟨id,id,?_⟩;conv=>whnf
  apply ifc h<;>intro q h
  ·conv=>whnf
   refine bq h fun f k h=>?_;have e:=qct k;conv=>whnf
   obtain⟨j,h⟩:=qah h;refine⟨f,⟨e,kod j⟩,?_⟩;conv=>whnf
   refine bq h fun u i h=>?_;have hb:=qet i;conv=>whnf
   obtain⟨g,h⟩:=qah h;refine⟨_,_,⟨rfl,rfl,kod g,hb,rfl⟩,?_⟩;conv=>whnf
   exact⟨(a.set f u),h,wk [0] []⟩
  conv=>whnf
  exact⟨a,h,wk [0] []⟩
 conv=>whnf
 refine⟨by first|rfl|simp only[List.length_set]|(simp only[List.length_set]; assumption)|assumption,?_⟩;obtain rfl:=sj h;conv=>whnf
 try exact fin
abbrev ze4 (r:Bool):PV:=PV.bool r
def qmb (n:Nat) (a:SS):LK (Nat) (Bool):=fun c b=>
 bif(decide (b<a.length))then(
 bif(bif(!(bif(bif(bif(decide (((qa7 a b:Nat):Int)≥97))then(decide (((qa7 a b:Nat):Int)<=122))else false)then true else(bif(decide (((qa7 a b:Nat):Int)≥65))then(decide (((qa7 a b:Nat):Int)<=90))else false))then true else(((qa7 a b:Nat):Int)==95)))then(bif(bif(((b:Nat):Int)==0)then true else(decide (((qa7 a b:Nat):Int)<48)))then true else(decide (((qa7 a b:Nat):Int)>57)))else false)then(
 some false)
 else(
 c (bif(decide (b<a.length))then qdz a b else b)))
 else(
 some (bif(!(a==([]:SS)))then(decide (((a.length:Nat):Int)<=64))else false))
def qpx (n:Nat) (a:SS):Option (Bool):=
 qam (qmb n a) n 0
theorem q1w (n:Nat):∀ (a:SS) (r:Bool),qpx n a=some r->qai TP 96 [PV.str a] (ze4 r):=by
 intro a r h;unfold qpx at h;refine zN Tryz.call96 Tryz.func96 [1000000] ?_;conv=>whnf
 refine qbh.fn [1000000] (S:=Nat) (fun b=>[(0,pS a),(7,.ptr 0 0)]) (fun b=>[.sit a b]) (B:=qmb n a) h (wk [0] []) ?_;intro _ b h;unfold qmb at h;conv=>whnf
 refine⟨(decide (b<a.length)),(bif(decide (b<a.length))then qdz a b else b),⟨rfl,rfl⟩,?_⟩;conv=>whnf
 apply ifc h<;>intro c h
 ·conv=>whnf
  refine⟨by assumption,?_⟩;conv=>whnf
  refine⟨by assumption,?_⟩;conv=>whnf
  iterate 20 refine⟨id,?_⟩
  conv=>whnf
  apply ifc h<;>intro c h
  ·obtain rfl:=sj h
   conv=>whnf
   try exact fin
  conv=>whnf
  exact⟨(bif(decide (b<a.length))then qdz a b else b),h,wk [0] []⟩
 conv=>whnf
 refine⟨id,id,id,?_⟩;obtain rfl:=sj h;conv=>whnf
 try exact fin
abbrev zgu (r:SS×Bool):PV:=PV.tup [PV.str r.1,PV.bool r.2]
def q0g (n:Nat) (c:SS):Option (SS×Bool):=
 bnd (qro n c) fun a=>
 bnd (qpx n c) fun b=>
 chk (bif(!(!b))then decide (((([32]:SS).length+a.length:Nat):Int)<=qhj)else true) (
 chk (bif(!(!b))then decide ((((([32]:SS)++a).length+([32]:SS).length:Nat):Int)<=qhj)else true) (
 bnd (qaw (!(!b)) (qmn n ([32,77,65,84,67,72,32,87,72,69,82,69,32,85,78,87,73,78,68,32,65,83,32,87,73,84,72,32,67,82,69,65,84,69,32,77,69,82,71,69,32,83,69,84,32,82,69,77,79,86,69,32,68,69,76,69,84,69,32,68,69,84,65,67,72,32,82,69,84,85,82,78,32,68,73,83,84,73,78,67,84,32,79,82,68,69,82,32,66,89,32,65,83,67,32,68,69,83,67,32,83,75,73,80,32,76,73,77,73,84,32,65,78,68,32,79,82,32,88,79,82,32,78,79,84,32,73,78,32,73,83,32,78,85,76,76,32,84,82,85,69,32,70,65,76,83,69,32]:SS) ((([32]:SS)++a)++([32]:SS)))) fun d=>
 bif(bif(!b)then true else(!d))then(
 some (([]:SS),false))
 else(
 some (a,true))))
theorem zd9 (n:Nat):∀ (b:SS) (r:SS×Bool),q0g n b=some r->qai TP 95 [PV.str b] (zgu r):=by
 intro b r h;unfold q0g at h;refine zN Tryz.call95 Tryz.func95 [1000000] ?_;conv=>whnf
 refine bq h fun c i h=>?_;refine⟨_,(zbo n _ _ i),?_⟩;conv=>whnf
 refine bq h fun _ g h=>?_;refine⟨_,(q1w n _ _ g),?_⟩;conv=>whnf
 refine⟨id,?_⟩;conv=>whnf
 obtain⟨f,h⟩:=qah h;refine⟨fun a=>(kod (gd f a):((([32]:SS).length+c.length:Nat):Int)<=qhj),?_⟩;conv=>whnf
 refine⟨id,?_⟩;conv=>whnf
 obtain⟨e,h⟩:=qah h;refine⟨fun a=>(kod (gd e a):(((([32]:SS)++c).length+([32]:SS).length:Nat):Int)<=qhj),?_⟩;conv=>whnf
 refine⟨id,?_⟩;conv=>whnf
 refine bq h fun _ d h=>?_;refine⟨_,fun a=>(qzp n _ _ _ (qac d a)),?_⟩;conv=>whnf
 refine⟨id,id,?_⟩;conv=>whnf
 apply ifc h<;>intro _ h
 ·obtain rfl:=sj h
  conv=>whnf
  try exact fin
 obtain rfl:=sj h;conv=>whnf
 try exact fin
abbrev q9q (r:Bool):PV:=PV.bool r
def qe3 (n:Nat) (a:SS):Option (Bool):=
 bnd (q0g n a) fun⟨_,b⟩=>
 bnd (qpx n a) fun c=>
 some (bif c then(!b)else false)
theorem qf3 (n:Nat):∀ (a:SS) (r:Bool),qe3 n a=some r->qai TP 57 [PV.str a] (q9q r):=by
 intro a r h;unfold qe3 at h;refine zN Tryz.call57 Tryz.func57 [1000000] ?_;conv=>whnf
 refine bq h fun⟨_,_⟩ c h=>?_;refine⟨_,(zd9 n _ _ c),?_⟩;conv=>whnf
 refine bq h fun _ b h=>?_;refine⟨_,(q1w n _ _ b),?_⟩;conv=>whnf
 refine⟨id,id,?_⟩;obtain rfl:=sj h;conv=>whnf
 try exact fin
abbrev zce (r:Bool):PV:=PV.bool r
def qqa (n:Nat) (b:Val):Option (Bool):=
 match b with
 | ⟨a,c,d,e,f,g⟩=>
 some (bif(bif(bif(bif(bif(a==1)then true else(!c))then(bif(bif(a==2)then true else(decide (a≥6)))then true else(d==0))else false)then(bif(a==3)then true else(e==([]:SS)))else false)then(bif(bif(a==4)then true else(a==5))then true else(((Val.rows f).length:Int)==0))else false)then(bif(a==5)then true else(((qak g).length:Int)==0))else false)
theorem q9a (n:Nat):∀ (a:Val) (r:Bool),qqa n a=some r->qai TP 224 [PV.agg (qvp.cells a)] (zce r):=by
 intro a r h;obtain⟨_,_,_,_,_,_⟩:=a;unfold qqa at h;refine zN Tryz.call224 Tryz.func224 [1000000] ?_;conv=>whnf
 iterate 47 refine⟨id,?_⟩
 obtain rfl:=sj h;conv=>whnf
 try exact fin
abbrev zcf (r:Bool):PV:=PV.bool r
def qih (n:Nat) (c:List SS):LK (Int) (Bool):=fun d a=>
 bif(decide (a<((qak c).length:Int)))then(
 bnd (idx c a) fun b=>
 bnd (qaw ((!(bif(b==([]:SS))then true else(decide (((b.length:Nat):Int)>64))))&&(decide (a>0))) (idx c (kwr .i64 (a - 1)))) fun e=>
 bif(bif(bif(b==([]:SS))then true else(decide (((b.length:Nat):Int)>64)))then true else(bif(decide (a>0))then(!(Op.bytesLess e b))else false))then(
 some false)
 else(
 d (kwr .i64 (a+1))))
 else(
 some true)
def qvb (n:Nat) (a:List SS):Option (Bool):=
 qam (qih n a) n (0:Int)
theorem q9b (n:Nat):∀ (a:List SS) (r:Bool),qvb n a=some r->qai TP 225 [PV.sl (qak a)] (zcf r):=by
 intro a r h;unfold qvb at h;refine zN Tryz.call225 Tryz.func225 [1000000] ?_;conv=>whnf
 refine qbh.fn [1000000] (S:=Int) (fun b=>[(0,pT a),(5,pT a),(6,.p (.int .i64 ((qak a).length:Int))),(7,pI b)]) (fun b=>[]) (B:=qih n a) h (wk [] []) ?_;intro _ b h;unfold qih at h;conv=>whnf
 apply ifc h<;>intro e h
 ·conv=>whnf
  refine bq h fun _ d h=>?_;refine⟨_,Codec.at_ qpr d,?_⟩;conv=>whnf
  iterate 8 refine⟨id,?_⟩
  conv=>whnf
  refine bq h fun _ c h=>?_;refine⟨_,fun f=>Codec.at_ qpr (qac c f),?_⟩;conv=>whnf
  iterate 6 refine⟨id,?_⟩
  conv=>whnf
  apply ifc h<;>intro e h
  ·obtain rfl:=sj h
   conv=>whnf
   try exact fin
  conv=>whnf
  exact⟨(kwr .i64 (b+1)),h,wk [] []⟩
 obtain rfl:=sj h;conv=>whnf
 try exact fin
abbrev qr6 (r:Int×Bool):PV:=PV.tup [PV.int .i64 r.1,PV.bool r.2]
def qgt (n:Nat) (d:List Val) (g223:Val->Int->Int->Option (Int×Bool)) (p:Int):LK (Int×Bool×Int) (Int×Bool):=fun e (b,c,a)=>
 bif(bif(decide (a<((Val.rows d).length:Int)))then c else false)then(
 bnd (idx d a) fun⟨f,g,i,j,k,l⟩=>
 bnd (g223 (Val.mk f g i j k l) (kwr .i64 (p - 1)) b) fun⟨m,o⟩=>
 e (m,o,(kwr .i64 (a+1))))
 else(
 some (b,c))
def qtd (n:Nat) (g223:Val->Int->Int->Option (Int×Bool)) (i:Val) (e b:Int):Option (Int×Bool):=
 match i with
 | ⟨a,k,f,l,c,d⟩=>
 bnd (qaw (!(bif(bif(bif(decide (e<1))then true else(decide ((kwr .i64 (b+1))>4096)))then true else(decide (a<0)))then true else(decide (a>7)))) (qqa n (Val.mk a k f l c d))) fun g=>
 bnd (qaw (((!(bif(bif(bif(bif(bif(decide (e<1))then true else(decide ((kwr .i64 (b+1))>4096)))then true else(decide (a<0)))then true else(decide (a>7)))then true else(!g))then true else(bif(decide (a≥6))then(decide (f<1))else false)))&&(a==5))&&(!(((qak d).length:Int) != ((Val.rows c).length:Int)))) (qvb n d)) fun j=>
 bif(bif(bif(bif(bif(bif(bif(decide (e<1))then true else(decide ((kwr .i64 (b+1))>4096)))then true else(decide (a<0)))then true else(decide (a>7)))then true else(!g))then true else(bif(decide (a≥6))then(decide (f<1))else false))then true else(bif(a==5)then(bif(((qak d).length:Int) != ((Val.rows c).length:Int))then true else(!j))else false))then(
 some ((kwr .i64 (b+1)),false))
 else(
 qam (qgt n c g223 e) n ((kwr .i64 (b+1)),true,(0:Int)))
theorem q6x (n:Nat) (g223:Val->Int->Int->Option (Int×Bool)) (g223_ok:∀ (b:Val) (a c:Int) (r:Int×Bool),g223 b a c=some r->qai TP 223 [PV.agg (qvp.cells b),PV.int .i64 a,PV.int .i64 c] (qr6 r)):∀ (b:Val) (a c:Int) (r:Int×Bool),qtd n g223 b a c=some r->qai TP 223 [PV.agg (qvp.cells b),PV.int .i64 a,PV.int .i64 c] (qr6 r):=by
 intro b a c r h;obtain⟨p,q,u,v,i,w⟩:=b;unfold qtd at h;refine zN Tryz.call223 Tryz.func223 [1000000] ?_;conv=>whnf
 iterate 9 refine⟨id,?_⟩
 conv=>whnf
 refine bq h fun _ m h=>?_;refine⟨_,fun e=>(q9a n _ _ (qac m e)),?_⟩;conv=>whnf
 iterate 22 refine⟨id,?_⟩
 conv=>whnf
 refine bq h fun _ l h=>?_;refine⟨_,fun e=>(q9b n _ _ (qac l e)),?_⟩;conv=>whnf
 iterate 6 refine⟨id,?_⟩
 conv=>whnf
 apply ifc h<;>intro o h
 ·obtain rfl:=sj h
  conv=>whnf
  try exact fin
 conv=>whnf
 refine qbh.fn [1000000] (S:=Int×Bool×Int) (fun(f,g,d)=>[(1,pI a),(2,pI f),(3,.ptr 0 0),(8,pB g),(9,pI d)]) (fun(f,g,d)=>[.box 44 [pI p,pB q,pI u,pS v,pV i,pT w]]) (B:=qgt n i g223 a) h (wk [0] []) ?_;intro _ st h;obtain⟨f,g,d⟩:=st;unfold qgt at h;conv=>whnf
 refine⟨id,?_⟩;conv=>whnf
 apply ifc h<;>intro o h
 ·conv=>whnf
  refine bq h fun⟨_,_,_,_,_,_⟩ k h=>?_;refine⟨_,Codec.at_ qvp k,?_⟩;conv=>whnf
  refine bq h fun⟨s,t⟩ j h=>?_;refine⟨_,(g223_ok _ _ _ _ j),?_⟩;conv=>whnf
  exact⟨(s,t,(kwr .i64 (d+1))),h,wk [0] []⟩
 obtain rfl:=sj h;conv=>whnf
 try exact fin
def qjk:Nat->Val->Int->Int->Option (Int×Bool)
 | 0=>fun _ _ _=>none
 | n+1=>qtd n (qjk n)
theorem q69 (n:Nat):(∀ (a:Val) (b c:Int) (r:Int×Bool),qjk n a b c=some r->qai TP 223 [PV.agg (qvp.cells a),PV.int .i64 b,PV.int .i64 c] (qr6 r)):=by
 induction n with
 | zero=>exact(by intros; rename_i h; cases h)
 | succ n ih=>
  have hg223:=ih;exact q6x n (qjk n) hg223
theorem q9c (n:Nat):∀ (a:Val) (b c:Int) (r:Int×Bool),qjk n a b c=some r->qai TP 223 [PV.agg (qvp.cells a),PV.int .i64 b,PV.int .i64 c] (qr6 r):=(q69 n)
abbrev q9s (r:Int):PV:=PV.int .i64 r
def qq0 (n:Nat) (a:Val):Option (Int):=
 match a with
 | ⟨b,c,d,e,f,g⟩=>
 bnd (qjk n (Val.mk b c d e f g) (32:Int) (0:Int)) fun⟨_,i⟩=>
 bif(!i)then(
 some (20:Int))
 else(
 some (0:Int))
theorem q67 (n:Nat):∀ (a:Val) (r:Int),qq0 n a=some r->qai TP 222 [PV.agg (qvp.cells a)] (q9s r):=by
 intro a r h;obtain⟨_,_,_,_,_,_⟩:=a;unfold qq0 at h;refine zN Tryz.call222 Tryz.func222 [1000000] ?_;conv=>whnf
 refine bq h fun⟨_,_⟩ b h=>?_;refine⟨_,(q9c n _ _ _ _ b),?_⟩;conv=>whnf
 apply ifc h<;>intro _ h
 ·obtain rfl:=sj h
  conv=>whnf
  try exact fin
 obtain rfl:=sj h;conv=>whnf
 try exact fin
abbrev q5h (r:Bool):PV:=PV.bool r
def qm9 (n:Nat) (c:Val):Option (Bool):=
 match c with
 | ⟨a,d,b,e,f,g⟩=>
 bnd (qq0 n (Val.mk a d b e f g)) fun i=>
 some (bif(i==0)then(bif(bif(decide (a<=1))then true else(bif(a==2)then(decide (b≥0))else false))then true else(a==3))else false)
theorem q3l (n:Nat):∀ (a:Val) (r:Bool),qm9 n a=some r->qai TP 219 [PV.agg (qvp.cells a)] (q5h r):=by
 intro a r h;obtain⟨_,_,_,_,_,_⟩:=a;unfold qm9 at h;refine zN Tryz.call219 Tryz.func219 [1000000] ?_;conv=>whnf
 refine bq h fun _ b h=>?_;refine⟨_,(q67 n _ _ b),?_⟩;conv=>whnf
 iterate 18 refine⟨id,?_⟩
 obtain rfl:=sj h;conv=>whnf
 try exact fin
abbrev q9p (r:Int):PV:=PV.int .i64 r
def qoe (n:Nat) (a:SS):Option (Int):=
 some (qec (qpp ([37]:SS) (7:Int) zq6) a (0:Int))
theorem q65 (n:Nat):∀ (a:SS) (r:Int),qoe n a=some r->qai TP 220 [PV.str a] (q9p r):=by
 intro a r h;unfold qoe at h;refine zN Tryz.call220 Tryz.func220 [1000000] ?_;conv=>whnf
 refine⟨_,qio qer (PV.int .i64) ([79,82]:SS) (1:Int) ([]:List (SS×Int)),?_⟩;conv=>whnf
 refine⟨_,qio qer (PV.int .i64) ([88,79,82]:SS) (2:Int) (qpp ([79,82]:SS) (1:Int) ([]:List (SS×Int))),?_⟩;conv=>whnf
 refine⟨_,qio qer (PV.int .i64) ([65,78,68]:SS) (3:Int) (qpp ([88,79,82]:SS) (2:Int) (qpp ([79,82]:SS) (1:Int) ([]:List (SS×Int)))),?_⟩;conv=>whnf
 refine⟨_,qio qer (PV.int .i64) ([61]:SS) (5:Int) zq7,?_⟩;conv=>whnf
 refine⟨_,qio qer (PV.int .i64) ([60,62]:SS) (5:Int) (qpp ([61]:SS) (5:Int) zq7),?_⟩;conv=>whnf
 refine⟨_,qio qer (PV.int .i64) ([60]:SS) (5:Int) zxq,?_⟩;conv=>whnf
 refine⟨_,qio qer (PV.int .i64) ([60,61]:SS) (5:Int) (qpp ([60]:SS) (5:Int) zxq),?_⟩;conv=>whnf
 refine⟨_,qio qer (PV.int .i64) ([62]:SS) (5:Int) (qpp ([60,61]:SS) (5:Int) (qpp ([60]:SS) (5:Int) zxq)),?_⟩;conv=>whnf
 refine⟨_,qio qer (PV.int .i64) ([62,61]:SS) (5:Int) (qpp ([62]:SS) (5:Int) (qpp ([60,61]:SS) (5:Int) (qpp ([60]:SS) (5:Int) zxq))),?_⟩;conv=>whnf
 refine⟨_,qio qer (PV.int .i64) ([73,78]:SS) (5:Int) zq5,?_⟩;conv=>whnf
 refine⟨_,qio qer (PV.int .i64) ([43]:SS) (6:Int) (qpp ([73,78]:SS) (5:Int) zq5),?_⟩;conv=>whnf
 refine⟨_,qio qer (PV.int .i64) ([45]:SS) (6:Int) zx5,?_⟩;conv=>whnf
 refine⟨_,qio qer (PV.int .i64) ([42]:SS) (7:Int) (qpp ([45]:SS) (6:Int) zx5),?_⟩;conv=>whnf
 refine⟨_,qio qer (PV.int .i64) ([47]:SS) (7:Int) (qpp ([42]:SS) (7:Int) (qpp ([45]:SS) (6:Int) zx5)),?_⟩;conv=>whnf
 refine⟨_,qio qer (PV.int .i64) ([37]:SS) (7:Int) zq6,?_⟩;conv=>whnf
 refine⟨PV.int .i64 (qec (qpp ([37]:SS) (7:Int) zq6) a (0:Int)),(q75 (qpp ([37]:SS) (7:Int) zq6) a),⟨qvi qer (PV.int .i64) (qpp ([37]:SS) (7:Int) zq6) a (0:Int),qvj qer (PV.int .i64) (qpp ([37]:SS) (7:Int) zq6) a⟩,?_⟩;obtain rfl:=sj h;conv=>whnf
 try exact fin
abbrev q2l (r:Bool):PV:=PV.bool r
def qd9 (n:Nat):Bool->Option (Bool):=fun a=>
 bif a then(
 some true)
 else(
 some false)
def qh4 (n:Nat) (a:SS):Option (Bool):=
 bif(a==([99,111,117,110,116]:SS))then(
 qd9 n (a==([99,111,117,110,116]:SS)))
 else(
 bif(a==([115,117,109]:SS))then(
 qd9 n (a==([115,117,109]:SS)))
 else(
 bif(a==([109,105,110]:SS))then(
 qd9 n (a==([109,105,110]:SS)))
 else(
 bif(a==([109,97,120]:SS))then(
 qd9 n (a==([109,97,120]:SS)))
 else(
 qd9 n (a==([99,111,108,108,101,99,116]:SS))))))
theorem qs7 (n:Nat):∀ (a:SS) (r:Bool),qh4 n a=some r->qai TP 221 [PV.str a] (q2l r):=by
 intro a r h;unfold qh4 at h;refine zN Tryz.call221 Tryz.func221 [1000000] ?_;conv=>whnf
 refine qhd.cut (S:=Bool) (fun c=>[(4,pB c)]) (fun c=>[]) (qd9 n) (r:=r) ?_ ?_
 ·intro c h
  unfold qd9 at h;conv=>whnf
  apply ifc h<;>intro b h
  ·obtain rfl:=sj h
   conv=>whnf
   try exact fin
  obtain rfl:=sj h;conv=>whnf
  try exact fin
 conv=>whnf
 apply ifc h<;>intro b h
 ·conv=>whnf
  exact⟨(a==([99,111,117,110,116]:SS)),h,wk [] []⟩
 conv=>whnf
 apply ifc h<;>intro b h
 ·conv=>whnf
  exact⟨(a==([115,117,109]:SS)),h,wk [] []⟩
 conv=>whnf
 apply ifc h<;>intro b h
 ·conv=>whnf
  exact⟨(a==([109,105,110]:SS)),h,wk [] []⟩
 conv=>whnf
 apply ifc h<;>intro b h
 ·conv=>whnf
  exact⟨(a==([109,97,120]:SS)),h,wk [] []⟩
 conv=>whnf
 exact⟨(a==([99,111,108,108,101,99,116]:SS)),h,wk [] []⟩
abbrev q9r (r:Int×Bool):PV:=PV.tup [PV.int .i64 r.1,PV.bool r.2]
def qbm (n:Nat) (a:SS) (b:Int) (c:List qaa):Bool->Option (Int×Bool):=fun f=>
 bif f then(
 some ((1:Int),(a==([]:SS))))
 else(
 bif(b==10)then(
 bnd (qoe n a) fun g=>
 some ((2:Int),(decide (g>0))))
 else(
 bif(b==13)then(
 bnd (qe3 n a) fun d=>
 bnd (qaw d (qh4 n a)) fun i=>
 some ((-1:Int),(bif d then(!i)else false)))
 else(
 bif(b==14)then(
 bif(((qaa.rows c).length:Int)==0)then(
 some ((0:Int),(a==([99,111,117,110,116]:SS))))
 else(
 bnd (qh4 n a) fun j=>
 some ((1:Int),j)))
 else(
 bif(b==15)then(
 bnd (qlc n a) fun e=>
 bnd (qaw (bif e then(((qaa.rows c).length:Int)==1)else false) (idx c (0:Int))) fun⟨k,_,⟨_,_,_,_,_,_⟩,_,_⟩=>
 some ((1:Int),(bif(bif e then(((qaa.rows c).length:Int)==1)else false)then(k==2)else false)))
 else(
 some ((0:Int),false))))))
def qbw (n:Nat) (b:SS) (a:Int) (g:List SS) (c:List qaa):Bool->Option (Int×Bool):=fun d=>
 bif d then(
 bnd (qe3 n b) fun e=>
 some ((0:Int),e))
 else(
 bif(a==4)then(
 bnd (qlc n b) fun f=>
 some ((1:Int),f))
 else(
 bif(a==5)then(
 some ((-1:Int),(b==([]:SS))))
 else(
 bif(a==6)then(
 some (((qak g).length:Int),(b==([]:SS))))
 else(
 bif(a==7)then(
 some ((2:Int),(b==([]:SS))))
 else(
 bif(a==8)then(
 qbm n b a c (a==8))
 else(
 bif(a==9)then(
 qbm n b a c (a==9))
 else(
 bif(a==11)then(
 qbm n b a c (a==11))
 else(
 qbm n b a c (a==12)))))))))
def qci (n:Nat) (e:qaa):Option (Int×Bool):=
 match e with
 | ⟨a,b,⟨g,i,j,k,l,m⟩,d,c⟩=>
 bif(a==1)then(
 bnd (qaw (b==([]:SS)) (qm9 n (Val.mk g i j k l m))) fun f=>
 some ((0:Int),(bif(b==([]:SS))then f else false)))
 else(
 bif(a==2)then(
 qbw n b a d c (a==2))
 else(
 qbw n b a d c (a==3)))
set_option maxHeartbeats 4000000 in
theorem q66 (n:Nat):∀ (d:qaa) (r:Int×Bool),qci n d=some r->qai TP 218 [PV.agg (qck.cells d)] (q9r r):=by
 intro d r h;obtain⟨b,f,⟨k,l,m,o,p,q⟩,j,e⟩:=d;unfold qci at h;refine zN Tryz.call218 Tryz.func218 [1000000] ?_;conv=>whnf
 apply ifc h<;>intro a h
 ·conv=>whnf
  refine⟨id,id,?_⟩;conv=>whnf
  refine bq h fun _ s h=>?_;refine⟨_,fun c=>(q3l n _ _ (qac s c)),?_⟩;conv=>whnf
  refine⟨id,?_⟩;obtain rfl:=sj h;conv=>whnf
  try exact fin
 conv=>whnf
 refine qhd.cut (S:=Bool) (fun g=>[(1,.ptr 0 0),(5,pI b),(16,pB g)]) (fun g=>[.box 46 [pI b,pS f,pI k,pB l,pI m,pS o,pV p,pT q,pT j,pE e]]) (qbw n f b j e) (r:=r) ?_ ?_
 ·intro g h
  unfold qbw at h;conv=>whnf
  apply ifc h<;>intro a h
  ·conv=>whnf
   refine bq h fun _ t h=>?_;refine⟨_,(qf3 n _ _ t),?_⟩;obtain rfl:=sj h;conv=>whnf
   try exact fin
  conv=>whnf
  apply ifc h<;>intro a h
  ·conv=>whnf
   refine bq h fun _ u h=>?_;refine⟨_,(qmd n _ _ u),?_⟩;obtain rfl:=sj h;conv=>whnf
   try exact fin
  conv=>whnf
  apply ifc h<;>intro a h
  ·obtain rfl:=sj h
   conv=>whnf
   try exact fin
  conv=>whnf
  apply ifc h<;>intro a h
  ·obtain rfl:=sj h
   conv=>whnf
   try exact fin
  conv=>whnf
  apply ifc h<;>intro a h
  ·obtain rfl:=sj h
   conv=>whnf
   try exact fin
  conv=>whnf
  refine qhd.cut (S:=Bool) (fun i=>[(1,.ptr 0 0),(5,pI b),(45,pB i)]) (fun i=>[.box 46 [pI b,pS f,pI k,pB l,pI m,pS o,pV p,pT q,pT j,pE e]]) (qbm n f b e) (r:=r) ?_ ?_
  ·intro i h
   unfold qbm at h;conv=>whnf
   apply ifc h<;>intro a h
   ·obtain rfl:=sj h
    conv=>whnf
    try exact fin
   conv=>whnf
   apply ifc h<;>intro a h
   ·conv=>whnf
    refine bq h fun _ v h=>?_;refine⟨_,(q65 n _ _ v),?_⟩;obtain rfl:=sj h;conv=>whnf
    try exact fin
   conv=>whnf
   apply ifc h<;>intro a h
   ·conv=>whnf
    refine bq h fun _ x h=>?_;refine⟨_,(qf3 n _ _ x),?_⟩;(conv=>whnf);refine⟨id,id,?_⟩;(conv=>whnf);refine bq h fun _ w h=>?_;refine⟨_,fun c=>(qs7 n _ _ (qac w c)),?_⟩;(conv=>whnf);refine⟨id,id,?_⟩;obtain rfl:=sj h;conv=>whnf
    try exact fin
   conv=>whnf
   apply ifc h<;>intro a h
   ·conv=>whnf
    apply ifc h<;>intro a h
    ·obtain rfl:=sj h
     conv=>whnf
     try exact fin
    (conv=>whnf);refine bq h fun _ y h=>?_
    refine⟨_,(qs7 n _ _ y),?_⟩;obtain rfl:=sj h;conv=>whnf
    try exact fin
   conv=>whnf
   apply ifc h<;>intro a h
   ·conv=>whnf
    refine bq h fun _ A h=>?_;refine⟨_,(qmd n _ _ A),?_⟩;conv=>whnf
    iterate 6 refine⟨id,?_⟩
    (conv=>whnf);refine bq h fun⟨_,_,⟨_,_,_,_,_,_⟩,_,_⟩ z h=>?_
    refine⟨_,fun c=>Codec.at_ qck (qac z c),?_⟩;(conv=>whnf);refine⟨id,id,id,id,?_⟩;obtain rfl:=sj h;conv=>whnf
    try exact fin
   obtain rfl:=sj h;conv=>whnf
   try exact fin
  conv=>whnf
  apply ifc h<;>intro a h
  ·conv=>whnf
   exact⟨(b==8),h,wk [0] []⟩
  conv=>whnf
  apply ifc h<;>intro a h
  ·conv=>whnf
   exact⟨(b==9),h,wk [0] []⟩
  conv=>whnf
  apply ifc h<;>intro a h
  ·conv=>whnf
   exact⟨(b==11),h,wk [0] []⟩
  conv=>whnf
  exact⟨(b==12),h,wk [0] []⟩
 conv=>whnf
 apply ifc h<;>intro a h
 ·conv=>whnf
  exact⟨(b==2),h,wk [0] []⟩
 conv=>whnf
 exact⟨(b==3),h,wk [0] []⟩
abbrev qq5 (r:Bool):PV:=PV.bool r
abbrev zxj:Type:=qaa->Int->Option (Bool)
def qhc (n:Nat) (b:List qaa) (g217:zxj) (d:Int):LK (Int) (Bool):=fun c a=>
 bif(decide (a<((qaa.rows b).length:Int)))then(
 bnd (idx b a) fun⟨e,f,⟨g,i,j,k,l,m⟩,o,p⟩=>
 bnd (g217 (qaa.mk e f (Val.mk g i j k l m) o p) (kwr .i64 (d - 1))) fun q=>
 bif(!q)then(
 some false)
 else(
 c (kwr .i64 (a+1))))
 else(
 some true)
def qhb (n:Nat) (b:List SS) (d:List qaa) (g217:zxj) (e:Int):LK (Int) (Bool):=fun c a=>
 bif(decide (a<((qak b).length:Int)))then(
 bnd (idx b a) fun f=>
 bnd (qlc n f) fun g=>
 bif(!g)then(
 some false)
 else(
 c (kwr .i64 (a+1))))
 else(
 qam (qhc n d g217 e) n (0:Int))
def qos (n:Nat) (g217:zxj) (o:qaa) (d:Int):Option (Bool):=
 match o with
 | ⟨a,q,⟨g,i,j,k,l,m⟩,e,b⟩=>
 bnd (qci n (qaa.mk a q (Val.mk g i j k l m) e b)) fun⟨c,f⟩=>
 bnd (qaw ((!(bif(bif(!f)then true else(decide (d<1)))then true else(bif(decide (c≥0))then(((qaa.rows b).length:Int) != c)else false)))&&(a != 1)) (qhw n (Val.mk g i j k l m) (Val.mk (0:Int) false (0:Int) ([]:SS) ([]:List Val) ([]:List SS)))) fun p=>
 bif(bif(bif(bif(bif(!f)then true else(decide (d<1)))then true else(bif(decide (c≥0))then(((qaa.rows b).length:Int) != c)else false))then true else(bif(a != 1)then(!p)else false))then true else(bif(a != 6)then(decide (((qak e).length:Int)>0))else false))then(
 some false)
 else(
 qam (qhb n e b g217 d) n (0:Int))
set_option maxHeartbeats 4000000 in
theorem q40 (n:Nat) (g217:zxj) (g217_ok:∀ (b:qaa) (a:Int) (r:Bool),g217 b a=some r->qai TP 217 [PV.agg (qck.cells b),PV.int .i64 a] (qq5 r)):∀ (b:qaa) (a:Int) (r:Bool),qos n g217 b a=some r->qai TP 217 [PV.agg (qck.cells b),PV.int .i64 a] (qq5 r):=by
 intro b a r h;obtain⟨s,t,⟨u,v,w,x,y,z⟩,g,c⟩:=b;unfold qos at h;refine zN Tryz.call217 Tryz.func217 [1000000] ?_;conv=>whnf
 refine bq h fun⟨_,_⟩ o h=>?_;refine⟨_,(q66 n _ _ o),?_⟩;conv=>whnf
 iterate 17 refine⟨id,?_⟩
 conv=>whnf
 refine bq h fun _ m h=>?_;refine⟨_,fun q=>(qai.leArgs (qzq n _ _ _ (qac m q)) (by try exact fin)),?_⟩;conv=>whnf
 iterate 13 refine⟨id,?_⟩
 conv=>whnf
 apply ifc h<;>intro d h
 ·obtain rfl:=sj h
  conv=>whnf
  try exact fin
 conv=>whnf
 refine qbh.fn [1000000] (S:=Int) (fun e=>[(1,pI a),(2,.ptr 0 0),(57,pT g),(58,.p (.int .i64 ((qak g).length:Int))),(59,pI e)]) (fun e=>[.box 46 [pI s,pS t,pI u,pB v,pI w,pS x,pV y,pT z,pT g,pE c]]) (B:=qhb n g c g217 a) h (wk [0] []) ?_;intro _ e h;unfold qhb at h;conv=>whnf
 apply ifc h<;>intro d h
 ·conv=>whnf
  refine bq h fun _ j h=>?_;refine⟨_,Codec.at_ qpr j,?_⟩;conv=>whnf
  refine bq h fun _ i h=>?_;refine⟨_,(qmd n _ _ i),?_⟩;conv=>whnf
  apply ifc h<;>intro d h
  ·obtain rfl:=sj h
   conv=>whnf
   try exact fin
  conv=>whnf
  exact⟨(kwr .i64 (e+1)),h,wk [0] []⟩
 conv=>whnf
 refine qbh.fn [1000000] (S:=Int) (fun f=>[(1,pI a),(68,pE c),(69,.p (.int .i64 ((qaa.rows c).length:Int))),(70,pI f)]) (fun f=>[]) (B:=qhc n c g217 a) h (wk [] []) ?_;intro _ f h;unfold qhc at h;conv=>whnf
 apply ifc h<;>intro d h
 ·conv=>whnf
  refine bq h fun⟨_,_,⟨_,_,_,_,_,_⟩,_,_⟩ l h=>?_;refine⟨_,Codec.at_ qck l,?_⟩;conv=>whnf
  refine bq h fun _ k h=>?_;refine⟨_,(g217_ok _ _ _ k),?_⟩;conv=>whnf
  apply ifc h<;>intro d h
  ·obtain rfl:=sj h
   conv=>whnf
   try exact fin
  conv=>whnf
  exact⟨(kwr .i64 (f+1)),h,wk [] []⟩
 obtain rfl:=sj h;conv=>whnf
 try exact fin
def qc5:Nat->qaa->Int->Option (Bool)
 | 0=>fun _ _=>none
 | n+1=>qos n (qc5 n)
theorem q48 (n:Nat):(∀ (a:qaa) (b:Int) (r:Bool),qc5 n a b=some r->qai TP 217 [PV.agg (qck.cells a),PV.int .i64 b] (qq5 r)):=by
 induction n with
 | zero=>exact(by intros; rename_i h; cases h)
 | succ n ih=>
  have hg217:=ih;exact q40 n (qc5 n) hg217
theorem qs2 (n:Nat):∀ (a:qaa) (b:Int) (r:Bool),qc5 n a b=some r->qai TP 217 [PV.agg (qck.cells a),PV.int .i64 b] (qq5 r):=(q48 n)
abbrev q2u (r:Bool):PV:=PV.bool r
def qfx (n:Nat) (c:List SS) (m:List qaa):LK (Int) (Bool):=fun d a=>
 bif(decide (a<((qak c).length:Int)))then(
 bnd (idx c a) fun o=>
 bnd (qlc n o) fun b=>
 bnd (qaw (!(!b)) (idx m a)) fun⟨p,q,⟨s,t,e,f,g,i⟩,j,k⟩=>
 bnd (qaw (!(!b)) (qc5 n (qaa.mk p q (Val.mk s t e f g i) j k) (32:Int))) fun l=>
 bif(bif(!b)then true else(!l))then(
 some false)
 else(
 d (kwr .i64 (a+1))))
 else(
 some true)
def qh8 (n:Nat) (c:q5a):Option (Bool):=
 match c with
 | ⟨a,b⟩=>
 bif(((qak a).length:Int) != ((qaa.rows b).length:Int))then(
 some false)
 else(
 qam (qfx n a b) n (0:Int))
theorem qs8 (n:Nat):∀ (a:q5a) (r:Bool),qh8 n a=some r->qai TP 216 [PV.agg (zwu.cells a)] (q2u r):=by
 intro a r h;obtain⟨b,f⟩:=a;unfold qh8 at h;refine zN Tryz.call216 Tryz.func216 [1000000] ?_;conv=>whnf
 apply ifc h<;>intro e h
 ·obtain rfl:=sj h
  conv=>whnf
  try exact fin
 conv=>whnf
 refine qbh.fn [1000000] (S:=Int) (fun c=>[(1,.ptr 0 0),(13,pT b),(14,.p (.int .i64 ((qak b).length:Int))),(15,pI c)]) (fun c=>[.box 263 [pT b,pE f]]) (B:=qfx n b f) h (wk [0] []) ?_;intro _ c h;unfold qfx at h;conv=>whnf
 apply ifc h<;>intro e h
 ·conv=>whnf
  refine bq h fun _ k h=>?_;refine⟨_,Codec.at_ qpr k,?_⟩;conv=>whnf
  refine bq h fun _ j h=>?_;refine⟨_,(qmd n _ _ j),?_⟩;conv=>whnf
  refine⟨id,id,id,?_⟩;conv=>whnf
  refine bq h fun⟨_,_,⟨_,_,_,_,_,_⟩,_,_⟩ i h=>?_;refine⟨_,fun d=>Codec.at_ qck (qac i d),?_⟩;conv=>whnf
  refine⟨id,id,?_⟩;conv=>whnf
  refine bq h fun _ g h=>?_;refine⟨_,fun d=>(qs2 n _ _ _ (qac g d)),?_⟩;conv=>whnf
  refine⟨id,id,?_⟩;conv=>whnf
  apply ifc h<;>intro e h
  ·obtain rfl:=sj h
   conv=>whnf
   try exact fin
  conv=>whnf
  exact⟨(kwr .i64 (c+1)),h,wk [0] []⟩
 obtain rfl:=sj h;conv=>whnf
 try exact fin
abbrev q3w (r:Bool):PV:=PV.bool r
def qgf (n:Nat) (c:List SS) (a:SS) (f:List SS) (g:List qaa):LK (Int) (Bool):=fun e b=>
 bif(decide (b<((qak c).length:Int)))then(
 bnd (idx c b) fun i=>
 bnd (qlc n i) fun j=>
 bif(!j)then(
 some false)
 else(
 e (kwr .i64 (b+1))))
 else(
 bnd (qaw (!(a==([]:SS))) (qe3 n a)) fun d=>
 bnd (qaw (bif(a==([]:SS))then true else d) (qh8 n (q5a.mk f g))) fun k=>
 some (bif(bif(a==([]:SS))then true else d)then k else false))
def qe2 (n:Nat) (a:qae):Option (Bool):=
 match a with
 | ⟨b,c,d,e⟩=>
 qam (qgf n c b d e) n (0:Int)
theorem q2f (n:Nat):∀ (a:qae) (r:Bool),qe2 n a=some r->qai TP 213 [PV.agg (qd2.cells a)] (q3w r):=by
 intro a r h;obtain⟨e,b,f,g⟩:=a;unfold qe2 at h;refine zN Tryz.call213 Tryz.func213 [1000000] ?_;conv=>whnf
 refine qbh.fn [1000000] (S:=Int) (fun c=>[(1,.ptr 0 0),(6,pT b),(7,.p (.int .i64 ((qak b).length:Int))),(8,pI c)]) (fun c=>[.box 260 [pS e,pT b,pT f,pE g]]) (B:=qgf n b e f g) h (wk [0] []) ?_;intro _ c h;unfold qgf at h;conv=>whnf
 apply ifc h<;>intro m h
 ·conv=>whnf
  refine bq h fun _ j h=>?_;refine⟨_,Codec.at_ qpr j,?_⟩;conv=>whnf
  refine bq h fun _ i h=>?_;refine⟨_,(qmd n _ _ i),?_⟩;conv=>whnf
  apply ifc h<;>intro m h
  ·obtain rfl:=sj h
   conv=>whnf
   try exact fin
  conv=>whnf
  exact⟨(kwr .i64 (c+1)),h,wk [0] []⟩
 conv=>whnf
 refine⟨id,id,?_⟩;conv=>whnf
 refine bq h fun _ l h=>?_;refine⟨_,fun d=>(qf3 n _ _ (qac l d)),?_⟩;conv=>whnf
 iterate 6 refine⟨id,?_⟩
 conv=>whnf
 refine bq h fun _ k h=>?_;refine⟨_,fun d=>(qs8 n _ _ (qac k d)),?_⟩;conv=>whnf
 refine⟨id,?_⟩;obtain rfl:=sj h;conv=>whnf
 try exact fin
abbrev q3s (r:Bool):PV:=PV.bool r
def qen (n:Nat) (f:qag):Option (Bool):=
 match f with
 | ⟨a,b,c,g,i⟩=>
 bnd (qaw (!(a==([]:SS))) (qe3 n a)) fun d=>
 bnd (qaw ((bif(a==([]:SS))then true else d)&&(!(b==([]:SS)))) (qlc n b)) fun e=>
 bnd (qaw (bif(bif(bif(bif(a==([]:SS))then true else d)then(bif(b==([]:SS))then true else e)else false)then(decide (c≥0))else false)then(decide (c<=2))else false) (qh8 n (q5a.mk g i))) fun j=>
 some (bif(bif(bif(bif(bif(a==([]:SS))then true else d)then(bif(b==([]:SS))then true else e)else false)then(decide (c≥0))else false)then(decide (c<=2))else false)then j else false)
theorem q2c (n:Nat):∀ (b:qag) (r:Bool),qen n b=some r->qai TP 214 [PV.agg (qg1.cells b)] (q3s r):=by
 intro b r h;obtain⟨_,_,_,_,_⟩:=b;unfold qen at h;refine zN Tryz.call214 Tryz.func214 [1000000] ?_;conv=>whnf
 refine⟨id,id,?_⟩;conv=>whnf
 refine bq h fun _ e h=>?_;refine⟨_,fun a=>(qf3 n _ _ (qac e a)),?_⟩;conv=>whnf
 iterate 6 refine⟨id,?_⟩
 conv=>whnf
 refine bq h fun _ d h=>?_;refine⟨_,fun a=>(qmd n _ _ (qac d a)),?_⟩;conv=>whnf
 iterate 14 refine⟨id,?_⟩
 conv=>whnf
 refine bq h fun _ c h=>?_;refine⟨_,fun a=>(qs8 n _ _ (qac c a)),?_⟩;conv=>whnf
 refine⟨id,?_⟩;obtain rfl:=sj h;conv=>whnf
 try exact fin
abbrev qve (r:Bool):PV:=PV.bool r
def qei (n:Nat) (c:List qae) (k:List qag):LK (Int) (Bool):=fun d a=>
 bif(decide (a<((qae.rows c).length:Int)))then(
 bnd (idx c a) fun⟨l,m,o,p⟩=>
 bnd (qe2 n (qae.mk l m o p)) fun b=>
 bnd (qaw ((!(!b))&&(decide (a>0))) (idx k (kwr .i64 (a - 1)))) fun⟨q,e,f,g,i⟩=>
 bnd (qaw ((!(!b))&&(decide (a>0))) (qen n (qag.mk q e f g i))) fun j=>
 bif(bif(!b)then true else(bif(decide (a>0))then(!j)else false))then(
 some false)
 else(
 d (kwr .i64 (a+1))))
 else(
 some true)
def qiv (n:Nat) (c:qa9):Option (Bool):=
 match c with
 | ⟨a,b⟩=>
 bif(((qae.rows a).length:Int) != (kwr .i64 (((qag.rows b).length:Int)+1)))then(
 some false)
 else(
 qam (qei n a b) n (0:Int))
theorem q2g (n:Nat):∀ (a:qa9) (r:Bool),qiv n a=some r->qai TP 211 [PV.agg (qlh.cells a)] (qve r):=by
 intro a r h;obtain⟨d,f⟩:=a;unfold qiv at h;refine zN Tryz.call211 Tryz.func211 [1000000] ?_;conv=>whnf
 apply ifc h<;>intro e h
 ·obtain rfl:=sj h
  conv=>whnf
  try exact fin
 conv=>whnf
 refine qbh.fn [1000000] (S:=Int) (fun b=>[(1,.ptr 0 0),(14,.p (.int .i64 ((qae.rows d).length:Int))),(15,pI b)]) (fun b=>[.box 193 [pN d,pG f]]) (B:=qei n d f) h (wk [0] []) ?_;intro _ b h;unfold qei at h;conv=>whnf
 apply ifc h<;>intro e h
 ·conv=>whnf
  refine bq h fun⟨_,_,_,_⟩ k h=>?_;refine⟨_,Codec.at_ qd2 k,?_⟩;conv=>whnf
  refine bq h fun _ j h=>?_;refine⟨_,(q2f n _ _ j),?_⟩;conv=>whnf
  iterate 6 refine⟨id,?_⟩
  conv=>whnf
  refine bq h fun⟨_,_,_,_,_⟩ i h=>?_;refine⟨_,fun c=>Codec.at_ qg1 (qac i c),?_⟩;conv=>whnf
  refine⟨id,id,?_⟩;conv=>whnf
  refine bq h fun _ g h=>?_;refine⟨_,fun c=>(q2c n _ _ (qac g c)),?_⟩;conv=>whnf
  refine⟨id,id,id,id,?_⟩;conv=>whnf
  apply ifc h<;>intro e h
  ·obtain rfl:=sj h
   conv=>whnf
   try exact fin
  conv=>whnf
  exact⟨(kwr .i64 (b+1)),h,wk [0] []⟩
 obtain rfl:=sj h;conv=>whnf
 try exact fin
abbrev q3t (r:Bool):PV:=PV.bool r
def qg9 (n:Nat) (a:qaa):Option (Bool):=
 match a with
 | ⟨b,e,⟨f,g,i,j,k,l⟩,m,c⟩=>
 bnd (qc5 n (qaa.mk b e (Val.mk f g i j k l) m c) (32:Int)) fun d=>
 some d
theorem qpy (n:Nat):∀ (a:qaa) (r:Bool),qg9 n a=some r->qai TP 226 [PV.agg (qck.cells a)] (q3t r):=by
 intro a r h;obtain⟨_,_,⟨_,_,_,_,_,_⟩,_,_⟩:=a;unfold qg9 at h;refine zN Tryz.call226 Tryz.func226 [1000000] ?_;conv=>whnf
 refine bq h fun _ b h=>?_;refine⟨_,(qs2 n _ _ _ b),?_⟩;obtain rfl:=sj h;conv=>whnf
 try exact fin
abbrev q3u (r:Bool):PV:=PV.bool r
def qpm (n:Nat) (b:qbn):Option (Bool):=
 match b with
 | ⟨⟨c,g,⟨i,j,k,l,m,o⟩,p,d⟩,e⟩=>
 bnd (qe3 n e) fun a=>
 bnd (qaw a (qg9 n (qaa.mk c g (Val.mk i j k l m o) p d))) fun f=>
 some (bif a then f else false)
theorem q2d (n:Nat):∀ (a:qbn) (r:Bool),qpm n a=some r->qai TP 228 [PV.agg (qst.cells a)] (q3u r):=by
 intro a r h;obtain⟨⟨_,_,⟨_,_,_,_,_,_⟩,_,_⟩,_⟩:=a;unfold qpm at h;refine zN Tryz.call228 Tryz.func228 [1000000] ?_;conv=>whnf
 refine bq h fun _ c h=>?_;refine⟨_,(qf3 n _ _ c),?_⟩;conv=>whnf
 refine⟨id,id,?_⟩;conv=>whnf
 refine bq h fun _ b h=>?_;refine⟨_,fun d=>(qpy n _ _ (qac b d)),?_⟩;conv=>whnf
 refine⟨id,?_⟩;obtain rfl:=sj h;conv=>whnf
 try exact fin
abbrev q1m (r:Bool):PV:=PV.bool r
def qmm (n:Nat) (a:qat):Option (Bool):=
 match a with
 | ⟨⟨b,e,⟨f,g,i,j,k,l⟩,m,c⟩,_⟩=>
 bnd (qg9 n (qaa.mk b e (Val.mk f g i j k l) m c)) fun d=>
 some d
theorem qzn (n:Nat):∀ (a:qat) (r:Bool),qmm n a=some r->qai TP 230 [PV.agg (qqf.cells a)] (q1m r):=by
 intro a r h;obtain⟨⟨_,_,⟨_,_,_,_,_,_⟩,_,_⟩,_⟩:=a;unfold qmm at h;refine zN Tryz.call230 Tryz.func230 [1000000] ?_;conv=>whnf
 refine bq h fun _ b h=>?_;refine⟨_,(qpy n _ _ b),?_⟩;obtain rfl:=sj h;conv=>whnf
 try exact fin
abbrev q3v (r:Bool):PV:=PV.bool r
def qpn (n:Nat) (a:SS):Option (Bool):=
 bnd (qe3 n a) fun b=>
 some b
theorem q2e (n:Nat):∀ (a:SS) (r:Bool),qpn n a=some r->qai TP 232 [PV.str a] (q3v r):=by
 intro a r h;unfold qpn at h;refine zN Tryz.call232 Tryz.func232 [1000000] ?_;conv=>whnf
 refine bq h fun _ b h=>?_;refine⟨_,(qf3 n _ _ b),?_⟩;obtain rfl:=sj h;conv=>whnf
 try exact fin
abbrev q1l (r:Bool):PV:=PV.bool r
def qg0 (n:Nat) (o:qu6):Option (Bool):=
 match o with
 | ⟨⟨p,a,f,⟨g,i,⟨j,k,l,m,b,c⟩,d,e⟩⟩,q⟩=>
 bnd (qe3 n p) fun s=>
 bif(bif(bif(!s)then true else((a==([]:SS))==(f==([]:SS))))then true else(decide ((kwr .i64 (((a.length:Nat):Int)+((f.length:Nat):Int)))>64)))then(
 some false)
 else(
 bif(bif q then(!(a==([]:SS)))else false)then(
 bnd (qc5 n (qaa.mk g i (Val.mk j k l m b c) d e) (32:Int)) fun t=>
 some t)
 else(
 bnd (qjh n (qaa.mk g i (Val.mk j k l m b c) d e)) fun u=>
 some u))
theorem qzm (n:Nat):∀ (a:qu6) (r:Bool),qg0 n a=some r->qai TP 234 [PV.agg (zup.cells a)] (q1l r):=by
 intro a r h;obtain⟨⟨_,_,_,⟨_,_,⟨_,_,_,_,_,_⟩,_,_⟩⟩,_⟩:=a;unfold qg0 at h;refine zN Tryz.call234 Tryz.func234 [1000000] ?_;conv=>whnf
 refine bq h fun _ d h=>?_;refine⟨_,(qf3 n _ _ d),?_⟩;conv=>whnf
 iterate 19 refine⟨id,?_⟩
 conv=>whnf
 apply ifc h<;>intro e h
 ·obtain rfl:=sj h
  conv=>whnf
  try exact fin
 conv=>whnf
 refine⟨id,id,id,id,?_⟩;conv=>whnf
 apply ifc h<;>intro e h
 ·conv=>whnf
  refine bq h fun _ b h=>?_;refine⟨_,(qs2 n _ _ _ b),?_⟩;obtain rfl:=sj h;conv=>whnf
  try exact fin
 conv=>whnf
 refine bq h fun _ c h=>?_;refine⟨_,(qyk n _ _ c),?_⟩;obtain rfl:=sj h;conv=>whnf
 try exact fin
def qqb (n:Nat):qb4->Option (Bool)
 | .path x=>qiv n x
 | .expr x=>qg9 n x
 | .item x=>qpm n x
 | .sorted x=>qmm n x
 | .name x=>qpn n x
 | .change x=>qg0 n x
def q6c:qb4->FuncId
 | .path _=>211
 | .expr _=>226
 | .item _=>228
 | .sorted _=>230
 | .name _=>232
 | .change _=>234
theorem zeb (n:Nat):∀ (x:qb4) (r:Bool),qqb n x=some r->zkt TP x.tid "wattle/spell.may" (q6c x)/\qai TP (q6c x) [x.val] (qve r)
 | .path x,r,h=>⟨fun _ _=>rfl,q2g n x r h⟩
 | .expr x,r,h=>⟨fun _ _=>rfl,qpy n x r h⟩
 | .item x,r,h=>⟨fun _ _=>rfl,q2d n x r h⟩
 | .sorted x,r,h=>⟨fun _ _=>rfl,qzn n x r h⟩
 | .name x,r,h=>⟨fun _ _=>rfl,q2e n x r h⟩
 | .change x,r,h=>⟨fun _ _=>rfl,qzm n x r h⟩
end W
end
