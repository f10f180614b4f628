/- A part of the proof: contracts, printed by program. -/
import Derived.Test.YtmblnmgpmdapnaaGreatB
import Derived.Test.YtmblnmgpmdapnaaGreatD
import Derived.Test.YtmblnmgpmdapnaaGreatG
set_option linter.unusedVariables false
set_option linter.unusedSimpArgs false
set_option linter.unnecessarySimpa false
set_option linter.deprecated false
set_option linter.unusedSectionVars false
set_option linter.constructorNameAsVariable false
section
set_option maxRecDepth 100000
open Go Go.Proofs Ax
namespace W
abbrev zb2 (r:Bool):PV:=PV.bool r
def qp2 (n:Nat) (p:qag) (s:Bool):Option (Bool):=
 match p with
 | ⟨q,o,e,⟨f,g,⟨i,j,k,l,a,b⟩,c,d⟩⟩=>
 bnd (qgb n q) fun t=>
 bif(!t)then(
 some false)
 else(
 bif(o==([]:SS))then(
 bnd (qkh n e) fun m=>
 bnd (qaw m (qtu n (qaa.mk f g (Val.mk i j k l a b) c d))) fun u=>
 some (bif m then u else false))
 else(
 bnd (qaw (!(!(e==([]:SS)))) (qkh n o)) fun v=>
 bif(bif(!(e==([]:SS)))then true else(!v))then(
 some false)
 else(
 bif s then(
 bnd (qfn n (qaa.mk f g (Val.mk i j k l a b) c d)) fun w=>
 some w)
 else(
 bnd (qtu n (qaa.mk f g (Val.mk i j k l a b) c d)) fun x=>
 some x))))
theorem q8r (n:Nat):∀ (a:qag) (d r:Bool),qp2 n a d=some r->qac Tryz.prog 72 [PV.agg (qjp.cells a),PV.bool d] (zb2 r):=by
 intro a d r h;obtain⟨_,_,_,⟨_,_,⟨_,_,_,_,_,_⟩,_,_⟩⟩:=a;unfold qp2 at h;refine qac.of_vcN mixed (fun _ _=>Tryz.call72 _ _) Tryz.func72 (by kernel_rfl) (inl:=[1000000]) ?_;conv=>whnf
 refine bq h fun _ k h=>?_;refine⟨_,(qgj n _ _ k),?_⟩;conv=>whnf
 apply ifc h<;>intro b h
 ·obtain rfl:=sj h
  conv=>whnf
  try exact fin
 ·conv=>whnf
  apply ifc h<;>intro b h
  ·conv=>whnf
   refine bq h fun _ f h=>?_;refine⟨_,(qiz n _ _ f),?_⟩;conv=>whnf
   refine⟨id,id,?_⟩;conv=>whnf
   refine bq h fun _ e h=>?_;refine⟨_,fun c=>(q3f n _ _ (qad e c)),?_⟩;conv=>whnf
   refine⟨id,?_⟩;obtain rfl:=sj h;conv=>whnf
   try exact fin
  ·conv=>whnf
   refine⟨id,id,?_⟩;conv=>whnf
   refine bq h fun _ j h=>?_;refine⟨_,fun c=>(qiz n _ _ (qad j c)),?_⟩;conv=>whnf
   refine⟨id,id,?_⟩;conv=>whnf
   apply ifc h<;>intro b h
   ·obtain rfl:=sj h
    conv=>whnf
    try exact fin
   ·conv=>whnf
    apply ifc h<;>intro b h
    ·conv=>whnf
     refine bq h fun _ g h=>?_;refine⟨_,(qis n _ _ g),?_⟩;obtain rfl:=sj h;conv=>whnf
     try exact fin
    ·conv=>whnf
     refine bq h fun _ i h=>?_;refine⟨_,(q3f n _ _ i),?_⟩;obtain rfl:=sj h;conv=>whnf
     try exact fin
abbrev q5f (r:Bool):PV:=PV.bool r
def qfp (n:Nat) (a:List qag) (d:Int):(Int->Option (Bool))->Int->Option (Bool):=fun c b=>
 bif(decide (b<((qag.rows a).length:Int)))then(
 bnd (idx a b) fun⟨e,f,g,⟨i,j,⟨k,l,m,o,p,q⟩,s,t⟩⟩=>
 bnd (qp2 n (qag.mk e f g (qaa.mk i j (Val.mk k l m o p q) s t)) (d==6)) fun u=>
 bif(!u)then(
 some false)
 else(
 c (IntKind.i64.wrap (b+1))))
 else(
 some (decide (((qag.rows a).length:Int)>0)))
def qfq (n:Nat) (a:List SS):(Int->Option (Bool))->Int->Option (Bool):=fun c b=>
 bif(decide (b<((qak a).length:Int)))then(
 bnd (idx a b) fun d=>
 bnd (qgb n d) fun e=>
 bif(!e)then(
 some false)
 else(
 c (IntKind.i64.wrap (b+1))))
 else(
 some (decide (((qak a).length:Int)>0)))
def qi4 (n:Nat) (b:List qag) (a:Int) (c:List SS):Bool->Option (Bool):=fun d=>
 bif d then(
 qam (qfp n b a) n (0:Int))
 else(
 bif(a==8)then(
 qam (qfq n c) n (0:Int))
 else(
 some false))
def qi3 (n:Nat) (a:Int) (b:List qa9) (e:List qaa) (u:Int) (v:SS) (z:Int) (A:Bool) (B:Int) (C:SS) (g:List Val) (i j:List SS) (k:List qaa) (l:SS) (m:List qbo) (o:Bool) (p:List qat) (q s:List qaa) (c:List qag) (d:List SS) (t:Bool):Bool->Option (Bool):=fun w=>
 bif w then(
 bnd (qwm n (qab.mk a b e (qaa.mk u v (Val.mk z A B C g i) j k) l m o p q s c d t)) fun f=>
 bnd (qaw f (qmz n e (1:Int))) fun x=>
 some (bif f then x else false))
 else(
 bif(a==4)then(
 some (decide (((qa9.rows b).length:Int)>0)))
 else(
 bif(a==5)then(
 bnd (qaw (((qa9.rows b).length:Int)==1) (idx b (0:Int))) fun⟨_,y⟩=>
 some (bif(((qa9.rows b).length:Int)==1)then(((qah.rows y).length:Int)==0)else false))
 else(
 bif(a==6)then(
 qi4 n c a d (a==6))
 else(
 qi4 n c a d (a==7)))))
def qfo (n:Nat) (b:List qa9) (a:Int) (i:List qaa) (j:Int) (l:SS) (m:Int) (o:Bool) (p:Int) (q:SS) (c:List Val) (d e:List SS) (f:List qaa) (g:SS) (s:List qbo) (t:Bool) (u:List qat) (v w:List qaa) (x:List qag) (y:List SS) (z:Bool):(Int->Option (Bool))->Int->Option (Bool):=fun B k=>
 bif(decide (k<((qa9.rows b).length:Int)))then(
 bnd (idx b k) fun⟨C,D⟩=>
 bnd (qno n (qa9.mk C D)) fun E=>
 bif(!E)then(
 some false)
 else(
 B (IntKind.i64.wrap (k+1))))
 else(
 bif(a==1)then(
 bnd (qaw (decide (((qa9.rows b).length:Int)>0)) (qmz n i (1:Int))) fun F=>
 some (bif(decide (((qa9.rows b).length:Int)>0))then F else false))
 else(
 bif(a==2)then(
 bnd (qfn n (qaa.mk j l (Val.mk m o p q c d) e f)) fun A=>
 bnd (qaw A (qgb n g)) fun G=>
 some (bif A then G else false))
 else(
 bif(a==3)then(
 qi3 n a b i j l m o p q c d e f g s t u v w x y z (a==3))
 else(
 qi3 n a b i j l m o p q c d e f g s t u v w x y z (a==9)))))
def qgl (n:Nat) (z:qab):Option (Bool):=
 match z with
 | ⟨a,m,s,⟨t,u,⟨v,w,x,y,b,c⟩,d,e⟩,f,g,i,j,k,l,o,p,q⟩=>
 bnd (qub n (qab.mk a m s (qaa.mk t u (Val.mk v w x y b c) d e) f g i j k l o p q)) fun⟨A,B,C,⟨D,E,⟨F,G,H,I,J,K⟩,L,M⟩,N,O,P,Q,R,S,T,U,V⟩=>
 bnd (qg5 n (qab.mk A B C (qaa.mk D E (Val.mk F G H I J K) L M) N O P Q R S T U V) (qab.mk a m s (qaa.mk t u (Val.mk v w x y b c) d e) f g i j k l o p q)) fun W=>
 bif(!W)then(
 some false)
 else(
 qam (qfo n m a s t u v w x y b c d e f g i j k l o p q) n (0:Int))
set_option maxHeartbeats 4000000 in
theorem q3g (n:Nat):∀ (C:qab) (r:Bool),qgl n C=some r->qac Tryz.prog 40 [PV.agg (qcz.cells C)] (q5f r):=by
 intro C r h;obtain⟨b,s,u,⟨v,w,⟨x,y,z,A,f,g⟩,i,j⟩,k,l,m,o,p,q,c,d,t⟩:=C;unfold qgl at h;refine qac.of_vcN mixed (fun _ _=>Tryz.call40 _ _) Tryz.func40 (by kernel_rfl) (inl:=[1000000]) ?_;conv=>whnf
 refine bq h fun⟨_,_,_,⟨_,_,⟨_,_,_,_,_,_⟩,_,_⟩,_,_,_,_,_,_,_,_,_⟩ N h=>?_;refine⟨_,(zgd n _ _ N),?_⟩;conv=>whnf
 refine bq h fun _ M h=>?_;refine⟨_,(q19 n _ _ _ M),?_⟩;conv=>whnf
 apply ifc h<;>intro a h
 ·obtain rfl:=sj h
  conv=>whnf
  try exact fin
 ·conv=>whnf
  refine qbi.fn [1000000] (S:=Int) (fun D=>[(1,.ptr 0 0),(3,pI D)]) (fun D=>[.box 51 [pI b,pP s,pE u,pI v,pS w,pI x,pB y,pI z,pS A,pV f,pT g,pT i,pE j,pS k,pA l,pB m,pO o,pE p,pE q,pU c,pT d,pB t]]) (B:=qfo n s b u v w x y z A f g i j k l m o p q c d t) h (wk [0] []) ?_;intro _ D h;unfold qfo at h;conv=>whnf
  apply ifc h<;>intro a h
  ·conv=>whnf
   refine bq h fun⟨_,_⟩ O h=>?_;refine⟨_,Codec.at_ qlh O,?_⟩;conv=>whnf
   refine bq h fun _ I h=>?_;refine⟨_,(q6y n _ _ I),?_⟩;conv=>whnf
   apply ifc h<;>intro a h
   ·obtain rfl:=sj h
    conv=>whnf
    try exact fin
   ·conv=>whnf
    exact⟨(IntKind.i64.wrap (D+1)),h,wk [0] []⟩
  ·conv=>whnf
   apply ifc h<;>intro a h
   ·conv=>whnf
    refine⟨id,id,?_⟩;conv=>whnf
    refine bq h fun _ P h=>?_;refine⟨_,fun e=>(qr1 n _ _ _ (qad P e)),?_⟩;conv=>whnf
    refine⟨id,?_⟩;obtain rfl:=sj h;conv=>whnf
    try exact fin
   ·conv=>whnf
    apply ifc h<;>intro a h
    ·conv=>whnf
     refine bq h fun _ R h=>?_;refine⟨_,(qis n _ _ R),?_⟩;conv=>whnf
     refine⟨id,id,?_⟩;conv=>whnf
     refine bq h fun _ Q h=>?_;refine⟨_,fun e=>(qgj n _ _ (qad Q e)),?_⟩;conv=>whnf
     refine⟨id,?_⟩;obtain rfl:=sj h;conv=>whnf
     try exact fin
    ·conv=>whnf
     refine qhe.cut (S:=Bool) (fun G=>[(1,.ptr 0 0),(26,pI b),(48,pB G)]) (fun G=>[.box 51 [pI b,pP s,pE u,pI v,pS w,pI x,pB y,pI z,pS A,pV f,pT g,pT i,pE j,pS k,pA l,pB m,pO o,pE p,pE q,pU c,pT d,pB t]]) (qi3 n b s u v w x y z A f g i j k l m o p q c d t) (r:=r) ?_ ?_
     ·intro G h
      unfold qi3 at h;conv=>whnf
      apply ifc h<;>intro a h
      ·conv=>whnf
       refine bq h fun _ U h=>?_;refine⟨_,(zdw n _ _ U),?_⟩;conv=>whnf
       refine⟨id,id,?_⟩;conv=>whnf
       refine bq h fun _ T h=>?_;refine⟨_,fun e=>(qr1 n _ _ _ (qad T e)),?_⟩;conv=>whnf
       refine⟨id,?_⟩;obtain rfl:=sj h;conv=>whnf
       try exact fin
      ·conv=>whnf
       apply ifc h<;>intro a h
       ·obtain rfl:=sj h
        conv=>whnf
        try exact fin
       ·conv=>whnf
        apply ifc h<;>intro a h
        ·conv=>whnf
         refine⟨id,id,?_⟩;conv=>whnf
         refine bq h fun⟨_,_⟩ V h=>?_;refine⟨_,fun e=>Codec.at_ qlh (qad V e),?_⟩;conv=>whnf
         refine⟨id,id,id,id,id,?_⟩;obtain rfl:=sj h;conv=>whnf
         try exact fin
        ·conv=>whnf
         refine qhe.cut (S:=Bool) (fun H=>[(1,.ptr 0 0),(26,pI b),(79,pB H)]) (fun H=>[.box 51 [pI b,pP s,pE u,pI v,pS w,pI x,pB y,pI z,pS A,pV f,pT g,pT i,pE j,pS k,pA l,pB m,pO o,pE p,pE q,pU c,pT d,pB t]]) (qi4 n c b d) (r:=r) ?_ ?_
         ·intro H h
          unfold qi4 at h;conv=>whnf
          apply ifc h<;>intro a h
          ·conv=>whnf
           refine qbi.fn [1000000] (S:=Int) (fun E=>[(1,.ptr 0 0),(4,pI E)]) (fun E=>[.box 51 [pI b,pP s,pE u,pI v,pS w,pI x,pB y,pI z,pS A,pV f,pT g,pT i,pE j,pS k,pA l,pB m,pO o,pE p,pE q,pU c,pT d,pB t]]) (B:=qfp n c b) h (wk [0] []) ?_;intro _ E h;unfold qfp at h;conv=>whnf
           apply ifc h<;>intro a h
           ·conv=>whnf
            refine bq h fun⟨_,_,_,⟨_,_,⟨_,_,_,_,_,_⟩,_,_⟩⟩ J h=>?_;refine⟨_,Codec.at_ qjp J,?_⟩;conv=>whnf
            refine bq h fun _ W h=>?_;refine⟨_,(q8r n _ _ _ W),?_⟩;conv=>whnf
            apply ifc h<;>intro a h
            ·obtain rfl:=sj h
             conv=>whnf
             try exact fin
            ·conv=>whnf
             exact⟨(IntKind.i64.wrap (E+1)),h,wk [0] []⟩
           ·obtain rfl:=sj h
            conv=>whnf
            try exact fin
          ·conv=>whnf
           apply ifc h<;>intro a h
           ·conv=>whnf
            refine qbi.fn [1000000] (S:=Int) (fun F=>[(1,.ptr 0 0),(5,pI F)]) (fun F=>[.box 51 [pI b,pP s,pE u,pI v,pS w,pI x,pB y,pI z,pS A,pV f,pT g,pT i,pE j,pS k,pA l,pB m,pO o,pE p,pE q,pU c,pT d,pB t]]) (B:=qfq n d) h (wk [0] []) ?_;intro _ F h;unfold qfq at h;conv=>whnf
            apply ifc h<;>intro a h
            ·conv=>whnf
             refine bq h fun _ L h=>?_;refine⟨_,Codec.at_ qpr L,?_⟩;conv=>whnf
             refine bq h fun _ K h=>?_;refine⟨_,(qgj n _ _ K),?_⟩;conv=>whnf
             apply ifc h<;>intro a h
             ·obtain rfl:=sj h
              conv=>whnf
              try exact fin
             ·conv=>whnf
              exact⟨(IntKind.i64.wrap (F+1)),h,wk [0] []⟩
            ·obtain rfl:=sj h
             conv=>whnf
             try exact fin
           ·obtain rfl:=sj h
            conv=>whnf
            try exact fin
         ·conv=>whnf
          apply ifc h<;>intro a h
          ·conv=>whnf
           exact⟨(b==6),h,wk [0] []⟩
          ·conv=>whnf
           exact⟨(b==7),h,wk [0] []⟩
     ·conv=>whnf
      apply ifc h<;>intro a h
      ·conv=>whnf
       exact⟨(b==3),h,wk [0] []⟩
      ·conv=>whnf
       exact⟨(b==9),h,wk [0] []⟩
abbrev zi9 (r:Bool):PV:=PV.bool r
def qmy (n:Nat) (a:List qab):(Int->Option (Bool))->Int->Option (Bool):=fun e b=>
 bif(decide (b<((qab.rows a).length:Int)))then(
 bnd (idx a b) fun⟨y,z,A,⟨B,C,⟨E,F,f,g,i,j⟩,k,l⟩,m,o,p,q,s,t,u,v,w⟩=>
 bnd (qgl n (qab.mk y z A (qaa.mk B C (Val.mk E F f g i j) k l) m o p q s t u v w)) fun d=>
 bnd (qaw (!(!d)) (idx a b)) fun⟨x,_,_,⟨_,_,⟨_,_,_,_,_,_⟩,_,_⟩,_,_,_,_,_,_,_,_,_⟩=>
 bif(bif(!d)then true else(bif(x==9)then(decide ((IntKind.i64.wrap (b+1))<((qab.rows a).length:Int)))else false))then(
 some false)
 else(
 e (IntKind.i64.wrap (b+1))))
 else(
 bnd (qaw (bif(decide (((qab.rows a).length:Int)>0))then(decide (((qab.rows a).length:Int)<=64))else false) (idx a (IntKind.i64.wrap (((qab.rows a).length:Int) - 1)))) fun⟨c,_,_,⟨_,_,⟨_,_,_,_,_,_⟩,_,_⟩,_,_,_,_,_,_,_,_,_⟩=>
 bnd (qaw ((bif(decide (((qab.rows a).length:Int)>0))then(decide (((qab.rows a).length:Int)<=64))else false)&&(!(c==9))) (idx a (IntKind.i64.wrap (((qab.rows a).length:Int) - 1)))) fun⟨D,_,_,⟨_,_,⟨_,_,_,_,_,_⟩,_,_⟩,_,_,_,_,_,_,_,_,_⟩=>
 bnd (qaw ((bif(decide (((qab.rows a).length:Int)>0))then(decide (((qab.rows a).length:Int)<=64))else false)&&(!(c==9))) (qi2 n D)) fun G=>
 some (bif(bif(decide (((qab.rows a).length:Int)>0))then(decide (((qab.rows a).length:Int)<=64))else false)then(bif(c==9)then true else G)else false))
def qqp (n:Nat) (a:qhl):Option (Bool):=
 match a with
 | ⟨b⟩=>
 qam (qmy n b) n (0:Int)
theorem qu8 (n:Nat):∀ (b:qhl) (r:Bool),qqp n b=some r->qac Tryz.prog 19 [PV.agg (qy0.cells b)] (zi9 r):=by
 intro b r h;obtain⟨d⟩:=b;unfold qqp at h;refine qac.of_vcN mixed (fun _ _=>Tryz.call19 _ _) Tryz.func19 (by kernel_rfl) (inl:=[1000000]) ?_;conv=>whnf
 refine qbi.fn [1000000] (S:=Int) (fun c=>[(1,.ptr 0 0),(3,.p (.int .i64 ((qab.rows d).length:Int))),(4,pI c)]) (fun c=>[.box 24 [pC d]]) (B:=qmy n d) h (wk [0] []) ?_;intro _ c h;unfold qmy at h;conv=>whnf
 apply ifc h<;>intro l h
 ·conv=>whnf
  refine bq h fun⟨_,_,_,⟨_,_,⟨_,_,_,_,_,_⟩,_,_⟩,_,_,_,_,_,_,_,_,_⟩ g h=>?_;refine⟨_,Codec.at_ qcz g,?_⟩;conv=>whnf
  refine bq h fun _ f h=>?_;refine⟨_,(q3g n _ _ f),?_⟩;conv=>whnf
  refine⟨id,id,id,?_⟩;conv=>whnf
  refine bq h fun⟨_,_,_,⟨_,_,⟨_,_,_,_,_,_⟩,_,_⟩,_,_,_,_,_,_,_,_,_⟩ e h=>?_;refine⟨_,fun a=>Codec.at_ qcz (qad e a),?_⟩;conv=>whnf
  iterate 10 refine⟨id,?_⟩
  conv=>whnf
  apply ifc h<;>intro l h
  ·obtain rfl:=sj h
   conv=>whnf
   try exact fin
  ·conv=>whnf
   exact⟨(IntKind.i64.wrap (c+1)),h,wk [0] []⟩
 ·conv=>whnf
  iterate 6 refine⟨id,?_⟩
  conv=>whnf
  refine bq h fun⟨_,_,_,⟨_,_,⟨_,_,_,_,_,_⟩,_,_⟩,_,_,_,_,_,_,_,_,_⟩ k h=>?_;refine⟨_,fun a=>Codec.at_ qcz (qad k a),?_⟩;conv=>whnf
  iterate 8 refine⟨id,?_⟩
  conv=>whnf
  refine bq h fun⟨_,_,_,⟨_,_,⟨_,_,_,_,_,_⟩,_,_⟩,_,_,_,_,_,_,_,_,_⟩ j h=>?_;refine⟨_,fun a=>Codec.at_ qcz (qad j a),?_⟩;conv=>whnf
  refine⟨id,id,id,?_⟩;conv=>whnf
  refine bq h fun _ i h=>?_;refine⟨_,fun a=>(qua n _ _ (qad i a)),?_⟩;conv=>whnf
  refine⟨id,id,id,?_⟩;obtain rfl:=sj h;conv=>whnf
  try exact fin
abbrev zes (r:qhl×Int×Int):PV:=PV.tup [PV.agg (qy0.cells r.1),PV.int .i64 r.2.1,PV.int .i64 r.2.2]
def qr2 (n:Nat) (d:List qap):Int×Bool×List qab->Option (qhl×Int×Int):=fun(e,f,a)=>
 bif f then(
 bnd (idx d e) fun⟨_,_,_,b⟩=>
 some (qhl.mk ([]:List qab),b,(1:Int)))
 else(
 bnd (qqp n (qhl.mk a)) fun c=>
 bif(!c)then(
 some (qhl.mk ([]:List qab),(0:Int),(8:Int)))
 else(
 some (qhl.mk a,(0:Int),(0:Int))))
def qvy (n:Nat) (d:List qap):(Int×Int×Bool×List qab->Option (qhl×Int×Int))->Int×Int×Bool×List qab->Option (qhl×Int×Int):=fun F (e,b,a,c)=>
 bnd (qaw (!a) (idx d b)) fun⟨g,_,_,_⟩=>
 bnd (qaw ((!a)&&(!(g != 6))) (qi2 n e)) fun G=>
 bif(bif(!a)then(bif(g != 6)then true else(bif(!G)then(e != 9)else false))else false)then(
 bif(e==9)then(
 qr2 n d (b,true,c))
 else(
 bnd (qvv n d b a) fun⟨⟨f,i,j,⟨k,l,⟨m,o,p,q,s,t⟩,u,v⟩,w,x,y,z,A,B,C,D,E⟩,H,I⟩=>
 chk (decide ((qab.rows (c++[qab.mk f i j (qaa.mk k l (Val.mk m o p q s t) u v) w x y z A B C D E])).length * 392<=140737488355328)) (
 F (f,H,I,(c++[qab.mk f i j (qaa.mk k l (Val.mk m o p q s t) u v) w x y z A B C D E])))))
 else(
 qr2 n d (b,a,c))
def q2a (n:Nat) (b:SS):Option (qhl×Int×Int):=
 bnd (q41 n b) fun⟨c,d,a⟩=>
 bif(a != 0)then(
 some (qhl.mk ([]:List qab),d,a))
 else(
 qam (qvy n c) n ((0:Int),(0:Int),false,([]:List _)))
set_option maxHeartbeats 4000000 in
theorem zbe (n:Nat):∀ (I:SS) (r:qhl×Int×Int),q2a n I=some r->qac Tryz.prog 23 [PV.str I] (zes r):=by
 intro I r h;unfold q2a at h;refine qac.of_vcN mixed (fun _ _=>Tryz.call23 _ _) Tryz.func23 (by kernel_rfl) (inl:=[47,40000014,50000002,60004000,1000000]) ?_;conv=>whnf
 refine bq h fun⟨D,_,_⟩ V h=>?_;refine⟨_,(zds n _ _ V),?_⟩;conv=>whnf
 apply ifc h<;>intro E h
 ·obtain rfl:=sj h
  conv=>whnf
  try exact fin
 ·conv=>whnf
  refine qhe.cut (S:=Int×Bool×List qab) (fun(K,L,G)=>[(2,.ptr 0 0),(8,.ptr 1 0),(9,.ptr 2 0)]) (fun(K,L,G)=>[.box 24 [zq2],.box 113 [pK D,pI K,pB L],.box 24 [.tsl 3 (qab.rows G)],.tail 51 22 (qab.rows G).length]) (qr2 n D) (r:=r) ?_ ?_
  ·intro st h
   obtain⟨K,L,G⟩:=st;unfold qr2 at h;conv=>whnf
   apply ifc h<;>intro E h
   ·conv=>whnf
    refine bq h fun⟨_,_,_,_⟩ P h=>?_;refine⟨_,Codec.at_ qsv P,?_⟩;obtain rfl:=sj h;conv=>whnf
    try exact fin
   ·conv=>whnf
    refine bq h fun _ Q h=>?_;refine⟨_,(qu8 n _ _ Q),?_⟩;conv=>whnf
    apply ifc h<;>intro E h
    ·obtain rfl:=sj h
     conv=>whnf
     try exact fin
    ·obtain rfl:=sj h
     conv=>whnf
     try exact fin
  ·conv=>whnf
   refine qbi.fn [47,40000014,50000002,60004000,1000000] (S:=Int×Int×Bool×List qab) (fun(J,C,F,a)=>[(2,.ptr 0 0),(8,.ptr 1 0),(9,.ptr 2 0),(10,pI J)]) (fun(J,C,F,a)=>[.box 24 [zq2],.box 113 [pK D,pI C,pB F],.box 24 [.tsl 3 (qab.rows a)],.tail 51 22 (qab.rows a).length]) (B:=qvy n D) h (wk [0,1,2,0] [3]) ?_;intro _ st h;obtain⟨J,C,F,a⟩:=st;unfold qvy at h;conv=>whnf
   iterate 8 refine⟨id,?_⟩
   conv=>whnf
   refine bq h fun⟨_,_,_,_⟩ U h=>?_;refine⟨_,fun H=>Codec.at_ qsv (qad U H),?_⟩;conv=>whnf
   refine⟨id,id,id,id,id,?_⟩;conv=>whnf
   refine bq h fun _ T h=>?_;refine⟨_,fun H=>(qua n _ _ (qad T H)),?_⟩;conv=>whnf
   iterate 8 refine⟨id,?_⟩
   conv=>whnf
   apply ifc h<;>intro E h
   ·conv=>whnf
    apply ifc h<;>intro E h
    ·conv=>whnf
     exact⟨(C,true,a),h,wk [0,1,2,3] []⟩
    ·conv=>whnf
     refine bq h fun⟨⟨b,c,d,⟨e,f,⟨g,i,j,k,l,m⟩,o,q⟩,s,t,u,v,w,x,y,z,A⟩,N,O⟩ R h=>?_;refine qcq (q44 n _ _ _ _ R) [1] [] ?_;rintro _ _ ⟨rfl,rfl⟩;refine⟨.p (.agg [.int .i64 b,.sl (qa9.rows c),.sl (qaa.rows d),.int .i64 e,.str f,.int .i64 g,.bool i,.int .i64 j,.str k,.sl (Val.rows l),.sl (qak m),.sl (qak o),.sl (qaa.rows q),.str s,.sl (qbo.rows t),.bool u,.sl (qat.rows v),.sl (qaa.rows w),.sl (qaa.rows x),.sl (qag.rows y),.sl (qak z),.bool A]),[.box 24 [zq2],.box 113 [pK D,pI N,pB O],.box 24 [.tsl 3 (qab.rows a)],.tail 51 22 (qab.rows a).length],rfl,rfl,?_⟩;conv=>whnf
     refine⟨Codec.one qcz [qab.mk b c d (qaa.mk e f (Val.mk g i j k l m) o q) s t u v w x y z A],qab.rows [qab.mk b c d (qaa.mk e f (Val.mk g i j k l m) o q) s t u v w x y z A],.inl rfl,?_⟩;conv=>whnf
     rw[show qab.rows a++qab.rows [qab.mk b c d (qaa.mk e f (Val.mk g i j k l m) o q) s t u v w x y z A]=qab.rows (a++[qab.mk b c d (qaa.mk e f (Val.mk g i j k l m) o q) s t u v w x y z A])from Codec.append qcz a [qab.mk b c d (qaa.mk e f (Val.mk g i j k l m) o q) s t u v w x y z A]];conv=>whnf
     obtain⟨M,h⟩:=qai h;refine⟨⟨Codec.wide qcz (a++[qab.mk b c d (qaa.mk e f (Val.mk g i j k l m) o q) s t u v w x y z A]),of_decide_eq_true M,qb5 M (by decide)⟩,?_⟩;conv=>whnf
     refine⟨⟨rfl,rfl,rfl⟩,?_⟩;conv=>whnf
     exact⟨(b,N,O,(a++[qab.mk b c d (qaa.mk e f (Val.mk g i j k l m) o q) s t u v w x y z A])),h,wk [0,1,2,5] []⟩
   ·conv=>whnf
    exact⟨(C,F,a),h,wk [0,1,2,3] []⟩
abbrev q7q (r:Bool):PV:=PV.bool r
def qr3 (n:Nat) (a:Int):Option (Bool):=
 some (bif(decide (a≥4))then(decide (a<=8))else false)
theorem q49 (n:Nat):∀ (a:Int) (r:Bool),qr3 n a=some r->qac Tryz.prog 84 [PV.int .i64 a] (q7q r):=by
 intro a r h;unfold qr3 at h;refine qac.of_vcN mixed (fun _ _=>Tryz.call84 _ _) Tryz.func84 (by kernel_rfl) (inl:=[1000000]) ?_;conv=>whnf
 refine⟨id,id,?_⟩;obtain rfl:=sj h;conv=>whnf
 try exact fin
abbrev q2m (r:qbr):PV:=(PV.ifc (qbr.tid r) (qbr.val r))
def qn6 (n:Nat) (a:qa9):Option (qbr):=
 match a with
 | ⟨b,c⟩=>
 some (qbr.path (qa9.mk b c))
theorem q0x (n:Nat):∀ (a:qa9) (r:qbr),qn6 n a=some r->qac Tryz.prog 126 [PV.agg (qlh.cells a)] (q2m r):=by
 intro a r h;obtain⟨_,_⟩:=a;unfold qn6 at h;refine qac.of_vcN mixed (fun _ _=>Tryz.call126 _ _) Tryz.func126 (by kernel_rfl) (inl:=[1000000]) ?_;obtain rfl:=sj h;conv=>whnf
 try exact fin
abbrev qoj (r:List qbr):PV:=PV.sl (qbr.rows r)
def qb3 (n:Nat) (c:List qa9):(List qbr×Int->Option (List qbr))->List qbr×Int->Option (List qbr):=fun e (a,b)=>
 bif(decide (b<((qa9.rows c).length:Int)))then(
 bnd (idx c b) fun⟨f,g⟩=>
 bnd (qn6 n (qa9.mk f g)) fun d=>
 chk (decide ((qbr.rows (a++[d])).length * 16<=140737488355328)) (
 e ((a++[d]),(IntKind.i64.wrap (b+1)))))
 else(
 some a)
def qdx (n:Nat) (a:List qa9):Option (List qbr):=
 qam (qb3 n a) n (([]:List _),(0:Int))
theorem qne (n:Nat):∀ (c:List qa9) (r:List qbr),qdx n c=some r->qac Tryz.prog 125 [PV.sl (qa9.rows c),PV.fn 126] (qoj r):=by
 intro c r h;unfold qdx at h;refine qac.of_vcN mixed (fun _ _=>Tryz.call125 _ _) Tryz.func125 (by kernel_rfl) (inl:=[1000000]) ?_;conv=>whnf
 refine qbi.fn [1000000] (S:=List qbr×Int) (fun(a,d)=>[(1,.p (.fn 126)),(5,.tsl 0 (qbr.rows a)),(8,pP c),(9,.p (.int .i64 ((qa9.rows c).length:Int))),(10,pI d)]) (fun(a,d)=>[.tail 156 1 (qbr.rows a).length]) (B:=qb3 n c) h (wk [0] [0]) ?_;intro _ st h;obtain⟨a,d⟩:=st;unfold qb3 at h;conv=>whnf
 apply ifc h<;>intro _ h
 ·conv=>whnf
  refine bq h fun⟨_,_⟩ g h=>?_;refine⟨_,Codec.at_ qlh g,?_⟩;conv=>whnf
  refine bq h fun b f h=>?_;refine⟨_,(q0x n _ _ f),?_⟩;conv=>whnf
  refine⟨Codec.one qrx [b],qbr.rows [b],.inl rfl,?_⟩;conv=>whnf
  rw[show qbr.rows a++qbr.rows [b]=qbr.rows (a++[b])from Codec.append qrx a [b]];conv=>whnf
  obtain⟨e,h⟩:=qai h;refine⟨⟨Codec.wide qrx (a++[b]),of_decide_eq_true e,qb5 e (by decide)⟩,?_⟩;conv=>whnf
  refine⟨⟨rfl,rfl,rfl⟩,?_⟩;conv=>whnf
  exact⟨((a++[b]),(IntKind.i64.wrap (d+1))),h,wk [2] []⟩
 ·obtain rfl:=sj h
  conv=>whnf
  try exact fin
abbrev q2n (r:qbr):PV:=(PV.ifc (qbr.tid r) (qbr.val r))
def qn7 (n:Nat) (a:qaa):Option (qbr):=
 match a with
 | ⟨b,d,⟨e,f,g,i,j,k⟩,l,c⟩=>
 some (qbr.expr (qaa.mk b d (Val.mk e f g i j k) l c))
theorem q0y (n:Nat):∀ (a:qaa) (r:qbr),qn7 n a=some r->qac Tryz.prog 128 [PV.agg (qck.cells a)] (q2n r):=by
 intro a r h;obtain⟨_,_,⟨_,_,_,_,_,_⟩,_,_⟩:=a;unfold qn7 at h;refine qac.of_vcN mixed (fun _ _=>Tryz.call128 _ _) Tryz.func128 (by kernel_rfl) (inl:=[1000000]) ?_;obtain rfl:=sj h;conv=>whnf
 try exact fin
abbrev qof (r:List qbr):PV:=PV.sl (qbr.rows r)
def qbz (n:Nat) (c:List qaa):(List qbr×Int->Option (List qbr))->List qbr×Int->Option (List qbr):=fun e (a,b)=>
 bif(decide (b<((qaa.rows c).length:Int)))then(
 bnd (idx c b) fun⟨k,l,⟨m,o,p,q,f,g⟩,i,j⟩=>
 bnd (qn7 n (qaa.mk k l (Val.mk m o p q f g) i j)) fun d=>
 chk (decide ((qbr.rows (a++[d])).length * 16<=140737488355328)) (
 e ((a++[d]),(IntKind.i64.wrap (b+1)))))
 else(
 some a)
def qdt (n:Nat) (a:List qaa):Option (List qbr):=
 qam (qbz n a) n (([]:List _),(0:Int))
theorem qna (n:Nat):∀ (c:List qaa) (r:List qbr),qdt n c=some r->qac Tryz.prog 127 [PV.sl (qaa.rows c),PV.fn 128] (qof r):=by
 intro c r h;unfold qdt at h;refine qac.of_vcN mixed (fun _ _=>Tryz.call127 _ _) Tryz.func127 (by kernel_rfl) (inl:=[1000000]) ?_;conv=>whnf
 refine qbi.fn [1000000] (S:=List qbr×Int) (fun(a,d)=>[(1,.p (.fn 128)),(5,.tsl 0 (qbr.rows a)),(8,pE c),(9,.p (.int .i64 ((qaa.rows c).length:Int))),(10,pI d)]) (fun(a,d)=>[.tail 156 1 (qbr.rows a).length]) (B:=qbz n c) h (wk [0] [0]) ?_;intro _ st h;obtain⟨a,d⟩:=st;unfold qbz at h;conv=>whnf
 apply ifc h<;>intro _ h
 ·conv=>whnf
  refine bq h fun⟨_,_,⟨_,_,_,_,_,_⟩,_,_⟩ g h=>?_;refine⟨_,Codec.at_ qck g,?_⟩;conv=>whnf
  refine bq h fun b f h=>?_;refine⟨_,(q0y n _ _ f),?_⟩;conv=>whnf
  refine⟨Codec.one qrx [b],qbr.rows [b],.inl rfl,?_⟩;conv=>whnf
  rw[show qbr.rows a++qbr.rows [b]=qbr.rows (a++[b])from Codec.append qrx a [b]];conv=>whnf
  obtain⟨e,h⟩:=qai h;refine⟨⟨Codec.wide qrx (a++[b]),of_decide_eq_true e,qb5 e (by decide)⟩,?_⟩;conv=>whnf
  refine⟨⟨rfl,rfl,rfl⟩,?_⟩;conv=>whnf
  exact⟨((a++[b]),(IntKind.i64.wrap (d+1))),h,wk [2] []⟩
 ·obtain rfl:=sj h
  conv=>whnf
  try exact fin
abbrev q2o (r:qbr):PV:=(PV.ifc (qbr.tid r) (qbr.val r))
def qn8 (n:Nat) (a:qbo):Option (qbr):=
 match a with
 | ⟨⟨b,e,⟨f,g,i,j,k,l⟩,m,c⟩,d⟩=>
 some (qbr.item (qbo.mk (qaa.mk b e (Val.mk f g i j k l) m c) d))
theorem q0z (n:Nat):∀ (a:qbo) (r:qbr),qn8 n a=some r->qac Tryz.prog 130 [PV.agg (qst.cells a)] (q2o r):=by
 intro a r h;obtain⟨⟨_,_,⟨_,_,_,_,_,_⟩,_,_⟩,_⟩:=a;unfold qn8 at h;refine qac.of_vcN mixed (fun _ _=>Tryz.call130 _ _) Tryz.func130 (by kernel_rfl) (inl:=[1000000]) ?_;obtain rfl:=sj h;conv=>whnf
 try exact fin
abbrev qoi (r:List qbr):PV:=PV.sl (qbr.rows r)
def qb2 (n:Nat) (c:List qbo):(List qbr×Int->Option (List qbr))->List qbr×Int->Option (List qbr):=fun e (a,b)=>
 bif(decide (b<((qbo.rows c).length:Int)))then(
 bnd (idx c b) fun⟨⟨l,m,⟨o,p,q,s,f,g⟩,i,j⟩,k⟩=>
 bnd (qn8 n (qbo.mk (qaa.mk l m (Val.mk o p q s f g) i j) k)) fun d=>
 chk (decide ((qbr.rows (a++[d])).length * 16<=140737488355328)) (
 e ((a++[d]),(IntKind.i64.wrap (b+1)))))
 else(
 some a)
def qdw (n:Nat) (a:List qbo):Option (List qbr):=
 qam (qb2 n a) n (([]:List _),(0:Int))
theorem qnd (n:Nat):∀ (c:List qbo) (r:List qbr),qdw n c=some r->qac Tryz.prog 129 [PV.sl (qbo.rows c),PV.fn 130] (qoi r):=by
 intro c r h;unfold qdw at h;refine qac.of_vcN mixed (fun _ _=>Tryz.call129 _ _) Tryz.func129 (by kernel_rfl) (inl:=[1000000]) ?_;conv=>whnf
 refine qbi.fn [1000000] (S:=List qbr×Int) (fun(a,d)=>[(1,.p (.fn 130)),(5,.tsl 0 (qbr.rows a)),(8,pA c),(9,.p (.int .i64 ((qbo.rows c).length:Int))),(10,pI d)]) (fun(a,d)=>[.tail 156 1 (qbr.rows a).length]) (B:=qb2 n c) h (wk [0] [0]) ?_;intro _ st h;obtain⟨a,d⟩:=st;unfold qb2 at h;conv=>whnf
 apply ifc h<;>intro _ h
 ·conv=>whnf
  refine bq h fun⟨⟨_,_,⟨_,_,_,_,_,_⟩,_,_⟩,_⟩ g h=>?_;refine⟨_,Codec.at_ qst g,?_⟩;conv=>whnf
  refine bq h fun b f h=>?_;refine⟨_,(q0z n _ _ f),?_⟩;conv=>whnf
  refine⟨Codec.one qrx [b],qbr.rows [b],.inl rfl,?_⟩;conv=>whnf
  rw[show qbr.rows a++qbr.rows [b]=qbr.rows (a++[b])from Codec.append qrx a [b]];conv=>whnf
  obtain⟨e,h⟩:=qai h;refine⟨⟨Codec.wide qrx (a++[b]),of_decide_eq_true e,qb5 e (by decide)⟩,?_⟩;conv=>whnf
  refine⟨⟨rfl,rfl,rfl⟩,?_⟩;conv=>whnf
  exact⟨((a++[b]),(IntKind.i64.wrap (d+1))),h,wk [2] []⟩
 ·obtain rfl:=sj h
  conv=>whnf
  try exact fin
abbrev q2p (r:qbr):PV:=(PV.ifc (qbr.tid r) (qbr.val r))
def qn9 (n:Nat) (a:qat):Option (qbr):=
 match a with
 | ⟨⟨b,e,⟨f,g,i,j,k,l⟩,m,c⟩,d⟩=>
 some (qbr.sorted (qat.mk (qaa.mk b e (Val.mk f g i j k l) m c) d))
theorem q00 (n:Nat):∀ (a:qat) (r:qbr),qn9 n a=some r->qac Tryz.prog 132 [PV.agg (qqf.cells a)] (q2p r):=by
 intro a r h;obtain⟨⟨_,_,⟨_,_,_,_,_,_⟩,_,_⟩,_⟩:=a;unfold qn9 at h;refine qac.of_vcN mixed (fun _ _=>Tryz.call132 _ _) Tryz.func132 (by kernel_rfl) (inl:=[1000000]) ?_;obtain rfl:=sj h;conv=>whnf
 try exact fin
abbrev qok (r:List qbr):PV:=PV.sl (qbr.rows r)
def qb4 (n:Nat) (c:List qat):(List qbr×Int->Option (List qbr))->List qbr×Int->Option (List qbr):=fun e (a,b)=>
 bif(decide (b<((qat.rows c).length:Int)))then(
 bnd (idx c b) fun⟨⟨l,m,⟨o,p,q,s,f,g⟩,i,j⟩,k⟩=>
 bnd (qn9 n (qat.mk (qaa.mk l m (Val.mk o p q s f g) i j) k)) fun d=>
 chk (decide ((qbr.rows (a++[d])).length * 16<=140737488355328)) (
 e ((a++[d]),(IntKind.i64.wrap (b+1)))))
 else(
 some a)
def qdy (n:Nat) (a:List qat):Option (List qbr):=
 qam (qb4 n a) n (([]:List _),(0:Int))
theorem qnf (n:Nat):∀ (c:List qat) (r:List qbr),qdy n c=some r->qac Tryz.prog 131 [PV.sl (qat.rows c),PV.fn 132] (qok r):=by
 intro c r h;unfold qdy at h;refine qac.of_vcN mixed (fun _ _=>Tryz.call131 _ _) Tryz.func131 (by kernel_rfl) (inl:=[1000000]) ?_;conv=>whnf
 refine qbi.fn [1000000] (S:=List qbr×Int) (fun(a,d)=>[(1,.p (.fn 132)),(5,.tsl 0 (qbr.rows a)),(8,pO c),(9,.p (.int .i64 ((qat.rows c).length:Int))),(10,pI d)]) (fun(a,d)=>[.tail 156 1 (qbr.rows a).length]) (B:=qb4 n c) h (wk [0] [0]) ?_;intro _ st h;obtain⟨a,d⟩:=st;unfold qb4 at h;conv=>whnf
 apply ifc h<;>intro _ h
 ·conv=>whnf
  refine bq h fun⟨⟨_,_,⟨_,_,_,_,_,_⟩,_,_⟩,_⟩ g h=>?_;refine⟨_,Codec.at_ qqf g,?_⟩;conv=>whnf
  refine bq h fun b f h=>?_;refine⟨_,(q00 n _ _ f),?_⟩;conv=>whnf
  refine⟨Codec.one qrx [b],qbr.rows [b],.inl rfl,?_⟩;conv=>whnf
  rw[show qbr.rows a++qbr.rows [b]=qbr.rows (a++[b])from Codec.append qrx a [b]];conv=>whnf
  obtain⟨e,h⟩:=qai h;refine⟨⟨Codec.wide qrx (a++[b]),of_decide_eq_true e,qb5 e (by decide)⟩,?_⟩;conv=>whnf
  refine⟨⟨rfl,rfl,rfl⟩,?_⟩;conv=>whnf
  exact⟨((a++[b]),(IntKind.i64.wrap (d+1))),h,wk [2] []⟩
 ·obtain rfl:=sj h
  conv=>whnf
  try exact fin
abbrev q2q (r:qbr):PV:=(PV.ifc (qbr.tid r) (qbr.val r))
def qoa (n:Nat) (a:qaa):Option (qbr):=
 match a with
 | ⟨b,d,⟨e,f,g,i,j,k⟩,l,c⟩=>
 some (qbr.expr (qaa.mk b d (Val.mk e f g i j k) l c))
theorem q01 (n:Nat):∀ (a:qaa) (r:qbr),qoa n a=some r->qac Tryz.prog 133 [PV.agg (qck.cells a)] (q2q r):=by
 intro a r h;obtain⟨_,_,⟨_,_,_,_,_,_⟩,_,_⟩:=a;unfold qoa at h;refine qac.of_vcN mixed (fun _ _=>Tryz.call133 _ _) Tryz.func133 (by kernel_rfl) (inl:=[1000000]) ?_;obtain rfl:=sj h;conv=>whnf
 try exact fin
abbrev qog (r:List qbr):PV:=PV.sl (qbr.rows r)
def qb0 (n:Nat) (c:List qaa):(List qbr×Int->Option (List qbr))->List qbr×Int->Option (List qbr):=fun e (a,b)=>
 bif(decide (b<((qaa.rows c).length:Int)))then(
 bnd (idx c b) fun⟨k,l,⟨m,o,p,q,f,g⟩,i,j⟩=>
 bnd (qoa n (qaa.mk k l (Val.mk m o p q f g) i j)) fun d=>
 chk (decide ((qbr.rows (a++[d])).length * 16<=140737488355328)) (
 e ((a++[d]),(IntKind.i64.wrap (b+1)))))
 else(
 some a)
def qdu (n:Nat) (a:List qaa):Option (List qbr):=
 qam (qb0 n a) n (([]:List _),(0:Int))
theorem qnb (n:Nat):∀ (c:List qaa) (r:List qbr),qdu n c=some r->qac Tryz.prog 127 [PV.sl (qaa.rows c),PV.fn 133] (qog r):=by
 intro c r h;unfold qdu at h;refine qac.of_vcN mixed (fun _ _=>Tryz.call127 _ _) Tryz.func127 (by kernel_rfl) (inl:=[1000000]) ?_;conv=>whnf
 refine qbi.fn [1000000] (S:=List qbr×Int) (fun(a,d)=>[(1,.p (.fn 133)),(5,.tsl 0 (qbr.rows a)),(8,pE c),(9,.p (.int .i64 ((qaa.rows c).length:Int))),(10,pI d)]) (fun(a,d)=>[.tail 156 1 (qbr.rows a).length]) (B:=qb0 n c) h (wk [0] [0]) ?_;intro _ st h;obtain⟨a,d⟩:=st;unfold qb0 at h;conv=>whnf
 apply ifc h<;>intro _ h
 ·conv=>whnf
  refine bq h fun⟨_,_,⟨_,_,_,_,_,_⟩,_,_⟩ g h=>?_;refine⟨_,Codec.at_ qck g,?_⟩;conv=>whnf
  refine bq h fun b f h=>?_;refine⟨_,(q01 n _ _ f),?_⟩;conv=>whnf
  refine⟨Codec.one qrx [b],qbr.rows [b],.inl rfl,?_⟩;conv=>whnf
  rw[show qbr.rows a++qbr.rows [b]=qbr.rows (a++[b])from Codec.append qrx a [b]];conv=>whnf
  obtain⟨e,h⟩:=qai h;refine⟨⟨Codec.wide qrx (a++[b]),of_decide_eq_true e,qb5 e (by decide)⟩,?_⟩;conv=>whnf
  refine⟨⟨rfl,rfl,rfl⟩,?_⟩;conv=>whnf
  exact⟨((a++[b]),(IntKind.i64.wrap (d+1))),h,wk [2] []⟩
 ·obtain rfl:=sj h
  conv=>whnf
  try exact fin
abbrev q2r (r:qbr):PV:=(PV.ifc (qbr.tid r) (qbr.val r))
def qob (n:Nat) (a:qaa):Option (qbr):=
 match a with
 | ⟨b,d,⟨e,f,g,i,j,k⟩,l,c⟩=>
 some (qbr.expr (qaa.mk b d (Val.mk e f g i j k) l c))
theorem q02 (n:Nat):∀ (a:qaa) (r:qbr),qob n a=some r->qac Tryz.prog 134 [PV.agg (qck.cells a)] (q2r r):=by
 intro a r h;obtain⟨_,_,⟨_,_,_,_,_,_⟩,_,_⟩:=a;unfold qob at h;refine qac.of_vcN mixed (fun _ _=>Tryz.call134 _ _) Tryz.func134 (by kernel_rfl) (inl:=[1000000]) ?_;obtain rfl:=sj h;conv=>whnf
 try exact fin
abbrev qoh (r:List qbr):PV:=PV.sl (qbr.rows r)
def qb1 (n:Nat) (c:List qaa):(List qbr×Int->Option (List qbr))->List qbr×Int->Option (List qbr):=fun e (a,b)=>
 bif(decide (b<((qaa.rows c).length:Int)))then(
 bnd (idx c b) fun⟨k,l,⟨m,o,p,q,f,g⟩,i,j⟩=>
 bnd (qob n (qaa.mk k l (Val.mk m o p q f g) i j)) fun d=>
 chk (decide ((qbr.rows (a++[d])).length * 16<=140737488355328)) (
 e ((a++[d]),(IntKind.i64.wrap (b+1)))))
 else(
 some a)
def qdv (n:Nat) (a:List qaa):Option (List qbr):=
 qam (qb1 n a) n (([]:List _),(0:Int))
theorem qnc (n:Nat):∀ (c:List qaa) (r:List qbr),qdv n c=some r->qac Tryz.prog 127 [PV.sl (qaa.rows c),PV.fn 134] (qoh r):=by
 intro c r h;unfold qdv at h;refine qac.of_vcN mixed (fun _ _=>Tryz.call127 _ _) Tryz.func127 (by kernel_rfl) (inl:=[1000000]) ?_;conv=>whnf
 refine qbi.fn [1000000] (S:=List qbr×Int) (fun(a,d)=>[(1,.p (.fn 134)),(5,.tsl 0 (qbr.rows a)),(8,pE c),(9,.p (.int .i64 ((qaa.rows c).length:Int))),(10,pI d)]) (fun(a,d)=>[.tail 156 1 (qbr.rows a).length]) (B:=qb1 n c) h (wk [0] [0]) ?_;intro _ st h;obtain⟨a,d⟩:=st;unfold qb1 at h;conv=>whnf
 apply ifc h<;>intro _ h
 ·conv=>whnf
  refine bq h fun⟨_,_,⟨_,_,_,_,_,_⟩,_,_⟩ g h=>?_;refine⟨_,Codec.at_ qck g,?_⟩;conv=>whnf
  refine bq h fun b f h=>?_;refine⟨_,(q02 n _ _ f),?_⟩;conv=>whnf
  refine⟨Codec.one qrx [b],qbr.rows [b],.inl rfl,?_⟩;conv=>whnf
  rw[show qbr.rows a++qbr.rows [b]=qbr.rows (a++[b])from Codec.append qrx a [b]];conv=>whnf
  obtain⟨e,h⟩:=qai h;refine⟨⟨Codec.wide qrx (a++[b]),of_decide_eq_true e,qb5 e (by decide)⟩,?_⟩;conv=>whnf
  refine⟨⟨rfl,rfl,rfl⟩,?_⟩;conv=>whnf
  exact⟨((a++[b]),(IntKind.i64.wrap (d+1))),h,wk [2] []⟩
 ·obtain rfl:=sj h
  conv=>whnf
  try exact fin
abbrev q2s (r:qbr):PV:=(PV.ifc (qbr.tid r) (qbr.val r))
def qoc (n:Nat) (a:SS):Option (qbr):=
 some (qbr.name a)
theorem q03 (n:Nat):∀ (a:SS) (r:qbr),qoc n a=some r->qac Tryz.prog 136 [PV.str a] (q2s r):=by
 intro a r h;unfold qoc at h;refine qac.of_vcN mixed (fun _ _=>Tryz.call136 _ _) Tryz.func136 (by kernel_rfl) (inl:=[1000000]) ?_;obtain rfl:=sj h;conv=>whnf
 try exact fin
abbrev qo3 (r:List qbr):PV:=PV.sl (qbr.rows r)
def qcb (n:Nat) (c:List SS):(List qbr×Int->Option (List qbr))->List qbr×Int->Option (List qbr):=fun e (a,b)=>
 bif(decide (b<((qak c).length:Int)))then(
 bnd (idx c b) fun f=>
 bnd (qoc n f) fun d=>
 chk (decide ((qbr.rows (a++[d])).length * 16<=140737488355328)) (
 e ((a++[d]),(IntKind.i64.wrap (b+1)))))
 else(
 some a)
def qd5 (n:Nat) (a:List SS):Option (List qbr):=
 qam (qcb n a) n (([]:List _),(0:Int))
theorem qon (n:Nat):∀ (c:List SS) (r:List qbr),qd5 n c=some r->qac Tryz.prog 135 [PV.sl (qak c),PV.fn 136] (qo3 r):=by
 intro c r h;unfold qd5 at h;refine qac.of_vcN mixed (fun _ _=>Tryz.call135 _ _) Tryz.func135 (by kernel_rfl) (inl:=[1000000]) ?_;conv=>whnf
 refine qbi.fn [1000000] (S:=List qbr×Int) (fun(a,d)=>[(1,.p (.fn 136)),(5,.tsl 0 (qbr.rows a)),(8,pT c),(9,.p (.int .i64 ((qak c).length:Int))),(10,pI d)]) (fun(a,d)=>[.tail 156 1 (qbr.rows a).length]) (B:=qcb n c) h (wk [0] [0]) ?_;intro _ st h;obtain⟨a,d⟩:=st;unfold qcb at h;conv=>whnf
 apply ifc h<;>intro _ h
 ·conv=>whnf
  refine bq h fun _ g h=>?_;refine⟨_,Codec.at_ qpr g,?_⟩;conv=>whnf
  refine bq h fun b f h=>?_;refine⟨_,(q03 n _ _ f),?_⟩;conv=>whnf
  refine⟨Codec.one qrx [b],qbr.rows [b],.inl rfl,?_⟩;conv=>whnf
  rw[show qbr.rows a++qbr.rows [b]=qbr.rows (a++[b])from Codec.append qrx a [b]];conv=>whnf
  obtain⟨e,h⟩:=qai h;refine⟨⟨Codec.wide qrx (a++[b]),of_decide_eq_true e,qb5 e (by decide)⟩,?_⟩;conv=>whnf
  refine⟨⟨rfl,rfl,rfl⟩,?_⟩;conv=>whnf
  exact⟨((a++[b]),(IntKind.i64.wrap (d+1))),h,wk [1] []⟩
 ·obtain rfl:=sj h
  conv=>whnf
  try exact fin
abbrev q2t (_:Int) (_:List qa9) (_:List qaa) (_:Int) (_:SS) (_:Int) (_:Bool) (_:Int) (_:SS) (_:List Val) (_ _:List SS) (_:List qaa) (_:SS) (_:List qbo) (_:Bool) (_:List qat) (_ _:List qaa) (_:List qag) (_:List SS) (_:Bool) (r:qbr):FV:=.p ((PV.ifc (qbr.tid r) (qbr.val r)))
abbrev q2i (a:Int) (b:List qa9) (c:List qaa) (d:Int) (e:SS) (f:Int) (g:Bool) (i:Int) (j:SS) (k:List Val) (l m:List SS) (o:List qaa) (p:SS) (q:List qbo) (s:Bool) (t:List qat) (u v:List qaa) (w:List qag) (x:List SS) (y:Bool) (r:qbr):List AObj:=[.box 51 [pI a,pP b,pE c,pI d,pS e,pI f,pB g,pI i,pS j,pV k,pT l,pT m,pE o,pS p,pA q,pB s,pO t,pE u,pE v,pU w,pT x,pB y]]
def qod (n:Nat) (a:qag) (g:Int) (_:List qa9) (_:List qaa) (_:Int) (_:SS) (_:Int) (_:Bool) (_:Int) (_:SS) (_:List Val) (_ _:List SS) (_:List qaa) (_:SS) (_:List qbo) (_:Bool) (_:List qat) (_ _:List qaa) (_:List qag) (_:List SS) (_:Bool):Option (qbr):=
 match a with
 | ⟨b,i,j,⟨k,l,⟨m,o,p,q,c,d⟩,e,f⟩⟩=>
 some (qbr.change (qu6.mk (qag.mk b i j (qaa.mk k l (Val.mk m o p q c d) e f)) (g==6)))
theorem q04 (n:Nat):∀ (B:qag) (a:Int) (b:List qa9) (c:List qaa) (d:Int) (e:SS) (f:Int) (g:Bool) (i:Int) (j:SS) (k:List Val) (l m:List SS) (o:List qaa) (q:SS) (s:List qbo) (t:Bool) (u:List qat) (w x:List qaa) (y:List qag) (z:List SS) (A:Bool) (r:qbr),qod n B a b c d e f g i j k l m o q s t u w x y z A=some r->qaz Tryz.prog 138 [.p (PV.agg (qjp.cells B)),.ptr 0 0] [.box 51 [pI a,pP b,pE c,pI d,pS e,pI f,pB g,pI i,pS j,pV k,pT l,pT m,pE o,pS q,pA s,pB t,pO u,pE w,pE x,pU y,pT z,pB A]] 1 (fun v lo=>v=q2t a b c d e f g i j k l m o q s t u w x y z A r/\lo=q2i a b c d e f g i j k l m o q s t u w x y z A r):=by
 intro B a b c d e f g i j k l m o q s t u w x y z A r h;obtain⟨_,_,_,⟨_,_,⟨_,_,_,_,_,_⟩,_,_⟩⟩:=B;unfold qod at h;refine qaz.of_vc mixed (fun _ _=>Tryz.call138 _ _) Tryz.func138 (by kernel_rfl) (inl:=[1000000]) (Nat.le_of_ble_eq_true rfl) ?_;obtain rfl:=sj h;conv=>whnf
 refine⟨_,_,⟨rfl,rfl⟩,wk [0] []⟩
abbrev qmi (_:Int) (_:List qa9) (_:List qaa) (_:Int) (_:SS) (_:Int) (_:Bool) (_:Int) (_:SS) (_:List Val) (_ _:List SS) (_:List qaa) (_:SS) (_:List qbo) (_:Bool) (_:List qat) (_ _:List qaa) (_:List qag) (_:List SS) (_:Bool) (r:(List qbr)):FV:=.p (.sl (qbr.rows r))
abbrev qmh (l:Int) (s:List qa9) (t:List qaa) (u:Int) (v:SS) (w:Int) (x:Bool) (y:Int) (a:SS) (b:List Val) (c d:List SS) (e:List qaa) (f:SS) (g:List qbo) (i:Bool) (j:List qat) (k m:List qaa) (o:List qag) (p:List SS) (q:Bool) (r:(List qbr)):List AObj:=[.box 51 [pI l,pP s,pE t,pI u,pS v,pI w,pB x,pI y,pS a,pV b,pT c,pT d,pE e,pS f,pA g,pB i,pO j,pE k,pE m,pU o,pT p,pB q]]
def qbp (n:Nat) (c:List qag) (s:Int) (B:List qa9) (L:List qaa) (M:Int) (N:SS) (O:Int) (P:Bool) (Q:Int) (f:SS) (g:List Val) (i j:List SS) (k:List qaa) (l:SS) (m:List qbo) (o:Bool) (p:List qat) (q t:List qaa) (u:List qag) (v:List SS) (w:Bool):(List qbr×Int->Option ((List qbr)))->List qbr×Int->Option ((List qbr)):=fun e (a,b)=>
 bif(decide (b<((qag.rows c).length:Int)))then(
 bnd (idx c b) fun⟨x,y,z,⟨A,C,⟨D,E,F,G,H,I⟩,J,K⟩⟩=>
 bnd (qod n (qag.mk x y z (qaa.mk A C (Val.mk D E F G H I) J K)) s B L M N O P Q f g i j k l m o p q t u v w) fun d=>
 chk (decide ((qbr.rows (a++[d])).length * 16<=140737488355328)) (
 e ((a++[d]),(IntKind.i64.wrap (b+1)))))
 else(
 some a)
def qdh (n:Nat) (a:List qag) (m:Int) (t:List qa9) (u:List qaa) (v:Int) (w:SS) (x:Int) (y:Bool) (z:Int) (b:SS) (c:List Val) (d e:List SS) (f:List qaa) (g:SS) (i:List qbo) (j:Bool) (k:List qat) (l o:List qaa) (p:List qag) (q:List SS) (s:Bool):Option ((List qbr)):=
 qam (qbp n a m t u v w x y z b c d e f g i j k l o p q s) n (([]:List _),(0:Int))
theorem qlp (n:Nat):∀ (E:List qag) (o:Int) (w:List qa9) (x:List qaa) (y:Int) (z:SS) (A:Int) (C:Bool) (D:Int) (c:SS) (d:List Val) (e f:List SS) (g:List qaa) (i:SS) (j:List qbo) (k:Bool) (l:List qat) (m q:List qaa) (s:List qag) (t:List SS) (u:Bool) (r:(List qbr)),qdh n E o w x y z A C D c d e f g i j k l m q s t u=some r->qaz Tryz.prog 137 [.p (PV.sl (qag.rows E)),.clo 138 (.cap (.ptr 0 0) (.cap0))] [.box 51 [pI o,pP w,pE x,pI y,pS z,pI A,pB C,pI D,pS c,pV d,pT e,pT f,pE g,pS i,pA j,pB k,pO l,pE m,pE q,pU s,pT t,pB u]] 1 (fun v lo=>v=qmi o w x y z A C D c d e f g i j k l m q s t u r/\lo=qmh o w x y z A C D c d e f g i j k l m q s t u r):=by
 intro E o w x y z A C D c d e f g i j k l m q s t u r h;unfold qdh at h;refine qaz.of_vc mixed (fun _ _=>Tryz.call137 _ _) Tryz.func137 (by kernel_rfl) (inl:=[20000015,1000000]) (Nat.le_of_ble_eq_true rfl) ?_;conv=>whnf
 refine qbi.fn [20000015,1000000] (S:=List qbr×Int) (fun(a,F)=>[(1,.clo 138 (.cap (.ptr 0 0) (.cap0))),(5,.tsl 1 (qbr.rows a)),(8,pU E),(9,.p (.int .i64 ((qag.rows E).length:Int))),(10,pI F)]) (fun(a,F)=>[.box 51 [pI o,pP w,pE x,pI y,pS z,pI A,pB C,pI D,pS c,pV d,pT e,pT f,pE g,pS i,pA j,pB k,pO l,pE m,pE q,pU s,pT t,pB u],.tail 156 1 (qbr.rows a).length]) (B:=qbp n E o w x y z A C D c d e f g i j k l m q s t u) h (wk [0,0] [1]) ?_;intro _ st h;obtain⟨a,F⟩:=st;unfold qbp at h;conv=>whnf
 apply ifc h<;>intro _ h
 ·conv=>whnf
  refine bq h fun⟨J,K,L,⟨M,N,⟨O,P,Q,R,T,U⟩,V,W⟩⟩ I h=>?_;refine⟨_,Codec.at_ qjp I,?_⟩;conv=>whnf
  refine bq h fun b H h=>?_;refine qcq (q04 n _ _ _ _ _ _ _ _ _ _ _ _ _ _ _ _ _ _ _ _ _ _ _ _ H) [0] [] ?_;rintro _ _ ⟨rfl,rfl⟩;refine⟨.p ((PV.ifc (qbr.tid b) (qbr.val b))),[.box 51 [pI o,pP w,pE x,pI y,pS z,pI A,pB C,pI D,pS c,pV d,pT e,pT f,pE g,pS i,pA j,pB k,pO l,pE m,pE q,pU s,pT t,pB u],.tail 156 1 (qbr.rows a).length,.box 74 [pS J,pS K,pS L,pI M,pS N,pI O,pB P,pI Q,pS R,pV T,pT U,pT V,pE W]],rfl,rfl,?_⟩;conv=>whnf
  refine⟨Codec.one qrx [b],qbr.rows [b],.inl rfl,?_⟩;conv=>whnf
  rw[show qbr.rows a++qbr.rows [b]=qbr.rows (a++[b])from Codec.append qrx a [b]];conv=>whnf
  obtain⟨G,h⟩:=qai h;refine⟨⟨Codec.wide qrx (a++[b]),of_decide_eq_true G,qb5 G (by decide)⟩,?_⟩;conv=>whnf
  refine⟨⟨rfl,rfl,rfl⟩,?_⟩;conv=>whnf
  exact⟨((a++[b]),(IntKind.i64.wrap (F+1))),h,wk [0,3] []⟩
 ·obtain rfl:=sj h
  conv=>whnf
  refine⟨_,_,⟨rfl,rfl⟩,wk [0] []⟩
abbrev qsm (r:Bool):PV:=PV.bool r
def qds (n:Nat) (b d:List SS):(Int->Option (Bool))->Int->Option (Bool):=fun c a=>
 bif(decide (a<((qak b).length:Int)))then(
 bnd (idx b a) fun e=>
 bnd (idx d a) fun f=>
 bif(!(e==f))then(
 some false)
 else(
 c (IntKind.i64.wrap (a+1))))
 else(
 some true)
def qeb (n:Nat) (a b:List SS):Option (Bool):=
 bif(((qak a).length:Int) != ((qak b).length:Int))then(
 some false)
 else(
 qam (qds n a b) n (0:Int))
theorem qrp (n:Nat):∀ (a b:List SS) (r:Bool),qeb n a b=some r->qac Tryz.prog 179 [PV.sl (qak a),PV.sl (qak b)] (qsm r):=by
 intro a b r h;unfold qeb at h;refine qac.of_vcN mixed (fun _ _=>Tryz.call179 _ _) Tryz.func179 (by kernel_rfl) (inl:=[1000000]) ?_;conv=>whnf
 apply ifc h<;>intro d h
 ·obtain rfl:=sj h
  conv=>whnf
  try exact fin
 ·conv=>whnf
  refine qbi.fn [1000000] (S:=Int) (fun c=>[(0,pT a),(1,pT b),(12,.p (.int .i64 ((qak a).length:Int))),(13,pI c)]) (fun c=>[]) (B:=qds n a b) h (wk [] []) ?_;intro _ c h;unfold qds at h;conv=>whnf
  apply ifc h<;>intro d h
  ·conv=>whnf
   refine bq h fun _ f h=>?_;refine⟨_,Codec.at_ qpr f,?_⟩;conv=>whnf
   refine bq h fun _ e h=>?_;refine⟨_,Codec.at_ qpr e,?_⟩;conv=>whnf
   apply ifc h<;>intro d h
   ·obtain rfl:=sj h
    conv=>whnf
    try exact fin
   ·conv=>whnf
    exact⟨(IntKind.i64.wrap (c+1)),h,wk [] []⟩
  ·obtain rfl:=sj h
   conv=>whnf
   try exact fin
abbrev qo4 (r:Bool):PV:=PV.bool r
abbrev zwc:Type:=Val->Val->Option (Bool)
def qtc (n:Nat) (g174:zwc) (g180z174:(List Val)->(List Val)->Option (Bool)) (k l:Val):Option (Bool):=
 match k,l with
 | ⟨a,c,d,e,q,s⟩,⟨f,g,i,b,m,o⟩=>
 bnd (qaw (bif(bif(bif(a==f)then(c==g)else false)then(d==i)else false)then(e==b)else false) (qeb n s o)) fun j=>
 bnd (qaw (bif(bif(bif(bif(a==f)then(c==g)else false)then(d==i)else false)then(e==b)else false)then j else false) (g180z174 q m)) fun p=>
 some (bif(bif(bif(bif(bif(a==f)then(c==g)else false)then(d==i)else false)then(e==b)else false)then j else false)then p else false)
abbrev qa4 (r:Bool):PV:=PV.bool r
def qav (n:Nat) (b l:List Val) (g174:zwc):(Int->Option (Bool))->Int->Option (Bool):=fun c a=>
 bif(decide (a<((Val.rows b).length:Int)))then(
 bnd (idx b a) fun⟨m,o,p,q,s,t⟩=>
 bnd (idx l a) fun⟨d,e,f,g,i,j⟩=>
 bnd (g174 (Val.mk m o p q s t) (Val.mk d e f g i j)) fun k=>
 bif(!k)then(
 some false)
 else(
 c (IntKind.i64.wrap (a+1))))
 else(
 some true)
def qa5 (n:Nat) (g174:zwc) (g180z174:(List Val)->(List Val)->Option (Bool)) (a b:List Val):Option (Bool):=
 bif(((Val.rows a).length:Int) != ((Val.rows b).length:Int))then(
 some false)
 else(
 qam (qav n a b g174) n (0:Int))
theorem q6w (n:Nat) (g174:zwc) (g180z174:(List Val)->(List Val)->Option (Bool)) (g174_ok:∀ (a b:Val) (r:Bool),g174 a b=some r->qac Tryz.prog 174 [PV.agg (qvp.cells a),PV.agg (qvp.cells b)] (qo4 r)) (g180_174_ok:∀ (d e:List Val) (r:Bool),g180z174 d e=some r->qac Tryz.prog 180 [PV.sl (Val.rows d),PV.sl (Val.rows e),PV.fn 174] (qa4 r)):∀ (a b:Val) (r:Bool),qtc n g174 g180z174 a b=some r->qac Tryz.prog 174 [PV.agg (qvp.cells a),PV.agg (qvp.cells b)] (qo4 r):=by
 intro a b r h;obtain⟨d,e,_,_,_,_⟩:=a;obtain⟨_,_,_,_,_,_⟩:=b;unfold qtc at h;refine qac.of_vcN mixed (fun _ _=>Tryz.call174 _ _) Tryz.func174 (by kernel_rfl) (inl:=[1000000]) ?_;conv=>whnf
 iterate 19 refine⟨id,?_⟩
 conv=>whnf
 refine bq h fun _ g h=>?_;refine⟨_,fun c=>(qrp n _ _ _ (qad g c)),?_⟩;conv=>whnf
 refine⟨id,id,id,id,id,?_⟩;conv=>whnf
 refine bq h fun _ f h=>?_;refine⟨_,fun c=>(g180_174_ok _ _ _ (qad f c)),?_⟩;conv=>whnf
 refine⟨id,?_⟩;obtain rfl:=sj h;conv=>whnf
 try exact fin
theorem qep (n:Nat) (g174:zwc) (g180z174:(List Val)->(List Val)->Option (Bool)) (g174_ok:∀ (d e:Val) (r:Bool),g174 d e=some r->qac Tryz.prog 174 [PV.agg (qvp.cells d),PV.agg (qvp.cells e)] (qo4 r)) (g180_174_ok:∀ (a b:List Val) (r:Bool),g180z174 a b=some r->qac Tryz.prog 180 [PV.sl (Val.rows a),PV.sl (Val.rows b),PV.fn 174] (qa4 r)):∀ (a b:List Val) (r:Bool),qa5 n g174 g180z174 a b=some r->qac Tryz.prog 180 [PV.sl (Val.rows a),PV.sl (Val.rows b),PV.fn 174] (qa4 r):=by
 intro a b r h;unfold qa5 at h;refine qac.of_vcN mixed (fun _ _=>Tryz.call180 _ _) Tryz.func180 (by kernel_rfl) (inl:=[1000000]) ?_;conv=>whnf
 apply ifc h<;>intro f h
 ·obtain rfl:=sj h
  conv=>whnf
  try exact fin
 ·conv=>whnf
  refine qbi.fn [1000000] (S:=Int) (fun c=>[(1,pV b),(2,.p (.fn 174)),(15,pV a),(16,.p (.int .i64 ((Val.rows a).length:Int))),(17,pI c)]) (fun c=>[]) (B:=qav n a b g174) h (wk [] []) ?_;intro _ c h;unfold qav at h;conv=>whnf
  apply ifc h<;>intro f h
  ·conv=>whnf
   refine bq h fun⟨_,_,_,_,_,_⟩ j h=>?_;refine⟨_,Codec.at_ qvp j,?_⟩;conv=>whnf
   refine bq h fun⟨_,_,_,_,_,_⟩ i h=>?_;refine⟨_,Codec.at_ qvp i,?_⟩;conv=>whnf
   refine bq h fun _ g h=>?_;refine⟨_,(g174_ok _ _ _ g),?_⟩;conv=>whnf
   apply ifc h<;>intro f h
   ·obtain rfl:=sj h
    conv=>whnf
    try exact fin
   ·conv=>whnf
    exact⟨(IntKind.i64.wrap (c+1)),h,wk [] []⟩
  ·obtain rfl:=sj h
   conv=>whnf
   try exact fin
mutual
def qhy:Nat->Val->Val->Option (Bool)
 | 0=>fun _ _=>none
 | n+1=>qtc n (qhy n) (qan n)
def qan:Nat->(List Val)->(List Val)->Option (Bool)
 | 0=>fun _ _=>none
 | n+1=>qa5 n (qhy n) (qan n)
end
theorem q68 (n:Nat):(∀ (a b:Val) (r:Bool),qhy n a b=some r->qac Tryz.prog 174 [PV.agg (qvp.cells a),PV.agg (qvp.cells b)] (qo4 r))/\(∀ (c d:List Val) (r:Bool),qan n c d=some r->qac Tryz.prog 180 [PV.sl (Val.rows c),PV.sl (Val.rows d),PV.fn 174] (qa4 r)):=by
 induction n with
 | zero=>exact⟨(by intros; rename_i h; cases h),(by intros; rename_i h; cases h)⟩
 | succ n ih=>
  obtain⟨hg174,hg180_174⟩:=ih;exact⟨q6w n (qhy n) (qan n) hg174 hg180_174,qep n (qhy n) (qan n) hg174 hg180_174⟩
theorem qzq (n:Nat):∀ (a b:Val) (r:Bool),qhy n a b=some r->qac Tryz.prog 174 [PV.agg (qvp.cells a),PV.agg (qvp.cells b)] (qo4 r):=(q68 n).1
abbrev q9o (r:Bool):PV:=PV.bool r
def qji (n:Nat) (c:qaa):Option (Bool):=
 match c with
 | ⟨a,b,⟨f,g,i,j,k,l⟩,m,d⟩=>
 bnd (qaw (bif(a==0)then(b==([]:SS))else false) (qhy n (Val.mk f g i j k l) (Val.mk (0:Int) false (0:Int) ([]:SS) ([]:List Val) ([]:List SS)))) fun e=>
 some (bif(bif(bif(bif(a==0)then(b==([]:SS))else false)then e else false)then(((qak m).length:Int)==0)else false)then(((qaa.rows d).length:Int)==0)else false)
theorem qyk (n:Nat):∀ (a:qaa) (r:Bool),qji n a=some r->qac Tryz.prog 160 [PV.agg (qck.cells a)] (q9o r):=by
 intro a r h;obtain⟨_,_,⟨_,_,_,_,_,_⟩,_,_⟩:=a;unfold qji at h;refine qac.of_vcN mixed (fun _ _=>Tryz.call160 _ _) Tryz.func160 (by kernel_rfl) (inl:=[1000000]) ?_;conv=>whnf
 iterate 6 refine⟨id,?_⟩
 conv=>whnf
 refine bq h fun _ b h=>?_;refine⟨_,fun c=>(qac.leArgs (qzq n _ _ _ (qad b c)) (by try exact fin)),?_⟩;conv=>whnf
 iterate 9 refine⟨id,?_⟩
 obtain rfl:=sj h;conv=>whnf
 try exact fin
abbrev q9n (r:Bool):PV:=PV.bool r
def qec (n:Nat) (f g:qab):Option (Bool):=
 match f,g with
 | ⟨_,a,e,⟨B,I,⟨J,K,L,M,i,j⟩,k,l⟩,m,o,p,q,s,t,u,v,w⟩,⟨_,b,c,⟨d,_,⟨_,_,_,_,_,_⟩,_,_⟩,x,y,z,A,C,D,E,F,G⟩=>
 bnd (qaw ((bif(((qa9.rows a).length:Int)==((qa9.rows b).length:Int))then(((qaa.rows e).length:Int)==((qaa.rows c).length:Int))else false)&&(!(d != 0))) (qji n (qaa.mk B I (Val.mk J K L M i j) k l))) fun H=>
 some (bif(bif(bif(bif(bif(bif(bif(bif(bif(bif(bif(((qa9.rows a).length:Int)==((qa9.rows b).length:Int))then(((qaa.rows e).length:Int)==((qaa.rows c).length:Int))else false)then(bif(d != 0)then true else H)else false)then(m==x)else false)then(((qbo.rows o).length:Int)==((qbo.rows y).length:Int))else false)then(p==z)else false)then(((qat.rows q).length:Int)==((qat.rows A).length:Int))else false)then(((qaa.rows s).length:Int)==((qaa.rows C).length:Int))else false)then(((qaa.rows t).length:Int)==((qaa.rows D).length:Int))else false)then(((qag.rows u).length:Int)==((qag.rows E).length:Int))else false)then(((qak v).length:Int)==((qak F).length:Int))else false)then(w==G)else false)
set_option maxHeartbeats 4000000 in
theorem qf3 (n:Nat):∀ (a b:qab) (r:Bool),qec n a b=some r->qac Tryz.prog 139 [PV.agg (qcz.cells a),PV.agg (qcz.cells b)] (q9n r):=by
 intro a b r h;obtain⟨_,_,_,⟨_,_,⟨_,_,_,_,_,_⟩,_,_⟩,_,_,_,_,_,_,_,_,_⟩:=a;obtain⟨_,_,_,⟨_,_,⟨_,_,_,_,_,_⟩,_,_⟩,_,_,_,_,_,_,_,_,_⟩:=b;unfold qec at h;refine qac.of_vcN mixed (fun _ _=>Tryz.call139 _ _) Tryz.func139 (by kernel_rfl) (inl:=[1000000]) ?_;conv=>whnf
 iterate 13 refine⟨id,?_⟩
 conv=>whnf
 refine bq h fun _ c h=>?_;refine⟨_,fun d=>(qyk n _ _ (qad c d)),?_⟩;conv=>whnf
 iterate 60 refine⟨id,?_⟩
 obtain rfl:=sj h;conv=>whnf
 try exact fin
abbrev q7p (r:List qbc×Bool):PV:=PV.tup [PV.sl (qbc.rows r.1),PV.bool r.2]
def qh9 (n:Nat) (a:Int) (m:List qa9) (s:List qaa) (w:Int) (x:SS) (y:Int) (z:Bool) (A:Int) (B:SS) (g:List Val) (i j:List SS) (k:List qaa) (l:SS) (b:List qbo) (c:Bool) (d:List qat) (e f:List qaa) (o:List qag) (p:List SS) (q:Bool):List qbc×List qaa->Option (List qbc×Bool):=fun(t,u)=>
 bnd (qec n (qab.mk a m s (qaa.mk w x (Val.mk y z A B g i) j k) l b c d e f o p q) (qab.mk a ([]:List qa9) u (qaa.mk (0:Int) ([]:SS) (Val.mk (0:Int) false (0:Int) ([]:SS) ([]:List Val) ([]:List SS)) ([]:List SS) ([]:List qaa)) ([]:SS) b c d e f ([]:List qag) ([]:List SS) false)) fun v=>
 some (t,v)
def qjj (n:Nat) (a:Int) (o:List qa9) (s:List qaa) (u:Int) (x:SS) (y:Int) (z:Bool) (A:Int) (B:SS) (c:List Val) (d e:List SS) (f:List qaa) (g:SS) (i:List qbo) (j:Bool) (k:List qat) (l m:List qaa) (b:List qag) (p:List SS) (q:Bool) (t:List qbr):SS->Option (List qbc×Bool):=fun v=>
 bnd (qec n (qab.mk a o s (qaa.mk u x (Val.mk y z A B c d) e f) g i j k l m b p q) (qab.mk a ([]:List qa9) ([]:List qaa) (qaa.mk (0:Int) ([]:SS) (Val.mk (0:Int) false (0:Int) ([]:SS) ([]:List Val) ([]:List SS)) ([]:List SS) ([]:List qaa)) ([]:SS) ([]:List qbo) false ([]:List qat) ([]:List qaa) ([]:List qaa) b ([]:List SS) false)) fun w=>
 some ([qbc.mk v t (1:Int) (1048576:Int)],w)
def qjk (n:Nat) (a:Int) (p:List qa9) (t:List qaa) (u:Int) (w:SS) (y:Int) (z:Bool) (A:Int) (B:SS) (d:List Val) (e f:List SS) (g:List qaa) (i:SS) (j:List qbo) (k:Bool) (l:List qat) (m o:List qaa) (q:List qag) (b:List SS) (c:Bool) (s:List qbr):SS->Option (List qbc×Bool):=fun v=>
 bnd (qec n (qab.mk a p t (qaa.mk u w (Val.mk y z A B d e) f g) i j k l m o q b c) (qab.mk a ([]:List qa9) ([]:List qaa) (qaa.mk (0:Int) ([]:SS) (Val.mk (0:Int) false (0:Int) ([]:SS) ([]:List Val) ([]:List SS)) ([]:List SS) ([]:List qaa)) ([]:SS) ([]:List qbo) false ([]:List qat) ([]:List qaa) ([]:List qaa) ([]:List qag) b c)) fun x=>
 some ([qbc.mk v s (1:Int) (1048576:Int)],x)
def qkx (n:Nat) (a:Int) (o:List qa9) (s:List qaa) (t:Int) (u:SS) (v:Int) (w:Bool) (x:Int) (y:SS) (c:List Val) (d e:List SS) (f:List qaa) (g:SS) (i:List qbo) (j:Bool) (k:List qat) (l m:List qaa) (p:List qag) (q:List SS) (b:Bool) (A z:List qbr):Bool->Option (List qbc×Bool):=fun B=>
 bif B then(
 bif(a==7)then(
 qjj n a o s t u v w x y c d e f g i j k l m p q b A ([82,69,77,79,86,69,32]:SS))
 else(
 qjj n a o s t u v w x y c d e f g i j k l m p q b A ([83,69,84,32]:SS)))
 else(
 bif(a==8)then(
 bif b then(
 qjk n a o s t u v w x y c d e f g i j k l m p q b z ([68,69,84,65,67,72,32,68,69,76,69,84,69,32]:SS))
 else(
 qjk n a o s t u v w x y c d e f g i j k l m p q b z ([68,69,76,69,84,69,32]:SS)))
 else(
 bnd (qec n (qab.mk a o s (qaa.mk t u (Val.mk v w x y c d) e f) g i j k l m p q b) (qab.mk a ([]:List qa9) ([]:List qaa) (qaa.mk (0:Int) ([]:SS) (Val.mk (0:Int) false (0:Int) ([]:SS) ([]:List Val) ([]:List SS)) ([]:List SS) ([]:List qaa)) ([]:SS) ([]:List qbo) false ([]:List qat) ([]:List qaa) ([]:List qaa) ([]:List qag) ([]:List SS) false)) fun C=>
 some (([]:List qbc),C)))
def qh8 (n:Nat) (c:SS) (u v:List qbr) (w x:List qbr) (a:Int) (F:List qbr) (b:List qa9) (d:List qaa) (y:Int) (z:SS) (A:Int) (B:Bool) (C:Int) (D:SS) (e:List Val) (f g:List SS) (i:List qaa) (j:SS) (k:List qbo) (l:Bool) (m:List qat) (o p:List qaa) (q:List qag) (s:List SS) (t:Bool) (E H G:List qbr):Bool->Option (List qbc×Bool):=fun L=>
 bif L then(
 chk (decide (((([82,69,84,85,82,78,32]:SS).length+c.length:Nat):Int)<=qhk)) (
 chk (decide ((qbc.rows ([qbc.mk (([82,69,84,85,82,78,32]:SS)++c) u (1:Int) (1048576:Int)]++[qbc.mk ([32,79,82,68,69,82,32,66,89,32]:SS) v (0:Int) (1048576:Int),qbc.mk ([32,83,75,73,80,32]:SS) w (0:Int) (1:Int),qbc.mk ([32,76,73,77,73,84,32]:SS) x (0:Int) (1:Int)])).length * 56<=140737488355328)) (
 bif(a==3)then(
 chk (decide (((([87,73,84,72,32]:SS).length+c.length:Nat):Int)<=qhk)) (
 chk (decide (0<(qbc.rows ([qbc.mk (([82,69,84,85,82,78,32]:SS)++c) u (1:Int) (1048576:Int)]++[qbc.mk ([32,79,82,68,69,82,32,66,89,32]:SS) v (0:Int) (1048576:Int),qbc.mk ([32,83,75,73,80,32]:SS) w (0:Int) (1:Int),qbc.mk ([32,76,73,77,73,84,32]:SS) x (0:Int) (1:Int)])).length)) (
 bnd (([qbc.mk (([82,69,84,85,82,78,32]:SS)++c) u (1:Int) (1048576:Int)]++[qbc.mk ([32,79,82,68,69,82,32,66,89,32]:SS) v (0:Int) (1048576:Int),qbc.mk ([32,83,75,73,80,32]:SS) w (0:Int) (1:Int),qbc.mk ([32,76,73,77,73,84,32]:SS) x (0:Int) (1:Int)])[0]?) fun⟨_,I,J,K⟩=>
 chk (decide ((qbc.rows ((([qbc.mk (([82,69,84,85,82,78,32]:SS)++c) u (1:Int) (1048576:Int)]++[qbc.mk ([32,79,82,68,69,82,32,66,89,32]:SS) v (0:Int) (1048576:Int),qbc.mk ([32,83,75,73,80,32]:SS) w (0:Int) (1:Int),qbc.mk ([32,76,73,77,73,84,32]:SS) x (0:Int) (1:Int)]).set 0 (qbc.mk (([87,73,84,72,32]:SS)++c) I J K))++[qbc.mk ([32,87,72,69,82,69,32]:SS) F (0:Int) (1:Int)])).length * 56<=140737488355328)) (
 qh9 n a b d y z A B C D e f g i j k l m o p q s t (((([qbc.mk (([82,69,84,85,82,78,32]:SS)++c) u (1:Int) (1048576:Int)]++[qbc.mk ([32,79,82,68,69,82,32,66,89,32]:SS) v (0:Int) (1048576:Int),qbc.mk ([32,83,75,73,80,32]:SS) w (0:Int) (1:Int),qbc.mk ([32,76,73,77,73,84,32]:SS) x (0:Int) (1:Int)]).set 0 (qbc.mk (([87,73,84,72,32]:SS)++c) I J K))++[qbc.mk ([32,87,72,69,82,69,32]:SS) F (0:Int) (1:Int)]),d)))))
 else(
 qh9 n a b d y z A B C D e f g i j k l m o p q s t (([qbc.mk (([82,69,84,85,82,78,32]:SS)++c) u (1:Int) (1048576:Int)]++[qbc.mk ([32,79,82,68,69,82,32,66,89,32]:SS) v (0:Int) (1048576:Int),qbc.mk ([32,83,75,73,80,32]:SS) w (0:Int) (1:Int),qbc.mk ([32,76,73,77,73,84,32]:SS) x (0:Int) (1:Int)]),([]:List _))))))
 else(
 bif(a==4)then(
 bnd (qec n (qab.mk a b d (qaa.mk y z (Val.mk A B C D e f) g i) j k l m o p q s t) (qab.mk a b ([]:List qaa) (qaa.mk (0:Int) ([]:SS) (Val.mk (0:Int) false (0:Int) ([]:SS) ([]:List Val) ([]:List SS)) ([]:List SS) ([]:List qaa)) ([]:SS) ([]:List qbo) false ([]:List qat) ([]:List qaa) ([]:List qaa) ([]:List qag) ([]:List SS) false)) fun M=>
 some ([qbc.mk ([67,82,69,65,84,69,32]:SS) E (1:Int) (1048576:Int)],M))
 else(
 bif(a==5)then(
 bnd (qaw (((qa9.rows b).length:Int)==1) (idx b (0:Int))) fun⟨_,N⟩=>
 bif(bif(((qa9.rows b).length:Int)==1)then(decide (((qah.rows N).length:Int)>0))else false)then(
 some (([]:List qbc),false))
 else(
 bnd (qec n (qab.mk a b d (qaa.mk y z (Val.mk A B C D e f) g i) j k l m o p q s t) (qab.mk a b ([]:List qaa) (qaa.mk (0:Int) ([]:SS) (Val.mk (0:Int) false (0:Int) ([]:SS) ([]:List Val) ([]:List SS)) ([]:List SS) ([]:List qaa)) ([]:SS) ([]:List qbo) false ([]:List qat) ([]:List qaa) ([]:List qaa) ([]:List qag) ([]:List SS) false)) fun O=>
 some ([qbc.mk ([77,69,82,71,69,32]:SS) E (1:Int) (1:Int)],O)))
 else(
 bif(a==6)then(
 qkx n a b d y z A B C D e f g i j k l m o p q s t H G (a==6))
 else(
 qkx n a b d y z A B C D e f g i j k l m o p q s t H G (a==7)))))
def qh7 (n:Nat) (a:Int) (o:List qa9) (p:List qaa) (g:Int) (i:SS) (j:Int) (k:Bool) (l:Int) (m:SS) (b:List Val) (c d:List SS) (e:List qaa) (f:SS) (q:List qbo) (s:Bool) (t:List qat) (u v:List qaa) (w:List qag) (x:List SS) (y:Bool) (z A:List qbr) (B C:List qbr) (D E:List qbr) (G F:List qbr):SS->Option (List qbc×Bool):=fun H=>
 bif(a==1)then(
 bnd (qec n (qab.mk a o p (qaa.mk g i (Val.mk j k l m b c) d e) f q s t u v w x y) (qab.mk a o p (qaa.mk (0:Int) ([]:SS) (Val.mk (0:Int) false (0:Int) ([]:SS) ([]:List Val) ([]:List SS)) ([]:List SS) ([]:List qaa)) ([]:SS) ([]:List qbo) false ([]:List qat) ([]:List qaa) ([]:List qaa) ([]:List qag) ([]:List SS) false)) fun I=>
 some ([qbc.mk ([77,65,84,67,72,32]:SS) z (1:Int) (1048576:Int),qbc.mk ([32,87,72,69,82,69,32]:SS) A (0:Int) (1:Int)],I))
 else(
 bif(a==2)then(
 bnd (qec n (qab.mk a o p (qaa.mk g i (Val.mk j k l m b c) d e) f q s t u v w x y) (qab.mk a ([]:List qa9) ([]:List qaa) (qaa.mk g i (Val.mk j k l m b c) d e) f ([]:List qbo) false ([]:List qat) ([]:List qaa) ([]:List qaa) ([]:List qag) ([]:List SS) false)) fun J=>
 some ([qbc.mk ([85,78,87,73,78,68,32]:SS) [(qbr.expr (qaa.mk g i (Val.mk j k l m b c) d e))] (1:Int) (1:Int),qbc.mk ([32,65,83,32]:SS) [(qbr.name f)] (1:Int) (1:Int)],J))
 else(
 bif(a==3)then(
 qh8 n H B C D E a A o p g i j k l m b c d e f q s t u v w x y z G F (a==3))
 else(
 qh8 n H B C D E a A o p g i j k l m b c d e f q s t u v w x y z G F (a==9))))
def qmc (n:Nat) (H:qab):Option (List qbc×Bool):=
 match H with
 | ⟨k,f,j,⟨t,u,⟨v,w,x,y,l,m⟩,o,p⟩,q,a,b,c,d,e,g,i,s⟩=>
 bnd (qdx n f) fun z=>
 bnd (qdt n j) fun A=>
 bnd (qdw n a) fun B=>
 bnd (qdy n c) fun C=>
 bnd (qdu n d) fun D=>
 bnd (qdv n e) fun E=>
 bnd (qd5 n i) fun F=>
 bnd (qdh n g k f j t u v w x y l m o p q a b c d e g i s) fun G=>
 bif b then(
 qh7 n k f j t u v w x y l m o p q a b c d e g i s z A B C D E G F ([68,73,83,84,73,78,67,84,32]:SS))
 else(
 qh7 n k f j t u v w x y l m o p q a b c d e g i s z A B C D E G F ([]:SS))
set_option maxHeartbeats 4000000 in
theorem q47 (n:Nat):∀ (M:qab) (r:List qbc×Bool),qmc n M=some r->qac Tryz.prog 85 [PV.agg (qcz.cells M)] (q7p r):=by
 intro M r h;obtain⟨a,y,q,⟨i,j,⟨k,l,m,o,b,c⟩,d,e⟩,f,t,u,v,w,x,z,A,B⟩:=M;unfold qmc at h;refine qac.of_vcN mixed (fun _ _=>Tryz.call85 _ _) Tryz.func85 (by kernel_rfl) (inl:=[137,10000092,40000015,40000017,40000024,40000025,40000043,50000064,50000083,50000120,50000121,50000122,50000123,50000179,60003002,60007006,1000000]) ?_;conv=>whnf
 refine bq h fun H b2 h=>?_;refine⟨_,(qne n _ _ b2),?_⟩;conv=>whnf
 refine bq h fun C b1 h=>?_;refine⟨_,(qna n _ _ b1),?_⟩;conv=>whnf
 refine bq h fun D b0 h=>?_;refine⟨_,(qnd n _ _ b0),?_⟩;conv=>whnf
 refine bq h fun E a9 h=>?_;refine⟨_,(qnf n _ _ a9),?_⟩;conv=>whnf
 refine bq h fun F a7 h=>?_;refine⟨_,(qnb n _ _ a7),?_⟩;conv=>whnf
 refine bq h fun G a6 h=>?_;refine⟨_,(qnc n _ _ a6),?_⟩;conv=>whnf
 refine⟨Codec.one qs9 [qbc.mk ([32,79,82,68,69,82,32,66,89,32]:SS) E (0:Int) (1048576:Int),qbc.mk ([32,83,75,73,80,32]:SS) F (0:Int) (1:Int),qbc.mk ([32,76,73,77,73,84,32]:SS) G (0:Int) (1:Int)],qbc.rows [qbc.mk ([32,79,82,68,69,82,32,66,89,32]:SS) E (0:Int) (1048576:Int),qbc.mk ([32,83,75,73,80,32]:SS) F (0:Int) (1:Int),qbc.mk ([32,76,73,77,73,84,32]:SS) G (0:Int) (1:Int)],.inl rfl,?_⟩;conv=>whnf
 refine bq h fun I a5 h=>?_;refine⟨_,(qon n _ _ a5),?_⟩;conv=>whnf
 refine bq h fun J X h=>?_;refine qcq (qlp n _ _ _ _ _ _ _ _ _ _ _ _ _ _ _ _ _ _ _ _ _ _ _ _ X) [0] [] ?_;rintro _ _ ⟨rfl,rfl⟩;refine⟨.p (.sl (qbr.rows J)),[.box 51 [pI a,pP y,pE q,pI i,pS j,pI k,pB l,pI m,pS o,pV b,pT c,pT d,pE e,pS f,pA t,pB u,pO v,pE w,pE x,pU z,pT A,pB B],.box 154 [zq1,.p (.sl (qbr.rows H)),.p (.int .i64 (1:Int)),.p (.int .i64 (1048576:Int))],.box 154 [.p (.str ([32,87,72,69,82,69,32]:SS)),.p (.sl (qbr.rows C)),zq0,.p (.int .i64 (1:Int))],.box 154 [zq1,.p (.sl (qbr.rows D)),.p (.int .i64 (1:Int)),.p (.int .i64 (1048576:Int))],.box 154 [.p (.str ([68,69,76,69,84,69,32]:SS)),.p (.sl (qbr.rows I)),.p (.int .i64 (1:Int)),.p (.int .i64 (1048576:Int))]],rfl,rfl,?_⟩;conv=>whnf
 refine qhe.cut (S:=SS) (fun g=>[(1,.ptr 0 0),(4,.ptr 1 0),(5,.ptr 2 0),(6,.ptr 3 0),(7,.p (.sl (qbc.rows [qbc.mk ([32,79,82,68,69,82,32,66,89,32]:SS) E (0:Int) (1048576:Int),qbc.mk ([32,83,75,73,80,32]:SS) F (0:Int) (1:Int),qbc.mk ([32,76,73,77,73,84,32]:SS) G (0:Int) (1:Int)]))),(8,.ptr 4 0),(9,.ptr 5 0),(10,pS g)]) (fun g=>[.box 51 [pI a,pP y,pE q,pI i,pS j,pI k,pB l,pI m,pS o,pV b,pT c,pT d,pE e,pS f,pA t,pB u,pO v,pE w,pE x,pU z,pT A,pB B],.box 154 [zq1,.p (.sl (qbr.rows H)),.p (.int .i64 (1:Int)),.p (.int .i64 (1048576:Int))],.box 154 [.p (.str ([32,87,72,69,82,69,32]:SS)),.p (.sl (qbr.rows C)),zq0,.p (.int .i64 (1:Int))],.box 154 [zq1,.p (.sl (qbr.rows D)),.p (.int .i64 (1:Int)),.p (.int .i64 (1048576:Int))],.box 154 [.p (.str ([68,69,76,69,84,69,32]:SS)),.p (.sl (qbr.rows I)),.p (.int .i64 (1:Int)),.p (.int .i64 (1048576:Int))],.box 154 [zq1,.p (.sl (qbr.rows J)),.p (.int .i64 (1:Int)),.p (.int .i64 (1048576:Int))]]) (qh7 n a y q i j k l m o b c d e f t u v w x z A B H C D E F G J I) (r:=r) ?_ ?_
 ·intro g h
  unfold qh7 at h;conv=>whnf
  refine qhe.go ?_;conv=>whnf
  apply ifc h<;>intro s h
  ·conv=>whnf
   refine⟨Codec.one qs9 [qbc.mk ([77,65,84,67,72,32]:SS) H (1:Int) (1048576:Int),qbc.mk ([32,87,72,69,82,69,32]:SS) C (0:Int) (1:Int)],qbc.rows [qbc.mk ([77,65,84,67,72,32]:SS) H (1:Int) (1048576:Int),qbc.mk ([32,87,72,69,82,69,32]:SS) C (0:Int) (1:Int)],.inl rfl,?_⟩;conv=>whnf
   refine bq h fun _ a8 h=>?_;refine⟨_,(qac.leArgs (qf3 n _ _ _ a8) (by try exact fin)),?_⟩;obtain rfl:=sj h;conv=>whnf
   try exact fin
  ·conv=>whnf
   apply ifc h<;>intro s h
   ·conv=>whnf
    refine⟨Codec.one qrx [(qbr.expr (qaa.mk i j (Val.mk k l m o b c) d e))],qbr.rows [(qbr.expr (qaa.mk i j (Val.mk k l m o b c) d e))],.inl rfl,?_⟩;conv=>whnf
    refine⟨Codec.one qrx [(qbr.name f)],qbr.rows [(qbr.name f)],.inl rfl,?_⟩;conv=>whnf
    refine⟨Codec.one qs9 [qbc.mk ([85,78,87,73,78,68,32]:SS) [(qbr.expr (qaa.mk i j (Val.mk k l m o b c) d e))] (1:Int) (1:Int),qbc.mk ([32,65,83,32]:SS) [(qbr.name f)] (1:Int) (1:Int)],qbc.rows [qbc.mk ([85,78,87,73,78,68,32]:SS) [(qbr.expr (qaa.mk i j (Val.mk k l m o b c) d e))] (1:Int) (1:Int),qbc.mk ([32,65,83,32]:SS) [(qbr.name f)] (1:Int) (1:Int)],.inl rfl,?_⟩;conv=>whnf
    refine bq h fun _ b3 h=>?_;refine⟨_,(qac.leArgs (qf3 n _ _ _ b3) (by try exact fin)),?_⟩;obtain rfl:=sj h;conv=>whnf
    try exact fin
   ·conv=>whnf
    refine qhe.cut (S:=Bool) (fun O=>[(1,.ptr 0 0),(4,.ptr 1 0),(5,.ptr 2 0),(6,.ptr 3 0),(7,.p (.sl (qbc.rows [qbc.mk ([32,79,82,68,69,82,32,66,89,32]:SS) E (0:Int) (1048576:Int),qbc.mk ([32,83,75,73,80,32]:SS) F (0:Int) (1:Int),qbc.mk ([32,76,73,77,73,84,32]:SS) G (0:Int) (1:Int)]))),(8,.ptr 4 0),(9,.ptr 5 0),(10,pS g),(11,zq2),(12,.ptr 6 0),(53,pI a),(85,pB O)]) (fun O=>[.box 51 [pI a,pP y,pE q,pI i,pS j,pI k,pB l,pI m,pS o,pV b,pT c,pT d,pE e,pS f,pA t,pB u,pO v,pE w,pE x,pU z,pT A,pB B],.box 154 [zq1,.p (.sl (qbr.rows H)),.p (.int .i64 (1:Int)),.p (.int .i64 (1048576:Int))],.box 154 [.p (.str ([32,87,72,69,82,69,32]:SS)),.p (.sl (qbr.rows C)),zq0,.p (.int .i64 (1:Int))],.box 154 [zq1,.p (.sl (qbr.rows D)),.p (.int .i64 (1:Int)),.p (.int .i64 (1048576:Int))],.box 154 [.p (.str ([68,69,76,69,84,69,32]:SS)),.p (.sl (qbr.rows I)),.p (.int .i64 (1:Int)),.p (.int .i64 (1048576:Int))],.box 154 [zq1,.p (.sl (qbr.rows J)),.p (.int .i64 (1:Int)),.p (.int .i64 (1048576:Int))],.box 51 [pI a,zq2,zq2,zq0,zq1,zq0,pB false,zq0,zq1,zq2,zq2,zq2,zq2,zq1,zq2,pB false,zq2,zq2,zq2,zq2,zq2,pB false]]) (qh8 n g D E F G a C y q i j k l m o b c d e f t u v w x z A B H J I) (r:=r) ?_ ?_
    ·intro O h
     unfold qh8 at h;conv=>whnf
     apply ifc h<;>intro s h
     ·conv=>whnf
      obtain⟨Y,h⟩:=qai h;refine⟨(of_decide_eq_true Y:((([82,69,84,85,82,78,32]:SS).length+g.length:Nat):Int)<=qhk),?_⟩;conv=>whnf
      refine⟨Codec.one qs9 [qbc.mk (([82,69,84,85,82,78,32]:SS)++g) D (1:Int) (1048576:Int)],qbc.rows [qbc.mk (([82,69,84,85,82,78,32]:SS)++g) D (1:Int) (1048576:Int)],.inl rfl,?_⟩;conv=>whnf
      obtain⟨W,h⟩:=qai h;refine⟨_,⟨Codec.append qs9 [qbc.mk (([82,69,84,85,82,78,32]:SS)++g) D (1:Int) (1048576:Int)] [qbc.mk ([32,79,82,68,69,82,32,66,89,32]:SS) E (0:Int) (1048576:Int),qbc.mk ([32,83,75,73,80,32]:SS) F (0:Int) (1:Int),qbc.mk ([32,76,73,77,73,84,32]:SS) G (0:Int) (1:Int)],rfl,rfl,Codec.wide qs9 [qbc.mk ([32,79,82,68,69,82,32,66,89,32]:SS) E (0:Int) (1048576:Int),qbc.mk ([32,83,75,73,80,32]:SS) F (0:Int) (1:Int),qbc.mk ([32,76,73,77,73,84,32]:SS) G (0:Int) (1:Int)],of_decide_eq_true W,qb5 W (by decide)⟩,?_⟩;conv=>whnf
      refine qhe.cut (S:=List qbc×List qaa) (fun(N,P)=>[(1,.ptr 0 0),(11,.vsl 1 ((qbc.rows N).length)),(12,.ptr 2 0)]) (fun(N,P)=>[.box 51 [pI a,pP y,pE q,pI i,pS j,pI k,pB l,pI m,pS o,pV b,pT c,pT d,pE e,pS f,pA t,pB u,pO v,pE w,pE x,pU z,pT A,pB B],.vec 154 4 (qbc.rows N),.box 51 [pI a,zq2,pE P,zq0,zq1,zq0,pB false,zq0,zq1,zq2,zq2,zq2,zq2,zq1,zq2,pB false,zq2,zq2,zq2,zq2,zq2,pB false]]) (qh9 n a y q i j k l m o b c d e f t u v w x z A B) (r:=r) ?_ ?_
      ·intro st h
       obtain⟨N,P⟩:=st;unfold qh9 at h;conv=>whnf
       refine bq h fun _ b4 h=>?_;refine⟨_,(qac.leArgs (qf3 n _ _ _ b4) (by try exact fin)),?_⟩;obtain rfl:=sj h;conv=>whnf
       try exact fin
      ·conv=>whnf
       apply ifc h<;>intro s h
       ·conv=>whnf
        obtain⟨b7,h⟩:=qai h;refine⟨(of_decide_eq_true b7:((([87,73,84,72,32]:SS).length+g.length:Nat):Int)<=qhk),?_⟩;conv=>whnf
        obtain⟨b6,h⟩:=qai h;refine⟨0,⟨rfl,of_decide_eq_true b6⟩,?_⟩;conv=>whnf
        refine bq h fun⟨_,Q,R,T⟩ b5 h=>?_;refine⟨_,⟨rfl,Codec.getN qs9 b5,rfl⟩,?_⟩;conv=>whnf
        refine⟨_,Codec.setN qs9 ([qbc.mk (([82,69,84,85,82,78,32]:SS)++g) D (1:Int) (1048576:Int)]++[qbc.mk ([32,79,82,68,69,82,32,66,89,32]:SS) E (0:Int) (1048576:Int),qbc.mk ([32,83,75,73,80,32]:SS) F (0:Int) (1:Int),qbc.mk ([32,76,73,77,73,84,32]:SS) G (0:Int) (1:Int)]) 0 (qbc.mk (([87,73,84,72,32]:SS)++g) Q R T),?_⟩;conv=>whnf
        refine⟨Codec.one qs9 [qbc.mk ([32,87,72,69,82,69,32]:SS) C (0:Int) (1:Int)],qbc.rows [qbc.mk ([32,87,72,69,82,69,32]:SS) C (0:Int) (1:Int)],.inl rfl,?_⟩;conv=>whnf
        obtain⟨V,h⟩:=qai h;refine⟨_,⟨Codec.append qs9 (([qbc.mk (([82,69,84,85,82,78,32]:SS)++g) D (1:Int) (1048576:Int)]++[qbc.mk ([32,79,82,68,69,82,32,66,89,32]:SS) E (0:Int) (1048576:Int),qbc.mk ([32,83,75,73,80,32]:SS) F (0:Int) (1:Int),qbc.mk ([32,76,73,77,73,84,32]:SS) G (0:Int) (1:Int)]).set 0 (qbc.mk (([87,73,84,72,32]:SS)++g) Q R T)) [qbc.mk ([32,87,72,69,82,69,32]:SS) C (0:Int) (1:Int)],rfl,rfl,Codec.wide qs9 [qbc.mk ([32,87,72,69,82,69,32]:SS) C (0:Int) (1:Int)],of_decide_eq_true V,qb5 V (by decide)⟩,?_⟩;conv=>whnf
        exact⟨(((([qbc.mk (([82,69,84,85,82,78,32]:SS)++g) D (1:Int) (1048576:Int)]++[qbc.mk ([32,79,82,68,69,82,32,66,89,32]:SS) E (0:Int) (1048576:Int),qbc.mk ([32,83,75,73,80,32]:SS) F (0:Int) (1:Int),qbc.mk ([32,76,73,77,73,84,32]:SS) G (0:Int) (1:Int)]).set 0 (qbc.mk (([87,73,84,72,32]:SS)++g) Q R T))++[qbc.mk ([32,87,72,69,82,69,32]:SS) C (0:Int) (1:Int)]),q),h,wk [0,9,6] []⟩
       ·conv=>whnf
        exact⟨(([qbc.mk (([82,69,84,85,82,78,32]:SS)++g) D (1:Int) (1048576:Int)]++[qbc.mk ([32,79,82,68,69,82,32,66,89,32]:SS) E (0:Int) (1048576:Int),qbc.mk ([32,83,75,73,80,32]:SS) F (0:Int) (1:Int),qbc.mk ([32,76,73,77,73,84,32]:SS) G (0:Int) (1:Int)]),([]:List _)),h,wk [0,8,6] []⟩
     ·conv=>whnf
      apply ifc h<;>intro s h
      ·conv=>whnf
       refine⟨Codec.one qs9 [qbc.mk ([67,82,69,65,84,69,32]:SS) H (1:Int) (1048576:Int)],qbc.rows [qbc.mk ([67,82,69,65,84,69,32]:SS) H (1:Int) (1048576:Int)],.inl rfl,?_⟩;conv=>whnf
       refine bq h fun _ Z h=>?_;refine⟨_,(qac.leArgs (qf3 n _ _ _ Z) (by try exact fin)),?_⟩;obtain rfl:=sj h;conv=>whnf
       try exact fin
      ·conv=>whnf
       apply ifc h<;>intro s h
       ·conv=>whnf
        refine⟨id,id,?_⟩;conv=>whnf
        refine bq h fun⟨_,_⟩ a1 h=>?_;refine⟨_,fun b8=>Codec.at_ qlh (qad a1 b8),?_⟩;conv=>whnf
        refine⟨id,id,id,id,id,?_⟩;conv=>whnf
        apply ifc h<;>intro s h
        ·obtain rfl:=sj h
         conv=>whnf
         try exact fin
        ·conv=>whnf
         refine⟨Codec.one qs9 [qbc.mk ([77,69,82,71,69,32]:SS) H (1:Int) (1:Int)],qbc.rows [qbc.mk ([77,69,82,71,69,32]:SS) H (1:Int) (1:Int)],.inl rfl,?_⟩;conv=>whnf
         refine bq h fun _ a0 h=>?_;refine⟨_,(qac.leArgs (qf3 n _ _ _ a0) (by try exact fin)),?_⟩;obtain rfl:=sj h;conv=>whnf
         try exact fin
       ·conv=>whnf
        refine qhe.cut (S:=Bool) (fun U=>[(1,.ptr 0 0),(8,.ptr 1 0),(9,.ptr 2 0),(11,zq2),(12,.ptr 3 0),(53,pI a),(155,pB U)]) (fun U=>[.box 51 [pI a,pP y,pE q,pI i,pS j,pI k,pB l,pI m,pS o,pV b,pT c,pT d,pE e,pS f,pA t,pB u,pO v,pE w,pE x,pU z,pT A,pB B],.box 154 [.p (.str ([68,69,76,69,84,69,32]:SS)),.p (.sl (qbr.rows I)),.p (.int .i64 (1:Int)),.p (.int .i64 (1048576:Int))],.box 154 [zq1,.p (.sl (qbr.rows J)),.p (.int .i64 (1:Int)),.p (.int .i64 (1048576:Int))],.box 51 [pI a,zq2,zq2,zq0,zq1,zq0,pB false,zq0,zq1,zq2,zq2,zq2,zq2,zq1,zq2,pB false,zq2,zq2,zq2,zq2,zq2,pB false]]) (qkx n a y q i j k l m o b c d e f t u v w x z A B J I) (r:=r) ?_ ?_
        ·intro U h
         unfold qkx at h;conv=>whnf
         apply ifc h<;>intro s h
         ·conv=>whnf
          refine qhe.cut (S:=SS) (fun K=>[(1,.ptr 0 0),(9,.ptr 1 0),(12,.ptr 2 0)]) (fun K=>[.box 51 [pI a,pP y,pE q,pI i,pS j,pI k,pB l,pI m,pS o,pV b,pT c,pT d,pE e,pS f,pA t,pB u,pO v,pE w,pE x,pU z,pT A,pB B],.box 154 [pS K,.p (.sl (qbr.rows J)),.p (.int .i64 (1:Int)),.p (.int .i64 (1048576:Int))],.box 51 [pI a,zq2,zq2,zq0,zq1,zq0,pB false,zq0,zq1,zq2,zq2,zq2,zq2,zq1,zq2,pB false,zq2,zq2,zq2,zq2,zq2,pB false]]) (qjj n a y q i j k l m o b c d e f t u v w x z A B J) (r:=r) ?_ ?_
          ·intro K h
           unfold qjj at h;conv=>whnf
           refine⟨Codec.one qs9 [qbc.mk K J (1:Int) (1048576:Int)],qbc.rows [qbc.mk K J (1:Int) (1048576:Int)],.inl rfl,?_⟩;conv=>whnf
           refine bq h fun _ a2 h=>?_;refine⟨_,(qac.leArgs (qf3 n _ _ _ a2) (by try exact fin)),?_⟩;obtain rfl:=sj h;conv=>whnf
           try exact fin
          ·conv=>whnf
           apply ifc h<;>intro s h
           ·conv=>whnf
            exact⟨([82,69,77,79,86,69,32]:SS),h,wk [0,2,3] []⟩
           ·conv=>whnf
            exact⟨([83,69,84,32]:SS),h,wk [0,2,3] []⟩
         ·conv=>whnf
          apply ifc h<;>intro s h
          ·conv=>whnf
           refine qhe.cut (S:=SS) (fun L=>[(1,.ptr 0 0),(8,.ptr 1 0),(12,.ptr 2 0)]) (fun L=>[.box 51 [pI a,pP y,pE q,pI i,pS j,pI k,pB l,pI m,pS o,pV b,pT c,pT d,pE e,pS f,pA t,pB u,pO v,pE w,pE x,pU z,pT A,pB B],.box 154 [pS L,.p (.sl (qbr.rows I)),.p (.int .i64 (1:Int)),.p (.int .i64 (1048576:Int))],.box 51 [pI a,zq2,zq2,zq0,zq1,zq0,pB false,zq0,zq1,zq2,zq2,zq2,zq2,zq1,zq2,pB false,zq2,zq2,zq2,zq2,zq2,pB false]]) (qjk n a y q i j k l m o b c d e f t u v w x z A B I) (r:=r) ?_ ?_
           ·intro L h
            unfold qjk at h;conv=>whnf
            refine⟨Codec.one qs9 [qbc.mk L I (1:Int) (1048576:Int)],qbc.rows [qbc.mk L I (1:Int) (1048576:Int)],.inl rfl,?_⟩;conv=>whnf
            refine bq h fun _ a3 h=>?_;refine⟨_,(qac.leArgs (qf3 n _ _ _ a3) (by try exact fin)),?_⟩;obtain rfl:=sj h;conv=>whnf
            try exact fin
           ·conv=>whnf
            apply ifc h<;>intro s h
            ·conv=>whnf
             exact⟨([68,69,84,65,67,72,32,68,69,76,69,84,69,32]:SS),h,wk [0,1,3] []⟩
            ·conv=>whnf
             exact⟨([68,69,76,69,84,69,32]:SS),h,wk [0,1,3] []⟩
          ·conv=>whnf
           refine bq h fun _ a4 h=>?_;refine⟨_,(qac.leArgs (qf3 n _ _ _ a4) (by try exact fin)),?_⟩;obtain rfl:=sj h;conv=>whnf
           try exact fin
        ·conv=>whnf
         apply ifc h<;>intro s h
         ·conv=>whnf
          exact⟨(a==6),h,wk [0,4,5,6] []⟩
         ·conv=>whnf
          exact⟨(a==7),h,wk [0,4,5,6] []⟩
    ·conv=>whnf
     apply ifc h<;>intro s h
     ·conv=>whnf
      exact⟨(a==3),h,wk [0,1,2,3,4,5,6] []⟩
     ·conv=>whnf
      exact⟨(a==9),h,wk [0,1,2,3,4,5,6] []⟩
 ·conv=>whnf
  apply ifc h<;>intro s h
  ·conv=>whnf
   exact⟨([68,73,83,84,73,78,67,84,32]:SS),h,wk [0,1,2,3,4,5] []⟩
  ·conv=>whnf
   exact⟨([]:SS),h,wk [0,1,2,3,4,5] []⟩
abbrev ze7 (r:Bool):PV:=PV.bool r
def qlc (n:Nat) (a:SS):Option (Bool):=
 some (bif(!(a==([]:SS)))then(decide (((a.length:Nat):Int)<=64))else false)
theorem qmd (n:Nat):∀ (a:SS) (r:Bool),qlc n a=some r->qac Tryz.prog 215 [PV.str a] (ze7 r):=by
 intro a r h;unfold qlc at h;refine qac.of_vcN mixed (fun _ _=>Tryz.call215 _ _) Tryz.func215 (by kernel_rfl) (inl:=[1000000]) ?_;conv=>whnf
 refine⟨id,id,id,?_⟩;obtain rfl:=sj h;conv=>whnf
 try exact fin
abbrev ze1 (r:SS):PV:=PV.str r
def ql7 (n:Nat) (a:Int×SS->Option SS) (b:Int):SS->Option SS:=fun c=>
 a ((IntKind.i64.wrap (b+1)),c)
def ql8 (n:Nat) (g:SS):(Int×SS->Option SS)->Int×SS->Option SS:=fun e (b,a)=>
 bif(decide (b<((g.length:Nat):Int)))then(
 bnd (qwb b) fun f=>
 chk (decide (f<a.length)) (
 bnd (a[f]?) fun c=>
 bif(bif(decide (((c.toNat:Nat):Int)≥97))then(decide (((c.toNat:Nat):Int)<=122))else false)then(
 bnd (qwb b) fun d=>
 chk (decide (d<a.length)) (
 bnd (u8I (IntKind.u8.wrap (((c.toNat:Nat):Int) - 32))) fun i=>
 chk (decide (d<a.length)) (
 ql7 n e b (a.set d i))))
 else(
 ql7 n e b a)))
 else(
 some a)
def qro (n:Nat) (a:SS):Option SS:=
 qam (ql8 n a) n ((0:Int),a)
theorem zbo (n:Nat):∀ (b r:SS),qro n b=some r->qac Tryz.prog 144 [PV.str b] (ze1 r):=by
 intro b r h;unfold qro at h;refine qac.of_vcN mixed (fun _ _=>Tryz.call144 _ _) Tryz.func144 (by kernel_rfl) (inl:=[10000007,1000000]) ?_;conv=>whnf
 refine qbi.fn [10000007,1000000] (S:=Int×SS) (fun(c,a)=>[(3,.vsl 0 a.length),(8,.vsl 0 a.length),(9,.p (.int .i64 ((b.length:Nat):Int))),(10,pI c)]) (fun(c,a)=>[.bv a]) (B:=ql8 n b) h (wk [0] []) ?_;intro s st h;obtain⟨c,a⟩:=st;unfold ql8 at h;conv=>whnf
 apply ifc h<;>intro q h
 ·conv=>whnf
  refine qhe.cut (S:=SS) (fun d=>[(3,.vsl 0 d.length),(8,.vsl 0 d.length),(9,.p (.int .i64 ((b.length:Nat):Int))),(10,pI c)]) (fun d=>[.bv d]) (ql7 n s c) (r:=r) ?_ ?_
  ·intro d h
   unfold ql7 at h;conv=>whnf
   exact⟨((IntKind.i64.wrap (c+1)),d),h,wk [0] []⟩
  ·conv=>whnf
   refine bq h fun t o h=>?_;have e:=qct o;conv=>whnf
   obtain⟨m,h⟩:=qai h;refine⟨t,⟨e,of_decide_eq_true m⟩,?_⟩;conv=>whnf
   refine bq h fun _ l h=>?_;refine⟨_,⟨rfl,rfl,l⟩,?_⟩;conv=>whnf
   refine⟨id,id,?_⟩;conv=>whnf
   apply ifc h<;>intro q h
   ·conv=>whnf
    refine bq h fun f k h=>?_;have e:=qct k;conv=>whnf
    obtain⟨j,h⟩:=qai h;refine⟨f,⟨e,of_decide_eq_true j⟩,?_⟩;conv=>whnf
    refine bq h fun u i h=>?_;have hb:=qeu i;conv=>whnf
    obtain⟨g,h⟩:=qai h;refine⟨_,_,⟨rfl,rfl,of_decide_eq_true g,hb,rfl⟩,?_⟩;conv=>whnf
    exact⟨(a.set f u),h,wk [0] []⟩
   ·conv=>whnf
    exact⟨a,h,wk [0] []⟩
 ·conv=>whnf
  refine⟨by first|rfl|simp only[List.length_set]|(simp only[List.length_set]; assumption)|assumption,?_⟩;obtain rfl:=sj h;conv=>whnf
  try exact fin
abbrev ze5 (r:Bool):PV:=PV.bool r
def qmb (n:Nat) (a:SS):(Nat->Option (Bool))->Nat->Option (Bool):=fun c b=>
 bif(decide (b<a.length))then(
 bif(bif(!(bif(bif(bif(decide (((qba a b:Nat):Int)≥97))then(decide (((qba a b:Nat):Int)<=122))else false)then true else(bif(decide (((qba a b:Nat):Int)≥65))then(decide (((qba a b:Nat):Int)<=90))else false))then true else(((qba a b:Nat):Int)==95)))then(bif(bif(((b:Nat):Int)==0)then true else(decide (((qba a b:Nat):Int)<48)))then true else(decide (((qba a b:Nat):Int)>57)))else false)then(
 some false)
 else(
 c (bif(decide (b<a.length))then qd0 a b else b)))
 else(
 some (bif(!(a==([]:SS)))then(decide (((a.length:Nat):Int)<=64))else false))
def qpx (n:Nat) (a:SS):Option (Bool):=
 qam (qmb n a) n 0
theorem q1w (n:Nat):∀ (a:SS) (r:Bool),qpx n a=some r->qac Tryz.prog 96 [PV.str a] (ze5 r):=by
 intro a r h;unfold qpx at h;refine qac.of_vcN mixed (fun _ _=>Tryz.call96 _ _) Tryz.func96 (by kernel_rfl) (inl:=[1000000]) ?_;conv=>whnf
 refine qbi.fn [1000000] (S:=Nat) (fun b=>[(0,pS a),(7,.ptr 0 0)]) (fun b=>[.sit a b]) (B:=qmb n a) h (wk [0] []) ?_;intro _ b h;unfold qmb at h;conv=>whnf
 refine⟨(decide (b<a.length)),(bif(decide (b<a.length))then qd0 a b else b),⟨rfl,rfl⟩,?_⟩;conv=>whnf
 apply ifc h<;>intro c h
 ·conv=>whnf
  refine⟨by assumption,?_⟩;conv=>whnf
  refine⟨by assumption,?_⟩;conv=>whnf
  iterate 20 refine⟨id,?_⟩
  conv=>whnf
  apply ifc h<;>intro c h
  ·obtain rfl:=sj h
   conv=>whnf
   try exact fin
  ·conv=>whnf
   exact⟨(bif(decide (b<a.length))then qd0 a b else b),h,wk [0] []⟩
 ·conv=>whnf
  refine⟨id,id,id,?_⟩;obtain rfl:=sj h;conv=>whnf
  try exact fin
abbrev zgv (r:SS×Bool):PV:=PV.tup [PV.str r.1,PV.bool r.2]
def q0g (n:Nat) (c:SS):Option (SS×Bool):=
 bnd (qro n c) fun a=>
 bnd (qpx n c) fun b=>
 chk (bif(!(!b))then decide (((([32]:SS).length+a.length:Nat):Int)<=qhk)else true) (
 chk (bif(!(!b))then decide ((((([32]:SS)++a).length+([32]:SS).length:Nat):Int)<=qhk)else true) (
 bnd (qaw (!(!b)) (qmn n ([32,77,65,84,67,72,32,87,72,69,82,69,32,85,78,87,73,78,68,32,65,83,32,87,73,84,72,32,67,82,69,65,84,69,32,77,69,82,71,69,32,83,69,84,32,82,69,77,79,86,69,32,68,69,76,69,84,69,32,68,69,84,65,67,72,32,82,69,84,85,82,78,32,68,73,83,84,73,78,67,84,32,79,82,68,69,82,32,66,89,32,65,83,67,32,68,69,83,67,32,83,75,73,80,32,76,73,77,73,84,32,65,78,68,32,79,82,32,88,79,82,32,78,79,84,32,73,78,32,73,83,32,78,85,76,76,32,84,82,85,69,32,70,65,76,83,69,32]:SS) ((([32]:SS)++a)++([32]:SS)))) fun d=>
 bif(bif(!b)then true else(!d))then(
 some (([]:SS),false))
 else(
 some (a,true))))
theorem zea (n:Nat):∀ (b:SS) (r:SS×Bool),q0g n b=some r->qac Tryz.prog 95 [PV.str b] (zgv r):=by
 intro b r h;unfold q0g at h;refine qac.of_vcN mixed (fun _ _=>Tryz.call95 _ _) Tryz.func95 (by kernel_rfl) (inl:=[1000000]) ?_;conv=>whnf
 refine bq h fun c i h=>?_;refine⟨_,(zbo n _ _ i),?_⟩;conv=>whnf
 refine bq h fun _ g h=>?_;refine⟨_,(q1w n _ _ g),?_⟩;conv=>whnf
 refine⟨id,?_⟩;conv=>whnf
 obtain⟨f,h⟩:=qai h;refine⟨fun a=>(of_decide_eq_true (gd f a):((([32]:SS).length+c.length:Nat):Int)<=qhk),?_⟩;conv=>whnf
 refine⟨id,?_⟩;conv=>whnf
 obtain⟨e,h⟩:=qai h;refine⟨fun a=>(of_decide_eq_true (gd e a):(((([32]:SS)++c).length+([32]:SS).length:Nat):Int)<=qhk),?_⟩;conv=>whnf
 refine⟨id,?_⟩;conv=>whnf
 refine bq h fun _ d h=>?_;refine⟨_,fun a=>(qzp n _ _ _ (qad d a)),?_⟩;conv=>whnf
 refine⟨id,id,?_⟩;conv=>whnf
 apply ifc h<;>intro _ h
 ·obtain rfl:=sj h
  conv=>whnf
  try exact fin
 ·obtain rfl:=sj h
  conv=>whnf
  try exact fin
abbrev q9q (r:Bool):PV:=PV.bool r
def qe4 (n:Nat) (a:SS):Option (Bool):=
 bnd (q0g n a) fun⟨_,b⟩=>
 bnd (qpx n a) fun c=>
 some (bif c then(!b)else false)
theorem qf4 (n:Nat):∀ (a:SS) (r:Bool),qe4 n a=some r->qac Tryz.prog 57 [PV.str a] (q9q r):=by
 intro a r h;unfold qe4 at h;refine qac.of_vcN mixed (fun _ _=>Tryz.call57 _ _) Tryz.func57 (by kernel_rfl) (inl:=[1000000]) ?_;conv=>whnf
 refine bq h fun⟨_,_⟩ c h=>?_;refine⟨_,(zea n _ _ c),?_⟩;conv=>whnf
 refine bq h fun _ b h=>?_;refine⟨_,(q1w n _ _ b),?_⟩;conv=>whnf
 refine⟨id,id,?_⟩;obtain rfl:=sj h;conv=>whnf
 try exact fin
abbrev zce (r:Bool):PV:=PV.bool r
def qqa (n:Nat) (b:Val):Option (Bool):=
 match b with
 | ⟨a,c,d,e,f,g⟩=>
 some (bif(bif(bif(bif(bif(a==1)then true else(!c))then(bif(bif(a==2)then true else(decide (a≥6)))then true else(d==0))else false)then(bif(a==3)then true else(e==([]:SS)))else false)then(bif(bif(a==4)then true else(a==5))then true else(((Val.rows f).length:Int)==0))else false)then(bif(a==5)then true else(((qak g).length:Int)==0))else false)
theorem q9a (n:Nat):∀ (a:Val) (r:Bool),qqa n a=some r->qac Tryz.prog 224 [PV.agg (qvp.cells a)] (zce r):=by
 intro a r h;obtain⟨_,_,_,_,_,_⟩:=a;unfold qqa at h;refine qac.of_vcN mixed (fun _ _=>Tryz.call224 _ _) Tryz.func224 (by kernel_rfl) (inl:=[1000000]) ?_;conv=>whnf
 iterate 47 refine⟨id,?_⟩
 obtain rfl:=sj h;conv=>whnf
 try exact fin
abbrev zcf (r:Bool):PV:=PV.bool r
def qij (n:Nat) (c:List SS):(Int->Option (Bool))->Int->Option (Bool):=fun d a=>
 bif(decide (a<((qak c).length:Int)))then(
 bnd (idx c a) fun b=>
 bnd (qaw ((!(bif(b==([]:SS))then true else(decide (((b.length:Nat):Int)>64))))&&(decide (a>0))) (idx c (IntKind.i64.wrap (a - 1)))) fun e=>
 bif(bif(bif(b==([]:SS))then true else(decide (((b.length:Nat):Int)>64)))then true else(bif(decide (a>0))then(!(Op.bytesLess e b))else false))then(
 some false)
 else(
 d (IntKind.i64.wrap (a+1))))
 else(
 some true)
def qvb (n:Nat) (a:List SS):Option (Bool):=
 qam (qij n a) n (0:Int)
theorem q9b (n:Nat):∀ (a:List SS) (r:Bool),qvb n a=some r->qac Tryz.prog 225 [PV.sl (qak a)] (zcf r):=by
 intro a r h;unfold qvb at h;refine qac.of_vcN mixed (fun _ _=>Tryz.call225 _ _) Tryz.func225 (by kernel_rfl) (inl:=[1000000]) ?_;conv=>whnf
 refine qbi.fn [1000000] (S:=Int) (fun b=>[(0,pT a),(5,pT a),(6,.p (.int .i64 ((qak a).length:Int))),(7,pI b)]) (fun b=>[]) (B:=qij n a) h (wk [] []) ?_;intro _ b h;unfold qij at h;conv=>whnf
 apply ifc h<;>intro e h
 ·conv=>whnf
  refine bq h fun _ d h=>?_;refine⟨_,Codec.at_ qpr d,?_⟩;conv=>whnf
  iterate 8 refine⟨id,?_⟩
  conv=>whnf
  refine bq h fun _ c h=>?_;refine⟨_,fun f=>Codec.at_ qpr (qad c f),?_⟩;conv=>whnf
  iterate 6 refine⟨id,?_⟩
  conv=>whnf
  apply ifc h<;>intro e h
  ·obtain rfl:=sj h
   conv=>whnf
   try exact fin
  ·conv=>whnf
   exact⟨(IntKind.i64.wrap (b+1)),h,wk [] []⟩
 ·obtain rfl:=sj h
  conv=>whnf
  try exact fin
abbrev qr6 (r:Int×Bool):PV:=PV.tup [PV.int .i64 r.1,PV.bool r.2]
def qgu (n:Nat) (d:List Val) (g223:Val->Int->Int->Option (Int×Bool)) (p:Int):(Int×Bool×Int->Option (Int×Bool))->Int×Bool×Int->Option (Int×Bool):=fun e (b,c,a)=>
 bif(bif(decide (a<((Val.rows d).length:Int)))then c else false)then(
 bnd (idx d a) fun⟨f,g,i,j,k,l⟩=>
 bnd (g223 (Val.mk f g i j k l) (IntKind.i64.wrap (p - 1)) b) fun⟨m,o⟩=>
 e (m,o,(IntKind.i64.wrap (a+1))))
 else(
 some (b,c))
def qtd (n:Nat) (g223:Val->Int->Int->Option (Int×Bool)) (i:Val) (e b:Int):Option (Int×Bool):=
 match i with
 | ⟨a,k,f,l,c,d⟩=>
 bnd (qaw (!(bif(bif(bif(decide (e<1))then true else(decide ((IntKind.i64.wrap (b+1))>4096)))then true else(decide (a<0)))then true else(decide (a>7)))) (qqa n (Val.mk a k f l c d))) fun g=>
 bnd (qaw (((!(bif(bif(bif(bif(bif(decide (e<1))then true else(decide ((IntKind.i64.wrap (b+1))>4096)))then true else(decide (a<0)))then true else(decide (a>7)))then true else(!g))then true else(bif(decide (a≥6))then(decide (f<1))else false)))&&(a==5))&&(!(((qak d).length:Int) != ((Val.rows c).length:Int)))) (qvb n d)) fun j=>
 bif(bif(bif(bif(bif(bif(bif(decide (e<1))then true else(decide ((IntKind.i64.wrap (b+1))>4096)))then true else(decide (a<0)))then true else(decide (a>7)))then true else(!g))then true else(bif(decide (a≥6))then(decide (f<1))else false))then true else(bif(a==5)then(bif(((qak d).length:Int) != ((Val.rows c).length:Int))then true else(!j))else false))then(
 some ((IntKind.i64.wrap (b+1)),false))
 else(
 qam (qgu n c g223 e) n ((IntKind.i64.wrap (b+1)),true,(0:Int)))
theorem q6x (n:Nat) (g223:Val->Int->Int->Option (Int×Bool)) (g223_ok:∀ (b:Val) (a c:Int) (r:Int×Bool),g223 b a c=some r->qac Tryz.prog 223 [PV.agg (qvp.cells b),PV.int .i64 a,PV.int .i64 c] (qr6 r)):∀ (b:Val) (a c:Int) (r:Int×Bool),qtd n g223 b a c=some r->qac Tryz.prog 223 [PV.agg (qvp.cells b),PV.int .i64 a,PV.int .i64 c] (qr6 r):=by
 intro b a c r h;obtain⟨p,q,u,v,i,w⟩:=b;unfold qtd at h;refine qac.of_vcN mixed (fun _ _=>Tryz.call223 _ _) Tryz.func223 (by kernel_rfl) (inl:=[1000000]) ?_;conv=>whnf
 iterate 9 refine⟨id,?_⟩
 conv=>whnf
 refine bq h fun _ m h=>?_;refine⟨_,fun e=>(q9a n _ _ (qad m e)),?_⟩;conv=>whnf
 iterate 22 refine⟨id,?_⟩
 conv=>whnf
 refine bq h fun _ l h=>?_;refine⟨_,fun e=>(q9b n _ _ (qad l e)),?_⟩;conv=>whnf
 iterate 6 refine⟨id,?_⟩
 conv=>whnf
 apply ifc h<;>intro o h
 ·obtain rfl:=sj h
  conv=>whnf
  try exact fin
 ·conv=>whnf
  refine qbi.fn [1000000] (S:=Int×Bool×Int) (fun(f,g,d)=>[(1,pI a),(2,pI f),(3,.ptr 0 0),(8,pB g),(9,pI d)]) (fun(f,g,d)=>[.box 44 [pI p,pB q,pI u,pS v,pV i,pT w]]) (B:=qgu n i g223 a) h (wk [0] []) ?_;intro _ st h;obtain⟨f,g,d⟩:=st;unfold qgu at h;conv=>whnf
  refine⟨id,?_⟩;conv=>whnf
  apply ifc h<;>intro o h
  ·conv=>whnf
   refine bq h fun⟨_,_,_,_,_,_⟩ k h=>?_;refine⟨_,Codec.at_ qvp k,?_⟩;conv=>whnf
   refine bq h fun⟨s,t⟩ j h=>?_;refine⟨_,(g223_ok _ _ _ _ j),?_⟩;conv=>whnf
   exact⟨(s,t,(IntKind.i64.wrap (d+1))),h,wk [0] []⟩
  ·obtain rfl:=sj h
   conv=>whnf
   try exact fin
def qjl:Nat->Val->Int->Int->Option (Int×Bool)
 | 0=>fun _ _ _=>none
 | n+1=>qtd n (qjl n)
theorem q69 (n:Nat):(∀ (a:Val) (b c:Int) (r:Int×Bool),qjl n a b c=some r->qac Tryz.prog 223 [PV.agg (qvp.cells a),PV.int .i64 b,PV.int .i64 c] (qr6 r)):=by
 induction n with
 | zero=>exact(by intros; rename_i h; cases h)
 | succ n ih=>
  have hg223:=ih;exact q6x n (qjl n) hg223
theorem q9c (n:Nat):∀ (a:Val) (b c:Int) (r:Int×Bool),qjl n a b c=some r->qac Tryz.prog 223 [PV.agg (qvp.cells a),PV.int .i64 b,PV.int .i64 c] (qr6 r):=(q69 n)
abbrev q9s (r:Int):PV:=PV.int .i64 r
def qq0 (n:Nat) (a:Val):Option (Int):=
 match a with
 | ⟨b,c,d,e,f,g⟩=>
 bnd (qjl n (Val.mk b c d e f g) (32:Int) (0:Int)) fun⟨_,i⟩=>
 bif(!i)then(
 some (20:Int))
 else(
 some (0:Int))
theorem q67 (n:Nat):∀ (a:Val) (r:Int),qq0 n a=some r->qac Tryz.prog 222 [PV.agg (qvp.cells a)] (q9s r):=by
 intro a r h;obtain⟨_,_,_,_,_,_⟩:=a;unfold qq0 at h;refine qac.of_vcN mixed (fun _ _=>Tryz.call222 _ _) Tryz.func222 (by kernel_rfl) (inl:=[1000000]) ?_;conv=>whnf
 refine bq h fun⟨_,_⟩ b h=>?_;refine⟨_,(q9c n _ _ _ _ b),?_⟩;conv=>whnf
 apply ifc h<;>intro _ h
 ·obtain rfl:=sj h
  conv=>whnf
  try exact fin
 ·obtain rfl:=sj h
  conv=>whnf
  try exact fin
abbrev q5h (r:Bool):PV:=PV.bool r
def qm9 (n:Nat) (c:Val):Option (Bool):=
 match c with
 | ⟨a,d,b,e,f,g⟩=>
 bnd (qq0 n (Val.mk a d b e f g)) fun i=>
 some (bif(i==0)then(bif(bif(decide (a<=1))then true else(bif(a==2)then(decide (b≥0))else false))then true else(a==3))else false)
theorem q3l (n:Nat):∀ (a:Val) (r:Bool),qm9 n a=some r->qac Tryz.prog 219 [PV.agg (qvp.cells a)] (q5h r):=by
 intro a r h;obtain⟨_,_,_,_,_,_⟩:=a;unfold qm9 at h;refine qac.of_vcN mixed (fun _ _=>Tryz.call219 _ _) Tryz.func219 (by kernel_rfl) (inl:=[1000000]) ?_;conv=>whnf
 refine bq h fun _ b h=>?_;refine⟨_,(q67 n _ _ b),?_⟩;conv=>whnf
 iterate 18 refine⟨id,?_⟩
 obtain rfl:=sj h;conv=>whnf
 try exact fin
abbrev q9p (r:Int):PV:=PV.int .i64 r
def qoe (n:Nat) (a:SS):Option (Int):=
 some (qed (qpp ([37]:SS) (7:Int) zq6) a (0:Int))
theorem q65 (n:Nat):∀ (a:SS) (r:Int),qoe n a=some r->qac Tryz.prog 220 [PV.str a] (q9p r):=by
 intro a r h;unfold qoe at h;refine qac.of_vcN mixed (fun _ _=>Tryz.call220 _ _) Tryz.func220 (by kernel_rfl) (inl:=[1000000]) ?_;conv=>whnf
 refine⟨_,qiq qes (PV.int .i64) ([79,82]:SS) (1:Int) ([]:List (SS×Int)),?_⟩;conv=>whnf
 refine⟨_,qiq qes (PV.int .i64) ([88,79,82]:SS) (2:Int) (qpp ([79,82]:SS) (1:Int) ([]:List (SS×Int))),?_⟩;conv=>whnf
 refine⟨_,qiq qes (PV.int .i64) ([65,78,68]:SS) (3:Int) (qpp ([88,79,82]:SS) (2:Int) (qpp ([79,82]:SS) (1:Int) ([]:List (SS×Int)))),?_⟩;conv=>whnf
 refine⟨_,qiq qes (PV.int .i64) ([61]:SS) (5:Int) zq7,?_⟩;conv=>whnf
 refine⟨_,qiq qes (PV.int .i64) ([60,62]:SS) (5:Int) (qpp ([61]:SS) (5:Int) zq7),?_⟩;conv=>whnf
 refine⟨_,qiq qes (PV.int .i64) ([60]:SS) (5:Int) zxq,?_⟩;conv=>whnf
 refine⟨_,qiq qes (PV.int .i64) ([60,61]:SS) (5:Int) (qpp ([60]:SS) (5:Int) zxq),?_⟩;conv=>whnf
 refine⟨_,qiq qes (PV.int .i64) ([62]:SS) (5:Int) (qpp ([60,61]:SS) (5:Int) (qpp ([60]:SS) (5:Int) zxq)),?_⟩;conv=>whnf
 refine⟨_,qiq qes (PV.int .i64) ([62,61]:SS) (5:Int) (qpp ([62]:SS) (5:Int) (qpp ([60,61]:SS) (5:Int) (qpp ([60]:SS) (5:Int) zxq))),?_⟩;conv=>whnf
 refine⟨_,qiq qes (PV.int .i64) ([73,78]:SS) (5:Int) zq5,?_⟩;conv=>whnf
 refine⟨_,qiq qes (PV.int .i64) ([43]:SS) (6:Int) (qpp ([73,78]:SS) (5:Int) zq5),?_⟩;conv=>whnf
 refine⟨_,qiq qes (PV.int .i64) ([45]:SS) (6:Int) zx5,?_⟩;conv=>whnf
 refine⟨_,qiq qes (PV.int .i64) ([42]:SS) (7:Int) (qpp ([45]:SS) (6:Int) zx5),?_⟩;conv=>whnf
 refine⟨_,qiq qes (PV.int .i64) ([47]:SS) (7:Int) (qpp ([42]:SS) (7:Int) (qpp ([45]:SS) (6:Int) zx5)),?_⟩;conv=>whnf
 refine⟨_,qiq qes (PV.int .i64) ([37]:SS) (7:Int) zq6,?_⟩;conv=>whnf
 refine⟨PV.int .i64 (qed (qpp ([37]:SS) (7:Int) zq6) a (0:Int)),(q75 (qpp ([37]:SS) (7:Int) zq6) a),⟨qvi qes (PV.int .i64) (qpp ([37]:SS) (7:Int) zq6) a (0:Int),qvj qes (PV.int .i64) (qpp ([37]:SS) (7:Int) zq6) a⟩,?_⟩;obtain rfl:=sj h;conv=>whnf
 try exact fin
abbrev q2l (r:Bool):PV:=PV.bool r
def qea (n:Nat):Bool->Option (Bool):=fun a=>
 bif a then(
 some true)
 else(
 some false)
def qh6 (n:Nat) (a:SS):Option (Bool):=
 bif(a==([99,111,117,110,116]:SS))then(
 qea n (a==([99,111,117,110,116]:SS)))
 else(
 bif(a==([115,117,109]:SS))then(
 qea n (a==([115,117,109]:SS)))
 else(
 bif(a==([109,105,110]:SS))then(
 qea n (a==([109,105,110]:SS)))
 else(
 bif(a==([109,97,120]:SS))then(
 qea n (a==([109,97,120]:SS)))
 else(
 qea n (a==([99,111,108,108,101,99,116]:SS))))))
theorem qs7 (n:Nat):∀ (a:SS) (r:Bool),qh6 n a=some r->qac Tryz.prog 221 [PV.str a] (q2l r):=by
 intro a r h;unfold qh6 at h;refine qac.of_vcN mixed (fun _ _=>Tryz.call221 _ _) Tryz.func221 (by kernel_rfl) (inl:=[1000000]) ?_;conv=>whnf
 refine qhe.cut (S:=Bool) (fun c=>[(4,pB c)]) (fun c=>[]) (qea n) (r:=r) ?_ ?_
 ·intro c h
  unfold qea at h;conv=>whnf
  apply ifc h<;>intro b h
  ·obtain rfl:=sj h
   conv=>whnf
   try exact fin
  ·obtain rfl:=sj h
   conv=>whnf
   try exact fin
 ·conv=>whnf
  apply ifc h<;>intro b h
  ·conv=>whnf
   exact⟨(a==([99,111,117,110,116]:SS)),h,wk [] []⟩
  ·conv=>whnf
   apply ifc h<;>intro b h
   ·conv=>whnf
    exact⟨(a==([115,117,109]:SS)),h,wk [] []⟩
   ·conv=>whnf
    apply ifc h<;>intro b h
    ·conv=>whnf
     exact⟨(a==([109,105,110]:SS)),h,wk [] []⟩
    ·conv=>whnf
     apply ifc h<;>intro b h
     ·conv=>whnf
      exact⟨(a==([109,97,120]:SS)),h,wk [] []⟩
     ·conv=>whnf
      exact⟨(a==([99,111,108,108,101,99,116]:SS)),h,wk [] []⟩
abbrev q9r (r:Int×Bool):PV:=PV.tup [PV.int .i64 r.1,PV.bool r.2]
def qbn (n:Nat) (a:SS) (b:Int) (c:List qaa):Bool->Option (Int×Bool):=fun f=>
 bif f then(
 some ((1:Int),(a==([]:SS))))
 else(
 bif(b==10)then(
 bnd (qoe n a) fun g=>
 some ((2:Int),(decide (g>0))))
 else(
 bif(b==13)then(
 bnd (qe4 n a) fun d=>
 bnd (qaw d (qh6 n a)) fun i=>
 some ((-1:Int),(bif d then(!i)else false)))
 else(
 bif(b==14)then(
 bif(((qaa.rows c).length:Int)==0)then(
 some ((0:Int),(a==([99,111,117,110,116]:SS))))
 else(
 bnd (qh6 n a) fun j=>
 some ((1:Int),j)))
 else(
 bif(b==15)then(
 bnd (qlc n a) fun e=>
 bnd (qaw (bif e then(((qaa.rows c).length:Int)==1)else false) (idx c (0:Int))) fun⟨k,_,⟨_,_,_,_,_,_⟩,_,_⟩=>
 some ((1:Int),(bif(bif e then(((qaa.rows c).length:Int)==1)else false)then(k==2)else false)))
 else(
 some ((0:Int),false))))))
def qbx (n:Nat) (b:SS) (a:Int) (g:List SS) (c:List qaa):Bool->Option (Int×Bool):=fun d=>
 bif d then(
 bnd (qe4 n b) fun e=>
 some ((0:Int),e))
 else(
 bif(a==4)then(
 bnd (qlc n b) fun f=>
 some ((1:Int),f))
 else(
 bif(a==5)then(
 some ((-1:Int),(b==([]:SS))))
 else(
 bif(a==6)then(
 some (((qak g).length:Int),(b==([]:SS))))
 else(
 bif(a==7)then(
 some ((2:Int),(b==([]:SS))))
 else(
 bif(a==8)then(
 qbn n b a c (a==8))
 else(
 bif(a==9)then(
 qbn n b a c (a==9))
 else(
 bif(a==11)then(
 qbn n b a c (a==11))
 else(
 qbn n b a c (a==12)))))))))
def qci (n:Nat) (e:qaa):Option (Int×Bool):=
 match e with
 | ⟨a,b,⟨g,i,j,k,l,m⟩,d,c⟩=>
 bif(a==1)then(
 bnd (qaw (b==([]:SS)) (qm9 n (Val.mk g i j k l m))) fun f=>
 some ((0:Int),(bif(b==([]:SS))then f else false)))
 else(
 bif(a==2)then(
 qbx n b a d c (a==2))
 else(
 qbx n b a d c (a==3)))
set_option maxHeartbeats 4000000 in
theorem q66 (n:Nat):∀ (d:qaa) (r:Int×Bool),qci n d=some r->qac Tryz.prog 218 [PV.agg (qck.cells d)] (q9r r):=by
 intro d r h;obtain⟨b,f,⟨k,l,m,o,p,q⟩,j,e⟩:=d;unfold qci at h;refine qac.of_vcN mixed (fun _ _=>Tryz.call218 _ _) Tryz.func218 (by kernel_rfl) (inl:=[1000000]) ?_;conv=>whnf
 apply ifc h<;>intro a h
 ·conv=>whnf
  refine⟨id,id,?_⟩;conv=>whnf
  refine bq h fun _ s h=>?_;refine⟨_,fun c=>(q3l n _ _ (qad s c)),?_⟩;conv=>whnf
  refine⟨id,?_⟩;obtain rfl:=sj h;conv=>whnf
  try exact fin
 ·conv=>whnf
  refine qhe.cut (S:=Bool) (fun g=>[(1,.ptr 0 0),(5,pI b),(16,pB g)]) (fun g=>[.box 46 [pI b,pS f,pI k,pB l,pI m,pS o,pV p,pT q,pT j,pE e]]) (qbx n f b j e) (r:=r) ?_ ?_
  ·intro g h
   unfold qbx at h;conv=>whnf
   apply ifc h<;>intro a h
   ·conv=>whnf
    refine bq h fun _ t h=>?_;refine⟨_,(qf4 n _ _ t),?_⟩;obtain rfl:=sj h;conv=>whnf
    try exact fin
   ·conv=>whnf
    apply ifc h<;>intro a h
    ·conv=>whnf
     refine bq h fun _ u h=>?_;refine⟨_,(qmd n _ _ u),?_⟩;obtain rfl:=sj h;conv=>whnf
     try exact fin
    ·conv=>whnf
     apply ifc h<;>intro a h
     ·obtain rfl:=sj h
      conv=>whnf
      try exact fin
     ·conv=>whnf
      apply ifc h<;>intro a h
      ·obtain rfl:=sj h
       conv=>whnf
       try exact fin
      ·conv=>whnf
       apply ifc h<;>intro a h
       ·obtain rfl:=sj h
        conv=>whnf
        try exact fin
       ·conv=>whnf
        refine qhe.cut (S:=Bool) (fun i=>[(1,.ptr 0 0),(5,pI b),(45,pB i)]) (fun i=>[.box 46 [pI b,pS f,pI k,pB l,pI m,pS o,pV p,pT q,pT j,pE e]]) (qbn n f b e) (r:=r) ?_ ?_
        ·intro i h
         unfold qbn at h;conv=>whnf
         apply ifc h<;>intro a h
         ·obtain rfl:=sj h
          conv=>whnf
          try exact fin
         ·conv=>whnf
          apply ifc h<;>intro a h
          ·conv=>whnf
           refine bq h fun _ v h=>?_;refine⟨_,(q65 n _ _ v),?_⟩;obtain rfl:=sj h;conv=>whnf
           try exact fin
          ·conv=>whnf
           apply ifc h<;>intro a h
           ·conv=>whnf
            refine bq h fun _ x h=>?_;refine⟨_,(qf4 n _ _ x),?_⟩;conv=>whnf
            refine⟨id,id,?_⟩;conv=>whnf
            refine bq h fun _ w h=>?_;refine⟨_,fun c=>(qs7 n _ _ (qad w c)),?_⟩;conv=>whnf
            refine⟨id,id,?_⟩;obtain rfl:=sj h;conv=>whnf
            try exact fin
           ·conv=>whnf
            apply ifc h<;>intro a h
            ·conv=>whnf
             apply ifc h<;>intro a h
             ·obtain rfl:=sj h
              conv=>whnf
              try exact fin
             ·conv=>whnf
              refine bq h fun _ y h=>?_;refine⟨_,(qs7 n _ _ y),?_⟩;obtain rfl:=sj h;conv=>whnf
              try exact fin
            ·conv=>whnf
             apply ifc h<;>intro a h
             ·conv=>whnf
              refine bq h fun _ A h=>?_;refine⟨_,(qmd n _ _ A),?_⟩;conv=>whnf
              iterate 6 refine⟨id,?_⟩
              conv=>whnf
              refine bq h fun⟨_,_,⟨_,_,_,_,_,_⟩,_,_⟩ z h=>?_;refine⟨_,fun c=>Codec.at_ qck (qad z c),?_⟩;conv=>whnf
              refine⟨id,id,id,id,?_⟩;obtain rfl:=sj h;conv=>whnf
              try exact fin
             ·obtain rfl:=sj h
              conv=>whnf
              try exact fin
        ·conv=>whnf
         apply ifc h<;>intro a h
         ·conv=>whnf
          exact⟨(b==8),h,wk [0] []⟩
         ·conv=>whnf
          apply ifc h<;>intro a h
          ·conv=>whnf
           exact⟨(b==9),h,wk [0] []⟩
          ·conv=>whnf
           apply ifc h<;>intro a h
           ·conv=>whnf
            exact⟨(b==11),h,wk [0] []⟩
           ·conv=>whnf
            exact⟨(b==12),h,wk [0] []⟩
  ·conv=>whnf
   apply ifc h<;>intro a h
   ·conv=>whnf
    exact⟨(b==2),h,wk [0] []⟩
   ·conv=>whnf
    exact⟨(b==3),h,wk [0] []⟩
abbrev qq5 (r:Bool):PV:=PV.bool r
abbrev zxi:Type:=qaa->Int->Option (Bool)
def qhd (n:Nat) (b:List qaa) (g217:zxi) (d:Int):(Int->Option (Bool))->Int->Option (Bool):=fun c a=>
 bif(decide (a<((qaa.rows b).length:Int)))then(
 bnd (idx b a) fun⟨e,f,⟨g,i,j,k,l,m⟩,o,p⟩=>
 bnd (g217 (qaa.mk e f (Val.mk g i j k l m) o p) (IntKind.i64.wrap (d - 1))) fun q=>
 bif(!q)then(
 some false)
 else(
 c (IntKind.i64.wrap (a+1))))
 else(
 some true)
def qhc (n:Nat) (b:List SS) (d:List qaa) (g217:zxi) (e:Int):(Int->Option (Bool))->Int->Option (Bool):=fun c a=>
 bif(decide (a<((qak b).length:Int)))then(
 bnd (idx b a) fun f=>
 bnd (qlc n f) fun g=>
 bif(!g)then(
 some false)
 else(
 c (IntKind.i64.wrap (a+1))))
 else(
 qam (qhd n d g217 e) n (0:Int))
def qos (n:Nat) (g217:zxi) (o:qaa) (d:Int):Option (Bool):=
 match o with
 | ⟨a,q,⟨g,i,j,k,l,m⟩,e,b⟩=>
 bnd (qci n (qaa.mk a q (Val.mk g i j k l m) e b)) fun⟨c,f⟩=>
 bnd (qaw ((!(bif(bif(!f)then true else(decide (d<1)))then true else(bif(decide (c≥0))then(((qaa.rows b).length:Int) != c)else false)))&&(a != 1)) (qhy n (Val.mk g i j k l m) (Val.mk (0:Int) false (0:Int) ([]:SS) ([]:List Val) ([]:List SS)))) fun p=>
 bif(bif(bif(bif(bif(!f)then true else(decide (d<1)))then true else(bif(decide (c≥0))then(((qaa.rows b).length:Int) != c)else false))then true else(bif(a != 1)then(!p)else false))then true else(bif(a != 6)then(decide (((qak e).length:Int)>0))else false))then(
 some false)
 else(
 qam (qhc n e b g217 d) n (0:Int))
set_option maxHeartbeats 4000000 in
theorem q40 (n:Nat) (g217:zxi) (g217_ok:∀ (b:qaa) (a:Int) (r:Bool),g217 b a=some r->qac Tryz.prog 217 [PV.agg (qck.cells b),PV.int .i64 a] (qq5 r)):∀ (b:qaa) (a:Int) (r:Bool),qos n g217 b a=some r->qac Tryz.prog 217 [PV.agg (qck.cells b),PV.int .i64 a] (qq5 r):=by
 intro b a r h;obtain⟨s,t,⟨u,v,w,x,y,z⟩,g,c⟩:=b;unfold qos at h;refine qac.of_vcN mixed (fun _ _=>Tryz.call217 _ _) Tryz.func217 (by kernel_rfl) (inl:=[1000000]) ?_;conv=>whnf
 refine bq h fun⟨_,_⟩ o h=>?_;refine⟨_,(q66 n _ _ o),?_⟩;conv=>whnf
 iterate 17 refine⟨id,?_⟩
 conv=>whnf
 refine bq h fun _ m h=>?_;refine⟨_,fun q=>(qac.leArgs (qzq n _ _ _ (qad m q)) (by try exact fin)),?_⟩;conv=>whnf
 iterate 13 refine⟨id,?_⟩
 conv=>whnf
 apply ifc h<;>intro d h
 ·obtain rfl:=sj h
  conv=>whnf
  try exact fin
 ·conv=>whnf
  refine qbi.fn [1000000] (S:=Int) (fun e=>[(1,pI a),(2,.ptr 0 0),(57,pT g),(58,.p (.int .i64 ((qak g).length:Int))),(59,pI e)]) (fun e=>[.box 46 [pI s,pS t,pI u,pB v,pI w,pS x,pV y,pT z,pT g,pE c]]) (B:=qhc n g c g217 a) h (wk [0] []) ?_;intro _ e h;unfold qhc at h;conv=>whnf
  apply ifc h<;>intro d h
  ·conv=>whnf
   refine bq h fun _ j h=>?_;refine⟨_,Codec.at_ qpr j,?_⟩;conv=>whnf
   refine bq h fun _ i h=>?_;refine⟨_,(qmd n _ _ i),?_⟩;conv=>whnf
   apply ifc h<;>intro d h
   ·obtain rfl:=sj h
    conv=>whnf
    try exact fin
   ·conv=>whnf
    exact⟨(IntKind.i64.wrap (e+1)),h,wk [0] []⟩
  ·conv=>whnf
   refine qbi.fn [1000000] (S:=Int) (fun f=>[(1,pI a),(68,pE c),(69,.p (.int .i64 ((qaa.rows c).length:Int))),(70,pI f)]) (fun f=>[]) (B:=qhd n c g217 a) h (wk [] []) ?_;intro _ f h;unfold qhd at h;conv=>whnf
   apply ifc h<;>intro d h
   ·conv=>whnf
    refine bq h fun⟨_,_,⟨_,_,_,_,_,_⟩,_,_⟩ l h=>?_;refine⟨_,Codec.at_ qck l,?_⟩;conv=>whnf
    refine bq h fun _ k h=>?_;refine⟨_,(g217_ok _ _ _ k),?_⟩;conv=>whnf
    apply ifc h<;>intro d h
    ·obtain rfl:=sj h
     conv=>whnf
     try exact fin
    ·conv=>whnf
     exact⟨(IntKind.i64.wrap (f+1)),h,wk [] []⟩
   ·obtain rfl:=sj h
    conv=>whnf
    try exact fin
def qc5:Nat->qaa->Int->Option (Bool)
 | 0=>fun _ _=>none
 | n+1=>qos n (qc5 n)
theorem q48 (n:Nat):(∀ (a:qaa) (b:Int) (r:Bool),qc5 n a b=some r->qac Tryz.prog 217 [PV.agg (qck.cells a),PV.int .i64 b] (qq5 r)):=by
 induction n with
 | zero=>exact(by intros; rename_i h; cases h)
 | succ n ih=>
  have hg217:=ih;exact q40 n (qc5 n) hg217
theorem qs2 (n:Nat):∀ (a:qaa) (b:Int) (r:Bool),qc5 n a b=some r->qac Tryz.prog 217 [PV.agg (qck.cells a),PV.int .i64 b] (qq5 r):=(q48 n)
abbrev q2u (r:Bool):PV:=PV.bool r
def qfy (n:Nat) (c:List SS) (m:List qaa):(Int->Option (Bool))->Int->Option (Bool):=fun d a=>
 bif(decide (a<((qak c).length:Int)))then(
 bnd (idx c a) fun o=>
 bnd (qlc n o) fun b=>
 bnd (qaw (!(!b)) (idx m a)) fun⟨p,q,⟨s,t,e,f,g,i⟩,j,k⟩=>
 bnd (qaw (!(!b)) (qc5 n (qaa.mk p q (Val.mk s t e f g i) j k) (32:Int))) fun l=>
 bif(bif(!b)then true else(!l))then(
 some false)
 else(
 d (IntKind.i64.wrap (a+1))))
 else(
 some true)
def qia (n:Nat) (c:q5a):Option (Bool):=
 match c with
 | ⟨a,b⟩=>
 bif(((qak a).length:Int) != ((qaa.rows b).length:Int))then(
 some false)
 else(
 qam (qfy n a b) n (0:Int))
theorem qs8 (n:Nat):∀ (a:q5a) (r:Bool),qia n a=some r->qac Tryz.prog 216 [PV.agg (zwu.cells a)] (q2u r):=by
 intro a r h;obtain⟨b,f⟩:=a;unfold qia at h;refine qac.of_vcN mixed (fun _ _=>Tryz.call216 _ _) Tryz.func216 (by kernel_rfl) (inl:=[1000000]) ?_;conv=>whnf
 apply ifc h<;>intro e h
 ·obtain rfl:=sj h
  conv=>whnf
  try exact fin
 ·conv=>whnf
  refine qbi.fn [1000000] (S:=Int) (fun c=>[(1,.ptr 0 0),(13,pT b),(14,.p (.int .i64 ((qak b).length:Int))),(15,pI c)]) (fun c=>[.box 263 [pT b,pE f]]) (B:=qfy n b f) h (wk [0] []) ?_;intro _ c h;unfold qfy at h;conv=>whnf
  apply ifc h<;>intro e h
  ·conv=>whnf
   refine bq h fun _ k h=>?_;refine⟨_,Codec.at_ qpr k,?_⟩;conv=>whnf
   refine bq h fun _ j h=>?_;refine⟨_,(qmd n _ _ j),?_⟩;conv=>whnf
   refine⟨id,id,id,?_⟩;conv=>whnf
   refine bq h fun⟨_,_,⟨_,_,_,_,_,_⟩,_,_⟩ i h=>?_;refine⟨_,fun d=>Codec.at_ qck (qad i d),?_⟩;conv=>whnf
   refine⟨id,id,?_⟩;conv=>whnf
   refine bq h fun _ g h=>?_;refine⟨_,fun d=>(qs2 n _ _ _ (qad g d)),?_⟩;conv=>whnf
   refine⟨id,id,?_⟩;conv=>whnf
   apply ifc h<;>intro e h
   ·obtain rfl:=sj h
    conv=>whnf
    try exact fin
   ·conv=>whnf
    exact⟨(IntKind.i64.wrap (c+1)),h,wk [0] []⟩
  ·obtain rfl:=sj h
   conv=>whnf
   try exact fin
abbrev q3w (r:Bool):PV:=PV.bool r
def qgg (n:Nat) (c:List SS) (a:SS) (f:List SS) (g:List qaa):(Int->Option (Bool))->Int->Option (Bool):=fun e b=>
 bif(decide (b<((qak c).length:Int)))then(
 bnd (idx c b) fun i=>
 bnd (qlc n i) fun j=>
 bif(!j)then(
 some false)
 else(
 e (IntKind.i64.wrap (b+1))))
 else(
 bnd (qaw (!(a==([]:SS))) (qe4 n a)) fun d=>
 bnd (qaw (bif(a==([]:SS))then true else d) (qia n (q5a.mk f g))) fun k=>
 some (bif(bif(a==([]:SS))then true else d)then k else false))
def qe3 (n:Nat) (a:qaf):Option (Bool):=
 match a with
 | ⟨b,c,d,e⟩=>
 qam (qgg n c b d e) n (0:Int)
theorem q2f (n:Nat):∀ (a:qaf) (r:Bool),qe3 n a=some r->qac Tryz.prog 213 [PV.agg (qd3.cells a)] (q3w r):=by
 intro a r h;obtain⟨e,b,f,g⟩:=a;unfold qe3 at h;refine qac.of_vcN mixed (fun _ _=>Tryz.call213 _ _) Tryz.func213 (by kernel_rfl) (inl:=[1000000]) ?_;conv=>whnf
 refine qbi.fn [1000000] (S:=Int) (fun c=>[(1,.ptr 0 0),(6,pT b),(7,.p (.int .i64 ((qak b).length:Int))),(8,pI c)]) (fun c=>[.box 260 [pS e,pT b,pT f,pE g]]) (B:=qgg n b e f g) h (wk [0] []) ?_;intro _ c h;unfold qgg at h;conv=>whnf
 apply ifc h<;>intro m h
 ·conv=>whnf
  refine bq h fun _ j h=>?_;refine⟨_,Codec.at_ qpr j,?_⟩;conv=>whnf
  refine bq h fun _ i h=>?_;refine⟨_,(qmd n _ _ i),?_⟩;conv=>whnf
  apply ifc h<;>intro m h
  ·obtain rfl:=sj h
   conv=>whnf
   try exact fin
  ·conv=>whnf
   exact⟨(IntKind.i64.wrap (c+1)),h,wk [0] []⟩
 ·conv=>whnf
  refine⟨id,id,?_⟩;conv=>whnf
  refine bq h fun _ l h=>?_;refine⟨_,fun d=>(qf4 n _ _ (qad l d)),?_⟩;conv=>whnf
  iterate 6 refine⟨id,?_⟩
  conv=>whnf
  refine bq h fun _ k h=>?_;refine⟨_,fun d=>(qs8 n _ _ (qad k d)),?_⟩;conv=>whnf
  refine⟨id,?_⟩;obtain rfl:=sj h;conv=>whnf
  try exact fin
abbrev q3s (r:Bool):PV:=PV.bool r
def qeo (n:Nat) (f:qah):Option (Bool):=
 match f with
 | ⟨a,b,c,g,i⟩=>
 bnd (qaw (!(a==([]:SS))) (qe4 n a)) fun d=>
 bnd (qaw ((bif(a==([]:SS))then true else d)&&(!(b==([]:SS)))) (qlc n b)) fun e=>
 bnd (qaw (bif(bif(bif(bif(a==([]:SS))then true else d)then(bif(b==([]:SS))then true else e)else false)then(decide (c≥0))else false)then(decide (c<=2))else false) (qia n (q5a.mk g i))) fun j=>
 some (bif(bif(bif(bif(bif(a==([]:SS))then true else d)then(bif(b==([]:SS))then true else e)else false)then(decide (c≥0))else false)then(decide (c<=2))else false)then j else false)
theorem q2c (n:Nat):∀ (b:qah) (r:Bool),qeo n b=some r->qac Tryz.prog 214 [PV.agg (qg2.cells b)] (q3s r):=by
 intro b r h;obtain⟨_,_,_,_,_⟩:=b;unfold qeo at h;refine qac.of_vcN mixed (fun _ _=>Tryz.call214 _ _) Tryz.func214 (by kernel_rfl) (inl:=[1000000]) ?_;conv=>whnf
 refine⟨id,id,?_⟩;conv=>whnf
 refine bq h fun _ e h=>?_;refine⟨_,fun a=>(qf4 n _ _ (qad e a)),?_⟩;conv=>whnf
 iterate 6 refine⟨id,?_⟩
 conv=>whnf
 refine bq h fun _ d h=>?_;refine⟨_,fun a=>(qmd n _ _ (qad d a)),?_⟩;conv=>whnf
 iterate 14 refine⟨id,?_⟩
 conv=>whnf
 refine bq h fun _ c h=>?_;refine⟨_,fun a=>(qs8 n _ _ (qad c a)),?_⟩;conv=>whnf
 refine⟨id,?_⟩;obtain rfl:=sj h;conv=>whnf
 try exact fin
abbrev qve (r:Bool):PV:=PV.bool r
def qej (n:Nat) (c:List qaf) (k:List qah):(Int->Option (Bool))->Int->Option (Bool):=fun d a=>
 bif(decide (a<((qaf.rows c).length:Int)))then(
 bnd (idx c a) fun⟨l,m,o,p⟩=>
 bnd (qe3 n (qaf.mk l m o p)) fun b=>
 bnd (qaw ((!(!b))&&(decide (a>0))) (idx k (IntKind.i64.wrap (a - 1)))) fun⟨q,e,f,g,i⟩=>
 bnd (qaw ((!(!b))&&(decide (a>0))) (qeo n (qah.mk q e f g i))) fun j=>
 bif(bif(!b)then true else(bif(decide (a>0))then(!j)else false))then(
 some false)
 else(
 d (IntKind.i64.wrap (a+1))))
 else(
 some true)
def qiw (n:Nat) (c:qa9):Option (Bool):=
 match c with
 | ⟨a,b⟩=>
 bif(((qaf.rows a).length:Int) != (IntKind.i64.wrap (((qah.rows b).length:Int)+1)))then(
 some false)
 else(
 qam (qej n a b) n (0:Int))
theorem q2g (n:Nat):∀ (a:qa9) (r:Bool),qiw n a=some r->qac Tryz.prog 211 [PV.agg (qlh.cells a)] (qve r):=by
 intro a r h;obtain⟨d,f⟩:=a;unfold qiw at h;refine qac.of_vcN mixed (fun _ _=>Tryz.call211 _ _) Tryz.func211 (by kernel_rfl) (inl:=[1000000]) ?_;conv=>whnf
 apply ifc h<;>intro e h
 ·obtain rfl:=sj h
  conv=>whnf
  try exact fin
 ·conv=>whnf
  refine qbi.fn [1000000] (S:=Int) (fun b=>[(1,.ptr 0 0),(14,.p (.int .i64 ((qaf.rows d).length:Int))),(15,pI b)]) (fun b=>[.box 193 [pN d,pG f]]) (B:=qej n d f) h (wk [0] []) ?_;intro _ b h;unfold qej at h;conv=>whnf
  apply ifc h<;>intro e h
  ·conv=>whnf
   refine bq h fun⟨_,_,_,_⟩ k h=>?_;refine⟨_,Codec.at_ qd3 k,?_⟩;conv=>whnf
   refine bq h fun _ j h=>?_;refine⟨_,(q2f n _ _ j),?_⟩;conv=>whnf
   iterate 6 refine⟨id,?_⟩
   conv=>whnf
   refine bq h fun⟨_,_,_,_,_⟩ i h=>?_;refine⟨_,fun c=>Codec.at_ qg2 (qad i c),?_⟩;conv=>whnf
   refine⟨id,id,?_⟩;conv=>whnf
   refine bq h fun _ g h=>?_;refine⟨_,fun c=>(q2c n _ _ (qad g c)),?_⟩;conv=>whnf
   refine⟨id,id,id,id,?_⟩;conv=>whnf
   apply ifc h<;>intro e h
   ·obtain rfl:=sj h
    conv=>whnf
    try exact fin
   ·conv=>whnf
    exact⟨(IntKind.i64.wrap (b+1)),h,wk [0] []⟩
  ·obtain rfl:=sj h
   conv=>whnf
   try exact fin
abbrev q3t (r:Bool):PV:=PV.bool r
def qha (n:Nat) (a:qaa):Option (Bool):=
 match a with
 | ⟨b,e,⟨f,g,i,j,k,l⟩,m,c⟩=>
 bnd (qc5 n (qaa.mk b e (Val.mk f g i j k l) m c) (32:Int)) fun d=>
 some d
theorem qpy (n:Nat):∀ (a:qaa) (r:Bool),qha n a=some r->qac Tryz.prog 226 [PV.agg (qck.cells a)] (q3t r):=by
 intro a r h;obtain⟨_,_,⟨_,_,_,_,_,_⟩,_,_⟩:=a;unfold qha at h;refine qac.of_vcN mixed (fun _ _=>Tryz.call226 _ _) Tryz.func226 (by kernel_rfl) (inl:=[1000000]) ?_;conv=>whnf
 refine bq h fun _ b h=>?_;refine⟨_,(qs2 n _ _ _ b),?_⟩;obtain rfl:=sj h;conv=>whnf
 try exact fin
abbrev q3u (r:Bool):PV:=PV.bool r
def qpm (n:Nat) (b:qbo):Option (Bool):=
 match b with
 | ⟨⟨c,g,⟨i,j,k,l,m,o⟩,p,d⟩,e⟩=>
 bnd (qe4 n e) fun a=>
 bnd (qaw a (qha n (qaa.mk c g (Val.mk i j k l m o) p d))) fun f=>
 some (bif a then f else false)
theorem q2d (n:Nat):∀ (a:qbo) (r:Bool),qpm n a=some r->qac Tryz.prog 228 [PV.agg (qst.cells a)] (q3u r):=by
 intro a r h;obtain⟨⟨_,_,⟨_,_,_,_,_,_⟩,_,_⟩,_⟩:=a;unfold qpm at h;refine qac.of_vcN mixed (fun _ _=>Tryz.call228 _ _) Tryz.func228 (by kernel_rfl) (inl:=[1000000]) ?_;conv=>whnf
 refine bq h fun _ c h=>?_;refine⟨_,(qf4 n _ _ c),?_⟩;conv=>whnf
 refine⟨id,id,?_⟩;conv=>whnf
 refine bq h fun _ b h=>?_;refine⟨_,fun d=>(qpy n _ _ (qad b d)),?_⟩;conv=>whnf
 refine⟨id,?_⟩;obtain rfl:=sj h;conv=>whnf
 try exact fin
abbrev q1m (r:Bool):PV:=PV.bool r
def qmm (n:Nat) (a:qat):Option (Bool):=
 match a with
 | ⟨⟨b,e,⟨f,g,i,j,k,l⟩,m,c⟩,_⟩=>
 bnd (qha n (qaa.mk b e (Val.mk f g i j k l) m c)) fun d=>
 some d
theorem qzn (n:Nat):∀ (a:qat) (r:Bool),qmm n a=some r->qac Tryz.prog 230 [PV.agg (qqf.cells a)] (q1m r):=by
 intro a r h;obtain⟨⟨_,_,⟨_,_,_,_,_,_⟩,_,_⟩,_⟩:=a;unfold qmm at h;refine qac.of_vcN mixed (fun _ _=>Tryz.call230 _ _) Tryz.func230 (by kernel_rfl) (inl:=[1000000]) ?_;conv=>whnf
 refine bq h fun _ b h=>?_;refine⟨_,(qpy n _ _ b),?_⟩;obtain rfl:=sj h;conv=>whnf
 try exact fin
abbrev q3v (r:Bool):PV:=PV.bool r
def qpn (n:Nat) (a:SS):Option (Bool):=
 bnd (qe4 n a) fun b=>
 some b
theorem q2e (n:Nat):∀ (a:SS) (r:Bool),qpn n a=some r->qac Tryz.prog 232 [PV.str a] (q3v r):=by
 intro a r h;unfold qpn at h;refine qac.of_vcN mixed (fun _ _=>Tryz.call232 _ _) Tryz.func232 (by kernel_rfl) (inl:=[1000000]) ?_;conv=>whnf
 refine bq h fun _ b h=>?_;refine⟨_,(qf4 n _ _ b),?_⟩;obtain rfl:=sj h;conv=>whnf
 try exact fin
abbrev q1l (r:Bool):PV:=PV.bool r
def qg1 (n:Nat) (o:qu6):Option (Bool):=
 match o with
 | ⟨⟨p,a,f,⟨g,i,⟨j,k,l,m,b,c⟩,d,e⟩⟩,q⟩=>
 bnd (qe4 n p) fun s=>
 bif(bif(bif(!s)then true else((a==([]:SS))==(f==([]:SS))))then true else(decide ((IntKind.i64.wrap (((a.length:Nat):Int)+((f.length:Nat):Int)))>64)))then(
 some false)
 else(
 bif(bif q then(!(a==([]:SS)))else false)then(
 bnd (qc5 n (qaa.mk g i (Val.mk j k l m b c) d e) (32:Int)) fun t=>
 some t)
 else(
 bnd (qji n (qaa.mk g i (Val.mk j k l m b c) d e)) fun u=>
 some u))
theorem qzm (n:Nat):∀ (a:qu6) (r:Bool),qg1 n a=some r->qac Tryz.prog 234 [PV.agg (zup.cells a)] (q1l r):=by
 intro a r h;obtain⟨⟨_,_,_,⟨_,_,⟨_,_,_,_,_,_⟩,_,_⟩⟩,_⟩:=a;unfold qg1 at h;refine qac.of_vcN mixed (fun _ _=>Tryz.call234 _ _) Tryz.func234 (by kernel_rfl) (inl:=[1000000]) ?_;conv=>whnf
 refine bq h fun _ d h=>?_;refine⟨_,(qf4 n _ _ d),?_⟩;conv=>whnf
 iterate 19 refine⟨id,?_⟩
 conv=>whnf
 apply ifc h<;>intro e h
 ·obtain rfl:=sj h
  conv=>whnf
  try exact fin
 ·conv=>whnf
  refine⟨id,id,id,id,?_⟩;conv=>whnf
  apply ifc h<;>intro e h
  ·conv=>whnf
   refine bq h fun _ b h=>?_;refine⟨_,(qs2 n _ _ _ b),?_⟩;obtain rfl:=sj h;conv=>whnf
   try exact fin
  ·conv=>whnf
   refine bq h fun _ c h=>?_;refine⟨_,(qyk n _ _ c),?_⟩;obtain rfl:=sj h;conv=>whnf
   try exact fin
def qqb (n:Nat):qbr->Option (Bool)
 | .path x=>qiw n x
 | .expr x=>qha n x
 | .item x=>qpm n x
 | .sorted x=>qmm n x
 | .name x=>qpn n x
 | .change x=>qg1 n x
def q6c:qbr->FuncId
 | .path _=>211
 | .expr _=>226
 | .item _=>228
 | .sorted _=>230
 | .name _=>232
 | .change _=>234
theorem zec (n:Nat):∀ (x:qbr) (r:Bool),qqb n x=some r->zku Tryz.prog x.tid "wattle/spell.may" (q6c x)/\qac Tryz.prog (q6c x) [x.val] (qve r)
 | .path x,r,h=>⟨fun _ _=>rfl,q2g n x r h⟩
 | .expr x,r,h=>⟨fun _ _=>rfl,qpy n x r h⟩
 | .item x,r,h=>⟨fun _ _=>rfl,q2d n x r h⟩
 | .sorted x,r,h=>⟨fun _ _=>rfl,qzn n x r h⟩
 | .name x,r,h=>⟨fun _ _=>rfl,q2e n x r h⟩
 | .change x,r,h=>⟨fun _ _=>rfl,qzm n x r h⟩
end W
end
