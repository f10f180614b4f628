/- A part of the proof: contracts, printed by program. -/
import Derived.Test.YtmblnmgpmdapnaaGreatB
import Derived.Test.YtmblnmgpmdapnaaGreatC
import Derived.Test.YtmblnmgpmdapnaaGreatD
import Derived.Test.YtmblnmgpmdapnaaGreatG
set_option linter.unusedVariables false
set_option linter.unusedSimpArgs false
set_option linter.unnecessarySimpa false
set_option linter.deprecated false
set_option linter.unusedSectionVars false
set_option linter.constructorNameAsVariable false
section
set_option maxRecDepth 100000
open Go Go.Proofs Ax
namespace W
abbrev q9v (r:Bool):PV:=PV.bool r
def qo6 (n:Nat) (p:qaf) (s:Bool):Option (Bool):=
 match p with
 | ⟨q,o,e,⟨f,g,⟨i,j,k,l,a,b⟩,c,d⟩⟩=>
 bnd (qgv n q) fun t=>
 bif(!t)then(
 some false)
 else(
 bif(o==([]:SS))then(
 bnd (qjy n e) fun m=>
 bnd (qaw m (qst n (qaa.mk f g (Val.mk i j k l a b) c d))) fun u=>
 some (bif m then u else false))
 else(
 bnd (qaw (!(!(e==([]:SS)))) (qjy n o)) fun v=>
 bif(bif(!(e==([]:SS)))then true else(!v))then(
 some false)
 else(
 bif s then(
 bnd (qfe n (qaa.mk f g (Val.mk i j k l a b) c d)) fun w=>
 some w)
 else(
 bnd (qst n (qaa.mk f g (Val.mk i j k l a b) c d)) fun x=>
 some x))))
theorem q6s (n:Nat):∀ (a:qaf) (d r:Bool),qo6 n a d=some r->qac Tryz.prog 72 [PV.agg (qjb.cells a),PV.bool d] (q9v r):=by
 intro a d r h;obtain⟨_,_,_,⟨_,_,⟨_,_,_,_,_,_⟩,_,_⟩⟩:=a;unfold qo6 at h;refine qac.of_vcN mixed (fun _ _=>Tryz.call72 _ _) Tryz.func72 (by kernel_rfl) (inl:=[1000000]) ?_;conv=>whnf
 refine bq h fun _ k h=>?_;refine⟨_,(qhd n _ _ k),?_⟩;conv=>whnf
 apply ifc h<;>intro b h
 ·obtain rfl:=sj h
  conv=>whnf
  try exact fin
 ·conv=>whnf
  apply ifc h<;>intro b h
  ·conv=>whnf
   refine bq h fun _ f h=>?_;refine⟨_,(qim n _ _ f),?_⟩;conv=>whnf
   refine⟨id,id,?_⟩;conv=>whnf
   refine bq h fun _ e h=>?_;refine⟨_,fun c=>(q1z n _ _ (qad e c)),?_⟩;conv=>whnf
   refine⟨id,?_⟩;obtain rfl:=sj h;conv=>whnf
   try exact fin
  ·conv=>whnf
   refine⟨id,id,?_⟩;conv=>whnf
   refine bq h fun _ j h=>?_;refine⟨_,fun c=>(qim n _ _ (qad j c)),?_⟩;conv=>whnf
   refine⟨id,id,?_⟩;conv=>whnf
   apply ifc h<;>intro b h
   ·obtain rfl:=sj h
    conv=>whnf
    try exact fin
   ·conv=>whnf
    apply ifc h<;>intro b h
    ·conv=>whnf
     refine bq h fun _ g h=>?_;refine⟨_,(qie n _ _ g),?_⟩;obtain rfl:=sj h;conv=>whnf
     try exact fin
    ·conv=>whnf
     refine bq h fun _ i h=>?_;refine⟨_,(q1z n _ _ i),?_⟩;obtain rfl:=sj h;conv=>whnf
     try exact fin
abbrev q3v (r:Bool):PV:=PV.bool r
def qfg (n:Nat) (a:List qaf) (d:Int):(Int->Option (Bool))->Int->Option (Bool):=fun c b=>
 bif(decide (b<((qaf.rows a).length:Int)))then(
 bnd (idx a b) fun⟨e,f,g,⟨i,j,⟨k,l,m,o,p,q⟩,s,t⟩⟩=>
 bnd (qo6 n (qaf.mk e f g (qaa.mk i j (Val.mk k l m o p q) s t)) (d==6)) fun u=>
 bif(!u)then(
 some false)
 else(
 c (IntKind.i64.wrap (b+1))))
 else(
 some (decide (((qaf.rows a).length:Int)>0)))
def qfh (n:Nat) (a:List SS):(Int->Option (Bool))->Int->Option (Bool):=fun c b=>
 bif(decide (b<((qai a).length:Int)))then(
 bnd (idx a b) fun d=>
 bnd (qgv n d) fun e=>
 bif(!e)then(
 some false)
 else(
 c (IntKind.i64.wrap (b+1))))
 else(
 some (decide (((qai a).length:Int)>0)))
def qir (n:Nat) (b:List qaf) (a:Int) (c:List SS):Bool->Option (Bool):=fun d=>
 bif d then(
 qan (qfg n b a) n (0:Int))
 else(
 bif(a==8)then(
 qan (qfh n c) n (0:Int))
 else(
 some false))
def qiq (n:Nat) (a:Int) (b:List qa6) (e:List qaa) (u:Int) (v:SS) (z:Int) (A:Bool) (B:Int) (C:SS) (g:List Val) (i j:List SS) (k:List qaa) (l:SS) (m:List qbj) (o:Bool) (p:List qar) (q s:List qaa) (c:List qaf) (d:List SS) (t:Bool):Bool->Option (Bool):=fun w=>
 bif w then(
 bnd (qvd n (qab.mk a b e (qaa.mk u v (Val.mk z A B C g i) j k) l m o p q s c d t)) fun f=>
 bnd (qaw f (qmb n e (1:Int))) fun x=>
 some (bif f then x else false))
 else(
 bif(a==4)then(
 some (decide (((qa6.rows b).length:Int)>0)))
 else(
 bif(a==5)then(
 bnd (qaw (((qa6.rows b).length:Int)==1) (idx b (0:Int))) fun⟨_,y⟩=>
 some (bif(((qa6.rows b).length:Int)==1)then(((qag.rows y).length:Int)==0)else false))
 else(
 bif(a==6)then(
 qir n c a d (a==6))
 else(
 qir n c a d (a==7)))))
def qff (n:Nat) (b:List qa6) (a:Int) (i:List qaa) (j:Int) (l:SS) (m:Int) (o:Bool) (p:Int) (q:SS) (c:List Val) (d e:List SS) (f:List qaa) (g:SS) (s:List qbj) (t:Bool) (u:List qar) (v w:List qaa) (x:List qaf) (y:List SS) (z:Bool):(Int->Option (Bool))->Int->Option (Bool):=fun B k=>
 bif(decide (k<((qa6.rows b).length:Int)))then(
 bnd (idx b k) fun⟨C,D⟩=>
 bnd (qm2 n (qa6.mk C D)) fun E=>
 bif(!E)then(
 some false)
 else(
 B (IntKind.i64.wrap (k+1))))
 else(
 bif(a==1)then(
 bnd (qaw (decide (((qa6.rows b).length:Int)>0)) (qmb n i (1:Int))) fun F=>
 some (bif(decide (((qa6.rows b).length:Int)>0))then F else false))
 else(
 bif(a==2)then(
 bnd (qfe n (qaa.mk j l (Val.mk m o p q c d) e f)) fun A=>
 bnd (qaw A (qgv n g)) fun G=>
 some (bif A then G else false))
 else(
 bif(a==3)then(
 qiq n a b i j l m o p q c d e f g s t u v w x y z (a==3))
 else(
 qiq n a b i j l m o p q c d e f g s t u v w x y z (a==9)))))
def qgc (n:Nat) (z:qab):Option (Bool):=
 match z with
 | ⟨a,m,s,⟨t,u,⟨v,w,x,y,b,c⟩,d,e⟩,f,g,i,j,k,l,o,p,q⟩=>
 bnd (qs7 n (qab.mk a m s (qaa.mk t u (Val.mk v w x y b c) d e) f g i j k l o p q)) fun⟨A,B,C,⟨D,E,⟨F,G,H,I,J,K⟩,L,M⟩,N,O,P,Q,R,S,T,U,V⟩=>
 bnd (qgy n (qab.mk A B C (qaa.mk D E (Val.mk F G H I J K) L M) N O P Q R S T U V) (qab.mk a m s (qaa.mk t u (Val.mk v w x y b c) d e) f g i j k l o p q)) fun W=>
 bif(!W)then(
 some false)
 else(
 qan (qff n m a s t u v w x y b c d e f g i j k l o p q) n (0:Int))
set_option maxHeartbeats 4000000 in
theorem q10 (n:Nat):∀ (C:qab) (r:Bool),qgc n C=some r->qac Tryz.prog 40 [PV.agg (qda.cells C)] (q3v r):=by
 intro C r h;obtain⟨b,s,u,⟨v,w,⟨x,y,z,A,f,g⟩,i,j⟩,k,l,m,o,p,q,c,d,t⟩:=C;unfold qgc at h;refine qac.of_vcN mixed (fun _ _=>Tryz.call40 _ _) Tryz.func40 (by kernel_rfl) (inl:=[1000000]) ?_;conv=>whnf
 refine bq h fun⟨_,_,_,⟨_,_,⟨_,_,_,_,_,_⟩,_,_⟩,_,_,_,_,_,_,_,_,_⟩ N h=>?_;refine⟨_,(zdy n _ _ N),?_⟩;conv=>whnf
 refine bq h fun _ M h=>?_;refine⟨_,(q0q n _ _ _ M),?_⟩;conv=>whnf
 apply ifc h<;>intro a h
 ·obtain rfl:=sj h
  conv=>whnf
  try exact fin
 ·conv=>whnf
  refine qbl.fn [1000000] (S:=Int) (fun D=>[(1,.ptr 0 0),(3,pI D)]) (fun D=>[.box 51 [pI b,pP s,pE u,pI v,pS w,pI x,pB y,pI z,pS A,pV f,pT g,pT i,pE j,pS k,pA l,pB m,pO o,pE p,pE q,pU c,pT d,pB t]]) (B:=qff n s b u v w x y z A f g i j k l m o p q c d t) h (wk [0] []) ?_;intro _ D h;unfold qff at h;conv=>whnf
  apply ifc h<;>intro a h
  ·conv=>whnf
   refine bq h fun⟨_,_⟩ O h=>?_;refine⟨_,Codec.at_ ql2 O,?_⟩;conv=>whnf
   refine bq h fun _ I h=>?_;refine⟨_,(q47 n _ _ I),?_⟩;conv=>whnf
   apply ifc h<;>intro a h
   ·obtain rfl:=sj h
    conv=>whnf
    try exact fin
   ·conv=>whnf
    exact⟨(IntKind.i64.wrap (D+1)),h,wk [0] []⟩
  ·conv=>whnf
   apply ifc h<;>intro a h
   ·conv=>whnf
    refine⟨id,id,?_⟩;conv=>whnf
    refine bq h fun _ P h=>?_;refine⟨_,fun e=>(qq3 n _ _ _ (qad P e)),?_⟩;conv=>whnf
    refine⟨id,?_⟩;obtain rfl:=sj h;conv=>whnf
    try exact fin
   ·conv=>whnf
    apply ifc h<;>intro a h
    ·conv=>whnf
     refine bq h fun _ R h=>?_;refine⟨_,(qie n _ _ R),?_⟩;conv=>whnf
     refine⟨id,id,?_⟩;conv=>whnf
     refine bq h fun _ Q h=>?_;refine⟨_,fun e=>(qhd n _ _ (qad Q e)),?_⟩;conv=>whnf
     refine⟨id,?_⟩;obtain rfl:=sj h;conv=>whnf
     try exact fin
    ·conv=>whnf
     refine qh6.cut (S:=Bool) (fun G=>[(1,.ptr 0 0),(26,pI b),(48,pB G)]) (fun G=>[.box 51 [pI b,pP s,pE u,pI v,pS w,pI x,pB y,pI z,pS A,pV f,pT g,pT i,pE j,pS k,pA l,pB m,pO o,pE p,pE q,pU c,pT d,pB t]]) (qiq n b s u v w x y z A f g i j k l m o p q c d t) (r:=r) ?_ ?_
     ·intro G h
      unfold qiq at h;conv=>whnf
      apply ifc h<;>intro a h
      ·conv=>whnf
       refine bq h fun _ U h=>?_;refine⟨_,(zbp n _ _ U),?_⟩;conv=>whnf
       refine⟨id,id,?_⟩;conv=>whnf
       refine bq h fun _ T h=>?_;refine⟨_,fun e=>(qq3 n _ _ _ (qad T e)),?_⟩;conv=>whnf
       refine⟨id,?_⟩;obtain rfl:=sj h;conv=>whnf
       try exact fin
      ·conv=>whnf
       apply ifc h<;>intro a h
       ·obtain rfl:=sj h
        conv=>whnf
        try exact fin
       ·conv=>whnf
        apply ifc h<;>intro a h
        ·conv=>whnf
         refine⟨id,id,?_⟩;conv=>whnf
         refine bq h fun⟨_,_⟩ V h=>?_;refine⟨_,fun e=>Codec.at_ ql2 (qad V e),?_⟩;conv=>whnf
         refine⟨id,id,id,id,id,?_⟩;obtain rfl:=sj h;conv=>whnf
         try exact fin
        ·conv=>whnf
         refine qh6.cut (S:=Bool) (fun H=>[(1,.ptr 0 0),(26,pI b),(79,pB H)]) (fun H=>[.box 51 [pI b,pP s,pE u,pI v,pS w,pI x,pB y,pI z,pS A,pV f,pT g,pT i,pE j,pS k,pA l,pB m,pO o,pE p,pE q,pU c,pT d,pB t]]) (qir n c b d) (r:=r) ?_ ?_
         ·intro H h
          unfold qir at h;conv=>whnf
          apply ifc h<;>intro a h
          ·conv=>whnf
           refine qbl.fn [1000000] (S:=Int) (fun E=>[(1,.ptr 0 0),(4,pI E)]) (fun E=>[.box 51 [pI b,pP s,pE u,pI v,pS w,pI x,pB y,pI z,pS A,pV f,pT g,pT i,pE j,pS k,pA l,pB m,pO o,pE p,pE q,pU c,pT d,pB t]]) (B:=qfg n c b) h (wk [0] []) ?_;intro _ E h;unfold qfg at h;conv=>whnf
           apply ifc h<;>intro a h
           ·conv=>whnf
            refine bq h fun⟨_,_,_,⟨_,_,⟨_,_,_,_,_,_⟩,_,_⟩⟩ J h=>?_;refine⟨_,Codec.at_ qjb J,?_⟩;conv=>whnf
            refine bq h fun _ W h=>?_;refine⟨_,(q6s n _ _ _ W),?_⟩;conv=>whnf
            apply ifc h<;>intro a h
            ·obtain rfl:=sj h
             conv=>whnf
             try exact fin
            ·conv=>whnf
             exact⟨(IntKind.i64.wrap (E+1)),h,wk [0] []⟩
           ·obtain rfl:=sj h
            conv=>whnf
            try exact fin
          ·conv=>whnf
           apply ifc h<;>intro a h
           ·conv=>whnf
            refine qbl.fn [1000000] (S:=Int) (fun F=>[(1,.ptr 0 0),(5,pI F)]) (fun F=>[.box 51 [pI b,pP s,pE u,pI v,pS w,pI x,pB y,pI z,pS A,pV f,pT g,pT i,pE j,pS k,pA l,pB m,pO o,pE p,pE q,pU c,pT d,pB t]]) (B:=qfh n d) h (wk [0] []) ?_;intro _ F h;unfold qfh at h;conv=>whnf
            apply ifc h<;>intro a h
            ·conv=>whnf
             refine bq h fun _ L h=>?_;refine⟨_,Codec.at_ qpl L,?_⟩;conv=>whnf
             refine bq h fun _ K h=>?_;refine⟨_,(qhd n _ _ K),?_⟩;conv=>whnf
             apply ifc h<;>intro a h
             ·obtain rfl:=sj h
              conv=>whnf
              try exact fin
             ·conv=>whnf
              exact⟨(IntKind.i64.wrap (F+1)),h,wk [0] []⟩
            ·obtain rfl:=sj h
             conv=>whnf
             try exact fin
           ·obtain rfl:=sj h
            conv=>whnf
            try exact fin
         ·conv=>whnf
          apply ifc h<;>intro a h
          ·conv=>whnf
           exact⟨(b==6),h,wk [0] []⟩
          ·conv=>whnf
           exact⟨(b==7),h,wk [0] []⟩
     ·conv=>whnf
      apply ifc h<;>intro a h
      ·conv=>whnf
       exact⟨(b==3),h,wk [0] []⟩
      ·conv=>whnf
       exact⟨(b==9),h,wk [0] []⟩
abbrev zgh (r:Bool):PV:=PV.bool r
def qma (n:Nat) (a:List qab):(Int->Option (Bool))->Int->Option (Bool):=fun e b=>
 bif(decide (b<((qab.rows a).length:Int)))then(
 bnd (idx a b) fun⟨y,z,A,⟨B,C,⟨E,F,f,g,i,j⟩,k,l⟩,m,o,p,q,s,t,u,v,w⟩=>
 bnd (qgc n (qab.mk y z A (qaa.mk B C (Val.mk E F f g i j) k l) m o p q s t u v w)) fun d=>
 bnd (qaw (!(!d)) (idx a b)) fun⟨x,_,_,⟨_,_,⟨_,_,_,_,_,_⟩,_,_⟩,_,_,_,_,_,_,_,_,_⟩=>
 bif(bif(!d)then true else(bif(x==9)then(decide ((IntKind.i64.wrap (b+1))<((qab.rows a).length:Int)))else false))then(
 some false)
 else(
 e (IntKind.i64.wrap (b+1))))
 else(
 bnd (qaw (bif(decide (((qab.rows a).length:Int)>0))then(decide (((qab.rows a).length:Int)<=64))else false) (idx a (IntKind.i64.wrap (((qab.rows a).length:Int) - 1)))) fun⟨c,_,_,⟨_,_,⟨_,_,_,_,_,_⟩,_,_⟩,_,_,_,_,_,_,_,_,_⟩=>
 bnd (qaw ((bif(decide (((qab.rows a).length:Int)>0))then(decide (((qab.rows a).length:Int)<=64))else false)&&(!(c==9))) (idx a (IntKind.i64.wrap (((qab.rows a).length:Int) - 1)))) fun⟨D,_,_,⟨_,_,⟨_,_,_,_,_,_⟩,_,_⟩,_,_,_,_,_,_,_,_,_⟩=>
 bnd (qaw ((bif(decide (((qab.rows a).length:Int)>0))then(decide (((qab.rows a).length:Int)<=64))else false)&&(!(c==9))) (qip n D)) fun G=>
 some (bif(bif(decide (((qab.rows a).length:Int)>0))then(decide (((qab.rows a).length:Int)<=64))else false)then(bif(c==9)then true else G)else false))
def qps (n:Nat) (a:qid):Option (Bool):=
 match a with
 | ⟨b⟩=>
 qan (qma n b) n (0:Int)
theorem qt1 (n:Nat):∀ (b:qid) (r:Bool),qps n b=some r->qac Tryz.prog 19 [PV.agg (q21.cells b)] (zgh r):=by
 intro b r h;obtain⟨d⟩:=b;unfold qps at h;refine qac.of_vcN mixed (fun _ _=>Tryz.call19 _ _) Tryz.func19 (by kernel_rfl) (inl:=[1000000]) ?_;conv=>whnf
 refine qbl.fn [1000000] (S:=Int) (fun c=>[(1,.ptr 0 0),(3,.p (.int .i64 ((qab.rows d).length:Int))),(4,pI c)]) (fun c=>[.box 24 [pC d]]) (B:=qma n d) h (wk [0] []) ?_;intro _ c h;unfold qma at h;conv=>whnf
 apply ifc h<;>intro l h
 ·conv=>whnf
  refine bq h fun⟨_,_,_,⟨_,_,⟨_,_,_,_,_,_⟩,_,_⟩,_,_,_,_,_,_,_,_,_⟩ g h=>?_;refine⟨_,Codec.at_ qda g,?_⟩;conv=>whnf
  refine bq h fun _ f h=>?_;refine⟨_,(q10 n _ _ f),?_⟩;conv=>whnf
  refine⟨id,id,id,?_⟩;conv=>whnf
  refine bq h fun⟨_,_,_,⟨_,_,⟨_,_,_,_,_,_⟩,_,_⟩,_,_,_,_,_,_,_,_,_⟩ e h=>?_;refine⟨_,fun a=>Codec.at_ qda (qad e a),?_⟩;conv=>whnf
  iterate 10 refine⟨id,?_⟩
  conv=>whnf
  apply ifc h<;>intro l h
  ·obtain rfl:=sj h
   conv=>whnf
   try exact fin
  ·conv=>whnf
   exact⟨(IntKind.i64.wrap (c+1)),h,wk [0] []⟩
 ·conv=>whnf
  iterate 6 refine⟨id,?_⟩
  conv=>whnf
  refine bq h fun⟨_,_,_,⟨_,_,⟨_,_,_,_,_,_⟩,_,_⟩,_,_,_,_,_,_,_,_,_⟩ k h=>?_;refine⟨_,fun a=>Codec.at_ qda (qad k a),?_⟩;conv=>whnf
  iterate 8 refine⟨id,?_⟩
  conv=>whnf
  refine bq h fun⟨_,_,_,⟨_,_,⟨_,_,_,_,_,_⟩,_,_⟩,_,_,_,_,_,_,_,_,_⟩ j h=>?_;refine⟨_,fun a=>Codec.at_ qda (qad j a),?_⟩;conv=>whnf
  refine⟨id,id,id,?_⟩;conv=>whnf
  refine bq h fun _ i h=>?_;refine⟨_,fun a=>(qs6 n _ _ (qad i a)),?_⟩;conv=>whnf
  refine⟨id,id,id,?_⟩;obtain rfl:=sj h;conv=>whnf
  try exact fin
abbrev zcj (r:qid×Int×Int):PV:=PV.tup [PV.agg (q21.cells r.1),PV.int .i64 r.2.1,PV.int .i64 r.2.2]
def qq4 (n:Nat) (d:List qao):Int×Bool×List qab->Option (qid×Int×Int):=fun(e,f,a)=>
 bif f then(
 bnd (idx d e) fun⟨_,_,_,b⟩=>
 some (qid.mk ([]:List qab),b,(1:Int)))
 else(
 bnd (qps n (qid.mk a)) fun c=>
 bif(!c)then(
 some (qid.mk ([]:List qab),(0:Int),(8:Int)))
 else(
 some (qid.mk a,(0:Int),(0:Int))))
def qus (n:Nat) (d:List qao):(Int×Int×Bool×List qab->Option (qid×Int×Int))->Int×Int×Bool×List qab->Option (qid×Int×Int):=fun F (e,b,a,c)=>
 bnd (qaw (!a) (idx d b)) fun⟨g,_,_,_⟩=>
 bnd (qaw ((!a)&&(!(g != 6))) (qip n e)) fun G=>
 bif(bif(!a)then(bif(g != 6)then true else(bif(!G)then(e != 9)else false))else false)then(
 bif(e==9)then(
 qq4 n d (b,true,c))
 else(
 bnd (qup n d b a) fun⟨⟨f,i,j,⟨k,l,⟨m,o,p,q,s,t⟩,u,v⟩,w,x,y,z,A,B,C,D,E⟩,H,I⟩=>
 chk (decide ((qab.rows (c++[qab.mk f i j (qaa.mk k l (Val.mk m o p q s t) u v) w x y z A B C D E])).length * 392<=140737488355328)) (
 F (f,H,I,(c++[qab.mk f i j (qaa.mk k l (Val.mk m o p q s t) u v) w x y z A B C D E])))))
 else(
 qq4 n d (b,a,c))
def q0r (n:Nat) (b:SS):Option (qid×Int×Int):=
 bnd (q3g n b) fun⟨c,d,a⟩=>
 bif(a != 0)then(
 some (qid.mk ([]:List qab),d,a))
 else(
 qan (qus n c) n ((0:Int),(0:Int),false,([]:List _)))
set_option maxHeartbeats 4000000 in
theorem q89 (n:Nat):∀ (I:SS) (r:qid×Int×Int),q0r n I=some r->qac Tryz.prog 23 [PV.str I] (zcj r):=by
 intro I r h;unfold q0r at h;refine qac.of_vcN mixed (fun _ _=>Tryz.call23 _ _) Tryz.func23 (by kernel_rfl) (inl:=[47,40000014,50000002,60004000,1000000]) ?_;conv=>whnf
 refine bq h fun⟨D,_,_⟩ V h=>?_;refine⟨_,(zbl n _ _ V),?_⟩;conv=>whnf
 apply ifc h<;>intro E h
 ·obtain rfl:=sj h
  conv=>whnf
  try exact fin
 ·conv=>whnf
  refine qh6.cut (S:=Int×Bool×List qab) (fun(K,L,G)=>[(2,.ptr 0 0),(8,.ptr 1 0),(9,.ptr 2 0)]) (fun(K,L,G)=>[.box 24 [zq2],.box 113 [pK D,pI K,pB L],.box 24 [.tsl 3 (qab.rows G)],.tail 51 22 (qab.rows G).length]) (qq4 n D) (r:=r) ?_ ?_
  ·intro st h
   obtain⟨K,L,G⟩:=st;unfold qq4 at h;conv=>whnf
   apply ifc h<;>intro E h
   ·conv=>whnf
    refine bq h fun⟨_,_,_,_⟩ P h=>?_;refine⟨_,Codec.at_ qrw P,?_⟩;obtain rfl:=sj h;conv=>whnf
    try exact fin
   ·conv=>whnf
    refine bq h fun _ Q h=>?_;refine⟨_,(qt1 n _ _ Q),?_⟩;conv=>whnf
    apply ifc h<;>intro E h
    ·obtain rfl:=sj h
     conv=>whnf
     try exact fin
    ·obtain rfl:=sj h
     conv=>whnf
     try exact fin
  ·conv=>whnf
   refine qbl.fn [47,40000014,50000002,60004000,1000000] (S:=Int×Int×Bool×List qab) (fun(J,C,F,a)=>[(2,.ptr 0 0),(8,.ptr 1 0),(9,.ptr 2 0),(10,pI J)]) (fun(J,C,F,a)=>[.box 24 [zq2],.box 113 [pK D,pI C,pB F],.box 24 [.tsl 3 (qab.rows a)],.tail 51 22 (qab.rows a).length]) (B:=qus n D) h (wk [0,1,2,0] [3]) ?_;intro _ st h;obtain⟨J,C,F,a⟩:=st;unfold qus at h;conv=>whnf
   iterate 8 refine⟨id,?_⟩
   conv=>whnf
   refine bq h fun⟨_,_,_,_⟩ U h=>?_;refine⟨_,fun H=>Codec.at_ qrw (qad U H),?_⟩;conv=>whnf
   refine⟨id,id,id,id,id,?_⟩;conv=>whnf
   refine bq h fun _ T h=>?_;refine⟨_,fun H=>(qs6 n _ _ (qad T H)),?_⟩;conv=>whnf
   iterate 8 refine⟨id,?_⟩
   conv=>whnf
   apply ifc h<;>intro E h
   ·conv=>whnf
    apply ifc h<;>intro E h
    ·conv=>whnf
     exact⟨(C,true,a),h,wk [0,1,2,3] []⟩
    ·conv=>whnf
     refine bq h fun⟨⟨b,c,d,⟨e,f,⟨g,i,j,k,l,m⟩,o,q⟩,s,t,u,v,w,x,y,z,A⟩,N,O⟩ R h=>?_;refine qcl (q3j n _ _ _ _ R) [1] [] ?_;rintro _ _ ⟨rfl,rfl⟩;refine⟨.p (.agg [.int .i64 b,.sl (qa6.rows c),.sl (qaa.rows d),.int .i64 e,.str f,.int .i64 g,.bool i,.int .i64 j,.str k,.sl (Val.rows l),.sl (qai m),.sl (qai o),.sl (qaa.rows q),.str s,.sl (qbj.rows t),.bool u,.sl (qar.rows v),.sl (qaa.rows w),.sl (qaa.rows x),.sl (qaf.rows y),.sl (qai z),.bool A]),[.box 24 [zq2],.box 113 [pK D,pI N,pB O],.box 24 [.tsl 3 (qab.rows a)],.tail 51 22 (qab.rows a).length],rfl,rfl,?_⟩;conv=>whnf
     refine⟨Codec.one qda [qab.mk b c d (qaa.mk e f (Val.mk g i j k l m) o q) s t u v w x y z A],qab.rows [qab.mk b c d (qaa.mk e f (Val.mk g i j k l m) o q) s t u v w x y z A],.inl rfl,?_⟩;conv=>whnf
     rw[show qab.rows a++qab.rows [qab.mk b c d (qaa.mk e f (Val.mk g i j k l m) o q) s t u v w x y z A]=qab.rows (a++[qab.mk b c d (qaa.mk e f (Val.mk g i j k l m) o q) s t u v w x y z A])from Codec.append qda a [qab.mk b c d (qaa.mk e f (Val.mk g i j k l m) o q) s t u v w x y z A]];conv=>whnf
     obtain⟨M,h⟩:=qak h;refine⟨⟨Codec.wide qda (a++[qab.mk b c d (qaa.mk e f (Val.mk g i j k l m) o q) s t u v w x y z A]),of_decide_eq_true M,qcb M (by decide)⟩,?_⟩;conv=>whnf
     refine⟨⟨rfl,rfl,rfl⟩,?_⟩;conv=>whnf
     exact⟨(b,N,O,(a++[qab.mk b c d (qaa.mk e f (Val.mk g i j k l m) o q) s t u v w x y z A])),h,wk [0,1,2,5] []⟩
   ·conv=>whnf
    exact⟨(C,F,a),h,wk [0,1,2,3] []⟩
abbrev q5z (r:Bool):PV:=PV.bool r
def qq7 (n:Nat) (a:Int):Option (Bool):=
 some (bif(decide (a≥4))then(decide (a<=8))else false)
theorem q3q (n:Nat):∀ (a:Int) (r:Bool),qq7 n a=some r->qac Tryz.prog 84 [PV.int .i64 a] (q5z r):=by
 intro a r h;unfold qq7 at h;refine qac.of_vcN mixed (fun _ _=>Tryz.call84 _ _) Tryz.func84 (by kernel_rfl) (inl:=[1000000]) ?_;conv=>whnf
 refine⟨id,id,?_⟩;obtain rfl:=sj h;conv=>whnf
 try exact fin
abbrev q07 (r:qbo):PV:=(PV.ifc (qbo.tid r) (qbo.val r))
def qnf (n:Nat) (a:qa6):Option (qbo):=
 match a with
 | ⟨b,c⟩=>
 some (qbo.path (qa6.mk b c))
theorem qzg (n:Nat):∀ (a:qa6) (r:qbo),qnf n a=some r->qac Tryz.prog 126 [PV.agg (ql2.cells a)] (q07 r):=by
 intro a r h;obtain⟨_,_⟩:=a;unfold qnf at h;refine qac.of_vcN mixed (fun _ _=>Tryz.call126 _ _) Tryz.func126 (by kernel_rfl) (inl:=[1000000]) ?_;obtain rfl:=sj h;conv=>whnf
 try exact fin
abbrev qns (r:List qbo):PV:=PV.sl (qbo.rows r)
def qby (n:Nat) (c:List qa6):(List qbo×Int->Option (List qbo))->List qbo×Int->Option (List qbo):=fun e (a,b)=>
 bif(decide (b<((qa6.rows c).length:Int)))then(
 bnd (idx c b) fun⟨f,g⟩=>
 bnd (qnf n (qa6.mk f g)) fun d=>
 chk (decide ((qbo.rows (a++[d])).length * 16<=140737488355328)) (
 e ((a++[d]),(IntKind.i64.wrap (b+1)))))
 else(
 some a)
def qdo (n:Nat) (a:List qa6):Option (List qbo):=
 qan (qby n a) n (([]:List _),(0:Int))
theorem qmq (n:Nat):∀ (c:List qa6) (r:List qbo),qdo n c=some r->qac Tryz.prog 125 [PV.sl (qa6.rows c),PV.fn 126] (qns r):=by
 intro c r h;unfold qdo at h;refine qac.of_vcN mixed (fun _ _=>Tryz.call125 _ _) Tryz.func125 (by kernel_rfl) (inl:=[1000000]) ?_;conv=>whnf
 refine qbl.fn [1000000] (S:=List qbo×Int) (fun(a,d)=>[(1,.p (.fn 126)),(5,.tsl 0 (qbo.rows a)),(8,pP c),(9,.p (.int .i64 ((qa6.rows c).length:Int))),(10,pI d)]) (fun(a,d)=>[.tail 156 1 (qbo.rows a).length]) (B:=qby n c) h (wk [0] [0]) ?_;intro _ st h;obtain⟨a,d⟩:=st;unfold qby at h;conv=>whnf
 apply ifc h<;>intro _ h
 ·conv=>whnf
  refine bq h fun⟨_,_⟩ g h=>?_;refine⟨_,Codec.at_ ql2 g,?_⟩;conv=>whnf
  refine bq h fun b f h=>?_;refine⟨_,(qzg n _ _ f),?_⟩;conv=>whnf
  refine⟨Codec.one qq0 [b],qbo.rows [b],.inl rfl,?_⟩;conv=>whnf
  rw[show qbo.rows a++qbo.rows [b]=qbo.rows (a++[b])from Codec.append qq0 a [b]];conv=>whnf
  obtain⟨e,h⟩:=qak h;refine⟨⟨Codec.wide qq0 (a++[b]),of_decide_eq_true e,qcb e (by decide)⟩,?_⟩;conv=>whnf
  refine⟨⟨rfl,rfl,rfl⟩,?_⟩;conv=>whnf
  exact⟨((a++[b]),(IntKind.i64.wrap (d+1))),h,wk [2] []⟩
 ·obtain rfl:=sj h
  conv=>whnf
  try exact fin
abbrev q08 (r:qbo):PV:=(PV.ifc (qbo.tid r) (qbo.val r))
def qng (n:Nat) (a:qaa):Option (qbo):=
 match a with
 | ⟨b,d,⟨e,f,g,i,j,k⟩,l,c⟩=>
 some (qbo.expr (qaa.mk b d (Val.mk e f g i j k) l c))
theorem qzh (n:Nat):∀ (a:qaa) (r:qbo),qng n a=some r->qac Tryz.prog 128 [PV.agg (qcf.cells a)] (q08 r):=by
 intro a r h;obtain⟨_,_,⟨_,_,_,_,_,_⟩,_,_⟩:=a;unfold qng at h;refine qac.of_vcN mixed (fun _ _=>Tryz.call128 _ _) Tryz.func128 (by kernel_rfl) (inl:=[1000000]) ?_;obtain rfl:=sj h;conv=>whnf
 try exact fin
abbrev qno (r:List qbo):PV:=PV.sl (qbo.rows r)
def qbu (n:Nat) (c:List qaa):(List qbo×Int->Option (List qbo))->List qbo×Int->Option (List qbo):=fun e (a,b)=>
 bif(decide (b<((qaa.rows c).length:Int)))then(
 bnd (idx c b) fun⟨k,l,⟨m,o,p,q,f,g⟩,i,j⟩=>
 bnd (qng n (qaa.mk k l (Val.mk m o p q f g) i j)) fun d=>
 chk (decide ((qbo.rows (a++[d])).length * 16<=140737488355328)) (
 e ((a++[d]),(IntKind.i64.wrap (b+1)))))
 else(
 some a)
def qdk (n:Nat) (a:List qaa):Option (List qbo):=
 qan (qbu n a) n (([]:List _),(0:Int))
theorem qmm (n:Nat):∀ (c:List qaa) (r:List qbo),qdk n c=some r->qac Tryz.prog 127 [PV.sl (qaa.rows c),PV.fn 128] (qno r):=by
 intro c r h;unfold qdk at h;refine qac.of_vcN mixed (fun _ _=>Tryz.call127 _ _) Tryz.func127 (by kernel_rfl) (inl:=[1000000]) ?_;conv=>whnf
 refine qbl.fn [1000000] (S:=List qbo×Int) (fun(a,d)=>[(1,.p (.fn 128)),(5,.tsl 0 (qbo.rows a)),(8,pE c),(9,.p (.int .i64 ((qaa.rows c).length:Int))),(10,pI d)]) (fun(a,d)=>[.tail 156 1 (qbo.rows a).length]) (B:=qbu n c) h (wk [0] [0]) ?_;intro _ st h;obtain⟨a,d⟩:=st;unfold qbu at h;conv=>whnf
 apply ifc h<;>intro _ h
 ·conv=>whnf
  refine bq h fun⟨_,_,⟨_,_,_,_,_,_⟩,_,_⟩ g h=>?_;refine⟨_,Codec.at_ qcf g,?_⟩;conv=>whnf
  refine bq h fun b f h=>?_;refine⟨_,(qzh n _ _ f),?_⟩;conv=>whnf
  refine⟨Codec.one qq0 [b],qbo.rows [b],.inl rfl,?_⟩;conv=>whnf
  rw[show qbo.rows a++qbo.rows [b]=qbo.rows (a++[b])from Codec.append qq0 a [b]];conv=>whnf
  obtain⟨e,h⟩:=qak h;refine⟨⟨Codec.wide qq0 (a++[b]),of_decide_eq_true e,qcb e (by decide)⟩,?_⟩;conv=>whnf
  refine⟨⟨rfl,rfl,rfl⟩,?_⟩;conv=>whnf
  exact⟨((a++[b]),(IntKind.i64.wrap (d+1))),h,wk [2] []⟩
 ·obtain rfl:=sj h
  conv=>whnf
  try exact fin
abbrev q09 (r:qbo):PV:=(PV.ifc (qbo.tid r) (qbo.val r))
def qnh (n:Nat) (a:qbj):Option (qbo):=
 match a with
 | ⟨⟨b,e,⟨f,g,i,j,k,l⟩,m,c⟩,d⟩=>
 some (qbo.item (qbj.mk (qaa.mk b e (Val.mk f g i j k l) m c) d))
theorem qzi (n:Nat):∀ (a:qbj) (r:qbo),qnh n a=some r->qac Tryz.prog 130 [PV.agg (qr5.cells a)] (q09 r):=by
 intro a r h;obtain⟨⟨_,_,⟨_,_,_,_,_,_⟩,_,_⟩,_⟩:=a;unfold qnh at h;refine qac.of_vcN mixed (fun _ _=>Tryz.call130 _ _) Tryz.func130 (by kernel_rfl) (inl:=[1000000]) ?_;obtain rfl:=sj h;conv=>whnf
 try exact fin
abbrev qnr (r:List qbo):PV:=PV.sl (qbo.rows r)
def qbx (n:Nat) (c:List qbj):(List qbo×Int->Option (List qbo))->List qbo×Int->Option (List qbo):=fun e (a,b)=>
 bif(decide (b<((qbj.rows c).length:Int)))then(
 bnd (idx c b) fun⟨⟨l,m,⟨o,p,q,s,f,g⟩,i,j⟩,k⟩=>
 bnd (qnh n (qbj.mk (qaa.mk l m (Val.mk o p q s f g) i j) k)) fun d=>
 chk (decide ((qbo.rows (a++[d])).length * 16<=140737488355328)) (
 e ((a++[d]),(IntKind.i64.wrap (b+1)))))
 else(
 some a)
def qdn (n:Nat) (a:List qbj):Option (List qbo):=
 qan (qbx n a) n (([]:List _),(0:Int))
theorem qmp (n:Nat):∀ (c:List qbj) (r:List qbo),qdn n c=some r->qac Tryz.prog 129 [PV.sl (qbj.rows c),PV.fn 130] (qnr r):=by
 intro c r h;unfold qdn at h;refine qac.of_vcN mixed (fun _ _=>Tryz.call129 _ _) Tryz.func129 (by kernel_rfl) (inl:=[1000000]) ?_;conv=>whnf
 refine qbl.fn [1000000] (S:=List qbo×Int) (fun(a,d)=>[(1,.p (.fn 130)),(5,.tsl 0 (qbo.rows a)),(8,pA c),(9,.p (.int .i64 ((qbj.rows c).length:Int))),(10,pI d)]) (fun(a,d)=>[.tail 156 1 (qbo.rows a).length]) (B:=qbx n c) h (wk [0] [0]) ?_;intro _ st h;obtain⟨a,d⟩:=st;unfold qbx at h;conv=>whnf
 apply ifc h<;>intro _ h
 ·conv=>whnf
  refine bq h fun⟨⟨_,_,⟨_,_,_,_,_,_⟩,_,_⟩,_⟩ g h=>?_;refine⟨_,Codec.at_ qr5 g,?_⟩;conv=>whnf
  refine bq h fun b f h=>?_;refine⟨_,(qzi n _ _ f),?_⟩;conv=>whnf
  refine⟨Codec.one qq0 [b],qbo.rows [b],.inl rfl,?_⟩;conv=>whnf
  rw[show qbo.rows a++qbo.rows [b]=qbo.rows (a++[b])from Codec.append qq0 a [b]];conv=>whnf
  obtain⟨e,h⟩:=qak h;refine⟨⟨Codec.wide qq0 (a++[b]),of_decide_eq_true e,qcb e (by decide)⟩,?_⟩;conv=>whnf
  refine⟨⟨rfl,rfl,rfl⟩,?_⟩;conv=>whnf
  exact⟨((a++[b]),(IntKind.i64.wrap (d+1))),h,wk [2] []⟩
 ·obtain rfl:=sj h
  conv=>whnf
  try exact fin
abbrev q1a (r:qbo):PV:=(PV.ifc (qbo.tid r) (qbo.val r))
def qni (n:Nat) (a:qar):Option (qbo):=
 match a with
 | ⟨⟨b,e,⟨f,g,i,j,k,l⟩,m,c⟩,d⟩=>
 some (qbo.sorted (qar.mk (qaa.mk b e (Val.mk f g i j k l) m c) d))
theorem qzj (n:Nat):∀ (a:qar) (r:qbo),qni n a=some r->qac Tryz.prog 132 [PV.agg (qpi.cells a)] (q1a r):=by
 intro a r h;obtain⟨⟨_,_,⟨_,_,_,_,_,_⟩,_,_⟩,_⟩:=a;unfold qni at h;refine qac.of_vcN mixed (fun _ _=>Tryz.call132 _ _) Tryz.func132 (by kernel_rfl) (inl:=[1000000]) ?_;obtain rfl:=sj h;conv=>whnf
 try exact fin
abbrev qnt (r:List qbo):PV:=PV.sl (qbo.rows r)
def qbz (n:Nat) (c:List qar):(List qbo×Int->Option (List qbo))->List qbo×Int->Option (List qbo):=fun e (a,b)=>
 bif(decide (b<((qar.rows c).length:Int)))then(
 bnd (idx c b) fun⟨⟨l,m,⟨o,p,q,s,f,g⟩,i,j⟩,k⟩=>
 bnd (qni n (qar.mk (qaa.mk l m (Val.mk o p q s f g) i j) k)) fun d=>
 chk (decide ((qbo.rows (a++[d])).length * 16<=140737488355328)) (
 e ((a++[d]),(IntKind.i64.wrap (b+1)))))
 else(
 some a)
def qdp (n:Nat) (a:List qar):Option (List qbo):=
 qan (qbz n a) n (([]:List _),(0:Int))
theorem qmr (n:Nat):∀ (c:List qar) (r:List qbo),qdp n c=some r->qac Tryz.prog 131 [PV.sl (qar.rows c),PV.fn 132] (qnt r):=by
 intro c r h;unfold qdp at h;refine qac.of_vcN mixed (fun _ _=>Tryz.call131 _ _) Tryz.func131 (by kernel_rfl) (inl:=[1000000]) ?_;conv=>whnf
 refine qbl.fn [1000000] (S:=List qbo×Int) (fun(a,d)=>[(1,.p (.fn 132)),(5,.tsl 0 (qbo.rows a)),(8,pO c),(9,.p (.int .i64 ((qar.rows c).length:Int))),(10,pI d)]) (fun(a,d)=>[.tail 156 1 (qbo.rows a).length]) (B:=qbz n c) h (wk [0] [0]) ?_;intro _ st h;obtain⟨a,d⟩:=st;unfold qbz at h;conv=>whnf
 apply ifc h<;>intro _ h
 ·conv=>whnf
  refine bq h fun⟨⟨_,_,⟨_,_,_,_,_,_⟩,_,_⟩,_⟩ g h=>?_;refine⟨_,Codec.at_ qpi g,?_⟩;conv=>whnf
  refine bq h fun b f h=>?_;refine⟨_,(qzj n _ _ f),?_⟩;conv=>whnf
  refine⟨Codec.one qq0 [b],qbo.rows [b],.inl rfl,?_⟩;conv=>whnf
  rw[show qbo.rows a++qbo.rows [b]=qbo.rows (a++[b])from Codec.append qq0 a [b]];conv=>whnf
  obtain⟨e,h⟩:=qak h;refine⟨⟨Codec.wide qq0 (a++[b]),of_decide_eq_true e,qcb e (by decide)⟩,?_⟩;conv=>whnf
  refine⟨⟨rfl,rfl,rfl⟩,?_⟩;conv=>whnf
  exact⟨((a++[b]),(IntKind.i64.wrap (d+1))),h,wk [2] []⟩
 ·obtain rfl:=sj h
  conv=>whnf
  try exact fin
abbrev q1b (r:qbo):PV:=(PV.ifc (qbo.tid r) (qbo.val r))
def qnj (n:Nat) (a:qaa):Option (qbo):=
 match a with
 | ⟨b,d,⟨e,f,g,i,j,k⟩,l,c⟩=>
 some (qbo.expr (qaa.mk b d (Val.mk e f g i j k) l c))
theorem qzk (n:Nat):∀ (a:qaa) (r:qbo),qnj n a=some r->qac Tryz.prog 133 [PV.agg (qcf.cells a)] (q1b r):=by
 intro a r h;obtain⟨_,_,⟨_,_,_,_,_,_⟩,_,_⟩:=a;unfold qnj at h;refine qac.of_vcN mixed (fun _ _=>Tryz.call133 _ _) Tryz.func133 (by kernel_rfl) (inl:=[1000000]) ?_;obtain rfl:=sj h;conv=>whnf
 try exact fin
abbrev qnp (r:List qbo):PV:=PV.sl (qbo.rows r)
def qbv (n:Nat) (c:List qaa):(List qbo×Int->Option (List qbo))->List qbo×Int->Option (List qbo):=fun e (a,b)=>
 bif(decide (b<((qaa.rows c).length:Int)))then(
 bnd (idx c b) fun⟨k,l,⟨m,o,p,q,f,g⟩,i,j⟩=>
 bnd (qnj n (qaa.mk k l (Val.mk m o p q f g) i j)) fun d=>
 chk (decide ((qbo.rows (a++[d])).length * 16<=140737488355328)) (
 e ((a++[d]),(IntKind.i64.wrap (b+1)))))
 else(
 some a)
def qdl (n:Nat) (a:List qaa):Option (List qbo):=
 qan (qbv n a) n (([]:List _),(0:Int))
theorem qmn (n:Nat):∀ (c:List qaa) (r:List qbo),qdl n c=some r->qac Tryz.prog 127 [PV.sl (qaa.rows c),PV.fn 133] (qnp r):=by
 intro c r h;unfold qdl at h;refine qac.of_vcN mixed (fun _ _=>Tryz.call127 _ _) Tryz.func127 (by kernel_rfl) (inl:=[1000000]) ?_;conv=>whnf
 refine qbl.fn [1000000] (S:=List qbo×Int) (fun(a,d)=>[(1,.p (.fn 133)),(5,.tsl 0 (qbo.rows a)),(8,pE c),(9,.p (.int .i64 ((qaa.rows c).length:Int))),(10,pI d)]) (fun(a,d)=>[.tail 156 1 (qbo.rows a).length]) (B:=qbv n c) h (wk [0] [0]) ?_;intro _ st h;obtain⟨a,d⟩:=st;unfold qbv at h;conv=>whnf
 apply ifc h<;>intro _ h
 ·conv=>whnf
  refine bq h fun⟨_,_,⟨_,_,_,_,_,_⟩,_,_⟩ g h=>?_;refine⟨_,Codec.at_ qcf g,?_⟩;conv=>whnf
  refine bq h fun b f h=>?_;refine⟨_,(qzk n _ _ f),?_⟩;conv=>whnf
  refine⟨Codec.one qq0 [b],qbo.rows [b],.inl rfl,?_⟩;conv=>whnf
  rw[show qbo.rows a++qbo.rows [b]=qbo.rows (a++[b])from Codec.append qq0 a [b]];conv=>whnf
  obtain⟨e,h⟩:=qak h;refine⟨⟨Codec.wide qq0 (a++[b]),of_decide_eq_true e,qcb e (by decide)⟩,?_⟩;conv=>whnf
  refine⟨⟨rfl,rfl,rfl⟩,?_⟩;conv=>whnf
  exact⟨((a++[b]),(IntKind.i64.wrap (d+1))),h,wk [2] []⟩
 ·obtain rfl:=sj h
  conv=>whnf
  try exact fin
abbrev q1c (r:qbo):PV:=(PV.ifc (qbo.tid r) (qbo.val r))
def qnk (n:Nat) (a:qaa):Option (qbo):=
 match a with
 | ⟨b,d,⟨e,f,g,i,j,k⟩,l,c⟩=>
 some (qbo.expr (qaa.mk b d (Val.mk e f g i j k) l c))
theorem qzl (n:Nat):∀ (a:qaa) (r:qbo),qnk n a=some r->qac Tryz.prog 134 [PV.agg (qcf.cells a)] (q1c r):=by
 intro a r h;obtain⟨_,_,⟨_,_,_,_,_,_⟩,_,_⟩:=a;unfold qnk at h;refine qac.of_vcN mixed (fun _ _=>Tryz.call134 _ _) Tryz.func134 (by kernel_rfl) (inl:=[1000000]) ?_;obtain rfl:=sj h;conv=>whnf
 try exact fin
abbrev qnq (r:List qbo):PV:=PV.sl (qbo.rows r)
def qbw (n:Nat) (c:List qaa):(List qbo×Int->Option (List qbo))->List qbo×Int->Option (List qbo):=fun e (a,b)=>
 bif(decide (b<((qaa.rows c).length:Int)))then(
 bnd (idx c b) fun⟨k,l,⟨m,o,p,q,f,g⟩,i,j⟩=>
 bnd (qnk n (qaa.mk k l (Val.mk m o p q f g) i j)) fun d=>
 chk (decide ((qbo.rows (a++[d])).length * 16<=140737488355328)) (
 e ((a++[d]),(IntKind.i64.wrap (b+1)))))
 else(
 some a)
def qdm (n:Nat) (a:List qaa):Option (List qbo):=
 qan (qbw n a) n (([]:List _),(0:Int))
theorem qmo (n:Nat):∀ (c:List qaa) (r:List qbo),qdm n c=some r->qac Tryz.prog 127 [PV.sl (qaa.rows c),PV.fn 134] (qnq r):=by
 intro c r h;unfold qdm at h;refine qac.of_vcN mixed (fun _ _=>Tryz.call127 _ _) Tryz.func127 (by kernel_rfl) (inl:=[1000000]) ?_;conv=>whnf
 refine qbl.fn [1000000] (S:=List qbo×Int) (fun(a,d)=>[(1,.p (.fn 134)),(5,.tsl 0 (qbo.rows a)),(8,pE c),(9,.p (.int .i64 ((qaa.rows c).length:Int))),(10,pI d)]) (fun(a,d)=>[.tail 156 1 (qbo.rows a).length]) (B:=qbw n c) h (wk [0] [0]) ?_;intro _ st h;obtain⟨a,d⟩:=st;unfold qbw at h;conv=>whnf
 apply ifc h<;>intro _ h
 ·conv=>whnf
  refine bq h fun⟨_,_,⟨_,_,_,_,_,_⟩,_,_⟩ g h=>?_;refine⟨_,Codec.at_ qcf g,?_⟩;conv=>whnf
  refine bq h fun b f h=>?_;refine⟨_,(qzl n _ _ f),?_⟩;conv=>whnf
  refine⟨Codec.one qq0 [b],qbo.rows [b],.inl rfl,?_⟩;conv=>whnf
  rw[show qbo.rows a++qbo.rows [b]=qbo.rows (a++[b])from Codec.append qq0 a [b]];conv=>whnf
  obtain⟨e,h⟩:=qak h;refine⟨⟨Codec.wide qq0 (a++[b]),of_decide_eq_true e,qcb e (by decide)⟩,?_⟩;conv=>whnf
  refine⟨⟨rfl,rfl,rfl⟩,?_⟩;conv=>whnf
  exact⟨((a++[b]),(IntKind.i64.wrap (d+1))),h,wk [2] []⟩
 ·obtain rfl:=sj h
  conv=>whnf
  try exact fin
abbrev q1d (r:qbo):PV:=(PV.ifc (qbo.tid r) (qbo.val r))
def qnl (n:Nat) (a:SS):Option (qbo):=
 some (qbo.name a)
theorem qzm (n:Nat):∀ (a:SS) (r:qbo),qnl n a=some r->qac Tryz.prog 136 [PV.str a] (q1d r):=by
 intro a r h;unfold qnl at h;refine qac.of_vcN mixed (fun _ _=>Tryz.call136 _ _) Tryz.func136 (by kernel_rfl) (inl:=[1000000]) ?_;obtain rfl:=sj h;conv=>whnf
 try exact fin
abbrev qob (r:List qbo):PV:=PV.sl (qbo.rows r)
def qb4 (n:Nat) (c:List SS):(List qbo×Int->Option (List qbo))->List qbo×Int->Option (List qbo):=fun e (a,b)=>
 bif(decide (b<((qai c).length:Int)))then(
 bnd (idx c b) fun f=>
 bnd (qnl n f) fun d=>
 chk (decide ((qbo.rows (a++[d])).length * 16<=140737488355328)) (
 e ((a++[d]),(IntKind.i64.wrap (b+1)))))
 else(
 some a)
def qdz (n:Nat) (a:List SS):Option (List qbo):=
 qan (qb4 n a) n (([]:List _),(0:Int))
theorem qnw (n:Nat):∀ (c:List SS) (r:List qbo),qdz n c=some r->qac Tryz.prog 135 [PV.sl (qai c),PV.fn 136] (qob r):=by
 intro c r h;unfold qdz at h;refine qac.of_vcN mixed (fun _ _=>Tryz.call135 _ _) Tryz.func135 (by kernel_rfl) (inl:=[1000000]) ?_;conv=>whnf
 refine qbl.fn [1000000] (S:=List qbo×Int) (fun(a,d)=>[(1,.p (.fn 136)),(5,.tsl 0 (qbo.rows a)),(8,pT c),(9,.p (.int .i64 ((qai c).length:Int))),(10,pI d)]) (fun(a,d)=>[.tail 156 1 (qbo.rows a).length]) (B:=qb4 n c) h (wk [0] [0]) ?_;intro _ st h;obtain⟨a,d⟩:=st;unfold qb4 at h;conv=>whnf
 apply ifc h<;>intro _ h
 ·conv=>whnf
  refine bq h fun _ g h=>?_;refine⟨_,Codec.at_ qpl g,?_⟩;conv=>whnf
  refine bq h fun b f h=>?_;refine⟨_,(qzm n _ _ f),?_⟩;conv=>whnf
  refine⟨Codec.one qq0 [b],qbo.rows [b],.inl rfl,?_⟩;conv=>whnf
  rw[show qbo.rows a++qbo.rows [b]=qbo.rows (a++[b])from Codec.append qq0 a [b]];conv=>whnf
  obtain⟨e,h⟩:=qak h;refine⟨⟨Codec.wide qq0 (a++[b]),of_decide_eq_true e,qcb e (by decide)⟩,?_⟩;conv=>whnf
  refine⟨⟨rfl,rfl,rfl⟩,?_⟩;conv=>whnf
  exact⟨((a++[b]),(IntKind.i64.wrap (d+1))),h,wk [1] []⟩
 ·obtain rfl:=sj h
  conv=>whnf
  try exact fin
abbrev q1e (_:Int) (_:List qa6) (_:List qaa) (_:Int) (_:SS) (_:Int) (_:Bool) (_:Int) (_:SS) (_:List Val) (_ _:List SS) (_:List qaa) (_:SS) (_:List qbj) (_:Bool) (_:List qar) (_ _:List qaa) (_:List qaf) (_:List SS) (_:Bool) (r:qbo):FV:=.p ((PV.ifc (qbo.tid r) (qbo.val r)))
abbrev q03 (a:Int) (b:List qa6) (c:List qaa) (d:Int) (e:SS) (f:Int) (g:Bool) (i:Int) (j:SS) (k:List Val) (l m:List SS) (o:List qaa) (p:SS) (q:List qbj) (s:Bool) (t:List qar) (u v:List qaa) (w:List qaf) (x:List SS) (y:Bool) (r:qbo):List AObj:=[.box 51 [pI a,pP b,pE c,pI d,pS e,pI f,pB g,pI i,pS j,pV k,pT l,pT m,pE o,pS p,pA q,pB s,pO t,pE u,pE v,pU w,pT x,pB y]]
def qnm (n:Nat) (a:qaf) (g:Int) (_:List qa6) (_:List qaa) (_:Int) (_:SS) (_:Int) (_:Bool) (_:Int) (_:SS) (_:List Val) (_ _:List SS) (_:List qaa) (_:SS) (_:List qbj) (_:Bool) (_:List qar) (_ _:List qaa) (_:List qaf) (_:List SS) (_:Bool):Option (qbo):=
 match a with
 | ⟨b,i,j,⟨k,l,⟨m,o,p,q,c,d⟩,e,f⟩⟩=>
 some (qbo.change (qtz.mk (qaf.mk b i j (qaa.mk k l (Val.mk m o p q c d) e f)) (g==6)))
theorem qzn (n:Nat):∀ (B:qaf) (a:Int) (b:List qa6) (c:List qaa) (d:Int) (e:SS) (f:Int) (g:Bool) (i:Int) (j:SS) (k:List Val) (l m:List SS) (o:List qaa) (q:SS) (s:List qbj) (t:Bool) (u:List qar) (w x:List qaa) (y:List qaf) (z:List SS) (A:Bool) (r:qbo),qnm n B a b c d e f g i j k l m o q s t u w x y z A=some r->qay Tryz.prog 138 [.p (PV.agg (qjb.cells B)),.ptr 0 0] [.box 51 [pI a,pP b,pE c,pI d,pS e,pI f,pB g,pI i,pS j,pV k,pT l,pT m,pE o,pS q,pA s,pB t,pO u,pE w,pE x,pU y,pT z,pB A]] 1 (fun v lo=>v=q1e a b c d e f g i j k l m o q s t u w x y z A r/\lo=q03 a b c d e f g i j k l m o q s t u w x y z A r):=by
 intro B a b c d e f g i j k l m o q s t u w x y z A r h;obtain⟨_,_,_,⟨_,_,⟨_,_,_,_,_,_⟩,_,_⟩⟩:=B;unfold qnm at h;refine qay.of_vc mixed (fun _ _=>Tryz.call138 _ _) Tryz.func138 (by kernel_rfl) (inl:=[1000000]) (Nat.le_of_ble_eq_true rfl) ?_;obtain rfl:=sj h;conv=>whnf
 refine⟨_,_,⟨rfl,rfl⟩,wk [0] []⟩
abbrev qlw (_:Int) (_:List qa6) (_:List qaa) (_:Int) (_:SS) (_:Int) (_:Bool) (_:Int) (_:SS) (_:List Val) (_ _:List SS) (_:List qaa) (_:SS) (_:List qbj) (_:Bool) (_:List qar) (_ _:List qaa) (_:List qaf) (_:List SS) (_:Bool) (r:(List qbo)):FV:=.p (.sl (qbo.rows r))
abbrev qlv (l:Int) (s:List qa6) (t:List qaa) (u:Int) (v:SS) (w:Int) (x:Bool) (y:Int) (a:SS) (b:List Val) (c d:List SS) (e:List qaa) (f:SS) (g:List qbj) (i:Bool) (j:List qar) (k m:List qaa) (o:List qaf) (p:List SS) (q:Bool) (r:(List qbo)):List AObj:=[.box 51 [pI l,pP s,pE t,pI u,pS v,pI w,pB x,pI y,pS a,pV b,pT c,pT d,pE e,pS f,pA g,pB i,pO j,pE k,pE m,pU o,pT p,pB q]]
def qbm (n:Nat) (c:List qaf) (s:Int) (B:List qa6) (L:List qaa) (M:Int) (N:SS) (O:Int) (P:Bool) (Q:Int) (f:SS) (g:List Val) (i j:List SS) (k:List qaa) (l:SS) (m:List qbj) (o:Bool) (p:List qar) (q t:List qaa) (u:List qaf) (v:List SS) (w:Bool):(List qbo×Int->Option ((List qbo)))->List qbo×Int->Option ((List qbo)):=fun e (a,b)=>
 bif(decide (b<((qaf.rows c).length:Int)))then(
 bnd (idx c b) fun⟨x,y,z,⟨A,C,⟨D,E,F,G,H,I⟩,J,K⟩⟩=>
 bnd (qnm n (qaf.mk x y z (qaa.mk A C (Val.mk D E F G H I) J K)) s B L M N O P Q f g i j k l m o p q t u v w) fun d=>
 chk (decide ((qbo.rows (a++[d])).length * 16<=140737488355328)) (
 e ((a++[d]),(IntKind.i64.wrap (b+1)))))
 else(
 some a)
def qc9 (n:Nat) (a:List qaf) (m:Int) (t:List qa6) (u:List qaa) (v:Int) (w:SS) (x:Int) (y:Bool) (z:Int) (b:SS) (c:List Val) (d e:List SS) (f:List qaa) (g:SS) (i:List qbj) (j:Bool) (k:List qar) (l o:List qaa) (p:List qaf) (q:List SS) (s:Bool):Option ((List qbo)):=
 qan (qbm n a m t u v w x y z b c d e f g i j k l o p q s) n (([]:List _),(0:Int))
theorem qk6 (n:Nat):∀ (E:List qaf) (o:Int) (w:List qa6) (x:List qaa) (y:Int) (z:SS) (A:Int) (C:Bool) (D:Int) (c:SS) (d:List Val) (e f:List SS) (g:List qaa) (i:SS) (j:List qbj) (k:Bool) (l:List qar) (m q:List qaa) (s:List qaf) (t:List SS) (u:Bool) (r:(List qbo)),qc9 n E o w x y z A C D c d e f g i j k l m q s t u=some r->qay Tryz.prog 137 [.p (PV.sl (qaf.rows E)),.clo 138 (.cap (.ptr 0 0) (.cap0))] [.box 51 [pI o,pP w,pE x,pI y,pS z,pI A,pB C,pI D,pS c,pV d,pT e,pT f,pE g,pS i,pA j,pB k,pO l,pE m,pE q,pU s,pT t,pB u]] 1 (fun v lo=>v=qlw o w x y z A C D c d e f g i j k l m q s t u r/\lo=qlv o w x y z A C D c d e f g i j k l m q s t u r):=by
 intro E o w x y z A C D c d e f g i j k l m q s t u r h;unfold qc9 at h;refine qay.of_vc mixed (fun _ _=>Tryz.call137 _ _) Tryz.func137 (by kernel_rfl) (inl:=[20000015,1000000]) (Nat.le_of_ble_eq_true rfl) ?_;conv=>whnf
 refine qbl.fn [20000015,1000000] (S:=List qbo×Int) (fun(a,F)=>[(1,.clo 138 (.cap (.ptr 0 0) (.cap0))),(5,.tsl 1 (qbo.rows a)),(8,pU E),(9,.p (.int .i64 ((qaf.rows E).length:Int))),(10,pI F)]) (fun(a,F)=>[.box 51 [pI o,pP w,pE x,pI y,pS z,pI A,pB C,pI D,pS c,pV d,pT e,pT f,pE g,pS i,pA j,pB k,pO l,pE m,pE q,pU s,pT t,pB u],.tail 156 1 (qbo.rows a).length]) (B:=qbm n E o w x y z A C D c d e f g i j k l m q s t u) h (wk [0,0] [1]) ?_;intro _ st h;obtain⟨a,F⟩:=st;unfold qbm at h;conv=>whnf
 apply ifc h<;>intro _ h
 ·conv=>whnf
  refine bq h fun⟨J,K,L,⟨M,N,⟨O,P,Q,R,T,U⟩,V,W⟩⟩ I h=>?_;refine⟨_,Codec.at_ qjb I,?_⟩;conv=>whnf
  refine bq h fun b H h=>?_;refine qcl (qzn n _ _ _ _ _ _ _ _ _ _ _ _ _ _ _ _ _ _ _ _ _ _ _ _ H) [0] [] ?_;rintro _ _ ⟨rfl,rfl⟩;refine⟨.p ((PV.ifc (qbo.tid b) (qbo.val b))),[.box 51 [pI o,pP w,pE x,pI y,pS z,pI A,pB C,pI D,pS c,pV d,pT e,pT f,pE g,pS i,pA j,pB k,pO l,pE m,pE q,pU s,pT t,pB u],.tail 156 1 (qbo.rows a).length,.box 74 [pS J,pS K,pS L,pI M,pS N,pI O,pB P,pI Q,pS R,pV T,pT U,pT V,pE W]],rfl,rfl,?_⟩;conv=>whnf
  refine⟨Codec.one qq0 [b],qbo.rows [b],.inl rfl,?_⟩;conv=>whnf
  rw[show qbo.rows a++qbo.rows [b]=qbo.rows (a++[b])from Codec.append qq0 a [b]];conv=>whnf
  obtain⟨G,h⟩:=qak h;refine⟨⟨Codec.wide qq0 (a++[b]),of_decide_eq_true G,qcb G (by decide)⟩,?_⟩;conv=>whnf
  refine⟨⟨rfl,rfl,rfl⟩,?_⟩;conv=>whnf
  exact⟨((a++[b]),(IntKind.i64.wrap (F+1))),h,wk [0,3] []⟩
 ·obtain rfl:=sj h
  conv=>whnf
  refine⟨_,_,⟨rfl,rfl⟩,wk [0] []⟩
abbrev qrp (r:Bool):PV:=PV.bool r
def qdi (n:Nat) (b d:List SS):(Int->Option (Bool))->Int->Option (Bool):=fun c a=>
 bif(decide (a<((qai b).length:Int)))then(
 bnd (idx b a) fun e=>
 bnd (idx d a) fun f=>
 bif(!(e==f))then(
 some false)
 else(
 c (IntKind.i64.wrap (a+1))))
 else(
 some true)
def qd7 (n:Nat) (a b:List SS):Option (Bool):=
 bif(((qai a).length:Int) != ((qai b).length:Int))then(
 some false)
 else(
 qan (qdi n a b) n (0:Int))
theorem qqs (n:Nat):∀ (a b:List SS) (r:Bool),qd7 n a b=some r->qac Tryz.prog 179 [PV.sl (qai a),PV.sl (qai b)] (qrp r):=by
 intro a b r h;unfold qd7 at h;refine qac.of_vcN mixed (fun _ _=>Tryz.call179 _ _) Tryz.func179 (by kernel_rfl) (inl:=[1000000]) ?_;conv=>whnf
 apply ifc h<;>intro d h
 ·obtain rfl:=sj h
  conv=>whnf
  try exact fin
 ·conv=>whnf
  refine qbl.fn [1000000] (S:=Int) (fun c=>[(0,pT a),(1,pT b),(12,.p (.int .i64 ((qai a).length:Int))),(13,pI c)]) (fun c=>[]) (B:=qdi n a b) h (wk [] []) ?_;intro _ c h;unfold qdi at h;conv=>whnf
  apply ifc h<;>intro d h
  ·conv=>whnf
   refine bq h fun _ f h=>?_;refine⟨_,Codec.at_ qpl f,?_⟩;conv=>whnf
   refine bq h fun _ e h=>?_;refine⟨_,Codec.at_ qpl e,?_⟩;conv=>whnf
   apply ifc h<;>intro d h
   ·obtain rfl:=sj h
    conv=>whnf
    try exact fin
   ·conv=>whnf
    exact⟨(IntKind.i64.wrap (c+1)),h,wk [] []⟩
  ·obtain rfl:=sj h
   conv=>whnf
   try exact fin
abbrev qoc (r:Bool):PV:=PV.bool r
abbrev zrw:Type:=Val->Val->Option (Bool)
def qsc (n:Nat) (g174:zrw) (g180z174:(List Val)->(List Val)->Option (Bool)) (k l:Val):Option (Bool):=
 match k,l with
 | ⟨a,c,d,e,q,s⟩,⟨f,g,i,b,m,o⟩=>
 bnd (qaw (bif(bif(bif(a==f)then(c==g)else false)then(d==i)else false)then(e==b)else false) (qd7 n s o)) fun j=>
 bnd (qaw (bif(bif(bif(bif(a==f)then(c==g)else false)then(d==i)else false)then(e==b)else false)then j else false) (g180z174 q m)) fun p=>
 some (bif(bif(bif(bif(bif(a==f)then(c==g)else false)then(d==i)else false)then(e==b)else false)then j else false)then p else false)
abbrev qa2 (r:Bool):PV:=PV.bool r
def qat (n:Nat) (b l:List Val) (g174:zrw):(Int->Option (Bool))->Int->Option (Bool):=fun c a=>
 bif(decide (a<((Val.rows b).length:Int)))then(
 bnd (idx b a) fun⟨m,o,p,q,s,t⟩=>
 bnd (idx l a) fun⟨d,e,f,g,i,j⟩=>
 bnd (g174 (Val.mk m o p q s t) (Val.mk d e f g i j)) fun k=>
 bif(!k)then(
 some false)
 else(
 c (IntKind.i64.wrap (a+1))))
 else(
 some true)
def qa3 (n:Nat) (g174:zrw) (g180z174:(List Val)->(List Val)->Option (Bool)) (a b:List Val):Option (Bool):=
 bif(((Val.rows a).length:Int) != ((Val.rows b).length:Int))then(
 some false)
 else(
 qan (qat n a b g174) n (0:Int))
theorem q45 (n:Nat) (g174:zrw) (g180z174:(List Val)->(List Val)->Option (Bool)) (g174_ok:∀ (a b:Val) (r:Bool),g174 a b=some r->qac Tryz.prog 174 [PV.agg (quh.cells a),PV.agg (quh.cells b)] (qoc r)) (g180_174_ok:∀ (d e:List Val) (r:Bool),g180z174 d e=some r->qac Tryz.prog 180 [PV.sl (Val.rows d),PV.sl (Val.rows e),PV.fn 174] (qa2 r)):∀ (a b:Val) (r:Bool),qsc n g174 g180z174 a b=some r->qac Tryz.prog 174 [PV.agg (quh.cells a),PV.agg (quh.cells b)] (qoc r):=by
 intro a b r h;obtain⟨d,e,_,_,_,_⟩:=a;obtain⟨_,_,_,_,_,_⟩:=b;unfold qsc at h;refine qac.of_vcN mixed (fun _ _=>Tryz.call174 _ _) Tryz.func174 (by kernel_rfl) (inl:=[1000000]) ?_;conv=>whnf
 iterate 19 refine⟨id,?_⟩
 conv=>whnf
 refine bq h fun _ g h=>?_;refine⟨_,fun c=>(qqs n _ _ _ (qad g c)),?_⟩;conv=>whnf
 refine⟨id,id,id,id,id,?_⟩;conv=>whnf
 refine bq h fun _ f h=>?_;refine⟨_,fun c=>(g180_174_ok _ _ _ (qad f c)),?_⟩;conv=>whnf
 refine⟨id,?_⟩;obtain rfl:=sj h;conv=>whnf
 try exact fin
theorem qej (n:Nat) (g174:zrw) (g180z174:(List Val)->(List Val)->Option (Bool)) (g174_ok:∀ (d e:Val) (r:Bool),g174 d e=some r->qac Tryz.prog 174 [PV.agg (quh.cells d),PV.agg (quh.cells e)] (qoc r)) (g180_174_ok:∀ (a b:List Val) (r:Bool),g180z174 a b=some r->qac Tryz.prog 180 [PV.sl (Val.rows a),PV.sl (Val.rows b),PV.fn 174] (qa2 r)):∀ (a b:List Val) (r:Bool),qa3 n g174 g180z174 a b=some r->qac Tryz.prog 180 [PV.sl (Val.rows a),PV.sl (Val.rows b),PV.fn 174] (qa2 r):=by
 intro a b r h;unfold qa3 at h;refine qac.of_vcN mixed (fun _ _=>Tryz.call180 _ _) Tryz.func180 (by kernel_rfl) (inl:=[1000000]) ?_;conv=>whnf
 apply ifc h<;>intro f h
 ·obtain rfl:=sj h
  conv=>whnf
  try exact fin
 ·conv=>whnf
  refine qbl.fn [1000000] (S:=Int) (fun c=>[(1,pV b),(2,.p (.fn 174)),(15,pV a),(16,.p (.int .i64 ((Val.rows a).length:Int))),(17,pI c)]) (fun c=>[]) (B:=qat n a b g174) h (wk [] []) ?_;intro _ c h;unfold qat at h;conv=>whnf
  apply ifc h<;>intro f h
  ·conv=>whnf
   refine bq h fun⟨_,_,_,_,_,_⟩ j h=>?_;refine⟨_,Codec.at_ quh j,?_⟩;conv=>whnf
   refine bq h fun⟨_,_,_,_,_,_⟩ i h=>?_;refine⟨_,Codec.at_ quh i,?_⟩;conv=>whnf
   refine bq h fun _ g h=>?_;refine⟨_,(g174_ok _ _ _ g),?_⟩;conv=>whnf
   apply ifc h<;>intro f h
   ·obtain rfl:=sj h
    conv=>whnf
    try exact fin
   ·conv=>whnf
    exact⟨(IntKind.i64.wrap (c+1)),h,wk [] []⟩
  ·obtain rfl:=sj h
   conv=>whnf
   try exact fin
mutual
def qhm:Nat->Val->Val->Option (Bool)
 | 0=>fun _ _=>none
 | n+1=>qsc n (qhm n) (qam n)
def qam:Nat->(List Val)->(List Val)->Option (Bool)
 | 0=>fun _ _=>none
 | n+1=>qa3 n (qhm n) (qam n)
end
theorem q5h (n:Nat):(∀ (a b:Val) (r:Bool),qhm n a b=some r->qac Tryz.prog 174 [PV.agg (quh.cells a),PV.agg (quh.cells b)] (qoc r))/\(∀ (c d:List Val) (r:Bool),qam n c d=some r->qac Tryz.prog 180 [PV.sl (Val.rows c),PV.sl (Val.rows d),PV.fn 174] (qa2 r)):=by
 induction n with
 | zero=>exact⟨(by intros; rename_i h; cases h),(by intros; rename_i h; cases h)⟩
 | succ n ih=>
  obtain⟨hg174,hg180_174⟩:=ih;exact⟨q45 n (qhm n) (qam n) hg174 hg180_174,qej n (qhm n) (qam n) hg174 hg180_174⟩
theorem qyc (n:Nat):∀ (a b:Val) (r:Bool),qhm n a b=some r->qac Tryz.prog 174 [PV.agg (quh.cells a),PV.agg (quh.cells b)] (qoc r):=(q5h n).1
abbrev q7p (r:Bool):PV:=PV.bool r
def qi4 (n:Nat) (c:qaa):Option (Bool):=
 match c with
 | ⟨a,b,⟨f,g,i,j,k,l⟩,m,d⟩=>
 bnd (qaw (bif(a==0)then(b==([]:SS))else false) (qhm n (Val.mk f g i j k l) (Val.mk (0:Int) false (0:Int) ([]:SS) ([]:List Val) ([]:List SS)))) fun e=>
 some (bif(bif(bif(bif(a==0)then(b==([]:SS))else false)then e else false)then(((qai m).length:Int)==0)else false)then(((qaa.rows d).length:Int)==0)else false)
theorem qw8 (n:Nat):∀ (a:qaa) (r:Bool),qi4 n a=some r->qac Tryz.prog 160 [PV.agg (qcf.cells a)] (q7p r):=by
 intro a r h;obtain⟨_,_,⟨_,_,_,_,_,_⟩,_,_⟩:=a;unfold qi4 at h;refine qac.of_vcN mixed (fun _ _=>Tryz.call160 _ _) Tryz.func160 (by kernel_rfl) (inl:=[1000000]) ?_;conv=>whnf
 iterate 6 refine⟨id,?_⟩
 conv=>whnf
 refine bq h fun _ b h=>?_;refine⟨_,fun c=>(qac.leArgs (qyc n _ _ _ (qad b c)) (by try exact fin)),?_⟩;conv=>whnf
 iterate 9 refine⟨id,?_⟩
 obtain rfl:=sj h;conv=>whnf
 try exact fin
abbrev q7o (r:Bool):PV:=PV.bool r
def qd8 (n:Nat) (f g:qab):Option (Bool):=
 match f,g with
 | ⟨_,a,e,⟨B,I,⟨J,K,L,M,i,j⟩,k,l⟩,m,o,p,q,s,t,u,v,w⟩,⟨_,b,c,⟨d,_,⟨_,_,_,_,_,_⟩,_,_⟩,x,y,z,A,C,D,E,F,G⟩=>
 bnd (qaw ((bif(((qa6.rows a).length:Int)==((qa6.rows b).length:Int))then(((qaa.rows e).length:Int)==((qaa.rows c).length:Int))else false)&&(!(d != 0))) (qi4 n (qaa.mk B I (Val.mk J K L M i j) k l))) fun H=>
 some (bif(bif(bif(bif(bif(bif(bif(bif(bif(bif(bif(((qa6.rows a).length:Int)==((qa6.rows b).length:Int))then(((qaa.rows e).length:Int)==((qaa.rows c).length:Int))else false)then(bif(d != 0)then true else H)else false)then(m==x)else false)then(((qbj.rows o).length:Int)==((qbj.rows y).length:Int))else false)then(p==z)else false)then(((qar.rows q).length:Int)==((qar.rows A).length:Int))else false)then(((qaa.rows s).length:Int)==((qaa.rows C).length:Int))else false)then(((qaa.rows t).length:Int)==((qaa.rows D).length:Int))else false)then(((qaf.rows u).length:Int)==((qaf.rows E).length:Int))else false)then(((qai v).length:Int)==((qai F).length:Int))else false)then(w==G)else false)
set_option maxHeartbeats 4000000 in
theorem qft (n:Nat):∀ (a b:qab) (r:Bool),qd8 n a b=some r->qac Tryz.prog 139 [PV.agg (qda.cells a),PV.agg (qda.cells b)] (q7o r):=by
 intro a b r h;obtain⟨_,_,_,⟨_,_,⟨_,_,_,_,_,_⟩,_,_⟩,_,_,_,_,_,_,_,_,_⟩:=a;obtain⟨_,_,_,⟨_,_,⟨_,_,_,_,_,_⟩,_,_⟩,_,_,_,_,_,_,_,_,_⟩:=b;unfold qd8 at h;refine qac.of_vcN mixed (fun _ _=>Tryz.call139 _ _) Tryz.func139 (by kernel_rfl) (inl:=[1000000]) ?_;conv=>whnf
 iterate 13 refine⟨id,?_⟩
 conv=>whnf
 refine bq h fun _ c h=>?_;refine⟨_,fun d=>(qw8 n _ _ (qad c d)),?_⟩;conv=>whnf
 iterate 60 refine⟨id,?_⟩
 obtain rfl:=sj h;conv=>whnf
 try exact fin
abbrev q5y (r:List qba×Bool):PV:=PV.tup [PV.sl (qba.rows r.1),PV.bool r.2]
def qhv (n:Nat) (a:Int) (m:List qa6) (s:List qaa) (w:Int) (x:SS) (y:Int) (z:Bool) (A:Int) (B:SS) (g:List Val) (i j:List SS) (k:List qaa) (l:SS) (b:List qbj) (c:Bool) (d:List qar) (e f:List qaa) (o:List qaf) (p:List SS) (q:Bool):List qba×List qaa->Option (List qba×Bool):=fun(t,u)=>
 bnd (qd8 n (qab.mk a m s (qaa.mk w x (Val.mk y z A B g i) j k) l b c d e f o p q) (qab.mk a ([]:List qa6) u (qaa.mk (0:Int) ([]:SS) (Val.mk (0:Int) false (0:Int) ([]:SS) ([]:List Val) ([]:List SS)) ([]:List SS) ([]:List qaa)) ([]:SS) b c d e f ([]:List qaf) ([]:List SS) false)) fun v=>
 some (t,v)
def qi5 (n:Nat) (a:Int) (o:List qa6) (s:List qaa) (u:Int) (x:SS) (y:Int) (z:Bool) (A:Int) (B:SS) (c:List Val) (d e:List SS) (f:List qaa) (g:SS) (i:List qbj) (j:Bool) (k:List qar) (l m:List qaa) (b:List qaf) (p:List SS) (q:Bool) (t:List qbo):SS->Option (List qba×Bool):=fun v=>
 bnd (qd8 n (qab.mk a o s (qaa.mk u x (Val.mk y z A B c d) e f) g i j k l m b p q) (qab.mk a ([]:List qa6) ([]:List qaa) (qaa.mk (0:Int) ([]:SS) (Val.mk (0:Int) false (0:Int) ([]:SS) ([]:List Val) ([]:List SS)) ([]:List SS) ([]:List qaa)) ([]:SS) ([]:List qbj) false ([]:List qar) ([]:List qaa) ([]:List qaa) b ([]:List SS) false)) fun w=>
 some ([qba.mk v t (1:Int) (1048576:Int)],w)
def qi6 (n:Nat) (a:Int) (p:List qa6) (t:List qaa) (u:Int) (w:SS) (y:Int) (z:Bool) (A:Int) (B:SS) (d:List Val) (e f:List SS) (g:List qaa) (i:SS) (j:List qbj) (k:Bool) (l:List qar) (m o:List qaa) (q:List qaf) (b:List SS) (c:Bool) (s:List qbo):SS->Option (List qba×Bool):=fun v=>
 bnd (qd8 n (qab.mk a p t (qaa.mk u w (Val.mk y z A B d e) f g) i j k l m o q b c) (qab.mk a ([]:List qa6) ([]:List qaa) (qaa.mk (0:Int) ([]:SS) (Val.mk (0:Int) false (0:Int) ([]:SS) ([]:List Val) ([]:List SS)) ([]:List SS) ([]:List qaa)) ([]:SS) ([]:List qbj) false ([]:List qar) ([]:List qaa) ([]:List qaa) ([]:List qaf) b c)) fun x=>
 some ([qba.mk v s (1:Int) (1048576:Int)],x)
def qke (n:Nat) (a:Int) (o:List qa6) (s:List qaa) (t:Int) (u:SS) (v:Int) (w:Bool) (x:Int) (y:SS) (c:List Val) (d e:List SS) (f:List qaa) (g:SS) (i:List qbj) (j:Bool) (k:List qar) (l m:List qaa) (p:List qaf) (q:List SS) (b:Bool) (A z:List qbo):Bool->Option (List qba×Bool):=fun B=>
 bif B then(
 bif(a==7)then(
 qi5 n a o s t u v w x y c d e f g i j k l m p q b A ([82,69,77,79,86,69,32]:SS))
 else(
 qi5 n a o s t u v w x y c d e f g i j k l m p q b A ([83,69,84,32]:SS)))
 else(
 bif(a==8)then(
 bif b then(
 qi6 n a o s t u v w x y c d e f g i j k l m p q b z ([68,69,84,65,67,72,32,68,69,76,69,84,69,32]:SS))
 else(
 qi6 n a o s t u v w x y c d e f g i j k l m p q b z ([68,69,76,69,84,69,32]:SS)))
 else(
 bnd (qd8 n (qab.mk a o s (qaa.mk t u (Val.mk v w x y c d) e f) g i j k l m p q b) (qab.mk a ([]:List qa6) ([]:List qaa) (qaa.mk (0:Int) ([]:SS) (Val.mk (0:Int) false (0:Int) ([]:SS) ([]:List Val) ([]:List SS)) ([]:List SS) ([]:List qaa)) ([]:SS) ([]:List qbj) false ([]:List qar) ([]:List qaa) ([]:List qaa) ([]:List qaf) ([]:List SS) false)) fun C=>
 some (([]:List qba),C)))
def qhu (n:Nat) (c:SS) (u v:List qbo) (w x:List qbo) (a:Int) (F:List qbo) (b:List qa6) (d:List qaa) (y:Int) (z:SS) (A:Int) (B:Bool) (C:Int) (D:SS) (e:List Val) (f g:List SS) (i:List qaa) (j:SS) (k:List qbj) (l:Bool) (m:List qar) (o p:List qaa) (q:List qaf) (s:List SS) (t:Bool) (E H G:List qbo):Bool->Option (List qba×Bool):=fun L=>
 bif L then(
 chk (decide (((([82,69,84,85,82,78,32]:SS).length+c.length:Nat):Int)<=qtu)) (
 chk (decide ((qba.rows ([qba.mk (([82,69,84,85,82,78,32]:SS)++c) u (1:Int) (1048576:Int)]++[qba.mk ([32,79,82,68,69,82,32,66,89,32]:SS) v (0:Int) (1048576:Int),qba.mk ([32,83,75,73,80,32]:SS) w (0:Int) (1:Int),qba.mk ([32,76,73,77,73,84,32]:SS) x (0:Int) (1:Int)])).length * 56<=140737488355328)) (
 bif(a==3)then(
 chk (decide (((([87,73,84,72,32]:SS).length+c.length:Nat):Int)<=qtu)) (
 chk (decide (0<(qba.rows ([qba.mk (([82,69,84,85,82,78,32]:SS)++c) u (1:Int) (1048576:Int)]++[qba.mk ([32,79,82,68,69,82,32,66,89,32]:SS) v (0:Int) (1048576:Int),qba.mk ([32,83,75,73,80,32]:SS) w (0:Int) (1:Int),qba.mk ([32,76,73,77,73,84,32]:SS) x (0:Int) (1:Int)])).length)) (
 bnd (([qba.mk (([82,69,84,85,82,78,32]:SS)++c) u (1:Int) (1048576:Int)]++[qba.mk ([32,79,82,68,69,82,32,66,89,32]:SS) v (0:Int) (1048576:Int),qba.mk ([32,83,75,73,80,32]:SS) w (0:Int) (1:Int),qba.mk ([32,76,73,77,73,84,32]:SS) x (0:Int) (1:Int)])[0]?) fun⟨_,I,J,K⟩=>
 chk (decide ((qba.rows ((([qba.mk (([82,69,84,85,82,78,32]:SS)++c) u (1:Int) (1048576:Int)]++[qba.mk ([32,79,82,68,69,82,32,66,89,32]:SS) v (0:Int) (1048576:Int),qba.mk ([32,83,75,73,80,32]:SS) w (0:Int) (1:Int),qba.mk ([32,76,73,77,73,84,32]:SS) x (0:Int) (1:Int)]).set 0 (qba.mk (([87,73,84,72,32]:SS)++c) I J K))++[qba.mk ([32,87,72,69,82,69,32]:SS) F (0:Int) (1:Int)])).length * 56<=140737488355328)) (
 qhv n a b d y z A B C D e f g i j k l m o p q s t (((([qba.mk (([82,69,84,85,82,78,32]:SS)++c) u (1:Int) (1048576:Int)]++[qba.mk ([32,79,82,68,69,82,32,66,89,32]:SS) v (0:Int) (1048576:Int),qba.mk ([32,83,75,73,80,32]:SS) w (0:Int) (1:Int),qba.mk ([32,76,73,77,73,84,32]:SS) x (0:Int) (1:Int)]).set 0 (qba.mk (([87,73,84,72,32]:SS)++c) I J K))++[qba.mk ([32,87,72,69,82,69,32]:SS) F (0:Int) (1:Int)]),d)))))
 else(
 qhv n a b d y z A B C D e f g i j k l m o p q s t (([qba.mk (([82,69,84,85,82,78,32]:SS)++c) u (1:Int) (1048576:Int)]++[qba.mk ([32,79,82,68,69,82,32,66,89,32]:SS) v (0:Int) (1048576:Int),qba.mk ([32,83,75,73,80,32]:SS) w (0:Int) (1:Int),qba.mk ([32,76,73,77,73,84,32]:SS) x (0:Int) (1:Int)]),([]:List _))))))
 else(
 bif(a==4)then(
 bnd (qd8 n (qab.mk a b d (qaa.mk y z (Val.mk A B C D e f) g i) j k l m o p q s t) (qab.mk a b ([]:List qaa) (qaa.mk (0:Int) ([]:SS) (Val.mk (0:Int) false (0:Int) ([]:SS) ([]:List Val) ([]:List SS)) ([]:List SS) ([]:List qaa)) ([]:SS) ([]:List qbj) false ([]:List qar) ([]:List qaa) ([]:List qaa) ([]:List qaf) ([]:List SS) false)) fun M=>
 some ([qba.mk ([67,82,69,65,84,69,32]:SS) E (1:Int) (1048576:Int)],M))
 else(
 bif(a==5)then(
 bnd (qaw (((qa6.rows b).length:Int)==1) (idx b (0:Int))) fun⟨_,N⟩=>
 bif(bif(((qa6.rows b).length:Int)==1)then(decide (((qag.rows N).length:Int)>0))else false)then(
 some (([]:List qba),false))
 else(
 bnd (qd8 n (qab.mk a b d (qaa.mk y z (Val.mk A B C D e f) g i) j k l m o p q s t) (qab.mk a b ([]:List qaa) (qaa.mk (0:Int) ([]:SS) (Val.mk (0:Int) false (0:Int) ([]:SS) ([]:List Val) ([]:List SS)) ([]:List SS) ([]:List qaa)) ([]:SS) ([]:List qbj) false ([]:List qar) ([]:List qaa) ([]:List qaa) ([]:List qaf) ([]:List SS) false)) fun O=>
 some ([qba.mk ([77,69,82,71,69,32]:SS) E (1:Int) (1:Int)],O)))
 else(
 bif(a==6)then(
 qke n a b d y z A B C D e f g i j k l m o p q s t H G (a==6))
 else(
 qke n a b d y z A B C D e f g i j k l m o p q s t H G (a==7)))))
def qht (n:Nat) (a:Int) (o:List qa6) (p:List qaa) (g:Int) (i:SS) (j:Int) (k:Bool) (l:Int) (m:SS) (b:List Val) (c d:List SS) (e:List qaa) (f:SS) (q:List qbj) (s:Bool) (t:List qar) (u v:List qaa) (w:List qaf) (x:List SS) (y:Bool) (z A:List qbo) (B C:List qbo) (D E:List qbo) (G F:List qbo):SS->Option (List qba×Bool):=fun H=>
 bif(a==1)then(
 bnd (qd8 n (qab.mk a o p (qaa.mk g i (Val.mk j k l m b c) d e) f q s t u v w x y) (qab.mk a o p (qaa.mk (0:Int) ([]:SS) (Val.mk (0:Int) false (0:Int) ([]:SS) ([]:List Val) ([]:List SS)) ([]:List SS) ([]:List qaa)) ([]:SS) ([]:List qbj) false ([]:List qar) ([]:List qaa) ([]:List qaa) ([]:List qaf) ([]:List SS) false)) fun I=>
 some ([qba.mk ([77,65,84,67,72,32]:SS) z (1:Int) (1048576:Int),qba.mk ([32,87,72,69,82,69,32]:SS) A (0:Int) (1:Int)],I))
 else(
 bif(a==2)then(
 bnd (qd8 n (qab.mk a o p (qaa.mk g i (Val.mk j k l m b c) d e) f q s t u v w x y) (qab.mk a ([]:List qa6) ([]:List qaa) (qaa.mk g i (Val.mk j k l m b c) d e) f ([]:List qbj) false ([]:List qar) ([]:List qaa) ([]:List qaa) ([]:List qaf) ([]:List SS) false)) fun J=>
 some ([qba.mk ([85,78,87,73,78,68,32]:SS) [(qbo.expr (qaa.mk g i (Val.mk j k l m b c) d e))] (1:Int) (1:Int),qba.mk ([32,65,83,32]:SS) [(qbo.name f)] (1:Int) (1:Int)],J))
 else(
 bif(a==3)then(
 qhu n H B C D E a A o p g i j k l m b c d e f q s t u v w x y z G F (a==3))
 else(
 qhu n H B C D E a A o p g i j k l m b c d e f q s t u v w x y z G F (a==9))))
def qlq (n:Nat) (H:qab):Option (List qba×Bool):=
 match H with
 | ⟨k,f,j,⟨t,u,⟨v,w,x,y,l,m⟩,o,p⟩,q,a,b,c,d,e,g,i,s⟩=>
 bnd (qdo n f) fun z=>
 bnd (qdk n j) fun A=>
 bnd (qdn n a) fun B=>
 bnd (qdp n c) fun C=>
 bnd (qdl n d) fun D=>
 bnd (qdm n e) fun E=>
 bnd (qdz n i) fun F=>
 bnd (qc9 n g k f j t u v w x y l m o p q a b c d e g i s) fun G=>
 bif b then(
 qht n k f j t u v w x y l m o p q a b c d e g i s z A B C D E G F ([68,73,83,84,73,78,67,84,32]:SS))
 else(
 qht n k f j t u v w x y l m o p q a b c d e g i s z A B C D E G F ([]:SS))
set_option maxHeartbeats 4000000 in
theorem q3o (n:Nat):∀ (M:qab) (r:List qba×Bool),qlq n M=some r->qac Tryz.prog 85 [PV.agg (qda.cells M)] (q5y r):=by
 intro M r h;obtain⟨a,y,q,⟨i,j,⟨k,l,m,o,b,c⟩,d,e⟩,f,t,u,v,w,x,z,A,B⟩:=M;unfold qlq at h;refine qac.of_vcN mixed (fun _ _=>Tryz.call85 _ _) Tryz.func85 (by kernel_rfl) (inl:=[137,10000092,40000015,40000017,40000024,40000025,40000043,50000064,50000083,50000120,50000121,50000122,50000123,50000179,60003002,60007006,1000000]) ?_;conv=>whnf
 refine bq h fun H b2 h=>?_;refine⟨_,(qmq n _ _ b2),?_⟩;conv=>whnf
 refine bq h fun C b1 h=>?_;refine⟨_,(qmm n _ _ b1),?_⟩;conv=>whnf
 refine bq h fun D b0 h=>?_;refine⟨_,(qmp n _ _ b0),?_⟩;conv=>whnf
 refine bq h fun E a9 h=>?_;refine⟨_,(qmr n _ _ a9),?_⟩;conv=>whnf
 refine bq h fun F a7 h=>?_;refine⟨_,(qmn n _ _ a7),?_⟩;conv=>whnf
 refine bq h fun G a6 h=>?_;refine⟨_,(qmo n _ _ a6),?_⟩;conv=>whnf
 refine⟨Codec.one qsa [qba.mk ([32,79,82,68,69,82,32,66,89,32]:SS) E (0:Int) (1048576:Int),qba.mk ([32,83,75,73,80,32]:SS) F (0:Int) (1:Int),qba.mk ([32,76,73,77,73,84,32]:SS) G (0:Int) (1:Int)],qba.rows [qba.mk ([32,79,82,68,69,82,32,66,89,32]:SS) E (0:Int) (1048576:Int),qba.mk ([32,83,75,73,80,32]:SS) F (0:Int) (1:Int),qba.mk ([32,76,73,77,73,84,32]:SS) G (0:Int) (1:Int)],.inl rfl,?_⟩;conv=>whnf
 refine bq h fun I a5 h=>?_;refine⟨_,(qnw n _ _ a5),?_⟩;conv=>whnf
 refine bq h fun J X h=>?_;refine qcl (qk6 n _ _ _ _ _ _ _ _ _ _ _ _ _ _ _ _ _ _ _ _ _ _ _ _ X) [0] [] ?_;rintro _ _ ⟨rfl,rfl⟩;refine⟨.p (.sl (qbo.rows J)),[.box 51 [pI a,pP y,pE q,pI i,pS j,pI k,pB l,pI m,pS o,pV b,pT c,pT d,pE e,pS f,pA t,pB u,pO v,pE w,pE x,pU z,pT A,pB B],.box 154 [zq1,.p (.sl (qbo.rows H)),.p (.int .i64 (1:Int)),.p (.int .i64 (1048576:Int))],.box 154 [.p (.str ([32,87,72,69,82,69,32]:SS)),.p (.sl (qbo.rows C)),zq0,.p (.int .i64 (1:Int))],.box 154 [zq1,.p (.sl (qbo.rows D)),.p (.int .i64 (1:Int)),.p (.int .i64 (1048576:Int))],.box 154 [.p (.str ([68,69,76,69,84,69,32]:SS)),.p (.sl (qbo.rows I)),.p (.int .i64 (1:Int)),.p (.int .i64 (1048576:Int))]],rfl,rfl,?_⟩;conv=>whnf
 refine qh6.cut (S:=SS) (fun g=>[(1,.ptr 0 0),(4,.ptr 1 0),(5,.ptr 2 0),(6,.ptr 3 0),(7,.p (.sl (qba.rows [qba.mk ([32,79,82,68,69,82,32,66,89,32]:SS) E (0:Int) (1048576:Int),qba.mk ([32,83,75,73,80,32]:SS) F (0:Int) (1:Int),qba.mk ([32,76,73,77,73,84,32]:SS) G (0:Int) (1:Int)]))),(8,.ptr 4 0),(9,.ptr 5 0),(10,pS g)]) (fun g=>[.box 51 [pI a,pP y,pE q,pI i,pS j,pI k,pB l,pI m,pS o,pV b,pT c,pT d,pE e,pS f,pA t,pB u,pO v,pE w,pE x,pU z,pT A,pB B],.box 154 [zq1,.p (.sl (qbo.rows H)),.p (.int .i64 (1:Int)),.p (.int .i64 (1048576:Int))],.box 154 [.p (.str ([32,87,72,69,82,69,32]:SS)),.p (.sl (qbo.rows C)),zq0,.p (.int .i64 (1:Int))],.box 154 [zq1,.p (.sl (qbo.rows D)),.p (.int .i64 (1:Int)),.p (.int .i64 (1048576:Int))],.box 154 [.p (.str ([68,69,76,69,84,69,32]:SS)),.p (.sl (qbo.rows I)),.p (.int .i64 (1:Int)),.p (.int .i64 (1048576:Int))],.box 154 [zq1,.p (.sl (qbo.rows J)),.p (.int .i64 (1:Int)),.p (.int .i64 (1048576:Int))]]) (qht n a y q i j k l m o b c d e f t u v w x z A B H C D E F G J I) (r:=r) ?_ ?_
 ·intro g h
  unfold qht at h;conv=>whnf
  refine qh6.go ?_;conv=>whnf
  apply ifc h<;>intro s h
  ·conv=>whnf
   refine⟨Codec.one qsa [qba.mk ([77,65,84,67,72,32]:SS) H (1:Int) (1048576:Int),qba.mk ([32,87,72,69,82,69,32]:SS) C (0:Int) (1:Int)],qba.rows [qba.mk ([77,65,84,67,72,32]:SS) H (1:Int) (1048576:Int),qba.mk ([32,87,72,69,82,69,32]:SS) C (0:Int) (1:Int)],.inl rfl,?_⟩;conv=>whnf
   refine bq h fun _ a8 h=>?_;refine⟨_,(qac.leArgs (qft n _ _ _ a8) (by try exact fin)),?_⟩;obtain rfl:=sj h;conv=>whnf
   try exact fin
  ·conv=>whnf
   apply ifc h<;>intro s h
   ·conv=>whnf
    refine⟨Codec.one qq0 [(qbo.expr (qaa.mk i j (Val.mk k l m o b c) d e))],qbo.rows [(qbo.expr (qaa.mk i j (Val.mk k l m o b c) d e))],.inl rfl,?_⟩;conv=>whnf
    refine⟨Codec.one qq0 [(qbo.name f)],qbo.rows [(qbo.name f)],.inl rfl,?_⟩;conv=>whnf
    refine⟨Codec.one qsa [qba.mk ([85,78,87,73,78,68,32]:SS) [(qbo.expr (qaa.mk i j (Val.mk k l m o b c) d e))] (1:Int) (1:Int),qba.mk ([32,65,83,32]:SS) [(qbo.name f)] (1:Int) (1:Int)],qba.rows [qba.mk ([85,78,87,73,78,68,32]:SS) [(qbo.expr (qaa.mk i j (Val.mk k l m o b c) d e))] (1:Int) (1:Int),qba.mk ([32,65,83,32]:SS) [(qbo.name f)] (1:Int) (1:Int)],.inl rfl,?_⟩;conv=>whnf
    refine bq h fun _ b3 h=>?_;refine⟨_,(qac.leArgs (qft n _ _ _ b3) (by try exact fin)),?_⟩;obtain rfl:=sj h;conv=>whnf
    try exact fin
   ·conv=>whnf
    refine qh6.cut (S:=Bool) (fun O=>[(1,.ptr 0 0),(4,.ptr 1 0),(5,.ptr 2 0),(6,.ptr 3 0),(7,.p (.sl (qba.rows [qba.mk ([32,79,82,68,69,82,32,66,89,32]:SS) E (0:Int) (1048576:Int),qba.mk ([32,83,75,73,80,32]:SS) F (0:Int) (1:Int),qba.mk ([32,76,73,77,73,84,32]:SS) G (0:Int) (1:Int)]))),(8,.ptr 4 0),(9,.ptr 5 0),(10,pS g),(11,zq2),(12,.ptr 6 0),(53,pI a),(85,pB O)]) (fun O=>[.box 51 [pI a,pP y,pE q,pI i,pS j,pI k,pB l,pI m,pS o,pV b,pT c,pT d,pE e,pS f,pA t,pB u,pO v,pE w,pE x,pU z,pT A,pB B],.box 154 [zq1,.p (.sl (qbo.rows H)),.p (.int .i64 (1:Int)),.p (.int .i64 (1048576:Int))],.box 154 [.p (.str ([32,87,72,69,82,69,32]:SS)),.p (.sl (qbo.rows C)),zq0,.p (.int .i64 (1:Int))],.box 154 [zq1,.p (.sl (qbo.rows D)),.p (.int .i64 (1:Int)),.p (.int .i64 (1048576:Int))],.box 154 [.p (.str ([68,69,76,69,84,69,32]:SS)),.p (.sl (qbo.rows I)),.p (.int .i64 (1:Int)),.p (.int .i64 (1048576:Int))],.box 154 [zq1,.p (.sl (qbo.rows J)),.p (.int .i64 (1:Int)),.p (.int .i64 (1048576:Int))],.box 51 [pI a,zq2,zq2,zq0,zq1,zq0,pB false,zq0,zq1,zq2,zq2,zq2,zq2,zq1,zq2,pB false,zq2,zq2,zq2,zq2,zq2,pB false]]) (qhu n g D E F G a C y q i j k l m o b c d e f t u v w x z A B H J I) (r:=r) ?_ ?_
    ·intro O h
     unfold qhu at h;conv=>whnf
     apply ifc h<;>intro s h
     ·conv=>whnf
      obtain⟨Y,h⟩:=qak h;refine⟨(of_decide_eq_true Y:((([82,69,84,85,82,78,32]:SS).length+g.length:Nat):Int)<=qtu),?_⟩;conv=>whnf
      refine⟨Codec.one qsa [qba.mk (([82,69,84,85,82,78,32]:SS)++g) D (1:Int) (1048576:Int)],qba.rows [qba.mk (([82,69,84,85,82,78,32]:SS)++g) D (1:Int) (1048576:Int)],.inl rfl,?_⟩;conv=>whnf
      obtain⟨W,h⟩:=qak h;refine⟨_,⟨Codec.append qsa [qba.mk (([82,69,84,85,82,78,32]:SS)++g) D (1:Int) (1048576:Int)] [qba.mk ([32,79,82,68,69,82,32,66,89,32]:SS) E (0:Int) (1048576:Int),qba.mk ([32,83,75,73,80,32]:SS) F (0:Int) (1:Int),qba.mk ([32,76,73,77,73,84,32]:SS) G (0:Int) (1:Int)],rfl,rfl,Codec.wide qsa [qba.mk ([32,79,82,68,69,82,32,66,89,32]:SS) E (0:Int) (1048576:Int),qba.mk ([32,83,75,73,80,32]:SS) F (0:Int) (1:Int),qba.mk ([32,76,73,77,73,84,32]:SS) G (0:Int) (1:Int)],of_decide_eq_true W,qcb W (by decide)⟩,?_⟩;conv=>whnf
      refine qh6.cut (S:=List qba×List qaa) (fun(N,P)=>[(1,.ptr 0 0),(11,.vsl 1 ((qba.rows N).length)),(12,.ptr 2 0)]) (fun(N,P)=>[.box 51 [pI a,pP y,pE q,pI i,pS j,pI k,pB l,pI m,pS o,pV b,pT c,pT d,pE e,pS f,pA t,pB u,pO v,pE w,pE x,pU z,pT A,pB B],.vec 154 4 (qba.rows N),.box 51 [pI a,zq2,pE P,zq0,zq1,zq0,pB false,zq0,zq1,zq2,zq2,zq2,zq2,zq1,zq2,pB false,zq2,zq2,zq2,zq2,zq2,pB false]]) (qhv n a y q i j k l m o b c d e f t u v w x z A B) (r:=r) ?_ ?_
      ·intro st h
       obtain⟨N,P⟩:=st;unfold qhv at h;conv=>whnf
       refine bq h fun _ b4 h=>?_;refine⟨_,(qac.leArgs (qft n _ _ _ b4) (by try exact fin)),?_⟩;obtain rfl:=sj h;conv=>whnf
       try exact fin
      ·conv=>whnf
       apply ifc h<;>intro s h
       ·conv=>whnf
        obtain⟨b7,h⟩:=qak h;refine⟨(of_decide_eq_true b7:((([87,73,84,72,32]:SS).length+g.length:Nat):Int)<=qtu),?_⟩;conv=>whnf
        obtain⟨b6,h⟩:=qak h;refine⟨0,⟨rfl,of_decide_eq_true b6⟩,?_⟩;conv=>whnf
        refine bq h fun⟨_,Q,R,T⟩ b5 h=>?_;refine⟨_,⟨rfl,Codec.getN qsa b5,rfl⟩,?_⟩;conv=>whnf
        refine⟨_,Codec.setN qsa ([qba.mk (([82,69,84,85,82,78,32]:SS)++g) D (1:Int) (1048576:Int)]++[qba.mk ([32,79,82,68,69,82,32,66,89,32]:SS) E (0:Int) (1048576:Int),qba.mk ([32,83,75,73,80,32]:SS) F (0:Int) (1:Int),qba.mk ([32,76,73,77,73,84,32]:SS) G (0:Int) (1:Int)]) 0 (qba.mk (([87,73,84,72,32]:SS)++g) Q R T),?_⟩;conv=>whnf
        refine⟨Codec.one qsa [qba.mk ([32,87,72,69,82,69,32]:SS) C (0:Int) (1:Int)],qba.rows [qba.mk ([32,87,72,69,82,69,32]:SS) C (0:Int) (1:Int)],.inl rfl,?_⟩;conv=>whnf
        obtain⟨V,h⟩:=qak h;refine⟨_,⟨Codec.append qsa (([qba.mk (([82,69,84,85,82,78,32]:SS)++g) D (1:Int) (1048576:Int)]++[qba.mk ([32,79,82,68,69,82,32,66,89,32]:SS) E (0:Int) (1048576:Int),qba.mk ([32,83,75,73,80,32]:SS) F (0:Int) (1:Int),qba.mk ([32,76,73,77,73,84,32]:SS) G (0:Int) (1:Int)]).set 0 (qba.mk (([87,73,84,72,32]:SS)++g) Q R T)) [qba.mk ([32,87,72,69,82,69,32]:SS) C (0:Int) (1:Int)],rfl,rfl,Codec.wide qsa [qba.mk ([32,87,72,69,82,69,32]:SS) C (0:Int) (1:Int)],of_decide_eq_true V,qcb V (by decide)⟩,?_⟩;conv=>whnf
        exact⟨(((([qba.mk (([82,69,84,85,82,78,32]:SS)++g) D (1:Int) (1048576:Int)]++[qba.mk ([32,79,82,68,69,82,32,66,89,32]:SS) E (0:Int) (1048576:Int),qba.mk ([32,83,75,73,80,32]:SS) F (0:Int) (1:Int),qba.mk ([32,76,73,77,73,84,32]:SS) G (0:Int) (1:Int)]).set 0 (qba.mk (([87,73,84,72,32]:SS)++g) Q R T))++[qba.mk ([32,87,72,69,82,69,32]:SS) C (0:Int) (1:Int)]),q),h,wk [0,9,6] []⟩
       ·conv=>whnf
        exact⟨(([qba.mk (([82,69,84,85,82,78,32]:SS)++g) D (1:Int) (1048576:Int)]++[qba.mk ([32,79,82,68,69,82,32,66,89,32]:SS) E (0:Int) (1048576:Int),qba.mk ([32,83,75,73,80,32]:SS) F (0:Int) (1:Int),qba.mk ([32,76,73,77,73,84,32]:SS) G (0:Int) (1:Int)]),([]:List _)),h,wk [0,8,6] []⟩
     ·conv=>whnf
      apply ifc h<;>intro s h
      ·conv=>whnf
       refine⟨Codec.one qsa [qba.mk ([67,82,69,65,84,69,32]:SS) H (1:Int) (1048576:Int)],qba.rows [qba.mk ([67,82,69,65,84,69,32]:SS) H (1:Int) (1048576:Int)],.inl rfl,?_⟩;conv=>whnf
       refine bq h fun _ Z h=>?_;refine⟨_,(qac.leArgs (qft n _ _ _ Z) (by try exact fin)),?_⟩;obtain rfl:=sj h;conv=>whnf
       try exact fin
      ·conv=>whnf
       apply ifc h<;>intro s h
       ·conv=>whnf
        refine⟨id,id,?_⟩;conv=>whnf
        refine bq h fun⟨_,_⟩ a1 h=>?_;refine⟨_,fun b8=>Codec.at_ ql2 (qad a1 b8),?_⟩;conv=>whnf
        refine⟨id,id,id,id,id,?_⟩;conv=>whnf
        apply ifc h<;>intro s h
        ·obtain rfl:=sj h
         conv=>whnf
         try exact fin
        ·conv=>whnf
         refine⟨Codec.one qsa [qba.mk ([77,69,82,71,69,32]:SS) H (1:Int) (1:Int)],qba.rows [qba.mk ([77,69,82,71,69,32]:SS) H (1:Int) (1:Int)],.inl rfl,?_⟩;conv=>whnf
         refine bq h fun _ a0 h=>?_;refine⟨_,(qac.leArgs (qft n _ _ _ a0) (by try exact fin)),?_⟩;obtain rfl:=sj h;conv=>whnf
         try exact fin
       ·conv=>whnf
        refine qh6.cut (S:=Bool) (fun U=>[(1,.ptr 0 0),(8,.ptr 1 0),(9,.ptr 2 0),(11,zq2),(12,.ptr 3 0),(53,pI a),(155,pB U)]) (fun U=>[.box 51 [pI a,pP y,pE q,pI i,pS j,pI k,pB l,pI m,pS o,pV b,pT c,pT d,pE e,pS f,pA t,pB u,pO v,pE w,pE x,pU z,pT A,pB B],.box 154 [.p (.str ([68,69,76,69,84,69,32]:SS)),.p (.sl (qbo.rows I)),.p (.int .i64 (1:Int)),.p (.int .i64 (1048576:Int))],.box 154 [zq1,.p (.sl (qbo.rows J)),.p (.int .i64 (1:Int)),.p (.int .i64 (1048576:Int))],.box 51 [pI a,zq2,zq2,zq0,zq1,zq0,pB false,zq0,zq1,zq2,zq2,zq2,zq2,zq1,zq2,pB false,zq2,zq2,zq2,zq2,zq2,pB false]]) (qke n a y q i j k l m o b c d e f t u v w x z A B J I) (r:=r) ?_ ?_
        ·intro U h
         unfold qke at h;conv=>whnf
         apply ifc h<;>intro s h
         ·conv=>whnf
          refine qh6.cut (S:=SS) (fun K=>[(1,.ptr 0 0),(9,.ptr 1 0),(12,.ptr 2 0)]) (fun K=>[.box 51 [pI a,pP y,pE q,pI i,pS j,pI k,pB l,pI m,pS o,pV b,pT c,pT d,pE e,pS f,pA t,pB u,pO v,pE w,pE x,pU z,pT A,pB B],.box 154 [pS K,.p (.sl (qbo.rows J)),.p (.int .i64 (1:Int)),.p (.int .i64 (1048576:Int))],.box 51 [pI a,zq2,zq2,zq0,zq1,zq0,pB false,zq0,zq1,zq2,zq2,zq2,zq2,zq1,zq2,pB false,zq2,zq2,zq2,zq2,zq2,pB false]]) (qi5 n a y q i j k l m o b c d e f t u v w x z A B J) (r:=r) ?_ ?_
          ·intro K h
           unfold qi5 at h;conv=>whnf
           refine⟨Codec.one qsa [qba.mk K J (1:Int) (1048576:Int)],qba.rows [qba.mk K J (1:Int) (1048576:Int)],.inl rfl,?_⟩;conv=>whnf
           refine bq h fun _ a2 h=>?_;refine⟨_,(qac.leArgs (qft n _ _ _ a2) (by try exact fin)),?_⟩;obtain rfl:=sj h;conv=>whnf
           try exact fin
          ·conv=>whnf
           apply ifc h<;>intro s h
           ·conv=>whnf
            exact⟨([82,69,77,79,86,69,32]:SS),h,wk [0,2,3] []⟩
           ·conv=>whnf
            exact⟨([83,69,84,32]:SS),h,wk [0,2,3] []⟩
         ·conv=>whnf
          apply ifc h<;>intro s h
          ·conv=>whnf
           refine qh6.cut (S:=SS) (fun L=>[(1,.ptr 0 0),(8,.ptr 1 0),(12,.ptr 2 0)]) (fun L=>[.box 51 [pI a,pP y,pE q,pI i,pS j,pI k,pB l,pI m,pS o,pV b,pT c,pT d,pE e,pS f,pA t,pB u,pO v,pE w,pE x,pU z,pT A,pB B],.box 154 [pS L,.p (.sl (qbo.rows I)),.p (.int .i64 (1:Int)),.p (.int .i64 (1048576:Int))],.box 51 [pI a,zq2,zq2,zq0,zq1,zq0,pB false,zq0,zq1,zq2,zq2,zq2,zq2,zq1,zq2,pB false,zq2,zq2,zq2,zq2,zq2,pB false]]) (qi6 n a y q i j k l m o b c d e f t u v w x z A B I) (r:=r) ?_ ?_
           ·intro L h
            unfold qi6 at h;conv=>whnf
            refine⟨Codec.one qsa [qba.mk L I (1:Int) (1048576:Int)],qba.rows [qba.mk L I (1:Int) (1048576:Int)],.inl rfl,?_⟩;conv=>whnf
            refine bq h fun _ a3 h=>?_;refine⟨_,(qac.leArgs (qft n _ _ _ a3) (by try exact fin)),?_⟩;obtain rfl:=sj h;conv=>whnf
            try exact fin
           ·conv=>whnf
            apply ifc h<;>intro s h
            ·conv=>whnf
             exact⟨([68,69,84,65,67,72,32,68,69,76,69,84,69,32]:SS),h,wk [0,1,3] []⟩
            ·conv=>whnf
             exact⟨([68,69,76,69,84,69,32]:SS),h,wk [0,1,3] []⟩
          ·conv=>whnf
           refine bq h fun _ a4 h=>?_;refine⟨_,(qac.leArgs (qft n _ _ _ a4) (by try exact fin)),?_⟩;obtain rfl:=sj h;conv=>whnf
           try exact fin
        ·conv=>whnf
         apply ifc h<;>intro s h
         ·conv=>whnf
          exact⟨(a==6),h,wk [0,4,5,6] []⟩
         ·conv=>whnf
          exact⟨(a==7),h,wk [0,4,5,6] []⟩
    ·conv=>whnf
     apply ifc h<;>intro s h
     ·conv=>whnf
      exact⟨(a==3),h,wk [0,1,2,3,4,5,6] []⟩
     ·conv=>whnf
      exact⟨(a==9),h,wk [0,1,2,3,4,5,6] []⟩
 ·conv=>whnf
  apply ifc h<;>intro s h
  ·conv=>whnf
   exact⟨([68,73,83,84,73,78,67,84,32]:SS),h,wk [0,1,2,3,4,5] []⟩
  ·conv=>whnf
   exact⟨([]:SS),h,wk [0,1,2,3,4,5] []⟩
abbrev zcu (r:Bool):PV:=PV.bool r
def qkt (n:Nat) (a:SS):Option (Bool):=
 some (bif(!(a==([]:SS)))then(decide (((a.length:Nat):Int)<=64))else false)
theorem qlr (n:Nat):∀ (a:SS) (r:Bool),qkt n a=some r->qac Tryz.prog 215 [PV.str a] (zcu r):=by
 intro a r h;unfold qkt at h;refine qac.of_vcN mixed (fun _ _=>Tryz.call215 _ _) Tryz.func215 (by kernel_rfl) (inl:=[1000000]) ?_;conv=>whnf
 refine⟨id,id,id,?_⟩;obtain rfl:=sj h;conv=>whnf
 try exact fin
abbrev zco (r:SS):PV:=PV.str r
def qln (n:Nat) (a:Int×SS->Option SS) (b:Int):SS->Option SS:=fun c=>
 a ((IntKind.i64.wrap (b+1)),c)
def qlo (n:Nat) (g:SS):(Int×SS->Option SS)->Int×SS->Option SS:=fun e (b,a)=>
 bif(decide (b<((g.length:Nat):Int)))then(
 bnd (qxb b) fun f=>
 chk (decide (f<a.length)) (
 bnd (a[f]?) fun c=>
 bif(bif(decide (((c.toNat:Nat):Int)≥97))then(decide (((c.toNat:Nat):Int)<=122))else false)then(
 bnd (qxb b) fun d=>
 chk (decide (d<a.length)) (
 bnd (u8I (IntKind.u8.wrap (((c.toNat:Nat):Int) - 32))) fun i=>
 chk (decide (d<a.length)) (
 qln n e b (a.set d i))))
 else(
 qln n e b a)))
 else(
 some a)
def qqr (n:Nat) (a:SS):Option SS:=
 qan (qlo n a) n ((0:Int),a)
theorem q9g (n:Nat):∀ (b r:SS),qqr n b=some r->qac Tryz.prog 144 [PV.str b] (zco r):=by
 intro b r h;unfold qqr at h;refine qac.of_vcN mixed (fun _ _=>Tryz.call144 _ _) Tryz.func144 (by kernel_rfl) (inl:=[10000007,1000000]) ?_;conv=>whnf
 refine qbl.fn [10000007,1000000] (S:=Int×SS) (fun(c,a)=>[(3,.vsl 0 a.length),(8,.vsl 0 a.length),(9,.p (.int .i64 ((b.length:Nat):Int))),(10,pI c)]) (fun(c,a)=>[.bv a]) (B:=qlo n b) h (wk [0] []) ?_;intro s st h;obtain⟨c,a⟩:=st;unfold qlo at h;conv=>whnf
 apply ifc h<;>intro q h
 ·conv=>whnf
  refine qh6.cut (S:=SS) (fun d=>[(3,.vsl 0 d.length),(8,.vsl 0 d.length),(9,.p (.int .i64 ((b.length:Nat):Int))),(10,pI c)]) (fun d=>[.bv d]) (qln n s c) (r:=r) ?_ ?_
  ·intro d h
   unfold qln at h;conv=>whnf
   exact⟨((IntKind.i64.wrap (c+1)),d),h,wk [0] []⟩
  ·conv=>whnf
   refine bq h fun t o h=>?_;have e:=qdu o;conv=>whnf
   obtain⟨m,h⟩:=qak h;refine⟨t,⟨e,of_decide_eq_true m⟩,?_⟩;conv=>whnf
   refine bq h fun _ l h=>?_;refine⟨_,⟨rfl,rfl,l⟩,?_⟩;conv=>whnf
   refine⟨id,id,?_⟩;conv=>whnf
   apply ifc h<;>intro q h
   ·conv=>whnf
    refine bq h fun f k h=>?_;have e:=qdu k;conv=>whnf
    obtain⟨j,h⟩:=qak h;refine⟨f,⟨e,of_decide_eq_true j⟩,?_⟩;conv=>whnf
    refine bq h fun u i h=>?_;have hb:=qex i;conv=>whnf
    obtain⟨g,h⟩:=qak h;refine⟨_,_,⟨rfl,rfl,of_decide_eq_true g,hb,rfl⟩,?_⟩;conv=>whnf
    exact⟨(a.set f u),h,wk [0] []⟩
   ·conv=>whnf
    exact⟨a,h,wk [0] []⟩
 ·conv=>whnf
  refine⟨by first|rfl|simp only[List.length_set]|(simp only[List.length_set]; assumption)|assumption,?_⟩;obtain rfl:=sj h;conv=>whnf
  try exact fin
abbrev zcs (r:Bool):PV:=PV.bool r
def qlp (n:Nat) (a:SS):(Nat->Option (Bool))->Nat->Option (Bool):=fun c b=>
 bif(decide (b<a.length))then(
 bif(bif(!(bif(bif(bif(decide (((qa8 a b:Nat):Int)≥97))then(decide (((qa8 a b:Nat):Int)<=122))else false)then true else(bif(decide (((qa8 a b:Nat):Int)≥65))then(decide (((qa8 a b:Nat):Int)<=90))else false))then true else(((qa8 a b:Nat):Int)==95)))then(bif(bif(((b:Nat):Int)==0)then true else(decide (((qa8 a b:Nat):Int)<48)))then true else(decide (((qa8 a b:Nat):Int)>57)))else false)then(
 some false)
 else(
 c (bif(decide (b<a.length))then qdy a b else b)))
 else(
 some (bif(!(a==([]:SS)))then(decide (((a.length:Nat):Int)<=64))else false))
def qo2 (n:Nat) (a:SS):Option (Bool):=
 qan (qlp n a) n 0
theorem q0e (n:Nat):∀ (a:SS) (r:Bool),qo2 n a=some r->qac Tryz.prog 96 [PV.str a] (zcs r):=by
 intro a r h;unfold qo2 at h;refine qac.of_vcN mixed (fun _ _=>Tryz.call96 _ _) Tryz.func96 (by kernel_rfl) (inl:=[1000000]) ?_;conv=>whnf
 refine qbl.fn [1000000] (S:=Nat) (fun b=>[(0,pS a),(7,.ptr 0 0)]) (fun b=>[.sit a b]) (B:=qlp n a) h (wk [0] []) ?_;intro _ b h;unfold qlp at h;conv=>whnf
 refine⟨(decide (b<a.length)),(bif(decide (b<a.length))then qdy a b else b),⟨rfl,rfl⟩,?_⟩;conv=>whnf
 apply ifc h<;>intro c h
 ·conv=>whnf
  refine⟨by assumption,?_⟩;conv=>whnf
  refine⟨by assumption,?_⟩;conv=>whnf
  iterate 20 refine⟨id,?_⟩
  conv=>whnf
  apply ifc h<;>intro c h
  ·obtain rfl:=sj h
   conv=>whnf
   try exact fin
  ·conv=>whnf
   exact⟨(bif(decide (b<a.length))then qdy a b else b),h,wk [0] []⟩
 ·conv=>whnf
  refine⟨id,id,id,?_⟩;obtain rfl:=sj h;conv=>whnf
  try exact fin
abbrev zed (r:SS×Bool):PV:=PV.tup [PV.str r.1,PV.bool r.2]
def qy1 (n:Nat) (c:SS):Option (SS×Bool):=
 bnd (qqr n c) fun a=>
 bnd (qo2 n c) fun b=>
 chk (bif(!(!b))then decide (((([32]:SS).length+a.length:Nat):Int)<=qtu)else true) (
 chk (bif(!(!b))then decide ((((([32]:SS)++a).length+([32]:SS).length:Nat):Int)<=qtu)else true) (
 bnd (qaw (!(!b)) (ql0 n ([32,77,65,84,67,72,32,87,72,69,82,69,32,85,78,87,73,78,68,32,65,83,32,87,73,84,72,32,67,82,69,65,84,69,32,77,69,82,71,69,32,83,69,84,32,82,69,77,79,86,69,32,68,69,76,69,84,69,32,68,69,84,65,67,72,32,82,69,84,85,82,78,32,68,73,83,84,73,78,67,84,32,79,82,68,69,82,32,66,89,32,65,83,67,32,68,69,83,67,32,83,75,73,80,32,76,73,77,73,84,32,65,78,68,32,79,82,32,88,79,82,32,78,79,84,32,73,78,32,73,83,32,78,85,76,76,32,84,82,85,69,32,70,65,76,83,69,32]:SS) ((([32]:SS)++a)++([32]:SS)))) fun d=>
 bif(bif(!b)then true else(!d))then(
 some (([]:SS),false))
 else(
 some (a,true))))
theorem zb2 (n:Nat):∀ (b:SS) (r:SS×Bool),qy1 n b=some r->qac Tryz.prog 95 [PV.str b] (zed r):=by
 intro b r h;unfold qy1 at h;refine qac.of_vcN mixed (fun _ _=>Tryz.call95 _ _) Tryz.func95 (by kernel_rfl) (inl:=[1000000]) ?_;conv=>whnf
 refine bq h fun c i h=>?_;refine⟨_,(q9g n _ _ i),?_⟩;conv=>whnf
 refine bq h fun _ g h=>?_;refine⟨_,(q0e n _ _ g),?_⟩;conv=>whnf
 refine⟨id,?_⟩;conv=>whnf
 obtain⟨f,h⟩:=qak h;refine⟨fun a=>(of_decide_eq_true (gd f a):((([32]:SS).length+c.length:Nat):Int)<=qtu),?_⟩;conv=>whnf
 refine⟨id,?_⟩;conv=>whnf
 obtain⟨e,h⟩:=qak h;refine⟨fun a=>(of_decide_eq_true (gd e a):(((([32]:SS)++c).length+([32]:SS).length:Nat):Int)<=qtu),?_⟩;conv=>whnf
 refine⟨id,?_⟩;conv=>whnf
 refine bq h fun _ d h=>?_;refine⟨_,fun a=>(qyb n _ _ _ (qad d a)),?_⟩;conv=>whnf
 refine⟨id,id,?_⟩;conv=>whnf
 apply ifc h<;>intro _ h
 ·obtain rfl:=sj h
  conv=>whnf
  try exact fin
 ·obtain rfl:=sj h
  conv=>whnf
  try exact fin
abbrev q7r (r:Bool):PV:=PV.bool r
def qev (n:Nat) (a:SS):Option (Bool):=
 bnd (qy1 n a) fun⟨_,b⟩=>
 bnd (qo2 n a) fun c=>
 some (bif c then(!b)else false)
theorem qfu (n:Nat):∀ (a:SS) (r:Bool),qev n a=some r->qac Tryz.prog 57 [PV.str a] (q7r r):=by
 intro a r h;unfold qev at h;refine qac.of_vcN mixed (fun _ _=>Tryz.call57 _ _) Tryz.func57 (by kernel_rfl) (inl:=[1000000]) ?_;conv=>whnf
 refine bq h fun⟨_,_⟩ c h=>?_;refine⟨_,(zb2 n _ _ c),?_⟩;conv=>whnf
 refine bq h fun _ b h=>?_;refine⟨_,(q0e n _ _ b),?_⟩;conv=>whnf
 refine⟨id,id,?_⟩;obtain rfl:=sj h;conv=>whnf
 try exact fin
abbrev q97 (r:Bool):PV:=PV.bool r
def qpd (n:Nat) (b:Val):Option (Bool):=
 match b with
 | ⟨a,c,d,e,f,g⟩=>
 some (bif(bif(bif(bif(bif(a==1)then true else(!c))then(bif(bif(a==2)then true else(decide (a≥6)))then true else(d==0))else false)then(bif(a==3)then true else(e==([]:SS)))else false)then(bif(bif(a==4)then true else(a==5))then true else(((Val.rows f).length:Int)==0))else false)then(bif(a==5)then true else(((qai g).length:Int)==0))else false)
theorem q7b (n:Nat):∀ (a:Val) (r:Bool),qpd n a=some r->qac Tryz.prog 224 [PV.agg (quh.cells a)] (q97 r):=by
 intro a r h;obtain⟨_,_,_,_,_,_⟩:=a;unfold qpd at h;refine qac.of_vcN mixed (fun _ _=>Tryz.call224 _ _) Tryz.func224 (by kernel_rfl) (inl:=[1000000]) ?_;conv=>whnf
 iterate 47 refine⟨id,?_⟩
 obtain rfl:=sj h;conv=>whnf
 try exact fin
abbrev q98 (r:Bool):PV:=PV.bool r
def qh4 (n:Nat) (c:List SS):(Int->Option (Bool))->Int->Option (Bool):=fun d a=>
 bif(decide (a<((qai c).length:Int)))then(
 bnd (idx c a) fun b=>
 bnd (qaw ((!(bif(b==([]:SS))then true else(decide (((b.length:Nat):Int)>64))))&&(decide (a>0))) (idx c (IntKind.i64.wrap (a - 1)))) fun e=>
 bif(bif(bif(b==([]:SS))then true else(decide (((b.length:Nat):Int)>64)))then true else(bif(decide (a>0))then(!(Op.bytesLess e b))else false))then(
 some false)
 else(
 d (IntKind.i64.wrap (a+1))))
 else(
 some true)
def qt4 (n:Nat) (a:List SS):Option (Bool):=
 qan (qh4 n a) n (0:Int)
theorem q7c (n:Nat):∀ (a:List SS) (r:Bool),qt4 n a=some r->qac Tryz.prog 225 [PV.sl (qai a)] (q98 r):=by
 intro a r h;unfold qt4 at h;refine qac.of_vcN mixed (fun _ _=>Tryz.call225 _ _) Tryz.func225 (by kernel_rfl) (inl:=[1000000]) ?_;conv=>whnf
 refine qbl.fn [1000000] (S:=Int) (fun b=>[(0,pT a),(5,pT a),(6,.p (.int .i64 ((qai a).length:Int))),(7,pI b)]) (fun b=>[]) (B:=qh4 n a) h (wk [] []) ?_;intro _ b h;unfold qh4 at h;conv=>whnf
 apply ifc h<;>intro e h
 ·conv=>whnf
  refine bq h fun _ d h=>?_;refine⟨_,Codec.at_ qpl d,?_⟩;conv=>whnf
  iterate 8 refine⟨id,?_⟩
  conv=>whnf
  refine bq h fun _ c h=>?_;refine⟨_,fun f=>Codec.at_ qpl (qad c f),?_⟩;conv=>whnf
  iterate 6 refine⟨id,?_⟩
  conv=>whnf
  apply ifc h<;>intro e h
  ·obtain rfl:=sj h
   conv=>whnf
   try exact fin
  ·conv=>whnf
   exact⟨(IntKind.i64.wrap (b+1)),h,wk [] []⟩
 ·obtain rfl:=sj h
  conv=>whnf
  try exact fin
abbrev qra (r:Int×Bool):PV:=PV.tup [PV.int .i64 r.1,PV.bool r.2]
def qgl (n:Nat) (d:List Val) (g223:Val->Int->Int->Option (Int×Bool)) (p:Int):(Int×Bool×Int->Option (Int×Bool))->Int×Bool×Int->Option (Int×Bool):=fun e (b,c,a)=>
 bif(bif(decide (a<((Val.rows d).length:Int)))then c else false)then(
 bnd (idx d a) fun⟨f,g,i,j,k,l⟩=>
 bnd (g223 (Val.mk f g i j k l) (IntKind.i64.wrap (p - 1)) b) fun⟨m,o⟩=>
 e (m,o,(IntKind.i64.wrap (a+1))))
 else(
 some (b,c))
def qsd (n:Nat) (g223:Val->Int->Int->Option (Int×Bool)) (i:Val) (e b:Int):Option (Int×Bool):=
 match i with
 | ⟨a,k,f,l,c,d⟩=>
 bnd (qaw (!(bif(bif(bif(decide (e<1))then true else(decide ((IntKind.i64.wrap (b+1))>4096)))then true else(decide (a<0)))then true else(decide (a>7)))) (qpd n (Val.mk a k f l c d))) fun g=>
 bnd (qaw (((!(bif(bif(bif(bif(bif(decide (e<1))then true else(decide ((IntKind.i64.wrap (b+1))>4096)))then true else(decide (a<0)))then true else(decide (a>7)))then true else(!g))then true else(bif(decide (a≥6))then(decide (f<1))else false)))&&(a==5))&&(!(((qai d).length:Int) != ((Val.rows c).length:Int)))) (qt4 n d)) fun j=>
 bif(bif(bif(bif(bif(bif(bif(decide (e<1))then true else(decide ((IntKind.i64.wrap (b+1))>4096)))then true else(decide (a<0)))then true else(decide (a>7)))then true else(!g))then true else(bif(decide (a≥6))then(decide (f<1))else false))then true else(bif(a==5)then(bif(((qai d).length:Int) != ((Val.rows c).length:Int))then true else(!j))else false))then(
 some ((IntKind.i64.wrap (b+1)),false))
 else(
 qan (qgl n c g223 e) n ((IntKind.i64.wrap (b+1)),true,(0:Int)))
theorem q46 (n:Nat) (g223:Val->Int->Int->Option (Int×Bool)) (g223_ok:∀ (b:Val) (a c:Int) (r:Int×Bool),g223 b a c=some r->qac Tryz.prog 223 [PV.agg (quh.cells b),PV.int .i64 a,PV.int .i64 c] (qra r)):∀ (b:Val) (a c:Int) (r:Int×Bool),qsd n g223 b a c=some r->qac Tryz.prog 223 [PV.agg (quh.cells b),PV.int .i64 a,PV.int .i64 c] (qra r):=by
 intro b a c r h;obtain⟨p,q,u,v,i,w⟩:=b;unfold qsd at h;refine qac.of_vcN mixed (fun _ _=>Tryz.call223 _ _) Tryz.func223 (by kernel_rfl) (inl:=[1000000]) ?_;conv=>whnf
 iterate 9 refine⟨id,?_⟩
 conv=>whnf
 refine bq h fun _ m h=>?_;refine⟨_,fun e=>(q7b n _ _ (qad m e)),?_⟩;conv=>whnf
 iterate 22 refine⟨id,?_⟩
 conv=>whnf
 refine bq h fun _ l h=>?_;refine⟨_,fun e=>(q7c n _ _ (qad l e)),?_⟩;conv=>whnf
 iterate 6 refine⟨id,?_⟩
 conv=>whnf
 apply ifc h<;>intro o h
 ·obtain rfl:=sj h
  conv=>whnf
  try exact fin
 ·conv=>whnf
  refine qbl.fn [1000000] (S:=Int×Bool×Int) (fun(f,g,d)=>[(1,pI a),(2,pI f),(3,.ptr 0 0),(8,pB g),(9,pI d)]) (fun(f,g,d)=>[.box 44 [pI p,pB q,pI u,pS v,pV i,pT w]]) (B:=qgl n i g223 a) h (wk [0] []) ?_;intro _ st h;obtain⟨f,g,d⟩:=st;unfold qgl at h;conv=>whnf
  refine⟨id,?_⟩;conv=>whnf
  apply ifc h<;>intro o h
  ·conv=>whnf
   refine bq h fun⟨_,_,_,_,_,_⟩ k h=>?_;refine⟨_,Codec.at_ quh k,?_⟩;conv=>whnf
   refine bq h fun⟨s,t⟩ j h=>?_;refine⟨_,(g223_ok _ _ _ _ j),?_⟩;conv=>whnf
   exact⟨(s,t,(IntKind.i64.wrap (d+1))),h,wk [0] []⟩
  ·obtain rfl:=sj h
   conv=>whnf
   try exact fin
def qi7:Nat->Val->Int->Int->Option (Int×Bool)
 | 0=>fun _ _ _=>none
 | n+1=>qsd n (qi7 n)
theorem q5i (n:Nat):(∀ (a:Val) (b c:Int) (r:Int×Bool),qi7 n a b c=some r->qac Tryz.prog 223 [PV.agg (quh.cells a),PV.int .i64 b,PV.int .i64 c] (qra r)):=by
 induction n with
 | zero=>exact(by intros; rename_i h; cases h)
 | succ n ih=>
  have hg223:=ih;exact q46 n (qi7 n) hg223
theorem q7d (n:Nat):∀ (a:Val) (b c:Int) (r:Int×Bool),qi7 n a b c=some r->qac Tryz.prog 223 [PV.agg (quh.cells a),PV.int .i64 b,PV.int .i64 c] (qra r):=(q5i n)
abbrev q7t (r:Int):PV:=PV.int .i64 r
def qp4 (n:Nat) (a:Val):Option (Int):=
 match a with
 | ⟨b,c,d,e,f,g⟩=>
 bnd (qi7 n (Val.mk b c d e f g) (32:Int) (0:Int)) fun⟨_,i⟩=>
 bif(!i)then(
 some (20:Int))
 else(
 some (0:Int))
theorem q5g (n:Nat):∀ (a:Val) (r:Int),qp4 n a=some r->qac Tryz.prog 222 [PV.agg (quh.cells a)] (q7t r):=by
 intro a r h;obtain⟨_,_,_,_,_,_⟩:=a;unfold qp4 at h;refine qac.of_vcN mixed (fun _ _=>Tryz.call222 _ _) Tryz.func222 (by kernel_rfl) (inl:=[1000000]) ?_;conv=>whnf
 refine bq h fun⟨_,_⟩ b h=>?_;refine⟨_,(q7d n _ _ _ _ b),?_⟩;conv=>whnf
 apply ifc h<;>intro _ h
 ·obtain rfl:=sj h
  conv=>whnf
  try exact fin
 ·obtain rfl:=sj h
  conv=>whnf
  try exact fin
abbrev q3x (r:Bool):PV:=PV.bool r
def qml (n:Nat) (c:Val):Option (Bool):=
 match c with
 | ⟨a,d,b,e,f,g⟩=>
 bnd (qp4 n (Val.mk a d b e f g)) fun i=>
 some (bif(i==0)then(bif(bif(decide (a<=1))then true else(bif(a==2)then(decide (b≥0))else false))then true else(a==3))else false)
theorem q13 (n:Nat):∀ (a:Val) (r:Bool),qml n a=some r->qac Tryz.prog 219 [PV.agg (quh.cells a)] (q3x r):=by
 intro a r h;obtain⟨_,_,_,_,_,_⟩:=a;unfold qml at h;refine qac.of_vcN mixed (fun _ _=>Tryz.call219 _ _) Tryz.func219 (by kernel_rfl) (inl:=[1000000]) ?_;conv=>whnf
 refine bq h fun _ b h=>?_;refine⟨_,(q5g n _ _ b),?_⟩;conv=>whnf
 iterate 18 refine⟨id,?_⟩
 obtain rfl:=sj h;conv=>whnf
 try exact fin
abbrev q7q (r:Int):PV:=PV.int .i64 r
def qnn (n:Nat) (a:SS):Option (Int):=
 some (qd9 (qow ([37]:SS) (7:Int) zq6) a (0:Int))
theorem q5e (n:Nat):∀ (a:SS) (r:Int),qnn n a=some r->qac Tryz.prog 220 [PV.str a] (q7q r):=by
 intro a r h;unfold qnn at h;refine qac.of_vcN mixed (fun _ _=>Tryz.call220 _ _) Tryz.func220 (by kernel_rfl) (inl:=[1000000]) ?_;conv=>whnf
 refine⟨_,qic qel (PV.int .i64) ([79,82]:SS) (1:Int) ([]:List (SS×Int)),?_⟩;conv=>whnf
 refine⟨_,qic qel (PV.int .i64) ([88,79,82]:SS) (2:Int) (qow ([79,82]:SS) (1:Int) ([]:List (SS×Int))),?_⟩;conv=>whnf
 refine⟨_,qic qel (PV.int .i64) ([65,78,68]:SS) (3:Int) (qow ([88,79,82]:SS) (2:Int) (qow ([79,82]:SS) (1:Int) ([]:List (SS×Int)))),?_⟩;conv=>whnf
 refine⟨_,qic qel (PV.int .i64) ([61]:SS) (5:Int) zq7,?_⟩;conv=>whnf
 refine⟨_,qic qel (PV.int .i64) ([60,62]:SS) (5:Int) (qow ([61]:SS) (5:Int) zq7),?_⟩;conv=>whnf
 refine⟨_,qic qel (PV.int .i64) ([60]:SS) (5:Int) zsy,?_⟩;conv=>whnf
 refine⟨_,qic qel (PV.int .i64) ([60,61]:SS) (5:Int) (qow ([60]:SS) (5:Int) zsy),?_⟩;conv=>whnf
 refine⟨_,qic qel (PV.int .i64) ([62]:SS) (5:Int) (qow ([60,61]:SS) (5:Int) (qow ([60]:SS) (5:Int) zsy)),?_⟩;conv=>whnf
 refine⟨_,qic qel (PV.int .i64) ([62,61]:SS) (5:Int) (qow ([62]:SS) (5:Int) (qow ([60,61]:SS) (5:Int) (qow ([60]:SS) (5:Int) zsy))),?_⟩;conv=>whnf
 refine⟨_,qic qel (PV.int .i64) ([73,78]:SS) (5:Int) zq5,?_⟩;conv=>whnf
 refine⟨_,qic qel (PV.int .i64) ([43]:SS) (6:Int) (qow ([73,78]:SS) (5:Int) zq5),?_⟩;conv=>whnf
 refine⟨_,qic qel (PV.int .i64) ([45]:SS) (6:Int) ztd,?_⟩;conv=>whnf
 refine⟨_,qic qel (PV.int .i64) ([42]:SS) (7:Int) (qow ([45]:SS) (6:Int) ztd),?_⟩;conv=>whnf
 refine⟨_,qic qel (PV.int .i64) ([47]:SS) (7:Int) (qow ([42]:SS) (7:Int) (qow ([45]:SS) (6:Int) ztd)),?_⟩;conv=>whnf
 refine⟨_,qic qel (PV.int .i64) ([37]:SS) (7:Int) zq6,?_⟩;conv=>whnf
 refine⟨PV.int .i64 (qd9 (qow ([37]:SS) (7:Int) zq6) a (0:Int)),(q6c (qow ([37]:SS) (7:Int) zq6) a),⟨qua qel (PV.int .i64) (qow ([37]:SS) (7:Int) zq6) a (0:Int),qub qel (PV.int .i64) (qow ([37]:SS) (7:Int) zq6) a⟩,?_⟩;obtain rfl:=sj h;conv=>whnf
 try exact fin
abbrev q06 (r:Bool):PV:=PV.bool r
def qd4 (n:Nat):Bool->Option (Bool):=fun a=>
 bif a then(
 some true)
 else(
 some false)
def qhs (n:Nat) (a:SS):Option (Bool):=
 bif(a==([99,111,117,110,116]:SS))then(
 qd4 n (a==([99,111,117,110,116]:SS)))
 else(
 bif(a==([115,117,109]:SS))then(
 qd4 n (a==([115,117,109]:SS)))
 else(
 bif(a==([109,105,110]:SS))then(
 qd4 n (a==([109,105,110]:SS)))
 else(
 bif(a==([109,97,120]:SS))then(
 qd4 n (a==([109,97,120]:SS)))
 else(
 qd4 n (a==([99,111,108,108,101,99,116]:SS))))))
theorem qr8 (n:Nat):∀ (a:SS) (r:Bool),qhs n a=some r->qac Tryz.prog 221 [PV.str a] (q06 r):=by
 intro a r h;unfold qhs at h;refine qac.of_vcN mixed (fun _ _=>Tryz.call221 _ _) Tryz.func221 (by kernel_rfl) (inl:=[1000000]) ?_;conv=>whnf
 refine qh6.cut (S:=Bool) (fun c=>[(4,pB c)]) (fun c=>[]) (qd4 n) (r:=r) ?_ ?_
 ·intro c h
  unfold qd4 at h;conv=>whnf
  apply ifc h<;>intro b h
  ·obtain rfl:=sj h
   conv=>whnf
   try exact fin
  ·obtain rfl:=sj h
   conv=>whnf
   try exact fin
 ·conv=>whnf
  apply ifc h<;>intro b h
  ·conv=>whnf
   exact⟨(a==([99,111,117,110,116]:SS)),h,wk [] []⟩
  ·conv=>whnf
   apply ifc h<;>intro b h
   ·conv=>whnf
    exact⟨(a==([115,117,109]:SS)),h,wk [] []⟩
   ·conv=>whnf
    apply ifc h<;>intro b h
    ·conv=>whnf
     exact⟨(a==([109,105,110]:SS)),h,wk [] []⟩
    ·conv=>whnf
     apply ifc h<;>intro b h
     ·conv=>whnf
      exact⟨(a==([109,97,120]:SS)),h,wk [] []⟩
     ·conv=>whnf
      exact⟨(a==([99,111,108,108,101,99,116]:SS)),h,wk [] []⟩
abbrev q7s (r:Int×Bool):PV:=PV.tup [PV.int .i64 r.1,PV.bool r.2]
def qbh (n:Nat) (a:SS) (b:Int) (c:List qaa):Bool->Option (Int×Bool):=fun f=>
 bif f then(
 some ((1:Int),(a==([]:SS))))
 else(
 bif(b==10)then(
 bnd (qnn n a) fun g=>
 some ((2:Int),(decide (g>0))))
 else(
 bif(b==13)then(
 bnd (qev n a) fun d=>
 bnd (qaw d (qhs n a)) fun i=>
 some ((-1:Int),(bif d then(!i)else false)))
 else(
 bif(b==14)then(
 bif(((qaa.rows c).length:Int)==0)then(
 some ((0:Int),(a==([99,111,117,110,116]:SS))))
 else(
 bnd (qhs n a) fun j=>
 some ((1:Int),j)))
 else(
 bif(b==15)then(
 bnd (qkt n a) fun e=>
 bnd (qaw (bif e then(((qaa.rows c).length:Int)==1)else false) (idx c (0:Int))) fun⟨k,_,⟨_,_,_,_,_,_⟩,_,_⟩=>
 some ((1:Int),(bif(bif e then(((qaa.rows c).length:Int)==1)else false)then(k==2)else false)))
 else(
 some ((0:Int),false))))))
def qbs (n:Nat) (b:SS) (a:Int) (g:List SS) (c:List qaa):Bool->Option (Int×Bool):=fun d=>
 bif d then(
 bnd (qev n b) fun e=>
 some ((0:Int),e))
 else(
 bif(a==4)then(
 bnd (qkt n b) fun f=>
 some ((1:Int),f))
 else(
 bif(a==5)then(
 some ((-1:Int),(b==([]:SS))))
 else(
 bif(a==6)then(
 some (((qai g).length:Int),(b==([]:SS))))
 else(
 bif(a==7)then(
 some ((2:Int),(b==([]:SS))))
 else(
 bif(a==8)then(
 qbh n b a c (a==8))
 else(
 bif(a==9)then(
 qbh n b a c (a==9))
 else(
 bif(a==11)then(
 qbh n b a c (a==11))
 else(
 qbh n b a c (a==12)))))))))
def qcd (n:Nat) (e:qaa):Option (Int×Bool):=
 match e with
 | ⟨a,b,⟨g,i,j,k,l,m⟩,d,c⟩=>
 bif(a==1)then(
 bnd (qaw (b==([]:SS)) (qml n (Val.mk g i j k l m))) fun f=>
 some ((0:Int),(bif(b==([]:SS))then f else false)))
 else(
 bif(a==2)then(
 qbs n b a d c (a==2))
 else(
 qbs n b a d c (a==3)))
set_option maxHeartbeats 4000000 in
theorem q5f (n:Nat):∀ (d:qaa) (r:Int×Bool),qcd n d=some r->qac Tryz.prog 218 [PV.agg (qcf.cells d)] (q7s r):=by
 intro d r h;obtain⟨b,f,⟨k,l,m,o,p,q⟩,j,e⟩:=d;unfold qcd at h;refine qac.of_vcN mixed (fun _ _=>Tryz.call218 _ _) Tryz.func218 (by kernel_rfl) (inl:=[1000000]) ?_;conv=>whnf
 apply ifc h<;>intro a h
 ·conv=>whnf
  refine⟨id,id,?_⟩;conv=>whnf
  refine bq h fun _ s h=>?_;refine⟨_,fun c=>(q13 n _ _ (qad s c)),?_⟩;conv=>whnf
  refine⟨id,?_⟩;obtain rfl:=sj h;conv=>whnf
  try exact fin
 ·conv=>whnf
  refine qh6.cut (S:=Bool) (fun g=>[(1,.ptr 0 0),(5,pI b),(16,pB g)]) (fun g=>[.box 46 [pI b,pS f,pI k,pB l,pI m,pS o,pV p,pT q,pT j,pE e]]) (qbs n f b j e) (r:=r) ?_ ?_
  ·intro g h
   unfold qbs at h;conv=>whnf
   apply ifc h<;>intro a h
   ·conv=>whnf
    refine bq h fun _ t h=>?_;refine⟨_,(qfu n _ _ t),?_⟩;obtain rfl:=sj h;conv=>whnf
    try exact fin
   ·conv=>whnf
    apply ifc h<;>intro a h
    ·conv=>whnf
     refine bq h fun _ u h=>?_;refine⟨_,(qlr n _ _ u),?_⟩;obtain rfl:=sj h;conv=>whnf
     try exact fin
    ·conv=>whnf
     apply ifc h<;>intro a h
     ·obtain rfl:=sj h
      conv=>whnf
      try exact fin
     ·conv=>whnf
      apply ifc h<;>intro a h
      ·obtain rfl:=sj h
       conv=>whnf
       try exact fin
      ·conv=>whnf
       apply ifc h<;>intro a h
       ·obtain rfl:=sj h
        conv=>whnf
        try exact fin
       ·conv=>whnf
        refine qh6.cut (S:=Bool) (fun i=>[(1,.ptr 0 0),(5,pI b),(45,pB i)]) (fun i=>[.box 46 [pI b,pS f,pI k,pB l,pI m,pS o,pV p,pT q,pT j,pE e]]) (qbh n f b e) (r:=r) ?_ ?_
        ·intro i h
         unfold qbh at h;conv=>whnf
         apply ifc h<;>intro a h
         ·obtain rfl:=sj h
          conv=>whnf
          try exact fin
         ·conv=>whnf
          apply ifc h<;>intro a h
          ·conv=>whnf
           refine bq h fun _ v h=>?_;refine⟨_,(q5e n _ _ v),?_⟩;obtain rfl:=sj h;conv=>whnf
           try exact fin
          ·conv=>whnf
           apply ifc h<;>intro a h
           ·conv=>whnf
            refine bq h fun _ x h=>?_;refine⟨_,(qfu n _ _ x),?_⟩;conv=>whnf
            refine⟨id,id,?_⟩;conv=>whnf
            refine bq h fun _ w h=>?_;refine⟨_,fun c=>(qr8 n _ _ (qad w c)),?_⟩;conv=>whnf
            refine⟨id,id,?_⟩;obtain rfl:=sj h;conv=>whnf
            try exact fin
           ·conv=>whnf
            apply ifc h<;>intro a h
            ·conv=>whnf
             apply ifc h<;>intro a h
             ·obtain rfl:=sj h
              conv=>whnf
              try exact fin
             ·conv=>whnf
              refine bq h fun _ y h=>?_;refine⟨_,(qr8 n _ _ y),?_⟩;obtain rfl:=sj h;conv=>whnf
              try exact fin
            ·conv=>whnf
             apply ifc h<;>intro a h
             ·conv=>whnf
              refine bq h fun _ A h=>?_;refine⟨_,(qlr n _ _ A),?_⟩;conv=>whnf
              iterate 6 refine⟨id,?_⟩
              conv=>whnf
              refine bq h fun⟨_,_,⟨_,_,_,_,_,_⟩,_,_⟩ z h=>?_;refine⟨_,fun c=>Codec.at_ qcf (qad z c),?_⟩;conv=>whnf
              refine⟨id,id,id,id,?_⟩;obtain rfl:=sj h;conv=>whnf
              try exact fin
             ·obtain rfl:=sj h
              conv=>whnf
              try exact fin
        ·conv=>whnf
         apply ifc h<;>intro a h
         ·conv=>whnf
          exact⟨(b==8),h,wk [0] []⟩
         ·conv=>whnf
          apply ifc h<;>intro a h
          ·conv=>whnf
           exact⟨(b==9),h,wk [0] []⟩
          ·conv=>whnf
           apply ifc h<;>intro a h
           ·conv=>whnf
            exact⟨(b==11),h,wk [0] []⟩
           ·conv=>whnf
            exact⟨(b==12),h,wk [0] []⟩
  ·conv=>whnf
   apply ifc h<;>intro a h
   ·conv=>whnf
    exact⟨(b==2),h,wk [0] []⟩
   ·conv=>whnf
    exact⟨(b==3),h,wk [0] []⟩
abbrev qp9 (r:Bool):PV:=PV.bool r
abbrev zsq:Type:=qaa->Int->Option (Bool)
def qg5 (n:Nat) (b:List qaa) (g217:zsq) (d:Int):(Int->Option (Bool))->Int->Option (Bool):=fun c a=>
 bif(decide (a<((qaa.rows b).length:Int)))then(
 bnd (idx b a) fun⟨e,f,⟨g,i,j,k,l,m⟩,o,p⟩=>
 bnd (g217 (qaa.mk e f (Val.mk g i j k l m) o p) (IntKind.i64.wrap (d - 1))) fun q=>
 bif(!q)then(
 some false)
 else(
 c (IntKind.i64.wrap (a+1))))
 else(
 some true)
def qg4 (n:Nat) (b:List SS) (d:List qaa) (g217:zsq) (e:Int):(Int->Option (Bool))->Int->Option (Bool):=fun c a=>
 bif(decide (a<((qai b).length:Int)))then(
 bnd (idx b a) fun f=>
 bnd (qkt n f) fun g=>
 bif(!g)then(
 some false)
 else(
 c (IntKind.i64.wrap (a+1))))
 else(
 qan (qg5 n d g217 e) n (0:Int))
def qn0 (n:Nat) (g217:zsq) (o:qaa) (d:Int):Option (Bool):=
 match o with
 | ⟨a,q,⟨g,i,j,k,l,m⟩,e,b⟩=>
 bnd (qcd n (qaa.mk a q (Val.mk g i j k l m) e b)) fun⟨c,f⟩=>
 bnd (qaw ((!(bif(bif(!f)then true else(decide (d<1)))then true else(bif(decide (c≥0))then(((qaa.rows b).length:Int) != c)else false)))&&(a != 1)) (qhm n (Val.mk g i j k l m) (Val.mk (0:Int) false (0:Int) ([]:SS) ([]:List Val) ([]:List SS)))) fun p=>
 bif(bif(bif(bif(bif(!f)then true else(decide (d<1)))then true else(bif(decide (c≥0))then(((qaa.rows b).length:Int) != c)else false))then true else(bif(a != 1)then(!p)else false))then true else(bif(a != 6)then(decide (((qai e).length:Int)>0))else false))then(
 some false)
 else(
 qan (qg4 n e b g217 d) n (0:Int))
set_option maxHeartbeats 4000000 in
theorem q3e (n:Nat) (g217:zsq) (g217_ok:∀ (b:qaa) (a:Int) (r:Bool),g217 b a=some r->qac Tryz.prog 217 [PV.agg (qcf.cells b),PV.int .i64 a] (qp9 r)):∀ (b:qaa) (a:Int) (r:Bool),qn0 n g217 b a=some r->qac Tryz.prog 217 [PV.agg (qcf.cells b),PV.int .i64 a] (qp9 r):=by
 intro b a r h;obtain⟨s,t,⟨u,v,w,x,y,z⟩,g,c⟩:=b;unfold qn0 at h;refine qac.of_vcN mixed (fun _ _=>Tryz.call217 _ _) Tryz.func217 (by kernel_rfl) (inl:=[1000000]) ?_;conv=>whnf
 refine bq h fun⟨_,_⟩ o h=>?_;refine⟨_,(q5f n _ _ o),?_⟩;conv=>whnf
 iterate 17 refine⟨id,?_⟩
 conv=>whnf
 refine bq h fun _ m h=>?_;refine⟨_,fun q=>(qac.leArgs (qyc n _ _ _ (qad m q)) (by try exact fin)),?_⟩;conv=>whnf
 iterate 13 refine⟨id,?_⟩
 conv=>whnf
 apply ifc h<;>intro d h
 ·obtain rfl:=sj h
  conv=>whnf
  try exact fin
 ·conv=>whnf
  refine qbl.fn [1000000] (S:=Int) (fun e=>[(1,pI a),(2,.ptr 0 0),(57,pT g),(58,.p (.int .i64 ((qai g).length:Int))),(59,pI e)]) (fun e=>[.box 46 [pI s,pS t,pI u,pB v,pI w,pS x,pV y,pT z,pT g,pE c]]) (B:=qg4 n g c g217 a) h (wk [0] []) ?_;intro _ e h;unfold qg4 at h;conv=>whnf
  apply ifc h<;>intro d h
  ·conv=>whnf
   refine bq h fun _ j h=>?_;refine⟨_,Codec.at_ qpl j,?_⟩;conv=>whnf
   refine bq h fun _ i h=>?_;refine⟨_,(qlr n _ _ i),?_⟩;conv=>whnf
   apply ifc h<;>intro d h
   ·obtain rfl:=sj h
    conv=>whnf
    try exact fin
   ·conv=>whnf
    exact⟨(IntKind.i64.wrap (e+1)),h,wk [0] []⟩
  ·conv=>whnf
   refine qbl.fn [1000000] (S:=Int) (fun f=>[(1,pI a),(68,pE c),(69,.p (.int .i64 ((qaa.rows c).length:Int))),(70,pI f)]) (fun f=>[]) (B:=qg5 n c g217 a) h (wk [] []) ?_;intro _ f h;unfold qg5 at h;conv=>whnf
   apply ifc h<;>intro d h
   ·conv=>whnf
    refine bq h fun⟨_,_,⟨_,_,_,_,_,_⟩,_,_⟩ l h=>?_;refine⟨_,Codec.at_ qcf l,?_⟩;conv=>whnf
    refine bq h fun _ k h=>?_;refine⟨_,(g217_ok _ _ _ k),?_⟩;conv=>whnf
    apply ifc h<;>intro d h
    ·obtain rfl:=sj h
     conv=>whnf
     try exact fin
    ·conv=>whnf
     exact⟨(IntKind.i64.wrap (f+1)),h,wk [] []⟩
   ·obtain rfl:=sj h
    conv=>whnf
    try exact fin
def qcz:Nat->qaa->Int->Option (Bool)
 | 0=>fun _ _=>none
 | n+1=>qn0 n (qcz n)
theorem q3p (n:Nat):(∀ (a:qaa) (b:Int) (r:Bool),qcz n a b=some r->qac Tryz.prog 217 [PV.agg (qcf.cells a),PV.int .i64 b] (qp9 r)):=by
 induction n with
 | zero=>exact(by intros; rename_i h; cases h)
 | succ n ih=>
  have hg217:=ih;exact q3e n (qcz n) hg217
theorem qr3 (n:Nat):∀ (a:qaa) (b:Int) (r:Bool),qcz n a b=some r->qac Tryz.prog 217 [PV.agg (qcf.cells a),PV.int .i64 b] (qp9 r):=(q3p n)
abbrev q1f (r:Bool):PV:=PV.bool r
def qfp (n:Nat) (c:List SS) (m:List qaa):(Int->Option (Bool))->Int->Option (Bool):=fun d a=>
 bif(decide (a<((qai c).length:Int)))then(
 bnd (idx c a) fun o=>
 bnd (qkt n o) fun b=>
 bnd (qaw (!(!b)) (idx m a)) fun⟨p,q,⟨s,t,e,f,g,i⟩,j,k⟩=>
 bnd (qaw (!(!b)) (qcz n (qaa.mk p q (Val.mk s t e f g i) j k) (32:Int))) fun l=>
 bif(bif(!b)then true else(!l))then(
 some false)
 else(
 d (IntKind.i64.wrap (a+1))))
 else(
 some true)
def qhw (n:Nat) (c:q3r):Option (Bool):=
 match c with
 | ⟨a,b⟩=>
 bif(((qai a).length:Int) != ((qaa.rows b).length:Int))then(
 some false)
 else(
 qan (qfp n a b) n (0:Int))
theorem qr9 (n:Nat):∀ (a:q3r) (r:Bool),qhw n a=some r->qac Tryz.prog 216 [PV.agg (zr8.cells a)] (q1f r):=by
 intro a r h;obtain⟨b,f⟩:=a;unfold qhw at h;refine qac.of_vcN mixed (fun _ _=>Tryz.call216 _ _) Tryz.func216 (by kernel_rfl) (inl:=[1000000]) ?_;conv=>whnf
 apply ifc h<;>intro e h
 ·obtain rfl:=sj h
  conv=>whnf
  try exact fin
 ·conv=>whnf
  refine qbl.fn [1000000] (S:=Int) (fun c=>[(1,.ptr 0 0),(13,pT b),(14,.p (.int .i64 ((qai b).length:Int))),(15,pI c)]) (fun c=>[.box 263 [pT b,pE f]]) (B:=qfp n b f) h (wk [0] []) ?_;intro _ c h;unfold qfp at h;conv=>whnf
  apply ifc h<;>intro e h
  ·conv=>whnf
   refine bq h fun _ k h=>?_;refine⟨_,Codec.at_ qpl k,?_⟩;conv=>whnf
   refine bq h fun _ j h=>?_;refine⟨_,(qlr n _ _ j),?_⟩;conv=>whnf
   refine⟨id,id,id,?_⟩;conv=>whnf
   refine bq h fun⟨_,_,⟨_,_,_,_,_,_⟩,_,_⟩ i h=>?_;refine⟨_,fun d=>Codec.at_ qcf (qad i d),?_⟩;conv=>whnf
   refine⟨id,id,?_⟩;conv=>whnf
   refine bq h fun _ g h=>?_;refine⟨_,fun d=>(qr3 n _ _ _ (qad g d)),?_⟩;conv=>whnf
   refine⟨id,id,?_⟩;conv=>whnf
   apply ifc h<;>intro e h
   ·obtain rfl:=sj h
    conv=>whnf
    try exact fin
   ·conv=>whnf
    exact⟨(IntKind.i64.wrap (c+1)),h,wk [0] []⟩
  ·obtain rfl:=sj h
   conv=>whnf
   try exact fin
abbrev q2d (r:Bool):PV:=PV.bool r
def qf8 (n:Nat) (c:List SS) (a:SS) (f:List SS) (g:List qaa):(Int->Option (Bool))->Int->Option (Bool):=fun e b=>
 bif(decide (b<((qai c).length:Int)))then(
 bnd (idx c b) fun i=>
 bnd (qkt n i) fun j=>
 bif(!j)then(
 some false)
 else(
 e (IntKind.i64.wrap (b+1))))
 else(
 bnd (qaw (!(a==([]:SS))) (qev n a)) fun d=>
 bnd (qaw (bif(a==([]:SS))then true else d) (qhw n (q3r.mk f g))) fun k=>
 some (bif(bif(a==([]:SS))then true else d)then k else false))
def qeu (n:Nat) (a:qae):Option (Bool):=
 match a with
 | ⟨b,c,d,e⟩=>
 qan (qf8 n c b d e) n (0:Int)
theorem q00 (n:Nat):∀ (a:qae) (r:Bool),qeu n a=some r->qac Tryz.prog 213 [PV.agg (qea.cells a)] (q2d r):=by
 intro a r h;obtain⟨e,b,f,g⟩:=a;unfold qeu at h;refine qac.of_vcN mixed (fun _ _=>Tryz.call213 _ _) Tryz.func213 (by kernel_rfl) (inl:=[1000000]) ?_;conv=>whnf
 refine qbl.fn [1000000] (S:=Int) (fun c=>[(1,.ptr 0 0),(6,pT b),(7,.p (.int .i64 ((qai b).length:Int))),(8,pI c)]) (fun c=>[.box 260 [pS e,pT b,pT f,pE g]]) (B:=qf8 n b e f g) h (wk [0] []) ?_;intro _ c h;unfold qf8 at h;conv=>whnf
 apply ifc h<;>intro m h
 ·conv=>whnf
  refine bq h fun _ j h=>?_;refine⟨_,Codec.at_ qpl j,?_⟩;conv=>whnf
  refine bq h fun _ i h=>?_;refine⟨_,(qlr n _ _ i),?_⟩;conv=>whnf
  apply ifc h<;>intro m h
  ·obtain rfl:=sj h
   conv=>whnf
   try exact fin
  ·conv=>whnf
   exact⟨(IntKind.i64.wrap (c+1)),h,wk [0] []⟩
 ·conv=>whnf
  refine⟨id,id,?_⟩;conv=>whnf
  refine bq h fun _ l h=>?_;refine⟨_,fun d=>(qfu n _ _ (qad l d)),?_⟩;conv=>whnf
  iterate 6 refine⟨id,?_⟩
  conv=>whnf
  refine bq h fun _ k h=>?_;refine⟨_,fun d=>(qr9 n _ _ (qad k d)),?_⟩;conv=>whnf
  refine⟨id,?_⟩;obtain rfl:=sj h;conv=>whnf
  try exact fin
abbrev q19 (r:Bool):PV:=PV.bool r
def qei (n:Nat) (f:qag):Option (Bool):=
 match f with
 | ⟨a,b,c,g,i⟩=>
 bnd (qaw (!(a==([]:SS))) (qev n a)) fun d=>
 bnd (qaw ((bif(a==([]:SS))then true else d)&&(!(b==([]:SS)))) (qkt n b)) fun e=>
 bnd (qaw (bif(bif(bif(bif(a==([]:SS))then true else d)then(bif(b==([]:SS))then true else e)else false)then(decide (c≥0))else false)then(decide (c<=2))else false) (qhw n (q3r.mk g i))) fun j=>
 some (bif(bif(bif(bif(bif(a==([]:SS))then true else d)then(bif(b==([]:SS))then true else e)else false)then(decide (c≥0))else false)then(decide (c<=2))else false)then j else false)
theorem q0x (n:Nat):∀ (b:qag) (r:Bool),qei n b=some r->qac Tryz.prog 214 [PV.agg (qgu.cells b)] (q19 r):=by
 intro b r h;obtain⟨_,_,_,_,_⟩:=b;unfold qei at h;refine qac.of_vcN mixed (fun _ _=>Tryz.call214 _ _) Tryz.func214 (by kernel_rfl) (inl:=[1000000]) ?_;conv=>whnf
 refine⟨id,id,?_⟩;conv=>whnf
 refine bq h fun _ e h=>?_;refine⟨_,fun a=>(qfu n _ _ (qad e a)),?_⟩;conv=>whnf
 iterate 6 refine⟨id,?_⟩
 conv=>whnf
 refine bq h fun _ d h=>?_;refine⟨_,fun a=>(qlr n _ _ (qad d a)),?_⟩;conv=>whnf
 iterate 14 refine⟨id,?_⟩
 conv=>whnf
 refine bq h fun _ c h=>?_;refine⟨_,fun a=>(qr9 n _ _ (qad c a)),?_⟩;conv=>whnf
 refine⟨id,?_⟩;obtain rfl:=sj h;conv=>whnf
 try exact fin
abbrev qt6 (r:Bool):PV:=PV.bool r
def qef (n:Nat) (c:List qae) (k:List qag):(Int->Option (Bool))->Int->Option (Bool):=fun d a=>
 bif(decide (a<((qae.rows c).length:Int)))then(
 bnd (idx c a) fun⟨l,m,o,p⟩=>
 bnd (qeu n (qae.mk l m o p)) fun b=>
 bnd (qaw ((!(!b))&&(decide (a>0))) (idx k (IntKind.i64.wrap (a - 1)))) fun⟨q,e,f,g,i⟩=>
 bnd (qaw ((!(!b))&&(decide (a>0))) (qei n (qag.mk q e f g i))) fun j=>
 bif(bif(!b)then true else(bif(decide (a>0))then(!j)else false))then(
 some false)
 else(
 d (IntKind.i64.wrap (a+1))))
 else(
 some true)
def qii (n:Nat) (c:qa6):Option (Bool):=
 match c with
 | ⟨a,b⟩=>
 bif(((qae.rows a).length:Int) != (IntKind.i64.wrap (((qag.rows b).length:Int)+1)))then(
 some false)
 else(
 qan (qef n a b) n (0:Int))
theorem q01 (n:Nat):∀ (a:qa6) (r:Bool),qii n a=some r->qac Tryz.prog 211 [PV.agg (ql2.cells a)] (qt6 r):=by
 intro a r h;obtain⟨d,f⟩:=a;unfold qii at h;refine qac.of_vcN mixed (fun _ _=>Tryz.call211 _ _) Tryz.func211 (by kernel_rfl) (inl:=[1000000]) ?_;conv=>whnf
 apply ifc h<;>intro e h
 ·obtain rfl:=sj h
  conv=>whnf
  try exact fin
 ·conv=>whnf
  refine qbl.fn [1000000] (S:=Int) (fun b=>[(1,.ptr 0 0),(14,.p (.int .i64 ((qae.rows d).length:Int))),(15,pI b)]) (fun b=>[.box 193 [pN d,pG f]]) (B:=qef n d f) h (wk [0] []) ?_;intro _ b h;unfold qef at h;conv=>whnf
  apply ifc h<;>intro e h
  ·conv=>whnf
   refine bq h fun⟨_,_,_,_⟩ k h=>?_;refine⟨_,Codec.at_ qea k,?_⟩;conv=>whnf
   refine bq h fun _ j h=>?_;refine⟨_,(q00 n _ _ j),?_⟩;conv=>whnf
   iterate 6 refine⟨id,?_⟩
   conv=>whnf
   refine bq h fun⟨_,_,_,_,_⟩ i h=>?_;refine⟨_,fun c=>Codec.at_ qgu (qad i c),?_⟩;conv=>whnf
   refine⟨id,id,?_⟩;conv=>whnf
   refine bq h fun _ g h=>?_;refine⟨_,fun c=>(q0x n _ _ (qad g c)),?_⟩;conv=>whnf
   refine⟨id,id,id,id,?_⟩;conv=>whnf
   apply ifc h<;>intro e h
   ·obtain rfl:=sj h
    conv=>whnf
    try exact fin
   ·conv=>whnf
    exact⟨(IntKind.i64.wrap (b+1)),h,wk [0] []⟩
  ·obtain rfl:=sj h
   conv=>whnf
   try exact fin
abbrev q2a (r:Bool):PV:=PV.bool r
def qg3 (n:Nat) (a:qaa):Option (Bool):=
 match a with
 | ⟨b,e,⟨f,g,i,j,k,l⟩,m,c⟩=>
 bnd (qcz n (qaa.mk b e (Val.mk f g i j k l) m c) (32:Int)) fun d=>
 some d
theorem qo3 (n:Nat):∀ (a:qaa) (r:Bool),qg3 n a=some r->qac Tryz.prog 226 [PV.agg (qcf.cells a)] (q2a r):=by
 intro a r h;obtain⟨_,_,⟨_,_,_,_,_,_⟩,_,_⟩:=a;unfold qg3 at h;refine qac.of_vcN mixed (fun _ _=>Tryz.call226 _ _) Tryz.func226 (by kernel_rfl) (inl:=[1000000]) ?_;conv=>whnf
 refine bq h fun _ b h=>?_;refine⟨_,(qr3 n _ _ _ b),?_⟩;obtain rfl:=sj h;conv=>whnf
 try exact fin
abbrev q2b (r:Bool):PV:=PV.bool r
def qot (n:Nat) (b:qbj):Option (Bool):=
 match b with
 | ⟨⟨c,g,⟨i,j,k,l,m,o⟩,p,d⟩,e⟩=>
 bnd (qev n e) fun a=>
 bnd (qaw a (qg3 n (qaa.mk c g (Val.mk i j k l m o) p d))) fun f=>
 some (bif a then f else false)
theorem q0y (n:Nat):∀ (a:qbj) (r:Bool),qot n a=some r->qac Tryz.prog 228 [PV.agg (qr5.cells a)] (q2b r):=by
 intro a r h;obtain⟨⟨_,_,⟨_,_,_,_,_,_⟩,_,_⟩,_⟩:=a;unfold qot at h;refine qac.of_vcN mixed (fun _ _=>Tryz.call228 _ _) Tryz.func228 (by kernel_rfl) (inl:=[1000000]) ?_;conv=>whnf
 refine bq h fun _ c h=>?_;refine⟨_,(qfu n _ _ c),?_⟩;conv=>whnf
 refine⟨id,id,?_⟩;conv=>whnf
 refine bq h fun _ b h=>?_;refine⟨_,fun d=>(qo3 n _ _ (qad b d)),?_⟩;conv=>whnf
 refine⟨id,?_⟩;obtain rfl:=sj h;conv=>whnf
 try exact fin
abbrev qz5 (r:Bool):PV:=PV.bool r
def qlz (n:Nat) (a:qar):Option (Bool):=
 match a with
 | ⟨⟨b,e,⟨f,g,i,j,k,l⟩,m,c⟩,_⟩=>
 bnd (qg3 n (qaa.mk b e (Val.mk f g i j k l) m c)) fun d=>
 some d
theorem qx9 (n:Nat):∀ (a:qar) (r:Bool),qlz n a=some r->qac Tryz.prog 230 [PV.agg (qpi.cells a)] (qz5 r):=by
 intro a r h;obtain⟨⟨_,_,⟨_,_,_,_,_,_⟩,_,_⟩,_⟩:=a;unfold qlz at h;refine qac.of_vcN mixed (fun _ _=>Tryz.call230 _ _) Tryz.func230 (by kernel_rfl) (inl:=[1000000]) ?_;conv=>whnf
 refine bq h fun _ b h=>?_;refine⟨_,(qo3 n _ _ b),?_⟩;obtain rfl:=sj h;conv=>whnf
 try exact fin
abbrev q2c (r:Bool):PV:=PV.bool r
def qou (n:Nat) (a:SS):Option (Bool):=
 bnd (qev n a) fun b=>
 some b
theorem q0z (n:Nat):∀ (a:SS) (r:Bool),qou n a=some r->qac Tryz.prog 232 [PV.str a] (q2c r):=by
 intro a r h;unfold qou at h;refine qac.of_vcN mixed (fun _ _=>Tryz.call232 _ _) Tryz.func232 (by kernel_rfl) (inl:=[1000000]) ?_;conv=>whnf
 refine bq h fun _ b h=>?_;refine⟨_,(qfu n _ _ b),?_⟩;obtain rfl:=sj h;conv=>whnf
 try exact fin
abbrev qz4 (r:Bool):PV:=PV.bool r
def qgt (n:Nat) (o:qtz):Option (Bool):=
 match o with
 | ⟨⟨p,a,f,⟨g,i,⟨j,k,l,m,b,c⟩,d,e⟩⟩,q⟩=>
 bnd (qev n p) fun s=>
 bif(bif(bif(!s)then true else((a==([]:SS))==(f==([]:SS))))then true else(decide ((IntKind.i64.wrap (((a.length:Nat):Int)+((f.length:Nat):Int)))>64)))then(
 some false)
 else(
 bif(bif q then(!(a==([]:SS)))else false)then(
 bnd (qcz n (qaa.mk g i (Val.mk j k l m b c) d e) (32:Int)) fun t=>
 some t)
 else(
 bnd (qi4 n (qaa.mk g i (Val.mk j k l m b c) d e)) fun u=>
 some u))
theorem qx8 (n:Nat):∀ (a:qtz) (r:Bool),qgt n a=some r->qac Tryz.prog 234 [PV.agg (zqa.cells a)] (qz4 r):=by
 intro a r h;obtain⟨⟨_,_,_,⟨_,_,⟨_,_,_,_,_,_⟩,_,_⟩⟩,_⟩:=a;unfold qgt at h;refine qac.of_vcN mixed (fun _ _=>Tryz.call234 _ _) Tryz.func234 (by kernel_rfl) (inl:=[1000000]) ?_;conv=>whnf
 refine bq h fun _ d h=>?_;refine⟨_,(qfu n _ _ d),?_⟩;conv=>whnf
 iterate 19 refine⟨id,?_⟩
 conv=>whnf
 apply ifc h<;>intro e h
 ·obtain rfl:=sj h
  conv=>whnf
  try exact fin
 ·conv=>whnf
  refine⟨id,id,id,id,?_⟩;conv=>whnf
  apply ifc h<;>intro e h
  ·conv=>whnf
   refine bq h fun _ b h=>?_;refine⟨_,(qr3 n _ _ _ b),?_⟩;obtain rfl:=sj h;conv=>whnf
   try exact fin
  ·conv=>whnf
   refine bq h fun _ c h=>?_;refine⟨_,(qw8 n _ _ c),?_⟩;obtain rfl:=sj h;conv=>whnf
   try exact fin
def qpe (n:Nat):qbo->Option (Bool)
 | .path x=>qii n x
 | .expr x=>qg3 n x
 | .item x=>qot n x
 | .sorted x=>qlz n x
 | .name x=>qou n x
 | .change x=>qgt n x
def q4m:qbo->FuncId
 | .path _=>211
 | .expr _=>226
 | .item _=>228
 | .sorted _=>230
 | .name _=>232
 | .change _=>234
theorem zb4 (n:Nat):∀ (x:qbo) (r:Bool),qpe n x=some r->zhw Tryz.prog x.tid "wattle/spell.may" (q4m x)/\qac Tryz.prog (q4m x) [x.val] (qt6 r)
 | .path x,r,h=>⟨fun _ _=>rfl,q01 n x r h⟩
 | .expr x,r,h=>⟨fun _ _=>rfl,qo3 n x r h⟩
 | .item x,r,h=>⟨fun _ _=>rfl,q0y n x r h⟩
 | .sorted x,r,h=>⟨fun _ _=>rfl,qx9 n x r h⟩
 | .name x,r,h=>⟨fun _ _=>rfl,q0z n x r h⟩
 | .change x,r,h=>⟨fun _ _=>rfl,qx8 n x r h⟩
end W
end
