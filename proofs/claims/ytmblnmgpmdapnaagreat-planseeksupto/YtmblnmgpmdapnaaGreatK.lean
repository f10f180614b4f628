/- A part of the proof: contracts, printed by program. -/
import Derived.Test.YtmblnmgpmdapnaaGreatB
import Derived.Test.YtmblnmgpmdapnaaGreatC
import Derived.Test.YtmblnmgpmdapnaaGreatD
import Derived.Test.YtmblnmgpmdapnaaGreatG
import Derived.Test.YtmblnmgpmdapnaaGreatH
import Derived.Test.YtmblnmgpmdapnaaGreatJ
set_option linter.unusedVariables false
set_option linter.unusedSimpArgs false
set_option linter.unnecessarySimpa false
set_option linter.deprecated false
set_option linter.unusedSectionVars false
set_option linter.constructorNameAsVariable false
section
set_option maxRecDepth 100000
open Go Go.Proofs Ax
namespace W
def quu (n:Nat) (a:List qep×Int->Option (List qep)) (b:Int):List qep->Option (List qep):=fun c=>
 a (c,(IntKind.i64.wrap (b+1)))
def qlm (n:Nat) (f:List qa6) (j:Int) (G:List qaa) (H:Int) (I:SS) (J:Int) (K:Bool) (m:Int) (o:SS) (p:List Val) (q s:List SS) (t:List qaa) (u:SS) (v:List qbj) (w:Bool) (x:List qar) (y z:List qaa) (A:List qaf) (B:List SS) (C:Bool) (D:List SS) (i:Int):(List qep×Int->Option (List qep))->List qep×Int->Option (List qep):=fun g (b,a)=>
 bif(bif(decide (a<((qa6.rows f).length:Int)))then(j==1)else false)then(
 bnd (idx f a) fun⟨E,_⟩=>
 bnd (idx E (0:Int)) fun⟨c,d,e,_⟩=>
 bnd (qaw ((!(bif(((qai d).length:Int)==0)then true else(((qai e).length:Int)==0)))&&(!(c==([]:SS)))) (q0u n (qab.mk j f G (qaa.mk H I (Val.mk J K m o p q) s t) u v w x y z A B C) a D c)) fun F=>
 bif(bif(bif(((qai d).length:Int)==0)then true else(((qai e).length:Int)==0))then true else(bif(!(c==([]:SS)))then F else false))then(
 quu n g a b)
 else(
 bnd (idx d (0:Int)) fun k=>
 bnd (idx e (0:Int)) fun l=>
 chk (decide ((qep.rows (b++[qep.mk i a k l])).length * 48<=140737488355328)) (
 quu n g a (b++[qep.mk i a k l]))))
 else(
 some b)
def qtg (n:Nat) (c:qid) (a:Int):Option (List qep):=
 match c with
 | ⟨b⟩=>
 bnd (idx b a) fun⟨w,x,y,⟨z,A,⟨B,C,d,e,f,g⟩,i,j⟩,k,l,m,o,p,q,s,t,u⟩=>
 bnd (qh2 n (qid.mk b) a) fun⟨v,_,_⟩=>
 qan (qlm n x w y z A B C d e f g i j k l m o p q s t u v a) n (([]:List _),(0:Int))
def qpz (n:Nat) (o:List qab) (c:Int) (m:List qep×List qa1×Int->Option (List qa1×Int)):Int×List qa1×List qep->Option (List qa1×Int):=fun(j,a,p)=>
 bnd (qxb (IntKind.i64.wrap (j - 1))) fun b=>
 chk (decide (b<(qa1.rows a).length)) (
 bnd (a[b]?) fun⟨d,e,_,f⟩=>
 bnd (qtg n (qid.mk o) c) fun k=>
 bnd (qxb (IntKind.i64.wrap (j - 1))) fun l=>
 chk (decide (l<(qa1.rows a).length)) (
 bnd ((a.set b (qa1.mk d e c f))[l]?) fun⟨_,_,_,g⟩=>
 chk (decide (l+1=(qa1.rows (a.set b (qa1.mk d e c f))).length)) (
 chk (decide ((qep.rows p).length=(qep.rows g).length)) (
 chk (decide ((qep.rows (g++k)).length * 48<=140737488355328)) (
 bnd (qxb (IntKind.i64.wrap (j - 1))) fun i=>
 chk (decide (i<(qa1.rows a).length)) (
 chk (decide (i+1=(qa1.rows (a.set b (qa1.mk d e c f))).length)) (
 bnd ((a.set b (qa1.mk d e c f))[i]?) fun⟨q,s,t,_⟩=>
 m ((g++k),((a.set b (qa1.mk d e c f)).set i (qa1.mk q s t (g++k))),(IntKind.i64.wrap (c+1))))))))))
def qna (n:Nat) (d:List qab):(List qep×List qa1×Int->Option (List qa1×Int))->List qep×List qa1×Int->Option (List qa1×Int):=fun e (C,a,c)=>
 bif(decide (c<((qab.rows d).length:Int)))then(
 bnd (idx d c) fun⟨E,F,G,⟨g,i,⟨j,k,l,m,o,p⟩,q,s⟩,t,u,v,w,x,y,z,A,B⟩=>
 bnd (q3k n (qab.mk E F G (qaa.mk g i (Val.mk j k l m o p) q s) t u v w x y z A B)) fun b=>
 bnd (qaw (!(bif(b != 1)then true else(((((qa1.rows a).length):Nat):Int)==0))) (qxb (IntKind.i64.wrap (((((qa1.rows a).length):Nat):Int) - 1)))) fun f=>
 chk (bif(!(bif(b != 1)then true else(((((qa1.rows a).length):Nat):Int)==0)))then decide (f<(qa1.rows a).length)else true) (
 bnd (qaw (!(bif(b != 1)then true else(((((qa1.rows a).length):Nat):Int)==0))) (a[f]?)) fun⟨D,_,_,_⟩=>
 bif(bif(bif(b != 1)then true else(((((qa1.rows a).length):Nat):Int)==0))then true else(D != 1))then(
 chk (decide ((qa1.rows (a++[qa1.mk b c (0:Int) ([]:List qep)])).length * 48<=140737488355328)) (
 qpz n d c e ((IntKind.i64.wrap (((((qa1.rows a).length):Nat):Int)+1)),(a++[qa1.mk b c (0:Int) ([]:List qep)]),([]:List qep))))
 else(
 qpz n d c e (((((qa1.rows a).length):Nat):Int),a,C))))
 else(
 some (a,(0:Int)))
def zal (n:Nat) (c:qid):Option (List qa1×Int):=
 match c with
 | ⟨a⟩=>
 bnd (q0s n (qid.mk a)) fun⟨_,b⟩=>
 bif(b != 0)then(
 some (([]:List qa1),b))
 else(
 qan (qna n a) n (([]:List _),([]:List _),(0:Int)))
abbrev q15 (r:Bool):PV:=PV.bool r
def qey (n:Nat) (c:List qa1) (b:Int) (d:List qab) (e:Int×Int->Option (Bool)):(Int->Option (Bool))->Int->Option (Bool):=fun f a=>
 bnd (idx c b) fun⟨_,_,g,_⟩=>
 bif(bif(decide (a<=g))then(decide (a<((qab.rows d).length:Int)))else false)then(
 bnd (idx d a) fun⟨i,_,_,⟨_,_,⟨_,_,_,_,_,_⟩,_,_⟩,_,_,_,_,_,_,_,_,_⟩=>
 bnd (qip n i) fun j=>
 bnd (idx c b) fun⟨k,_,_,_⟩=>
 bif(!(j==(k==3)))then(
 some false)
 else(
 f (IntKind.i64.wrap (a+1))))
 else(
 bnd (idx c b) fun⟨_,_,l,_⟩=>
 e ((IntKind.i64.wrap (l+1)),(IntKind.i64.wrap (b+1))))
def qec (n:Nat) (b:List qa1) (i:List qab):(Int×Int->Option (Bool))->Int×Int->Option (Bool):=fun m (c,a)=>
 bif(decide (a<((qa1.rows b).length:Int)))then(
 bnd (idx b a) fun⟨_,d,_,_⟩=>
 bnd (qaw (!(d != c)) (idx b a)) fun⟨_,_,e,_⟩=>
 bnd (qaw (!(d != c)) (idx b a)) fun⟨_,f,_,_⟩=>
 bnd (qaw (!(bif(d != c)then true else(decide (e<f)))) (idx b a)) fun⟨g,_,_,_⟩=>
 bnd (qaw ((!(bif(d != c)then true else(decide (e<f))))&&(g != 1)) (idx b a)) fun⟨_,_,j,_⟩=>
 bnd (qaw ((!(bif(d != c)then true else(decide (e<f))))&&(g != 1)) (idx b a)) fun⟨_,k,_,_⟩=>
 bnd (qaw ((!(bif(bif(d != c)then true else(decide (e<f)))then true else(bif(g != 1)then(j != k)else false)))&&(decide (a>0))) (idx b a)) fun⟨l,_,_,_⟩=>
 bnd (qaw ((!(bif(bif(d != c)then true else(decide (e<f)))then true else(bif(g != 1)then(j != k)else false)))&&(bif(decide (a>0))then(l==1)else false)) (idx b (IntKind.i64.wrap (a - 1)))) fun⟨o,_,_,_⟩=>
 bif(bif(bif(bif(d != c)then true else(decide (e<f)))then true else(bif(g != 1)then(j != k)else false))then true else(bif(bif(decide (a>0))then(l==1)else false)then(o==1)else false))then(
 some false)
 else(
 bnd (idx b a) fun⟨_,p,_,_⟩=>
 qan (qey n b a i m) n p))
 else(
 bnd (qaw (c==((qab.rows i).length:Int)) (qf3 n)) fun q=>
 some (bif(c==((qab.rows i).length:Int))then q else false))
def qog (n:Nat) (c:qid):Option (Bool):=
 match c with
 | ⟨a⟩=>
 bnd (qoy n (qid.mk a)) fun d=>
 bif d then(
 bnd (qf3 n) fun e=>
 some e)
 else(
 bnd (qkr n (qid.mk a)) fun⟨b,f⟩=>
 bif(f != 0)then(
 bnd (qaw (((qa1.rows b).length:Int)==0) (qf3 n)) fun g=>
 some (bif(((qa1.rows b).length:Int)==0)then g else false))
 else(
 qan (qec n b a) n ((0:Int),(0:Int))))
set_option maxHeartbeats 4000000 in
theorem q0o (n:Nat):∀ (d:qid) (r:Bool),qog n d=some r->qac Tryz.prog 5 [PV.agg (q21.cells d)] (q15 r):=by
 intro d r h;obtain⟨e⟩:=d;unfold qog at h;refine qac.of_vcN mixed (fun _ _=>Tryz.call5 _ _) Tryz.func5 (by kernel_rfl) (inl:=[1000000]) ?_;conv=>whnf
 refine bq h fun _ v h=>?_;refine⟨_,(qum n _ _ v),?_⟩;conv=>whnf
 apply ifc h<;>intro c h
 ·conv=>whnf
  refine bq h fun _ j h=>?_;refine⟨_,(qga n _ j),?_⟩;obtain rfl:=sj h;conv=>whnf
  try exact fin
 ·conv=>whnf
  refine bq h fun⟨f,_⟩ u h=>?_;refine⟨_,(qoa n _ _ u),?_⟩;conv=>whnf
  apply ifc h<;>intro c h
  ·conv=>whnf
   refine bq h fun _ w h=>?_;refine⟨_,fun a=>(qga n _ (qad w a)),?_⟩;conv=>whnf
   refine⟨id,?_⟩;obtain rfl:=sj h;conv=>whnf
   try exact fin
  ·conv=>whnf
   refine qbl.fn [1000000] (S:=Int×Int) (fun(i,b)=>[(1,.ptr 0 0),(3,pY f),(5,pI i),(6,pI b)]) (fun(i,b)=>[.box 24 [pC e]]) (B:=qec n f e) h (wk [0] []) ?_;intro F st h;obtain⟨i,b⟩:=st;unfold qec at h;conv=>whnf
   apply ifc h<;>intro c h
   ·conv=>whnf
    refine bq h fun⟨_,_,_,_⟩ s h=>?_;refine⟨_,Codec.at_ qc2 s,?_⟩;conv=>whnf
    refine⟨id,id,?_⟩;conv=>whnf
    refine bq h fun⟨_,_,_,_⟩ q h=>?_;refine⟨_,fun a=>Codec.at_ qc2 (qad q a),?_⟩;conv=>whnf
    refine⟨id,id,id,id,?_⟩;conv=>whnf
    refine bq h fun⟨_,_,_,_⟩ p h=>?_;refine⟨_,fun a=>Codec.at_ qc2 (qad p a),?_⟩;conv=>whnf
    iterate 7 refine⟨id,?_⟩
    conv=>whnf
    refine bq h fun⟨_,_,_,_⟩ o h=>?_;refine⟨_,fun a=>Codec.at_ qc2 (qad o a),?_⟩;conv=>whnf
    iterate 6 refine⟨id,?_⟩
    conv=>whnf
    refine bq h fun⟨_,_,_,_⟩ m h=>?_;refine⟨_,fun a=>Codec.at_ qc2 (qad m a),?_⟩;conv=>whnf
    refine⟨id,id,id,id,?_⟩;conv=>whnf
    refine bq h fun⟨_,_,_,_⟩ l h=>?_;refine⟨_,fun a=>Codec.at_ qc2 (qad l a),?_⟩;conv=>whnf
    iterate 11 refine⟨id,?_⟩
    conv=>whnf
    refine bq h fun⟨_,_,_,_⟩ k h=>?_;refine⟨_,fun a=>Codec.at_ qc2 (qad k a),?_⟩;conv=>whnf
    iterate 9 refine⟨id,?_⟩
    conv=>whnf
    refine bq h fun⟨_,_,_,_⟩ E h=>?_;refine⟨_,fun a=>Codec.at_ qc2 (qad E a),?_⟩;conv=>whnf
    iterate 6 refine⟨id,?_⟩
    conv=>whnf
    apply ifc h<;>intro c h
    ·obtain rfl:=sj h
     conv=>whnf
     try exact fin
    ·conv=>whnf
     refine bq h fun⟨_,_,_,_⟩ D h=>?_;refine⟨_,Codec.at_ qc2 D,?_⟩;conv=>whnf
     refine qbl.fn [1000000] (S:=Int) (fun g=>[(1,.ptr 0 0),(3,pY f),(6,pI b),(7,pI g)]) (fun g=>[.box 24 [pC e]]) (B:=qey n f b e F) h (wk [0] []) ?_;intro _ g h;unfold qey at h;conv=>whnf
     refine bq h fun⟨_,_,_,_⟩ C h=>?_;refine⟨_,Codec.at_ qc2 C,?_⟩;conv=>whnf
     refine⟨id,id,id,id,id,?_⟩;conv=>whnf
     apply ifc h<;>intro c h
     ·conv=>whnf
      refine bq h fun⟨_,_,_,⟨_,_,⟨_,_,_,_,_,_⟩,_,_⟩,_,_,_,_,_,_,_,_,_⟩ z h=>?_;refine⟨_,Codec.at_ qda z,?_⟩;conv=>whnf
      refine bq h fun _ y h=>?_;refine⟨_,(qs6 n _ _ y),?_⟩;conv=>whnf
      refine bq h fun⟨_,_,_,_⟩ x h=>?_;refine⟨_,Codec.at_ qc2 x,?_⟩;conv=>whnf
      apply ifc h<;>intro c h
      ·obtain rfl:=sj h
       conv=>whnf
       try exact fin
      ·conv=>whnf
       exact⟨(IntKind.i64.wrap (g+1)),h,wk [0] []⟩
     ·conv=>whnf
      refine bq h fun⟨_,_,G,_⟩ A h=>?_;refine⟨_,Codec.at_ qc2 A,?_⟩;conv=>whnf
      exact⟨((IntKind.i64.wrap (G+1)),(IntKind.i64.wrap (b+1))),h,wk [0] []⟩
   ·conv=>whnf
    refine bq h fun _ t h=>?_;refine⟨_,fun a=>(qga n _ (qad t a)),?_⟩;conv=>whnf
    refine⟨id,?_⟩;obtain rfl:=sj h;conv=>whnf
    try exact fin
abbrev q5x (r:Bool):PV:=PV.bool r
def qhr (n:Nat) (b:List SS) (d:SS):(Int->Option (Bool))->Int->Option (Bool):=fun c a=>
 bif(decide (a<((qai b).length:Int)))then(
 bnd (idx b a) fun e=>
 bif(e==d)then(
 some true)
 else(
 c (IntKind.i64.wrap (a+1))))
 else(
 some false)
def qjl (n:Nat) (a:List SS) (b:SS):Option (Bool):=
 qan (qhr n a b) n (0:Int)
theorem qqq (n:Nat):∀ (a:List SS) (b:SS) (r:Bool),qjl n a b=some r->qac Tryz.prog 18 [PV.sl (qai a),PV.str b] (q5x r):=by
 intro a b r h;unfold qjl at h;refine qac.of_vcN mixed (fun _ _=>Tryz.call18 _ _) Tryz.func18 (by kernel_rfl) (inl:=[1000000]) ?_;conv=>whnf
 refine qbl.fn [1000000] (S:=Int) (fun c=>[(0,pT a),(1,pS b),(5,pI c)]) (fun c=>[]) (B:=qhr n a b) h (wk [] []) ?_;intro _ c h;unfold qhr at h;conv=>whnf
 apply ifc h<;>intro e h
 ·conv=>whnf
  refine bq h fun _ d h=>?_;refine⟨_,Codec.at_ qpl d,?_⟩;conv=>whnf
  apply ifc h<;>intro e h
  ·obtain rfl:=sj h
   conv=>whnf
   try exact fin
  ·conv=>whnf
   exact⟨(IntKind.i64.wrap (c+1)),h,wk [] []⟩
 ·obtain rfl:=sj h
  conv=>whnf
  try exact fin
abbrev q3s (r:Bool):PV:=PV.bool r
def qfd (n:Nat) (f:Int) (d:List qa1) (e c m:Int) (g:Int->Option (Bool)):(Int->Option (Bool))->Int->Option (Bool):=fun i a=>
 bif(decide (a<f))then(
 bnd (idx d e) fun⟨_,_,_,j⟩=>
 bnd (idx j a) fun⟨b,_,_,_⟩=>
 bnd (qaw (b==c) (idx d e)) fun⟨_,_,_,k⟩=>
 bnd (qaw (b==c) (idx k a)) fun⟨_,l,_,_⟩=>
 bif(bif(b==c)then(l==m)else false)then(
 some false)
 else(
 i (IntKind.i64.wrap (a+1))))
 else(
 g (IntKind.i64.wrap (f+1)))
def qfc (n:Nat) (d:List qa1) (c:Int) (e:List qab) (p:Int->Option (Bool)):(Int->Option (Bool))->Int->Option (Bool):=fun q k=>
 bnd (idx d c) fun⟨_,_,_,u⟩=>
 bif(decide (k<((qep.rows u).length:Int)))then(
 bnd (idx d c) fun⟨_,_,_,v⟩=>
 bnd (idx v k) fun⟨a,b,w,x⟩=>
 bnd (idx d c) fun⟨_,g,_,_⟩=>
 bnd (qaw (!(decide (a<g))) (idx d c)) fun⟨_,_,j,_⟩=>
 bnd (qaw (!(bif(bif(decide (a<g))then true else(decide (a>j)))then true else(decide (b<0)))) (idx e a)) fun⟨_,o,_,⟨_,_,⟨_,_,_,_,_,_⟩,_,_⟩,_,_,_,_,_,_,_,_,_⟩=>
 bnd (qaw (!(bif(bif(bif(decide (a<g))then true else(decide (a>j)))then true else(decide (b<0)))then true else(decide (b≥((qa6.rows o).length:Int))))) (idx e a)) fun⟨y,_,_,⟨_,_,⟨_,_,_,_,_,_⟩,_,_⟩,_,_,_,_,_,_,_,_,_⟩=>
 bif(bif(bif(bif(bif(decide (a<g))then true else(decide (a>j)))then true else(decide (b<0)))then true else(decide (b≥((qa6.rows o).length:Int))))then true else(y != 1))then(
 some false)
 else(
 bnd (idx e a) fun⟨_,z,_,⟨_,_,⟨_,_,_,_,_,_⟩,_,_⟩,_,_,_,_,_,_,_,_,_⟩=>
 bnd (idx z b) fun⟨A,_⟩=>
 bnd (idx A (0:Int)) fun⟨l,B,C,_⟩=>
 bnd (qh2 n (qid.mk e) a) fun⟨s,_,f⟩=>
 bnd (qaw (!(f != 0)) (qjl n B w)) fun i=>
 bnd (qaw (!(bif(f != 0)then true else(!i))) (qjl n C x)) fun m=>
 bnd (qaw ((!(bif(bif(f != 0)then true else(!i))then true else(!m)))&&(!(l==([]:SS)))) (qjl n s l)) fun t=>
 bif(bif(bif(bif(f != 0)then true else(!i))then true else(!m))then true else(bif(!(l==([]:SS)))then t else false))then(
 some false)
 else(
 qan (qfd n k d c a b q) n (0:Int))))
 else(
 p (IntKind.i64.wrap (c+1)))
def qgq (n:Nat) (a:List qa1) (d:List qab):(Int->Option (Bool))->Int->Option (Bool):=fun c b=>
 bif(decide (b<((qa1.rows a).length:Int)))then(
 qan (qfc n a b d c) n (0:Int))
 else(
 bnd (qf3 n) fun e=>
 some e)
def qpo (n:Nat) (b:qid):Option (Bool):=
 match b with
 | ⟨a⟩=>
 bnd (qoy n (qid.mk a)) fun c=>
 bif c then(
 bnd (qf3 n) fun d=>
 some d)
 else(
 bnd (qkr n (qid.mk a)) fun⟨e,f⟩=>
 bif(f != 0)then(
 bnd (qf3 n) fun g=>
 some g)
 else(
 qan (qgq n e a) n (0:Int)))
set_option maxHeartbeats 4000000 in
theorem q1x (n:Nat):∀ (g:qid) (r:Bool),qpo n g=some r->qac Tryz.prog 6 [PV.agg (q21.cells g)] (q3s r):=by
 intro g r h;obtain⟨f⟩:=g;unfold qpo at h;refine qac.of_vcN mixed (fun _ _=>Tryz.call6 _ _) Tryz.func6 (by kernel_rfl) (inl:=[40000015,1000000]) ?_;conv=>whnf
 refine bq h fun _ D h=>?_;refine⟨_,(qum n _ _ D),?_⟩;conv=>whnf
 apply ifc h<;>intro c h
 ·conv=>whnf
  refine bq h fun _ l h=>?_;refine⟨_,(qga n _ l),?_⟩;obtain rfl:=sj h;conv=>whnf
  try exact fin
 ·conv=>whnf
  refine bq h fun⟨d,_⟩ C h=>?_;refine⟨_,(qoa n _ _ C),?_⟩;conv=>whnf
  apply ifc h<;>intro c h
  ·conv=>whnf
   refine bq h fun _ y h=>?_;refine⟨_,(qga n _ y),?_⟩;obtain rfl:=sj h;conv=>whnf
   try exact fin
  ·conv=>whnf
   refine qbl.fn [40000015,1000000] (S:=Int) (fun b=>[(1,.ptr 0 0),(3,pY d),(5,pI b)]) (fun b=>[.box 24 [pC f]]) (B:=qgq n d f) h (wk [0] []) ?_;intro L b h;unfold qgq at h;conv=>whnf
   apply ifc h<;>intro c h
   ·conv=>whnf
    refine qbl.fn [40000015,1000000] (S:=Int) (fun e=>[(1,.ptr 0 0),(3,pY d),(5,pI b),(6,pI e)]) (fun e=>[.box 24 [pC f]]) (B:=qfc n d b f L) h (wk [0] []) ?_;intro M e h;unfold qfc at h;conv=>whnf
    refine bq h fun⟨_,_,_,_⟩ z h=>?_;refine⟨_,Codec.at_ qc2 z,?_⟩;conv=>whnf
    apply ifc h<;>intro c h
    ·conv=>whnf
     refine bq h fun⟨_,_,_,_⟩ x h=>?_;refine⟨_,Codec.at_ qc2 x,?_⟩;conv=>whnf
     refine bq h fun⟨j,k,N,O⟩ w h=>?_;refine⟨_,Codec.at_ q8o w,?_⟩;conv=>whnf
     refine bq h fun⟨_,_,_,_⟩ v h=>?_;refine⟨_,Codec.at_ qc2 v,?_⟩;conv=>whnf
     refine⟨id,id,id,?_⟩;conv=>whnf
     refine bq h fun⟨_,_,_,_⟩ u h=>?_;refine⟨_,fun a=>Codec.at_ qc2 (qad u a),?_⟩;conv=>whnf
     iterate 13 refine⟨id,?_⟩
     conv=>whnf
     refine bq h fun⟨_,_,_,⟨_,_,⟨_,_,_,_,_,_⟩,_,_⟩,_,_,_,_,_,_,_,_,_⟩ t h=>?_;refine⟨_,fun a=>Codec.at_ qda (qad t a),?_⟩;conv=>whnf
     iterate 10 refine⟨id,?_⟩
     conv=>whnf
     refine bq h fun⟨_,_,_,⟨_,_,⟨_,_,_,_,_,_⟩,_,_⟩,_,_,_,_,_,_,_,_,_⟩ s h=>?_;refine⟨_,fun a=>Codec.at_ qda (qad s a),?_⟩;conv=>whnf
     refine⟨id,id,id,id,?_⟩;conv=>whnf
     apply ifc h<;>intro c h
     ·obtain rfl:=sj h
      conv=>whnf
      try exact fin
     ·conv=>whnf
      refine bq h fun⟨_,_,_,⟨_,_,⟨_,_,_,_,_,_⟩,_,_⟩,_,_,_,_,_,_,_,_,_⟩ q h=>?_;refine⟨_,Codec.at_ qda q,?_⟩;conv=>whnf
      refine bq h fun⟨_,_⟩ p h=>?_;refine⟨_,Codec.at_ ql2 p,?_⟩;conv=>whnf
      refine bq h fun⟨_,_,_,_⟩ o h=>?_;refine⟨_,Codec.at_ qea o,?_⟩;conv=>whnf
      refine bq h fun⟨_,_,_⟩ m h=>?_;refine⟨_,(q9b n _ _ _ m),?_⟩;conv=>whnf
      refine⟨id,id,id,id,?_⟩;conv=>whnf
      refine bq h fun _ K h=>?_;refine⟨_,fun a=>(qqq n _ _ _ (qad K a)),?_⟩;conv=>whnf
      iterate 6 refine⟨id,?_⟩
      conv=>whnf
      refine bq h fun _ J h=>?_;refine⟨_,fun a=>(qqq n _ _ _ (qad J a)),?_⟩;conv=>whnf
      iterate 8 refine⟨id,?_⟩
      conv=>whnf
      refine bq h fun _ I h=>?_;refine⟨_,fun a=>(qqq n _ _ _ (qad I a)),?_⟩;conv=>whnf
      refine⟨id,id,id,?_⟩;conv=>whnf
      apply ifc h<;>intro c h
      ·obtain rfl:=sj h
       conv=>whnf
       try exact fin
      ·conv=>whnf
       refine qbl.fn [40000015,1000000] (S:=Int) (fun i=>[(1,.ptr 0 0),(3,pY d),(5,pI b),(6,pI e),(7,.ptr 1 0),(12,pI i)]) (fun i=>[.box 24 [pC f],.box 53 [pI j,pI k,pS N,pS O]]) (B:=qfd n e d b j k M) h (wk [0,1] []) ?_;intro _ i h;unfold qfd at h;conv=>whnf
       apply ifc h<;>intro c h
       ·conv=>whnf
        refine bq h fun⟨_,_,_,_⟩ H h=>?_;refine⟨_,Codec.at_ qc2 H,?_⟩;conv=>whnf
        refine bq h fun⟨_,_,_,_⟩ G h=>?_;refine⟨_,Codec.at_ q8o G,?_⟩;conv=>whnf
        refine⟨id,id,?_⟩;conv=>whnf
        refine bq h fun⟨_,_,_,_⟩ F h=>?_;refine⟨_,fun a=>Codec.at_ qc2 (qad F a),?_⟩;conv=>whnf
        refine⟨id,id,id,id,?_⟩;conv=>whnf
        refine bq h fun⟨_,_,_,_⟩ E h=>?_;refine⟨_,fun a=>Codec.at_ q8o (qad E a),?_⟩;conv=>whnf
        iterate 6 refine⟨id,?_⟩
        conv=>whnf
        apply ifc h<;>intro c h
        ·obtain rfl:=sj h
         conv=>whnf
         try exact fin
        ·conv=>whnf
         exact⟨(IntKind.i64.wrap (i+1)),h,wk [0,1] []⟩
       ·conv=>whnf
        exact⟨(IntKind.i64.wrap (e+1)),h,wk [0] []⟩
    ·conv=>whnf
     exact⟨(IntKind.i64.wrap (b+1)),h,wk [0] []⟩
   ·conv=>whnf
    refine bq h fun _ A h=>?_;refine⟨_,(qga n _ A),?_⟩;obtain rfl:=sj h;conv=>whnf
    try exact fin
end W
end
