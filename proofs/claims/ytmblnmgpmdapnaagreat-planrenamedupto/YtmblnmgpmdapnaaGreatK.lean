/- A part of the proof: contracts, printed by program. -/
import Derived.Test.YtmblnmgpmdapnaaGreatB
import Derived.Test.YtmblnmgpmdapnaaGreatC
import Derived.Test.YtmblnmgpmdapnaaGreatD
import Derived.Test.YtmblnmgpmdapnaaGreatG
import Derived.Test.YtmblnmgpmdapnaaGreatH
import Derived.Test.YtmblnmgpmdapnaaGreatJ
set_option linter.unusedVariables false
set_option linter.unusedSimpArgs false
set_option linter.unnecessarySimpa false
set_option linter.deprecated false
set_option linter.unusedSectionVars false
set_option linter.constructorNameAsVariable false
section
set_option maxRecDepth 100000
open Go Go.Proofs Ax
namespace W
def quu (n:Nat) (a:List qep×Int->Option (List qep)) (b:Int):List qep->Option (List qep):=fun c=>
 a (c,(IntKind.i64.wrap (b+1)))
def qlm (n:Nat) (f:List qa6) (j:Int) (G:List qaa) (H:Int) (I:SS) (J:Int) (K:Bool) (m:Int) (o:SS) (p:List Val) (q s:List SS) (t:List qaa) (u:SS) (v:List qbj) (w:Bool) (x:List qar) (y z:List qaa) (A:List qaf) (B:List SS) (C:Bool) (D:List SS) (i:Int):(List qep×Int->Option (List qep))->List qep×Int->Option (List qep):=fun g (b,a)=>
 bif(bif(decide (a<((qa6.rows f).length:Int)))then(j==1)else false)then(
 bnd (idx f a) fun⟨E,_⟩=>
 bnd (idx E (0:Int)) fun⟨c,d,e,_⟩=>
 bnd (qaw ((!(bif(((qai d).length:Int)==0)then true else(((qai e).length:Int)==0)))&&(!(c==([]:SS)))) (q0u n (qab.mk j f G (qaa.mk H I (Val.mk J K m o p q) s t) u v w x y z A B C) a D c)) fun F=>
 bif(bif(bif(((qai d).length:Int)==0)then true else(((qai e).length:Int)==0))then true else(bif(!(c==([]:SS)))then F else false))then(
 quu n g a b)
 else(
 bnd (idx d (0:Int)) fun k=>
 bnd (idx e (0:Int)) fun l=>
 chk (decide ((qep.rows (b++[qep.mk i a k l])).length * 48<=140737488355328)) (
 quu n g a (b++[qep.mk i a k l]))))
 else(
 some b)
def qtg (n:Nat) (c:qid) (a:Int):Option (List qep):=
 match c with
 | ⟨b⟩=>
 bnd (idx b a) fun⟨w,x,y,⟨z,A,⟨B,C,d,e,f,g⟩,i,j⟩,k,l,m,o,p,q,s,t,u⟩=>
 bnd (qh2 n (qid.mk b) a) fun⟨v,_,_⟩=>
 qan (qlm n x w y z A B C d e f g i j k l m o p q s t u v a) n (([]:List _),(0:Int))
def qpz (n:Nat) (o:List qab) (c:Int) (m:List qep×List qa1×Int->Option (List qa1×Int)):Int×List qa1×List qep->Option (List qa1×Int):=fun(j,a,p)=>
 bnd (qxb (IntKind.i64.wrap (j - 1))) fun b=>
 chk (decide (b<(qa1.rows a).length)) (
 bnd (a[b]?) fun⟨d,e,_,f⟩=>
 bnd (qtg n (qid.mk o) c) fun k=>
 bnd (qxb (IntKind.i64.wrap (j - 1))) fun l=>
 chk (decide (l<(qa1.rows a).length)) (
 bnd ((a.set b (qa1.mk d e c f))[l]?) fun⟨_,_,_,g⟩=>
 chk (decide (l+1=(qa1.rows (a.set b (qa1.mk d e c f))).length)) (
 chk (decide ((qep.rows p).length=(qep.rows g).length)) (
 chk (decide ((qep.rows (g++k)).length * 48<=140737488355328)) (
 bnd (qxb (IntKind.i64.wrap (j - 1))) fun i=>
 chk (decide (i<(qa1.rows a).length)) (
 chk (decide (i+1=(qa1.rows (a.set b (qa1.mk d e c f))).length)) (
 bnd ((a.set b (qa1.mk d e c f))[i]?) fun⟨q,s,t,_⟩=>
 m ((g++k),((a.set b (qa1.mk d e c f)).set i (qa1.mk q s t (g++k))),(IntKind.i64.wrap (c+1))))))))))
def qna (n:Nat) (d:List qab):(List qep×List qa1×Int->Option (List qa1×Int))->List qep×List qa1×Int->Option (List qa1×Int):=fun e (C,a,c)=>
 bif(decide (c<((qab.rows d).length:Int)))then(
 bnd (idx d c) fun⟨E,F,G,⟨g,i,⟨j,k,l,m,o,p⟩,q,s⟩,t,u,v,w,x,y,z,A,B⟩=>
 bnd (q3k n (qab.mk E F G (qaa.mk g i (Val.mk j k l m o p) q s) t u v w x y z A B)) fun b=>
 bnd (qaw (!(bif(b != 1)then true else(((((qa1.rows a).length):Nat):Int)==0))) (qxb (IntKind.i64.wrap (((((qa1.rows a).length):Nat):Int) - 1)))) fun f=>
 chk (bif(!(bif(b != 1)then true else(((((qa1.rows a).length):Nat):Int)==0)))then decide (f<(qa1.rows a).length)else true) (
 bnd (qaw (!(bif(b != 1)then true else(((((qa1.rows a).length):Nat):Int)==0))) (a[f]?)) fun⟨D,_,_,_⟩=>
 bif(bif(bif(b != 1)then true else(((((qa1.rows a).length):Nat):Int)==0))then true else(D != 1))then(
 chk (decide ((qa1.rows (a++[qa1.mk b c (0:Int) ([]:List qep)])).length * 48<=140737488355328)) (
 qpz n d c e ((IntKind.i64.wrap (((((qa1.rows a).length):Nat):Int)+1)),(a++[qa1.mk b c (0:Int) ([]:List qep)]),([]:List qep))))
 else(
 qpz n d c e (((((qa1.rows a).length):Nat):Int),a,C))))
 else(
 some (a,(0:Int)))
def zal (n:Nat) (c:qid):Option (List qa1×Int):=
 match c with
 | ⟨a⟩=>
 bnd (q0s n (qid.mk a)) fun⟨_,b⟩=>
 bif(b != 0)then(
 some (([]:List qa1),b))
 else(
 qan (qna n a) n (([]:List _),([]:List _),(0:Int)))
abbrev zec (r:Bool):PV:=PV.bool r
def qnc (n:Nat) (c:List qa1) (a:Int) (f:List qa1) (d:Int->Option (Bool)):(Int->Option (Bool))->Int->Option (Bool):=fun e b=>
 bnd (idx c a) fun⟨_,_,_,g⟩=>
 bif(decide (b<((qep.rows g).length:Int)))then(
 bnd (idx c a) fun⟨_,_,_,i⟩=>
 bnd (idx i b) fun⟨j,k,l,m⟩=>
 bnd (idx f a) fun⟨_,_,_,o⟩=>
 bnd (idx o b) fun⟨p,q,s,t⟩=>
 bif(!(bif(j==p)then(bif(k==q)then(bif(l==s)then(bif(m==t)then true else false)else false)else false)else false))then(
 some false)
 else(
 e (IntKind.i64.wrap (b+1))))
 else(
 d (IntKind.i64.wrap (a+1)))
def qnb (n:Nat) (d g:List qa1):(Int->Option (Bool))->Int->Option (Bool):=fun k a=>
 bif(decide (a<((qa1.rows d).length:Int)))then(
 bnd (idx d a) fun⟨b,_,_,_⟩=>
 bnd (idx g a) fun⟨c,_,_,_⟩=>
 bnd (qaw (!(b != c)) (idx d a)) fun⟨_,e,_,_⟩=>
 bnd (qaw (!(b != c)) (idx g a)) fun⟨_,f,_,_⟩=>
 bnd (qaw (!(bif(b != c)then true else(e != f))) (idx d a)) fun⟨_,_,i,_⟩=>
 bnd (qaw (!(bif(b != c)then true else(e != f))) (idx g a)) fun⟨_,_,j,_⟩=>
 bnd (qaw (!(bif(bif(b != c)then true else(e != f))then true else(i != j))) (idx d a)) fun⟨_,_,_,l⟩=>
 bnd (qaw (!(bif(bif(b != c)then true else(e != f))then true else(i != j))) (idx g a)) fun⟨_,_,_,m⟩=>
 bif(bif(bif(bif(b != c)then true else(e != f))then true else(i != j))then true else(((qep.rows l).length:Int) != ((qep.rows m).length:Int)))then(
 some false)
 else(
 qan (qnc n d a g k) n (0:Int)))
 else(
 some true)
def qvh (n:Nat) (a b:List qa1):Option (Bool):=
 bif(((qa1.rows a).length:Int) != ((qa1.rows b).length:Int))then(
 some false)
 else(
 qan (qnb n a b) n (0:Int))
set_option maxHeartbeats 4000000 in
theorem zb0 (n:Nat):∀ (b c:List qa1) (r:Bool),qvh n b c=some r->qac Tryz.prog 12 [PV.sl (qa1.rows b),PV.sl (qa1.rows c)] (zec r):=by
 intro b c r h;unfold qvh at h;refine qac.of_vcN mixed (fun _ _=>Tryz.call12 _ _) Tryz.func12 (by kernel_rfl) (inl:=[1000000]) ?_;conv=>whnf
 apply ifc h<;>intro e h
 ·obtain rfl:=sj h
  conv=>whnf
  try exact fin
 ·conv=>whnf
  refine qbl.fn [1000000] (S:=Int) (fun d=>[(0,pY b),(1,pY c),(5,pI d)]) (fun d=>[]) (B:=qnb n b c) h (wk [] []) ?_;intro w d h;unfold qnb at h;conv=>whnf
  apply ifc h<;>intro e h
  ·conv=>whnf
   refine bq h fun⟨_,_,_,_⟩ l h=>?_;refine⟨_,Codec.at_ qc2 l,?_⟩;conv=>whnf
   refine bq h fun⟨_,_,_,_⟩ k h=>?_;refine⟨_,Codec.at_ qc2 k,?_⟩;conv=>whnf
   refine⟨id,id,?_⟩;conv=>whnf
   refine bq h fun⟨_,_,_,_⟩ j h=>?_;refine⟨_,fun a=>Codec.at_ qc2 (qad j a),?_⟩;conv=>whnf
   refine⟨id,id,id,id,?_⟩;conv=>whnf
   refine bq h fun⟨_,_,_,_⟩ i h=>?_;refine⟨_,fun a=>Codec.at_ qc2 (qad i a),?_⟩;conv=>whnf
   iterate 7 refine⟨id,?_⟩
   conv=>whnf
   refine bq h fun⟨_,_,_,_⟩ v h=>?_;refine⟨_,fun a=>Codec.at_ qc2 (qad v a),?_⟩;conv=>whnf
   refine⟨id,id,id,id,?_⟩;conv=>whnf
   refine bq h fun⟨_,_,_,_⟩ u h=>?_;refine⟨_,fun a=>Codec.at_ qc2 (qad u a),?_⟩;conv=>whnf
   iterate 7 refine⟨id,?_⟩
   conv=>whnf
   refine bq h fun⟨_,_,_,_⟩ t h=>?_;refine⟨_,fun a=>Codec.at_ qc2 (qad t a),?_⟩;conv=>whnf
   refine⟨id,id,id,id,id,?_⟩;conv=>whnf
   refine bq h fun⟨_,_,_,_⟩ s h=>?_;refine⟨_,fun a=>Codec.at_ qc2 (qad s a),?_⟩;conv=>whnf
   iterate 6 refine⟨id,?_⟩
   conv=>whnf
   apply ifc h<;>intro e h
   ·obtain rfl:=sj h
    conv=>whnf
    try exact fin
   ·conv=>whnf
    refine qbl.fn [1000000] (S:=Int) (fun f=>[(0,pY b),(1,pY c),(5,pI d),(6,pI f)]) (fun f=>[]) (B:=qnc n b d c w) h (wk [] []) ?_;intro _ f h;unfold qnc at h;conv=>whnf
    refine bq h fun⟨_,_,_,_⟩ q h=>?_;refine⟨_,Codec.at_ qc2 q,?_⟩;conv=>whnf
    apply ifc h<;>intro e h
    ·conv=>whnf
     refine bq h fun⟨_,_,_,_⟩ p h=>?_;refine⟨_,Codec.at_ qc2 p,?_⟩;conv=>whnf
     refine bq h fun⟨_,_,_,_⟩ o h=>?_;refine⟨_,Codec.at_ q8o o,?_⟩;conv=>whnf
     refine bq h fun⟨_,_,_,_⟩ m h=>?_;refine⟨_,Codec.at_ qc2 m,?_⟩;conv=>whnf
     refine bq h fun⟨_,_,_,_⟩ g h=>?_;refine⟨_,Codec.at_ q8o g,?_⟩;conv=>whnf
     refine⟨by kernel_rfl,?_⟩;conv=>whnf
     apply ifc h<;>intro e h
     ·obtain rfl:=sj h
      conv=>whnf
      try exact fin
     ·conv=>whnf
      exact⟨(IntKind.i64.wrap (f+1)),h,wk [] []⟩
    ·conv=>whnf
     exact⟨(IntKind.i64.wrap (d+1)),h,wk [] []⟩
  ·obtain rfl:=sj h
   conv=>whnf
   try exact fin
abbrev zd9 (r:SS):PV:=PV.str r
def qj2 (n:Nat) (a b:SS):Option SS:=
 bif(a==([]:SS))then(
 some ([]:SS))
 else(
 chk (decide (((a.length+b.length:Nat):Int)<=qtu)) (
 some (a++b)))
theorem qko (n:Nat):∀ (a b r:SS),qj2 n a b=some r->qac Tryz.prog 44 [PV.str a,PV.str b] (zd9 r):=by
 intro a b r h;unfold qj2 at h;refine qac.of_vcN mixed (fun _ _=>Tryz.call44 _ _) Tryz.func44 (by kernel_rfl) (inl:=[1000000]) ?_;conv=>whnf
 apply ifc h<;>intro _ h
 ·obtain rfl:=sj h
  conv=>whnf
  try exact fin
 ·conv=>whnf
  obtain⟨c,h⟩:=qak h;refine⟨(of_decide_eq_true c:((a.length+b.length:Nat):Int)<=qtu),?_⟩;obtain rfl:=sj h;conv=>whnf
  try exact fin
abbrev qh5 (r:List qaa):PV:=PV.sl (qaa.rows r)
abbrev zry:Type:=qaa->SS->Option (qaa)
def qfn (n:Nat) (c:List qaa) (g43:zry) (w:SS):(List qaa×Int->Option (List qaa))->List qaa×Int->Option (List qaa):=fun p (a,b)=>
 bif(decide (b<((qaa.rows c).length:Int)))then(
 bnd (idx c b) fun⟨x,y,⟨z,A,B,q,s,t⟩,u,v⟩=>
 bnd (g43 (qaa.mk x y (Val.mk z A B q s t) u v) w) fun⟨d,e,⟨f,g,i,j,k,l⟩,m,o⟩=>
 chk (decide ((qaa.rows (a++[qaa.mk d e (Val.mk f g i j k l) m o])).length * 160<=140737488355328)) (
 p ((a++[qaa.mk d e (Val.mk f g i j k l) m o]),(IntKind.i64.wrap (b+1)))))
 else(
 some a)
abbrev zrz:Type:=(List qaa)->SS->Option (List qaa)
def qlx (n:Nat) (g42:zrz) (g43:zry) (a:List qaa) (b:SS):Option (List qaa):=
 qan (qfn n a g43 b) n (([]:List _),(0:Int))
abbrev qi8 (r:qaa):PV:=PV.agg (qcf.cells r)
def qh3 (n:Nat) (g42:zrz) (b:List qaa) (c:SS) (a f:Int) (g:Bool) (i:Int) (j:SS) (k:List Val) (l m:List SS):SS->Option (qaa):=fun d=>
 bnd (g42 b c) fun e=>
 some (qaa.mk a d (Val.mk f g i j k l) m e)
def qmx (n:Nat) (g42:zrz) (g43:zry) (m:qaa) (b:SS):Option (qaa):=
 match m with
 | ⟨a,d,⟨e,f,g,i,j,k⟩,l,c⟩=>
 bif(a==2)then(
 bnd (qj2 n d b) fun o=>
 qh3 n g42 c b a e f g i j k l o)
 else(
 qh3 n g42 c b a e f g i j k l d)
theorem qxr (n:Nat) (g42:zrz) (g43:zry) (g42_ok:∀ (b:List qaa) (c:SS) (r:List qaa),g42 b c=some r->qac Tryz.prog 42 [PV.sl (qaa.rows b),PV.str c] (qh5 r)) (g43_ok:∀ (s:qaa) (q:SS) (r:qaa),g43 s q=some r->qac Tryz.prog 43 [PV.agg (qcf.cells s),PV.str q] (qi8 r)):∀ (b:List qaa) (c:SS) (r:List qaa),qlx n g42 g43 b c=some r->qac Tryz.prog 42 [PV.sl (qaa.rows b),PV.str c] (qh5 r):=by
 intro b c r h;unfold qlx at h;refine qac.of_vcN mixed (fun _ _=>Tryz.call42 _ _) Tryz.func42 (by kernel_rfl) (inl:=[1000000]) ?_;conv=>whnf
 refine qbl.fn [1000000] (S:=List qaa×Int) (fun(a,p)=>[(0,pE b),(1,pS c),(5,.tsl 0 (qaa.rows a)),(6,pI p)]) (fun(a,p)=>[.tail 46 10 (qaa.rows a).length]) (B:=qfn n b g43 c) h (wk [0] [0]) ?_;intro _ st h;obtain⟨a,p⟩:=st;unfold qfn at h;conv=>whnf
 apply ifc h<;>intro _ h
 ·conv=>whnf
  refine bq h fun⟨_,_,⟨_,_,_,_,q,_⟩,_,_⟩ v h=>?_;refine⟨_,Codec.at_ qcf v,?_⟩;conv=>whnf
  refine bq h fun⟨d,e,⟨f,g,i,j,k,l⟩,m,o⟩ u h=>?_;refine⟨_,(g43_ok _ _ _ u),?_⟩;conv=>whnf
  refine⟨Codec.one qcf [qaa.mk d e (Val.mk f g i j k l) m o],qaa.rows [qaa.mk d e (Val.mk f g i j k l) m o],.inl rfl,?_⟩;conv=>whnf
  rw[show qaa.rows a++qaa.rows [qaa.mk d e (Val.mk f g i j k l) m o]=qaa.rows (a++[qaa.mk d e (Val.mk f g i j k l) m o])from Codec.append qcf a [qaa.mk d e (Val.mk f g i j k l) m o]];conv=>whnf
  obtain⟨t,h⟩:=qak h;refine⟨⟨Codec.wide qcf (a++[qaa.mk d e (Val.mk f g i j k l) m o]),of_decide_eq_true t,qcb t (by decide)⟩,?_⟩;conv=>whnf
  refine⟨⟨rfl,rfl,rfl⟩,?_⟩;conv=>whnf
  exact⟨((a++[qaa.mk d e (Val.mk f g i j k l) m o]),(IntKind.i64.wrap (p+1))),h,wk [1] []⟩
 ·obtain rfl:=sj h
  conv=>whnf
  try exact fin
theorem qzc (n:Nat) (g42:zrz) (g43:zry) (g42_ok:∀ (c:List qaa) (d:SS) (r:List qaa),g42 c d=some r->qac Tryz.prog 42 [PV.sl (qaa.rows c),PV.str d] (qh5 r)) (g43_ok:∀ (b:qaa) (a:SS) (r:qaa),g43 b a=some r->qac Tryz.prog 43 [PV.agg (qcf.cells b),PV.str a] (qi8 r)):∀ (b:qaa) (a:SS) (r:qaa),qmx n g42 g43 b a=some r->qac Tryz.prog 43 [PV.agg (qcf.cells b),PV.str a] (qi8 r):=by
 intro b a r h;obtain⟨c,d,⟨g,i,j,k,l,m⟩,o,f⟩:=b;unfold qmx at h;refine qac.of_vcN mixed (fun _ _=>Tryz.call43 _ _) Tryz.func43 (by kernel_rfl) (inl:=[1000000]) ?_;conv=>whnf
 refine qh6.cut (S:=SS) (fun e=>[(1,pS a),(2,.ptr 0 0),(4,.ptr 1 0)]) (fun e=>[.box 46 [pI c,pS e,pI g,pB i,pI j,pS k,pV l,pT m,pT o,pE f],zq4]) (qh3 n g42 f a c g i j k l m o) (r:=r) ?_ ?_
 ·intro e h
  unfold qh3 at h;conv=>whnf
  refine bq h fun _ p h=>?_;refine⟨_,(g42_ok _ _ _ p),?_⟩;obtain rfl:=sj h;conv=>whnf
  try exact fin
 ·conv=>whnf
  apply ifc h<;>intro _ h
  ·conv=>whnf
   refine bq h fun s q h=>?_;refine⟨_,(qko n _ _ _ q),?_⟩;conv=>whnf
   exact⟨s,h,wk [0,1] []⟩
  ·conv=>whnf
   exact⟨d,h,wk [0,1] []⟩
mutual
def qcv:Nat->(List qaa)->SS->Option (List qaa)
 | 0=>fun _ _=>none
 | n+1=>qlx n (qcv n) (qc3 n)
def qc3:Nat->qaa->SS->Option (qaa)
 | 0=>fun _ _=>none
 | n+1=>qmx n (qcv n) (qc3 n)
end
theorem qrj (n:Nat):(∀ (b:List qaa) (d:SS) (r:List qaa),qcv n b d=some r->qac Tryz.prog 42 [PV.sl (qaa.rows b),PV.str d] (qh5 r))/\(∀ (a:qaa) (c:SS) (r:qaa),qc3 n a c=some r->qac Tryz.prog 43 [PV.agg (qcf.cells a),PV.str c] (qi8 r)):=by
 induction n with
 | zero=>exact⟨(by intros; rename_i h; cases h),(by intros; rename_i h; cases h)⟩
 | succ n ih=>
  obtain⟨hg42,hg43⟩:=ih;exact⟨qxr n (qcv n) (qc3 n) hg42 hg43,qzc n (qcv n) (qc3 n) hg42 hg43⟩
theorem qg6 (n:Nat):∀ (a:List qaa) (b:SS) (r:List qaa),qcv n a b=some r->qac Tryz.prog 42 [PV.sl (qaa.rows a),PV.str b] (qh5 r):=(qrj n).1
theorem qkp (n:Nat):∀ (a:qaa) (b:SS) (r:qaa),qc3 n a b=some r->qac Tryz.prog 43 [PV.agg (qcf.cells a),PV.str b] (qi8 r):=(qrj n).2
abbrev q18 (r:qa6):PV:=PV.agg (ql2.cells r)
def qf6 (n:Nat) (g:List qag) (j:SS) (o:List qae):(Int×List qag->Option (qa6))->Int×List qag->Option (qa6):=fun k (a,b)=>
 bif(decide (a<((qag.rows g).length:Int)))then(
 bnd (idx g a) fun⟨l,c,d,e,m⟩=>
 bnd (qj2 n l j) fun f=>
 bnd (qcv n m j) fun i=>
 chk (decide ((qag.rows (b++[qag.mk f c d e i])).length * 88<=140737488355328)) (
 k ((IntKind.i64.wrap (a+1)),(b++[qag.mk f c d e i]))))
 else(
 some (qa6.mk o b))
def qf5 (n:Nat) (d:List qae) (a:SS) (k:List qag):(Int×List qae->Option (qa6))->Int×List qae->Option (qa6):=fun j (b,c)=>
 bif(decide (b<((qae.rows d).length:Int)))then(
 bnd (idx d b) fun⟨l,g,i,m⟩=>
 bnd (qj2 n l a) fun e=>
 bnd (qcv n m a) fun f=>
 chk (decide ((qae.rows (c++[qae.mk e g i f])).length * 88<=140737488355328)) (
 j ((IntKind.i64.wrap (b+1)),(c++[qae.mk e g i f]))))
 else(
 qan (qf6 n k a c) n ((0:Int),([]:List _)))
def qk4 (n:Nat) (a:qa6) (d:SS):Option (qa6):=
 match a with
 | ⟨b,c⟩=>
 qan (qf5 n b d c) n ((0:Int),([]:List _))
theorem q0t (n:Nat):∀ (o:qa6) (k:SS) (r:qa6),qk4 n o k=some r->qac Tryz.prog 41 [PV.agg (ql2.cells o),PV.str k] (q18 r):=by
 intro o k r h;obtain⟨t,q⟩:=o;unfold qk4 at h;refine qac.of_vcN mixed (fun _ _=>Tryz.call41 _ _) Tryz.func41 (by kernel_rfl) (inl:=[1000000]) ?_;conv=>whnf
 refine qbl.fn [1000000] (S:=Int×List qae) (fun(s,a)=>[(1,pS k),(2,.ptr 0 0),(4,.ptr 1 0),(5,.ptr 2 0),(6,pI s)]) (fun(s,a)=>[.box 59 [pN t,pG q],zq8,.box 59 [.tsl 3 (qae.rows a),zq2],.tail 55 4 (qae.rows a).length]) (B:=qf5 n t k q) h (wk [0,1,2,0] [3]) ?_;intro _ st h;obtain⟨s,a⟩:=st;unfold qf5 at h;conv=>whnf
 apply ifc h<;>intro D h
 ·conv=>whnf
  refine bq h fun⟨_,l,m,_⟩ y h=>?_;refine⟨_,Codec.at_ qea y,?_⟩;conv=>whnf
  refine bq h fun c x h=>?_;refine⟨_,(qko n _ _ _ x),?_⟩;conv=>whnf
  refine bq h fun d w h=>?_;refine⟨_,(qg6 n _ _ _ w),?_⟩;conv=>whnf
  refine⟨Codec.one qea [qae.mk c l m d],qae.rows [qae.mk c l m d],.inl rfl,?_⟩;conv=>whnf
  rw[show qae.rows a++qae.rows [qae.mk c l m d]=qae.rows (a++[qae.mk c l m d])from Codec.append qea a [qae.mk c l m d]];conv=>whnf
  obtain⟨u,h⟩:=qak h;refine⟨⟨Codec.wide qea (a++[qae.mk c l m d]),of_decide_eq_true u,qcb u (by decide)⟩,?_⟩;conv=>whnf
  refine⟨⟨rfl,rfl,rfl⟩,?_⟩;conv=>whnf
  exact⟨((IntKind.i64.wrap (s+1)),(a++[qae.mk c l m d])),h,wk [0,1,2,5] []⟩
 ·conv=>whnf
  refine qbl.fn [1000000] (S:=Int×List qag) (fun(p,b)=>[(1,pS k),(2,.ptr 0 0),(4,.ptr 1 0),(5,.ptr 2 0),(8,pI p)]) (fun(p,b)=>[.box 59 [pN t,pG q],zq8,.box 59 [.tsl 3 (qae.rows a),.tsl 4 (qag.rows b)],.tail 55 4 (qae.rows a).length,.tail 68 5 (qag.rows b).length]) (B:=qf6 n q k a) h (wk [0,1,2,3,0] [4]) ?_;intro _ st h;obtain⟨p,b⟩:=st;unfold qf6 at h;conv=>whnf
  apply ifc h<;>intro D h
  ·conv=>whnf
   refine bq h fun⟨_,e,f,g,_⟩ C h=>?_;refine⟨_,Codec.at_ qgu C,?_⟩;conv=>whnf
   refine bq h fun i A h=>?_;refine⟨_,(qko n _ _ _ A),?_⟩;conv=>whnf
   refine bq h fun j z h=>?_;refine⟨_,(qg6 n _ _ _ z),?_⟩;conv=>whnf
   refine⟨Codec.one qgu [qag.mk i e f g j],qag.rows [qag.mk i e f g j],.inl rfl,?_⟩;conv=>whnf
   rw[show qag.rows b++qag.rows [qag.mk i e f g j]=qag.rows (b++[qag.mk i e f g j])from Codec.append qgu b [qag.mk i e f g j]];conv=>whnf
   obtain⟨v,h⟩:=qak h;refine⟨⟨Codec.wide qgu (b++[qag.mk i e f g j]),of_decide_eq_true v,qcb v (by decide)⟩,?_⟩;conv=>whnf
   refine⟨⟨rfl,rfl,rfl⟩,?_⟩;conv=>whnf
   exact⟨((IntKind.i64.wrap (p+1)),(b++[qag.mk i e f g j])),h,wk [0,1,2,3,6] []⟩
  ·obtain rfl:=sj h
   conv=>whnf
   try exact fin
abbrev q93 (r:qid):PV:=PV.agg (q21.cells r)
def qj8 (n:Nat) (i:List SS) (G:SS) (u:List qab) (B:Int) (k:List qa6) (l:List qaa) (m:Int) (o:SS) (p:Int) (q:Bool) (s:Int) (t:SS) (v:List Val) (w x:List SS) (y:List qaa) (z:SS) (A:List qbj) (g:Bool) (C:List qar) (c d:List qaa) (e:List qaf) (j:Bool) (D:Int×List qab->Option (qid)) (H:Int):(Int×List SS->Option (qid))->Int×List SS->Option (qid):=fun E (b,a)=>
 bif(decide (b<((qai i).length:Int)))then(
 bnd (idx i b) fun F=>
 bnd (qj2 n F G) fun f=>
 chk (decide ((qai (a++[f])).length * 16<=140737488355328)) (
 E ((IntKind.i64.wrap (b+1)),(a++[f]))))
 else(
 chk (decide ((qab.rows (u++[qab.mk B k l (qaa.mk m o (Val.mk p q s t v w) x y) z A g C c d e a j])).length * 392<=140737488355328)) (
 D ((IntKind.i64.wrap (H+1)),(u++[qab.mk B k l (qaa.mk m o (Val.mk p q s t v w) x y) z A g C c d e a j]))))
def qj7 (n:Nat) (t:List qaf) (c:SS) (K:List SS) (V:List qab) (a2:Int) (M:List qa6) (O:List qaa) (P:Int) (Q:SS) (R:Int) (S:Bool) (T:Int) (U:SS) (W:List Val) (X Y:List SS) (Z:List qaa) (a0:SS) (a1:List qbj) (J:Bool) (a3:List qar) (w x:List qaa) (L:Bool) (u:Int×List qab->Option (qid)) (N:Int):(Int×List qaf->Option (qid))->Int×List qaf->Option (qid):=fun v (a,b)=>
 bif(decide (a<((qaf.rows t).length:Int)))then(
 bnd (idx t a) fun⟨y,d,e,⟨z,A,⟨B,C,D,E,F,G⟩,H,I⟩⟩=>
 bnd (qj2 n y c) fun f=>
 bnd (qc3 n (qaa.mk z A (Val.mk B C D E F G) H I) c) fun⟨g,i,⟨j,k,l,m,o,p⟩,q,s⟩=>
 chk (decide ((qaf.rows (b++[qaf.mk f d e (qaa.mk g i (Val.mk j k l m o p) q s)])).length * 208<=140737488355328)) (
 v ((IntKind.i64.wrap (a+1)),(b++[qaf.mk f d e (qaa.mk g i (Val.mk j k l m o p) q s)]))))
 else(
 qan (qj8 n K c V a2 M O P Q R S T U W X Y Z a0 a1 J a3 w x b L u N) n ((0:Int),([]:List _)))
def qj6 (n:Nat) (c:List qar) (a:SS) (x y:List qaa) (z:List qaf) (A:List SS) (L:List qab) (S:Int) (C:List qa6) (E:List qaa) (F:Int) (G:SS) (H:Int) (I:Bool) (J:Int) (K:SS) (M:List Val) (N O:List SS) (P:List qaa) (Q:SS) (R:List qbj) (w B:Bool) (s:Int×List qab->Option (qid)) (D:Int):(Int×List qar->Option (qid))->Int×List qar->Option (qid):=fun t (b,d)=>
 bif(decide (b<((qar.rows c).length:Int)))then(
 bnd (idx c b) fun⟨⟨T,U,⟨V,W,X,Y,Z,a0⟩,a1,a2⟩,_⟩=>
 bnd (qc3 n (qaa.mk T U (Val.mk V W X Y Z a0) a1 a2) a) fun⟨j,k,⟨l,m,o,p,q,e⟩,f,g⟩=>
 bnd (idx c b) fun⟨⟨_,_,⟨_,_,_,_,_,_⟩,_,_⟩,i⟩=>
 chk (decide ((qar.rows (d++[qar.mk (qaa.mk j k (Val.mk l m o p q e) f g) i])).length * 168<=140737488355328)) (
 t ((IntKind.i64.wrap (b+1)),(d++[qar.mk (qaa.mk j k (Val.mk l m o p q e) f g) i]))))
 else(
 bnd (qcv n x a) fun u=>
 bnd (qcv n y a) fun v=>
 qan (qj7 n z a A L S C E F G H I J K M N O P Q R w d u v B s D) n ((0:Int),([]:List _)))
def qj5 (n:Nat) (b:List qbj) (c:SS) (v:List qar) (w x:List qaa) (y:List qaf) (z:List SS) (K:List qab) (T:Int) (B:List qa6) (D:List qaa) (E:Int) (F:SS) (G:Int) (H:Bool) (I:Int) (J:SS) (L:List Val) (M N:List SS) (O:List qaa) (P:SS) (u A:Bool) (s:Int×List qab->Option (qid)) (C:Int):(Int×List qbj->Option (qid))->Int×List qbj->Option (qid):=fun t (a,d)=>
 bif(decide (a<((qbj.rows b).length:Int)))then(
 bnd (idx b a) fun⟨⟨Q,R,⟨S,U,V,W,X,Y⟩,Z,a0⟩,_⟩=>
 bnd (qc3 n (qaa.mk Q R (Val.mk S U V W X Y) Z a0) c) fun⟨e,f,⟨g,i,j,k,l,m⟩,o,p⟩=>
 bnd (idx b a) fun⟨⟨_,_,⟨_,_,_,_,_,_⟩,_,_⟩,a1⟩=>
 bnd (qj2 n a1 c) fun q=>
 chk (decide ((qbj.rows (d++[qbj.mk (qaa.mk e f (Val.mk g i j k l m) o p) q])).length * 176<=140737488355328)) (
 t ((IntKind.i64.wrap (a+1)),(d++[qbj.mk (qaa.mk e f (Val.mk g i j k l m) o p) q]))))
 else(
 qan (qj6 n v c w x y z K T B D E F G H I J L M N O P d u A s C) n ((0:Int),([]:List _)))
def qj4 (n:Nat) (f:List qa6) (a:SS) (T:List qaa) (U:Int) (V:SS) (j:Int) (k:Bool) (l:Int) (m:SS) (o:List Val) (p q:List SS) (s:List qaa) (t:SS) (u:List qbj) (w:List qar) (x y:List qaa) (z:List qaf) (A:List SS) (M:List qab) (S:Int) (v B:Bool) (g:Int×List qab->Option (qid)) (D:Int):(Int×List qa6->Option (qid))->Int×List qa6->Option (qid):=fun i (b,c)=>
 bif(decide (b<((qa6.rows f).length:Int)))then(
 bnd (idx f b) fun⟨C,E⟩=>
 bnd (qk4 n (qa6.mk C E) a) fun⟨d,e⟩=>
 chk (decide ((qa6.rows (c++[qa6.mk d e])).length * 48<=140737488355328)) (
 i ((IntKind.i64.wrap (b+1)),(c++[qa6.mk d e]))))
 else(
 bnd (qcv n T a) fun F=>
 bnd (qc3 n (qaa.mk U V (Val.mk j k l m o p) q s) a) fun⟨G,H,⟨I,J,K,L,N,O⟩,P,Q⟩=>
 bnd (qj2 n t a) fun R=>
 qan (qj5 n u a w x y z A M S c F G H I J K L N O P Q R v B g D) n ((0:Int),([]:List _)))
def qj3 (n:Nat) (b:List qab) (q:SS):(Int×List qab->Option (qid))->Int×List qab->Option (qid):=fun d (a,c)=>
 bif(decide (a<((qab.rows b).length:Int)))then(
 bnd (idx b a) fun⟨z,A,B,⟨C,D,⟨e,f,g,i,j,k⟩,l,m⟩,o,p,s,t,u,v,w,x,y⟩=>
 qan (qj4 n A q B C D e f g i j k l m o p t u v w x c z s y d a) n ((0:Int),([]:List _)))
 else(
 some (qid.mk c))
def qri (n:Nat) (a:qid) (c:SS):Option (qid):=
 match a with
 | ⟨b⟩=>
 qan (qj3 n b c) n ((0:Int),([]:List _))
set_option maxHeartbeats 4000000 in
theorem q6x (n:Nat):∀ (d8:qid) (k:SS) (r:qid),qri n d8 k=some r->qac Tryz.prog 20 [PV.agg (q21.cells d8),PV.str k] (q93 r):=by
 intro d8 k r h;obtain⟨J⟩:=d8;unfold qri at h;refine qac.of_vcN mixed (fun _ _=>Tryz.call20 _ _) Tryz.func20 (by kernel_rfl) (inl:=[40000011,40000019,40000024,40000039,1000000]) ?_;conv=>whnf
 refine qbl.fn [40000011,40000019,40000024,40000039,1000000] (S:=Int×List qab) (fun(A,c)=>[(1,pS k),(2,.ptr 0 0),(4,.ptr 1 0),(5,.ptr 2 0),(6,pI A)]) (fun(A,c)=>[.box 24 [pC J],.box 24 [zq2],.box 24 [.tsl 3 (qab.rows c)],.tail 51 22 (qab.rows c).length]) (B:=qj3 n J k) h (wk [0,1,2,0] [3]) ?_;intro d7 st h;obtain⟨A,c⟩:=st;unfold qj3 at h;conv=>whnf
 apply ifc h<;>intro d6 h
 ·conv=>whnf
  refine bq h fun⟨f,d5,c4,⟨c6,c7,⟨K,O,R,U,a4,a8⟩,a9,b0⟩,b1,I,d,H,F,G,C,z,e⟩ g4 h=>?_;refine⟨_,Codec.at_ qda g4,?_⟩;conv=>whnf
  refine qbl.fn [40000011,40000019,40000024,40000039,1000000] (S:=Int×List qa6) (fun(e1,a)=>[(1,pS k),(2,.ptr 0 0),(4,.ptr 1 0),(5,.ptr 2 0),(6,pI A),(7,.ptr 3 0),(8,.ptr 4 0),(9,pI e1)]) (fun(e1,a)=>[.box 24 [pC J],.box 24 [zq2],.box 24 [.tsl 5 (qab.rows c)],.box 51 [pI f,pP d5,pE c4,pI c6,pS c7,pI K,pB O,pI R,pS U,pV a4,pT a8,pT a9,pE b0,pS b1,pA I,pB d,pO H,pE F,pE G,pU C,pT z,pB e],.box 51 [pI f,.tsl 6 (qa6.rows a),pE c4,pI c6,pS c7,pI K,pB O,pI R,pS U,pV a4,pT a8,pT a9,pE b0,pS b1,pA I,pB d,pO H,pE F,pE G,pU C,pT z,pB e],.tail 51 22 (qab.rows c).length,.tail 59 2 (qa6.rows a).length]) (B:=qj4 n d5 k c4 c6 c7 K O R U a4 a8 a9 b0 b1 I H F G C z c f d e d7 A) h (wk [0,1,2,4,5,3,0] [6]) ?_;intro _ st h;obtain⟨e1,a⟩:=st;unfold qj4 at h;conv=>whnf
  apply ifc h<;>intro d6 h
  ·conv=>whnf
   refine bq h fun⟨_,_⟩ g5 h=>?_;refine⟨_,Codec.at_ ql2 g5,?_⟩;conv=>whnf
   refine bq h fun⟨b2,b3⟩ f8 h=>?_;refine⟨_,(q0t n _ _ _ f8),?_⟩;conv=>whnf
   refine⟨Codec.one ql2 [qa6.mk b2 b3],qa6.rows [qa6.mk b2 b3],.inl rfl,?_⟩;conv=>whnf
   rw[show qa6.rows a++qa6.rows [qa6.mk b2 b3]=qa6.rows (a++[qa6.mk b2 b3])from Codec.append ql2 a [qa6.mk b2 b3]];conv=>whnf
   obtain⟨e4,h⟩:=qak h;refine⟨⟨Codec.wide ql2 (a++[qa6.mk b2 b3]),of_decide_eq_true e4,qcb e4 (by decide)⟩,?_⟩;conv=>whnf
   refine⟨⟨rfl,rfl,rfl⟩,?_⟩;conv=>whnf
   exact⟨((IntKind.i64.wrap (e1+1)),(a++[qa6.mk b2 b3])),h,wk [0,1,2,3,4,5,7] []⟩
  ·conv=>whnf
   refine bq h fun l g3 h=>?_;refine⟨_,(qg6 n _ _ _ g3),?_⟩;conv=>whnf
   refine bq h fun⟨m,o,⟨p,q,s,t,u,v⟩,w,x⟩ g2 h=>?_;refine⟨_,(qkp n _ _ _ g2),?_⟩;conv=>whnf
   refine bq h fun y g1 h=>?_;refine⟨_,(qko n _ _ _ g1),?_⟩;conv=>whnf
   refine qbl.fn [40000011,40000019,40000024,40000039,1000000] (S:=Int×List qbj) (fun(e2,b)=>[(1,pS k),(2,.ptr 0 0),(4,.ptr 1 0),(5,.ptr 2 0),(6,pI A),(7,.ptr 3 0),(8,.ptr 4 0),(10,pI e2)]) (fun(e2,b)=>[.box 24 [pC J],.box 24 [zq2],.box 24 [.tsl 5 (qab.rows c)],.box 51 [pI f,pP d5,pE c4,pI c6,pS c7,pI K,pB O,pI R,pS U,pV a4,pT a8,pT a9,pE b0,pS b1,pA I,pB d,pO H,pE F,pE G,pU C,pT z,pB e],.box 51 [pI f,.tsl 6 (qa6.rows a),pE l,pI m,pS o,pI p,pB q,pI s,pS t,pV u,pT v,pT w,pE x,pS y,.tsl 7 (qbj.rows b),pB d,pO H,pE F,pE G,pU C,pT z,pB e],.tail 51 22 (qab.rows c).length,.tail 59 2 (qa6.rows a).length,.tail 70 11 (qbj.rows b).length]) (B:=qj5 n I k H F G C z c f a l m o p q s t u v w x y d e d7 A) h (wk [0,1,2,3,4,5,6,0] [7]) ?_;intro _ st h;obtain⟨e2,b⟩:=st;unfold qj5 at h;conv=>whnf
   apply ifc h<;>intro d6 h
   ·conv=>whnf
    refine bq h fun⟨⟨_,_,⟨_,_,_,_,_,_⟩,_,_⟩,_⟩ g9 h=>?_;refine⟨_,Codec.at_ qr5 g9,?_⟩;conv=>whnf
    refine bq h fun⟨b4,b5,⟨b6,b7,b8,b9,c0,c1⟩,c2,c3⟩ g8 h=>?_;refine⟨_,(qkp n _ _ _ g8),?_⟩;conv=>whnf
    refine bq h fun⟨⟨_,_,⟨_,_,_,_,_,_⟩,_,_⟩,_⟩ g7 h=>?_;refine⟨_,Codec.at_ qr5 g7,?_⟩;conv=>whnf
    refine bq h fun c5 g6 h=>?_;refine⟨_,(qko n _ _ _ g6),?_⟩;conv=>whnf
    refine⟨Codec.one qr5 [qbj.mk (qaa.mk b4 b5 (Val.mk b6 b7 b8 b9 c0 c1) c2 c3) c5],qbj.rows [qbj.mk (qaa.mk b4 b5 (Val.mk b6 b7 b8 b9 c0 c1) c2 c3) c5],.inl rfl,?_⟩;conv=>whnf
    rw[show qbj.rows b++qbj.rows [qbj.mk (qaa.mk b4 b5 (Val.mk b6 b7 b8 b9 c0 c1) c2 c3) c5]=qbj.rows (b++[qbj.mk (qaa.mk b4 b5 (Val.mk b6 b7 b8 b9 c0 c1) c2 c3) c5])from Codec.append qr5 b [qbj.mk (qaa.mk b4 b5 (Val.mk b6 b7 b8 b9 c0 c1) c2 c3) c5]];conv=>whnf
    obtain⟨e8,h⟩:=qak h;refine⟨⟨Codec.wide qr5 (b++[qbj.mk (qaa.mk b4 b5 (Val.mk b6 b7 b8 b9 c0 c1) c2 c3) c5]),of_decide_eq_true e8,qcb e8 (by decide)⟩,?_⟩;conv=>whnf
    refine⟨⟨rfl,rfl,rfl⟩,?_⟩;conv=>whnf
    exact⟨((IntKind.i64.wrap (e2+1)),(b++[qbj.mk (qaa.mk b4 b5 (Val.mk b6 b7 b8 b9 c0 c1) c2 c3) c5])),h,wk [0,1,2,3,4,5,6,8] []⟩
   ·conv=>whnf
    refine qbl.fn [40000011,40000019,40000024,40000039,1000000] (S:=Int×List qar) (fun(e3,g)=>[(1,pS k),(2,.ptr 0 0),(4,.ptr 1 0),(5,.ptr 2 0),(6,pI A),(7,.ptr 3 0),(8,.ptr 4 0),(11,pI e3)]) (fun(e3,g)=>[.box 24 [pC J],.box 24 [zq2],.box 24 [.tsl 5 (qab.rows c)],.box 51 [pI f,pP d5,pE c4,pI c6,pS c7,pI K,pB O,pI R,pS U,pV a4,pT a8,pT a9,pE b0,pS b1,pA I,pB d,pO H,pE F,pE G,pU C,pT z,pB e],.box 51 [pI f,.tsl 6 (qa6.rows a),pE l,pI m,pS o,pI p,pB q,pI s,pS t,pV u,pT v,pT w,pE x,pS y,.tsl 7 (qbj.rows b),pB d,.tsl 8 (qar.rows g),pE F,pE G,pU C,pT z,pB e],.tail 51 22 (qab.rows c).length,.tail 59 2 (qa6.rows a).length,.tail 70 11 (qbj.rows b).length,.tail 72 11 (qar.rows g).length]) (B:=qj6 n H k F G C z c f a l m o p q s t u v w x y b d e d7 A) h (wk [0,1,2,3,4,5,6,7,0] [8]) ?_;intro _ st h;obtain⟨e3,g⟩:=st;unfold qj6 at h;conv=>whnf
    apply ifc h<;>intro d6 h
    ·conv=>whnf
     refine bq h fun⟨⟨_,_,⟨_,_,_,_,_,_⟩,_,_⟩,_⟩ f2 h=>?_;refine⟨_,Codec.at_ qpi f2,?_⟩;conv=>whnf
     refine bq h fun⟨c8,c9,⟨d0,d1,d2,d3,d4,L⟩,M,N⟩ f1 h=>?_;refine⟨_,(qkp n _ _ _ f1),?_⟩;conv=>whnf
     refine bq h fun⟨⟨_,_,⟨_,_,_,_,_,_⟩,_,_⟩,P⟩ f0 h=>?_;refine⟨_,Codec.at_ qpi f0,?_⟩;conv=>whnf
     refine⟨Codec.one qpi [qar.mk (qaa.mk c8 c9 (Val.mk d0 d1 d2 d3 d4 L) M N) P],qar.rows [qar.mk (qaa.mk c8 c9 (Val.mk d0 d1 d2 d3 d4 L) M N) P],.inl rfl,?_⟩;conv=>whnf
     rw[show qar.rows g++qar.rows [qar.mk (qaa.mk c8 c9 (Val.mk d0 d1 d2 d3 d4 L) M N) P]=qar.rows (g++[qar.mk (qaa.mk c8 c9 (Val.mk d0 d1 d2 d3 d4 L) M N) P])from Codec.append qpi g [qar.mk (qaa.mk c8 c9 (Val.mk d0 d1 d2 d3 d4 L) M N) P]];conv=>whnf
     obtain⟨e9,h⟩:=qak h;refine⟨⟨Codec.wide qpi (g++[qar.mk (qaa.mk c8 c9 (Val.mk d0 d1 d2 d3 d4 L) M N) P]),of_decide_eq_true e9,qcb e9 (by decide)⟩,?_⟩;conv=>whnf
     refine⟨⟨rfl,rfl,rfl⟩,?_⟩;conv=>whnf
     exact⟨((IntKind.i64.wrap (e3+1)),(g++[qar.mk (qaa.mk c8 c9 (Val.mk d0 d1 d2 d3 d4 L) M N) P])),h,wk [0,1,2,3,4,5,6,7,9] []⟩
    ·conv=>whnf
     refine bq h fun D g0 h=>?_;refine⟨_,(qg6 n _ _ _ g0),?_⟩;conv=>whnf
     refine bq h fun E f9 h=>?_;refine⟨_,(qg6 n _ _ _ f9),?_⟩;conv=>whnf
     refine qbl.fn [40000011,40000019,40000024,40000039,1000000] (S:=Int×List qaf) (fun(d9,i)=>[(1,pS k),(2,.ptr 0 0),(4,.ptr 1 0),(5,.ptr 2 0),(6,pI A),(7,.ptr 3 0),(8,.ptr 4 0),(12,pI d9)]) (fun(d9,i)=>[.box 24 [pC J],.box 24 [zq2],.box 24 [.tsl 5 (qab.rows c)],.box 51 [pI f,pP d5,pE c4,pI c6,pS c7,pI K,pB O,pI R,pS U,pV a4,pT a8,pT a9,pE b0,pS b1,pA I,pB d,pO H,pE F,pE G,pU C,pT z,pB e],.box 51 [pI f,.tsl 6 (qa6.rows a),pE l,pI m,pS o,pI p,pB q,pI s,pS t,pV u,pT v,pT w,pE x,pS y,.tsl 7 (qbj.rows b),pB d,.tsl 8 (qar.rows g),pE D,pE E,.tsl 9 (qaf.rows i),pT z,pB e],.tail 51 22 (qab.rows c).length,.tail 59 2 (qa6.rows a).length,.tail 70 11 (qbj.rows b).length,.tail 72 11 (qar.rows g).length,.tail 74 13 (qaf.rows i).length]) (B:=qj7 n C k z c f a l m o p q s t u v w x y b d g D E e d7 A) h (wk [0,1,2,3,4,5,6,7,8,0] [9]) ?_;intro _ st h;obtain⟨d9,i⟩:=st;unfold qj7 at h;conv=>whnf
     apply ifc h<;>intro d6 h
     ·conv=>whnf
      refine bq h fun⟨_,Q,T,⟨_,_,⟨_,_,_,_,_,_⟩,_,_⟩⟩ f5 h=>?_;refine⟨_,Codec.at_ qjb f5,?_⟩;conv=>whnf
      refine bq h fun V f4 h=>?_;refine⟨_,(qko n _ _ _ f4),?_⟩;conv=>whnf
      refine bq h fun⟨W,X,⟨Y,Z,a0,a1,a2,a3⟩,a5,a6⟩ f3 h=>?_;refine⟨_,(qkp n _ _ _ f3),?_⟩;conv=>whnf
      refine⟨Codec.one qjb [qaf.mk V Q T (qaa.mk W X (Val.mk Y Z a0 a1 a2 a3) a5 a6)],qaf.rows [qaf.mk V Q T (qaa.mk W X (Val.mk Y Z a0 a1 a2 a3) a5 a6)],.inl rfl,?_⟩;conv=>whnf
      rw[show qaf.rows i++qaf.rows [qaf.mk V Q T (qaa.mk W X (Val.mk Y Z a0 a1 a2 a3) a5 a6)]=qaf.rows (i++[qaf.mk V Q T (qaa.mk W X (Val.mk Y Z a0 a1 a2 a3) a5 a6)])from Codec.append qjb i [qaf.mk V Q T (qaa.mk W X (Val.mk Y Z a0 a1 a2 a3) a5 a6)]];conv=>whnf
      obtain⟨e5,h⟩:=qak h;refine⟨⟨Codec.wide qjb (i++[qaf.mk V Q T (qaa.mk W X (Val.mk Y Z a0 a1 a2 a3) a5 a6)]),of_decide_eq_true e5,qcb e5 (by decide)⟩,?_⟩;conv=>whnf
      refine⟨⟨rfl,rfl,rfl⟩,?_⟩;conv=>whnf
      exact⟨((IntKind.i64.wrap (d9+1)),(i++[qaf.mk V Q T (qaa.mk W X (Val.mk Y Z a0 a1 a2 a3) a5 a6)])),h,wk [0,1,2,3,4,5,6,7,8,11] []⟩
     ·conv=>whnf
      refine qbl.fn [40000011,40000019,40000024,40000039,1000000] (S:=Int×List SS) (fun(e0,j)=>[(1,pS k),(2,.ptr 0 0),(4,.ptr 1 0),(5,.ptr 2 0),(6,pI A),(7,.ptr 3 0),(8,.ptr 4 0),(14,pI e0)]) (fun(e0,j)=>[.box 24 [pC J],.box 24 [zq2],.box 24 [.tsl 5 (qab.rows c)],.box 51 [pI f,pP d5,pE c4,pI c6,pS c7,pI K,pB O,pI R,pS U,pV a4,pT a8,pT a9,pE b0,pS b1,pA I,pB d,pO H,pE F,pE G,pU C,pT z,pB e],.box 51 [pI f,.tsl 6 (qa6.rows a),pE l,pI m,pS o,pI p,pB q,pI s,pS t,pV u,pT v,pT w,pE x,pS y,.tsl 7 (qbj.rows b),pB d,.tsl 8 (qar.rows g),pE D,pE E,.tsl 9 (qaf.rows i),.tsl 10 (qai j),pB e],.tail 51 22 (qab.rows c).length,.tail 59 2 (qa6.rows a).length,.tail 70 11 (qbj.rows b).length,.tail 72 11 (qar.rows g).length,.tail 74 13 (qaf.rows i).length,.tail 9 1 (qai j).length]) (B:=qj8 n z k c f a l m o p q s t u v w x y b d g D E i e d7 A) h (wk [0,1,2,3,4,5,6,7,8,9,0] [10]) ?_;intro _ st h;obtain⟨e0,j⟩:=st;unfold qj8 at h;conv=>whnf
      apply ifc h<;>intro d6 h
      ·conv=>whnf
       refine bq h fun _ f7 h=>?_;refine⟨_,Codec.at_ qpl f7,?_⟩;conv=>whnf
       refine bq h fun a7 f6 h=>?_;refine⟨_,(qko n _ _ _ f6),?_⟩;conv=>whnf
       refine⟨Codec.one qpl [a7],qai [a7],.inl rfl,?_⟩;conv=>whnf
       rw[show qai j++qai [a7]=qai (j++[a7])from Codec.append qpl j [a7]];conv=>whnf
       obtain⟨e6,h⟩:=qak h;refine⟨⟨Codec.wide qpl (j++[a7]),of_decide_eq_true e6,qcb e6 (by decide)⟩,?_⟩;conv=>whnf
       refine⟨⟨rfl,rfl,rfl⟩,?_⟩;conv=>whnf
       exact⟨((IntKind.i64.wrap (e0+1)),(j++[a7])),h,wk [0,1,2,3,4,5,6,7,8,9,11] []⟩
      ·conv=>whnf
       refine⟨Codec.one qda [qab.mk f a l (qaa.mk m o (Val.mk p q s t u v) w x) y b d g D E i j e],qab.rows [qab.mk f a l (qaa.mk m o (Val.mk p q s t u v) w x) y b d g D E i j e],.inl rfl,?_⟩;conv=>whnf
       rw[show qab.rows c++qab.rows [qab.mk f a l (qaa.mk m o (Val.mk p q s t u v) w x) y b d g D E i j e]=qab.rows (c++[qab.mk f a l (qaa.mk m o (Val.mk p q s t u v) w x) y b d g D E i j e])from Codec.append qda c [qab.mk f a l (qaa.mk m o (Val.mk p q s t u v) w x) y b d g D E i j e]];conv=>whnf
       obtain⟨e7,h⟩:=qak h;refine⟨⟨Codec.wide qda (c++[qab.mk f a l (qaa.mk m o (Val.mk p q s t u v) w x) y b d g D E i j e]),of_decide_eq_true e7,qcb e7 (by decide)⟩,?_⟩;conv=>whnf
       refine⟨⟨rfl,rfl,rfl⟩,?_⟩;conv=>whnf
       exact⟨((IntKind.i64.wrap (A+1)),(c++[qab.mk f a l (qaa.mk m o (Val.mk p q s t u v) w x) y b d g D E i j e])),h,wk [0,1,2,11] []⟩
 ·obtain rfl:=sj h
  conv=>whnf
  try exact fin
abbrev q04 (r:Bool):PV:=PV.bool r
def qmy (n:Nat) (g:qid):Option (Bool):=
 match g with
 | ⟨a⟩=>
 bnd (qoy n (qid.mk a)) fun e=>
 bnd (qaw (!e) (qps n (qid.mk a))) fun k=>
 bif(bif e then true else(!k))then(
 bnd (qf3 n) fun l=>
 some l)
 else(
 bnd (qri n (qid.mk a) ([95,55]:SS)) fun⟨f⟩=>
 bnd (qps n (qid.mk f)) fun m=>
 bif(!m)then(
 bnd (qf3 n) fun o=>
 some o)
 else(
 bnd (qkr n (qid.mk a)) fun⟨p,c⟩=>
 bnd (qkr n (qid.mk f)) fun⟨i,b⟩=>
 bnd (qaw (c==b) (qvh n p i)) fun d=>
 bnd (qaw (bif(c==b)then d else false) (qf3 n)) fun j=>
 some (bif(bif(c==b)then d else false)then j else false)))
theorem qzd (n:Nat):∀ (b:qid) (r:Bool),qmy n b=some r->qac Tryz.prog 7 [PV.agg (q21.cells b)] (q04 r):=by
 intro b r h;obtain⟨_⟩:=b;unfold qmy at h;refine qac.of_vcN mixed (fun _ _=>Tryz.call7 _ _) Tryz.func7 (by kernel_rfl) (inl:=[1000000]) ?_;conv=>whnf
 refine bq h fun _ d h=>?_;refine⟨_,(qum n _ _ d),?_⟩;conv=>whnf
 refine⟨id,?_⟩;conv=>whnf
 refine bq h fun _ m h=>?_;refine⟨_,fun a=>(qt1 n _ _ (qad m a)),?_⟩;conv=>whnf
 refine⟨id,id,?_⟩;conv=>whnf
 apply ifc h<;>intro o h
 ·conv=>whnf
  refine bq h fun _ c h=>?_;refine⟨_,(qga n _ c),?_⟩;obtain rfl:=sj h;conv=>whnf
  try exact fin
 ·conv=>whnf
  refine bq h fun⟨_⟩ l h=>?_;refine⟨_,(q6x n _ _ _ l),?_⟩;conv=>whnf
  refine bq h fun _ k h=>?_;refine⟨_,(qt1 n _ _ k),?_⟩;conv=>whnf
  apply ifc h<;>intro o h
  ·conv=>whnf
   refine bq h fun _ e h=>?_;refine⟨_,(qga n _ e),?_⟩;obtain rfl:=sj h;conv=>whnf
   try exact fin
  ·conv=>whnf
   refine bq h fun⟨_,_⟩ j h=>?_;refine⟨_,(qoa n _ _ j),?_⟩;conv=>whnf
   refine bq h fun⟨_,_⟩ i h=>?_;refine⟨_,(qoa n _ _ i),?_⟩;conv=>whnf
   refine⟨id,id,?_⟩;conv=>whnf
   refine bq h fun _ g h=>?_;refine⟨_,fun a=>(zb0 n _ _ _ (qad g a)),?_⟩;conv=>whnf
   refine⟨id,?_⟩;conv=>whnf
   refine bq h fun _ f h=>?_;refine⟨_,fun a=>(qga n _ (qad f a)),?_⟩;conv=>whnf
   refine⟨id,?_⟩;obtain rfl:=sj h;conv=>whnf
   try exact fin
end W
end
