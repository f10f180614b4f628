/- A part of the proof: contracts, printed by program. -/
import Derived.Test.YtmblnmgpmdapnaaGreatB
import Derived.Test.YtmblnmgpmdapnaaGreatC
import Derived.Test.YtmblnmgpmdapnaaGreatH
set_option linter.unusedVariables false
set_option linter.unusedSimpArgs false
set_option linter.unnecessarySimpa false
set_option linter.deprecated false
set_option linter.unusedSectionVars false
set_option linter.constructorNameAsVariable false
section
set_option maxRecDepth 100000
open Go Go.Proofs Ax
namespace W
abbrev q7n (r:Bool):PV:=PV.bool r
def qg2 (n:Nat) (b:List qbo) (c:Int->Option (Bool)) (e:Int):(Int->Option (Bool))->Int->Option (Bool):=fun d a=>
 bif(decide (a<((qbo.rows b).length:Int)))then(
 bnd (idx b a) fun f=>
 bnd (qpe n f) fun g=>
 bif(!g)then(
 some false)
 else(
 d (IntKind.i64.wrap (a+1))))
 else(
 c (IntKind.i64.wrap (e+1)))
def qg1 (n:Nat) (c:List qba) (d:Int->Option (Bool)) (f:Int):(Int->Option (Bool))->Int->Option (Bool):=fun e a=>
 bif(decide (a<((qba.rows c).length:Int)))then(
 bnd (idx c a) fun⟨_,b,g,i⟩=>
 bif(bif(decide (((qbo.rows b).length:Int)<g))then true else(decide (((qbo.rows b).length:Int)>i)))then(
 some false)
 else(
 qan (qg2 n b e a) n (0:Int)))
 else(
 d (IntKind.i64.wrap (f+1)))
def qfs (n:Nat) (b:List qab):(Int->Option (Bool))->Int->Option (Bool):=fun e a=>
 bif(decide (a<((qab.rows b).length:Int)))then(
 bnd (idx b a) fun⟨c,f,g,⟨i,j,⟨k,l,m,o,p,q⟩,s,t⟩,u,v,w,x,y,z,A,B,C⟩=>
 bnd (qlq n (qab.mk c f g (qaa.mk i j (Val.mk k l m o p q) s t) u v w x y z A B C)) fun⟨d,D⟩=>
 bif(bif(bif(!D)then true else(((qba.rows d).length:Int)==0))then true else(bif(c==9)then(decide ((IntKind.i64.wrap (a+1))<((qab.rows b).length:Int)))else false))then(
 some false)
 else(
 qan (qg1 n d e a) n (0:Int)))
 else(
 some true)
def qne (n:Nat) (c:qid):Option (Bool):=
 match c with
 | ⟨a⟩=>
 bnd (qaw (!(bif(decide (((qab.rows a).length:Int)<1))then true else(decide (((qab.rows a).length:Int)>64)))) (idx a (IntKind.i64.wrap (((qab.rows a).length:Int) - 1)))) fun⟨d,_,_,⟨_,_,⟨_,_,_,_,_,_⟩,_,_⟩,_,_,_,_,_,_,_,_,_⟩=>
 bnd (qaw (!(bif(decide (((qab.rows a).length:Int)<1))then true else(decide (((qab.rows a).length:Int)>64)))) (qq7 n d)) fun b=>
 bnd (qaw ((!(bif(decide (((qab.rows a).length:Int)<1))then true else(decide (((qab.rows a).length:Int)>64))))&&(!b)) (idx a (IntKind.i64.wrap (((qab.rows a).length:Int) - 1)))) fun⟨e,_,_,⟨_,_,⟨_,_,_,_,_,_⟩,_,_⟩,_,_,_,_,_,_,_,_,_⟩=>
 bif(bif(bif(decide (((qab.rows a).length:Int)<1))then true else(decide (((qab.rows a).length:Int)>64)))then true else(bif(!b)then(e != 9)else false))then(
 some false)
 else(
 qan (qfs n a) n (0:Int))
set_option maxHeartbeats 4000000 in
theorem q5d (n:Nat):∀ (g:qid) (r:Bool),qne n g=some r->qac Tryz.prog 48 [PV.agg (q21.cells g)] (q7n r):=by
 intro g r h;obtain⟨a⟩:=g;unfold qne at h;refine qac.of_vcN mixed (fun _ _=>Tryz.call48 _ _) Tryz.func48 (by kernel_rfl) (inl:=[1000000]) ?_;conv=>whnf
 iterate 6 refine⟨id,?_⟩
 conv=>whnf
 refine bq h fun⟨_,_,_,⟨_,_,⟨_,_,_,_,_,_⟩,_,_⟩,_,_,_,_,_,_,_,_,_⟩ u h=>?_;refine⟨_,fun e=>Codec.at_ qda (qad u e),?_⟩;conv=>whnf
 refine⟨id,id,id,?_⟩;conv=>whnf
 refine bq h fun _ t h=>?_;refine⟨_,fun e=>(q3q n _ _ (qad t e)),?_⟩;conv=>whnf
 iterate 6 refine⟨id,?_⟩
 conv=>whnf
 refine bq h fun⟨_,_,_,⟨_,_,⟨_,_,_,_,_,_⟩,_,_⟩,_,_,_,_,_,_,_,_,_⟩ s h=>?_;refine⟨_,fun e=>Codec.at_ qda (qad s e),?_⟩;conv=>whnf
 iterate 6 refine⟨id,?_⟩
 conv=>whnf
 apply ifc h<;>intro c h
 ·obtain rfl:=sj h
  conv=>whnf
  try exact fin
 ·conv=>whnf
  refine qbl.fn [1000000] (S:=Int) (fun b=>[(3,.p (.int .i64 ((qab.rows a).length:Int))),(43,pC a),(44,.p (.int .i64 ((qab.rows a).length:Int))),(45,pI b)]) (fun b=>[]) (B:=qfs n a) h (wk [] []) ?_;intro v b h;unfold qfs at h;conv=>whnf
  apply ifc h<;>intro c h
  ·conv=>whnf
   refine bq h fun⟨_,_,_,⟨_,_,⟨_,_,_,_,_,_⟩,_,_⟩,_,_,_,_,_,_,_,_,_⟩ q h=>?_;refine⟨_,Codec.at_ qda q,?_⟩;conv=>whnf
   refine bq h fun⟨f,_⟩ o h=>?_;refine⟨_,(q3o n _ _ o),?_⟩;conv=>whnf
   iterate 12 refine⟨id,?_⟩
   conv=>whnf
   apply ifc h<;>intro c h
   ·obtain rfl:=sj h
    conv=>whnf
    try exact fin
   ·conv=>whnf
    refine qbl.fn [1000000] (S:=Int) (fun d=>[(3,.p (.int .i64 ((qab.rows a).length:Int))),(43,pC a),(44,.p (.int .i64 ((qab.rows a).length:Int))),(45,pI b),(73,.p (.sl (qba.rows f))),(74,.p (.int .i64 ((qba.rows f).length:Int))),(75,pI d)]) (fun d=>[]) (B:=qg1 n f v b) h (wk [] []) ?_;intro w d h;unfold qg1 at h;conv=>whnf
    apply ifc h<;>intro c h
    ·conv=>whnf
     refine bq h fun⟨_,j,_,_⟩ m h=>?_;refine⟨_,Codec.at_ qsa m,?_⟩;conv=>whnf
     iterate 6 refine⟨id,?_⟩
     conv=>whnf
     apply ifc h<;>intro c h
     ·obtain rfl:=sj h
      conv=>whnf
      try exact fin
     ·conv=>whnf
      refine qbl.fn [1000000] (S:=Int) (fun i=>[(3,.p (.int .i64 ((qab.rows a).length:Int))),(43,pC a),(44,.p (.int .i64 ((qab.rows a).length:Int))),(45,pI b),(73,.p (.sl (qba.rows f))),(74,.p (.int .i64 ((qba.rows f).length:Int))),(75,pI d),(94,.p (.sl (qbo.rows j))),(95,.p (.int .i64 ((qbo.rows j).length:Int))),(96,pI i)]) (fun i=>[]) (B:=qg2 n j w d) h (wk [] []) ?_;intro _ i h;unfold qg2 at h;conv=>whnf
      apply ifc h<;>intro c h
      ·conv=>whnf
       refine bq h fun _ l h=>?_;refine⟨_,Codec.at_ qq0 l,?_⟩;conv=>whnf
       refine bq h fun _ k h=>?_;refine⟨_,_,zb4 n _ _ k,?_⟩;conv=>whnf
       apply ifc h<;>intro c h
       ·obtain rfl:=sj h
        conv=>whnf
        try exact fin
       ·conv=>whnf
        exact⟨(IntKind.i64.wrap (i+1)),h,wk [] []⟩
      ·conv=>whnf
       exact⟨(IntKind.i64.wrap (d+1)),h,wk [] []⟩
    ·conv=>whnf
     exact⟨(IntKind.i64.wrap (b+1)),h,wk [] []⟩
  ·obtain rfl:=sj h
   conv=>whnf
   try exact fin
abbrev qzw (_:List SS) (_:List (SS×Int)) (r:(List SS)×(List (SS×Int))):FV:=.p (.tup [])
abbrev qzo (_:List SS) (_:List (SS×Int)) (r:(List SS)×(List (SS×Int))):List AObj:=[.box 120 [.tsl 2 (qai r.1),.mref 1],.mp .string (qbc PV.str (PV.int .i64) r.2) none,.tail 9 1 (qai r.1).length]
def qe5 (n:Nat) (a:SS) (b:Int) (c:List (SS×Int)):List SS->Option ((List SS)×(List (SS×Int))):=fun d=>
 some (d,(qow a b c))
def qc5 (n:Nat) (a:SS) (d:Int) (b:List SS) (c:List (SS×Int)):Option ((List SS)×(List (SS×Int))):=
 bif((qd9 c a (0:Int))==0)then(
 chk (decide ((qai (b++[a])).length * 16<=140737488355328)) (
 qe5 n a d c (b++[a])))
 else(
 qe5 n a d c b)
theorem qgf (n:Nat):∀ (a:SS) (d:Int) (b:List SS) (c:List (SS×Int)) (r:(List SS)×(List (SS×Int))),qc5 n a d b c=some r->qay Tryz.prog 88 [.ptr 0 0,.p (PV.str a),.p (PV.int .i64 d)] [.box 120 [.tsl 2 (qai b),.mref 1],.mp .string (qbc PV.str (PV.int .i64) c) none,.tail 9 1 (qai b).length] 2 (fun v lo=>v=qzw b c r/\lo=qzo b c r):=by
 intro a d b c r h;unfold qc5 at h;refine qay.of_vc mixed (fun _ _=>Tryz.call88 _ _) Tryz.func88 (by kernel_rfl) (inl:=[1000000]) (Nat.le_of_ble_eq_true rfl) ?_;conv=>whnf
 refine qh6.cut (S:=List SS) (fun e=>[(0,.ptr 0 0),(1,pS a),(2,pI d)]) (fun e=>[.box 120 [.tsl 2 (qai e),.mref 1],.mp .string (qbc PV.str (PV.int .i64) c) none,.tail 9 1 (qai e).length]) (qe5 n a d c) (r:=r) ?_ ?_
 ·intro e h
  unfold qe5 at h;conv=>whnf
  refine⟨_,qic qel (PV.int .i64) a d c,?_⟩;obtain rfl:=sj h;conv=>whnf
  refine⟨_,_,⟨rfl,rfl⟩,wk [0,1,2] []⟩
 ·conv=>whnf
  refine⟨PV.int .i64 (qd9 c a (0:Int)),(q6c c a),⟨qua qel (PV.int .i64) c a (0:Int),qub qel (PV.int .i64) c a⟩,?_⟩;conv=>whnf
  apply ifc h<;>intro _ h
  ·conv=>whnf
   refine⟨Codec.one qpl [a],qai [a],.inl rfl,?_⟩;conv=>whnf
   rw[show qai b++qai [a]=qai (b++[a])from Codec.append qpl b [a]];conv=>whnf
   obtain⟨f,h⟩:=qak h;refine⟨⟨Codec.wide qpl (b++[a]),of_decide_eq_true f,qcb f (by decide)⟩,?_⟩;conv=>whnf
   refine⟨⟨rfl,rfl,rfl⟩,?_⟩;conv=>whnf
   exact⟨(b++[a]),h,wk [0,1,3] []⟩
  ·conv=>whnf
   exact⟨b,h,wk [0,1,2] []⟩
abbrev qzx (_:List SS) (_:List (SS×Int)) (r:(List SS)×(List (SS×Int))):FV:=.ptr 3 0
abbrev qzp (a:List SS) (b:List (SS×Int)) (r:(List SS)×(List (SS×Int))):List AObj:=[.box 120 [.tsl 2 (qai a),.mref 1],.mp .string (qbc PV.str (PV.int .i64) b) none,.tail 9 1 (qai a).length,.box 120 [.tsl 5 (qai r.1),.mref 4],.mp .string (qbc PV.str (PV.int .i64) r.2) none,.tail 9 1 (qai r.1).length]
def qe6 (n:Nat) (b:List SS) (g:List (SS×Int)):(Int×List SS×List (SS×Int)->Option ((List SS)×(List (SS×Int))))->Int×List SS×List (SS×Int)->Option ((List SS)×(List (SS×Int))):=fun f (a,c,d)=>
 bif(decide (a<((qai b).length:Int)))then(
 bnd (idx b a) fun e=>
 bnd (qc5 n e (qd9 g e (0:Int)) c d) fun⟨i,j⟩=>
 f ((IntKind.i64.wrap (a+1)),i,j))
 else(
 some (c,d))
def qix (n:Nat) (a:List SS) (b:List (SS×Int)):Option ((List SS)×(List (SS×Int))):=
 qan (qe6 n a b) n ((0:Int),([]:List _),([]:List (SS×Int)))
theorem qx0 (n:Nat):∀ (a:List SS) (b:List (SS×Int)) (r:(List SS)×(List (SS×Int))),qix n a b=some r->qay Tryz.prog 140 [.ptr 0 0] [.box 120 [.tsl 2 (qai a),.mref 1],.mp .string (qbc PV.str (PV.int .i64) b) none,.tail 9 1 (qai a).length] 2 (fun v lo=>v=qzx a b r/\lo=qzp a b r):=by
 intro a b r h;unfold qix at h;refine qay.of_vc mixed (fun _ _=>Tryz.call140 _ _) Tryz.func140 (by kernel_rfl) (inl:=[88,1000000]) (Nat.le_of_ble_eq_true rfl) ?_;conv=>whnf
 refine qbl.fn [88,1000000] (S:=Int×List SS×List (SS×Int)) (fun(c,d,f)=>[(0,.ptr 0 0),(3,.ptr 2 0),(12,.tsl 3 (qai a)),(13,.p (.int .i64 ((qai a).length:Int))),(14,pI c)]) (fun(c,d,f)=>[.box 120 [.tsl 3 (qai a),.mref 1],.mp .string (qbc PV.str (PV.int .i64) b) none,.box 120 [.tsl 5 (qai d),.mref 4],.tail 9 1 (qai a).length,.mp .string (qbc PV.str (PV.int .i64) f) none,.tail 9 1 (qai d).length]) (B:=qe6 n a b) h (wk [0,1,4,2,3,0] [5]) ?_;intro _ st h;obtain⟨c,d,f⟩:=st;unfold qe6 at h;conv=>whnf
 apply ifc h<;>intro _ h
 ·conv=>whnf
  refine bq h fun e k h=>?_;refine⟨_,Codec.at_ qpl k,?_⟩;conv=>whnf
  refine⟨PV.int .i64 (qd9 b e (0:Int)),(q6c b e),⟨qua qel (PV.int .i64) b e (0:Int),qub qel (PV.int .i64) b e⟩,?_⟩;conv=>whnf
  refine bq h fun⟨g,i⟩ j h=>?_;refine qcl (qgf n _ _ _ _ _ j) [2,4,5] [] ?_;rintro _ _ ⟨rfl,rfl⟩;refine⟨.p (.tup []),[.box 120 [.tsl 3 (qai a),.mref 1],.mp .string (qbc PV.str (PV.int .i64) b) none,.box 120 [.tsl 6 (qai g),.mref 4],.tail 9 1 (qai a).length,.mp .string (qbc PV.str (PV.int .i64) i) none,.dead,.tail 9 1 (qai g).length],rfl,rfl,?_⟩;conv=>whnf
  exact⟨((IntKind.i64.wrap (c+1)),g,i),h,wk [0,1,2,3,4,6] []⟩
 ·obtain rfl:=sj h
  conv=>whnf
  refine⟨_,_,⟨rfl,rfl⟩,wk [0,1,3,2,4,5] []⟩
abbrev q7l (r:quk):PV:=PV.agg (zr2.cells r)
def qeh (n:Nat) (a:SS):Bool->Option (quk):=fun b=>
 bif b then(
 some (quk.mk (1:Int) (1:Int) (3:Int)))
 else(
 bif(a==([99,111,97,108,101,115,99,101]:SS))then(
 some (quk.mk (1:Int) (1048576:Int) (3:Int)))
 else(
 bif(a==([107,101,121,115]:SS))then(
 some (quk.mk (1:Int) (1:Int) (0:Int)))
 else(
 bif(a==([108,97,98,101,108,115]:SS))then(
 some (quk.mk (1:Int) (1:Int) (1:Int)))
 else(
 bif(a==([116,121,112,101]:SS))then(
 some (quk.mk (1:Int) (1:Int) (2:Int)))
 else(
 bif(a==([114,97,110,103,101]:SS))then(
 some (quk.mk (2:Int) (2:Int) (3:Int)))
 else(
 some (quk.mk (1:Int) (0:Int) (0:Int))))))))
def qiw (n:Nat) (a:SS):Option (quk):=
 bif(a==([115,105,122,101]:SS))then(
 qeh n a (a==([115,105,122,101]:SS)))
 else(
 bif(a==([97,98,115]:SS))then(
 qeh n a (a==([97,98,115]:SS)))
 else(
 bif(a==([104,101,97,100]:SS))then(
 qeh n a (a==([104,101,97,100]:SS)))
 else(
 bif(a==([108,97,115,116]:SS))then(
 qeh n a (a==([108,97,115,116]:SS)))
 else(
 qeh n a (a==([116,101,120,116]:SS))))))
theorem q5b (n:Nat):∀ (a:SS) (r:quk),qiw n a=some r->qac Tryz.prog 164 [PV.str a] (q7l r):=by
 intro a r h;unfold qiw at h;refine qac.of_vcN mixed (fun _ _=>Tryz.call164 _ _) Tryz.func164 (by kernel_rfl) (inl:=[1000000]) ?_;conv=>whnf
 refine qh6.cut (S:=Bool) (fun c=>[(2,.ptr 0 0),(3,pS a),(4,pB c)]) (fun c=>[.box 230 [zq0,zq0,zq0]]) (qeh n a) (r:=r) ?_ ?_
 ·intro c h
  unfold qeh at h;conv=>whnf
  apply ifc h<;>intro b h
  ·obtain rfl:=sj h
   conv=>whnf
   try exact fin
  ·conv=>whnf
   apply ifc h<;>intro b h
   ·obtain rfl:=sj h
    conv=>whnf
    try exact fin
   ·conv=>whnf
    apply ifc h<;>intro b h
    ·obtain rfl:=sj h
     conv=>whnf
     try exact fin
    ·conv=>whnf
     apply ifc h<;>intro b h
     ·obtain rfl:=sj h
      conv=>whnf
      try exact fin
     ·conv=>whnf
      apply ifc h<;>intro b h
      ·obtain rfl:=sj h
       conv=>whnf
       try exact fin
      ·conv=>whnf
       apply ifc h<;>intro b h
       ·obtain rfl:=sj h
        conv=>whnf
        try exact fin
       ·obtain rfl:=sj h
        conv=>whnf
        try exact fin
 ·conv=>whnf
  apply ifc h<;>intro b h
  ·conv=>whnf
   exact⟨(a==([115,105,122,101]:SS)),h,wk [0] []⟩
  ·conv=>whnf
   apply ifc h<;>intro b h
   ·conv=>whnf
    exact⟨(a==([97,98,115]:SS)),h,wk [0] []⟩
   ·conv=>whnf
    apply ifc h<;>intro b h
    ·conv=>whnf
     exact⟨(a==([104,101,97,100]:SS)),h,wk [0] []⟩
    ·conv=>whnf
     apply ifc h<;>intro b h
     ·conv=>whnf
      exact⟨(a==([108,97,115,116]:SS)),h,wk [0] []⟩
     ·conv=>whnf
      exact⟨(a==([116,101,120,116]:SS)),h,wk [0] []⟩
abbrev q7m (r:Bool):PV:=PV.bool r
def qih (n:Nat) (a:List SS):(Int×List (SS×Int)->Option (Bool))->Int×List (SS×Int)->Option (Bool):=fun e (b,c)=>
 bif(decide (b<((qai a).length:Int)))then(
 bnd (idx a b) fun d=>
 e ((IntKind.i64.wrap (b+1)),(qow d (IntKind.i64.wrap ((qd9 c d (0:Int))+1)) c)))
 else(
 some (decide ((((c).length:Nat):Int)<((qai a).length:Int))))
def qnd (n:Nat) (a:List SS):Option (Bool):=
 qan (qih n a) n ((0:Int),([]:List (SS×Int)))
theorem qw7 (n:Nat):∀ (c:List SS) (r:Bool),qnd n c=some r->qac Tryz.prog 166 [PV.sl (qai c)] (q7m r):=by
 intro c r h;unfold qnd at h;refine qac.of_vcN mixed (fun _ _=>Tryz.call166 _ _) Tryz.func166 (by kernel_rfl) (inl:=[1000000]) ?_;conv=>whnf
 refine qbl.fn [1000000] (S:=Int×List (SS×Int)) (fun(d,a)=>[(0,pT c),(3,.mref 0),(7,pT c),(8,.p (.int .i64 ((qai c).length:Int))),(9,pI d)]) (fun(d,a)=>[.mp .string (qbc PV.str (PV.int .i64) a) none]) (B:=qih n c) h (wk [0] []) ?_;intro _ st h;obtain⟨d,a⟩:=st;unfold qih at h;conv=>whnf
 apply ifc h<;>intro _ h
 ·conv=>whnf
  refine bq h fun b e h=>?_;refine⟨_,Codec.at_ qpl e,?_⟩;conv=>whnf
  refine⟨PV.int .i64 (qd9 a b (0:Int)),(q6c a b),⟨qua qel (PV.int .i64) a b (0:Int),qub qel (PV.int .i64) a b⟩,?_⟩;conv=>whnf
  refine⟨_,qic qel (PV.int .i64) b (IntKind.i64.wrap ((qd9 a b (0:Int))+1)) a,?_⟩;conv=>whnf
  exact⟨((IntKind.i64.wrap (d+1)),(qow b (IntKind.i64.wrap ((qd9 a b (0:Int))+1)) a)),h,wk [0] []⟩
 ·conv=>whnf
  refine⟨(a).length,zmf PV.str (PV.int .i64) a,?_⟩;obtain rfl:=sj h;conv=>whnf
  try exact fin
abbrev qkv (_:List SS) (_:List (SS×Int)) (r:Int):FV:=pI r
abbrev qku (a:List SS) (b:List (SS×Int)) (r:Int):List AObj:=[.box 120 [.tsl 2 (qai a),.mref 1],.mp .string (qbc PV.str (PV.int .i64) b) none,.tail 9 1 (qai a).length]
def qg7 (n:Nat) (b:Int->Option (Int)) (c:Int):Int->Option (Int):=fun a=>
 bif(a != 0)then(
 some a)
 else(
 b (IntKind.i64.wrap (c+1)))
abbrev zph:Type:=qaa->(List SS)->(List (SS×Int))->Option (Int×Int)
def qfo (n:Nat) (c:List qaa) (g142:zph) (o:List SS) (p:List (SS×Int)) (e:Int):(Int->Option (Int))->Int->Option (Int):=fun b a=>
 bif(decide (a<((qaa.rows c).length:Int)))then(
 bnd (idx c a) fun⟨q,s,⟨t,u,f,g,i,j⟩,k,l⟩=>
 bnd (g142 (qaa.mk q s (Val.mk t u f g i j) k l) o p) fun⟨m,d⟩=>
 bif(bif(bif(d==0)then(e != 0)else false)then(m != e)else false)then(
 qg7 n b a (3:Int))
 else(
 qg7 n b a d))
 else(
 some (0:Int))
abbrev zpi:Type:=(List qaa)->Int->(List SS)->(List (SS×Int))->Option (Int)
abbrev zpj:Type:=qaa->(List SS)->(List (SS×Int))->Option (Int)
def qly (n:Nat) (g87:zpi) (g142:zph) (g165:zpj) (a:List qaa) (b:Int) (c:List SS) (d:List (SS×Int)):Option (Int):=
 qan (qfo n a g142 c d b) n (0:Int)
abbrev qjs (_:List SS) (_:List (SS×Int)) (r:Int×Int):FV:=.p (.tup [.int .i64 r.1,.int .i64 r.2])
abbrev qjr (a:List SS) (b:List (SS×Int)) (r:Int×Int):List AObj:=[.box 120 [.tsl 2 (qai a),.mref 1],.mp .string (qbc PV.str (PV.int .i64) b) none,.tail 9 1 (qai a).length]
def qgh (n:Nat):Int->Option (Int×Int):=fun a=>
 bif(a != 0)then(
 some ((0:Int),a))
 else(
 some ((3:Int),(0:Int)))
def qc7 (n:Nat) (b:Int) (d:List SS):Int->Option (Int×Int):=fun a=>
 bnd (qaw (bif(a==0)then(b==6)else false) (qnd n d)) fun c=>
 bif(bif(bif(a==0)then(b==6)else false)then c else false)then(
 qgh n (2:Int))
 else(
 qgh n a)
def qds (n:Nat) (g87:zpi) (c:List qaa) (d:List SS) (e:List (SS×Int)) (a:Int) (b:List SS) (g165:zpj) (f:SS) (m:Int) (o:Bool) (p:Int) (q:SS) (s:List Val) (t:List SS):Bool->Option (Int×Int):=fun g=>
 bif g then(
 bnd (g87 c (0:Int) d e) fun i=>
 qc7 n a b i)
 else(
 bif(a==15)then(
 bnd (g87 c (1:Int) d e) fun j=>
 qc7 n a b j)
 else(
 bif(a==10)then(
 bnd (g165 (qaa.mk a f (Val.mk m o p q s t) b c) d e) fun k=>
 qc7 n a b k)
 else(
 bnd (g87 c (3:Int) d e) fun l=>
 qc7 n a b l)))
def qkl (n:Nat) (g87:zpi) (g142:zph) (g165:zpj) (o:qaa) (e:List SS) (c:List (SS×Int)):Option (Int×Int):=
 match o with
 | ⟨a,d,⟨g,i,j,k,l,m⟩,f,b⟩=>
 bif(a==2)then(
 bif((qd9 c d (0:Int))==0)then(
 some ((0:Int),(2:Int)))
 else(
 some ((qd9 c d (0:Int)),(0:Int))))
 else(
 bif(a==14)then(
 some ((0:Int),(2:Int)))
 else(
 bif(a==13)then(
 bnd (qiw n d) fun⟨p,q,s⟩=>
 bif(bif(decide (((qaa.rows b).length:Int)<p))then true else(decide (((qaa.rows b).length:Int)>q)))then(
 some ((0:Int),(2:Int)))
 else(
 bnd (g87 b s e c) fun t=>
 qc7 n a f t))
 else(
 bif(a==4)then(
 qds n g87 b e c a f g165 d g i j k l m (a==4))
 else(
 bif(a==11)then(
 qds n g87 b e c a f g165 d g i j k l m (a==11))
 else(
 qds n g87 b e c a f g165 d g i j k l m (a==12))))))
abbrev qny (_:List SS) (_:List (SS×Int)) (r:Int):FV:=pI r
abbrev qnx (a:List SS) (b:List (SS×Int)) (r:Int):List AObj:=[.box 120 [.tsl 2 (qai a),.mref 1],.mp .string (qbc PV.str (PV.int .i64) b) none,.tail 9 1 (qai a).length]
def qkk (n:Nat) (g87:zpi) (g142:zph) (g165:zpj) (g:qaa) (b:List SS) (c:List (SS×Int)):Option (Int):=
 match g with
 | ⟨_,d,⟨_,_,_,_,_,_⟩,_,a⟩=>
 bif(bif(!(d==([61]:SS)))then(!(d==([60,62]:SS)))else false)then(
 bnd (g87 a (3:Int) b c) fun i=>
 some i)
 else(
 bnd (idx a (0:Int)) fun⟨j,k,⟨l,m,o,p,q,s⟩,t,u⟩=>
 bnd (g142 (qaa.mk j k (Val.mk l m o p q s) t u) b c) fun⟨v,e⟩=>
 bif(e != 0)then(
 some e)
 else(
 bnd (idx a (1:Int)) fun⟨w,x,⟨y,z,A,B,C,D⟩,E,F⟩=>
 bnd (g142 (qaa.mk w x (Val.mk y z A B C D) E F) b c) fun⟨G,f⟩=>
 bif(bif(f==0)then(v != G)else false)then(
 some (3:Int))
 else(
 some f)))
abbrev zsz (g87:zpi):Prop:=∀ (c:List qaa) (d:Int) (a:List SS) (b:List (SS×Int)) (r:Int),g87 c d a b=some r->qay Tryz.prog 87 [.ptr 0 0,.p (PV.sl (qaa.rows c)),.p (PV.int .i64 d)] [.box 120 [.tsl 2 (qai a),.mref 1],.mp .string (qbc PV.str (PV.int .i64) b) none,.tail 9 1 (qai a).length] 2 (fun v lo=>v=qkv a b r/\lo=qku a b r)
abbrev zs0 (g142:zph):Prop:=∀ (c:qaa) (a:List SS) (b:List (SS×Int)) (r:Int×Int),g142 c a b=some r->qay Tryz.prog 142 [.ptr 0 0,.p (PV.agg (qcf.cells c))] [.box 120 [.tsl 2 (qai a),.mref 1],.mp .string (qbc PV.str (PV.int .i64) b) none,.tail 9 1 (qai a).length] 2 (fun v lo=>v=qjs a b r/\lo=qjr a b r)
abbrev zs1 (g165:zpj):Prop:=∀ (c:qaa) (a:List SS) (b:List (SS×Int)) (r:Int),g165 c a b=some r->qay Tryz.prog 165 [.ptr 0 0,.p (PV.agg (qcf.cells c))] [.box 120 [.tsl 2 (qai a),.mref 1],.mp .string (qbc PV.str (PV.int .i64) b) none,.tail 9 1 (qai a).length] 2 (fun v lo=>v=qny a b r/\lo=qnx a b r)
theorem qxs (n:Nat) (g87:zpi) (g142:zph) (g165:zpj) (g87_ok:zsz g87) (g142_ok:zs0 g142) (g165_ok:zs1 g165):∀ (c:List qaa) (d:Int) (a:List SS) (b:List (SS×Int)) (r:Int),qly n g87 g142 g165 c d a b=some r->qay Tryz.prog 87 [.ptr 0 0,.p (PV.sl (qaa.rows c)),.p (PV.int .i64 d)] [.box 120 [.tsl 2 (qai a),.mref 1],.mp .string (qbc PV.str (PV.int .i64) b) none,.tail 9 1 (qai a).length] 2 (fun v lo=>v=qkv a b r/\lo=qku a b r):=by
 intro c d a b r h;unfold qly at h;refine qay.of_vc mixed (fun _ _=>Tryz.call87 _ _) Tryz.func87 (by kernel_rfl) (inl:=[142,1000000]) (Nat.le_of_ble_eq_true rfl) ?_;conv=>whnf
 refine qbl.fn [142,1000000] (S:=Int) (fun e=>[(0,.ptr 0 0),(2,pI d),(11,pE c),(12,.p (.int .i64 ((qaa.rows c).length:Int))),(13,pI e)]) (fun e=>[.box 120 [.tsl 2 (qai a),.mref 1],.mp .string (qbc PV.str (PV.int .i64) b) none,.tail 9 1 (qai a).length]) (B:=qfo n c g142 a b d) h (wk [0,1,2] []) ?_;intro l e h;unfold qfo at h;conv=>whnf
 apply ifc h<;>intro g h
 ·conv=>whnf
  refine bq h fun⟨x,y,⟨z,A,m,o,q,s⟩,t,u⟩ k h=>?_;refine⟨_,Codec.at_ qcf k,?_⟩;conv=>whnf
  refine bq h fun⟨w,i⟩ j h=>?_;refine qcl (g142_ok _ _ _ _ j) [0,1,2] [] ?_;rintro _ _ ⟨rfl,rfl⟩;refine⟨.p (.tup [.int .i64 w,.int .i64 i]),[.box 120 [.tsl 4 (qai a),.mref 1],.mp .string (qbc PV.str (PV.int .i64) b) none,.dead,.box 46 [pI x,pS y,pI z,pB A,pI m,pS o,pV q,pT s,pT t,pE u],.tail 9 1 (qai a).length],rfl,rfl,?_⟩;conv=>whnf
  refine qh6.cut (S:=Int) (fun f=>[(0,.ptr 0 0),(2,pI d),(10,pI f),(11,pE c),(12,.p (.int .i64 ((qaa.rows c).length:Int))),(13,pI e)]) (fun f=>[.box 120 [.tsl 2 (qai a),.mref 1],.mp .string (qbc PV.str (PV.int .i64) b) none,.tail 9 1 (qai a).length]) (qg7 n l e) (r:=r) ?_ ?_
  ·intro f h
   unfold qg7 at h;conv=>whnf
   apply ifc h<;>intro g h
   ·obtain rfl:=sj h
    conv=>whnf
    refine⟨_,_,⟨rfl,rfl⟩,wk [0,1,2] []⟩
   ·conv=>whnf
    exact⟨(IntKind.i64.wrap (e+1)),h,wk [0,1,2] []⟩
  ·conv=>whnf
   refine⟨id,?_⟩;conv=>whnf
   refine⟨id,id,id,id,?_⟩;conv=>whnf
   apply ifc h<;>intro g h
   ·conv=>whnf
    exact⟨(3:Int),h,wk [0,1,4] []⟩
   ·conv=>whnf
    exact⟨i,h,wk [0,1,4] []⟩
 ·obtain rfl:=sj h
  conv=>whnf
  refine⟨_,_,⟨rfl,rfl⟩,wk [0,1,2] []⟩
set_option maxHeartbeats 4000000 in
theorem qxe (n:Nat) (g87:zpi) (g142:zph) (g165:zpj) (g87_ok:zsz g87) (g142_ok:zs0 g142) (g165_ok:zs1 g165):∀ (q:qaa) (a:List SS) (b:List (SS×Int)) (r:Int×Int),qkl n g87 g142 g165 q a b=some r->qay Tryz.prog 142 [.ptr 0 0,.p (PV.agg (qcf.cells q))] [.box 120 [.tsl 2 (qai a),.mref 1],.mp .string (qbc PV.str (PV.int .i64) b) none,.tail 9 1 (qai a).length] 2 (fun v lo=>v=qjs a b r/\lo=qjr a b r):=by
 intro q a b r h;obtain⟨d,c,⟨i,j,k,l,m,o⟩,f,g⟩:=q;unfold qkl at h;refine qay.of_vc mixed (fun _ _=>Tryz.call142 _ _) Tryz.func142 (by kernel_rfl) (inl:=[87,165,1000000]) (Nat.le_of_ble_eq_true rfl) ?_;conv=>whnf
 refine qh6.cut (S:=Int) (fun s=>[(3,.ptr 2 0),(6,pI s)]) (fun s=>[.box 120 [.tsl 3 (qai a),.mref 1],.mp .string (qbc PV.str (PV.int .i64) b) none,.box 46 [pI d,pS c,pI i,pB j,pI k,pS l,pV m,pT o,pT f,pE g],.tail 9 1 (qai a).length]) (qc7 n d f) (r:=r) ?_ ?_
 ·intro s h
  unfold qc7 at h;conv=>whnf
  refine qh6.cut (S:=Int) (fun t=>[(6,pI t)]) (fun t=>[.box 120 [.tsl 2 (qai a),.mref 1],.mp .string (qbc PV.str (PV.int .i64) b) none,.tail 9 1 (qai a).length]) (qgh n) (r:=r) ?_ ?_
  ·intro t h
   unfold qgh at h;conv=>whnf
   apply ifc h<;>intro e h
   ·obtain rfl:=sj h
    conv=>whnf
    refine⟨_,_,⟨rfl,rfl⟩,wk [0,1,2] []⟩
   ·obtain rfl:=sj h
    conv=>whnf
    refine⟨_,_,⟨rfl,rfl⟩,wk [0,1,2] []⟩
  ·conv=>whnf
   refine⟨id,?_⟩;conv=>whnf
   refine⟨id,id,id,id,?_⟩;conv=>whnf
   refine bq h fun _ B h=>?_;refine⟨_,fun I=>(qw7 n _ _ (qad B I)),?_⟩;conv=>whnf
   refine⟨id,?_⟩;conv=>whnf
   apply ifc h<;>intro e h
   ·conv=>whnf
    exact⟨(2:Int),h,wk [0,1,3] []⟩
   ·conv=>whnf
    exact⟨s,h,wk [0,1,3] []⟩
 ·conv=>whnf
  apply ifc h<;>intro e h
  ·conv=>whnf
   refine⟨PV.int .i64 (qd9 b c (0:Int)),(q6c b c),⟨qua qel (PV.int .i64) b c (0:Int),qub qel (PV.int .i64) b c⟩,?_⟩;conv=>whnf
   apply ifc h<;>intro e h
   ·obtain rfl:=sj h
    conv=>whnf
    refine⟨_,_,⟨rfl,rfl⟩,wk [0,1,2] []⟩
   ·conv=>whnf
    refine⟨PV.int .i64 (qd9 b c (0:Int)),(q6c b c),⟨qua qel (PV.int .i64) b c (0:Int),qub qel (PV.int .i64) b c⟩,?_⟩;obtain rfl:=sj h;conv=>whnf
    refine⟨_,_,⟨rfl,rfl⟩,wk [0,1,2] []⟩
  ·conv=>whnf
   apply ifc h<;>intro e h
   ·obtain rfl:=sj h
    conv=>whnf
    refine⟨_,_,⟨rfl,rfl⟩,wk [0,1,2] []⟩
   ·conv=>whnf
    apply ifc h<;>intro e h
    ·conv=>whnf
     refine bq h fun⟨J,K,L⟩ D h=>?_;refine⟨_,(q5b n _ _ D),?_⟩;conv=>whnf
     iterate 6 refine⟨id,?_⟩
     conv=>whnf
     apply ifc h<;>intro e h
     ·obtain rfl:=sj h
      conv=>whnf
      refine⟨_,_,⟨rfl,rfl⟩,wk [0,1,2] []⟩
     ·conv=>whnf
      refine bq h fun w C h=>?_;refine qcl (g87_ok _ _ _ _ _ C) [0,1,2] [] ?_;rintro _ _ ⟨rfl,rfl⟩;refine⟨pI w,[.box 120 [.tsl 5 (qai a),.mref 1],.mp .string (qbc PV.str (PV.int .i64) b) none,.dead,.box 46 [pI d,pS c,pI i,pB j,pI k,pS l,pV m,pT o,pT f,pE g],.box 230 [pI J,pI K,pI L],.tail 9 1 (qai a).length],rfl,rfl,?_⟩;conv=>whnf
      exact⟨w,h,wk [0,1,3,5] []⟩
    ·conv=>whnf
     refine qh6.cut (S:=Bool) (fun u=>[(0,.ptr 0 0),(3,.ptr 2 0),(9,pI d),(58,pB u)]) (fun u=>[.box 120 [.tsl 3 (qai a),.mref 1],.mp .string (qbc PV.str (PV.int .i64) b) none,.box 46 [pI d,pS c,pI i,pB j,pI k,pS l,pV m,pT o,pT f,pE g],.tail 9 1 (qai a).length]) (qds n g87 g a b d f g165 c i j k l m o) (r:=r) ?_ ?_
     ·intro u h
      unfold qds at h;conv=>whnf
      apply ifc h<;>intro e h
      ·conv=>whnf
       refine bq h fun x E h=>?_;refine qcl (g87_ok _ _ _ _ _ E) [0,1,3] [] ?_;rintro _ _ ⟨rfl,rfl⟩;refine⟨pI x,[.box 120 [.tsl 4 (qai a),.mref 1],.mp .string (qbc PV.str (PV.int .i64) b) none,.box 46 [pI d,pS c,pI i,pB j,pI k,pS l,pV m,pT o,pT f,pE g],.dead,.tail 9 1 (qai a).length],rfl,rfl,?_⟩;conv=>whnf
       exact⟨x,h,wk [0,1,2,4] []⟩
      ·conv=>whnf
       apply ifc h<;>intro e h
       ·conv=>whnf
        refine bq h fun y F h=>?_;refine qcl (g87_ok _ _ _ _ _ F) [0,1,3] [] ?_;rintro _ _ ⟨rfl,rfl⟩;refine⟨pI y,[.box 120 [.tsl 4 (qai a),.mref 1],.mp .string (qbc PV.str (PV.int .i64) b) none,.box 46 [pI d,pS c,pI i,pB j,pI k,pS l,pV m,pT o,pT f,pE g],.dead,.tail 9 1 (qai a).length],rfl,rfl,?_⟩;conv=>whnf
        exact⟨y,h,wk [0,1,2,4] []⟩
       ·conv=>whnf
        apply ifc h<;>intro e h
        ·conv=>whnf
         refine bq h fun z G h=>?_;refine qcl (g165_ok _ _ _ _ G) [0,1,3] [] ?_;rintro _ _ ⟨rfl,rfl⟩;refine⟨pI z,[.box 120 [.tsl 4 (qai a),.mref 1],.mp .string (qbc PV.str (PV.int .i64) b) none,.box 46 [pI d,pS c,pI i,pB j,pI k,pS l,pV m,pT o,pT f,pE g],.dead,.tail 9 1 (qai a).length],rfl,rfl,?_⟩;conv=>whnf
         exact⟨z,h,wk [0,1,2,4] []⟩
        ·conv=>whnf
         refine bq h fun A H h=>?_;refine qcl (g87_ok _ _ _ _ _ H) [0,1,3] [] ?_;rintro _ _ ⟨rfl,rfl⟩;refine⟨pI A,[.box 120 [.tsl 4 (qai a),.mref 1],.mp .string (qbc PV.str (PV.int .i64) b) none,.box 46 [pI d,pS c,pI i,pB j,pI k,pS l,pV m,pT o,pT f,pE g],.dead,.tail 9 1 (qai a).length],rfl,rfl,?_⟩;conv=>whnf
         exact⟨A,h,wk [0,1,2,4] []⟩
     ·conv=>whnf
      apply ifc h<;>intro e h
      ·conv=>whnf
       exact⟨(d==4),h,wk [0,1,3,2] []⟩
      ·conv=>whnf
       apply ifc h<;>intro e h
       ·conv=>whnf
        exact⟨(d==11),h,wk [0,1,3,2] []⟩
       ·conv=>whnf
        exact⟨(d==12),h,wk [0,1,3,2] []⟩
theorem qxd (n:Nat) (g87:zpi) (g142:zph) (g165:zpj) (g87_ok:zsz g87) (g142_ok:zs0 g142) (g165_ok:zs1 g165):∀ (c:qaa) (a:List SS) (b:List (SS×Int)) (r:Int),qkk n g87 g142 g165 c a b=some r->qay Tryz.prog 165 [.ptr 0 0,.p (PV.agg (qcf.cells c))] [.box 120 [.tsl 2 (qai a),.mref 1],.mp .string (qbc PV.str (PV.int .i64) b) none,.tail 9 1 (qai a).length] 2 (fun v lo=>v=qny a b r/\lo=qnx a b r):=by
 intro c a b r h;obtain⟨d,f,⟨g,i,j,k,l,m⟩,o,e⟩:=c;unfold qkk at h;refine qay.of_vc mixed (fun _ _=>Tryz.call165 _ _) Tryz.func165 (by kernel_rfl) (inl:=[87,142,1000000]) (Nat.le_of_ble_eq_true rfl) ?_;conv=>whnf
 refine⟨id,id,id,?_⟩;conv=>whnf
 apply ifc h<;>intro q h
 ·conv=>whnf
  refine bq h fun y s h=>?_;refine qcl (g87_ok _ _ _ _ _ s) [0,1,2] [] ?_;rintro _ _ ⟨rfl,rfl⟩;refine⟨pI y,[.box 120 [.tsl 4 (qai a),.mref 1],.mp .string (qbc PV.str (PV.int .i64) b) none,.dead,.box 46 [pI d,pS f,pI g,pB i,pI j,pS k,pV l,pT m,pT o,pE e],.tail 9 1 (qai a).length],rfl,rfl,?_⟩;obtain rfl:=sj h;conv=>whnf
  refine⟨_,_,⟨rfl,rfl⟩,wk [0,1,4] []⟩
 ·conv=>whnf
  refine bq h fun⟨_,_,⟨_,_,_,_,_,_⟩,_,_⟩ x h=>?_;refine⟨_,Codec.at_ qcf x,?_⟩;conv=>whnf
  refine bq h fun⟨z,A⟩ t h=>?_;refine qcl (g142_ok _ _ _ _ t) [0,1,2] [] ?_;rintro _ _ ⟨rfl,rfl⟩;refine⟨.p (.tup [.int .i64 z,.int .i64 A]),[.box 120 [.tsl 4 (qai a),.mref 1],.mp .string (qbc PV.str (PV.int .i64) b) none,.dead,.box 46 [pI d,pS f,pI g,pB i,pI j,pS k,pV l,pT m,pT o,pE e],.tail 9 1 (qai a).length],rfl,rfl,?_⟩;conv=>whnf
  apply ifc h<;>intro q h
  ·obtain rfl:=sj h
   conv=>whnf
   refine⟨_,_,⟨rfl,rfl⟩,wk [0,1,4] []⟩
  ·conv=>whnf
   refine bq h fun⟨_,_,⟨_,_,_,_,_,_⟩,_,_⟩ w h=>?_;refine⟨_,Codec.at_ qcf w,?_⟩;conv=>whnf
   refine bq h fun⟨B,C⟩ u h=>?_;refine qcl (g142_ok _ _ _ _ u) [0,1,4] [] ?_;rintro _ _ ⟨rfl,rfl⟩;refine⟨.p (.tup [.int .i64 B,.int .i64 C]),[.box 120 [.tsl 5 (qai a),.mref 1],.mp .string (qbc PV.str (PV.int .i64) b) none,.dead,.box 46 [pI d,pS f,pI g,pB i,pI j,pS k,pV l,pT m,pT o,pE e],.dead,.tail 9 1 (qai a).length],rfl,rfl,?_⟩;conv=>whnf
   refine⟨id,id,id,?_⟩;conv=>whnf
   apply ifc h<;>intro q h
   ·obtain rfl:=sj h
    conv=>whnf
    refine⟨_,_,⟨rfl,rfl⟩,wk [0,1,5] []⟩
   ·obtain rfl:=sj h
    conv=>whnf
    refine⟨_,_,⟨rfl,rfl⟩,wk [0,1,5] []⟩
mutual
def qbe:Nat->(List qaa)->Int->(List SS)->(List (SS×Int))->Option (Int)
 | 0=>fun _ _ _ _=>none
 | n+1=>qly n (qbe n) (qcx n) (qc6 n)
def qcx:Nat->qaa->(List SS)->(List (SS×Int))->Option (Int×Int)
 | 0=>fun _ _ _=>none
 | n+1=>qkl n (qbe n) (qcx n) (qc6 n)
def qc6:Nat->qaa->(List SS)->(List (SS×Int))->Option (Int)
 | 0=>fun _ _ _=>none
 | n+1=>qkk n (qbe n) (qcx n) (qc6 n)
end
theorem qrl (n:Nat):(∀ (j:List qaa) (k:Int) (d:List SS) (e:List (SS×Int)) (r:Int),qbe n j k d e=some r->qay Tryz.prog 87 [.ptr 0 0,.p (PV.sl (qaa.rows j)),.p (PV.int .i64 k)] [.box 120 [.tsl 2 (qai d),.mref 1],.mp .string (qbc PV.str (PV.int .i64) e) none,.tail 9 1 (qai d).length] 2 (fun v lo=>v=qkv d e r/\lo=qku d e r))/\(∀ (c:qaa) (a:List SS) (b:List (SS×Int)) (r:Int×Int),qcx n c a b=some r->qay Tryz.prog 142 [.ptr 0 0,.p (PV.agg (qcf.cells c))] [.box 120 [.tsl 2 (qai a),.mref 1],.mp .string (qbc PV.str (PV.int .i64) b) none,.tail 9 1 (qai a).length] 2 (fun v lo=>v=qjs a b r/\lo=qjr a b r))/\(∀ (c:qaa) (a:List SS) (b:List (SS×Int)) (r:Int),qc6 n c a b=some r->qay Tryz.prog 165 [.ptr 0 0,.p (PV.agg (qcf.cells c))] [.box 120 [.tsl 2 (qai a),.mref 1],.mp .string (qbc PV.str (PV.int .i64) b) none,.tail 9 1 (qai a).length] 2 (fun v lo=>v=qny a b r/\lo=qnx a b r)):=by
 induction n with
 | zero=>exact⟨(by intros; rename_i h; cases h),(by intros; rename_i h; cases h),(by intros; rename_i h; cases h)⟩
 | succ n ih=>
  obtain⟨f,g,i⟩:=ih;exact⟨qxs n (qbe n) (qcx n) (qc6 n) f g i,qxe n (qbe n) (qcx n) (qc6 n) f g i,qxd n (qbe n) (qcx n) (qc6 n) f g i⟩
theorem qd3 (n:Nat):∀ (c:List qaa) (d:Int) (a:List SS) (b:List (SS×Int)) (r:Int),qbe n c d a b=some r->qay Tryz.prog 87 [.ptr 0 0,.p (PV.sl (qaa.rows c)),.p (PV.int .i64 d)] [.box 120 [.tsl 2 (qai a),.mref 1],.mp .string (qbc PV.str (PV.int .i64) b) none,.tail 9 1 (qai a).length] 2 (fun v lo=>v=qkv a b r/\lo=qku a b r):=(qrl n).1
theorem qx3 (n:Nat):∀ (c:qaa) (a:List SS) (b:List (SS×Int)) (r:Int×Int),qcx n c a b=some r->qay Tryz.prog 142 [.ptr 0 0,.p (PV.agg (qcf.cells c))] [.box 120 [.tsl 2 (qai a),.mref 1],.mp .string (qbc PV.str (PV.int .i64) b) none,.tail 9 1 (qai a).length] 2 (fun v lo=>v=qjs a b r/\lo=qjr a b r):=(qrl n).2.1
abbrev qyh (_:List SS) (_:List (SS×Int)) (r:Int):FV:=pI r
abbrev qye (a:List SS) (b:List (SS×Int)) (r:Int):List AObj:=[.box 120 [.tsl 2 (qai a),.mref 1],.mp .string (qbc PV.str (PV.int .i64) b) none,.tail 9 1 (qai a).length]
def qf7 (n:Nat) (b:List SS) (c:List qaa) (d:List SS) (e:List (SS×Int)):Option (Int):=
 bnd (qbe n c (3:Int) d e) fun a=>
 bif(a != 0)then(
 some a)
 else(
 bnd (qnd n b) fun f=>
 bif f then(
 some (2:Int))
 else(
 some (0:Int)))
theorem qql (n:Nat):∀ (c:List SS) (d:List qaa) (a:List SS) (b:List (SS×Int)) (r:Int),qf7 n c d a b=some r->qay Tryz.prog 163 [.ptr 0 0,.p (PV.sl (qai c)),.p (PV.sl (qaa.rows d))] [.box 120 [.tsl 2 (qai a),.mref 1],.mp .string (qbc PV.str (PV.int .i64) b) none,.tail 9 1 (qai a).length] 2 (fun v lo=>v=qyh a b r/\lo=qye a b r):=by
 intro c d a b r h;unfold qf7 at h;refine qay.of_vc mixed (fun _ _=>Tryz.call163 _ _) Tryz.func163 (by kernel_rfl) (inl:=[87,1000000]) (Nat.le_of_ble_eq_true rfl) ?_;conv=>whnf
 refine bq h fun i e h=>?_;refine qcl (qd3 n _ _ _ _ _ e) [0,1,2] [] ?_;rintro _ _ ⟨rfl,rfl⟩;refine⟨pI i,[.box 120 [.tsl 3 (qai a),.mref 1],.mp .string (qbc PV.str (PV.int .i64) b) none,.dead,.tail 9 1 (qai a).length],rfl,rfl,?_⟩;conv=>whnf
 apply ifc h<;>intro g h
 ·obtain rfl:=sj h
  conv=>whnf
  refine⟨_,_,⟨rfl,rfl⟩,wk [0,1,3] []⟩
 ·conv=>whnf
  refine bq h fun _ f h=>?_;refine⟨_,(qw7 n _ _ f),?_⟩;conv=>whnf
  apply ifc h<;>intro g h
  ·obtain rfl:=sj h
   conv=>whnf
   refine⟨_,_,⟨rfl,rfl⟩,wk [0,1,3] []⟩
  ·obtain rfl:=sj h
   conv=>whnf
   refine⟨_,_,⟨rfl,rfl⟩,wk [0,1,3] []⟩
abbrev qzz (_:List SS) (_:List (SS×Int)) (_:List SS) (_:List (SS×Int)) (r:Int×(List SS)×(List (SS×Int))):FV:=.p (.int .i64 r.1)
abbrev qzr (_:List SS) (_:List (SS×Int)) (a:List SS) (b:List (SS×Int)) (r:Int×(List SS)×(List (SS×Int))):List AObj:=[.box 120 [.tsl 4 (qai r.2.1),.mref 2],.box 120 [.tsl 5 (qai a),.mref 3],.mp .string (qbc PV.str (PV.int .i64) r.2.2) none,.mp .string (qbc PV.str (PV.int .i64) b) none,.tail 9 1 (qai r.2.1).length,.tail 9 1 (qai a).length]
def qgg (n:Nat):List SS×List (SS×Int)->Option (Int×(List SS)×(List (SS×Int))):=fun(a,b)=>
 some ((0:Int),a,b)
def qiz (n:Nat) (e:qag) (o:Bool) (b:List SS) (a:List (SS×Int)) (p:List SS) (f:List (SS×Int)):Option (Int×(List SS)×(List (SS×Int))):=
 match e with
 | ⟨c,j,k,l,m⟩=>
 bif(bif((qd9 a c (0:Int)) != 0)then true else(bif o then(bif(j==([]:SS))then true else(k==2))else false))then(
 some ((2:Int),b,a))
 else(
 bnd (qf7 n l m p f) fun d=>
 bif(d != 0)then(
 some (d,b,a))
 else(
 bif(!(c==([]:SS)))then(
 bnd (qc5 n c (2:Int) b a) fun⟨g,i⟩=>
 qgg n (g,i))
 else(
 qgg n (b,a))))
theorem qx2 (n:Nat):∀ (f:qag) (k:Bool) (c:List SS) (b:List (SS×Int)) (a:List SS) (d:List (SS×Int)) (r:Int×(List SS)×(List (SS×Int))),qiz n f k c b a d=some r->qay Tryz.prog 161 [.ptr 0 0,.p (PV.agg (qgu.cells f)),.ptr 1 0,.p (PV.bool k)] [.box 120 [.tsl 4 (qai c),.mref 2],.box 120 [.tsl 5 (qai a),.mref 3],.mp .string (qbc PV.str (PV.int .i64) b) none,.mp .string (qbc PV.str (PV.int .i64) d) none,.tail 9 1 (qai c).length,.tail 9 1 (qai a).length] 4 (fun v lo=>v=qzz c b a d r/\lo=qzr c b a d r):=by
 intro f k c b a d r h;obtain⟨e,o,q,s,t⟩:=f;unfold qiz at h;refine qay.of_vc mixed (fun _ _=>Tryz.call161 _ _) Tryz.func161 (by kernel_rfl) (inl:=[88,163,1000000]) (Nat.le_of_ble_eq_true rfl) ?_;conv=>whnf
 refine⟨PV.int .i64 (qd9 b e (0:Int)),(q6c b e),⟨qua qel (PV.int .i64) b e (0:Int),qub qel (PV.int .i64) b e⟩,?_⟩;conv=>whnf
 iterate 11 refine⟨id,?_⟩
 conv=>whnf
 apply ifc h<;>intro l h
 ·obtain rfl:=sj h
  conv=>whnf
  refine⟨_,_,⟨rfl,rfl⟩,wk [0,1,2,3,4,5] []⟩
 ·conv=>whnf
  refine bq h fun x u h=>?_;refine qcl (qql n _ _ _ _ _ u) [1,3,5] [] ?_;rintro _ _ ⟨rfl,rfl⟩;refine⟨pI x,[.box 120 [.tsl 4 (qai c),.mref 2],.box 120 [.tsl 7 (qai a),.mref 3],.mp .string (qbc PV.str (PV.int .i64) b) none,.mp .string (qbc PV.str (PV.int .i64) d) none,.tail 9 1 (qai c).length,.dead,.box 68 [pS e,pS o,pI q,pT s,pE t],.tail 9 1 (qai a).length],rfl,rfl,?_⟩;conv=>whnf
  apply ifc h<;>intro l h
  ·obtain rfl:=sj h
   conv=>whnf
   refine⟨_,_,⟨rfl,rfl⟩,wk [0,1,2,3,4,7] []⟩
  ·conv=>whnf
   refine qh6.cut (S:=List SS×List (SS×Int)) (fun(g,i)=>[]) (fun(g,i)=>[.box 120 [.tsl 4 (qai g),.mref 2],.box 120 [.tsl 5 (qai a),.mref 3],.mp .string (qbc PV.str (PV.int .i64) i) none,.mp .string (qbc PV.str (PV.int .i64) d) none,.tail 9 1 (qai g).length,.tail 9 1 (qai a).length]) (qgg n) (r:=r) ?_ ?_
   ·intro st h
    obtain⟨g,i⟩:=st;unfold qgg at h;obtain rfl:=sj h;conv=>whnf
    refine⟨_,_,⟨rfl,rfl⟩,wk [0,1,2,3,4,5] []⟩
   ·conv=>whnf
    apply ifc h<;>intro l h
    ·conv=>whnf
     refine bq h fun⟨j,m⟩ w h=>?_;refine qcl (qgf n _ _ _ _ _ w) [0,2,4] [] ?_;rintro _ _ ⟨rfl,rfl⟩;refine⟨.p (.tup []),[.box 120 [.tsl 8 (qai j),.mref 2],.box 120 [.tsl 7 (qai a),.mref 3],.mp .string (qbc PV.str (PV.int .i64) m) none,.mp .string (qbc PV.str (PV.int .i64) d) none,.dead,.dead,.box 68 [pS e,pS o,pI q,pT s,pE t],.tail 9 1 (qai a).length,.tail 9 1 (qai j).length],rfl,rfl,?_⟩;conv=>whnf
     exact⟨(j,m),h,wk [0,1,2,3,8,7] []⟩
    ·conv=>whnf
     exact⟨(c,b),h,wk [0,1,2,3,4,7] []⟩
abbrev q05 (_:List SS) (_:List (SS×Int)) (r:Bool×Int):FV:=.p (.tup [.bool r.1,.int .i64 r.2])
abbrev q02 (a:List SS) (b:List (SS×Int)) (r:Bool×Int):List AObj:=[.box 120 [.tsl 2 (qai a),.mref 1],.mp .string (qbc PV.str (PV.int .i64) b) none,.tail 9 1 (qai a).length]
def qkd (n:Nat) (a:SS) (_:List SS) (b:List (SS×Int)):Option (Bool×Int):=
 bif(bif(a==([]:SS))then true else((qd9 b a (0:Int))==0))then(
 some (false,(0:Int)))
 else(
 bif((qd9 b a (0:Int)) != 1)then(
 some (true,(3:Int)))
 else(
 some (true,(0:Int))))
theorem qze (n:Nat):∀ (b:SS) (c:List SS) (a:List (SS×Int)) (r:Bool×Int),qkd n b c a=some r->qay Tryz.prog 162 [.ptr 0 0,.p (PV.str b)] [.box 120 [.tsl 2 (qai c),.mref 1],.mp .string (qbc PV.str (PV.int .i64) a) none,.tail 9 1 (qai c).length] 2 (fun v lo=>v=q05 c a r/\lo=q02 c a r):=by
 intro b c a r h;unfold qkd at h;refine qay.of_vc mixed (fun _ _=>Tryz.call162 _ _) Tryz.func162 (by kernel_rfl) (inl:=[1000000]) (Nat.le_of_ble_eq_true rfl) ?_;conv=>whnf
 refine⟨PV.int .i64 (qd9 a b (0:Int)),(q6c a b),⟨qua qel (PV.int .i64) a b (0:Int),qub qel (PV.int .i64) a b⟩,?_⟩;conv=>whnf
 refine⟨id,id,?_⟩;conv=>whnf
 apply ifc h<;>intro d h
 ·obtain rfl:=sj h
  conv=>whnf
  refine⟨_,_,⟨rfl,rfl⟩,wk [0,1,2] []⟩
 ·conv=>whnf
  apply ifc h<;>intro d h
  ·obtain rfl:=sj h
   conv=>whnf
   refine⟨_,_,⟨rfl,rfl⟩,wk [0,1,2] []⟩
  ·obtain rfl:=sj h
   conv=>whnf
   refine⟨_,_,⟨rfl,rfl⟩,wk [0,1,2] []⟩
abbrev qz1 (_:List SS) (_:List (SS×Int)) (_:List SS) (_:List (SS×Int)) (r:Int×(List SS)×(List (SS×Int))):FV:=.p (.int .i64 r.1)
abbrev qzt (_:List SS) (_:List (SS×Int)) (a:List SS) (b:List (SS×Int)) (r:Int×(List SS)×(List (SS×Int))):List AObj:=[.box 120 [.tsl 4 (qai r.2.1),.mref 2],.box 120 [.tsl 5 (qai a),.mref 3],.mp .string (qbc PV.str (PV.int .i64) r.2.2) none,.mp .string (qbc PV.str (PV.int .i64) b) none,.tail 9 1 (qai r.2.1).length,.tail 9 1 (qai a).length]
def qfy (n:Nat) (a:Int×List SS×List (SS×Int)->Option (Int×(List SS)×(List (SS×Int)))) (d:Int):List SS×List (SS×Int)->Option (Int×(List SS)×(List (SS×Int))):=fun(b,c)=>
 a ((IntKind.i64.wrap (d+1)),b,c)
def qf0 (n:Nat) (a:List SS) (b:List (SS×Int)) (d:SS) (c:Int×List SS×List (SS×Int)->Option (Int×(List SS)×(List (SS×Int)))) (f:Int):Int->Option (Int×(List SS)×(List (SS×Int))):=fun e=>
 bif(e != 0)then(
 some (e,a,b))
 else(
 bif(!(d==([]:SS)))then(
 bnd (qc5 n d (1:Int) a b) fun⟨g,i⟩=>
 qfy n c f (g,i))
 else(
 qfy n c f (a,b)))
def qfz (n:Nat) (g:List SS) (i:List qaa) (k:List SS) (l:List (SS×Int)) (c:List SS) (d:List (SS×Int)) (b:SS) (a:Int×List SS×List (SS×Int)->Option (Int×(List SS)×(List (SS×Int)))) (f:Int):Int->Option (Int×(List SS)×(List (SS×Int))):=fun e=>
 bif(e==0)then(
 bnd (qf7 n g i k l) fun j=>
 qf0 n c d b a f j)
 else(
 qf0 n c d b a f e)
def qen (n:Nat) (a:SS) (o:Bool) (l b:List SS) (f:List qaa) (i:List SS) (j:List (SS×Int)) (e:Int×List SS×List (SS×Int)->Option (Int×(List SS)×(List (SS×Int)))) (k:Int):List SS×List (SS×Int)->Option (Int×(List SS)×(List (SS×Int))):=fun(c,d)=>
 bnd (qkd n a c d) fun⟨m,g⟩=>
 bif(bif(bif(bif(g==0)then m else false)then o else false)then(decide ((IntKind.i64.wrap (((qai l).length:Int)+((qai b).length:Int)))>0))else false)then(
 qfz n b f i j c d a e k (2:Int))
 else(
 qfz n b f i j c d a e k g)
def qe8 (n:Nat) (i:List qae) (s:List qag) (c:Bool) (d:List SS) (e:List (SS×Int)):(Int×List SS×List (SS×Int)->Option (Int×(List SS)×(List (SS×Int))))->Int×List SS×List (SS×Int)->Option (Int×(List SS)×(List (SS×Int))):=fun g (a,f,b)=>
 bif(decide (a<((qae.rows i).length:Int)))then(
 bnd (idx i a) fun⟨j,k,l,m⟩=>
 bif(decide (a>0))then(
 bnd (idx s (IntKind.i64.wrap (a - 1))) fun⟨t,u,v,w,x⟩=>
 bnd (qiz n (qag.mk t u v w x) c f b d e) fun⟨o,p,q⟩=>
 bif(o != 0)then(
 some (o,p,q))
 else(
 qen n j c k l m d e g a (p,q)))
 else(
 qen n j c k l m d e g a (f,b)))
 else(
 some ((0:Int),f,b))
def qi1 (n:Nat) (a:qa6) (d:Bool) (e:List SS) (f:List (SS×Int)) (g:List SS) (i:List (SS×Int)):Option (Int×(List SS)×(List (SS×Int))):=
 match a with
 | ⟨b,c⟩=>
 qan (qe8 n b c d g i) n ((0:Int),e,f)
set_option maxHeartbeats 4000000 in
theorem qx5 (n:Nat):∀ (w:qa6) (j:Bool) (q:List SS) (t:List (SS×Int)) (a:List SS) (c:List (SS×Int)) (r:Int×(List SS)×(List (SS×Int))),qi1 n w j q t a c=some r->qay Tryz.prog 141 [.ptr 0 0,.p (PV.agg (ql2.cells w)),.ptr 1 0,.p (PV.bool j)] [.box 120 [.tsl 4 (qai q),.mref 2],.box 120 [.tsl 5 (qai a),.mref 3],.mp .string (qbc PV.str (PV.int .i64) t) none,.mp .string (qbc PV.str (PV.int .i64) c) none,.tail 9 1 (qai q).length,.tail 9 1 (qai a).length] 4 (fun v lo=>v=qz1 q t a c r/\lo=qzt q t a c r):=by
 intro w j q t a c r h;obtain⟨b,i⟩:=w;unfold qi1 at h;refine qay.of_vc mixed (fun _ _=>Tryz.call141 _ _) Tryz.func141 (by kernel_rfl) (inl:=[88,161,162,163,1000000]) (Nat.le_of_ble_eq_true rfl) ?_;conv=>whnf
 refine qbl.fn [88,161,162,163,1000000] (S:=Int×List SS×List (SS×Int)) (fun(e,u,y)=>[(0,.ptr 0 0),(2,.ptr 1 0),(3,pB j),(5,.ptr 4 0),(15,pN b),(16,.p (.int .i64 ((qae.rows b).length:Int))),(17,pI e)]) (fun(e,u,y)=>[.box 120 [.tsl 5 (qai u),.mref 2],.box 120 [.tsl 6 (qai a),.mref 3],.mp .string (qbc PV.str (PV.int .i64) y) none,.mp .string (qbc PV.str (PV.int .i64) c) none,.box 59 [pN b,pG i],.tail 9 1 (qai u).length,.tail 9 1 (qai a).length]) (B:=qe8 n b i j a c) h (wk [0,1,2,3,6,4,5] []) ?_;intro x st h;obtain⟨e,u,y⟩:=st;unfold qe8 at h;conv=>whnf
 apply ifc h<;>intro o h
 ·conv=>whnf
  refine qh6.cut (S:=List SS×List (SS×Int)) (fun(s,z)=>[(0,.ptr 0 0),(2,.ptr 1 0),(3,pB j),(5,.ptr 4 0),(15,pN b),(16,.p (.int .i64 ((qae.rows b).length:Int))),(17,pI e)]) (fun(s,z)=>[.box 120 [.tsl 5 (qai s),.mref 2],.box 120 [.tsl 6 (qai a),.mref 3],.mp .string (qbc PV.str (PV.int .i64) z) none,.mp .string (qbc PV.str (PV.int .i64) c) none,.box 59 [pN b,pG i],.tail 9 1 (qai s).length,.tail 9 1 (qai a).length]) (qfy n x e) (r:=r) ?_ ?_
  ·intro st h
   obtain⟨s,z⟩:=st;unfold qfy at h;conv=>whnf
   exact⟨((IntKind.i64.wrap (e+1)),s,z),h,wk [0,1,2,3,4,5,6] []⟩
  ·conv=>whnf
   refine bq h fun⟨f,m,k,l⟩ O h=>?_;refine⟨_,Codec.at_ qea O,?_⟩;conv=>whnf
   refine qh6.cut (S:=List SS×List (SS×Int)) (fun(d,g)=>[(0,.ptr 0 0),(2,.ptr 1 0),(3,pB j),(5,.ptr 4 0),(10,.ptr 5 0),(15,pN b),(16,.p (.int .i64 ((qae.rows b).length:Int))),(17,pI e)]) (fun(d,g)=>[.box 120 [.tsl 6 (qai d),.mref 2],.box 120 [.tsl 7 (qai a),.mref 3],.mp .string (qbc PV.str (PV.int .i64) g) none,.mp .string (qbc PV.str (PV.int .i64) c) none,.box 59 [pN b,pG i],.box 55 [pS f,pT m,pT k,pE l],.tail 9 1 (qai d).length,.tail 9 1 (qai a).length]) (qen n f j m k l a c x e) (r:=r) ?_ ?_
   ·intro st h
    obtain⟨d,g⟩:=st;unfold qen at h;conv=>whnf
    refine bq h fun⟨P,F⟩ J h=>?_;refine qcl (qze n _ _ _ _ J) [0,2,6] [] ?_;rintro _ _ ⟨rfl,rfl⟩;refine⟨.p (.tup [.bool P,.int .i64 F]),[.box 120 [.tsl 8 (qai d),.mref 2],.box 120 [.tsl 7 (qai a),.mref 3],.mp .string (qbc PV.str (PV.int .i64) g) none,.mp .string (qbc PV.str (PV.int .i64) c) none,.box 59 [pN b,pG i],.box 55 [pS f,pT m,pT k,pE l],.dead,.tail 9 1 (qai a).length,.tail 9 1 (qai d).length],rfl,rfl,?_⟩;conv=>whnf
    refine qh6.cut (S:=Int) (fun A=>[(0,.ptr 0 0),(2,.ptr 1 0),(3,pB j),(5,.ptr 4 0),(10,.ptr 5 0),(13,pI A),(15,pN b),(16,.p (.int .i64 ((qae.rows b).length:Int))),(17,pI e)]) (fun A=>[.box 120 [.tsl 6 (qai d),.mref 2],.box 120 [.tsl 7 (qai a),.mref 3],.mp .string (qbc PV.str (PV.int .i64) g) none,.mp .string (qbc PV.str (PV.int .i64) c) none,.box 59 [pN b,pG i],.box 55 [pS f,pT m,pT k,pE l],.tail 9 1 (qai d).length,.tail 9 1 (qai a).length]) (qfz n k l a c d g f x e) (r:=r) ?_ ?_
    ·intro A h
     unfold qfz at h;conv=>whnf
     refine qh6.cut (S:=Int) (fun C=>[(0,.ptr 0 0),(2,.ptr 1 0),(3,pB j),(5,.ptr 4 0),(10,.ptr 5 0),(13,pI C),(15,pN b),(16,.p (.int .i64 ((qae.rows b).length:Int))),(17,pI e)]) (fun C=>[.box 120 [.tsl 6 (qai d),.mref 2],.box 120 [.tsl 7 (qai a),.mref 3],.mp .string (qbc PV.str (PV.int .i64) g) none,.mp .string (qbc PV.str (PV.int .i64) c) none,.box 59 [pN b,pG i],.box 55 [pS f,pT m,pT k,pE l],.tail 9 1 (qai d).length,.tail 9 1 (qai a).length]) (qf0 n d g f x e) (r:=r) ?_ ?_
     ·intro C h
      unfold qf0 at h;conv=>whnf
      apply ifc h<;>intro o h
      ·obtain rfl:=sj h
       conv=>whnf
       refine⟨_,_,⟨rfl,rfl⟩,wk [0,1,2,3,6,7] []⟩
      ·conv=>whnf
       apply ifc h<;>intro o h
       ·conv=>whnf
        refine bq h fun⟨D,G⟩ K h=>?_;refine qcl (qgf n _ _ _ _ _ K) [0,2,6] [] ?_;rintro _ _ ⟨rfl,rfl⟩;refine⟨.p (.tup []),[.box 120 [.tsl 8 (qai D),.mref 2],.box 120 [.tsl 7 (qai a),.mref 3],.mp .string (qbc PV.str (PV.int .i64) G) none,.mp .string (qbc PV.str (PV.int .i64) c) none,.box 59 [pN b,pG i],.box 55 [pS f,pT m,pT k,pE l],.dead,.tail 9 1 (qai a).length,.tail 9 1 (qai D).length],rfl,rfl,?_⟩;conv=>whnf
        exact⟨(D,G),h,wk [0,1,2,3,4,8,7] []⟩
       ·conv=>whnf
        exact⟨(d,g),h,wk [0,1,2,3,4,6,7] []⟩
     ·conv=>whnf
      apply ifc h<;>intro o h
      ·conv=>whnf
       refine bq h fun H L h=>?_;refine qcl (qql n _ _ _ _ _ L) [1,3,7] [] ?_;rintro _ _ ⟨rfl,rfl⟩;refine⟨pI H,[.box 120 [.tsl 6 (qai d),.mref 2],.box 120 [.tsl 8 (qai a),.mref 3],.mp .string (qbc PV.str (PV.int .i64) g) none,.mp .string (qbc PV.str (PV.int .i64) c) none,.box 59 [pN b,pG i],.box 55 [pS f,pT m,pT k,pE l],.tail 9 1 (qai d).length,.dead,.tail 9 1 (qai a).length],rfl,rfl,?_⟩;conv=>whnf
       exact⟨H,h,wk [0,1,2,3,4,5,6,8] []⟩
      ·conv=>whnf
       exact⟨A,h,wk [0,1,2,3,4,5,6,7] []⟩
    ·conv=>whnf
     refine⟨id,?_⟩;conv=>whnf
     iterate 9 refine⟨id,?_⟩
     conv=>whnf
     apply ifc h<;>intro o h
     ·conv=>whnf
      exact⟨(2:Int),h,wk [0,1,2,3,4,5,8,7] []⟩
     ·conv=>whnf
      exact⟨F,h,wk [0,1,2,3,4,5,8,7] []⟩
   ·conv=>whnf
    apply ifc h<;>intro o h
    ·conv=>whnf
     refine bq h fun⟨_,_,_,_,_⟩ N h=>?_;refine⟨_,Codec.at_ qgu N,?_⟩;conv=>whnf
     refine bq h fun⟨Q,E,I⟩ M h=>?_;refine qcl (qx2 n _ _ _ _ _ _ _ M) [0,1,2,3,5,6] [] ?_;rintro _ _ ⟨rfl,rfl⟩;refine⟨pI Q,[.box 120 [.tsl 8 (qai E),.mref 2],.box 120 [.tsl 9 (qai a),.mref 3],.mp .string (qbc PV.str (PV.int .i64) I) none,.mp .string (qbc PV.str (PV.int .i64) c) none,.box 59 [pN b,pG i],.dead,.dead,.box 55 [pS f,pT m,pT k,pE l],.tail 9 1 (qai E).length,.tail 9 1 (qai a).length],rfl,rfl,?_⟩;conv=>whnf
     apply ifc h<;>intro o h
     ·obtain rfl:=sj h
      conv=>whnf
      refine⟨_,_,⟨rfl,rfl⟩,wk [0,1,2,3,8,9] []⟩
     ·conv=>whnf
      exact⟨(E,I),h,wk [0,1,2,3,4,7,8,9] []⟩
    ·conv=>whnf
     exact⟨(u,y),h,wk [0,1,2,3,4,7,5,6] []⟩
 ·obtain rfl:=sj h
  conv=>whnf
  refine⟨_,_,⟨rfl,rfl⟩,wk [0,1,2,3,5,6] []⟩
abbrev qyg (_:List SS) (_:List (SS×Int)) (r:Int×(List SS)×(List (SS×Int))):FV:=.p (.int .i64 r.1)
abbrev qyd (_:List SS) (_:List (SS×Int)) (r:Int×(List SS)×(List (SS×Int))):List AObj:=[.box 120 [.tsl 2 (qai r.2.1),.mref 1],.mp .string (qbc PV.str (PV.int .i64) r.2.2) none,.tail 9 1 (qai r.2.1).length]
def qeo (n:Nat) (b:List qa6) (l:Bool) (m:List SS) (o:List (SS×Int)):(Int×List SS×List (SS×Int)->Option (Int×(List SS)×(List (SS×Int))))->Int×List SS×List (SS×Int)->Option (Int×(List SS)×(List (SS×Int))):=fun i (a,f,g)=>
 bif(decide (a<((qa6.rows b).length:Int)))then(
 bnd (idx b a) fun⟨j,k⟩=>
 bnd (qi1 n (qa6.mk j k) l f g m o) fun⟨c,d,e⟩=>
 bif(c != 0)then(
 some (c,d,e))
 else(
 i ((IntKind.i64.wrap (a+1)),d,e)))
 else(
 some ((0:Int),f,g))
def qe2 (n:Nat) (c:List qa6) (d:Bool) (a:List SS) (b:List (SS×Int)):Option (Int×(List SS)×(List (SS×Int))):=
 bnd (qix n a b) fun⟨e,f⟩=>
 qan (qeo n c d e f) n ((0:Int),a,b)
theorem qlu (n:Nat):∀ (c:List qa6) (e:Bool) (a:List SS) (d:List (SS×Int)) (r:Int×(List SS)×(List (SS×Int))),qe2 n c e a d=some r->qay Tryz.prog 86 [.ptr 0 0,.p (PV.sl (qa6.rows c)),.p (PV.bool e)] [.box 120 [.tsl 2 (qai a),.mref 1],.mp .string (qbc PV.str (PV.int .i64) d) none,.tail 9 1 (qai a).length] 2 (fun v lo=>v=qyg a d r/\lo=qyd a d r):=by
 intro c e a d r h;unfold qe2 at h;refine qay.of_vc mixed (fun _ _=>Tryz.call86 _ _) Tryz.func86 (by kernel_rfl) (inl:=[140,141,1000000]) (Nat.le_of_ble_eq_true rfl) ?_;conv=>whnf
 refine bq h fun⟨b,f⟩ m h=>?_;refine qcl (qx0 n _ _ _ m) [0,1,2] [] ?_;rintro _ _ ⟨rfl,rfl⟩;refine⟨.ptr 4 0,[.box 120 [.tsl 3 (qai a),.mref 1],.mp .string (qbc PV.str (PV.int .i64) d) none,.dead,.tail 9 1 (qai a).length,.box 120 [.tsl 6 (qai b),.mref 5],.mp .string (qbc PV.str (PV.int .i64) f) none,.tail 9 1 (qai b).length],rfl,rfl,?_⟩;conv=>whnf
 refine qbl.fn [140,141,1000000] (S:=Int×List SS×List (SS×Int)) (fun(g,i,k)=>[(0,.ptr 0 0),(2,pB e),(7,.ptr 2 0),(13,pP c),(14,.p (.int .i64 ((qa6.rows c).length:Int))),(15,pI g)]) (fun(g,i,k)=>[.box 120 [.tsl 3 (qai i),.mref 1],.mp .string (qbc PV.str (PV.int .i64) k) none,.box 120 [.tsl 4 (qai b),.mref 5],.tail 9 1 (qai i).length,.tail 9 1 (qai b).length,.mp .string (qbc PV.str (PV.int .i64) f) none]) (B:=qeo n c e b f) h (wk [0,1,4,3,6,5] []) ?_;intro _ st h;obtain⟨g,i,k⟩:=st;unfold qeo at h;conv=>whnf
 apply ifc h<;>intro s h
 ·conv=>whnf
  refine bq h fun⟨t,u⟩ q h=>?_;refine⟨_,Codec.at_ ql2 q,?_⟩;conv=>whnf
  refine bq h fun⟨w,j,l⟩ o h=>?_;refine qcl (qx5 n _ _ _ _ _ _ _ o) [0,2,1,5,3,4] [] ?_;rintro _ _ ⟨rfl,rfl⟩;refine⟨pI w,[.box 120 [.tsl 7 (qai j),.mref 1],.mp .string (qbc PV.str (PV.int .i64) l) none,.box 120 [.tsl 8 (qai b),.mref 5],.dead,.dead,.mp .string (qbc PV.str (PV.int .i64) f) none,.box 59 [pN t,pG u],.tail 9 1 (qai j).length,.tail 9 1 (qai b).length],rfl,rfl,?_⟩;conv=>whnf
  apply ifc h<;>intro s h
  ·obtain rfl:=sj h
   conv=>whnf
   refine⟨_,_,⟨rfl,rfl⟩,wk [0,1,7] []⟩
  ·conv=>whnf
   exact⟨((IntKind.i64.wrap (g+1)),j,l),h,wk [0,1,2,7,8,5] []⟩
 ·obtain rfl:=sj h
  conv=>whnf
  refine⟨_,_,⟨rfl,rfl⟩,wk [0,1,3] []⟩
abbrev qz3 (_:List SS) (_:List (SS×Int)) (r:Int):FV:=pI r
abbrev qzv (a:List SS) (b:List (SS×Int)) (r:Int):List AObj:=[.box 120 [.tsl 2 (qai a),.mref 1],.mp .string (qbc PV.str (PV.int .i64) b) none,.tail 9 1 (qai a).length]
def qgj (n:Nat) (a:Int->Option (Int)) (b:Int):Unit->Option (Int):=fun _=>
 a (IntKind.i64.wrap (b+1))
def qe9 (n:Nat) (e:List qaf) (a:List (SS×Int)) (s:List SS):(Int->Option (Int))->Int->Option (Int):=fun d b=>
 bif(decide (b<((qaf.rows e).length:Int)))then(
 bnd (idx e b) fun⟨c,_,t,⟨g,u,⟨i,j,k,l,m,o⟩,p,q⟩⟩=>
 bif((qd9 a c (0:Int))==0)then(
 some (2:Int))
 else(
 bif(bif((qd9 a c (0:Int))==3)then true else(bif((qd9 a c (0:Int))==2)then(!(t==([]:SS)))else false))then(
 some (3:Int))
 else(
 bif(g != 0)then(
 bnd (qbe n [qaa.mk g u (Val.mk i j k l m o) p q] (3:Int) s a) fun f=>
 bif(f != 0)then(
 some f)
 else(
 qgj n d b ()))
 else(
 qgj n d b ()))))
 else(
 some (0:Int))
def qi3 (n:Nat) (a:List qaf) (b:List SS) (c:List (SS×Int)):Option (Int):=
 qan (qe9 n a c b) n (0:Int)
theorem qx6 (n:Nat):∀ (c:List qaf) (a:List SS) (b:List (SS×Int)) (r:Int),qi3 n c a b=some r->qay Tryz.prog 89 [.ptr 0 0,.p (PV.sl (qaf.rows c))] [.box 120 [.tsl 2 (qai a),.mref 1],.mp .string (qbc PV.str (PV.int .i64) b) none,.tail 9 1 (qai a).length] 2 (fun v lo=>v=qz3 a b r/\lo=qzv a b r):=by
 intro c a b r h;unfold qi3 at h;refine qay.of_vc mixed (fun _ _=>Tryz.call89 _ _) Tryz.func89 (by kernel_rfl) (inl:=[87,1000000]) (Nat.le_of_ble_eq_true rfl) ?_;conv=>whnf
 refine qbl.fn [87,1000000] (S:=Int) (fun d=>[(0,.ptr 0 0),(9,pU c),(10,.p (.int .i64 ((qaf.rows c).length:Int))),(11,pI d)]) (fun d=>[.box 120 [.tsl 2 (qai a),.mref 1],.mp .string (qbc PV.str (PV.int .i64) b) none,.tail 9 1 (qai a).length]) (B:=qe9 n c b a) h (wk [0,1,2] []) ?_;intro x d h;unfold qe9 at h;conv=>whnf
 apply ifc h<;>intro f h
 ·conv=>whnf
  refine qh6.cut (S:=Unit) (fun _=>[(0,.ptr 0 0),(9,pU c),(10,.p (.int .i64 ((qaf.rows c).length:Int))),(11,pI d)]) (fun _=>[.box 120 [.tsl 2 (qai a),.mref 1],.mp .string (qbc PV.str (PV.int .i64) b) none,.tail 9 1 (qai a).length]) (qgj n x d) (r:=r) ?_ ?_
  ·intro _ h
   unfold qgj at h;conv=>whnf
   exact⟨(IntKind.i64.wrap (d+1)),h,wk [0,1,2] []⟩
  ·conv=>whnf
   refine bq h fun⟨e,z,A,⟨s,t,⟨g,i,j,k,l,m⟩,o,q⟩⟩ w h=>?_;refine⟨_,Codec.at_ qjb w,?_⟩;conv=>whnf
   refine⟨PV.int .i64 (qd9 b e (0:Int)),(q6c b e),⟨qua qel (PV.int .i64) b e (0:Int),qub qel (PV.int .i64) b e⟩,?_⟩;conv=>whnf
   apply ifc h<;>intro f h
   ·obtain rfl:=sj h
    conv=>whnf
    refine⟨_,_,⟨rfl,rfl⟩,wk [0,1,2] []⟩
   ·conv=>whnf
    iterate 7 refine⟨id,?_⟩
    conv=>whnf
    apply ifc h<;>intro f h
    ·obtain rfl:=sj h
     conv=>whnf
     refine⟨_,_,⟨rfl,rfl⟩,wk [0,1,2] []⟩
    ·conv=>whnf
     apply ifc h<;>intro f h
     ·conv=>whnf
      refine⟨Codec.one qcf [qaa.mk s t (Val.mk g i j k l m) o q],qaa.rows [qaa.mk s t (Val.mk g i j k l m) o q],.inl rfl,?_⟩;conv=>whnf
      refine bq h fun y u h=>?_;refine qcl (qd3 n _ _ _ _ _ u) [0,1,2] [] ?_;rintro _ _ ⟨rfl,rfl⟩;refine⟨pI y,[.box 120 [.tsl 4 (qai a),.mref 1],.mp .string (qbc PV.str (PV.int .i64) b) none,.dead,.box 74 [pS e,pS z,pS A,pI s,pS t,pI g,pB i,pI j,pS k,pV l,pT m,pT o,pE q],.tail 9 1 (qai a).length],rfl,rfl,?_⟩;conv=>whnf
      apply ifc h<;>intro f h
      ·obtain rfl:=sj h
       conv=>whnf
       refine⟨_,_,⟨rfl,rfl⟩,wk [0,1,4] []⟩
      ·conv=>whnf
       exact⟨(),h,wk [0,1,4] []⟩
     ·conv=>whnf
      exact⟨(),h,wk [0,1,2] []⟩
 ·obtain rfl:=sj h
  conv=>whnf
  refine⟨_,_,⟨rfl,rfl⟩,wk [0,1,2] []⟩
abbrev qzy (_:List SS) (_:List (SS×Int)) (r:Int):FV:=pI r
abbrev qzq (a:List SS) (b:List (SS×Int)) (r:Int):List AObj:=[.box 120 [.tsl 2 (qai a),.mref 1],.mp .string (qbc PV.str (PV.int .i64) b) none,.tail 9 1 (qai a).length]
def qe7 (n:Nat) (b:List SS) (c:List (SS×Int)):(Int->Option (Int))->Int->Option (Int):=fun e a=>
 bif(decide (a<((qai b).length:Int)))then(
 bnd (idx b a) fun d=>
 bif((qd9 c d (0:Int))==0)then(
 some (2:Int))
 else(
 bif((qd9 c d (0:Int))==3)then(
 some (3:Int))
 else(
 e (IntKind.i64.wrap (a+1)))))
 else(
 some (0:Int))
def qiy (n:Nat) (a _:List SS) (b:List (SS×Int)):Option (Int):=
 qan (qe7 n a b) n (0:Int)
theorem qx1 (n:Nat):∀ (c b:List SS) (a:List (SS×Int)) (r:Int),qiy n c b a=some r->qay Tryz.prog 90 [.ptr 0 0,.p (PV.sl (qai c))] [.box 120 [.tsl 2 (qai b),.mref 1],.mp .string (qbc PV.str (PV.int .i64) a) none,.tail 9 1 (qai b).length] 2 (fun v lo=>v=qzy b a r/\lo=qzq b a r):=by
 intro c b a r h;unfold qiy at h;refine qay.of_vc mixed (fun _ _=>Tryz.call90 _ _) Tryz.func90 (by kernel_rfl) (inl:=[1000000]) (Nat.le_of_ble_eq_true rfl) ?_;conv=>whnf
 refine qbl.fn [1000000] (S:=Int) (fun d=>[(0,.ptr 0 0),(7,pT c),(8,.p (.int .i64 ((qai c).length:Int))),(9,pI d)]) (fun d=>[.box 120 [.tsl 2 (qai b),.mref 1],.mp .string (qbc PV.str (PV.int .i64) a) none,.tail 9 1 (qai b).length]) (B:=qe7 n c a) h (wk [0,1,2] []) ?_;intro _ d h;unfold qe7 at h;conv=>whnf
 apply ifc h<;>intro f h
 ·conv=>whnf
  refine bq h fun e g h=>?_;refine⟨_,Codec.at_ qpl g,?_⟩;conv=>whnf
  refine⟨PV.int .i64 (qd9 a e (0:Int)),(q6c a e),⟨qua qel (PV.int .i64) a e (0:Int),qub qel (PV.int .i64) a e⟩,?_⟩;conv=>whnf
  apply ifc h<;>intro f h
  ·obtain rfl:=sj h
   conv=>whnf
   refine⟨_,_,⟨rfl,rfl⟩,wk [0,1,2] []⟩
  ·conv=>whnf
   apply ifc h<;>intro f h
   ·obtain rfl:=sj h
    conv=>whnf
    refine⟨_,_,⟨rfl,rfl⟩,wk [0,1,2] []⟩
   ·conv=>whnf
    exact⟨(IntKind.i64.wrap (d+1)),h,wk [0,1,2] []⟩
 ·obtain rfl:=sj h
  conv=>whnf
  refine⟨_,_,⟨rfl,rfl⟩,wk [0,1,2] []⟩
abbrev qz0 (_:List SS) (_:List (SS×Int)) (r:Int×Int):FV:=.p (.tup [.int .i64 r.1,.int .i64 r.2])
abbrev qzs (a:List SS) (b:List (SS×Int)) (r:Int×Int):List AObj:=[.box 120 [.tsl 2 (qai a),.mref 1],.mp .string (qbc PV.str (PV.int .i64) b) none,.tail 9 1 (qai a).length]
def qgi (n:Nat) (b:List qaa) (c:List SS) (d:List (SS×Int)):Int->Option (Int×Int):=fun e=>
 bnd (qbe n b e c d) fun a=>
 bif(a != 0)then(
 some ((0:Int),a))
 else(
 some ((3:Int),(0:Int)))
def qi0 (n:Nat) (f:qaa) (b:List SS) (c:List (SS×Int)):Option (Int×Int):=
 match f with
 | ⟨d,e,⟨j,k,l,m,o,p⟩,q,a⟩=>
 bif(d != 14)then(
 bnd (qcx n (qaa.mk d e (Val.mk j k l m o p) q a) b c) fun⟨g,i⟩=>
 some (g,i))
 else(
 bif(e==([99,111,117,110,116]:SS))then(
 qgi n a b c (0:Int))
 else(
 qgi n a b c (3:Int)))
theorem qx4 (n:Nat):∀ (c:qaa) (a:List SS) (b:List (SS×Int)) (r:Int×Int),qi0 n c a b=some r->qay Tryz.prog 143 [.ptr 0 0,.p (PV.agg (qcf.cells c))] [.box 120 [.tsl 2 (qai a),.mref 1],.mp .string (qbc PV.str (PV.int .i64) b) none,.tail 9 1 (qai a).length] 2 (fun v lo=>v=qz0 a b r/\lo=qzs a b r):=by
 intro c a b r h;obtain⟨e,g,⟨i,j,k,l,m,o⟩,q,d⟩:=c;unfold qi0 at h;refine qay.of_vc mixed (fun _ _=>Tryz.call143 _ _) Tryz.func143 (by kernel_rfl) (inl:=[87,142,1000000]) (Nat.le_of_ble_eq_true rfl) ?_;conv=>whnf
 apply ifc h<;>intro s h
 ·conv=>whnf
  refine bq h fun⟨w,x⟩ t h=>?_;refine qcl (qx3 n _ _ _ _ t) [0,1,2] [] ?_;rintro _ _ ⟨rfl,rfl⟩;refine⟨.p (.tup [.int .i64 w,.int .i64 x]),[.box 120 [.tsl 4 (qai a),.mref 1],.mp .string (qbc PV.str (PV.int .i64) b) none,.dead,.box 46 [pI e,pS g,pI i,pB j,pI k,pS l,pV m,pT o,pT q,pE d],.tail 9 1 (qai a).length],rfl,rfl,?_⟩;obtain rfl:=sj h;conv=>whnf
  refine⟨_,_,⟨rfl,rfl⟩,wk [0,1,4] []⟩
 ·conv=>whnf
  refine qh6.cut (S:=Int) (fun f=>[(0,.ptr 0 0),(3,.ptr 2 0),(6,pI f)]) (fun f=>[.box 120 [.tsl 3 (qai a),.mref 1],.mp .string (qbc PV.str (PV.int .i64) b) none,.box 46 [pI e,pS g,pI i,pB j,pI k,pS l,pV m,pT o,pT q,pE d],.tail 9 1 (qai a).length]) (qgi n d a b) (r:=r) ?_ ?_
  ·intro f h
   unfold qgi at h;conv=>whnf
   refine bq h fun y u h=>?_;refine qcl (qd3 n _ _ _ _ _ u) [0,1,3] [] ?_;rintro _ _ ⟨rfl,rfl⟩;refine⟨pI y,[.box 120 [.tsl 4 (qai a),.mref 1],.mp .string (qbc PV.str (PV.int .i64) b) none,.box 46 [pI e,pS g,pI i,pB j,pI k,pS l,pV m,pT o,pT q,pE d],.dead,.tail 9 1 (qai a).length],rfl,rfl,?_⟩;conv=>whnf
   apply ifc h<;>intro s h
   ·obtain rfl:=sj h
    conv=>whnf
    refine⟨_,_,⟨rfl,rfl⟩,wk [0,1,4] []⟩
   ·obtain rfl:=sj h
    conv=>whnf
    refine⟨_,_,⟨rfl,rfl⟩,wk [0,1,4] []⟩
  ·conv=>whnf
   apply ifc h<;>intro s h
   ·conv=>whnf
    exact⟨(0:Int),h,wk [0,1,3,2] []⟩
   ·conv=>whnf
    exact⟨(3:Int),h,wk [0,1,3,2] []⟩
inductive qax where
 | o0 (a0:Int)
 | o1 (a0:Int) (a1:List SS) (a2:List (SS×Int))
abbrev qz2 (_:List SS) (_:List (SS×Int)) (r:qax):FV:=match r with
 | .o0 a0=>.p (.tup [.nilp,.int .i64 a0])
 | .o1 a0 a1 a2=>.pair (.ptr 3 0) (pI a0)
abbrev qzu (a:List SS) (b:List (SS×Int)) (r:qax):List AObj:=match r with
 | .o0 a0=>[.box 120 [.tsl 2 (qai a),.mref 1],.mp .string (qbc PV.str (PV.int .i64) b) none,.tail 9 1 (qai a).length]
 | .o1 a0 a1 a2=>[.box 120 [.tsl 2 (qai a),.mref 1],.mp .string (qbc PV.str (PV.int .i64) b) none,.tail 9 1 (qai a).length,.box 120 [.tsl 5 (qai a1),.mref 4],.mp .string (qbc PV.str (PV.int .i64) a2) none,.tail 9 1 (qai a1).length]
def qdt (n:Nat) (b c j:List qaa) (d:List SS) (e:List (SS×Int)):(Int×List SS->Option (qax))->Int×List SS->Option (qax):=fun i (a,f)=>
 bif(decide (a<(((zbc qcf [b,c]).length:Nat):Int)))then(
 bnd (idx [b,c] a) fun k=>
 bnd (qbe n k (3:Int) f ([]:List (SS×Int))) fun g=>
 bif(g != 0)then(
 some (qax.o0 g))
 else(
 i ((IntKind.i64.wrap (a+1)),f)))
 else(
 bnd (qbe n j (3:Int) d e) fun l=>
 some (qax.o1 l d e))
def qc8 (n:Nat) (b:List qar) (c:List SS) (d:List (SS×Int)) (g i j:List qaa):(Int->Option (qax))->Int->Option (qax):=fun f a=>
 bif(decide (a<((qar.rows b).length:Int)))then(
 bnd (idx b a) fun⟨⟨k,l,⟨m,o,p,q,s,t⟩,u,v⟩,_⟩=>
 bnd (qbe n [qaa.mk k l (Val.mk m o p q s t) u v] (3:Int) c d) fun e=>
 bif(e != 0)then(
 some (qax.o0 e))
 else(
 f (IntKind.i64.wrap (a+1))))
 else(
 qan (qdt n g i j c d) n ((0:Int),([]:List _)))
def qee (n:Nat) (c:List qbj) (o:List SS) (p:List (SS×Int)) (j:Int) (k:List qar) (l m t:List qaa):(Int×List SS×List (SS×Int)->Option (qax))->Int×List SS×List (SS×Int)->Option (qax):=fun i (a,d,b)=>
 bif(decide (a<((qbj.rows c).length:Int)))then(
 bnd (idx c a) fun⟨⟨q,s,⟨u,v,w,x,y,z⟩,A,B⟩,e⟩=>
 bnd (qi0 n (qaa.mk q s (Val.mk u v w x y z) A B) o p) fun⟨f,g⟩=>
 bif(g != 0)then(
 some (qax.o0 g))
 else(
 bif(bif(j==9)then(f != 3)else false)then(
 some (qax.o0 (3:Int)))
 else(
 bif((qd9 b e (0:Int)) != 0)then(
 some (qax.o0 (2:Int)))
 else(
 bnd (qc5 n e f d b) fun⟨C,D⟩=>
 i ((IntKind.i64.wrap (a+1)),C,D)))))
 else(
 qan (qc8 n k d b l m t) n (0:Int))
def qi2 (n:Nat) (a:qab) (g:List SS) (i:List (SS×Int)):Option (qax):=
 match a with
 | ⟨b,_,j,⟨_,_,⟨_,_,_,_,_,_⟩,_,_⟩,_,c,_,d,e,f,_,_,_⟩=>
 qan (qee n c g i b d e f j) n ((0:Int),([]:List _),([]:List (SS×Int)))
set_option maxHeartbeats 4000000 in
theorem qrm (n:Nat):∀ (J:qab) (a:List SS) (f:List (SS×Int)) (r:qax),qi2 n J a f=some r->qay Tryz.prog 91 [.ptr 0 0,.p (PV.agg (qda.cells J))] [.box 120 [.tsl 2 (qai a),.mref 1],.mp .string (qbc PV.str (PV.int .i64) f) none,.tail 9 1 (qai a).length] 2 (fun v lo=>v=qz2 a f r/\lo=qzu a f r):=by
 intro J a f r h;obtain⟨k,w,j,⟨A,C,⟨D,E,F,G,m,o⟩,q,s⟩,t,i,u,g,c,d,x,y,z⟩:=J;unfold qi2 at h;refine qay.of_vc mixed (fun _ _=>Tryz.call91 _ _) Tryz.func91 (by kernel_rfl) (inl:=[87,88,143,1000000]) (Nat.le_of_ble_eq_true rfl) ?_;conv=>whnf
 refine qbl.fn [87,88,143,1000000] (S:=Int×List SS×List (SS×Int)) (fun(K,b,e)=>[(0,.ptr 0 0),(3,.ptr 2 0),(6,.ptr 3 0),(22,pA i),(23,.p (.int .i64 ((qbj.rows i).length:Int))),(24,pI K)]) (fun(K,b,e)=>[.box 120 [.tsl 4 (qai a),.mref 1],.mp .string (qbc PV.str (PV.int .i64) f) none,.box 51 [pI k,pP w,pE j,pI A,pS C,pI D,pB E,pI F,pS G,pV m,pT o,pT q,pE s,pS t,pA i,pB u,pO g,pE c,pE d,pU x,pT y,pB z],.box 120 [.tsl 6 (qai b),.mref 5],.tail 9 1 (qai a).length,.mp .string (qbc PV.str (PV.int .i64) e) none,.tail 9 1 (qai b).length]) (B:=qee n i a f k g c d j) h (wk [0,1,3,5,2,4,0] [6]) ?_;intro _ st h;obtain⟨K,b,e⟩:=st;unfold qee at h;conv=>whnf
 apply ifc h<;>intro H h
 ·conv=>whnf
  refine bq h fun⟨⟨Z,a0,⟨a1,a2,a3,a4,a5,a6⟩,a7,a8⟩,I⟩ b2 h=>?_;refine⟨_,Codec.at_ qr5 b2,?_⟩;conv=>whnf
  refine bq h fun⟨b8,b9⟩ b0 h=>?_;refine qcl (qx4 n _ _ _ _ b0) [0,1,4] [] ?_;rintro _ _ ⟨rfl,rfl⟩;refine⟨.p (.tup [.int .i64 b8,.int .i64 b9]),[.box 120 [.tsl 8 (qai a),.mref 1],.mp .string (qbc PV.str (PV.int .i64) f) none,.box 51 [pI k,pP w,pE j,pI A,pS C,pI D,pB E,pI F,pS G,pV m,pT o,pT q,pE s,pS t,pA i,pB u,pO g,pE c,pE d,pU x,pT y,pB z],.box 120 [.tsl 6 (qai b),.mref 5],.dead,.mp .string (qbc PV.str (PV.int .i64) e) none,.tail 9 1 (qai b).length,.box 70 [pI Z,pS a0,pI a1,pB a2,pI a3,pS a4,pV a5,pT a6,pT a7,pE a8,pS I],.tail 9 1 (qai a).length],rfl,rfl,?_⟩;conv=>whnf
  apply ifc h<;>intro H h
  ·obtain rfl:=sj h
   conv=>whnf
   refine⟨_,_,⟨rfl,rfl⟩,wk [0,1,8] []⟩
  ·conv=>whnf
   refine⟨id,id,?_⟩;conv=>whnf
   apply ifc h<;>intro H h
   ·obtain rfl:=sj h
    conv=>whnf
    refine⟨_,_,⟨rfl,rfl⟩,wk [0,1,8] []⟩
   ·conv=>whnf
    refine⟨PV.int .i64 (qd9 e I (0:Int)),(q6c e I),⟨qua qel (PV.int .i64) e I (0:Int),qub qel (PV.int .i64) e I⟩,?_⟩;conv=>whnf
    apply ifc h<;>intro H h
    ·obtain rfl:=sj h
     conv=>whnf
     refine⟨_,_,⟨rfl,rfl⟩,wk [0,1,8] []⟩
    ·conv=>whnf
     refine bq h fun⟨N,a9⟩ b1 h=>?_;refine qcl (qgf n _ _ _ _ _ b1) [3,5,6] [] ?_;rintro _ _ ⟨rfl,rfl⟩;refine⟨.p (.tup []),[.box 120 [.tsl 8 (qai a),.mref 1],.mp .string (qbc PV.str (PV.int .i64) f) none,.box 51 [pI k,pP w,pE j,pI A,pS C,pI D,pB E,pI F,pS G,pV m,pT o,pT q,pE s,pS t,pA i,pB u,pO g,pE c,pE d,pU x,pT y,pB z],.box 120 [.tsl 9 (qai N),.mref 5],.dead,.mp .string (qbc PV.str (PV.int .i64) a9) none,.dead,.box 70 [pI Z,pS a0,pI a1,pB a2,pI a3,pS a4,pV a5,pT a6,pT a7,pE a8,pS I],.tail 9 1 (qai a).length,.tail 9 1 (qai N).length],rfl,rfl,?_⟩;conv=>whnf
     exact⟨((IntKind.i64.wrap (K+1)),N,a9),h,wk [0,1,2,3,8,5,9] []⟩
 ·conv=>whnf
  refine qbl.fn [87,88,143,1000000] (S:=Int) (fun L=>[(3,.ptr 2 0),(6,.ptr 3 0),(63,pO g),(64,.p (.int .i64 ((qar.rows g).length:Int))),(65,pI L)]) (fun L=>[.box 120 [.tsl 4 (qai a),.mref 1],.mp .string (qbc PV.str (PV.int .i64) f) none,.box 51 [pI k,pP w,pE j,pI A,pS C,pI D,pB E,pI F,pS G,pV m,pT o,pT q,pE s,pS t,pA i,pB u,pO g,pE c,pE d,pU x,pT y,pB z],.box 120 [.tsl 5 (qai b),.mref 6],.tail 9 1 (qai a).length,.tail 9 1 (qai b).length,.mp .string (qbc PV.str (PV.int .i64) e) none]) (B:=qc8 n g b e c d j) h (wk [0,1,2,3,4,6,5] []) ?_;intro _ L h;unfold qc8 at h;conv=>whnf
  apply ifc h<;>intro H h
  ·conv=>whnf
   refine bq h fun⟨⟨O,P,⟨Q,R,T,U,V,W⟩,X,Y⟩,c0⟩ b4 h=>?_;refine⟨_,Codec.at_ qpi b4,?_⟩;conv=>whnf
   refine⟨Codec.one qcf [qaa.mk O P (Val.mk Q R T U V W) X Y],qaa.rows [qaa.mk O P (Val.mk Q R T U V W) X Y],.inl rfl,?_⟩;conv=>whnf
   refine bq h fun c1 b3 h=>?_;refine qcl (qd3 n _ _ _ _ _ b3) [3,6,5] [] ?_;rintro _ _ ⟨rfl,rfl⟩;refine⟨pI c1,[.box 120 [.tsl 4 (qai a),.mref 1],.mp .string (qbc PV.str (PV.int .i64) f) none,.box 51 [pI k,pP w,pE j,pI A,pS C,pI D,pB E,pI F,pS G,pV m,pT o,pT q,pE s,pS t,pA i,pB u,pO g,pE c,pE d,pU x,pT y,pB z],.box 120 [.tsl 8 (qai b),.mref 6],.tail 9 1 (qai a).length,.dead,.mp .string (qbc PV.str (PV.int .i64) e) none,.box 72 [pI O,pS P,pI Q,pB R,pI T,pS U,pV V,pT W,pT X,pE Y,pB c0],.tail 9 1 (qai b).length],rfl,rfl,?_⟩;conv=>whnf
   apply ifc h<;>intro H h
   ·obtain rfl:=sj h
    conv=>whnf
    refine⟨_,_,⟨rfl,rfl⟩,wk [0,1,4] []⟩
   ·conv=>whnf
    exact⟨(IntKind.i64.wrap (L+1)),h,wk [0,1,2,3,4,8,6] []⟩
  ·conv=>whnf
   refine⟨Codec.one (slC qcf) [c,d],zbc qcf [c,d],.inl rfl,?_⟩;conv=>whnf
   refine qbl.fn [87,88,143,1000000] (S:=Int×List SS) (fun(M,l)=>[(3,.ptr 2 0),(6,.ptr 3 0),(14,.ptr 4 0),(85,.p (.sl (zbc qcf [c,d]))),(86,.p (.int .i64 (((zbc qcf [c,d]).length:Nat):Int))),(87,pI M)]) (fun(M,l)=>[.box 120 [.tsl 5 (qai a),.mref 1],.mp .string (qbc PV.str (PV.int .i64) f) none,.box 51 [pI k,pP w,pE j,pI A,pS C,pI D,pB E,pI F,pS G,pV m,pT o,pT q,pE s,pS t,pA i,pB u,pO g,pE c,pE d,pU x,pT y,pB z],.box 120 [.tsl 6 (qai b),.mref 7],.box 120 [.tsl 9 (qai l),.mref 8],.tail 9 1 (qai a).length,.tail 9 1 (qai b).length,.mp .string (qbc PV.str (PV.int .i64) e) none,.mp .string (qbc PV.str (PV.int .i64) ([]:List (SS×Int))) none,.tail 9 1 (qai l).length]) (B:=qdt n c d j b e) h (wk [0,1,2,3,8,4,5,6,7,0] [9]) ?_;intro _ st h;obtain⟨M,l⟩:=st;unfold qdt at h;conv=>whnf
   apply ifc h<;>intro H h
   ·conv=>whnf
    refine bq h fun _ b6 h=>?_;refine⟨_,Codec.at_ (slC qcf) b6,?_⟩;conv=>whnf
    refine bq h fun c2 b5 h=>?_;refine qcl (qd3 n _ _ _ _ _ b5) [4,8,9] [] ?_;rintro _ _ ⟨rfl,rfl⟩;refine⟨pI c2,[.box 120 [.tsl 5 (qai a),.mref 1],.mp .string (qbc PV.str (PV.int .i64) f) none,.box 51 [pI k,pP w,pE j,pI A,pS C,pI D,pB E,pI F,pS G,pV m,pT o,pT q,pE s,pS t,pA i,pB u,pO g,pE c,pE d,pU x,pT y,pB z],.box 120 [.tsl 6 (qai b),.mref 7],.box 120 [.tsl 10 (qai l),.mref 8],.tail 9 1 (qai a).length,.tail 9 1 (qai b).length,.mp .string (qbc PV.str (PV.int .i64) e) none,.mp .string (qbc PV.str (PV.int .i64) ([]:List (SS×Int))) none,.dead,.tail 9 1 (qai l).length],rfl,rfl,?_⟩;conv=>whnf
    apply ifc h<;>intro H h
    ·obtain rfl:=sj h
     conv=>whnf
     refine⟨_,_,⟨rfl,rfl⟩,wk [0,1,5] []⟩
    ·conv=>whnf
     exact⟨((IntKind.i64.wrap (M+1)),l),h,wk [0,1,2,3,4,5,6,7,8,10] []⟩
   ·conv=>whnf
    refine bq h fun c3 b7 h=>?_;refine qcl (qd3 n _ _ _ _ _ b7) [3,7,6] [] ?_;rintro _ _ ⟨rfl,rfl⟩;refine⟨pI c3,[.box 120 [.tsl 5 (qai a),.mref 1],.mp .string (qbc PV.str (PV.int .i64) f) none,.box 51 [pI k,pP w,pE j,pI A,pS C,pI D,pB E,pI F,pS G,pV m,pT o,pT q,pE s,pS t,pA i,pB u,pO g,pE c,pE d,pU x,pT y,pB z],.box 120 [.tsl 10 (qai b),.mref 7],.box 120 [.tsl 9 (qai l),.mref 8],.tail 9 1 (qai a).length,.dead,.mp .string (qbc PV.str (PV.int .i64) e) none,.mp .string (qbc PV.str (PV.int .i64) ([]:List (SS×Int))) none,.tail 9 1 (qai l).length,.tail 9 1 (qai b).length],rfl,rfl,?_⟩;obtain rfl:=sj h;conv=>whnf
    refine⟨_,_,⟨rfl,rfl⟩,wk [0,1,5,3,7,10] []⟩
inductive qa0 where
 | o0 (a0:Int) (a1:List SS) (a2:List (SS×Int))
 | o1 (a0:Int) (a1:List SS) (a2:List (SS×Int))
 | o2 (a0:Int) (a1:List SS) (a2:List (SS×Int)) (a3:List SS) (a4:List (SS×Int))
abbrev qxi (_:List SS) (_:List (SS×Int)) (r:qa0):FV:=match r with
 | .o0 a0 a1 a2=>.p (.tup [.nilp,.int .i64 a0])
 | .o1 a0 a1 a2=>.pair (.ptr 0 0) (pI a0)
 | .o2 a0 a1 a2 a3 a4=>.pair (.ptr 3 0) (pI a0)
abbrev qxg (_:List SS) (_:List (SS×Int)) (r:qa0):List AObj:=match r with
 | .o0 a0 a1 a2=>[.box 120 [.tsl 2 (qai a1),.mref 1],.mp .string (qbc PV.str (PV.int .i64) a2) none,.tail 9 1 (qai a1).length]
 | .o1 a0 a1 a2=>[.box 120 [.tsl 2 (qai a1),.mref 1],.mp .string (qbc PV.str (PV.int .i64) a2) none,.tail 9 1 (qai a1).length]
 | .o2 a0 a1 a2 a3 a4=>[.box 120 [.tsl 2 (qai a1),.mref 1],.mp .string (qbc PV.str (PV.int .i64) a2) none,.tail 9 1 (qai a1).length,.box 120 [.tsl 5 (qai a3),.mref 4],.mp .string (qbc PV.str (PV.int .i64) a4) none,.tail 9 1 (qai a3).length]
def qfi (n:Nat) (d:List qaf) (a:List SS) (b:List (SS×Int)) (c:Int) (e:List SS) (s:List qa6) (u:List qaa) (v:Int) (C:SS) (F:Int) (G:Bool) (H:Int) (I:SS) (f:List Val) (g i:List SS) (j:List qaa) (k:SS) (l:List qbj) (m:Bool) (o:List qar) (p q:List qaa) (t:Bool):Bool->Option (qa0):=fun w=>
 bif w then(
 bnd (qi3 n d a b) fun x=>
 some (qa0.o1 x a b))
 else(
 bif(c==8)then(
 bnd (qiy n e a b) fun y=>
 some (qa0.o1 y a b))
 else(
 bnd (qi2 n (qab.mk c s u (qaa.mk v C (Val.mk F G H I f g) i j) k l m o p q d e t) a b) fun z=>
 match z with
 | .o0 A=>(
 some (qa0.o0 A a b))
 | .o1 B D E=>(
 some (qa0.o2 B a b D E))))
def qg8 (n:Nat) (F:qab) (b:List SS) (a:List (SS×Int)):Option (qa0):=
 match F with
 | ⟨c,d,m,⟨o,p,⟨q,s,t,u,f,g⟩,i,j⟩,e,v,w,x,y,z,A,B,C⟩=>
 bif(c==1)then(
 bnd (qe2 n d false b a) fun⟨D,k,l⟩=>
 bif(D != 0)then(
 some (qa0.o0 D k l))
 else(
 bnd (qbe n m (3:Int) k l) fun G=>
 some (qa0.o1 G k l)))
 else(
 bif(c==2)then(
 bnd (qbe n [qaa.mk o p (Val.mk q s t u f g) i j] (3:Int) b a) fun E=>
 bif(E != 0)then(
 some (qa0.o0 E b a))
 else(
 bif((qd9 a e (0:Int)) != 0)then(
 some (qa0.o0 (2:Int) b a))
 else(
 bnd (qc5 n e (3:Int) b a) fun⟨H,I⟩=>
 some (qa0.o1 (0:Int) H I))))
 else(
 bif(c==4)then(
 bnd (qe2 n d true b a) fun⟨J,K,L⟩=>
 some (qa0.o1 J K L))
 else(
 bif(c==5)then(
 bnd (idx d (0:Int)) fun⟨M,_⟩=>
 bnd (idx M (0:Int)) fun⟨N,_,_,_⟩=>
 bif((qd9 a N (0:Int)) != 0)then(
 some (qa0.o0 (2:Int) b a))
 else(
 bnd (qe2 n d true b a) fun⟨O,P,Q⟩=>
 some (qa0.o1 O P Q)))
 else(
 bif(c==6)then(
 qfi n A b a c B d m o p q s t u f g i j e v w x y z C (c==6))
 else(
 qfi n A b a c B d m o p q s t u f g i j e v w x y z C (c==7))))))
set_option maxHeartbeats 4000000 in
theorem qks (n:Nat):∀ (E:qab) (b:List SS) (a:List (SS×Int)) (r:qa0),qg8 n E b a=some r->qay Tryz.prog 49 [.ptr 0 0,.p (PV.agg (qda.cells E))] [.box 120 [.tsl 2 (qai b),.mref 1],.mp .string (qbc PV.str (PV.int .i64) a) none,.tail 9 1 (qai b).length] 2 (fun v lo=>v=qxi b a r/\lo=qxg b a r):=by
 intro E b a r h;obtain⟨d,y,C,⟨j,k,⟨l,m,o,q,e,f⟩,g,i⟩,c,s,t,u,w,x,z,A,B⟩:=E;unfold qg8 at h;refine qay.of_vc mixed (fun _ _=>Tryz.call49 _ _) Tryz.func49 (by kernel_rfl) (inl:=[86,87,88,89,90,91,1000000]) (Nat.le_of_ble_eq_true rfl) ?_;conv=>whnf
 apply ifc h<;>intro D h
 ·conv=>whnf
  refine bq h fun⟨Z,F,J⟩ O h=>?_;refine qcl (qlu n _ _ _ _ _ O) [0,1,2] [] ?_;rintro _ _ ⟨rfl,rfl⟩;refine⟨pI Z,[.box 120 [.tsl 4 (qai F),.mref 1],.mp .string (qbc PV.str (PV.int .i64) J) none,.dead,.box 51 [pI d,pP y,pE C,pI j,pS k,pI l,pB m,pI o,pS q,pV e,pT f,pT g,pE i,pS c,pA s,pB t,pO u,pE w,pE x,pU z,pT A,pB B],.tail 9 1 (qai F).length],rfl,rfl,?_⟩;conv=>whnf
  apply ifc h<;>intro D h
  ·obtain rfl:=sj h
   conv=>whnf
   refine⟨_,_,⟨rfl,rfl⟩,wk [0,1,4] []⟩
  ·conv=>whnf
   refine bq h fun a0 Q h=>?_;refine qcl (qd3 n _ _ _ _ _ Q) [0,1,4] [] ?_;rintro _ _ ⟨rfl,rfl⟩;refine⟨pI a0,[.box 120 [.tsl 5 (qai F),.mref 1],.mp .string (qbc PV.str (PV.int .i64) J) none,.dead,.box 51 [pI d,pP y,pE C,pI j,pS k,pI l,pB m,pI o,pS q,pV e,pT f,pT g,pE i,pS c,pA s,pB t,pO u,pE w,pE x,pU z,pT A,pB B],.dead,.tail 9 1 (qai F).length],rfl,rfl,?_⟩;obtain rfl:=sj h;conv=>whnf
   refine⟨_,_,⟨rfl,rfl⟩,wk [0,1,5] []⟩
 ·conv=>whnf
  apply ifc h<;>intro D h
  ·conv=>whnf
   refine⟨Codec.one qcf [qaa.mk j k (Val.mk l m o q e f) g i],qaa.rows [qaa.mk j k (Val.mk l m o q e f) g i],.inl rfl,?_⟩;conv=>whnf
   refine bq h fun a1 R h=>?_;refine qcl (qd3 n _ _ _ _ _ R) [0,1,2] [] ?_;rintro _ _ ⟨rfl,rfl⟩;refine⟨pI a1,[.box 120 [.tsl 4 (qai b),.mref 1],.mp .string (qbc PV.str (PV.int .i64) a) none,.dead,.box 51 [pI d,pP y,pE C,pI j,pS k,pI l,pB m,pI o,pS q,pV e,pT f,pT g,pE i,pS c,pA s,pB t,pO u,pE w,pE x,pU z,pT A,pB B],.tail 9 1 (qai b).length],rfl,rfl,?_⟩;conv=>whnf
   apply ifc h<;>intro D h
   ·obtain rfl:=sj h
    conv=>whnf
    refine⟨_,_,⟨rfl,rfl⟩,wk [0,1,4] []⟩
   ·conv=>whnf
    refine⟨PV.int .i64 (qd9 a c (0:Int)),(q6c a c),⟨qua qel (PV.int .i64) a c (0:Int),qub qel (PV.int .i64) a c⟩,?_⟩;conv=>whnf
    apply ifc h<;>intro D h
    ·obtain rfl:=sj h
     conv=>whnf
     refine⟨_,_,⟨rfl,rfl⟩,wk [0,1,4] []⟩
    ·conv=>whnf
     refine bq h fun⟨K,a2⟩ T h=>?_;refine qcl (qgf n _ _ _ _ _ T) [0,1,4] [] ?_;rintro _ _ ⟨rfl,rfl⟩;refine⟨.p (.tup []),[.box 120 [.tsl 5 (qai K),.mref 1],.mp .string (qbc PV.str (PV.int .i64) a2) none,.dead,.box 51 [pI d,pP y,pE C,pI j,pS k,pI l,pB m,pI o,pS q,pV e,pT f,pT g,pE i,pS c,pA s,pB t,pO u,pE w,pE x,pU z,pT A,pB B],.dead,.tail 9 1 (qai K).length],rfl,rfl,?_⟩;obtain rfl:=sj h;conv=>whnf
     refine⟨_,_,⟨rfl,rfl⟩,wk [0,1,5] []⟩
  ·conv=>whnf
   apply ifc h<;>intro D h
   ·conv=>whnf
    refine bq h fun⟨a3,L,a4⟩ U h=>?_;refine qcl (qlu n _ _ _ _ _ U) [0,1,2] [] ?_;rintro _ _ ⟨rfl,rfl⟩;refine⟨pI a3,[.box 120 [.tsl 4 (qai L),.mref 1],.mp .string (qbc PV.str (PV.int .i64) a4) none,.dead,.box 51 [pI d,pP y,pE C,pI j,pS k,pI l,pB m,pI o,pS q,pV e,pT f,pT g,pE i,pS c,pA s,pB t,pO u,pE w,pE x,pU z,pT A,pB B],.tail 9 1 (qai L).length],rfl,rfl,?_⟩;obtain rfl:=sj h;conv=>whnf
    refine⟨_,_,⟨rfl,rfl⟩,wk [0,1,4] []⟩
   ·conv=>whnf
    apply ifc h<;>intro D h
    ·conv=>whnf
     refine bq h fun⟨_,_⟩ X h=>?_;refine⟨_,Codec.at_ ql2 X,?_⟩;conv=>whnf
     refine bq h fun⟨G,_,_,_⟩ W h=>?_;refine⟨_,Codec.at_ qea W,?_⟩;conv=>whnf
     refine⟨PV.int .i64 (qd9 a G (0:Int)),(q6c a G),⟨qua qel (PV.int .i64) a G (0:Int),qub qel (PV.int .i64) a G⟩,?_⟩;conv=>whnf
     apply ifc h<;>intro D h
     ·obtain rfl:=sj h
      conv=>whnf
      refine⟨_,_,⟨rfl,rfl⟩,wk [0,1,2] []⟩
     ·conv=>whnf
      refine bq h fun⟨a5,M,a6⟩ V h=>?_;refine qcl (qlu n _ _ _ _ _ V) [0,1,2] [] ?_;rintro _ _ ⟨rfl,rfl⟩;refine⟨pI a5,[.box 120 [.tsl 4 (qai M),.mref 1],.mp .string (qbc PV.str (PV.int .i64) a6) none,.dead,.box 51 [pI d,pP y,pE C,pI j,pS k,pI l,pB m,pI o,pS q,pV e,pT f,pT g,pE i,pS c,pA s,pB t,pO u,pE w,pE x,pU z,pT A,pB B],.tail 9 1 (qai M).length],rfl,rfl,?_⟩;obtain rfl:=sj h;conv=>whnf
      refine⟨_,_,⟨rfl,rfl⟩,wk [0,1,4] []⟩
    ·conv=>whnf
     refine qh6.cut (S:=Bool) (fun H=>[(0,.ptr 0 0),(3,.ptr 2 0),(10,pI d),(77,pB H)]) (fun H=>[.box 120 [.tsl 3 (qai b),.mref 1],.mp .string (qbc PV.str (PV.int .i64) a) none,.box 51 [pI d,pP y,pE C,pI j,pS k,pI l,pB m,pI o,pS q,pV e,pT f,pT g,pE i,pS c,pA s,pB t,pO u,pE w,pE x,pU z,pT A,pB B],.tail 9 1 (qai b).length]) (qfi n z b a d A y C j k l m o q e f g i c s t u w x B) (r:=r) ?_ ?_
     ·intro H h
      unfold qfi at h;conv=>whnf
      apply ifc h<;>intro D h
      ·conv=>whnf
       refine bq h fun a7 Y h=>?_;refine qcl (qx6 n _ _ _ _ Y) [0,1,3] [] ?_;rintro _ _ ⟨rfl,rfl⟩;refine⟨pI a7,[.box 120 [.tsl 4 (qai b),.mref 1],.mp .string (qbc PV.str (PV.int .i64) a) none,.box 51 [pI d,pP y,pE C,pI j,pS k,pI l,pB m,pI o,pS q,pV e,pT f,pT g,pE i,pS c,pA s,pB t,pO u,pE w,pE x,pU z,pT A,pB B],.dead,.tail 9 1 (qai b).length],rfl,rfl,?_⟩;obtain rfl:=sj h;conv=>whnf
       refine⟨_,_,⟨rfl,rfl⟩,wk [0,1,4] []⟩
      ·conv=>whnf
       apply ifc h<;>intro D h
       ·conv=>whnf
        refine bq h fun a8 P h=>?_;refine qcl (qx1 n _ _ _ _ P) [0,1,3] [] ?_;rintro _ _ ⟨rfl,rfl⟩;refine⟨pI a8,[.box 120 [.tsl 4 (qai b),.mref 1],.mp .string (qbc PV.str (PV.int .i64) a) none,.box 51 [pI d,pP y,pE C,pI j,pS k,pI l,pB m,pI o,pS q,pV e,pT f,pT g,pE i,pS c,pA s,pB t,pO u,pE w,pE x,pU z,pT A,pB B],.dead,.tail 9 1 (qai b).length],rfl,rfl,?_⟩;obtain rfl:=sj h;conv=>whnf
        refine⟨_,_,⟨rfl,rfl⟩,wk [0,1,4] []⟩
       ·conv=>whnf
        refine bq h fun a9 I h=>?_;rcases a9 with ⟨b0⟩|⟨b1,N,b2⟩
        ·refine qcl (qrm n _ _ _ _ I) [0,1,3] [] ?_
         rintro _ _ ⟨rfl,rfl⟩;refine⟨.p (.tup [.nilp,.int .i64 b0]),[.box 120 [.tsl 4 (qai b),.mref 1],.mp .string (qbc PV.str (PV.int .i64) a) none,.box 51 [pI d,pP y,pE C,pI j,pS k,pI l,pB m,pI o,pS q,pV e,pT f,pT g,pE i,pS c,pA s,pB t,pO u,pE w,pE x,pU z,pT A,pB B],.dead,.tail 9 1 (qai b).length],rfl,rfl,?_⟩;obtain rfl:=sj h;conv=>whnf
         refine⟨_,_,⟨rfl,rfl⟩,wk [0,1,4] []⟩
        ·refine qcl (qrm n _ _ _ _ I) [0,1,3] [] ?_
         rintro _ _ ⟨rfl,rfl⟩;refine⟨.pair (.ptr 5 0) (pI b1),[.box 120 [.tsl 4 (qai b),.mref 1],.mp .string (qbc PV.str (PV.int .i64) a) none,.box 51 [pI d,pP y,pE C,pI j,pS k,pI l,pB m,pI o,pS q,pV e,pT f,pT g,pE i,pS c,pA s,pB t,pO u,pE w,pE x,pU z,pT A,pB B],.dead,.tail 9 1 (qai b).length,.box 120 [.tsl 7 (qai N),.mref 6],.mp .string (qbc PV.str (PV.int .i64) b2) none,.tail 9 1 (qai N).length],rfl,rfl,?_⟩;obtain rfl:=sj h;conv=>whnf
         refine⟨_,_,⟨rfl,rfl⟩,wk [0,1,4,5,6,7] []⟩
     ·conv=>whnf
      apply ifc h<;>intro D h
      ·conv=>whnf
       exact⟨(d==6),h,wk [0,1,3,2] []⟩
      ·conv=>whnf
       exact⟨(d==7),h,wk [0,1,3,2] []⟩
abbrev q7k (r:List SS×List Int×Int):PV:=PV.tup [PV.sl (qai r.1),PV.sl (qcp .i64 r.2.1),PV.int .i64 r.2.2]
def qig (n:Nat) (c:List SS) (e:List (SS×Int)):(List Int×Int->Option (List SS×List Int×Int))->List Int×Int->Option (List SS×List Int×Int):=fun f (a,b)=>
 bif(decide (b<((qai c).length:Int)))then(
 bnd (idx c b) fun d=>
 chk (decide ((qcp .i64 (a++[(qd9 e d (0:Int))])).length * 8<=140737488355328)) (
 f ((a++[(qd9 e d (0:Int))]),(IntKind.i64.wrap (b+1)))))
 else(
 some (c,a,(0:Int)))
def qg0 (n:Nat) (c:List qab) (g:Nat):(Int×List SS×List (SS×Int)->Option (List SS×List Int×Int))->Int×List SS×List (SS×Int)->Option (List SS×List Int×Int):=fun b (a,i,j)=>
 bif(decide (a<(((qab.rows (c.take g)).length:Nat):Int)))then(
 bnd (idx (c.take g) a) fun⟨L,M,k,⟨l,m,⟨o,p,q,s,t,u⟩,v,w⟩,x,y,z,A,B,C,D,E,F⟩=>
 bnd (qg8 n (qab.mk L M k (qaa.mk l m (Val.mk o p q s t u) v w) x y z A B C D E F) i j) fun G=>
 match G with
 | .o0 d _ _=>(
 bif(d != 0)then(
 some (([]:List SS),([]:List Int),d))
 else(
 none))
 | .o1 e H I=>(
 bif(e != 0)then(
 some (([]:List SS),([]:List Int),e))
 else(
 b ((IntKind.i64.wrap (a+1)),H,I)))
 | .o2 f _ _ J K=>(
 bif(f != 0)then(
 some (([]:List SS),([]:List Int),f))
 else(
 b ((IntKind.i64.wrap (a+1)),J,K))))
 else(
 qan (qig n i j) n (([]:List _),(0:Int)))
def qiv (n:Nat) (d:qid) (b:Int):Option (List SS×List Int×Int):=
 match d with
 | ⟨a⟩=>
 bnd (qne n (qid.mk a)) fun e=>
 bif(bif(bif(!e)then true else(decide (b<0)))then true else(decide (b>((qab.rows a).length:Int))))then(
 some (([]:List SS),([]:List Int),(20:Int)))
 else(
 bnd (qxb b) fun c=>
 chk (decide (c<=(qab.rows a).length)) (
 qan (qg0 n a c) n ((0:Int),([]:List _),([]:List (SS×Int)))))
theorem qw4 (n:Nat):∀ (j:qid) (z:Int) (r:List SS×List Int×Int),qiv n j z=some r->qac Tryz.prog 25 [PV.agg (q21.cells j),PV.int .i64 z] (q7k r):=by
 intro j z r h;obtain⟨e⟩:=j;unfold qiv at h;refine qac.of_vcN mixed (fun _ _=>Tryz.call25 _ _) Tryz.func25 (by kernel_rfl) (inl:=[49,1000000]) ?_;conv=>whnf
 refine bq h fun _ Z h=>?_;refine⟨_,(q5d n _ _ Z),?_⟩;conv=>whnf
 iterate 7 refine⟨id,?_⟩
 conv=>whnf
 apply ifc h<;>intro g h
 ·obtain rfl:=sj h
  conv=>whnf
  try exact fin
 ·conv=>whnf
  refine bq h fun f Y h=>?_;refine⟨_,qdu Y,?_⟩;conv=>whnf
  obtain⟨X,h⟩:=qak h;refine⟨⟨Nat.zero_le _,(of_decide_eq_true X:(f<=(qab.rows e).length)),Codec.wide qda e⟩,?_⟩;rw[show List.drop 0 (List.take f (qab.rows e))=qab.rows (e.take f)from Codec.take qda e f];conv=>whnf
  refine qbl.fn [49,1000000] (S:=Int×List SS×List (SS×Int)) (fun(i,d,a)=>[(7,.ptr 0 0),(35,.p (.sl (qab.rows (e.take f)))),(36,.p (.int .i64 (((qab.rows (e.take f)).length:Nat):Int))),(37,pI i)]) (fun(i,d,a)=>[.box 120 [.tsl 2 (qai d),.mref 1],.mp .string (qbc PV.str (PV.int .i64) a) none,.tail 9 1 (qai d).length]) (B:=qg0 n e f) h (wk [2,1,0] [2]) ?_;intro _ st h;obtain⟨i,d,a⟩:=st;unfold qg0 at h;conv=>whnf
  apply ifc h<;>intro g h
  ·conv=>whnf
   refine bq h fun⟨N,O,m,⟨o,q,⟨s,t,u,v,w,x⟩,y,A⟩,C,D,E,F,G,H,I,J,K⟩ V h=>?_;refine⟨_,Codec.at_ qda V,?_⟩;conv=>whnf
   refine bq h fun a0 l h=>?_;rcases a0 with ⟨a1,Q,a2⟩|⟨a3,L,R⟩|⟨a4,T,a5,M,U⟩
   ·refine qcl (qks n _ _ _ _ l) [0,1,2] [] ?_
    rintro _ _ ⟨rfl,rfl⟩;refine⟨.p (.tup [.nilp,.int .i64 a1]),[.box 120 [.tsl 4 (qai Q),.mref 1],.mp .string (qbc PV.str (PV.int .i64) a2) none,.dead,.box 51 [pI N,pP O,pE m,pI o,pS q,pI s,pB t,pI u,pS v,pV w,pT x,pT y,pE A,pS C,pA D,pB E,pO F,pE G,pE H,pU I,pT J,pB K],.tail 9 1 (qai Q).length],rfl,rfl,?_⟩;conv=>whnf
    apply ifc h<;>intro g h
    ·obtain rfl:=sj h
     conv=>whnf
     try exact fin
    ·cases h
   ·refine qcl (qks n _ _ _ _ l) [0,1,2] [] ?_
    rintro _ _ ⟨rfl,rfl⟩;refine⟨.pair (.ptr 0 0) (pI a3),[.box 120 [.tsl 4 (qai L),.mref 1],.mp .string (qbc PV.str (PV.int .i64) R) none,.dead,.box 51 [pI N,pP O,pE m,pI o,pS q,pI s,pB t,pI u,pS v,pV w,pT x,pT y,pE A,pS C,pA D,pB E,pO F,pE G,pE H,pU I,pT J,pB K],.tail 9 1 (qai L).length],rfl,rfl,?_⟩;conv=>whnf
    apply ifc h<;>intro g h
    ·obtain rfl:=sj h
     conv=>whnf
     try exact fin
    ·conv=>whnf
     exact⟨((IntKind.i64.wrap (i+1)),L,R),h,wk [0,1,4] []⟩
   ·refine qcl (qks n _ _ _ _ l) [0,1,2] [] ?_
    rintro _ _ ⟨rfl,rfl⟩;refine⟨.pair (.ptr 5 0) (pI a4),[.box 120 [.tsl 4 (qai T),.mref 1],.mp .string (qbc PV.str (PV.int .i64) a5) none,.dead,.box 51 [pI N,pP O,pE m,pI o,pS q,pI s,pB t,pI u,pS v,pV w,pT x,pT y,pE A,pS C,pA D,pB E,pO F,pE G,pE H,pU I,pT J,pB K],.tail 9 1 (qai T).length,.box 120 [.tsl 7 (qai M),.mref 6],.mp .string (qbc PV.str (PV.int .i64) U) none,.tail 9 1 (qai M).length],rfl,rfl,?_⟩;conv=>whnf
    apply ifc h<;>intro g h
    ·obtain rfl:=sj h
     conv=>whnf
     try exact fin
    ·conv=>whnf
     exact⟨((IntKind.i64.wrap (i+1)),M,U),h,wk [5,6,7] []⟩
  ·conv=>whnf
   refine qbl.fn [49,1000000] (S:=List Int×Int) (fun(c,k)=>[(7,.ptr 0 0),(12,.tsl 3 (qcp .i64 c)),(55,.tsl 1 (qai d)),(56,.p (.int .i64 ((qai d).length:Int))),(57,pI k)]) (fun(c,k)=>[.box 120 [.tsl 1 (qai d),.mref 2],.tail 9 1 (qai d).length,.mp .string (qbc PV.str (PV.int .i64) a) none,.tail 3 1 (qcp .i64 c).length]) (B:=qig n d a) h (wk [0,2,1,0] [3]) ?_;intro _ st h;obtain⟨c,k⟩:=st;unfold qig at h;conv=>whnf
   apply ifc h<;>intro g h
   ·conv=>whnf
    refine bq h fun b W h=>?_;refine⟨_,Codec.at_ qpl W,?_⟩;conv=>whnf
    refine⟨PV.int .i64 (qd9 a b (0:Int)),(q6c a b),⟨qua qel (PV.int .i64) a b (0:Int),qub qel (PV.int .i64) a b⟩,?_⟩;conv=>whnf
    refine⟨Codec.one (zpr .i64) [(qd9 a b (0:Int))],qcp .i64 [(qd9 a b (0:Int))],.inl rfl,?_⟩;conv=>whnf
    rw[show qcp .i64 c++qcp .i64 [(qd9 a b (0:Int))]=qcp .i64 (c++[(qd9 a b (0:Int))])from Codec.append (zpr .i64) c [(qd9 a b (0:Int))]];conv=>whnf
    obtain⟨P,h⟩:=qak h;refine⟨⟨Codec.wide (zpr .i64) (c++[(qd9 a b (0:Int))]),of_decide_eq_true P,qcb P (by decide)⟩,?_⟩;conv=>whnf
    refine⟨⟨rfl,rfl,rfl⟩,?_⟩;conv=>whnf
    exact⟨((c++[(qd9 a b (0:Int))]),(IntKind.i64.wrap (k+1))),h,wk [0,1,2,4] []⟩
   ·obtain rfl:=sj h
    conv=>whnf
    try exact fin
abbrev q7j (r:List SS×Int):PV:=PV.tup [PV.sl (qai r.1),PV.int .i64 r.2]
def qp1 (n:Nat) (c:qid):Option (List SS×Int):=
 match c with
 | ⟨a⟩=>
 bnd (qiv n (qid.mk a) ((qab.rows a).length:Int)) fun⟨d,_,b⟩=>
 bnd (qaw (!(b != 0)) (idx a (IntKind.i64.wrap (((qab.rows a).length:Int) - 1)))) fun⟨e,_,_,⟨_,_,⟨_,_,_,_,_,_⟩,_,_⟩,_,_,_,_,_,_,_,_,_⟩=>
 bif(bif(b != 0)then true else(e != 9))then(
 some (([]:List SS),b))
 else(
 some (d,(0:Int)))
theorem q48 (n:Nat):∀ (a:qid) (r:List SS×Int),qp1 n a=some r->qac Tryz.prog 24 [PV.agg (q21.cells a)] (q7j r):=by
 intro a r h;obtain⟨_⟩:=a;unfold qp1 at h;refine qac.of_vcN mixed (fun _ _=>Tryz.call24 _ _) Tryz.func24 (by kernel_rfl) (inl:=[1000000]) ?_;conv=>whnf
 refine bq h fun⟨_,_,_⟩ c h=>?_;refine⟨_,(qw4 n _ _ _ c),?_⟩;conv=>whnf
 iterate 6 refine⟨id,?_⟩
 conv=>whnf
 refine bq h fun⟨_,_,_,⟨_,_,⟨_,_,_,_,_,_⟩,_,_⟩,_,_,_,_,_,_,_,_,_⟩ b h=>?_;refine⟨_,fun d=>Codec.at_ qda (qad b d),?_⟩;conv=>whnf
 refine⟨id,id,id,id,?_⟩;conv=>whnf
 apply ifc h<;>intro _ h
 ·obtain rfl:=sj h
  conv=>whnf
  try exact fin
 ·obtain rfl:=sj h
  conv=>whnf
  try exact fin
abbrev q3w (r:Bool):PV:=PV.bool r
def qp0 (n:Nat) (a:qbj):Option (Bool):=
 match a with
 | ⟨⟨b,_,⟨_,_,_,_,_,_⟩,_,_⟩,_⟩=>
 some (b==14)
theorem q12 (n:Nat):∀ (a:qbj) (r:Bool),qp0 n a=some r->qac Tryz.prog 51 [PV.agg (qr5.cells a)] (q3w r):=by
 intro a r h;obtain⟨⟨_,_,⟨_,_,_,_,_,_⟩,_,_⟩,_⟩:=a;unfold qp0 at h;refine qac.of_vcN mixed (fun _ _=>Tryz.call51 _ _) Tryz.func51 (by kernel_rfl) (inl:=[1000000]) ?_;obtain rfl:=sj h;conv=>whnf
 try exact fin
abbrev qhb (r:Int):PV:=PV.int .i64 r
def qau (n:Nat) (b:List qbj):(Int->Option (Int))->Int->Option (Int):=fun c a=>
 bif(decide (a<((qbj.rows b).length:Int)))then(
 bnd (idx b a) fun⟨⟨j,k,⟨l,m,o,p,q,d⟩,e,f⟩,g⟩=>
 bnd (qp0 n (qbj.mk (qaa.mk j k (Val.mk l m o p q d) e f) g)) fun i=>
 bif i then(
 some a)
 else(
 c (IntKind.i64.wrap (a+1))))
 else(
 some (-1:Int))
def qb3 (n:Nat) (a:List qbj):Option (Int):=
 qan (qau n a) n (0:Int)
theorem qg9 (n:Nat):∀ (a:List qbj) (r:Int),qb3 n a=some r->qac Tryz.prog 92 [PV.sl (qbj.rows a),PV.fn 51] (qhb r):=by
 intro a r h;unfold qb3 at h;refine qac.of_vcN mixed (fun _ _=>Tryz.call92 _ _) Tryz.func92 (by kernel_rfl) (inl:=[1000000]) ?_;conv=>whnf
 refine qbl.fn [1000000] (S:=Int) (fun b=>[(0,pA a),(1,.p (.fn 51)),(7,.p (.int .i64 ((qbj.rows a).length:Int))),(8,pI b)]) (fun b=>[]) (B:=qau n a) h (wk [] []) ?_;intro _ b h;unfold qau at h;conv=>whnf
 apply ifc h<;>intro e h
 ·conv=>whnf
  refine bq h fun⟨⟨_,_,⟨_,_,_,_,_,_⟩,_,_⟩,_⟩ d h=>?_;refine⟨_,Codec.at_ qr5 d,?_⟩;conv=>whnf
  refine bq h fun _ c h=>?_;refine⟨_,(q12 n _ _ c),?_⟩;conv=>whnf
  apply ifc h<;>intro e h
  ·obtain rfl:=sj h
   conv=>whnf
   try exact fin
  ·conv=>whnf
   exact⟨(IntKind.i64.wrap (b+1)),h,wk [] []⟩
 ·obtain rfl:=sj h
  conv=>whnf
  try exact fin
abbrev qgp (r:Bool):PV:=PV.bool r
def qbb (n:Nat) (a:List qbj):Option (Bool):=
 bnd (qb3 n a) fun b=>
 some (decide (b≥0))
theorem qgk (n:Nat):∀ (a:List qbj) (r:Bool),qbb n a=some r->qac Tryz.prog 50 [PV.sl (qbj.rows a),PV.fn 51] (qgp r):=by
 intro a r h;unfold qbb at h;refine qac.of_vcN mixed (fun _ _=>Tryz.call50 _ _) Tryz.func50 (by kernel_rfl) (inl:=[1000000]) ?_;conv=>whnf
 refine bq h fun _ b h=>?_;refine⟨_,(qg9 n _ _ b),?_⟩;obtain rfl:=sj h;conv=>whnf
 try exact fin
abbrev q94 (r:Int):PV:=PV.int .i64 r
def qmh (n:Nat):Unit->Option (Int):=fun _=>
 some (0:Int)
def qk5 (n:Nat):Bool->Option (Int):=fun a=>
 bif a then(
 qmh n ())
 else(
 some (2:Int))
def qmi (n:Nat) (b:List qbj) (c:Bool) (d:List qar) (e f:List qaa) (a:Int):Bool->Option (Int):=fun g=>
 bif g then(
 bnd (qbb n b) fun i=>
 bif(bif(bif i then true else c)then true else(decide ((IntKind.i64.wrap ((IntKind.i64.wrap (((qar.rows d).length:Int)+((qaa.rows e).length:Int)))+((qaa.rows f).length:Int)))>0)))then(
 some (1:Int))
 else(
 qmh n ()))
 else(
 bif(a==1)then(
 qk5 n (a==1))
 else(
 qk5 n (a==2)))
def qrk (n:Nat) (g:qab):Option (Int):=
 match g with
 | ⟨a,_,_,⟨_,_,⟨_,_,_,_,_,_⟩,_,_⟩,_,b,c,d,e,f,_,_,_⟩=>
 bif(a==3)then(
 qmi n b c d e f a (a==3))
 else(
 qmi n b c d e f a (a==9))
theorem q6z (n:Nat):∀ (b:qab) (r:Int),qrk n b=some r->qac Tryz.prog 26 [PV.agg (qda.cells b)] (q94 r):=by
 intro b r h;obtain⟨a,t,x,⟨y,z,⟨A,B,C,D,m,o⟩,p,q⟩,s,f,g,i,j,k,u,v,w⟩:=b;unfold qrk at h;refine qac.of_vcN mixed (fun _ _=>Tryz.call26 _ _) Tryz.func26 (by kernel_rfl) (inl:=[1000000]) ?_;conv=>whnf
 refine qh6.go ?_;conv=>whnf
 refine qh6.cut (S:=Unit) (fun _=>[]) (fun _=>[]) (qmh n) (r:=r) ?_ ?_
 ·intro _ h
  unfold qmh at h;obtain rfl:=sj h;conv=>whnf
  try exact fin
 ·conv=>whnf
  refine qh6.cut (S:=Bool) (fun d=>[(1,.ptr 0 0),(5,pI a),(6,pB d)]) (fun d=>[.box 51 [pI a,pP t,pE x,pI y,pS z,pI A,pB B,pI C,pS D,pV m,pT o,pT p,pE q,pS s,pA f,pB g,pO i,pE j,pE k,pU u,pT v,pB w]]) (qmi n f g i j k a) (r:=r) ?_ ?_
  ·intro d h
   unfold qmi at h;conv=>whnf
   apply ifc h<;>intro c h
   ·conv=>whnf
    refine bq h fun _ l h=>?_;refine⟨_,(qgk n _ _ l),?_⟩;conv=>whnf
    iterate 14 refine⟨id,?_⟩
    conv=>whnf
    apply ifc h<;>intro c h
    ·obtain rfl:=sj h
     conv=>whnf
     try exact fin
    ·conv=>whnf
     exact⟨(),h,wk [] []⟩
   ·conv=>whnf
    refine qh6.cut (S:=Bool) (fun e=>[(9,pB e)]) (fun e=>[]) (qk5 n) (r:=r) ?_ ?_
    ·intro e h
     unfold qk5 at h;conv=>whnf
     apply ifc h<;>intro c h
     ·conv=>whnf
      exact⟨(),h,wk [] []⟩
     ·obtain rfl:=sj h
      conv=>whnf
      try exact fin
    ·conv=>whnf
     apply ifc h<;>intro c h
     ·conv=>whnf
      exact⟨(a==1),h,wk [] []⟩
     ·conv=>whnf
      exact⟨(a==2),h,wk [] []⟩
  ·conv=>whnf
   apply ifc h<;>intro c h
   ·conv=>whnf
    exact⟨(a==3),h,wk [0] []⟩
   ·conv=>whnf
    exact⟨(a==9),h,wk [0] []⟩
abbrev qrq (r:Int):PV:=PV.int .i64 r
def qch (n:Nat) (b:List SS) (d:SS):(Int->Option (Int))->Int->Option (Int):=fun c a=>
 bif(decide (a<((qai b).length:Int)))then(
 bnd (idx b a) fun e=>
 bif(d==e)then(
 some a)
 else(
 c (IntKind.i64.wrap (a+1))))
 else(
 some (-1:Int))
def qfa (n:Nat) (a:List SS) (b:SS):Option (Int):=
 qan (qch n a b) n (0:Int)
theorem qqt (n:Nat):∀ (a:List SS) (b:SS) (r:Int),qfa n a b=some r->qac Tryz.prog 93 [PV.sl (qai a),PV.str b] (qrq r):=by
 intro a b r h;unfold qfa at h;refine qac.of_vcN mixed (fun _ _=>Tryz.call93 _ _) Tryz.func93 (by kernel_rfl) (inl:=[1000000]) ?_;conv=>whnf
 refine qbl.fn [1000000] (S:=Int) (fun c=>[(0,pT a),(1,pS b),(7,.p (.int .i64 ((qai a).length:Int))),(8,pI c)]) (fun c=>[]) (B:=qch n a b) h (wk [] []) ?_;intro _ c h;unfold qch at h;conv=>whnf
 apply ifc h<;>intro e h
 ·conv=>whnf
  refine bq h fun _ d h=>?_;refine⟨_,Codec.at_ qpl d,?_⟩;conv=>whnf
  apply ifc h<;>intro e h
  ·obtain rfl:=sj h
   conv=>whnf
   try exact fin
  ·conv=>whnf
   exact⟨(IntKind.i64.wrap (c+1)),h,wk [] []⟩
 ·obtain rfl:=sj h
  conv=>whnf
  try exact fin
abbrev qp8 (r:Bool):PV:=PV.bool r
def qdh (n:Nat) (a:List SS) (b:SS):Option (Bool):=
 bnd (qfa n a b) fun c=>
 some (decide (c≥0))
theorem qpj (n:Nat):∀ (a:List SS) (b:SS) (r:Bool),qdh n a b=some r->qac Tryz.prog 53 [PV.sl (qai a),PV.str b] (qp8 r):=by
 intro a b r h;unfold qdh at h;refine qac.of_vcN mixed (fun _ _=>Tryz.call53 _ _) Tryz.func53 (by kernel_rfl) (inl:=[1000000]) ?_;conv=>whnf
 refine bq h fun _ c h=>?_;refine⟨_,(qqt n _ _ _ c),?_⟩;obtain rfl:=sj h;conv=>whnf
 try exact fin
abbrev q95 (r:List qep):PV:=PV.sl (qep.rows r)
def qkc (n:Nat) (c:List qae) (e:List qep×List SS×Int->Option (List qep)) (i:List qep) (g:Int):(List SS×Int->Option (List qep))->List SS×Int->Option (List qep):=fun f (a,b)=>
 bif(decide (b<((qae.rows c).length:Int)))then(
 bnd (idx c b) fun⟨d,_,_,_⟩=>
 chk (decide ((qai (a++[d])).length * 16<=140737488355328)) (
 f ((a++[d]),(IntKind.i64.wrap (b+1)))))
 else(
 e (i,a,(IntKind.i64.wrap (g+1))))
def qkb (n:Nat) (d:List qae) (a:List qep×List SS×Int->Option (List qep)) (c:Int) (b:List SS):List qep->Option (List qep):=fun e=>
 qan (qkc n d a e c) n (b,(0:Int))
def qed (n:Nat) (j:List qa6) (k:Int):(List qep×List SS×Int->Option (List qep))->List qep×List SS×Int->Option (List qep):=fun i (b,c,a)=>
 bif(decide (a<((qa6.rows j).length:Int)))then(
 bnd (idx j a) fun⟨d,_⟩=>
 bnd (idx d (0:Int)) fun⟨e,f,g,_⟩=>
 bnd (qaw ((bif(decide (((qai f).length:Int)>0))then(decide (((qai g).length:Int)>0))else false)&&(!(e==([]:SS)))) (qdh n c e)) fun o=>
 bif(bif(bif(decide (((qai f).length:Int)>0))then(decide (((qai g).length:Int)>0))else false)then(!(bif(!(e==([]:SS)))then o else false))else false)then(
 bnd (idx f (0:Int)) fun l=>
 bnd (idx g (0:Int)) fun m=>
 chk (decide ((qep.rows (b++[qep.mk k a l m])).length * 48<=140737488355328)) (
 qkb n d i a c (b++[qep.mk k a l m])))
 else(
 qkb n d i a c b))
 else(
 some b)
def qmj (n:Nat) (b:qab) (e:Int) (a:List SS):Option (List qep):=
 match b with
 | ⟨c,d,_,⟨_,_,⟨_,_,_,_,_,_⟩,_,_⟩,_,_,_,_,_,_,_,_,_⟩=>
 bif(c != 1)then(
 some ([]:List qep))
 else(
 chk (decide ((qai a).length * 16<=140737488355328)) (
 qan (qed n d e) n (([]:List _),a,(0:Int))))
theorem q61 (n:Nat):∀ (o:qab) (b:Int) (l:List SS) (r:List qep),qmj n o b l=some r->qac Tryz.prog 27 [PV.agg (qda.cells o),PV.int .i64 b,PV.sl (qai l)] (q95 r):=by
 intro o b l r h;obtain⟨F,e,V,⟨W,X,⟨Y,Z,a0,a1,G,H⟩,I,J⟩,K,L,M,N,O,P,Q,R,T⟩:=o;unfold qmj at h;refine qac.of_vcN mixed (fun _ _=>Tryz.call27 _ _) Tryz.func27 (by kernel_rfl) (inl:=[52,40000010,1000000]) ?_;conv=>whnf
 apply ifc h<;>intro s h
 ·obtain rfl:=sj h
  conv=>whnf
  try exact fin
 ·conv=>whnf
  obtain⟨D,h⟩:=qak h;refine qcl (zny l (of_decide_eq_true D)) [] [] ?_;rintro _ _ ⟨rfl,rfl⟩;refine⟨.tsl 1 (qai l),[.box 51 [pI F,pP e,pE V,pI W,pS X,pI Y,pB Z,pI a0,pS a1,pV G,pT H,pT I,pE J,pS K,pA L,pB M,pO N,pE O,pE P,pU Q,pT R,pB T],.tail 9 1 (qai l).length],rfl,rfl,?_⟩;conv=>whnf
  refine qbl.fn [52,40000010,1000000] (S:=List qep×List SS×Int) (fun(c,g,a)=>[(1,pI b),(7,.tsl 1 (qep.rows c)),(8,.tsl 0 (qai g)),(20,pP e),(21,.p (.int .i64 ((qa6.rows e).length:Int))),(22,pI a)]) (fun(c,g,a)=>[.tail 9 1 (qai g).length,.tail 53 4 (qep.rows c).length]) (B:=qed n e b) h (wk [1,0] [1]) ?_;intro v st h;obtain⟨c,g,a⟩:=st;unfold qed at h;conv=>whnf
  apply ifc h<;>intro s h
  ·conv=>whnf
   refine bq h fun⟨m,U⟩ C h=>?_;refine⟨_,Codec.at_ ql2 C,?_⟩;conv=>whnf
   refine bq h fun⟨_,_,_,_⟩ A h=>?_;refine⟨_,Codec.at_ qea A,?_⟩;conv=>whnf
   refine qh6.cut (S:=List qep) (fun f=>[(1,pI b),(7,.tsl 0 (qep.rows f)),(8,.tsl 1 (qai g)),(10,.ptr 2 0),(20,pP e),(21,.p (.int .i64 ((qa6.rows e).length:Int))),(22,pI a)]) (fun f=>[.tail 53 4 (qep.rows f).length,.tail 9 1 (qai g).length,.box 59 [pN m,pG U]]) (qkb n m v a g) (r:=r) ?_ ?_
   ·intro f h
    unfold qkb at h;conv=>whnf
    refine qbl.fn [52,40000010,1000000] (S:=List SS×Int) (fun(d,q)=>[(1,pI b),(7,.tsl 0 (qep.rows f)),(8,.tsl 1 (qai d)),(20,pP e),(21,.p (.int .i64 ((qa6.rows e).length:Int))),(22,pI a),(68,pN m),(69,.p (.int .i64 ((qae.rows m).length:Int))),(70,pI q)]) (fun(d,q)=>[.tail 53 4 (qep.rows f).length,.tail 9 1 (qai d).length]) (B:=qkc n m v f a) h (wk [0,1] []) ?_;intro _ st h;obtain⟨d,q⟩:=st;unfold qkc at h;conv=>whnf
    apply ifc h<;>intro s h
    ·conv=>whnf
     refine bq h fun⟨i,_,_,_⟩ w h=>?_;refine⟨_,Codec.at_ qea w,?_⟩;conv=>whnf
     refine⟨Codec.one qpl [i],qai [i],.inl rfl,?_⟩;conv=>whnf
     rw[show qai d++qai [i]=qai (d++[i])from Codec.append qpl d [i]];conv=>whnf
     obtain⟨t,h⟩:=qak h;refine⟨⟨Codec.wide qpl (d++[i]),of_decide_eq_true t,qcb t (by decide)⟩,?_⟩;conv=>whnf
     refine⟨⟨rfl,rfl,rfl⟩,?_⟩;conv=>whnf
     exact⟨((d++[i]),(IntKind.i64.wrap (q+1))),h,wk [0,3] []⟩
    ·conv=>whnf
     exact⟨(f,d,(IntKind.i64.wrap (a+1))),h,wk [1,0] []⟩
   ·conv=>whnf
    refine⟨id,?_⟩;conv=>whnf
    iterate 9 refine⟨id,?_⟩
    conv=>whnf
    refine bq h fun _ z h=>?_;refine⟨_,fun E=>(qpj n _ _ _ (qad z E)),?_⟩;conv=>whnf
    refine⟨id,id,id,id,?_⟩;conv=>whnf
    apply ifc h<;>intro s h
    ·conv=>whnf
     refine bq h fun j y h=>?_;refine⟨_,Codec.at_ qpl y,?_⟩;conv=>whnf
     refine bq h fun k x h=>?_;refine⟨_,Codec.at_ qpl x,?_⟩;conv=>whnf
     refine⟨Codec.one q8o [qep.mk b a j k],qep.rows [qep.mk b a j k],.inl rfl,?_⟩;conv=>whnf
     rw[show qep.rows c++qep.rows [qep.mk b a j k]=qep.rows (c++[qep.mk b a j k])from Codec.append q8o c [qep.mk b a j k]];conv=>whnf
     obtain⟨u,h⟩:=qak h;refine⟨⟨Codec.wide q8o (c++[qep.mk b a j k]),of_decide_eq_true u,qcb u (by decide)⟩,?_⟩;conv=>whnf
     refine⟨⟨rfl,rfl,rfl⟩,?_⟩;conv=>whnf
     exact⟨(c++[qep.mk b a j k]),h,wk [4,0,2] []⟩
    ·conv=>whnf
     exact⟨c,h,wk [1,0,2] []⟩
  ·obtain rfl:=sj h
   conv=>whnf
   try exact fin
end W
end
