/- A part of the proof: contracts, printed by program. -/
import Derived.Test.YtneaemdbncgcdaaGreatB
import Derived.Test.YtneaemdbncgcdaaGreatG
set_option linter.unusedVariables false
set_option linter.unusedSimpArgs false
set_option linter.unnecessarySimpa false
set_option linter.deprecated false
set_option linter.unusedSectionVars false
set_option linter.constructorNameAsVariable false
section
set_option maxRecDepth 100000
open Go Go.Proofs Ax
namespace W
abbrev q5v (r:Bool):PV:=PV.bool r
def qgw (n:Nat) (x74:List qbl) (nx2:Int->Option (Bool)) (x72:Int):(Int->Option (Bool))->Int->Option (Bool):=fun nx3 x77=>
 bif(decide (x77<((qbl.rows x74).length:Int)))then(
 bnd (idx x74 x77) fun x78=>
 bnd (qpr n x78) fun x79=>
 bif(!x79)then(
 some false)
 else(
 nx3 (IntKind.i64.wrap (x77+1))))
 else(
 nx2 (IntKind.i64.wrap (x72+1)))
def qgv (n:Nat) (x70:List qba) (nx1:Int->Option (Bool)) (x47:Int):(Int->Option (Bool))->Int->Option (Bool):=fun nx2 x72=>
 bif(decide (x72<((qba.rows x70).length:Int)))then(
 bnd (idx x70 x72) fun⟨x73,x74,x75,x76⟩=>
 bif(bif(decide (((qbl.rows x74).length:Int)<x75))then true else(decide (((qbl.rows x74).length:Int)>x76)))then(
 some false)
 else(
 qap (qgw n x74 nx2 x72) n (0:Int)))
 else(
 nx1 (IntKind.i64.wrap (x47+1)))
def qfs (n:Nat) (x1:List qad):(Int->Option (Bool))->Int->Option (Bool):=fun nx1 x47=>
 bif(decide (x47<((qad.rows x1).length:Int)))then(
 bnd (idx x1 x47) fun⟨x48,x49,x50,⟨x51,x52,⟨x53,x54,x55,x56,x57,x58⟩,x59,x60⟩,x61,x62,x63,x64,x65,x66,x67,x68,x69⟩=>
 bnd (ql3 n (qad.mk x48 x49 x50 (qab.mk x51 x52 (Val.mk x53 x54 x55 x56 x57 x58) x59 x60) x61 x62 x63 x64 x65 x66 x67 x68 x69)) fun⟨x70,x71⟩=>
 bif(bif(bif(!x71)then true else(((qba.rows x70).length:Int)==0))then true else(bif(x48==9)then(decide ((IntKind.i64.wrap (x47+1))<((qad.rows x1).length:Int)))else false))then(
 some false)
 else(
 qap (qgv n x70 nx1 x47) n (0:Int)))
 else(
 some true)
def qnu (n:Nat) (a0z:qg3):Option (Bool):=
 match a0z with
 | ⟨x1⟩=>
 bnd (qa5 (!(bif(decide (((qad.rows x1).length:Int)<1))then true else(decide (((qad.rows x1).length:Int)>64)))) (idx x1 (IntKind.i64.wrap (((qad.rows x1).length:Int) - 1)))) fun⟨x2,x3,x4,⟨x5,x6,⟨x7,x8,x9,x10,x11,x12⟩,x13,x14⟩,x15,x16,x17,x18,x19,x20,x21,x22,x23⟩=>
 bnd (qa5 (!(bif(decide (((qad.rows x1).length:Int)<1))then true else(decide (((qad.rows x1).length:Int)>64)))) (qrd n x2)) fun x24=>
 bnd (qa5 ((!(bif(decide (((qad.rows x1).length:Int)<1))then true else(decide (((qad.rows x1).length:Int)>64))))&&(!x24)) (idx x1 (IntKind.i64.wrap (((qad.rows x1).length:Int) - 1)))) fun⟨x25,x26,x27,⟨x28,x29,⟨x30,x31,x32,x33,x34,x35⟩,x36,x37⟩,x38,x39,x40,x41,x42,x43,x44,x45,x46⟩=>
 bif(bif(bif(decide (((qad.rows x1).length:Int)<1))then true else(decide (((qad.rows x1).length:Int)>64)))then true else(bif(!x24)then(x25 != 9)else false))then(
 some false)
 else(
 qap (qfs n x1) n (0:Int))
set_option maxHeartbeats 4000000 in
theorem q3s (n:Nat):∀ (a0z:qg3) (r:Bool),qnu n a0z=some r->qae Tryz.prog 22 [PV.agg (qys.cells a0z)] (q5v r):=by
 intro a0z r h;obtain⟨x1⟩:=a0z;unfold qnu at h;refine qae.of_vcN qa3 (fun _ _=>Tryz.call22 _ _) Tryz.func22 (by kernel_rfl) (inl:=[1000000]) ?_;conv=>whnf
 refine⟨id,id,id,id,id,id,?_⟩;conv=>whnf
 replace h:=qaa h;obtain⟨⟨x2,x3,x4,⟨x5,x6,⟨x7,x8,x9,x10,x11,x12⟩,x13,x14⟩,x15,x16,x17,x18,x19,x20,x21,x22,x23⟩,h8,h⟩:=h;refine⟨_,fun hg=>Codec.at_ qcw (qah h8 hg),?_⟩;conv=>whnf
 refine⟨id,id,id,?_⟩;conv=>whnf
 replace h:=qaa h;obtain⟨x24,h7,h⟩:=h;refine⟨_,fun hg=>(q15 n _ _ (qah h7 hg)),?_⟩;conv=>whnf
 refine⟨id,id,id,id,id,id,?_⟩;conv=>whnf
 replace h:=qaa h;obtain⟨⟨x25,x26,x27,⟨x28,x29,⟨x30,x31,x32,x33,x34,x35⟩,x36,x37⟩,x38,x39,x40,x41,x42,x43,x44,x45,x46⟩,h6,h⟩:=h;refine⟨_,fun hg=>Codec.at_ qcw (qah h6 hg),?_⟩;conv=>whnf
 refine⟨id,id,id,id,id,id,?_⟩;conv=>whnf
 refine ifc h (fun hc h=>?_) (fun hc h=>?_)
 ·obtain rfl:=sj h
  conv=>whnf
  try exact fin
 ·conv=>whnf
  refine qby.fn [1000000] (S:=Int) (fun x47=>[(3,.p (.int .i64 ((qad.rows x1).length:Int))),(43,pC x1),(44,.p (.int .i64 ((qad.rows x1).length:Int))),(45,pI x47)]) (fun x47=>[]) (B:=qfs n x1) h (wk [] []) ?_;intro nx1 x47 h;unfold qfs at h;conv=>whnf
  refine ifc h (fun hc h=>?_) (fun hc h=>?_)
  ·conv=>whnf
   replace h:=qaa h;obtain⟨⟨x48,x49,x50,⟨x51,x52,⟨x53,x54,x55,x56,x57,x58⟩,x59,x60⟩,x61,x62,x63,x64,x65,x66,x67,x68,x69⟩,h5,h⟩:=h;refine⟨_,Codec.at_ qcw h5,?_⟩;conv=>whnf
   replace h:=qaa h;obtain⟨⟨x70,x71⟩,h4,h⟩:=h;refine⟨_,(q13 n _ _ h4),?_⟩;conv=>whnf
   refine⟨id,id,id,id,id,id,id,id,id,id,id,id,?_⟩;conv=>whnf
   refine ifc h (fun hc h=>?_) (fun hc h=>?_)
   ·obtain rfl:=sj h
    conv=>whnf
    try exact fin
   ·conv=>whnf
    refine qby.fn [1000000] (S:=Int) (fun x72=>[(3,.p (.int .i64 ((qad.rows x1).length:Int))),(43,pC x1),(44,.p (.int .i64 ((qad.rows x1).length:Int))),(45,pI x47),(73,.p (.sl (qba.rows x70))),(74,.p (.int .i64 ((qba.rows x70).length:Int))),(75,pI x72)]) (fun x72=>[]) (B:=qgv n x70 nx1 x47) h (wk [] []) ?_;intro nx2 x72 h;unfold qgv at h;conv=>whnf
    refine ifc h (fun hc h=>?_) (fun hc h=>?_)
    ·conv=>whnf
     replace h:=qaa h;obtain⟨⟨x73,x74,x75,x76⟩,h3,h⟩:=h;refine⟨_,Codec.at_ qsf h3,?_⟩;conv=>whnf
     refine⟨id,id,id,id,id,id,?_⟩;conv=>whnf
     refine ifc h (fun hc h=>?_) (fun hc h=>?_)
     ·obtain rfl:=sj h
      conv=>whnf
      try exact fin
     ·conv=>whnf
      refine qby.fn [1000000] (S:=Int) (fun x77=>[(3,.p (.int .i64 ((qad.rows x1).length:Int))),(43,pC x1),(44,.p (.int .i64 ((qad.rows x1).length:Int))),(45,pI x47),(73,.p (.sl (qba.rows x70))),(74,.p (.int .i64 ((qba.rows x70).length:Int))),(75,pI x72),(94,.p (.sl (qbl.rows x74))),(95,.p (.int .i64 ((qbl.rows x74).length:Int))),(96,pI x77)]) (fun x77=>[]) (B:=qgw n x74 nx2 x72) h (wk [] []) ?_;intro nx3 x77 h;unfold qgw at h;conv=>whnf
      refine ifc h (fun hc h=>?_) (fun hc h=>?_)
      ·conv=>whnf
       replace h:=qaa h;obtain⟨x78,h2,h⟩:=h;refine⟨_,Codec.at_ qq9 h2,?_⟩;conv=>whnf
       replace h:=qaa h;obtain⟨x79,h1,h⟩:=h;refine⟨_,_,q9s n _ _ h1,?_⟩;conv=>whnf
       refine ifc h (fun hc h=>?_) (fun hc h=>?_)
       ·obtain rfl:=sj h
        conv=>whnf
        try exact fin
       ·conv=>whnf
        exact⟨(IntKind.i64.wrap (x77+1)),h,wk [] []⟩
      ·conv=>whnf
       exact⟨(IntKind.i64.wrap (x72+1)),h,wk [] []⟩
    ·conv=>whnf
     exact⟨(IntKind.i64.wrap (x47+1)),h,wk [] []⟩
  ·obtain rfl:=sj h
   conv=>whnf
   try exact fin
abbrev qyi (x3:List SS) (x4:List (SS×Int)) (r:(List SS)×(List (SS×Int))):FV:=.p (.tup [])
abbrev qx9 (x3:List SS) (x4:List (SS×Int)) (r:(List SS)×(List (SS×Int))):List AObj:=[.box 73 [.tsl 2 (qam r.1),.mref 1],.mp .string (qbc PV.str (PV.int .i64) r.2) none,.tail 9 1 (qam r.1).length]
def qe5 (n:Nat) (x1:SS) (x2:Int) (x4:List (SS×Int)):List SS->Option ((List SS)×(List (SS×Int))):=fun x5=>
 some (x5,(qco x1 x2 x4))
def qc0 (n:Nat) (x1:SS) (x2:Int) (x3:List SS) (x4:List (SS×Int)):Option ((List SS)×(List (SS×Int))):=
 bif((qd0 x4 x1 (0:Int))==0)then(
 chk (decide ((qam (x3++[x1])).length * 16<=140737488355328)) (
 qe5 n x1 x2 x4 (x3++[x1])))
 else(
 qe5 n x1 x2 x4 x3)
theorem qge (n:Nat):∀ (x1:SS) (x2:Int) (x3:List SS) (x4:List (SS×Int)) (r:(List SS)×(List (SS×Int))),qc0 n x1 x2 x3 x4=some r->qau Tryz.prog 38 [.ptr 0 0,.p (PV.str x1),.p (PV.int .i64 x2)] [.box 73 [.tsl 2 (qam x3),.mref 1],.mp .string (qbc PV.str (PV.int .i64) x4) none,.tail 9 1 (qam x3).length] 2 (fun v lo=>v=qyi x3 x4 r/\lo=qx9 x3 x4 r):=by
 intro x1 x2 x3 x4 r h;unfold qc0 at h;refine qau.of_vc qa3 (fun _ _=>Tryz.call38 _ _) Tryz.func38 (by kernel_rfl) (inl:=[1000000]) (Nat.le_of_ble_eq_true rfl) ?_;conv=>whnf
 refine qje.cut (S:=List SS) (fun x5=>[(0,.ptr 0 0),(1,pS x1),(2,pI x2)]) (fun x5=>[.box 73 [.tsl 2 (qam x5),.mref 1],.mp .string (qbc PV.str (PV.int .i64) x4) none,.tail 9 1 (qam x5).length]) (qe5 n x1 x2 x4) (r:=r) ?_ ?_
 ·intro x5 h
  unfold qe5 at h;conv=>whnf
  refine⟨_,qh3 qen (PV.int .i64) x1 x2 x4,?_⟩;obtain rfl:=sj h;conv=>whnf
  refine⟨_,_,⟨rfl,rfl⟩,wk [0,1,2] []⟩
 ·conv=>whnf
  refine⟨PV.int .i64 (qd0 x4 x1 (0:Int)),(q4t x4 x1),⟨qtt qen (PV.int .i64) x4 x1 (0:Int),qtu qen (PV.int .i64) x4 x1⟩,?_⟩;conv=>whnf
  refine ifc h (fun hc h=>?_) (fun hc h=>?_)
  ·conv=>whnf
   refine⟨Codec.one qqt [x1],qam [x1],.inl rfl,?_⟩;conv=>whnf
   rw[show qam x3++qam [x1]=qam (x3++[x1])from Codec.append qqt x3 [x1]];conv=>whnf
   obtain⟨h1,h⟩:=qaw h;refine⟨⟨Codec.wide qqt (x3++[x1]),of_decide_eq_true h1,qdx h1 (by decide)⟩,?_⟩;conv=>whnf
   refine⟨⟨rfl,rfl,rfl⟩,?_⟩;conv=>whnf
   exact⟨(x3++[x1]),h,wk [0,1,3] []⟩
  ·conv=>whnf
   exact⟨x3,h,wk [0,1,2] []⟩
abbrev qyj (x1:List SS) (x2:List (SS×Int)) (r:(List SS)×(List (SS×Int))):FV:=.ptr 3 0
abbrev qya (x1:List SS) (x2:List (SS×Int)) (r:(List SS)×(List (SS×Int))):List AObj:=[.box 73 [.tsl 2 (qam x1),.mref 1],.mp .string (qbc PV.str (PV.int .i64) x2) none,.tail 9 1 (qam x1).length,.box 73 [.tsl 5 (qam r.1),.mref 4],.mp .string (qbc PV.str (PV.int .i64) r.2) none,.tail 9 1 (qam r.1).length]
def qe6 (n:Nat) (x1:List SS) (x2:List (SS×Int)):(Int×List SS×List (SS×Int)->Option ((List SS)×(List (SS×Int))))->Int×List SS×List (SS×Int)->Option ((List SS)×(List (SS×Int))):=fun nx1 (x3,x4,x5)=>
 bif(decide (x3<((qam x1).length:Int)))then(
 bnd (idx x1 x3) fun x6=>
 bnd (qc0 n x6 (qd0 x2 x6 (0:Int)) x4 x5) fun⟨x7,x8⟩=>
 nx1 ((IntKind.i64.wrap (x3+1)),x7,x8))
 else(
 some (x4,x5))
def qip (n:Nat) (x1:List SS) (x2:List (SS×Int)):Option ((List SS)×(List (SS×Int))):=
 qap (qe6 n x1 x2) n ((0:Int),([]:List _),([]:List (SS×Int)))
theorem qwl (n:Nat):∀ (x1:List SS) (x2:List (SS×Int)) (r:(List SS)×(List (SS×Int))),qip n x1 x2=some r->qau Tryz.prog 81 [.ptr 0 0] [.box 73 [.tsl 2 (qam x1),.mref 1],.mp .string (qbc PV.str (PV.int .i64) x2) none,.tail 9 1 (qam x1).length] 2 (fun v lo=>v=qyj x1 x2 r/\lo=qya x1 x2 r):=by
 intro x1 x2 r h;unfold qip at h;refine qau.of_vc qa3 (fun _ _=>Tryz.call81 _ _) Tryz.func81 (by kernel_rfl) (inl:=[38,1000000]) (Nat.le_of_ble_eq_true rfl) ?_;conv=>whnf
 refine qby.fn [38,1000000] (S:=Int×List SS×List (SS×Int)) (fun(x3,x4,x5)=>[(0,.ptr 0 0),(3,.ptr 2 0),(12,.tsl 3 (qam x1)),(13,.p (.int .i64 ((qam x1).length:Int))),(14,pI x3)]) (fun(x3,x4,x5)=>[.box 73 [.tsl 3 (qam x1),.mref 1],.mp .string (qbc PV.str (PV.int .i64) x2) none,.box 73 [.tsl 5 (qam x4),.mref 4],.tail 9 1 (qam x1).length,.mp .string (qbc PV.str (PV.int .i64) x5) none,.tail 9 1 (qam x4).length]) (B:=qe6 n x1 x2) h (wk [0,1,4,2,3,0] [5]) ?_;intro nx1 st h;obtain⟨x3,x4,x5⟩:=st;unfold qe6 at h;conv=>whnf
 refine ifc h (fun hc h=>?_) (fun hc h=>?_)
 ·conv=>whnf
  replace h:=qaa h;obtain⟨x6,h2,h⟩:=h;refine⟨_,Codec.at_ qqt h2,?_⟩;conv=>whnf
  refine⟨PV.int .i64 (qd0 x2 x6 (0:Int)),(q4t x2 x6),⟨qtt qen (PV.int .i64) x2 x6 (0:Int),qtu qen (PV.int .i64) x2 x6⟩,?_⟩;conv=>whnf
  replace h:=qaa h;obtain⟨⟨x7,x8⟩,h1,h⟩:=h;refine qcl (qge n _ _ _ _ _ h1) [2,4,5] [] ?_;rintro _ _ ⟨rfl,rfl⟩;refine⟨.p (.tup []),[.box 73 [.tsl 3 (qam x1),.mref 1],.mp .string (qbc PV.str (PV.int .i64) x2) none,.box 73 [.tsl 6 (qam x7),.mref 4],.tail 9 1 (qam x1).length,.mp .string (qbc PV.str (PV.int .i64) x8) none,.dead,.tail 9 1 (qam x7).length],rfl,rfl,?_⟩;conv=>whnf
  exact⟨((IntKind.i64.wrap (x3+1)),x7,x8),h,wk [0,1,2,3,4,6] []⟩
 ·obtain rfl:=sj h
  conv=>whnf
  refine⟨_,_,⟨rfl,rfl⟩,wk [0,1,3,2,4,5] []⟩
abbrev q5t (r:qt0):PV:=PV.agg (zpc.cells r)
def qej (n:Nat) (x1:SS):Bool->Option (qt0):=fun x2=>
 bif x2 then(
 some (qt0.mk (1:Int) (1:Int) (3:Int)))
 else(
 bif(x1==([99,111,97,108,101,115,99,101]:SS))then(
 some (qt0.mk (1:Int) (1048576:Int) (3:Int)))
 else(
 bif(x1==([107,101,121,115]:SS))then(
 some (qt0.mk (1:Int) (1:Int) (0:Int)))
 else(
 bif(x1==([108,97,98,101,108,115]:SS))then(
 some (qt0.mk (1:Int) (1:Int) (1:Int)))
 else(
 bif(x1==([116,121,112,101]:SS))then(
 some (qt0.mk (1:Int) (1:Int) (2:Int)))
 else(
 bif(x1==([114,97,110,103,101]:SS))then(
 some (qt0.mk (2:Int) (2:Int) (3:Int)))
 else(
 some (qt0.mk (1:Int) (0:Int) (0:Int))))))))
def qio (n:Nat) (x1:SS):Option (qt0):=
 bif(x1==([115,105,122,101]:SS))then(
 qej n x1 (x1==([115,105,122,101]:SS)))
 else(
 bif(x1==([97,98,115]:SS))then(
 qej n x1 (x1==([97,98,115]:SS)))
 else(
 bif(x1==([104,101,97,100]:SS))then(
 qej n x1 (x1==([104,101,97,100]:SS)))
 else(
 bif(x1==([108,97,115,116]:SS))then(
 qej n x1 (x1==([108,97,115,116]:SS)))
 else(
 qej n x1 (x1==([116,101,120,116]:SS))))))
theorem q3q (n:Nat):∀ (x1:SS) (r:qt0),qio n x1=some r->qae Tryz.prog 111 [PV.str x1] (q5t r):=by
 intro x1 r h;unfold qio at h;refine qae.of_vcN qa3 (fun _ _=>Tryz.call111 _ _) Tryz.func111 (by kernel_rfl) (inl:=[1000000]) ?_;conv=>whnf
 refine qje.cut (S:=Bool) (fun x2=>[(2,.ptr 0 0),(3,pS x1),(4,pB x2)]) (fun x2=>[.box 175 [.p (.int .i64 (0:Int)),.p (.int .i64 (0:Int)),.p (.int .i64 (0:Int))]]) (qej n x1) (r:=r) ?_ ?_
 ·intro x2 h
  unfold qej at h;conv=>whnf
  refine ifc h (fun hc h=>?_) (fun hc h=>?_)
  ·obtain rfl:=sj h
   conv=>whnf
   try exact fin
  ·conv=>whnf
   refine ifc h (fun hc h=>?_) (fun hc h=>?_)
   ·obtain rfl:=sj h
    conv=>whnf
    try exact fin
   ·conv=>whnf
    refine ifc h (fun hc h=>?_) (fun hc h=>?_)
    ·obtain rfl:=sj h
     conv=>whnf
     try exact fin
    ·conv=>whnf
     refine ifc h (fun hc h=>?_) (fun hc h=>?_)
     ·obtain rfl:=sj h
      conv=>whnf
      try exact fin
     ·conv=>whnf
      refine ifc h (fun hc h=>?_) (fun hc h=>?_)
      ·obtain rfl:=sj h
       conv=>whnf
       try exact fin
      ·conv=>whnf
       refine ifc h (fun hc h=>?_) (fun hc h=>?_)
       ·obtain rfl:=sj h
        conv=>whnf
        try exact fin
       ·obtain rfl:=sj h
        conv=>whnf
        try exact fin
 ·conv=>whnf
  refine ifc h (fun hc h=>?_) (fun hc h=>?_)
  ·conv=>whnf
   exact⟨(x1==([115,105,122,101]:SS)),h,wk [0] []⟩
  ·conv=>whnf
   refine ifc h (fun hc h=>?_) (fun hc h=>?_)
   ·conv=>whnf
    exact⟨(x1==([97,98,115]:SS)),h,wk [0] []⟩
   ·conv=>whnf
    refine ifc h (fun hc h=>?_) (fun hc h=>?_)
    ·conv=>whnf
     exact⟨(x1==([104,101,97,100]:SS)),h,wk [0] []⟩
    ·conv=>whnf
     refine ifc h (fun hc h=>?_) (fun hc h=>?_)
     ·conv=>whnf
      exact⟨(x1==([108,97,115,116]:SS)),h,wk [0] []⟩
     ·conv=>whnf
      exact⟨(x1==([116,101,120,116]:SS)),h,wk [0] []⟩
abbrev q5u (r:Bool):PV:=PV.bool r
def qib (n:Nat) (x1:List SS):(Int×List (SS×Int)->Option (Bool))->Int×List (SS×Int)->Option (Bool):=fun nx1 (x2,x3)=>
 bif(decide (x2<((qam x1).length:Int)))then(
 bnd (idx x1 x2) fun x4=>
 nx1 ((IntKind.i64.wrap (x2+1)),(qco x4 (IntKind.i64.wrap ((qd0 x3 x4 (0:Int))+1)) x3)))
 else(
 some (decide ((((x3).length:Nat):Int)<((qam x1).length:Int))))
def qnt (n:Nat) (x1:List SS):Option (Bool):=
 qap (qib n x1) n ((0:Int),([]:List (SS×Int)))
theorem qv2 (n:Nat):∀ (x1:List SS) (r:Bool),qnt n x1=some r->qae Tryz.prog 113 [PV.sl (qam x1)] (q5u r):=by
 intro x1 r h;unfold qnt at h;refine qae.of_vcN qa3 (fun _ _=>Tryz.call113 _ _) Tryz.func113 (by kernel_rfl) (inl:=[1000000]) ?_;conv=>whnf
 refine qby.fn [1000000] (S:=Int×List (SS×Int)) (fun(x2,x3)=>[(0,pT x1),(3,.mref 0),(7,pT x1),(8,.p (.int .i64 ((qam x1).length:Int))),(9,pI x2)]) (fun(x2,x3)=>[.mp .string (qbc PV.str (PV.int .i64) x3) none]) (B:=qib n x1) h (wk [0] []) ?_;intro nx1 st h;obtain⟨x2,x3⟩:=st;unfold qib at h;conv=>whnf
 refine ifc h (fun hc h=>?_) (fun hc h=>?_)
 ·conv=>whnf
  replace h:=qaa h;obtain⟨x4,h1,h⟩:=h;refine⟨_,Codec.at_ qqt h1,?_⟩;conv=>whnf
  refine⟨PV.int .i64 (qd0 x3 x4 (0:Int)),(q4t x3 x4),⟨qtt qen (PV.int .i64) x3 x4 (0:Int),qtu qen (PV.int .i64) x3 x4⟩,?_⟩;conv=>whnf
  refine⟨_,qh3 qen (PV.int .i64) x4 (IntKind.i64.wrap ((qd0 x3 x4 (0:Int))+1)) x3,?_⟩;conv=>whnf
  exact⟨((IntKind.i64.wrap (x2+1)),(qco x4 (IntKind.i64.wrap ((qd0 x3 x4 (0:Int))+1)) x3)),h,wk [0] []⟩
 ·conv=>whnf
  refine⟨(x3).length,zjw PV.str (PV.int .i64) x3,?_⟩;obtain rfl:=sj h;conv=>whnf
  try exact fin
abbrev qk1 (x3:List SS) (x4:List (SS×Int)) (r:Int):FV:=pI r
abbrev qk0 (x3:List SS) (x4:List (SS×Int)) (r:Int):List AObj:=[.box 73 [.tsl 2 (qam x3),.mref 1],.mp .string (qbc PV.str (PV.int .i64) x4) none,.tail 9 1 (qam x3).length]
def qg6 (n:Nat) (nx1:Int->Option (Int)) (x5:Int):Int->Option (Int):=fun x18=>
 bif(x18 != 0)then(
 some x18)
 else(
 nx1 (IntKind.i64.wrap (x5+1)))
abbrev zmr:Type:=qab->(List SS)->(List (SS×Int))->Option (Int×Int)
def qfm (n:Nat) (x1:List qab) (g83:zmr) (x3:List SS) (x4:List (SS×Int)) (x2:Int):(Int->Option (Int))->Int->Option (Int):=fun nx1 x5=>
 bif(decide (x5<((qab.rows x1).length:Int)))then(
 bnd (idx x1 x5) fun⟨x6,x7,⟨x8,x9,x10,x11,x12,x13⟩,x14,x15⟩=>
 bnd (g83 (qab.mk x6 x7 (Val.mk x8 x9 x10 x11 x12 x13) x14 x15) x3 x4) fun⟨x16,x17⟩=>
 bif(bif(bif(x17==0)then(x2 != 0)else false)then(x16 != x2)else false)then(
 qg6 n nx1 x5 (3:Int))
 else(
 qg6 n nx1 x5 x17))
 else(
 some (0:Int))
abbrev zms:Type:=(List qab)->Int->(List SS)->(List (SS×Int))->Option (Int)
abbrev zmt:Type:=qab->(List SS)->(List (SS×Int))->Option (Int)
def qme (n:Nat) (g37:zms) (g83:zmr) (g112:zmt) (x1:List qab) (x2:Int) (x3:List SS) (x4:List (SS×Int)):Option (Int):=
 qap (qfm n x1 g83 x3 x4 x2) n (0:Int)
abbrev qji (x11:List SS) (x12:List (SS×Int)) (r:Int×Int):FV:=.p (.tup [.int .i64 r.1,.int .i64 r.2])
abbrev qjh (x11:List SS) (x12:List (SS×Int)) (r:Int×Int):List AObj:=[.box 73 [.tsl 2 (qam x11),.mref 1],.mp .string (qbc PV.str (PV.int .i64) x12) none,.tail 9 1 (qam x11).length]
def qgg (n:Nat):Int->Option (Int×Int):=fun x14=>
 bif(x14 != 0)then(
 some ((0:Int),x14))
 else(
 some ((3:Int),(0:Int)))
def qc2 (n:Nat) (x1:Int) (x9:List SS):Int->Option (Int×Int):=fun x13=>
 bnd (qa5 (bif(x13==0)then(x1==6)else false) (qnt n x9)) fun x15=>
 bif(bif(bif(x13==0)then(x1==6)else false)then x15 else false)then(
 qgg n (2:Int))
 else(
 qgg n x13)
def qdq (n:Nat) (g37:zms) (x10:List qab) (x11:List SS) (x12:List (SS×Int)) (x1:Int) (x9:List SS) (g112:zmt) (x2:SS) (x3:Int) (x4:Bool) (x5:Int) (x6:SS) (x7:List Val) (x8:List SS):Bool->Option (Int×Int):=fun x20=>
 bif x20 then(
 bnd (g37 x10 (0:Int) x11 x12) fun x21=>
 qc2 n x1 x9 x21)
 else(
 bif(x1==15)then(
 bnd (g37 x10 (1:Int) x11 x12) fun x22=>
 qc2 n x1 x9 x22)
 else(
 bif(x1==10)then(
 bnd (g112 (qab.mk x1 x2 (Val.mk x3 x4 x5 x6 x7 x8) x9 x10) x11 x12) fun x23=>
 qc2 n x1 x9 x23)
 else(
 bnd (g37 x10 (3:Int) x11 x12) fun x24=>
 qc2 n x1 x9 x24)))
def qkq (n:Nat) (g37:zms) (g83:zmr) (g112:zmt) (a0z:qab) (x11:List SS) (x12:List (SS×Int)):Option (Int×Int):=
 match a0z with
 | ⟨x1,x2,⟨x3,x4,x5,x6,x7,x8⟩,x9,x10⟩=>
 bif(x1==2)then(
 bif((qd0 x12 x2 (0:Int))==0)then(
 some ((0:Int),(2:Int)))
 else(
 some ((qd0 x12 x2 (0:Int)),(0:Int))))
 else(
 bif(x1==14)then(
 some ((0:Int),(2:Int)))
 else(
 bif(x1==13)then(
 bnd (qio n x2) fun⟨x16,x17,x18⟩=>
 bif(bif(decide (((qab.rows x10).length:Int)<x16))then true else(decide (((qab.rows x10).length:Int)>x17)))then(
 some ((0:Int),(2:Int)))
 else(
 bnd (g37 x10 x18 x11 x12) fun x19=>
 qc2 n x1 x9 x19))
 else(
 bif(x1==4)then(
 qdq n g37 x10 x11 x12 x1 x9 g112 x2 x3 x4 x5 x6 x7 x8 (x1==4))
 else(
 bif(x1==11)then(
 qdq n g37 x10 x11 x12 x1 x9 g112 x2 x3 x4 x5 x6 x7 x8 (x1==11))
 else(
 qdq n g37 x10 x11 x12 x1 x9 g112 x2 x3 x4 x5 x6 x7 x8 (x1==12))))))
abbrev qod (x11:List SS) (x12:List (SS×Int)) (r:Int):FV:=pI r
abbrev qoc (x11:List SS) (x12:List (SS×Int)) (r:Int):List AObj:=[.box 73 [.tsl 2 (qam x11),.mref 1],.mp .string (qbc PV.str (PV.int .i64) x12) none,.tail 9 1 (qam x11).length]
def qkp (n:Nat) (g37:zms) (g83:zmr) (g112:zmt) (a0z:qab) (x11:List SS) (x12:List (SS×Int)):Option (Int):=
 match a0z with
 | ⟨x1,x2,⟨x3,x4,x5,x6,x7,x8⟩,x9,x10⟩=>
 bif(bif(!(x2==([61]:SS)))then(!(x2==([60,62]:SS)))else false)then(
 bnd (g37 x10 (3:Int) x11 x12) fun x13=>
 some x13)
 else(
 bnd (idx x10 (0:Int)) fun⟨x14,x15,⟨x16,x17,x18,x19,x20,x21⟩,x22,x23⟩=>
 bnd (g83 (qab.mk x14 x15 (Val.mk x16 x17 x18 x19 x20 x21) x22 x23) x11 x12) fun⟨x24,x25⟩=>
 bif(x25 != 0)then(
 some x25)
 else(
 bnd (idx x10 (1:Int)) fun⟨x26,x27,⟨x28,x29,x30,x31,x32,x33⟩,x34,x35⟩=>
 bnd (g83 (qab.mk x26 x27 (Val.mk x28 x29 x30 x31 x32 x33) x34 x35) x11 x12) fun⟨x36,x37⟩=>
 bif(bif(x37==0)then(x24 != x36)else false)then(
 some (3:Int))
 else(
 some x37)))
abbrev zqq (g37:zms):Prop:=∀ (x1:List qab) (x2:Int) (x3:List SS) (x4:List (SS×Int)) (r:Int),g37 x1 x2 x3 x4=some r->qau Tryz.prog 37 [.ptr 0 0,.p (PV.sl (qab.rows x1)),.p (PV.int .i64 x2)] [.box 73 [.tsl 2 (qam x3),.mref 1],.mp .string (qbc PV.str (PV.int .i64) x4) none,.tail 9 1 (qam x3).length] 2 (fun v lo=>v=qk1 x3 x4 r/\lo=qk0 x3 x4 r)
abbrev zqr (g83:zmr):Prop:=∀ (a0z:qab) (x11:List SS) (x12:List (SS×Int)) (r:Int×Int),g83 a0z x11 x12=some r->qau Tryz.prog 83 [.ptr 0 0,.p (PV.agg (qca.cells a0z))] [.box 73 [.tsl 2 (qam x11),.mref 1],.mp .string (qbc PV.str (PV.int .i64) x12) none,.tail 9 1 (qam x11).length] 2 (fun v lo=>v=qji x11 x12 r/\lo=qjh x11 x12 r)
abbrev zqs (g112:zmt):Prop:=∀ (a0z:qab) (x11:List SS) (x12:List (SS×Int)) (r:Int),g112 a0z x11 x12=some r->qau Tryz.prog 112 [.ptr 0 0,.p (PV.agg (qca.cells a0z))] [.box 73 [.tsl 2 (qam x11),.mref 1],.mp .string (qbc PV.str (PV.int .i64) x12) none,.tail 9 1 (qam x11).length] 2 (fun v lo=>v=qod x11 x12 r/\lo=qoc x11 x12 r)
theorem qwc (n:Nat) (g37:zms) (g83:zmr) (g112:zmt) (g37_ok:zqq g37) (g83_ok:zqr g83) (g112_ok:zqs g112):∀ (x1:List qab) (x2:Int) (x3:List SS) (x4:List (SS×Int)) (r:Int),qme n g37 g83 g112 x1 x2 x3 x4=some r->qau Tryz.prog 37 [.ptr 0 0,.p (PV.sl (qab.rows x1)),.p (PV.int .i64 x2)] [.box 73 [.tsl 2 (qam x3),.mref 1],.mp .string (qbc PV.str (PV.int .i64) x4) none,.tail 9 1 (qam x3).length] 2 (fun v lo=>v=qk1 x3 x4 r/\lo=qk0 x3 x4 r):=by
 intro x1 x2 x3 x4 r h;unfold qme at h;refine qau.of_vc qa3 (fun _ _=>Tryz.call37 _ _) Tryz.func37 (by kernel_rfl) (inl:=[83,1000000]) (Nat.le_of_ble_eq_true rfl) ?_;conv=>whnf
 refine qby.fn [83,1000000] (S:=Int) (fun x5=>[(0,.ptr 0 0),(2,pI x2),(11,pE x1),(12,.p (.int .i64 ((qab.rows x1).length:Int))),(13,pI x5)]) (fun x5=>[.box 73 [.tsl 2 (qam x3),.mref 1],.mp .string (qbc PV.str (PV.int .i64) x4) none,.tail 9 1 (qam x3).length]) (B:=qfm n x1 g83 x3 x4 x2) h (wk [0,1,2] []) ?_;intro nx1 x5 h;unfold qfm at h;conv=>whnf
 refine ifc h (fun hc h=>?_) (fun hc h=>?_)
 ·conv=>whnf
  replace h:=qaa h;obtain⟨⟨x6,x7,⟨x8,x9,x10,x11,x12,x13⟩,x14,x15⟩,h2,h⟩:=h;refine⟨_,Codec.at_ qca h2,?_⟩;conv=>whnf
  replace h:=qaa h;obtain⟨⟨x16,x17⟩,h1,h⟩:=h;refine qcl (g83_ok _ _ _ _ h1) [0,1,2] [] ?_;rintro _ _ ⟨rfl,rfl⟩;refine⟨.p (.tup [.int .i64 x16,.int .i64 x17]),[.box 73 [.tsl 4 (qam x3),.mref 1],.mp .string (qbc PV.str (PV.int .i64) x4) none,.dead,.box 47 [pI x6,pS x7,pI x8,pB x9,pI x10,pS x11,pV x12,pT x13,pT x14,pE x15],.tail 9 1 (qam x3).length],rfl,rfl,?_⟩;conv=>whnf
  refine qje.cut (S:=Int) (fun x18=>[(0,.ptr 0 0),(2,pI x2),(10,pI x18),(11,pE x1),(12,.p (.int .i64 ((qab.rows x1).length:Int))),(13,pI x5)]) (fun x18=>[.box 73 [.tsl 2 (qam x3),.mref 1],.mp .string (qbc PV.str (PV.int .i64) x4) none,.tail 9 1 (qam x3).length]) (qg6 n nx1 x5) (r:=r) ?_ ?_
  ·intro x18 h
   unfold qg6 at h;conv=>whnf
   refine ifc h (fun hc h=>?_) (fun hc h=>?_)
   ·obtain rfl:=sj h
    conv=>whnf
    refine⟨_,_,⟨rfl,rfl⟩,wk [0,1,2] []⟩
   ·conv=>whnf
    exact⟨(IntKind.i64.wrap (x5+1)),h,wk [0,1,2] []⟩
  ·conv=>whnf
   refine⟨id,?_⟩;conv=>whnf
   refine⟨id,id,id,id,?_⟩;conv=>whnf
   refine ifc h (fun hc h=>?_) (fun hc h=>?_)
   ·conv=>whnf
    exact⟨(3:Int),h,wk [0,1,4] []⟩
   ·conv=>whnf
    exact⟨x17,h,wk [0,1,4] []⟩
 ·obtain rfl:=sj h
  conv=>whnf
  refine⟨_,_,⟨rfl,rfl⟩,wk [0,1,2] []⟩
set_option maxHeartbeats 4000000 in
theorem qv7 (n:Nat) (g37:zms) (g83:zmr) (g112:zmt) (g37_ok:zqq g37) (g83_ok:zqr g83) (g112_ok:zqs g112):∀ (a0z:qab) (x11:List SS) (x12:List (SS×Int)) (r:Int×Int),qkq n g37 g83 g112 a0z x11 x12=some r->qau Tryz.prog 83 [.ptr 0 0,.p (PV.agg (qca.cells a0z))] [.box 73 [.tsl 2 (qam x11),.mref 1],.mp .string (qbc PV.str (PV.int .i64) x12) none,.tail 9 1 (qam x11).length] 2 (fun v lo=>v=qji x11 x12 r/\lo=qjh x11 x12 r):=by
 intro a0z x11 x12 r h;obtain⟨x1,x2,⟨x3,x4,x5,x6,x7,x8⟩,x9,x10⟩:=a0z;unfold qkq at h;refine qau.of_vc qa3 (fun _ _=>Tryz.call83 _ _) Tryz.func83 (by kernel_rfl) (inl:=[37,112,1000000]) (Nat.le_of_ble_eq_true rfl) ?_;conv=>whnf
 refine qje.cut (S:=Int) (fun x13=>[(3,.ptr 2 0),(6,pI x13)]) (fun x13=>[.box 73 [.tsl 3 (qam x11),.mref 1],.mp .string (qbc PV.str (PV.int .i64) x12) none,.box 47 [pI x1,pS x2,pI x3,pB x4,pI x5,pS x6,pV x7,pT x8,pT x9,pE x10],.tail 9 1 (qam x11).length]) (qc2 n x1 x9) (r:=r) ?_ ?_
 ·intro x13 h
  unfold qc2 at h;conv=>whnf
  refine qje.cut (S:=Int) (fun x14=>[(6,pI x14)]) (fun x14=>[.box 73 [.tsl 2 (qam x11),.mref 1],.mp .string (qbc PV.str (PV.int .i64) x12) none,.tail 9 1 (qam x11).length]) (qgg n) (r:=r) ?_ ?_
  ·intro x14 h
   unfold qgg at h;conv=>whnf
   refine ifc h (fun hc h=>?_) (fun hc h=>?_)
   ·obtain rfl:=sj h
    conv=>whnf
    refine⟨_,_,⟨rfl,rfl⟩,wk [0,1,2] []⟩
   ·obtain rfl:=sj h
    conv=>whnf
    refine⟨_,_,⟨rfl,rfl⟩,wk [0,1,2] []⟩
  ·conv=>whnf
   refine⟨id,?_⟩;conv=>whnf
   refine⟨id,id,id,id,?_⟩;conv=>whnf
   replace h:=qaa h;obtain⟨x15,h1,h⟩:=h;refine⟨_,fun hg=>(qv2 n _ _ (qah h1 hg)),?_⟩;conv=>whnf
   refine⟨id,?_⟩;conv=>whnf
   refine ifc h (fun hc h=>?_) (fun hc h=>?_)
   ·conv=>whnf
    exact⟨(2:Int),h,wk [0,1,3] []⟩
   ·conv=>whnf
    exact⟨x13,h,wk [0,1,3] []⟩
 ·conv=>whnf
  refine ifc h (fun hc h=>?_) (fun hc h=>?_)
  ·conv=>whnf
   refine⟨PV.int .i64 (qd0 x12 x2 (0:Int)),(q4t x12 x2),⟨qtt qen (PV.int .i64) x12 x2 (0:Int),qtu qen (PV.int .i64) x12 x2⟩,?_⟩;conv=>whnf
   refine ifc h (fun hc h=>?_) (fun hc h=>?_)
   ·obtain rfl:=sj h
    conv=>whnf
    refine⟨_,_,⟨rfl,rfl⟩,wk [0,1,2] []⟩
   ·conv=>whnf
    refine⟨PV.int .i64 (qd0 x12 x2 (0:Int)),(q4t x12 x2),⟨qtt qen (PV.int .i64) x12 x2 (0:Int),qtu qen (PV.int .i64) x12 x2⟩,?_⟩;obtain rfl:=sj h;conv=>whnf
    refine⟨_,_,⟨rfl,rfl⟩,wk [0,1,2] []⟩
  ·conv=>whnf
   refine ifc h (fun hc h=>?_) (fun hc h=>?_)
   ·obtain rfl:=sj h
    conv=>whnf
    refine⟨_,_,⟨rfl,rfl⟩,wk [0,1,2] []⟩
   ·conv=>whnf
    refine ifc h (fun hc h=>?_) (fun hc h=>?_)
    ·conv=>whnf
     replace h:=qaa h;obtain⟨⟨x16,x17,x18⟩,h3,h⟩:=h;refine⟨_,(q3q n _ _ h3),?_⟩;conv=>whnf
     refine⟨id,id,id,id,id,id,?_⟩;conv=>whnf
     refine ifc h (fun hc h=>?_) (fun hc h=>?_)
     ·obtain rfl:=sj h
      conv=>whnf
      refine⟨_,_,⟨rfl,rfl⟩,wk [0,1,2] []⟩
     ·conv=>whnf
      replace h:=qaa h;obtain⟨x19,h2,h⟩:=h;refine qcl (g37_ok _ _ _ _ _ h2) [0,1,2] [] ?_;rintro _ _ ⟨rfl,rfl⟩;refine⟨pI x19,[.box 73 [.tsl 5 (qam x11),.mref 1],.mp .string (qbc PV.str (PV.int .i64) x12) none,.dead,.box 47 [pI x1,pS x2,pI x3,pB x4,pI x5,pS x6,pV x7,pT x8,pT x9,pE x10],.box 175 [pI x16,pI x17,pI x18],.tail 9 1 (qam x11).length],rfl,rfl,?_⟩;conv=>whnf
      exact⟨x19,h,wk [0,1,3,5] []⟩
    ·conv=>whnf
     refine qje.cut (S:=Bool) (fun x20=>[(0,.ptr 0 0),(3,.ptr 2 0),(9,pI x1),(58,pB x20)]) (fun x20=>[.box 73 [.tsl 3 (qam x11),.mref 1],.mp .string (qbc PV.str (PV.int .i64) x12) none,.box 47 [pI x1,pS x2,pI x3,pB x4,pI x5,pS x6,pV x7,pT x8,pT x9,pE x10],.tail 9 1 (qam x11).length]) (qdq n g37 x10 x11 x12 x1 x9 g112 x2 x3 x4 x5 x6 x7 x8) (r:=r) ?_ ?_
     ·intro x20 h
      unfold qdq at h;conv=>whnf
      refine ifc h (fun hc h=>?_) (fun hc h=>?_)
      ·conv=>whnf
       replace h:=qaa h;obtain⟨x21,h4,h⟩:=h;refine qcl (g37_ok _ _ _ _ _ h4) [0,1,3] [] ?_;rintro _ _ ⟨rfl,rfl⟩;refine⟨pI x21,[.box 73 [.tsl 4 (qam x11),.mref 1],.mp .string (qbc PV.str (PV.int .i64) x12) none,.box 47 [pI x1,pS x2,pI x3,pB x4,pI x5,pS x6,pV x7,pT x8,pT x9,pE x10],.dead,.tail 9 1 (qam x11).length],rfl,rfl,?_⟩;conv=>whnf
       exact⟨x21,h,wk [0,1,2,4] []⟩
      ·conv=>whnf
       refine ifc h (fun hc h=>?_) (fun hc h=>?_)
       ·conv=>whnf
        replace h:=qaa h;obtain⟨x22,h5,h⟩:=h;refine qcl (g37_ok _ _ _ _ _ h5) [0,1,3] [] ?_;rintro _ _ ⟨rfl,rfl⟩;refine⟨pI x22,[.box 73 [.tsl 4 (qam x11),.mref 1],.mp .string (qbc PV.str (PV.int .i64) x12) none,.box 47 [pI x1,pS x2,pI x3,pB x4,pI x5,pS x6,pV x7,pT x8,pT x9,pE x10],.dead,.tail 9 1 (qam x11).length],rfl,rfl,?_⟩;conv=>whnf
        exact⟨x22,h,wk [0,1,2,4] []⟩
       ·conv=>whnf
        refine ifc h (fun hc h=>?_) (fun hc h=>?_)
        ·conv=>whnf
         replace h:=qaa h;obtain⟨x23,h6,h⟩:=h;refine qcl (g112_ok _ _ _ _ h6) [0,1,3] [] ?_;rintro _ _ ⟨rfl,rfl⟩;refine⟨pI x23,[.box 73 [.tsl 4 (qam x11),.mref 1],.mp .string (qbc PV.str (PV.int .i64) x12) none,.box 47 [pI x1,pS x2,pI x3,pB x4,pI x5,pS x6,pV x7,pT x8,pT x9,pE x10],.dead,.tail 9 1 (qam x11).length],rfl,rfl,?_⟩;conv=>whnf
         exact⟨x23,h,wk [0,1,2,4] []⟩
        ·conv=>whnf
         replace h:=qaa h;obtain⟨x24,h7,h⟩:=h;refine qcl (g37_ok _ _ _ _ _ h7) [0,1,3] [] ?_;rintro _ _ ⟨rfl,rfl⟩;refine⟨pI x24,[.box 73 [.tsl 4 (qam x11),.mref 1],.mp .string (qbc PV.str (PV.int .i64) x12) none,.box 47 [pI x1,pS x2,pI x3,pB x4,pI x5,pS x6,pV x7,pT x8,pT x9,pE x10],.dead,.tail 9 1 (qam x11).length],rfl,rfl,?_⟩;conv=>whnf
         exact⟨x24,h,wk [0,1,2,4] []⟩
     ·conv=>whnf
      refine ifc h (fun hc h=>?_) (fun hc h=>?_)
      ·conv=>whnf
       exact⟨(x1==4),h,wk [0,1,3,2] []⟩
      ·conv=>whnf
       refine ifc h (fun hc h=>?_) (fun hc h=>?_)
       ·conv=>whnf
        exact⟨(x1==11),h,wk [0,1,3,2] []⟩
       ·conv=>whnf
        exact⟨(x1==12),h,wk [0,1,3,2] []⟩
theorem qv6 (n:Nat) (g37:zms) (g83:zmr) (g112:zmt) (g37_ok:zqq g37) (g83_ok:zqr g83) (g112_ok:zqs g112):∀ (a0z:qab) (x11:List SS) (x12:List (SS×Int)) (r:Int),qkp n g37 g83 g112 a0z x11 x12=some r->qau Tryz.prog 112 [.ptr 0 0,.p (PV.agg (qca.cells a0z))] [.box 73 [.tsl 2 (qam x11),.mref 1],.mp .string (qbc PV.str (PV.int .i64) x12) none,.tail 9 1 (qam x11).length] 2 (fun v lo=>v=qod x11 x12 r/\lo=qoc x11 x12 r):=by
 intro a0z x11 x12 r h;obtain⟨x1,x2,⟨x3,x4,x5,x6,x7,x8⟩,x9,x10⟩:=a0z;unfold qkp at h;refine qau.of_vc qa3 (fun _ _=>Tryz.call112 _ _) Tryz.func112 (by kernel_rfl) (inl:=[37,83,1000000]) (Nat.le_of_ble_eq_true rfl) ?_;conv=>whnf
 refine⟨id,id,id,?_⟩;conv=>whnf
 refine ifc h (fun hc h=>?_) (fun hc h=>?_)
 ·conv=>whnf
  replace h:=qaa h;obtain⟨x13,h1,h⟩:=h;refine qcl (g37_ok _ _ _ _ _ h1) [0,1,2] [] ?_;rintro _ _ ⟨rfl,rfl⟩;refine⟨pI x13,[.box 73 [.tsl 4 (qam x11),.mref 1],.mp .string (qbc PV.str (PV.int .i64) x12) none,.dead,.box 47 [pI x1,pS x2,pI x3,pB x4,pI x5,pS x6,pV x7,pT x8,pT x9,pE x10],.tail 9 1 (qam x11).length],rfl,rfl,?_⟩;obtain rfl:=sj h;conv=>whnf
  refine⟨_,_,⟨rfl,rfl⟩,wk [0,1,4] []⟩
 ·conv=>whnf
  replace h:=qaa h;obtain⟨⟨x14,x15,⟨x16,x17,x18,x19,x20,x21⟩,x22,x23⟩,h5,h⟩:=h;refine⟨_,Codec.at_ qca h5,?_⟩;conv=>whnf
  replace h:=qaa h;obtain⟨⟨x24,x25⟩,h2,h⟩:=h;refine qcl (g83_ok _ _ _ _ h2) [0,1,2] [] ?_;rintro _ _ ⟨rfl,rfl⟩;refine⟨.p (.tup [.int .i64 x24,.int .i64 x25]),[.box 73 [.tsl 4 (qam x11),.mref 1],.mp .string (qbc PV.str (PV.int .i64) x12) none,.dead,.box 47 [pI x1,pS x2,pI x3,pB x4,pI x5,pS x6,pV x7,pT x8,pT x9,pE x10],.tail 9 1 (qam x11).length],rfl,rfl,?_⟩;conv=>whnf
  refine ifc h (fun hc h=>?_) (fun hc h=>?_)
  ·obtain rfl:=sj h
   conv=>whnf
   refine⟨_,_,⟨rfl,rfl⟩,wk [0,1,4] []⟩
  ·conv=>whnf
   replace h:=qaa h;obtain⟨⟨x26,x27,⟨x28,x29,x30,x31,x32,x33⟩,x34,x35⟩,h4,h⟩:=h;refine⟨_,Codec.at_ qca h4,?_⟩;conv=>whnf
   replace h:=qaa h;obtain⟨⟨x36,x37⟩,h3,h⟩:=h;refine qcl (g83_ok _ _ _ _ h3) [0,1,4] [] ?_;rintro _ _ ⟨rfl,rfl⟩;refine⟨.p (.tup [.int .i64 x36,.int .i64 x37]),[.box 73 [.tsl 5 (qam x11),.mref 1],.mp .string (qbc PV.str (PV.int .i64) x12) none,.dead,.box 47 [pI x1,pS x2,pI x3,pB x4,pI x5,pS x6,pV x7,pT x8,pT x9,pE x10],.dead,.tail 9 1 (qam x11).length],rfl,rfl,?_⟩;conv=>whnf
   refine⟨id,id,id,?_⟩;conv=>whnf
   refine ifc h (fun hc h=>?_) (fun hc h=>?_)
   ·obtain rfl:=sj h
    conv=>whnf
    refine⟨_,_,⟨rfl,rfl⟩,wk [0,1,5] []⟩
   ·obtain rfl:=sj h
    conv=>whnf
    refine⟨_,_,⟨rfl,rfl⟩,wk [0,1,5] []⟩
mutual
def qbe:Nat->(List qab)->Int->(List SS)->(List (SS×Int))->Option (Int)
 | 0=>fun _ _ _ _=>none
 | n+1=>qme n (qbe n) (qct n) (qc1 n)
def qct:Nat->qab->(List SS)->(List (SS×Int))->Option (Int×Int)
 | 0=>fun _ _ _=>none
 | n+1=>qkq n (qbe n) (qct n) (qc1 n)
def qc1:Nat->qab->(List SS)->(List (SS×Int))->Option (Int)
 | 0=>fun _ _ _=>none
 | n+1=>qkp n (qbe n) (qct n) (qc1 n)
end
theorem qru (n:Nat):(∀ (x1:List qab) (x2:Int) (x3:List SS) (x4:List (SS×Int)) (r:Int),qbe n x1 x2 x3 x4=some r->qau Tryz.prog 37 [.ptr 0 0,.p (PV.sl (qab.rows x1)),.p (PV.int .i64 x2)] [.box 73 [.tsl 2 (qam x3),.mref 1],.mp .string (qbc PV.str (PV.int .i64) x4) none,.tail 9 1 (qam x3).length] 2 (fun v lo=>v=qk1 x3 x4 r/\lo=qk0 x3 x4 r))/\(∀ (a0z:qab) (x11:List SS) (x12:List (SS×Int)) (r:Int×Int),qct n a0z x11 x12=some r->qau Tryz.prog 83 [.ptr 0 0,.p (PV.agg (qca.cells a0z))] [.box 73 [.tsl 2 (qam x11),.mref 1],.mp .string (qbc PV.str (PV.int .i64) x12) none,.tail 9 1 (qam x11).length] 2 (fun v lo=>v=qji x11 x12 r/\lo=qjh x11 x12 r))/\(∀ (a0z:qab) (x11:List SS) (x12:List (SS×Int)) (r:Int),qc1 n a0z x11 x12=some r->qau Tryz.prog 112 [.ptr 0 0,.p (PV.agg (qca.cells a0z))] [.box 73 [.tsl 2 (qam x11),.mref 1],.mp .string (qbc PV.str (PV.int .i64) x12) none,.tail 9 1 (qam x11).length] 2 (fun v lo=>v=qod x11 x12 r/\lo=qoc x11 x12 r)):=by
 induction n with
 | zero=>exact⟨(by intros; rename_i h; cases h),(by intros; rename_i h; cases h),(by intros; rename_i h; cases h)⟩
 | succ n ih=>
  obtain⟨h0,h1,h2⟩:=ih;exact⟨qwc n (qbe n) (qct n) (qc1 n) h0 h1 h2,qv7 n (qbe n) (qct n) (qc1 n) h0 h1 h2,qv6 n (qbe n) (qct n) (qc1 n) h0 h1 h2⟩
theorem qd4 (n:Nat):∀ (x1:List qab) (x2:Int) (x3:List SS) (x4:List (SS×Int)) (r:Int),qbe n x1 x2 x3 x4=some r->qau Tryz.prog 37 [.ptr 0 0,.p (PV.sl (qab.rows x1)),.p (PV.int .i64 x2)] [.box 73 [.tsl 2 (qam x3),.mref 1],.mp .string (qbc PV.str (PV.int .i64) x4) none,.tail 9 1 (qam x3).length] 2 (fun v lo=>v=qk1 x3 x4 r/\lo=qk0 x3 x4 r):=(qru n).1
theorem qwo (n:Nat):∀ (a0z:qab) (x11:List SS) (x12:List (SS×Int)) (r:Int×Int),qct n a0z x11 x12=some r->qau Tryz.prog 83 [.ptr 0 0,.p (PV.agg (qca.cells a0z))] [.box 73 [.tsl 2 (qam x11),.mref 1],.mp .string (qbc PV.str (PV.int .i64) x12) none,.tail 9 1 (qam x11).length] 2 (fun v lo=>v=qji x11 x12 r/\lo=qjh x11 x12 r):=(qru n).2.1
abbrev qw1 (x3:List SS) (x4:List (SS×Int)) (r:Int):FV:=pI r
abbrev qwy (x3:List SS) (x4:List (SS×Int)) (r:Int):List AObj:=[.box 73 [.tsl 2 (qam x3),.mref 1],.mp .string (qbc PV.str (PV.int .i64) x4) none,.tail 9 1 (qam x3).length]
def qf6 (n:Nat) (x1:List SS) (x2:List qab) (x3:List SS) (x4:List (SS×Int)):Option (Int):=
 bnd (qbe n x2 (3:Int) x3 x4) fun x5=>
 bif(x5 != 0)then(
 some x5)
 else(
 bnd (qnt n x1) fun x6=>
 bif x6 then(
 some (2:Int))
 else(
 some (0:Int)))
theorem qqu (n:Nat):∀ (x1:List SS) (x2:List qab) (x3:List SS) (x4:List (SS×Int)) (r:Int),qf6 n x1 x2 x3 x4=some r->qau Tryz.prog 110 [.ptr 0 0,.p (PV.sl (qam x1)),.p (PV.sl (qab.rows x2))] [.box 73 [.tsl 2 (qam x3),.mref 1],.mp .string (qbc PV.str (PV.int .i64) x4) none,.tail 9 1 (qam x3).length] 2 (fun v lo=>v=qw1 x3 x4 r/\lo=qwy x3 x4 r):=by
 intro x1 x2 x3 x4 r h;unfold qf6 at h;refine qau.of_vc qa3 (fun _ _=>Tryz.call110 _ _) Tryz.func110 (by kernel_rfl) (inl:=[37,1000000]) (Nat.le_of_ble_eq_true rfl) ?_;conv=>whnf
 replace h:=qaa h;obtain⟨x5,h1,h⟩:=h;refine qcl (qd4 n _ _ _ _ _ h1) [0,1,2] [] ?_;rintro _ _ ⟨rfl,rfl⟩;refine⟨pI x5,[.box 73 [.tsl 3 (qam x3),.mref 1],.mp .string (qbc PV.str (PV.int .i64) x4) none,.dead,.tail 9 1 (qam x3).length],rfl,rfl,?_⟩;conv=>whnf
 refine ifc h (fun hc h=>?_) (fun hc h=>?_)
 ·obtain rfl:=sj h
  conv=>whnf
  refine⟨_,_,⟨rfl,rfl⟩,wk [0,1,3] []⟩
 ·conv=>whnf
  replace h:=qaa h;obtain⟨x6,h2,h⟩:=h;refine⟨_,(qv2 n _ _ h2),?_⟩;conv=>whnf
  refine ifc h (fun hc h=>?_) (fun hc h=>?_)
  ·obtain rfl:=sj h
   conv=>whnf
   refine⟨_,_,⟨rfl,rfl⟩,wk [0,1,3] []⟩
  ·obtain rfl:=sj h
   conv=>whnf
   refine⟨_,_,⟨rfl,rfl⟩,wk [0,1,3] []⟩
abbrev qyl (x7:List SS) (x8:List (SS×Int)) (x9:List SS) (x10:List (SS×Int)) (r:Int×(List SS)×(List (SS×Int))):FV:=.p (.int .i64 r.1)
abbrev qyc (x7:List SS) (x8:List (SS×Int)) (x9:List SS) (x10:List (SS×Int)) (r:Int×(List SS)×(List (SS×Int))):List AObj:=[.box 73 [.tsl 4 (qam r.2.1),.mref 2],.box 73 [.tsl 5 (qam x9),.mref 3],.mp .string (qbc PV.str (PV.int .i64) r.2.2) none,.mp .string (qbc PV.str (PV.int .i64) x10) none,.tail 9 1 (qam r.2.1).length,.tail 9 1 (qam x9).length]
def qgf (n:Nat):List SS×List (SS×Int)->Option (Int×(List SS)×(List (SS×Int))):=fun(x12,x13)=>
 some ((0:Int),x12,x13)
def qir (n:Nat) (a0z:qai) (x6:Bool) (x7:List SS) (x8:List (SS×Int)) (x9:List SS) (x10:List (SS×Int)):Option (Int×(List SS)×(List (SS×Int))):=
 match a0z with
 | ⟨x1,x2,x3,x4,x5⟩=>
 bif(bif((qd0 x8 x1 (0:Int)) != 0)then true else(bif x6 then(bif(x2==([]:SS))then true else(x3==2))else false))then(
 some ((2:Int),x7,x8))
 else(
 bnd (qf6 n x4 x5 x9 x10) fun x11=>
 bif(x11 != 0)then(
 some (x11,x7,x8))
 else(
 bif(!(x1==([]:SS)))then(
 bnd (qc0 n x1 (2:Int) x7 x8) fun⟨x14,x15⟩=>
 qgf n (x14,x15))
 else(
 qgf n (x7,x8))))
theorem qwn (n:Nat):∀ (a0z:qai) (x6:Bool) (x7:List SS) (x8:List (SS×Int)) (x9:List SS) (x10:List (SS×Int)) (r:Int×(List SS)×(List (SS×Int))),qir n a0z x6 x7 x8 x9 x10=some r->qau Tryz.prog 108 [.ptr 0 0,.p (PV.agg (qgn.cells a0z)),.ptr 1 0,.p (PV.bool x6)] [.box 73 [.tsl 4 (qam x7),.mref 2],.box 73 [.tsl 5 (qam x9),.mref 3],.mp .string (qbc PV.str (PV.int .i64) x8) none,.mp .string (qbc PV.str (PV.int .i64) x10) none,.tail 9 1 (qam x7).length,.tail 9 1 (qam x9).length] 4 (fun v lo=>v=qyl x7 x8 x9 x10 r/\lo=qyc x7 x8 x9 x10 r):=by
 intro a0z x6 x7 x8 x9 x10 r h;obtain⟨x1,x2,x3,x4,x5⟩:=a0z;unfold qir at h;refine qau.of_vc qa3 (fun _ _=>Tryz.call108 _ _) Tryz.func108 (by kernel_rfl) (inl:=[38,110,1000000]) (Nat.le_of_ble_eq_true rfl) ?_;conv=>whnf
 refine⟨PV.int .i64 (qd0 x8 x1 (0:Int)),(q4t x8 x1),⟨qtt qen (PV.int .i64) x8 x1 (0:Int),qtu qen (PV.int .i64) x8 x1⟩,?_⟩;conv=>whnf
 refine⟨id,id,id,id,id,id,id,id,id,id,id,?_⟩;conv=>whnf
 refine ifc h (fun hc h=>?_) (fun hc h=>?_)
 ·obtain rfl:=sj h
  conv=>whnf
  refine⟨_,_,⟨rfl,rfl⟩,wk [0,1,2,3,4,5] []⟩
 ·conv=>whnf
  replace h:=qaa h;obtain⟨x11,h1,h⟩:=h;refine qcl (qqu n _ _ _ _ _ h1) [1,3,5] [] ?_;rintro _ _ ⟨rfl,rfl⟩;refine⟨pI x11,[.box 73 [.tsl 4 (qam x7),.mref 2],.box 73 [.tsl 7 (qam x9),.mref 3],.mp .string (qbc PV.str (PV.int .i64) x8) none,.mp .string (qbc PV.str (PV.int .i64) x10) none,.tail 9 1 (qam x7).length,.dead,.box 65 [pS x1,pS x2,pI x3,pT x4,pE x5],.tail 9 1 (qam x9).length],rfl,rfl,?_⟩;conv=>whnf
  refine ifc h (fun hc h=>?_) (fun hc h=>?_)
  ·obtain rfl:=sj h
   conv=>whnf
   refine⟨_,_,⟨rfl,rfl⟩,wk [0,1,2,3,4,7] []⟩
  ·conv=>whnf
   refine qje.cut (S:=List SS×List (SS×Int)) (fun(x12,x13)=>[]) (fun(x12,x13)=>[.box 73 [.tsl 4 (qam x12),.mref 2],.box 73 [.tsl 5 (qam x9),.mref 3],.mp .string (qbc PV.str (PV.int .i64) x13) none,.mp .string (qbc PV.str (PV.int .i64) x10) none,.tail 9 1 (qam x12).length,.tail 9 1 (qam x9).length]) (qgf n) (r:=r) ?_ ?_
   ·intro st h
    obtain⟨x12,x13⟩:=st;unfold qgf at h;obtain rfl:=sj h;conv=>whnf
    refine⟨_,_,⟨rfl,rfl⟩,wk [0,1,2,3,4,5] []⟩
   ·conv=>whnf
    refine ifc h (fun hc h=>?_) (fun hc h=>?_)
    ·conv=>whnf
     replace h:=qaa h;obtain⟨⟨x14,x15⟩,h2,h⟩:=h;refine qcl (qge n _ _ _ _ _ h2) [0,2,4] [] ?_;rintro _ _ ⟨rfl,rfl⟩;refine⟨.p (.tup []),[.box 73 [.tsl 8 (qam x14),.mref 2],.box 73 [.tsl 7 (qam x9),.mref 3],.mp .string (qbc PV.str (PV.int .i64) x15) none,.mp .string (qbc PV.str (PV.int .i64) x10) none,.dead,.dead,.box 65 [pS x1,pS x2,pI x3,pT x4,pE x5],.tail 9 1 (qam x9).length,.tail 9 1 (qam x14).length],rfl,rfl,?_⟩;conv=>whnf
     exact⟨(x14,x15),h,wk [0,1,2,3,8,7] []⟩
    ·conv=>whnf
     exact⟨(x7,x8),h,wk [0,1,2,3,4,7] []⟩
abbrev qzp (x2:List SS) (x3:List (SS×Int)) (r:Bool×Int):FV:=.p (.tup [.bool r.1,.int .i64 r.2])
abbrev qzm (x2:List SS) (x3:List (SS×Int)) (r:Bool×Int):List AObj:=[.box 73 [.tsl 2 (qam x2),.mref 1],.mp .string (qbc PV.str (PV.int .i64) x3) none,.tail 9 1 (qam x2).length]
def qke (n:Nat) (x1:SS) (x2:List SS) (x3:List (SS×Int)):Option (Bool×Int):=
 bif(bif(x1==([]:SS))then true else((qd0 x3 x1 (0:Int))==0))then(
 some (false,(0:Int)))
 else(
 bif((qd0 x3 x1 (0:Int)) != 1)then(
 some (true,(3:Int)))
 else(
 some (true,(0:Int))))
theorem qx0 (n:Nat):∀ (x1:SS) (x2:List SS) (x3:List (SS×Int)) (r:Bool×Int),qke n x1 x2 x3=some r->qau Tryz.prog 109 [.ptr 0 0,.p (PV.str x1)] [.box 73 [.tsl 2 (qam x2),.mref 1],.mp .string (qbc PV.str (PV.int .i64) x3) none,.tail 9 1 (qam x2).length] 2 (fun v lo=>v=qzp x2 x3 r/\lo=qzm x2 x3 r):=by
 intro x1 x2 x3 r h;unfold qke at h;refine qau.of_vc qa3 (fun _ _=>Tryz.call109 _ _) Tryz.func109 (by kernel_rfl) (inl:=[1000000]) (Nat.le_of_ble_eq_true rfl) ?_;conv=>whnf
 refine⟨PV.int .i64 (qd0 x3 x1 (0:Int)),(q4t x3 x1),⟨qtt qen (PV.int .i64) x3 x1 (0:Int),qtu qen (PV.int .i64) x3 x1⟩,?_⟩;conv=>whnf
 refine⟨id,id,?_⟩;conv=>whnf
 refine ifc h (fun hc h=>?_) (fun hc h=>?_)
 ·obtain rfl:=sj h
  conv=>whnf
  refine⟨_,_,⟨rfl,rfl⟩,wk [0,1,2] []⟩
 ·conv=>whnf
  refine ifc h (fun hc h=>?_) (fun hc h=>?_)
  ·obtain rfl:=sj h
   conv=>whnf
   refine⟨_,_,⟨rfl,rfl⟩,wk [0,1,2] []⟩
  ·obtain rfl:=sj h
   conv=>whnf
   refine⟨_,_,⟨rfl,rfl⟩,wk [0,1,2] []⟩
abbrev qyn (x4:List SS) (x5:List (SS×Int)) (x6:List SS) (x7:List (SS×Int)) (r:Int×(List SS)×(List (SS×Int))):FV:=.p (.int .i64 r.1)
abbrev qye (x4:List SS) (x5:List (SS×Int)) (x6:List SS) (x7:List (SS×Int)) (r:Int×(List SS)×(List (SS×Int))):List AObj:=[.box 73 [.tsl 4 (qam r.2.1),.mref 2],.box 73 [.tsl 5 (qam x6),.mref 3],.mp .string (qbc PV.str (PV.int .i64) r.2.2) none,.mp .string (qbc PV.str (PV.int .i64) x7) none,.tail 9 1 (qam r.2.1).length,.tail 9 1 (qam x6).length]
def qfv (n:Nat) (nx1:Int×List SS×List (SS×Int)->Option (Int×(List SS)×(List (SS×Int)))) (x8:Int):List SS×List (SS×Int)->Option (Int×(List SS)×(List (SS×Int))):=fun(x11,x12)=>
 nx1 ((IntKind.i64.wrap (x8+1)),x11,x12)
def qfx (n:Nat) (x17:List SS) (x18:List (SS×Int)) (x13:SS) (nx1:Int×List SS×List (SS×Int)->Option (Int×(List SS)×(List (SS×Int)))) (x8:Int):Int->Option (Int×(List SS)×(List (SS×Int))):=fun x22=>
 bif(x22 != 0)then(
 some (x22,x17,x18))
 else(
 bif(!(x13==([]:SS)))then(
 bnd (qc0 n x13 (1:Int) x17 x18) fun⟨x23,x24⟩=>
 qfv n nx1 x8 (x23,x24))
 else(
 qfv n nx1 x8 (x17,x18)))
def qfw (n:Nat) (x15:List SS) (x16:List qab) (x6:List SS) (x7:List (SS×Int)) (x17:List SS) (x18:List (SS×Int)) (x13:SS) (nx1:Int×List SS×List (SS×Int)->Option (Int×(List SS)×(List (SS×Int)))) (x8:Int):Int->Option (Int×(List SS)×(List (SS×Int))):=fun x21=>
 bif(x21==0)then(
 bnd (qf6 n x15 x16 x6 x7) fun x25=>
 qfx n x17 x18 x13 nx1 x8 x25)
 else(
 qfx n x17 x18 x13 nx1 x8 x21)
def qer (n:Nat) (x13:SS) (x3:Bool) (x14 x15:List SS) (x16:List qab) (x6:List SS) (x7:List (SS×Int)) (nx1:Int×List SS×List (SS×Int)->Option (Int×(List SS)×(List (SS×Int)))) (x8:Int):List SS×List (SS×Int)->Option (Int×(List SS)×(List (SS×Int))):=fun(x17,x18)=>
 bnd (qke n x13 x17 x18) fun⟨x19,x20⟩=>
 bif(bif(bif(bif(x20==0)then x19 else false)then x3 else false)then(decide ((IntKind.i64.wrap (((qam x14).length:Int)+((qam x15).length:Int)))>0))else false)then(
 qfw n x15 x16 x6 x7 x17 x18 x13 nx1 x8 (2:Int))
 else(
 qfw n x15 x16 x6 x7 x17 x18 x13 nx1 x8 x20)
def qe8 (n:Nat) (x1:List qaf) (x2:List qai) (x3:Bool) (x6:List SS) (x7:List (SS×Int)):(Int×List SS×List (SS×Int)->Option (Int×(List SS)×(List (SS×Int))))->Int×List SS×List (SS×Int)->Option (Int×(List SS)×(List (SS×Int))):=fun nx1 (x8,x9,x10)=>
 bif(decide (x8<((qaf.rows x1).length:Int)))then(
 bnd (idx x1 x8) fun⟨x13,x14,x15,x16⟩=>
 bif(decide (x8>0))then(
 bnd (idx x2 (IntKind.i64.wrap (x8 - 1))) fun⟨x26,x27,x28,x29,x30⟩=>
 bnd (qir n (qai.mk x26 x27 x28 x29 x30) x3 x9 x10 x6 x7) fun⟨x31,x32,x33⟩=>
 bif(x31 != 0)then(
 some (x31,x32,x33))
 else(
 qer n x13 x3 x14 x15 x16 x6 x7 nx1 x8 (x32,x33)))
 else(
 qer n x13 x3 x14 x15 x16 x6 x7 nx1 x8 (x9,x10)))
 else(
 some ((0:Int),x9,x10))
def qit (n:Nat) (a0z:qa9) (x3:Bool) (x4:List SS) (x5:List (SS×Int)) (x6:List SS) (x7:List (SS×Int)):Option (Int×(List SS)×(List (SS×Int))):=
 match a0z with
 | ⟨x1,x2⟩=>
 qap (qe8 n x1 x2 x3 x6 x7) n ((0:Int),x4,x5)
set_option maxHeartbeats 4000000 in
theorem qwq (n:Nat):∀ (a0z:qa9) (x3:Bool) (x4:List SS) (x5:List (SS×Int)) (x6:List SS) (x7:List (SS×Int)) (r:Int×(List SS)×(List (SS×Int))),qit n a0z x3 x4 x5 x6 x7=some r->qau Tryz.prog 82 [.ptr 0 0,.p (PV.agg (qoa.cells a0z)),.ptr 1 0,.p (PV.bool x3)] [.box 73 [.tsl 4 (qam x4),.mref 2],.box 73 [.tsl 5 (qam x6),.mref 3],.mp .string (qbc PV.str (PV.int .i64) x5) none,.mp .string (qbc PV.str (PV.int .i64) x7) none,.tail 9 1 (qam x4).length,.tail 9 1 (qam x6).length] 4 (fun v lo=>v=qyn x4 x5 x6 x7 r/\lo=qye x4 x5 x6 x7 r):=by
 intro a0z x3 x4 x5 x6 x7 r h;obtain⟨x1,x2⟩:=a0z;unfold qit at h;refine qau.of_vc qa3 (fun _ _=>Tryz.call82 _ _) Tryz.func82 (by kernel_rfl) (inl:=[38,108,109,110,1000000]) (Nat.le_of_ble_eq_true rfl) ?_;conv=>whnf
 refine qby.fn [38,108,109,110,1000000] (S:=Int×List SS×List (SS×Int)) (fun(x8,x9,x10)=>[(0,.ptr 0 0),(2,.ptr 1 0),(3,pB x3),(5,.ptr 4 0),(15,pN x1),(16,.p (.int .i64 ((qaf.rows x1).length:Int))),(17,pI x8)]) (fun(x8,x9,x10)=>[.box 73 [.tsl 5 (qam x9),.mref 2],.box 73 [.tsl 6 (qam x6),.mref 3],.mp .string (qbc PV.str (PV.int .i64) x10) none,.mp .string (qbc PV.str (PV.int .i64) x7) none,.box 61 [pN x1,pG x2],.tail 9 1 (qam x9).length,.tail 9 1 (qam x6).length]) (B:=qe8 n x1 x2 x3 x6 x7) h (wk [0,1,2,3,6,4,5] []) ?_;intro nx1 st h;obtain⟨x8,x9,x10⟩:=st;unfold qe8 at h;conv=>whnf
 refine ifc h (fun hc h=>?_) (fun hc h=>?_)
 ·conv=>whnf
  refine qje.cut (S:=List SS×List (SS×Int)) (fun(x11,x12)=>[(0,.ptr 0 0),(2,.ptr 1 0),(3,pB x3),(5,.ptr 4 0),(15,pN x1),(16,.p (.int .i64 ((qaf.rows x1).length:Int))),(17,pI x8)]) (fun(x11,x12)=>[.box 73 [.tsl 5 (qam x11),.mref 2],.box 73 [.tsl 6 (qam x6),.mref 3],.mp .string (qbc PV.str (PV.int .i64) x12) none,.mp .string (qbc PV.str (PV.int .i64) x7) none,.box 61 [pN x1,pG x2],.tail 9 1 (qam x11).length,.tail 9 1 (qam x6).length]) (qfv n nx1 x8) (r:=r) ?_ ?_
  ·intro st h
   obtain⟨x11,x12⟩:=st;unfold qfv at h;conv=>whnf
   exact⟨((IntKind.i64.wrap (x8+1)),x11,x12),h,wk [0,1,2,3,4,5,6] []⟩
  ·conv=>whnf
   replace h:=qaa h;obtain⟨⟨x13,x14,x15,x16⟩,h6,h⟩:=h;refine⟨_,Codec.at_ qeq h6,?_⟩;conv=>whnf
   refine qje.cut (S:=List SS×List (SS×Int)) (fun(x17,x18)=>[(0,.ptr 0 0),(2,.ptr 1 0),(3,pB x3),(5,.ptr 4 0),(10,.ptr 5 0),(15,pN x1),(16,.p (.int .i64 ((qaf.rows x1).length:Int))),(17,pI x8)]) (fun(x17,x18)=>[.box 73 [.tsl 6 (qam x17),.mref 2],.box 73 [.tsl 7 (qam x6),.mref 3],.mp .string (qbc PV.str (PV.int .i64) x18) none,.mp .string (qbc PV.str (PV.int .i64) x7) none,.box 61 [pN x1,pG x2],.box 63 [pS x13,pT x14,pT x15,pE x16],.tail 9 1 (qam x17).length,.tail 9 1 (qam x6).length]) (qer n x13 x3 x14 x15 x16 x6 x7 nx1 x8) (r:=r) ?_ ?_
   ·intro st h
    obtain⟨x17,x18⟩:=st;unfold qer at h;conv=>whnf
    replace h:=qaa h;obtain⟨⟨x19,x20⟩,h1,h⟩:=h;refine qcl (qx0 n _ _ _ _ h1) [0,2,6] [] ?_;rintro _ _ ⟨rfl,rfl⟩;refine⟨.p (.tup [.bool x19,.int .i64 x20]),[.box 73 [.tsl 8 (qam x17),.mref 2],.box 73 [.tsl 7 (qam x6),.mref 3],.mp .string (qbc PV.str (PV.int .i64) x18) none,.mp .string (qbc PV.str (PV.int .i64) x7) none,.box 61 [pN x1,pG x2],.box 63 [pS x13,pT x14,pT x15,pE x16],.dead,.tail 9 1 (qam x6).length,.tail 9 1 (qam x17).length],rfl,rfl,?_⟩;conv=>whnf
    refine qje.cut (S:=Int) (fun x21=>[(0,.ptr 0 0),(2,.ptr 1 0),(3,pB x3),(5,.ptr 4 0),(10,.ptr 5 0),(13,pI x21),(15,pN x1),(16,.p (.int .i64 ((qaf.rows x1).length:Int))),(17,pI x8)]) (fun x21=>[.box 73 [.tsl 6 (qam x17),.mref 2],.box 73 [.tsl 7 (qam x6),.mref 3],.mp .string (qbc PV.str (PV.int .i64) x18) none,.mp .string (qbc PV.str (PV.int .i64) x7) none,.box 61 [pN x1,pG x2],.box 63 [pS x13,pT x14,pT x15,pE x16],.tail 9 1 (qam x17).length,.tail 9 1 (qam x6).length]) (qfw n x15 x16 x6 x7 x17 x18 x13 nx1 x8) (r:=r) ?_ ?_
    ·intro x21 h
     unfold qfw at h;conv=>whnf
     refine qje.cut (S:=Int) (fun x22=>[(0,.ptr 0 0),(2,.ptr 1 0),(3,pB x3),(5,.ptr 4 0),(10,.ptr 5 0),(13,pI x22),(15,pN x1),(16,.p (.int .i64 ((qaf.rows x1).length:Int))),(17,pI x8)]) (fun x22=>[.box 73 [.tsl 6 (qam x17),.mref 2],.box 73 [.tsl 7 (qam x6),.mref 3],.mp .string (qbc PV.str (PV.int .i64) x18) none,.mp .string (qbc PV.str (PV.int .i64) x7) none,.box 61 [pN x1,pG x2],.box 63 [pS x13,pT x14,pT x15,pE x16],.tail 9 1 (qam x17).length,.tail 9 1 (qam x6).length]) (qfx n x17 x18 x13 nx1 x8) (r:=r) ?_ ?_
     ·intro x22 h
      unfold qfx at h;conv=>whnf
      refine ifc h (fun hc h=>?_) (fun hc h=>?_)
      ·obtain rfl:=sj h
       conv=>whnf
       refine⟨_,_,⟨rfl,rfl⟩,wk [0,1,2,3,6,7] []⟩
      ·conv=>whnf
       refine ifc h (fun hc h=>?_) (fun hc h=>?_)
       ·conv=>whnf
        replace h:=qaa h;obtain⟨⟨x23,x24⟩,h2,h⟩:=h;refine qcl (qge n _ _ _ _ _ h2) [0,2,6] [] ?_;rintro _ _ ⟨rfl,rfl⟩;refine⟨.p (.tup []),[.box 73 [.tsl 8 (qam x23),.mref 2],.box 73 [.tsl 7 (qam x6),.mref 3],.mp .string (qbc PV.str (PV.int .i64) x24) none,.mp .string (qbc PV.str (PV.int .i64) x7) none,.box 61 [pN x1,pG x2],.box 63 [pS x13,pT x14,pT x15,pE x16],.dead,.tail 9 1 (qam x6).length,.tail 9 1 (qam x23).length],rfl,rfl,?_⟩;conv=>whnf
        exact⟨(x23,x24),h,wk [0,1,2,3,4,8,7] []⟩
       ·conv=>whnf
        exact⟨(x17,x18),h,wk [0,1,2,3,4,6,7] []⟩
     ·conv=>whnf
      refine ifc h (fun hc h=>?_) (fun hc h=>?_)
      ·conv=>whnf
       replace h:=qaa h;obtain⟨x25,h3,h⟩:=h;refine qcl (qqu n _ _ _ _ _ h3) [1,3,7] [] ?_;rintro _ _ ⟨rfl,rfl⟩;refine⟨pI x25,[.box 73 [.tsl 6 (qam x17),.mref 2],.box 73 [.tsl 8 (qam x6),.mref 3],.mp .string (qbc PV.str (PV.int .i64) x18) none,.mp .string (qbc PV.str (PV.int .i64) x7) none,.box 61 [pN x1,pG x2],.box 63 [pS x13,pT x14,pT x15,pE x16],.tail 9 1 (qam x17).length,.dead,.tail 9 1 (qam x6).length],rfl,rfl,?_⟩;conv=>whnf
       exact⟨x25,h,wk [0,1,2,3,4,5,6,8] []⟩
      ·conv=>whnf
       exact⟨x21,h,wk [0,1,2,3,4,5,6,7] []⟩
    ·conv=>whnf
     refine⟨id,?_⟩;conv=>whnf
     refine⟨id,id,id,id,id,id,id,id,id,?_⟩;conv=>whnf
     refine ifc h (fun hc h=>?_) (fun hc h=>?_)
     ·conv=>whnf
      exact⟨(2:Int),h,wk [0,1,2,3,4,5,8,7] []⟩
     ·conv=>whnf
      exact⟨x20,h,wk [0,1,2,3,4,5,8,7] []⟩
   ·conv=>whnf
    refine ifc h (fun hc h=>?_) (fun hc h=>?_)
    ·conv=>whnf
     replace h:=qaa h;obtain⟨⟨x26,x27,x28,x29,x30⟩,h5,h⟩:=h;refine⟨_,Codec.at_ qgn h5,?_⟩;conv=>whnf
     replace h:=qaa h;obtain⟨⟨x31,x32,x33⟩,h4,h⟩:=h;refine qcl (qwn n _ _ _ _ _ _ _ h4) [0,1,2,3,5,6] [] ?_;rintro _ _ ⟨rfl,rfl⟩;refine⟨pI x31,[.box 73 [.tsl 8 (qam x32),.mref 2],.box 73 [.tsl 9 (qam x6),.mref 3],.mp .string (qbc PV.str (PV.int .i64) x33) none,.mp .string (qbc PV.str (PV.int .i64) x7) none,.box 61 [pN x1,pG x2],.dead,.dead,.box 63 [pS x13,pT x14,pT x15,pE x16],.tail 9 1 (qam x32).length,.tail 9 1 (qam x6).length],rfl,rfl,?_⟩;conv=>whnf
     refine ifc h (fun hc h=>?_) (fun hc h=>?_)
     ·obtain rfl:=sj h
      conv=>whnf
      refine⟨_,_,⟨rfl,rfl⟩,wk [0,1,2,3,8,9] []⟩
     ·conv=>whnf
      exact⟨(x32,x33),h,wk [0,1,2,3,4,7,8,9] []⟩
    ·conv=>whnf
     exact⟨(x9,x10),h,wk [0,1,2,3,4,7,5,6] []⟩
 ·obtain rfl:=sj h
  conv=>whnf
  refine⟨_,_,⟨rfl,rfl⟩,wk [0,1,2,3,5,6] []⟩
abbrev qw0 (x3:List SS) (x4:List (SS×Int)) (r:Int×(List SS)×(List (SS×Int))):FV:=.p (.int .i64 r.1)
abbrev qwx (x3:List SS) (x4:List (SS×Int)) (r:Int×(List SS)×(List (SS×Int))):List AObj:=[.box 73 [.tsl 2 (qam r.2.1),.mref 1],.mp .string (qbc PV.str (PV.int .i64) r.2.2) none,.tail 9 1 (qam r.2.1).length]
def qes (n:Nat) (x1:List qa9) (x2:Bool) (x5:List SS) (x6:List (SS×Int)):(Int×List SS×List (SS×Int)->Option (Int×(List SS)×(List (SS×Int))))->Int×List SS×List (SS×Int)->Option (Int×(List SS)×(List (SS×Int))):=fun nx1 (x7,x8,x9)=>
 bif(decide (x7<((qa9.rows x1).length:Int)))then(
 bnd (idx x1 x7) fun⟨x10,x11⟩=>
 bnd (qit n (qa9.mk x10 x11) x2 x8 x9 x5 x6) fun⟨x12,x13,x14⟩=>
 bif(x12 != 0)then(
 some (x12,x13,x14))
 else(
 nx1 ((IntKind.i64.wrap (x7+1)),x13,x14)))
 else(
 some ((0:Int),x8,x9))
def qe1 (n:Nat) (x1:List qa9) (x2:Bool) (x3:List SS) (x4:List (SS×Int)):Option (Int×(List SS)×(List (SS×Int))):=
 bnd (qip n x3 x4) fun⟨x5,x6⟩=>
 qap (qes n x1 x2 x5 x6) n ((0:Int),x3,x4)
theorem ql8 (n:Nat):∀ (x1:List qa9) (x2:Bool) (x3:List SS) (x4:List (SS×Int)) (r:Int×(List SS)×(List (SS×Int))),qe1 n x1 x2 x3 x4=some r->qau Tryz.prog 36 [.ptr 0 0,.p (PV.sl (qa9.rows x1)),.p (PV.bool x2)] [.box 73 [.tsl 2 (qam x3),.mref 1],.mp .string (qbc PV.str (PV.int .i64) x4) none,.tail 9 1 (qam x3).length] 2 (fun v lo=>v=qw0 x3 x4 r/\lo=qwx x3 x4 r):=by
 intro x1 x2 x3 x4 r h;unfold qe1 at h;refine qau.of_vc qa3 (fun _ _=>Tryz.call36 _ _) Tryz.func36 (by kernel_rfl) (inl:=[81,82,1000000]) (Nat.le_of_ble_eq_true rfl) ?_;conv=>whnf
 replace h:=qaa h;obtain⟨⟨x5,x6⟩,h1,h⟩:=h;refine qcl (qwl n _ _ _ h1) [0,1,2] [] ?_;rintro _ _ ⟨rfl,rfl⟩;refine⟨.ptr 4 0,[.box 73 [.tsl 3 (qam x3),.mref 1],.mp .string (qbc PV.str (PV.int .i64) x4) none,.dead,.tail 9 1 (qam x3).length,.box 73 [.tsl 6 (qam x5),.mref 5],.mp .string (qbc PV.str (PV.int .i64) x6) none,.tail 9 1 (qam x5).length],rfl,rfl,?_⟩;conv=>whnf
 refine qby.fn [81,82,1000000] (S:=Int×List SS×List (SS×Int)) (fun(x7,x8,x9)=>[(0,.ptr 0 0),(2,pB x2),(7,.ptr 2 0),(13,pP x1),(14,.p (.int .i64 ((qa9.rows x1).length:Int))),(15,pI x7)]) (fun(x7,x8,x9)=>[.box 73 [.tsl 3 (qam x8),.mref 1],.mp .string (qbc PV.str (PV.int .i64) x9) none,.box 73 [.tsl 4 (qam x5),.mref 5],.tail 9 1 (qam x8).length,.tail 9 1 (qam x5).length,.mp .string (qbc PV.str (PV.int .i64) x6) none]) (B:=qes n x1 x2 x5 x6) h (wk [0,1,4,3,6,5] []) ?_;intro nx1 st h;obtain⟨x7,x8,x9⟩:=st;unfold qes at h;conv=>whnf
 refine ifc h (fun hc h=>?_) (fun hc h=>?_)
 ·conv=>whnf
  replace h:=qaa h;obtain⟨⟨x10,x11⟩,h3,h⟩:=h;refine⟨_,Codec.at_ qoa h3,?_⟩;conv=>whnf
  replace h:=qaa h;obtain⟨⟨x12,x13,x14⟩,h2,h⟩:=h;refine qcl (qwq n _ _ _ _ _ _ _ h2) [0,2,1,5,3,4] [] ?_;rintro _ _ ⟨rfl,rfl⟩;refine⟨pI x12,[.box 73 [.tsl 7 (qam x13),.mref 1],.mp .string (qbc PV.str (PV.int .i64) x14) none,.box 73 [.tsl 8 (qam x5),.mref 5],.dead,.dead,.mp .string (qbc PV.str (PV.int .i64) x6) none,.box 61 [pN x10,pG x11],.tail 9 1 (qam x13).length,.tail 9 1 (qam x5).length],rfl,rfl,?_⟩;conv=>whnf
  refine ifc h (fun hc h=>?_) (fun hc h=>?_)
  ·obtain rfl:=sj h
   conv=>whnf
   refine⟨_,_,⟨rfl,rfl⟩,wk [0,1,7] []⟩
  ·conv=>whnf
   exact⟨((IntKind.i64.wrap (x7+1)),x13,x14),h,wk [0,1,2,7,8,5] []⟩
 ·obtain rfl:=sj h
  conv=>whnf
  refine⟨_,_,⟨rfl,rfl⟩,wk [0,1,3] []⟩
abbrev qyp (x2:List SS) (x3:List (SS×Int)) (r:Int):FV:=pI r
abbrev qyg (x2:List SS) (x3:List (SS×Int)) (r:Int):List AObj:=[.box 73 [.tsl 2 (qam x2),.mref 1],.mp .string (qbc PV.str (PV.int .i64) x3) none,.tail 9 1 (qam x2).length]
def qgi (n:Nat) (nx1:Int->Option (Int)) (x4:Int):Unit->Option (Int):=fun _=>
 nx1 (IntKind.i64.wrap (x4+1))
def qe9 (n:Nat) (x1:List qag) (x3:List (SS×Int)) (x2:List SS):(Int->Option (Int))->Int->Option (Int):=fun nx1 x4=>
 bif(decide (x4<((qag.rows x1).length:Int)))then(
 bnd (idx x1 x4) fun⟨x5,x6,x7,⟨x8,x9,⟨x10,x11,x12,x13,x14,x15⟩,x16,x17⟩⟩=>
 bif((qd0 x3 x5 (0:Int))==0)then(
 some (2:Int))
 else(
 bif(bif((qd0 x3 x5 (0:Int))==3)then true else(bif((qd0 x3 x5 (0:Int))==2)then(!(x7==([]:SS)))else false))then(
 some (3:Int))
 else(
 bif(x8 != 0)then(
 bnd (qbe n [qab.mk x8 x9 (Val.mk x10 x11 x12 x13 x14 x15) x16 x17] (3:Int) x2 x3) fun x18=>
 bif(x18 != 0)then(
 some x18)
 else(
 qgi n nx1 x4 ()))
 else(
 qgi n nx1 x4 ()))))
 else(
 some (0:Int))
def qiv (n:Nat) (x1:List qag) (x2:List SS) (x3:List (SS×Int)):Option (Int):=
 qap (qe9 n x1 x3 x2) n (0:Int)
theorem qwr (n:Nat):∀ (x1:List qag) (x2:List SS) (x3:List (SS×Int)) (r:Int),qiv n x1 x2 x3=some r->qau Tryz.prog 39 [.ptr 0 0,.p (PV.sl (qag.rows x1))] [.box 73 [.tsl 2 (qam x2),.mref 1],.mp .string (qbc PV.str (PV.int .i64) x3) none,.tail 9 1 (qam x2).length] 2 (fun v lo=>v=qyp x2 x3 r/\lo=qyg x2 x3 r):=by
 intro x1 x2 x3 r h;unfold qiv at h;refine qau.of_vc qa3 (fun _ _=>Tryz.call39 _ _) Tryz.func39 (by kernel_rfl) (inl:=[37,1000000]) (Nat.le_of_ble_eq_true rfl) ?_;conv=>whnf
 refine qby.fn [37,1000000] (S:=Int) (fun x4=>[(0,.ptr 0 0),(9,pU x1),(10,.p (.int .i64 ((qag.rows x1).length:Int))),(11,pI x4)]) (fun x4=>[.box 73 [.tsl 2 (qam x2),.mref 1],.mp .string (qbc PV.str (PV.int .i64) x3) none,.tail 9 1 (qam x2).length]) (B:=qe9 n x1 x3 x2) h (wk [0,1,2] []) ?_;intro nx1 x4 h;unfold qe9 at h;conv=>whnf
 refine ifc h (fun hc h=>?_) (fun hc h=>?_)
 ·conv=>whnf
  refine qje.cut (S:=Unit) (fun _=>[(0,.ptr 0 0),(9,pU x1),(10,.p (.int .i64 ((qag.rows x1).length:Int))),(11,pI x4)]) (fun _=>[.box 73 [.tsl 2 (qam x2),.mref 1],.mp .string (qbc PV.str (PV.int .i64) x3) none,.tail 9 1 (qam x2).length]) (qgi n nx1 x4) (r:=r) ?_ ?_
  ·intro _ h
   unfold qgi at h;conv=>whnf
   exact⟨(IntKind.i64.wrap (x4+1)),h,wk [0,1,2] []⟩
  ·conv=>whnf
   replace h:=qaa h;obtain⟨⟨x5,x6,x7,⟨x8,x9,⟨x10,x11,x12,x13,x14,x15⟩,x16,x17⟩⟩,h2,h⟩:=h;refine⟨_,Codec.at_ qi2 h2,?_⟩;conv=>whnf
   refine⟨PV.int .i64 (qd0 x3 x5 (0:Int)),(q4t x3 x5),⟨qtt qen (PV.int .i64) x3 x5 (0:Int),qtu qen (PV.int .i64) x3 x5⟩,?_⟩;conv=>whnf
   refine ifc h (fun hc h=>?_) (fun hc h=>?_)
   ·obtain rfl:=sj h
    conv=>whnf
    refine⟨_,_,⟨rfl,rfl⟩,wk [0,1,2] []⟩
   ·conv=>whnf
    refine⟨id,id,id,id,id,id,id,?_⟩;conv=>whnf
    refine ifc h (fun hc h=>?_) (fun hc h=>?_)
    ·obtain rfl:=sj h
     conv=>whnf
     refine⟨_,_,⟨rfl,rfl⟩,wk [0,1,2] []⟩
    ·conv=>whnf
     refine ifc h (fun hc h=>?_) (fun hc h=>?_)
     ·conv=>whnf
      refine⟨Codec.one qca [qab.mk x8 x9 (Val.mk x10 x11 x12 x13 x14 x15) x16 x17],qab.rows [qab.mk x8 x9 (Val.mk x10 x11 x12 x13 x14 x15) x16 x17],.inl rfl,?_⟩;conv=>whnf
      replace h:=qaa h;obtain⟨x18,h1,h⟩:=h;refine qcl (qd4 n _ _ _ _ _ h1) [0,1,2] [] ?_;rintro _ _ ⟨rfl,rfl⟩;refine⟨pI x18,[.box 73 [.tsl 4 (qam x2),.mref 1],.mp .string (qbc PV.str (PV.int .i64) x3) none,.dead,.box 69 [pS x5,pS x6,pS x7,pI x8,pS x9,pI x10,pB x11,pI x12,pS x13,pV x14,pT x15,pT x16,pE x17],.tail 9 1 (qam x2).length],rfl,rfl,?_⟩;conv=>whnf
      refine ifc h (fun hc h=>?_) (fun hc h=>?_)
      ·obtain rfl:=sj h
       conv=>whnf
       refine⟨_,_,⟨rfl,rfl⟩,wk [0,1,4] []⟩
      ·conv=>whnf
       exact⟨(),h,wk [0,1,4] []⟩
     ·conv=>whnf
      exact⟨(),h,wk [0,1,2] []⟩
 ·obtain rfl:=sj h
  conv=>whnf
  refine⟨_,_,⟨rfl,rfl⟩,wk [0,1,2] []⟩
abbrev qyk (x2:List SS) (x3:List (SS×Int)) (r:Int):FV:=pI r
abbrev qyb (x2:List SS) (x3:List (SS×Int)) (r:Int):List AObj:=[.box 73 [.tsl 2 (qam x2),.mref 1],.mp .string (qbc PV.str (PV.int .i64) x3) none,.tail 9 1 (qam x2).length]
def qe7 (n:Nat) (x1:List SS) (x3:List (SS×Int)):(Int->Option (Int))->Int->Option (Int):=fun nx1 x4=>
 bif(decide (x4<((qam x1).length:Int)))then(
 bnd (idx x1 x4) fun x5=>
 bif((qd0 x3 x5 (0:Int))==0)then(
 some (2:Int))
 else(
 bif((qd0 x3 x5 (0:Int))==3)then(
 some (3:Int))
 else(
 nx1 (IntKind.i64.wrap (x4+1)))))
 else(
 some (0:Int))
def qiq (n:Nat) (x1 x2:List SS) (x3:List (SS×Int)):Option (Int):=
 qap (qe7 n x1 x3) n (0:Int)
theorem qwm (n:Nat):∀ (x1 x2:List SS) (x3:List (SS×Int)) (r:Int),qiq n x1 x2 x3=some r->qau Tryz.prog 40 [.ptr 0 0,.p (PV.sl (qam x1))] [.box 73 [.tsl 2 (qam x2),.mref 1],.mp .string (qbc PV.str (PV.int .i64) x3) none,.tail 9 1 (qam x2).length] 2 (fun v lo=>v=qyk x2 x3 r/\lo=qyb x2 x3 r):=by
 intro x1 x2 x3 r h;unfold qiq at h;refine qau.of_vc qa3 (fun _ _=>Tryz.call40 _ _) Tryz.func40 (by kernel_rfl) (inl:=[1000000]) (Nat.le_of_ble_eq_true rfl) ?_;conv=>whnf
 refine qby.fn [1000000] (S:=Int) (fun x4=>[(0,.ptr 0 0),(7,pT x1),(8,.p (.int .i64 ((qam x1).length:Int))),(9,pI x4)]) (fun x4=>[.box 73 [.tsl 2 (qam x2),.mref 1],.mp .string (qbc PV.str (PV.int .i64) x3) none,.tail 9 1 (qam x2).length]) (B:=qe7 n x1 x3) h (wk [0,1,2] []) ?_;intro nx1 x4 h;unfold qe7 at h;conv=>whnf
 refine ifc h (fun hc h=>?_) (fun hc h=>?_)
 ·conv=>whnf
  replace h:=qaa h;obtain⟨x5,h1,h⟩:=h;refine⟨_,Codec.at_ qqt h1,?_⟩;conv=>whnf
  refine⟨PV.int .i64 (qd0 x3 x5 (0:Int)),(q4t x3 x5),⟨qtt qen (PV.int .i64) x3 x5 (0:Int),qtu qen (PV.int .i64) x3 x5⟩,?_⟩;conv=>whnf
  refine ifc h (fun hc h=>?_) (fun hc h=>?_)
  ·obtain rfl:=sj h
   conv=>whnf
   refine⟨_,_,⟨rfl,rfl⟩,wk [0,1,2] []⟩
  ·conv=>whnf
   refine ifc h (fun hc h=>?_) (fun hc h=>?_)
   ·obtain rfl:=sj h
    conv=>whnf
    refine⟨_,_,⟨rfl,rfl⟩,wk [0,1,2] []⟩
   ·conv=>whnf
    exact⟨(IntKind.i64.wrap (x4+1)),h,wk [0,1,2] []⟩
 ·obtain rfl:=sj h
  conv=>whnf
  refine⟨_,_,⟨rfl,rfl⟩,wk [0,1,2] []⟩
abbrev qym (x11:List SS) (x12:List (SS×Int)) (r:Int×Int):FV:=.p (.tup [.int .i64 r.1,.int .i64 r.2])
abbrev qyd (x11:List SS) (x12:List (SS×Int)) (r:Int×Int):List AObj:=[.box 73 [.tsl 2 (qam x11),.mref 1],.mp .string (qbc PV.str (PV.int .i64) x12) none,.tail 9 1 (qam x11).length]
def qgh (n:Nat) (x10:List qab) (x11:List SS) (x12:List (SS×Int)):Int->Option (Int×Int):=fun x15=>
 bnd (qbe n x10 x15 x11 x12) fun x16=>
 bif(x16 != 0)then(
 some ((0:Int),x16))
 else(
 some ((3:Int),(0:Int)))
def qis (n:Nat) (a0z:qab) (x11:List SS) (x12:List (SS×Int)):Option (Int×Int):=
 match a0z with
 | ⟨x1,x2,⟨x3,x4,x5,x6,x7,x8⟩,x9,x10⟩=>
 bif(x1 != 14)then(
 bnd (qct n (qab.mk x1 x2 (Val.mk x3 x4 x5 x6 x7 x8) x9 x10) x11 x12) fun⟨x13,x14⟩=>
 some (x13,x14))
 else(
 bif(x2==([99,111,117,110,116]:SS))then(
 qgh n x10 x11 x12 (0:Int))
 else(
 qgh n x10 x11 x12 (3:Int)))
theorem qwp (n:Nat):∀ (a0z:qab) (x11:List SS) (x12:List (SS×Int)) (r:Int×Int),qis n a0z x11 x12=some r->qau Tryz.prog 84 [.ptr 0 0,.p (PV.agg (qca.cells a0z))] [.box 73 [.tsl 2 (qam x11),.mref 1],.mp .string (qbc PV.str (PV.int .i64) x12) none,.tail 9 1 (qam x11).length] 2 (fun v lo=>v=qym x11 x12 r/\lo=qyd x11 x12 r):=by
 intro a0z x11 x12 r h;obtain⟨x1,x2,⟨x3,x4,x5,x6,x7,x8⟩,x9,x10⟩:=a0z;unfold qis at h;refine qau.of_vc qa3 (fun _ _=>Tryz.call84 _ _) Tryz.func84 (by kernel_rfl) (inl:=[37,83,1000000]) (Nat.le_of_ble_eq_true rfl) ?_;conv=>whnf
 refine ifc h (fun hc h=>?_) (fun hc h=>?_)
 ·conv=>whnf
  replace h:=qaa h;obtain⟨⟨x13,x14⟩,h1,h⟩:=h;refine qcl (qwo n _ _ _ _ h1) [0,1,2] [] ?_;rintro _ _ ⟨rfl,rfl⟩;refine⟨.p (.tup [.int .i64 x13,.int .i64 x14]),[.box 73 [.tsl 4 (qam x11),.mref 1],.mp .string (qbc PV.str (PV.int .i64) x12) none,.dead,.box 47 [pI x1,pS x2,pI x3,pB x4,pI x5,pS x6,pV x7,pT x8,pT x9,pE x10],.tail 9 1 (qam x11).length],rfl,rfl,?_⟩;obtain rfl:=sj h;conv=>whnf
  refine⟨_,_,⟨rfl,rfl⟩,wk [0,1,4] []⟩
 ·conv=>whnf
  refine qje.cut (S:=Int) (fun x15=>[(0,.ptr 0 0),(3,.ptr 2 0),(6,pI x15)]) (fun x15=>[.box 73 [.tsl 3 (qam x11),.mref 1],.mp .string (qbc PV.str (PV.int .i64) x12) none,.box 47 [pI x1,pS x2,pI x3,pB x4,pI x5,pS x6,pV x7,pT x8,pT x9,pE x10],.tail 9 1 (qam x11).length]) (qgh n x10 x11 x12) (r:=r) ?_ ?_
  ·intro x15 h
   unfold qgh at h;conv=>whnf
   replace h:=qaa h;obtain⟨x16,h2,h⟩:=h;refine qcl (qd4 n _ _ _ _ _ h2) [0,1,3] [] ?_;rintro _ _ ⟨rfl,rfl⟩;refine⟨pI x16,[.box 73 [.tsl 4 (qam x11),.mref 1],.mp .string (qbc PV.str (PV.int .i64) x12) none,.box 47 [pI x1,pS x2,pI x3,pB x4,pI x5,pS x6,pV x7,pT x8,pT x9,pE x10],.dead,.tail 9 1 (qam x11).length],rfl,rfl,?_⟩;conv=>whnf
   refine ifc h (fun hc h=>?_) (fun hc h=>?_)
   ·obtain rfl:=sj h
    conv=>whnf
    refine⟨_,_,⟨rfl,rfl⟩,wk [0,1,4] []⟩
   ·obtain rfl:=sj h
    conv=>whnf
    refine⟨_,_,⟨rfl,rfl⟩,wk [0,1,4] []⟩
  ·conv=>whnf
   refine ifc h (fun hc h=>?_) (fun hc h=>?_)
   ·conv=>whnf
    exact⟨(0:Int),h,wk [0,1,3,2] []⟩
   ·conv=>whnf
    exact⟨(3:Int),h,wk [0,1,3,2] []⟩
inductive qat where
 | o0 (a0:Int)
 | o1 (a0:Int) (a1:List SS) (a2:List (SS×Int))
abbrev qyo (x23:List SS) (x24:List (SS×Int)) (r:qat):FV:=match r with
 | .o0 a0=>.p (.tup [.nilp,.int .i64 a0])
 | .o1 a0 a1 a2=>.pair (.ptr 3 0) (pI a0)
abbrev qyf (x23:List SS) (x24:List (SS×Int)) (r:qat):List AObj:=match r with
 | .o0 a0=>[.box 73 [.tsl 2 (qam x23),.mref 1],.mp .string (qbc PV.str (PV.int .i64) x24) none,.tail 9 1 (qam x23).length]
 | .o1 a0 a1 a2=>[.box 73 [.tsl 2 (qam x23),.mref 1],.mp .string (qbc PV.str (PV.int .i64) x24) none,.tail 9 1 (qam x23).length,.box 73 [.tsl 5 (qam a1),.mref 4],.mp .string (qbc PV.str (PV.int .i64) a2) none,.tail 9 1 (qam a1).length]
def qdr (n:Nat) (x18 x19 x3:List qab) (x26:List SS) (x27:List (SS×Int)):(Int×List SS->Option (qat))->Int×List SS->Option (qat):=fun nx3 (x56,x57)=>
 bif(decide (x56<(((q84 qca [x18,x19]).length:Nat):Int)))then(
 bnd (idx [x18,x19] x56) fun x58=>
 bnd (qbe n x58 (3:Int) x57 ([]:List (SS×Int))) fun x59=>
 bif(x59 != 0)then(
 some (qat.o0 x59))
 else(
 nx3 ((IntKind.i64.wrap (x56+1)),x57)))
 else(
 bnd (qbe n x3 (3:Int) x26 x27) fun x60=>
 some (qat.o1 x60 x26 x27))
def qc3 (n:Nat) (x17:List qar) (x26:List SS) (x27:List (SS×Int)) (x18 x19 x3:List qab):(Int->Option (qat))->Int->Option (qat):=fun nx2 x43=>
 bif(decide (x43<((qar.rows x17).length:Int)))then(
 bnd (idx x17 x43) fun⟨⟨x44,x45,⟨x46,x47,x48,x49,x50,x51⟩,x52,x53⟩,x54⟩=>
 bnd (qbe n [qab.mk x44 x45 (Val.mk x46 x47 x48 x49 x50 x51) x52 x53] (3:Int) x26 x27) fun x55=>
 bif(x55 != 0)then(
 some (qat.o0 x55))
 else(
 nx2 (IntKind.i64.wrap (x43+1))))
 else(
 qap (qdr n x18 x19 x3 x26 x27) n ((0:Int),([]:List _)))
def qee (n:Nat) (x15:List qbh) (x23:List SS) (x24:List (SS×Int)) (x1:Int) (x17:List qar) (x18 x19 x3:List qab):(Int×List SS×List (SS×Int)->Option (qat))->Int×List SS×List (SS×Int)->Option (qat):=fun nx1 (x25,x26,x27)=>
 bif(decide (x25<((qbh.rows x15).length:Int)))then(
 bnd (idx x15 x25) fun⟨⟨x28,x29,⟨x30,x31,x32,x33,x34,x35⟩,x36,x37⟩,x38⟩=>
 bnd (qis n (qab.mk x28 x29 (Val.mk x30 x31 x32 x33 x34 x35) x36 x37) x23 x24) fun⟨x39,x40⟩=>
 bif(x40 != 0)then(
 some (qat.o0 x40))
 else(
 bif(bif(x1==9)then(x39 != 3)else false)then(
 some (qat.o0 (3:Int)))
 else(
 bif((qd0 x27 x38 (0:Int)) != 0)then(
 some (qat.o0 (2:Int)))
 else(
 bnd (qc0 n x38 x39 x26 x27) fun⟨x41,x42⟩=>
 nx1 ((IntKind.i64.wrap (x25+1)),x41,x42)))))
 else(
 qap (qc3 n x17 x26 x27 x18 x19 x3) n (0:Int))
def qiu (n:Nat) (a0z:qad) (x23:List SS) (x24:List (SS×Int)):Option (qat):=
 match a0z with
 | ⟨x1,x2,x3,⟨x4,x5,⟨x6,x7,x8,x9,x10,x11⟩,x12,x13⟩,x14,x15,x16,x17,x18,x19,x20,x21,x22⟩=>
 qap (qee n x15 x23 x24 x1 x17 x18 x19 x3) n ((0:Int),([]:List _),([]:List (SS×Int)))
set_option maxHeartbeats 4000000 in
theorem qrv (n:Nat):∀ (a0z:qad) (x23:List SS) (x24:List (SS×Int)) (r:qat),qiu n a0z x23 x24=some r->qau Tryz.prog 41 [.ptr 0 0,.p (PV.agg (qcw.cells a0z))] [.box 73 [.tsl 2 (qam x23),.mref 1],.mp .string (qbc PV.str (PV.int .i64) x24) none,.tail 9 1 (qam x23).length] 2 (fun v lo=>v=qyo x23 x24 r/\lo=qyf x23 x24 r):=by
 intro a0z x23 x24 r h;obtain⟨x1,x2,x3,⟨x4,x5,⟨x6,x7,x8,x9,x10,x11⟩,x12,x13⟩,x14,x15,x16,x17,x18,x19,x20,x21,x22⟩:=a0z;unfold qiu at h;refine qau.of_vc qa3 (fun _ _=>Tryz.call41 _ _) Tryz.func41 (by kernel_rfl) (inl:=[37,38,84,1000000]) (Nat.le_of_ble_eq_true rfl) ?_;conv=>whnf
 refine qby.fn [37,38,84,1000000] (S:=Int×List SS×List (SS×Int)) (fun(x25,x26,x27)=>[(0,.ptr 0 0),(3,.ptr 2 0),(6,.ptr 3 0),(22,pA x15),(23,.p (.int .i64 ((qbh.rows x15).length:Int))),(24,pI x25)]) (fun(x25,x26,x27)=>[.box 73 [.tsl 4 (qam x23),.mref 1],.mp .string (qbc PV.str (PV.int .i64) x24) none,.box 55 [pI x1,pP x2,pE x3,pI x4,pS x5,pI x6,pB x7,pI x8,pS x9,pV x10,pT x11,pT x12,pE x13,pS x14,pA x15,pB x16,pO x17,pE x18,pE x19,pU x20,pT x21,pB x22],.box 73 [.tsl 6 (qam x26),.mref 5],.tail 9 1 (qam x23).length,.mp .string (qbc PV.str (PV.int .i64) x27) none,.tail 9 1 (qam x26).length]) (B:=qee n x15 x23 x24 x1 x17 x18 x19 x3) h (wk [0,1,3,5,2,4,0] [6]) ?_;intro nx1 st h;obtain⟨x25,x26,x27⟩:=st;unfold qee at h;conv=>whnf
 refine ifc h (fun hc h=>?_) (fun hc h=>?_)
 ·conv=>whnf
  replace h:=qaa h;obtain⟨⟨⟨x28,x29,⟨x30,x31,x32,x33,x34,x35⟩,x36,x37⟩,x38⟩,h3,h⟩:=h;refine⟨_,Codec.at_ qtc h3,?_⟩;conv=>whnf
  replace h:=qaa h;obtain⟨⟨x39,x40⟩,h1,h⟩:=h;refine qcl (qwp n _ _ _ _ h1) [0,1,4] [] ?_;rintro _ _ ⟨rfl,rfl⟩;refine⟨.p (.tup [.int .i64 x39,.int .i64 x40]),[.box 73 [.tsl 8 (qam x23),.mref 1],.mp .string (qbc PV.str (PV.int .i64) x24) none,.box 55 [pI x1,pP x2,pE x3,pI x4,pS x5,pI x6,pB x7,pI x8,pS x9,pV x10,pT x11,pT x12,pE x13,pS x14,pA x15,pB x16,pO x17,pE x18,pE x19,pU x20,pT x21,pB x22],.box 73 [.tsl 6 (qam x26),.mref 5],.dead,.mp .string (qbc PV.str (PV.int .i64) x27) none,.tail 9 1 (qam x26).length,.box 49 [pI x28,pS x29,pI x30,pB x31,pI x32,pS x33,pV x34,pT x35,pT x36,pE x37,pS x38],.tail 9 1 (qam x23).length],rfl,rfl,?_⟩;conv=>whnf
  refine ifc h (fun hc h=>?_) (fun hc h=>?_)
  ·obtain rfl:=sj h
   conv=>whnf
   refine⟨_,_,⟨rfl,rfl⟩,wk [0,1,8] []⟩
  ·conv=>whnf
   refine⟨id,id,?_⟩;conv=>whnf
   refine ifc h (fun hc h=>?_) (fun hc h=>?_)
   ·obtain rfl:=sj h
    conv=>whnf
    refine⟨_,_,⟨rfl,rfl⟩,wk [0,1,8] []⟩
   ·conv=>whnf
    refine⟨PV.int .i64 (qd0 x27 x38 (0:Int)),(q4t x27 x38),⟨qtt qen (PV.int .i64) x27 x38 (0:Int),qtu qen (PV.int .i64) x27 x38⟩,?_⟩;conv=>whnf
    refine ifc h (fun hc h=>?_) (fun hc h=>?_)
    ·obtain rfl:=sj h
     conv=>whnf
     refine⟨_,_,⟨rfl,rfl⟩,wk [0,1,8] []⟩
    ·conv=>whnf
     replace h:=qaa h;obtain⟨⟨x41,x42⟩,h2,h⟩:=h;refine qcl (qge n _ _ _ _ _ h2) [3,5,6] [] ?_;rintro _ _ ⟨rfl,rfl⟩;refine⟨.p (.tup []),[.box 73 [.tsl 8 (qam x23),.mref 1],.mp .string (qbc PV.str (PV.int .i64) x24) none,.box 55 [pI x1,pP x2,pE x3,pI x4,pS x5,pI x6,pB x7,pI x8,pS x9,pV x10,pT x11,pT x12,pE x13,pS x14,pA x15,pB x16,pO x17,pE x18,pE x19,pU x20,pT x21,pB x22],.box 73 [.tsl 9 (qam x41),.mref 5],.dead,.mp .string (qbc PV.str (PV.int .i64) x42) none,.dead,.box 49 [pI x28,pS x29,pI x30,pB x31,pI x32,pS x33,pV x34,pT x35,pT x36,pE x37,pS x38],.tail 9 1 (qam x23).length,.tail 9 1 (qam x41).length],rfl,rfl,?_⟩;conv=>whnf
     exact⟨((IntKind.i64.wrap (x25+1)),x41,x42),h,wk [0,1,2,3,8,5,9] []⟩
 ·conv=>whnf
  refine qby.fn [37,38,84,1000000] (S:=Int) (fun x43=>[(3,.ptr 2 0),(6,.ptr 3 0),(63,pO x17),(64,.p (.int .i64 ((qar.rows x17).length:Int))),(65,pI x43)]) (fun x43=>[.box 73 [.tsl 4 (qam x23),.mref 1],.mp .string (qbc PV.str (PV.int .i64) x24) none,.box 55 [pI x1,pP x2,pE x3,pI x4,pS x5,pI x6,pB x7,pI x8,pS x9,pV x10,pT x11,pT x12,pE x13,pS x14,pA x15,pB x16,pO x17,pE x18,pE x19,pU x20,pT x21,pB x22],.box 73 [.tsl 5 (qam x26),.mref 6],.tail 9 1 (qam x23).length,.tail 9 1 (qam x26).length,.mp .string (qbc PV.str (PV.int .i64) x27) none]) (B:=qc3 n x17 x26 x27 x18 x19 x3) h (wk [0,1,2,3,4,6,5] []) ?_;intro nx2 x43 h;unfold qc3 at h;conv=>whnf
  refine ifc h (fun hc h=>?_) (fun hc h=>?_)
  ·conv=>whnf
   replace h:=qaa h;obtain⟨⟨⟨x44,x45,⟨x46,x47,x48,x49,x50,x51⟩,x52,x53⟩,x54⟩,h5,h⟩:=h;refine⟨_,Codec.at_ qpz h5,?_⟩;conv=>whnf
   refine⟨Codec.one qca [qab.mk x44 x45 (Val.mk x46 x47 x48 x49 x50 x51) x52 x53],qab.rows [qab.mk x44 x45 (Val.mk x46 x47 x48 x49 x50 x51) x52 x53],.inl rfl,?_⟩;conv=>whnf
   replace h:=qaa h;obtain⟨x55,h4,h⟩:=h;refine qcl (qd4 n _ _ _ _ _ h4) [3,6,5] [] ?_;rintro _ _ ⟨rfl,rfl⟩;refine⟨pI x55,[.box 73 [.tsl 4 (qam x23),.mref 1],.mp .string (qbc PV.str (PV.int .i64) x24) none,.box 55 [pI x1,pP x2,pE x3,pI x4,pS x5,pI x6,pB x7,pI x8,pS x9,pV x10,pT x11,pT x12,pE x13,pS x14,pA x15,pB x16,pO x17,pE x18,pE x19,pU x20,pT x21,pB x22],.box 73 [.tsl 8 (qam x26),.mref 6],.tail 9 1 (qam x23).length,.dead,.mp .string (qbc PV.str (PV.int .i64) x27) none,.box 67 [pI x44,pS x45,pI x46,pB x47,pI x48,pS x49,pV x50,pT x51,pT x52,pE x53,pB x54],.tail 9 1 (qam x26).length],rfl,rfl,?_⟩;conv=>whnf
   refine ifc h (fun hc h=>?_) (fun hc h=>?_)
   ·obtain rfl:=sj h
    conv=>whnf
    refine⟨_,_,⟨rfl,rfl⟩,wk [0,1,4] []⟩
   ·conv=>whnf
    exact⟨(IntKind.i64.wrap (x43+1)),h,wk [0,1,2,3,4,8,6] []⟩
  ·conv=>whnf
   refine⟨Codec.one (slC qca) [x18,x19],q84 qca [x18,x19],.inl rfl,?_⟩;conv=>whnf
   refine qby.fn [37,38,84,1000000] (S:=Int×List SS) (fun(x56,x57)=>[(3,.ptr 2 0),(6,.ptr 3 0),(14,.ptr 4 0),(85,.p (.sl (q84 qca [x18,x19]))),(86,.p (.int .i64 (((q84 qca [x18,x19]).length:Nat):Int))),(87,pI x56)]) (fun(x56,x57)=>[.box 73 [.tsl 5 (qam x23),.mref 1],.mp .string (qbc PV.str (PV.int .i64) x24) none,.box 55 [pI x1,pP x2,pE x3,pI x4,pS x5,pI x6,pB x7,pI x8,pS x9,pV x10,pT x11,pT x12,pE x13,pS x14,pA x15,pB x16,pO x17,pE x18,pE x19,pU x20,pT x21,pB x22],.box 73 [.tsl 6 (qam x26),.mref 7],.box 73 [.tsl 9 (qam x57),.mref 8],.tail 9 1 (qam x23).length,.tail 9 1 (qam x26).length,.mp .string (qbc PV.str (PV.int .i64) x27) none,.mp .string (qbc PV.str (PV.int .i64) ([]:List (SS×Int))) none,.tail 9 1 (qam x57).length]) (B:=qdr n x18 x19 x3 x26 x27) h (wk [0,1,2,3,8,4,5,6,7,0] [9]) ?_;intro nx3 st h;obtain⟨x56,x57⟩:=st;unfold qdr at h;conv=>whnf
   refine ifc h (fun hc h=>?_) (fun hc h=>?_)
   ·conv=>whnf
    replace h:=qaa h;obtain⟨x58,h7,h⟩:=h;refine⟨_,Codec.at_ (slC qca) h7,?_⟩;conv=>whnf
    replace h:=qaa h;obtain⟨x59,h6,h⟩:=h;refine qcl (qd4 n _ _ _ _ _ h6) [4,8,9] [] ?_;rintro _ _ ⟨rfl,rfl⟩;refine⟨pI x59,[.box 73 [.tsl 5 (qam x23),.mref 1],.mp .string (qbc PV.str (PV.int .i64) x24) none,.box 55 [pI x1,pP x2,pE x3,pI x4,pS x5,pI x6,pB x7,pI x8,pS x9,pV x10,pT x11,pT x12,pE x13,pS x14,pA x15,pB x16,pO x17,pE x18,pE x19,pU x20,pT x21,pB x22],.box 73 [.tsl 6 (qam x26),.mref 7],.box 73 [.tsl 10 (qam x57),.mref 8],.tail 9 1 (qam x23).length,.tail 9 1 (qam x26).length,.mp .string (qbc PV.str (PV.int .i64) x27) none,.mp .string (qbc PV.str (PV.int .i64) ([]:List (SS×Int))) none,.dead,.tail 9 1 (qam x57).length],rfl,rfl,?_⟩;conv=>whnf
    refine ifc h (fun hc h=>?_) (fun hc h=>?_)
    ·obtain rfl:=sj h
     conv=>whnf
     refine⟨_,_,⟨rfl,rfl⟩,wk [0,1,5] []⟩
    ·conv=>whnf
     exact⟨((IntKind.i64.wrap (x56+1)),x57),h,wk [0,1,2,3,4,5,6,7,8,10] []⟩
   ·conv=>whnf
    replace h:=qaa h;obtain⟨x60,h8,h⟩:=h;refine qcl (qd4 n _ _ _ _ _ h8) [3,7,6] [] ?_;rintro _ _ ⟨rfl,rfl⟩;refine⟨pI x60,[.box 73 [.tsl 5 (qam x23),.mref 1],.mp .string (qbc PV.str (PV.int .i64) x24) none,.box 55 [pI x1,pP x2,pE x3,pI x4,pS x5,pI x6,pB x7,pI x8,pS x9,pV x10,pT x11,pT x12,pE x13,pS x14,pA x15,pB x16,pO x17,pE x18,pE x19,pU x20,pT x21,pB x22],.box 73 [.tsl 10 (qam x26),.mref 7],.box 73 [.tsl 9 (qam x57),.mref 8],.tail 9 1 (qam x23).length,.dead,.mp .string (qbc PV.str (PV.int .i64) x27) none,.mp .string (qbc PV.str (PV.int .i64) ([]:List (SS×Int))) none,.tail 9 1 (qam x57).length,.tail 9 1 (qam x26).length],rfl,rfl,?_⟩;obtain rfl:=sj h;conv=>whnf
    refine⟨_,_,⟨rfl,rfl⟩,wk [0,1,5,3,7,10] []⟩
inductive qav where
 | o0 (a0:Int) (a1:List SS) (a2:List (SS×Int))
 | o1 (a0:Int) (a1:List SS) (a2:List (SS×Int))
 | o2 (a0:Int) (a1:List SS) (a2:List (SS×Int)) (a3:List SS) (a4:List (SS×Int))
abbrev qv9 (x23:List SS) (x24:List (SS×Int)) (r:qav):FV:=match r with
 | .o0 a0 a1 a2=>.p (.tup [.nilp,.int .i64 a0])
 | .o1 a0 a1 a2=>.pair (.ptr 0 0) (pI a0)
 | .o2 a0 a1 a2 a3 a4=>.pair (.ptr 3 0) (pI a0)
abbrev qv8 (x23:List SS) (x24:List (SS×Int)) (r:qav):List AObj:=match r with
 | .o0 a0 a1 a2=>[.box 73 [.tsl 2 (qam a1),.mref 1],.mp .string (qbc PV.str (PV.int .i64) a2) none,.tail 9 1 (qam a1).length]
 | .o1 a0 a1 a2=>[.box 73 [.tsl 2 (qam a1),.mref 1],.mp .string (qbc PV.str (PV.int .i64) a2) none,.tail 9 1 (qam a1).length]
 | .o2 a0 a1 a2 a3 a4=>[.box 73 [.tsl 2 (qam a1),.mref 1],.mp .string (qbc PV.str (PV.int .i64) a2) none,.tail 9 1 (qam a1).length,.box 73 [.tsl 5 (qam a3),.mref 4],.mp .string (qbc PV.str (PV.int .i64) a4) none,.tail 9 1 (qam a3).length]
def qfh (n:Nat) (x20:List qag) (x23:List SS) (x24:List (SS×Int)) (x1:Int) (x21:List SS) (x2:List qa9) (x3:List qab) (x4:Int) (x5:SS) (x6:Int) (x7:Bool) (x8:Int) (x9:SS) (x10:List Val) (x11 x12:List SS) (x13:List qab) (x14:SS) (x15:List qbh) (x16:Bool) (x17:List qar) (x18 x19:List qab) (x22:Bool):Bool->Option (qav):=fun x44=>
 bif x44 then(
 bnd (qiv n x20 x23 x24) fun x45=>
 some (qav.o1 x45 x23 x24))
 else(
 bif(x1==8)then(
 bnd (qiq n x21 x23 x24) fun x46=>
 some (qav.o1 x46 x23 x24))
 else(
 bnd (qiu n (qad.mk x1 x2 x3 (qab.mk x4 x5 (Val.mk x6 x7 x8 x9 x10 x11) x12 x13) x14 x15 x16 x17 x18 x19 x20 x21 x22) x23 x24) fun x47=>
 match x47 with
 | .o0 x48=>(
 some (qav.o0 x48 x23 x24))
 | .o1 x49 x50 x51=>(
 some (qav.o2 x49 x23 x24 x50 x51))))
def qg7 (n:Nat) (a0z:qad) (x23:List SS) (x24:List (SS×Int)):Option (qav):=
 match a0z with
 | ⟨x1,x2,x3,⟨x4,x5,⟨x6,x7,x8,x9,x10,x11⟩,x12,x13⟩,x14,x15,x16,x17,x18,x19,x20,x21,x22⟩=>
 bif(x1==1)then(
 bnd (qe1 n x2 false x23 x24) fun⟨x25,x26,x27⟩=>
 bif(x25 != 0)then(
 some (qav.o0 x25 x26 x27))
 else(
 bnd (qbe n x3 (3:Int) x26 x27) fun x28=>
 some (qav.o1 x28 x26 x27)))
 else(
 bif(x1==2)then(
 bnd (qbe n [qab.mk x4 x5 (Val.mk x6 x7 x8 x9 x10 x11) x12 x13] (3:Int) x23 x24) fun x29=>
 bif(x29 != 0)then(
 some (qav.o0 x29 x23 x24))
 else(
 bif((qd0 x24 x14 (0:Int)) != 0)then(
 some (qav.o0 (2:Int) x23 x24))
 else(
 bnd (qc0 n x14 (3:Int) x23 x24) fun⟨x30,x31⟩=>
 some (qav.o1 (0:Int) x30 x31))))
 else(
 bif(x1==4)then(
 bnd (qe1 n x2 true x23 x24) fun⟨x32,x33,x34⟩=>
 some (qav.o1 x32 x33 x34))
 else(
 bif(x1==5)then(
 bnd (idx x2 (0:Int)) fun⟨x35,x36⟩=>
 bnd (idx x35 (0:Int)) fun⟨x37,x38,x39,x40⟩=>
 bif((qd0 x24 x37 (0:Int)) != 0)then(
 some (qav.o0 (2:Int) x23 x24))
 else(
 bnd (qe1 n x2 true x23 x24) fun⟨x41,x42,x43⟩=>
 some (qav.o1 x41 x42 x43)))
 else(
 bif(x1==6)then(
 qfh n x20 x23 x24 x1 x21 x2 x3 x4 x5 x6 x7 x8 x9 x10 x11 x12 x13 x14 x15 x16 x17 x18 x19 x22 (x1==6))
 else(
 qfh n x20 x23 x24 x1 x21 x2 x3 x4 x5 x6 x7 x8 x9 x10 x11 x12 x13 x14 x15 x16 x17 x18 x19 x22 (x1==7))))))
set_option maxHeartbeats 4000000 in
theorem qky (n:Nat):∀ (a0z:qad) (x23:List SS) (x24:List (SS×Int)) (r:qav),qg7 n a0z x23 x24=some r->qau Tryz.prog 23 [.ptr 0 0,.p (PV.agg (qcw.cells a0z))] [.box 73 [.tsl 2 (qam x23),.mref 1],.mp .string (qbc PV.str (PV.int .i64) x24) none,.tail 9 1 (qam x23).length] 2 (fun v lo=>v=qv9 x23 x24 r/\lo=qv8 x23 x24 r):=by
 intro a0z x23 x24 r h;obtain⟨x1,x2,x3,⟨x4,x5,⟨x6,x7,x8,x9,x10,x11⟩,x12,x13⟩,x14,x15,x16,x17,x18,x19,x20,x21,x22⟩:=a0z;unfold qg7 at h;refine qau.of_vc qa3 (fun _ _=>Tryz.call23 _ _) Tryz.func23 (by kernel_rfl) (inl:=[36,37,38,39,40,41,1000000]) (Nat.le_of_ble_eq_true rfl) ?_;conv=>whnf
 refine ifc h (fun hc h=>?_) (fun hc h=>?_)
 ·conv=>whnf
  replace h:=qaa h;obtain⟨⟨x25,x26,x27⟩,h1,h⟩:=h;refine qcl (ql8 n _ _ _ _ _ h1) [0,1,2] [] ?_;rintro _ _ ⟨rfl,rfl⟩;refine⟨pI x25,[.box 73 [.tsl 4 (qam x26),.mref 1],.mp .string (qbc PV.str (PV.int .i64) x27) none,.dead,.box 55 [pI x1,pP x2,pE x3,pI x4,pS x5,pI x6,pB x7,pI x8,pS x9,pV x10,pT x11,pT x12,pE x13,pS x14,pA x15,pB x16,pO x17,pE x18,pE x19,pU x20,pT x21,pB x22],.tail 9 1 (qam x26).length],rfl,rfl,?_⟩;conv=>whnf
  refine ifc h (fun hc h=>?_) (fun hc h=>?_)
  ·obtain rfl:=sj h
   conv=>whnf
   refine⟨_,_,⟨rfl,rfl⟩,wk [0,1,4] []⟩
  ·conv=>whnf
   replace h:=qaa h;obtain⟨x28,h2,h⟩:=h;refine qcl (qd4 n _ _ _ _ _ h2) [0,1,4] [] ?_;rintro _ _ ⟨rfl,rfl⟩;refine⟨pI x28,[.box 73 [.tsl 5 (qam x26),.mref 1],.mp .string (qbc PV.str (PV.int .i64) x27) none,.dead,.box 55 [pI x1,pP x2,pE x3,pI x4,pS x5,pI x6,pB x7,pI x8,pS x9,pV x10,pT x11,pT x12,pE x13,pS x14,pA x15,pB x16,pO x17,pE x18,pE x19,pU x20,pT x21,pB x22],.dead,.tail 9 1 (qam x26).length],rfl,rfl,?_⟩;obtain rfl:=sj h;conv=>whnf
   refine⟨_,_,⟨rfl,rfl⟩,wk [0,1,5] []⟩
 ·conv=>whnf
  refine ifc h (fun hc h=>?_) (fun hc h=>?_)
  ·conv=>whnf
   refine⟨Codec.one qca [qab.mk x4 x5 (Val.mk x6 x7 x8 x9 x10 x11) x12 x13],qab.rows [qab.mk x4 x5 (Val.mk x6 x7 x8 x9 x10 x11) x12 x13],.inl rfl,?_⟩;conv=>whnf
   replace h:=qaa h;obtain⟨x29,h3,h⟩:=h;refine qcl (qd4 n _ _ _ _ _ h3) [0,1,2] [] ?_;rintro _ _ ⟨rfl,rfl⟩;refine⟨pI x29,[.box 73 [.tsl 4 (qam x23),.mref 1],.mp .string (qbc PV.str (PV.int .i64) x24) none,.dead,.box 55 [pI x1,pP x2,pE x3,pI x4,pS x5,pI x6,pB x7,pI x8,pS x9,pV x10,pT x11,pT x12,pE x13,pS x14,pA x15,pB x16,pO x17,pE x18,pE x19,pU x20,pT x21,pB x22],.tail 9 1 (qam x23).length],rfl,rfl,?_⟩;conv=>whnf
   refine ifc h (fun hc h=>?_) (fun hc h=>?_)
   ·obtain rfl:=sj h
    conv=>whnf
    refine⟨_,_,⟨rfl,rfl⟩,wk [0,1,4] []⟩
   ·conv=>whnf
    refine⟨PV.int .i64 (qd0 x24 x14 (0:Int)),(q4t x24 x14),⟨qtt qen (PV.int .i64) x24 x14 (0:Int),qtu qen (PV.int .i64) x24 x14⟩,?_⟩;conv=>whnf
    refine ifc h (fun hc h=>?_) (fun hc h=>?_)
    ·obtain rfl:=sj h
     conv=>whnf
     refine⟨_,_,⟨rfl,rfl⟩,wk [0,1,4] []⟩
    ·conv=>whnf
     replace h:=qaa h;obtain⟨⟨x30,x31⟩,h4,h⟩:=h;refine qcl (qge n _ _ _ _ _ h4) [0,1,4] [] ?_;rintro _ _ ⟨rfl,rfl⟩;refine⟨.p (.tup []),[.box 73 [.tsl 5 (qam x30),.mref 1],.mp .string (qbc PV.str (PV.int .i64) x31) none,.dead,.box 55 [pI x1,pP x2,pE x3,pI x4,pS x5,pI x6,pB x7,pI x8,pS x9,pV x10,pT x11,pT x12,pE x13,pS x14,pA x15,pB x16,pO x17,pE x18,pE x19,pU x20,pT x21,pB x22],.dead,.tail 9 1 (qam x30).length],rfl,rfl,?_⟩;obtain rfl:=sj h;conv=>whnf
     refine⟨_,_,⟨rfl,rfl⟩,wk [0,1,5] []⟩
  ·conv=>whnf
   refine ifc h (fun hc h=>?_) (fun hc h=>?_)
   ·conv=>whnf
    replace h:=qaa h;obtain⟨⟨x32,x33,x34⟩,h5,h⟩:=h;refine qcl (ql8 n _ _ _ _ _ h5) [0,1,2] [] ?_;rintro _ _ ⟨rfl,rfl⟩;refine⟨pI x32,[.box 73 [.tsl 4 (qam x33),.mref 1],.mp .string (qbc PV.str (PV.int .i64) x34) none,.dead,.box 55 [pI x1,pP x2,pE x3,pI x4,pS x5,pI x6,pB x7,pI x8,pS x9,pV x10,pT x11,pT x12,pE x13,pS x14,pA x15,pB x16,pO x17,pE x18,pE x19,pU x20,pT x21,pB x22],.tail 9 1 (qam x33).length],rfl,rfl,?_⟩;obtain rfl:=sj h;conv=>whnf
    refine⟨_,_,⟨rfl,rfl⟩,wk [0,1,4] []⟩
   ·conv=>whnf
    refine ifc h (fun hc h=>?_) (fun hc h=>?_)
    ·conv=>whnf
     replace h:=qaa h;obtain⟨⟨x35,x36⟩,h8,h⟩:=h;refine⟨_,Codec.at_ qoa h8,?_⟩;conv=>whnf
     replace h:=qaa h;obtain⟨⟨x37,x38,x39,x40⟩,h7,h⟩:=h;refine⟨_,Codec.at_ qeq h7,?_⟩;conv=>whnf
     refine⟨PV.int .i64 (qd0 x24 x37 (0:Int)),(q4t x24 x37),⟨qtt qen (PV.int .i64) x24 x37 (0:Int),qtu qen (PV.int .i64) x24 x37⟩,?_⟩;conv=>whnf
     refine ifc h (fun hc h=>?_) (fun hc h=>?_)
     ·obtain rfl:=sj h
      conv=>whnf
      refine⟨_,_,⟨rfl,rfl⟩,wk [0,1,2] []⟩
     ·conv=>whnf
      replace h:=qaa h;obtain⟨⟨x41,x42,x43⟩,h6,h⟩:=h;refine qcl (ql8 n _ _ _ _ _ h6) [0,1,2] [] ?_;rintro _ _ ⟨rfl,rfl⟩;refine⟨pI x41,[.box 73 [.tsl 4 (qam x42),.mref 1],.mp .string (qbc PV.str (PV.int .i64) x43) none,.dead,.box 55 [pI x1,pP x2,pE x3,pI x4,pS x5,pI x6,pB x7,pI x8,pS x9,pV x10,pT x11,pT x12,pE x13,pS x14,pA x15,pB x16,pO x17,pE x18,pE x19,pU x20,pT x21,pB x22],.tail 9 1 (qam x42).length],rfl,rfl,?_⟩;obtain rfl:=sj h;conv=>whnf
      refine⟨_,_,⟨rfl,rfl⟩,wk [0,1,4] []⟩
    ·conv=>whnf
     refine qje.cut (S:=Bool) (fun x44=>[(0,.ptr 0 0),(3,.ptr 2 0),(10,pI x1),(77,pB x44)]) (fun x44=>[.box 73 [.tsl 3 (qam x23),.mref 1],.mp .string (qbc PV.str (PV.int .i64) x24) none,.box 55 [pI x1,pP x2,pE x3,pI x4,pS x5,pI x6,pB x7,pI x8,pS x9,pV x10,pT x11,pT x12,pE x13,pS x14,pA x15,pB x16,pO x17,pE x18,pE x19,pU x20,pT x21,pB x22],.tail 9 1 (qam x23).length]) (qfh n x20 x23 x24 x1 x21 x2 x3 x4 x5 x6 x7 x8 x9 x10 x11 x12 x13 x14 x15 x16 x17 x18 x19 x22) (r:=r) ?_ ?_
     ·intro x44 h
      unfold qfh at h;conv=>whnf
      refine ifc h (fun hc h=>?_) (fun hc h=>?_)
      ·conv=>whnf
       replace h:=qaa h;obtain⟨x45,h9,h⟩:=h;refine qcl (qwr n _ _ _ _ h9) [0,1,3] [] ?_;rintro _ _ ⟨rfl,rfl⟩;refine⟨pI x45,[.box 73 [.tsl 4 (qam x23),.mref 1],.mp .string (qbc PV.str (PV.int .i64) x24) none,.box 55 [pI x1,pP x2,pE x3,pI x4,pS x5,pI x6,pB x7,pI x8,pS x9,pV x10,pT x11,pT x12,pE x13,pS x14,pA x15,pB x16,pO x17,pE x18,pE x19,pU x20,pT x21,pB x22],.dead,.tail 9 1 (qam x23).length],rfl,rfl,?_⟩;obtain rfl:=sj h;conv=>whnf
       refine⟨_,_,⟨rfl,rfl⟩,wk [0,1,4] []⟩
      ·conv=>whnf
       refine ifc h (fun hc h=>?_) (fun hc h=>?_)
       ·conv=>whnf
        replace h:=qaa h;obtain⟨x46,h10,h⟩:=h;refine qcl (qwm n _ _ _ _ h10) [0,1,3] [] ?_;rintro _ _ ⟨rfl,rfl⟩;refine⟨pI x46,[.box 73 [.tsl 4 (qam x23),.mref 1],.mp .string (qbc PV.str (PV.int .i64) x24) none,.box 55 [pI x1,pP x2,pE x3,pI x4,pS x5,pI x6,pB x7,pI x8,pS x9,pV x10,pT x11,pT x12,pE x13,pS x14,pA x15,pB x16,pO x17,pE x18,pE x19,pU x20,pT x21,pB x22],.dead,.tail 9 1 (qam x23).length],rfl,rfl,?_⟩;obtain rfl:=sj h;conv=>whnf
        refine⟨_,_,⟨rfl,rfl⟩,wk [0,1,4] []⟩
       ·conv=>whnf
        replace h:=qaa h;obtain⟨x47,h11,h⟩:=h;rcases x47 with ⟨x48⟩|⟨x49,x50,x51⟩
        ·refine qcl (qrv n _ _ _ _ h11) [0,1,3] [] ?_
         rintro _ _ ⟨rfl,rfl⟩;refine⟨.p (.tup [.nilp,.int .i64 x48]),[.box 73 [.tsl 4 (qam x23),.mref 1],.mp .string (qbc PV.str (PV.int .i64) x24) none,.box 55 [pI x1,pP x2,pE x3,pI x4,pS x5,pI x6,pB x7,pI x8,pS x9,pV x10,pT x11,pT x12,pE x13,pS x14,pA x15,pB x16,pO x17,pE x18,pE x19,pU x20,pT x21,pB x22],.dead,.tail 9 1 (qam x23).length],rfl,rfl,?_⟩;obtain rfl:=sj h;conv=>whnf
         refine⟨_,_,⟨rfl,rfl⟩,wk [0,1,4] []⟩
        ·refine qcl (qrv n _ _ _ _ h11) [0,1,3] [] ?_
         rintro _ _ ⟨rfl,rfl⟩;refine⟨.pair (.ptr 5 0) (pI x49),[.box 73 [.tsl 4 (qam x23),.mref 1],.mp .string (qbc PV.str (PV.int .i64) x24) none,.box 55 [pI x1,pP x2,pE x3,pI x4,pS x5,pI x6,pB x7,pI x8,pS x9,pV x10,pT x11,pT x12,pE x13,pS x14,pA x15,pB x16,pO x17,pE x18,pE x19,pU x20,pT x21,pB x22],.dead,.tail 9 1 (qam x23).length,.box 73 [.tsl 7 (qam x50),.mref 6],.mp .string (qbc PV.str (PV.int .i64) x51) none,.tail 9 1 (qam x50).length],rfl,rfl,?_⟩;obtain rfl:=sj h;conv=>whnf
         refine⟨_,_,⟨rfl,rfl⟩,wk [0,1,4,5,6,7] []⟩
     ·conv=>whnf
      refine ifc h (fun hc h=>?_) (fun hc h=>?_)
      ·conv=>whnf
       exact⟨(x1==6),h,wk [0,1,3,2] []⟩
      ·conv=>whnf
       exact⟨(x1==7),h,wk [0,1,3,2] []⟩
abbrev q5s (r:List SS×List Int×Int):PV:=PV.tup [PV.sl (qam r.1),PV.sl (qbp .i64 r.2.1),PV.int .i64 r.2.2]
def qia (n:Nat) (x6:List SS) (x7:List (SS×Int)):(List Int×Int->Option (List SS×List Int×Int))->List Int×Int->Option (List SS×List Int×Int):=fun nx2 (x42,x43)=>
 bif(decide (x43<((qam x6).length:Int)))then(
 bnd (idx x6 x43) fun x44=>
 chk (decide ((qbp .i64 (x42++[(qd0 x7 x44 (0:Int))])).length * 8<=140737488355328)) (
 nx2 ((x42++[(qd0 x7 x44 (0:Int))]),(IntKind.i64.wrap (x43+1)))))
 else(
 some (x6,x42,(0:Int)))
def qgu (n:Nat) (x1:List qad) (x4:Nat):(Int×List SS×List (SS×Int)->Option (List SS×List Int×Int))->Int×List SS×List (SS×Int)->Option (List SS×List Int×Int):=fun nx1 (x5,x6,x7)=>
 bif(decide (x5<(((qad.rows (x1.take x4)).length:Nat):Int)))then(
 bnd (idx (x1.take x4) x5) fun⟨x8,x9,x10,⟨x11,x12,⟨x13,x14,x15,x16,x17,x18⟩,x19,x20⟩,x21,x22,x23,x24,x25,x26,x27,x28,x29⟩=>
 bnd (qg7 n (qad.mk x8 x9 x10 (qab.mk x11 x12 (Val.mk x13 x14 x15 x16 x17 x18) x19 x20) x21 x22 x23 x24 x25 x26 x27 x28 x29) x6 x7) fun x30=>
 match x30 with
 | .o0 x31 x32 x33=>(
 bif(x31 != 0)then(
 some (([]:List SS),([]:List Int),x31))
 else(
 none))
 | .o1 x34 x35 x36=>(
 bif(x34 != 0)then(
 some (([]:List SS),([]:List Int),x34))
 else(
 nx1 ((IntKind.i64.wrap (x5+1)),x35,x36)))
 | .o2 x37 x38 x39 x40 x41=>(
 bif(x37 != 0)then(
 some (([]:List SS),([]:List Int),x37))
 else(
 nx1 ((IntKind.i64.wrap (x5+1)),x40,x41))))
 else(
 qap (qia n x6 x7) n (([]:List _),(0:Int)))
def qkx (n:Nat) (a0z:qg3) (x2:Int):Option (List SS×List Int×Int):=
 match a0z with
 | ⟨x1⟩=>
 bnd (qnu n (qg3.mk x1)) fun x3=>
 bif(bif(bif(!x3)then true else(decide (x2<0)))then true else(decide (x2>((qad.rows x1).length:Int))))then(
 some (([]:List SS),([]:List Int),(20:Int)))
 else(
 bnd (qz9 x2) fun x4=>
 chk (decide (x4<=(qad.rows x1).length)) (
 qap (qgu n x1 x4) n ((0:Int),([]:List _),([]:List (SS×Int)))))
theorem qvz (n:Nat):∀ (a0z:qg3) (x2:Int) (r:List SS×List Int×Int),qkx n a0z x2=some r->qae Tryz.prog 14 [PV.agg (qys.cells a0z),PV.int .i64 x2] (q5s r):=by
 intro a0z x2 r h;obtain⟨x1⟩:=a0z;unfold qkx at h;refine qae.of_vcN qa3 (fun _ _=>Tryz.call14 _ _) Tryz.func14 (by kernel_rfl) (inl:=[23,1000000]) ?_;conv=>whnf
 replace h:=qaa h;obtain⟨x3,h7,h⟩:=h;refine⟨_,(q3s n _ _ h7),?_⟩;conv=>whnf
 refine⟨id,id,id,id,id,id,id,?_⟩;conv=>whnf
 refine ifc h (fun hc h=>?_) (fun hc h=>?_)
 ·obtain rfl:=sj h
  conv=>whnf
  try exact fin
 ·conv=>whnf
  replace h:=qaa h;obtain⟨x4,h6,h⟩:=h;refine⟨_,qf0 h6,?_⟩;conv=>whnf
  obtain⟨h5,h⟩:=qaw h;refine⟨⟨Nat.zero_le _,(of_decide_eq_true h5:(x4<=(qad.rows x1).length)),Codec.wide qcw x1⟩,?_⟩;rw[show List.drop 0 (List.take x4 (qad.rows x1))=qad.rows (x1.take x4)from Codec.take qcw x1 x4];conv=>whnf
  refine qby.fn [23,1000000] (S:=Int×List SS×List (SS×Int)) (fun(x5,x6,x7)=>[(7,.ptr 0 0),(35,.p (.sl (qad.rows (x1.take x4)))),(36,.p (.int .i64 (((qad.rows (x1.take x4)).length:Nat):Int))),(37,pI x5)]) (fun(x5,x6,x7)=>[.box 73 [.tsl 2 (qam x6),.mref 1],.mp .string (qbc PV.str (PV.int .i64) x7) none,.tail 9 1 (qam x6).length]) (B:=qgu n x1 x4) h (wk [2,1,0] [2]) ?_;intro nx1 st h;obtain⟨x5,x6,x7⟩:=st;unfold qgu at h;conv=>whnf
  refine ifc h (fun hc h=>?_) (fun hc h=>?_)
  ·conv=>whnf
   replace h:=qaa h;obtain⟨⟨x8,x9,x10,⟨x11,x12,⟨x13,x14,x15,x16,x17,x18⟩,x19,x20⟩,x21,x22,x23,x24,x25,x26,x27,x28,x29⟩,h2,h⟩:=h;refine⟨_,Codec.at_ qcw h2,?_⟩;conv=>whnf
   replace h:=qaa h;obtain⟨x30,h1,h⟩:=h;rcases x30 with ⟨x31,x32,x33⟩|⟨x34,x35,x36⟩|⟨x37,x38,x39,x40,x41⟩
   ·refine qcl (qky n _ _ _ _ h1) [0,1,2] [] ?_
    rintro _ _ ⟨rfl,rfl⟩;refine⟨.p (.tup [.nilp,.int .i64 x31]),[.box 73 [.tsl 4 (qam x32),.mref 1],.mp .string (qbc PV.str (PV.int .i64) x33) none,.dead,.box 55 [pI x8,pP x9,pE x10,pI x11,pS x12,pI x13,pB x14,pI x15,pS x16,pV x17,pT x18,pT x19,pE x20,pS x21,pA x22,pB x23,pO x24,pE x25,pE x26,pU x27,pT x28,pB x29],.tail 9 1 (qam x32).length],rfl,rfl,?_⟩;conv=>whnf
    refine ifc h (fun hc h=>?_) (fun hc h=>?_)
    ·obtain rfl:=sj h
     conv=>whnf
     try exact fin
    ·cases h
   ·refine qcl (qky n _ _ _ _ h1) [0,1,2] [] ?_
    rintro _ _ ⟨rfl,rfl⟩;refine⟨.pair (.ptr 0 0) (pI x34),[.box 73 [.tsl 4 (qam x35),.mref 1],.mp .string (qbc PV.str (PV.int .i64) x36) none,.dead,.box 55 [pI x8,pP x9,pE x10,pI x11,pS x12,pI x13,pB x14,pI x15,pS x16,pV x17,pT x18,pT x19,pE x20,pS x21,pA x22,pB x23,pO x24,pE x25,pE x26,pU x27,pT x28,pB x29],.tail 9 1 (qam x35).length],rfl,rfl,?_⟩;conv=>whnf
    refine ifc h (fun hc h=>?_) (fun hc h=>?_)
    ·obtain rfl:=sj h
     conv=>whnf
     try exact fin
    ·conv=>whnf
     exact⟨((IntKind.i64.wrap (x5+1)),x35,x36),h,wk [0,1,4] []⟩
   ·refine qcl (qky n _ _ _ _ h1) [0,1,2] [] ?_
    rintro _ _ ⟨rfl,rfl⟩;refine⟨.pair (.ptr 5 0) (pI x37),[.box 73 [.tsl 4 (qam x38),.mref 1],.mp .string (qbc PV.str (PV.int .i64) x39) none,.dead,.box 55 [pI x8,pP x9,pE x10,pI x11,pS x12,pI x13,pB x14,pI x15,pS x16,pV x17,pT x18,pT x19,pE x20,pS x21,pA x22,pB x23,pO x24,pE x25,pE x26,pU x27,pT x28,pB x29],.tail 9 1 (qam x38).length,.box 73 [.tsl 7 (qam x40),.mref 6],.mp .string (qbc PV.str (PV.int .i64) x41) none,.tail 9 1 (qam x40).length],rfl,rfl,?_⟩;conv=>whnf
    refine ifc h (fun hc h=>?_) (fun hc h=>?_)
    ·obtain rfl:=sj h
     conv=>whnf
     try exact fin
    ·conv=>whnf
     exact⟨((IntKind.i64.wrap (x5+1)),x40,x41),h,wk [5,6,7] []⟩
  ·conv=>whnf
   refine qby.fn [23,1000000] (S:=List Int×Int) (fun(x42,x43)=>[(7,.ptr 0 0),(12,.tsl 3 (qbp .i64 x42)),(55,.tsl 1 (qam x6)),(56,.p (.int .i64 ((qam x6).length:Int))),(57,pI x43)]) (fun(x42,x43)=>[.box 73 [.tsl 1 (qam x6),.mref 2],.tail 9 1 (qam x6).length,.mp .string (qbc PV.str (PV.int .i64) x7) none,.tail 3 1 (qbp .i64 x42).length]) (B:=qia n x6 x7) h (wk [0,2,1,0] [3]) ?_;intro nx2 st h;obtain⟨x42,x43⟩:=st;unfold qia at h;conv=>whnf
   refine ifc h (fun hc h=>?_) (fun hc h=>?_)
   ·conv=>whnf
    replace h:=qaa h;obtain⟨x44,h4,h⟩:=h;refine⟨_,Codec.at_ qqt h4,?_⟩;conv=>whnf
    refine⟨PV.int .i64 (qd0 x7 x44 (0:Int)),(q4t x7 x44),⟨qtt qen (PV.int .i64) x7 x44 (0:Int),qtu qen (PV.int .i64) x7 x44⟩,?_⟩;conv=>whnf
    refine⟨Codec.one (zk3 .i64) [(qd0 x7 x44 (0:Int))],qbp .i64 [(qd0 x7 x44 (0:Int))],.inl rfl,?_⟩;conv=>whnf
    rw[show qbp .i64 x42++qbp .i64 [(qd0 x7 x44 (0:Int))]=qbp .i64 (x42++[(qd0 x7 x44 (0:Int))])from Codec.append (zk3 .i64) x42 [(qd0 x7 x44 (0:Int))]];conv=>whnf
    obtain⟨h3,h⟩:=qaw h;refine⟨⟨Codec.wide (zk3 .i64) (x42++[(qd0 x7 x44 (0:Int))]),of_decide_eq_true h3,qdx h3 (by decide)⟩,?_⟩;conv=>whnf
    refine⟨⟨rfl,rfl,rfl⟩,?_⟩;conv=>whnf
    exact⟨((x42++[(qd0 x7 x44 (0:Int))]),(IntKind.i64.wrap (x43+1))),h,wk [0,1,2,4] []⟩
   ·obtain rfl:=sj h
    conv=>whnf
    try exact fin
abbrev q5r (r:List SS×Int):PV:=PV.tup [PV.sl (qam r.1),PV.int .i64 r.2]
def qdv (n:Nat) (a0z:qg3):Option (List SS×Int):=
 match a0z with
 | ⟨x1⟩=>
 bnd (qkx n (qg3.mk x1) ((qad.rows x1).length:Int)) fun⟨x2,x3,x4⟩=>
 bnd (qa5 (!(x4 != 0)) (idx x1 (IntKind.i64.wrap (((qad.rows x1).length:Int) - 1)))) fun⟨x5,x6,x7,⟨x8,x9,⟨x10,x11,x12,x13,x14,x15⟩,x16,x17⟩,x18,x19,x20,x21,x22,x23,x24,x25,x26⟩=>
 bif(bif(x4 != 0)then true else(x5 != 9))then(
 some (([]:List SS),x4))
 else(
 some (x2,(0:Int)))
theorem qdz (n:Nat):∀ (a0z:qg3) (r:List SS×Int),qdv n a0z=some r->qae Tryz.prog 11 [PV.agg (qys.cells a0z)] (q5r r):=by
 intro a0z r h;obtain⟨x1⟩:=a0z;unfold qdv at h;refine qae.of_vcN qa3 (fun _ _=>Tryz.call11 _ _) Tryz.func11 (by kernel_rfl) (inl:=[1000000]) ?_;conv=>whnf
 replace h:=qaa h;obtain⟨⟨x2,x3,x4⟩,h2,h⟩:=h;refine⟨_,(qvz n _ _ _ h2),?_⟩;conv=>whnf
 refine⟨id,id,id,id,id,id,?_⟩;conv=>whnf
 replace h:=qaa h;obtain⟨⟨x5,x6,x7,⟨x8,x9,⟨x10,x11,x12,x13,x14,x15⟩,x16,x17⟩,x18,x19,x20,x21,x22,x23,x24,x25,x26⟩,h1,h⟩:=h;refine⟨_,fun hg=>Codec.at_ qcw (qah h1 hg),?_⟩;conv=>whnf
 refine⟨id,id,id,id,?_⟩;conv=>whnf
 refine ifc h (fun hc h=>?_) (fun hc h=>?_)
 ·obtain rfl:=sj h
  conv=>whnf
  try exact fin
 ·obtain rfl:=sj h
  conv=>whnf
  try exact fin
abbrev q9v (r:Bool):PV:=PV.bool r
def qdu (n:Nat):Option (Bool):=
 bnd (qmu n ([77,65,84,67,72,32,40,110,41,45,91,114,93,45,62,40,109,41,32,82,69,84,85,82,78,32,110,46,107,32,65,83,32,120,44,32,116,121,112,101,40,114,41,32,65,83,32,116]:SS)) fun⟨⟨x1⟩,x2,x3⟩=>
 bnd (qdv n (qg3.mk x1)) fun⟨x4,x5⟩=>
 bnd (qmu n ([77,65,84,67,72,32,40,110,41,32,82,69,84,85,82,78,32,110]:SS)) fun⟨⟨x6⟩,x7,x8⟩=>
 bnd (qdv n (qg3.mk x6)) fun⟨x9,x10⟩=>
 bnd (qmu n ([82,69,84,85,82,78,32,110,46,107,32,65,83,32,120]:SS)) fun⟨⟨x11⟩,x12,x13⟩=>
 bnd (qdv n (qg3.mk x11)) fun⟨x14,x15⟩=>
 bnd (qa5 (((qam x4).length:Int)==2) (idx x4 (1:Int))) fun x16=>
 some (bif(bif(bif(bif(((qam x4).length:Int)==2)then(x16==([116]:SS))else false)then(x5==0)else false)then(x10==3)else false)then(x15==2)else false)
theorem qc7 (n:Nat):∀ (r:Bool),qdu n=some r->qae Tryz.prog 10 [] (q9v r):=by
 intro r h;unfold qdu at h;refine qae.of_vcN qa3 (fun _ _=>Tryz.call10 _ _) Tryz.func10 (by kernel_rfl) (inl:=[1000000]) ?_;conv=>whnf
 replace h:=qaa h;obtain⟨⟨⟨x1⟩,x2,x3⟩,h7,h⟩:=h;refine⟨_,(qrc n _ _ h7),?_⟩;conv=>whnf
 replace h:=qaa h;obtain⟨⟨x4,x5⟩,h6,h⟩:=h;refine⟨_,(qdz n _ _ h6),?_⟩;conv=>whnf
 replace h:=qaa h;obtain⟨⟨⟨x6⟩,x7,x8⟩,h5,h⟩:=h;refine⟨_,(qrc n _ _ h5),?_⟩;conv=>whnf
 replace h:=qaa h;obtain⟨⟨x9,x10⟩,h4,h⟩:=h;refine⟨_,(qdz n _ _ h4),?_⟩;conv=>whnf
 replace h:=qaa h;obtain⟨⟨⟨x11⟩,x12,x13⟩,h3,h⟩:=h;refine⟨_,(qrc n _ _ h3),?_⟩;conv=>whnf
 replace h:=qaa h;obtain⟨⟨x14,x15⟩,h2,h⟩:=h;refine⟨_,(qdz n _ _ h2),?_⟩;conv=>whnf
 refine⟨id,?_⟩;conv=>whnf
 replace h:=qaa h;obtain⟨x16,h1,h⟩:=h;refine⟨_,fun hg=>Codec.at_ qqt (qah h1 hg),?_⟩;conv=>whnf
 refine⟨id,id,id,id,id,id,id,id,id,?_⟩;obtain rfl:=sj h;conv=>whnf
 try exact fin
abbrev q4b (r:Int):PV:=PV.int .i64 r
def qho (n:Nat) (x1:List SS) (x3:SS) (x2:List Int):(Int->Option (Int))->Int->Option (Int):=fun nx1 x4=>
 bif(decide (x4<((qam x1).length:Int)))then(
 bnd (idx x1 x4) fun x5=>
 bif(x5==x3)then(
 bnd (idx x2 x4) fun x6=>
 some x6)
 else(
 nx1 (IntKind.i64.wrap (x4+1))))
 else(
 some (0:Int))
def qd2 (n:Nat) (a0z:qa6) (x3:SS):Option (Int):=
 match a0z with
 | ⟨x1,x2⟩=>
 qap (qho n x1 x3 x2) n (0:Int)
theorem qem (n:Nat):∀ (a0z:qa6) (x3:SS) (r:Int),qd2 n a0z x3=some r->qae Tryz.prog 44 [PV.agg (qpv.cells a0z),PV.str x3] (q4b r):=by
 intro a0z x3 r h;obtain⟨x1,x2⟩:=a0z;unfold qd2 at h;refine qae.of_vcN qa3 (fun _ _=>Tryz.call44 _ _) Tryz.func44 (by kernel_rfl) (inl:=[1000000]) ?_;conv=>whnf
 refine qby.fn [1000000] (S:=Int) (fun x4=>[(1,pS x3),(2,.ptr 0 0),(5,pI x4)]) (fun x4=>[.box 77 [pT x1,.p (.sl (qbp .i64 x2))]]) (B:=qho n x1 x3 x2) h (wk [0] []) ?_;intro nx1 x4 h;unfold qho at h;conv=>whnf
 refine ifc h (fun hc h=>?_) (fun hc h=>?_)
 ·conv=>whnf
  replace h:=qaa h;obtain⟨x5,h2,h⟩:=h;refine⟨_,Codec.at_ qqt h2,?_⟩;conv=>whnf
  refine ifc h (fun hc h=>?_) (fun hc h=>?_)
  ·conv=>whnf
   replace h:=qaa h;obtain⟨x6,h1,h⟩:=h;refine⟨_,Codec.at_ (zk3 .i64) h1,?_⟩;obtain rfl:=sj h;conv=>whnf
   try exact fin
  ·conv=>whnf
   exact⟨(IntKind.i64.wrap (x4+1)),h,wk [0] []⟩
 ·obtain rfl:=sj h
  conv=>whnf
  try exact fin
abbrev zbw (r:Int×Int×Int):PV:=PV.tup [PV.int .i64 r.1,PV.int .i64 r.2.1,PV.int .i64 r.2.2]
def qim (n:Nat) (x1:SS):Bool->Option (Int×Int×Int):=fun x2=>
 bif x2 then(
 some ((1:Int),(1:Int),(3:Int)))
 else(
 bif(x1==([99,111,97,108,101,115,99,101]:SS))then(
 some ((1:Int),(1048576:Int),(3:Int)))
 else(
 bif(x1==([107,101,121,115]:SS))then(
 some ((1:Int),(1:Int),(0:Int)))
 else(
 bif(x1==([108,97,98,101,108,115]:SS))then(
 some ((1:Int),(1:Int),(1:Int)))
 else(
 bif(x1==([116,121,112,101]:SS))then(
 some ((1:Int),(1:Int),(2:Int)))
 else(
 bif(x1==([114,97,110,103,101]:SS))then(
 some ((2:Int),(2:Int),(3:Int)))
 else(
 some ((1:Int),(0:Int),(0:Int))))))))
def qum (n:Nat) (x1:SS):Option (Int×Int×Int):=
 bif(x1==([115,105,122,101]:SS))then(
 qim n x1 (x1==([115,105,122,101]:SS)))
 else(
 bif(x1==([97,98,115]:SS))then(
 qim n x1 (x1==([97,98,115]:SS)))
 else(
 bif(x1==([104,101,97,100]:SS))then(
 qim n x1 (x1==([104,101,97,100]:SS)))
 else(
 bif(x1==([108,97,115,116]:SS))then(
 qim n x1 (x1==([108,97,115,116]:SS)))
 else(
 qim n x1 (x1==([116,101,120,116]:SS))))))
theorem q9i (n:Nat):∀ (x1:SS) (r:Int×Int×Int),qum n x1=some r->qae Tryz.prog 115 [PV.str x1] (zbw r):=by
 intro x1 r h;unfold qum at h;refine qae.of_vcN qa3 (fun _ _=>Tryz.call115 _ _) Tryz.func115 (by kernel_rfl) (inl:=[1000000]) ?_;conv=>whnf
 refine qje.cut (S:=Bool) (fun x2=>[(5,pS x1),(6,pB x2)]) (fun x2=>[]) (qim n x1) (r:=r) ?_ ?_
 ·intro x2 h
  unfold qim at h;conv=>whnf
  refine ifc h (fun hc h=>?_) (fun hc h=>?_)
  ·obtain rfl:=sj h
   conv=>whnf
   try exact fin
  ·conv=>whnf
   refine ifc h (fun hc h=>?_) (fun hc h=>?_)
   ·obtain rfl:=sj h
    conv=>whnf
    try exact fin
   ·conv=>whnf
    refine ifc h (fun hc h=>?_) (fun hc h=>?_)
    ·obtain rfl:=sj h
     conv=>whnf
     try exact fin
    ·conv=>whnf
     refine ifc h (fun hc h=>?_) (fun hc h=>?_)
     ·obtain rfl:=sj h
      conv=>whnf
      try exact fin
     ·conv=>whnf
      refine ifc h (fun hc h=>?_) (fun hc h=>?_)
      ·obtain rfl:=sj h
       conv=>whnf
       try exact fin
      ·conv=>whnf
       refine ifc h (fun hc h=>?_) (fun hc h=>?_)
       ·obtain rfl:=sj h
        conv=>whnf
        try exact fin
       ·obtain rfl:=sj h
        conv=>whnf
        try exact fin
 ·conv=>whnf
  refine ifc h (fun hc h=>?_) (fun hc h=>?_)
  ·conv=>whnf
   exact⟨(x1==([115,105,122,101]:SS)),h,wk [] []⟩
  ·conv=>whnf
   refine ifc h (fun hc h=>?_) (fun hc h=>?_)
   ·conv=>whnf
    exact⟨(x1==([97,98,115]:SS)),h,wk [] []⟩
   ·conv=>whnf
    refine ifc h (fun hc h=>?_) (fun hc h=>?_)
    ·conv=>whnf
     exact⟨(x1==([104,101,97,100]:SS)),h,wk [] []⟩
    ·conv=>whnf
     refine ifc h (fun hc h=>?_) (fun hc h=>?_)
     ·conv=>whnf
      exact⟨(x1==([108,97,115,116]:SS)),h,wk [] []⟩
     ·conv=>whnf
      exact⟨(x1==([116,101,120,116]:SS)),h,wk [] []⟩
abbrev zaa (r:Bool):PV:=PV.bool r
def qlx (n:Nat) (x2:Int) (x1:List SS) (nx1:Int->Option (Bool)):(Int->Option (Bool))->Int->Option (Bool):=fun nx2 x3=>
 bif(decide (x3<x2))then(
 bnd (idx x1 x2) fun x4=>
 bnd (idx x1 x3) fun x5=>
 bif(x4==x5)then(
 some true)
 else(
 nx2 (IntKind.i64.wrap (x3+1))))
 else(
 nx1 (IntKind.i64.wrap (x2+1)))
def qjc (n:Nat) (x1:List SS):(Int->Option (Bool))->Int->Option (Bool):=fun nx1 x2=>
 bif(decide (x2<((qam x1).length:Int)))then(
 qap (qlx n x2 x1 nx1) n (0:Int))
 else(
 some false)
def qq1 (n:Nat) (x1:List SS):Option (Bool):=
 qap (qjc n x1) n (0:Int)
theorem qyw (n:Nat):∀ (x1:List SS) (r:Bool),qq1 n x1=some r->qae Tryz.prog 114 [PV.sl (qam x1)] (zaa r):=by
 intro x1 r h;unfold qq1 at h;refine qae.of_vcN qa3 (fun _ _=>Tryz.call114 _ _) Tryz.func114 (by kernel_rfl) (inl:=[1000000]) ?_;conv=>whnf
 refine qby.fn [1000000] (S:=Int) (fun x2=>[(0,pT x1),(3,pI x2)]) (fun x2=>[]) (B:=qjc n x1) h (wk [] []) ?_;intro nx1 x2 h;unfold qjc at h;conv=>whnf
 refine ifc h (fun hc h=>?_) (fun hc h=>?_)
 ·conv=>whnf
  refine qby.fn [1000000] (S:=Int) (fun x3=>[(0,pT x1),(3,pI x2),(4,pI x3)]) (fun x3=>[]) (B:=qlx n x2 x1 nx1) h (wk [] []) ?_;intro nx2 x3 h;unfold qlx at h;conv=>whnf
  refine ifc h (fun hc h=>?_) (fun hc h=>?_)
  ·conv=>whnf
   replace h:=qaa h;obtain⟨x4,h2,h⟩:=h;refine⟨_,Codec.at_ qqt h2,?_⟩;conv=>whnf
   replace h:=qaa h;obtain⟨x5,h1,h⟩:=h;refine⟨_,Codec.at_ qqt h1,?_⟩;conv=>whnf
   refine ifc h (fun hc h=>?_) (fun hc h=>?_)
   ·obtain rfl:=sj h
    conv=>whnf
    try exact fin
   ·conv=>whnf
    exact⟨(IntKind.i64.wrap (x3+1)),h,wk [] []⟩
  ·conv=>whnf
   exact⟨(IntKind.i64.wrap (x2+1)),h,wk [] []⟩
 ·obtain rfl:=sj h
  conv=>whnf
  try exact fin
end W
end
