/- A part of the proof: contracts, printed by program. -/
import Derived.Test.YtneaemdbncgcdaaGreatB
import Derived.Test.YtneaemdbncgcdaaGreatC
import Derived.Test.YtneaemdbncgcdaaGreatF
import Derived.Test.YtneaemdbncgcdaaGreatG
import Derived.Test.YtneaemdbncgcdaaGreatH
set_option linter.unusedVariables false
set_option linter.unusedSimpArgs false
set_option linter.unnecessarySimpa false
set_option linter.deprecated false
set_option linter.unusedSectionVars false
set_option linter.constructorNameAsVariable false
section
set_option maxRecDepth 100000
open Go Go.Proofs Ax
namespace W
abbrev qs6 (r:Int):PV:=PV.int .i64 r
abbrev zov:Type:=qa6->qab->Option (Int×Int)
def qpp (n:Nat) (x3:List qab) (g86:zov) (x1:List SS) (x2:List Int) (x4:Int):(Int->Option (Int))->Int->Option (Int):=fun nx1 x5=>
 bif(decide (x5<((qab.rows x3).length:Int)))then(
 bnd (idx x3 x5) fun⟨x6,x7,⟨x8,x9,x10,x11,x12,x13⟩,x14,x15⟩=>
 bnd (g86 (qa6.mk x1 x2) (qab.mk x6 x7 (Val.mk x8 x9 x10 x11 x12 x13) x14 x15)) fun⟨x16,x17⟩=>
 bif(x17 != 0)then(
 some x17)
 else(
 bif(bif(decide (x4>0))then(x16 != x4)else false)then(
 some (3:Int))
 else(
 nx1 (IntKind.i64.wrap (x5+1)))))
 else(
 some (0:Int))
abbrev zo6:Type:=qa6->(List qab)->Int->Option (Int)
def qxj (n:Nat) (g43:zo6) (g86:zov) (a0z:qa6) (x3:List qab) (x4:Int):Option (Int):=
 match a0z with
 | ⟨x1,x2⟩=>
 qap (qpp n x3 g86 x1 x2 x4) n (0:Int)
abbrev qrx (r:Int×Int):PV:=PV.tup [PV.int .i64 r.1,PV.int .i64 r.2]
def qeu (n:Nat):Int->Option (Int×Int):=fun x13=>
 some ((3:Int),x13)
def qnr (n:Nat) (g43:zo6) (x1:List SS) (x2:List Int) (x12:List qab) (x3:Int) (x4:SS) (g86:zov) (x11:List SS):Bool->Option (Int×Int):=fun x19=>
 bif x19 then(
 bnd (g43 (qa6.mk x1 x2) x12 (0:Int)) fun x20=>
 qeu n x20)
 else(
 bif(x3==15)then(
 bnd (g43 (qa6.mk x1 x2) x12 (1:Int)) fun x21=>
 qeu n x21)
 else(
 bif(x3==10)then(
 bif(bif(x4==([61]:SS))then true else(x4==([60,62]:SS)))then(
 bnd (g43 (qa6.mk x1 x2) x12 (0:Int)) fun x22=>
 bif(x22==0)then(
 bnd (idx x12 (0:Int)) fun⟨x23,x24,⟨x25,x26,x27,x28,x29,x30⟩,x31,x32⟩=>
 bnd (g86 (qa6.mk x1 x2) (qab.mk x23 x24 (Val.mk x25 x26 x27 x28 x29 x30) x31 x32)) fun⟨x33,x34⟩=>
 bnd (idx x12 (1:Int)) fun⟨x35,x36,⟨x37,x38,x39,x40,x41,x42⟩,x43,x44⟩=>
 bnd (g86 (qa6.mk x1 x2) (qab.mk x35 x36 (Val.mk x37 x38 x39 x40 x41 x42) x43 x44)) fun⟨x45,x46⟩=>
 bif(x33 != x45)then(
 qeu n (3:Int))
 else(
 qeu n x22))
 else(
 qeu n x22))
 else(
 bnd (g43 (qa6.mk x1 x2) x12 (3:Int)) fun x47=>
 qeu n x47))
 else(
 bnd (g43 (qa6.mk x1 x2) x12 (3:Int)) fun x48=>
 bnd (qa5 (x48==0) (qq1 n x11)) fun x49=>
 bif(bif(x48==0)then x49 else false)then(
 qeu n (2:Int))
 else(
 qeu n x48))))
def qu2 (n:Nat) (g43:zo6) (g86:zov) (a0z:qa6) (a1z:qab):Option (Int×Int):=
 match a0z,a1z with
 | ⟨x1,x2⟩,⟨x3,x4,⟨x5,x6,x7,x8,x9,x10⟩,x11,x12⟩=>
 bif(x3==2)then(
 bnd (qd2 n (qa6.mk x1 x2) x4) fun x14=>
 bif(x14==0)then(
 some ((0:Int),(2:Int)))
 else(
 some (x14,(0:Int))))
 else(
 bif(x3==14)then(
 some ((0:Int),(2:Int)))
 else(
 bif(x3==13)then(
 bnd (qum n x4) fun⟨x15,x16,x17⟩=>
 bif(bif(decide (((qab.rows x12).length:Int)<x15))then true else(decide (((qab.rows x12).length:Int)>x16)))then(
 some ((0:Int),(2:Int)))
 else(
 bnd (g43 (qa6.mk x1 x2) x12 x17) fun x18=>
 qeu n x18))
 else(
 bif(x3==4)then(
 qnr n g43 x1 x2 x12 x3 x4 g86 x11 (x3==4))
 else(
 bif(x3==11)then(
 qnr n g43 x1 x2 x12 x3 x4 g86 x11 (x3==11))
 else(
 qnr n g43 x1 x2 x12 x3 x4 g86 x11 (x3==12))))))
theorem q87 (n:Nat) (g43:zo6) (g86:zov) (g43_ok:∀ (a0z:qa6) (x3:List qab) (x4 r:Int),g43 a0z x3 x4=some r->qae Tryz.prog 43 [PV.agg (qpv.cells a0z),PV.sl (qab.rows x3),PV.int .i64 x4] (qs6 r)) (g86_ok:∀ (a0z:qa6) (a1z:qab) (r:Int×Int),g86 a0z a1z=some r->qae Tryz.prog 86 [PV.agg (qpv.cells a0z),PV.agg (qca.cells a1z)] (qrx r)):∀ (a0z:qa6) (x3:List qab) (x4 r:Int),qxj n g43 g86 a0z x3 x4=some r->qae Tryz.prog 43 [PV.agg (qpv.cells a0z),PV.sl (qab.rows x3),PV.int .i64 x4] (qs6 r):=by
 intro a0z x3 x4 r h;obtain⟨x1,x2⟩:=a0z;unfold qxj at h;refine qae.of_vcN qa3 (fun _ _=>Tryz.call43 _ _) Tryz.func43 (by kernel_rfl) (inl:=[1000000]) ?_;conv=>whnf
 refine qby.fn [1000000] (S:=Int) (fun x5=>[(1,pE x3),(2,pI x4),(3,.ptr 0 0),(7,pI x5)]) (fun x5=>[.box 77 [pT x1,.p (.sl (qbp .i64 x2))]]) (B:=qpp n x3 g86 x1 x2 x4) h (wk [0] []) ?_;intro nx1 x5 h;unfold qpp at h;conv=>whnf
 refine ifc h (fun hc h=>?_) (fun hc h=>?_)
 ·conv=>whnf
  replace h:=qaa h;obtain⟨⟨x6,x7,⟨x8,x9,x10,x11,x12,x13⟩,x14,x15⟩,h2,h⟩:=h;refine⟨_,Codec.at_ qca h2,?_⟩;conv=>whnf
  replace h:=qaa h;obtain⟨⟨x16,x17⟩,h1,h⟩:=h;refine⟨_,(g86_ok _ _ _ h1),?_⟩;conv=>whnf
  refine ifc h (fun hc h=>?_) (fun hc h=>?_)
  ·obtain rfl:=sj h
   conv=>whnf
   try exact fin
  ·conv=>whnf
   refine⟨id,id,id,?_⟩;conv=>whnf
   refine ifc h (fun hc h=>?_) (fun hc h=>?_)
   ·obtain rfl:=sj h
    conv=>whnf
    try exact fin
   ·conv=>whnf
    exact⟨(IntKind.i64.wrap (x5+1)),h,wk [0] []⟩
 ·obtain rfl:=sj h
  conv=>whnf
  try exact fin
set_option maxHeartbeats 4000000 in
theorem q64 (n:Nat) (g43:zo6) (g86:zov) (g43_ok:∀ (a0z:qa6) (x3:List qab) (x4 r:Int),g43 a0z x3 x4=some r->qae Tryz.prog 43 [PV.agg (qpv.cells a0z),PV.sl (qab.rows x3),PV.int .i64 x4] (qs6 r)) (g86_ok:∀ (a0z:qa6) (a1z:qab) (r:Int×Int),g86 a0z a1z=some r->qae Tryz.prog 86 [PV.agg (qpv.cells a0z),PV.agg (qca.cells a1z)] (qrx r)):∀ (a0z:qa6) (a1z:qab) (r:Int×Int),qu2 n g43 g86 a0z a1z=some r->qae Tryz.prog 86 [PV.agg (qpv.cells a0z),PV.agg (qca.cells a1z)] (qrx r):=by
 intro a0z a1z r h;obtain⟨x1,x2⟩:=a0z;obtain⟨x3,x4,⟨x5,x6,x7,x8,x9,x10⟩,x11,x12⟩:=a1z;unfold qu2 at h;refine qae.of_vcN qa3 (fun _ _=>Tryz.call86 _ _) Tryz.func86 (by kernel_rfl) (inl:=[1000000]) ?_;conv=>whnf
 refine qje.cut (S:=Int) (fun x13=>[(6,pI x13)]) (fun x13=>[]) (qeu n) (r:=r) ?_ ?_
 ·intro x13 h
  unfold qeu at h;obtain rfl:=sj h;conv=>whnf
  try exact fin
 ·conv=>whnf
  refine ifc h (fun hc h=>?_) (fun hc h=>?_)
  ·conv=>whnf
   replace h:=qaa h;obtain⟨x14,h1,h⟩:=h;refine⟨_,(qem n _ _ _ h1),?_⟩;conv=>whnf
   refine ifc h (fun hc h=>?_) (fun hc h=>?_)
   ·obtain rfl:=sj h
    conv=>whnf
    try exact fin
   ·obtain rfl:=sj h
    conv=>whnf
    try exact fin
  ·conv=>whnf
   refine ifc h (fun hc h=>?_) (fun hc h=>?_)
   ·obtain rfl:=sj h
    conv=>whnf
    try exact fin
   ·conv=>whnf
    refine ifc h (fun hc h=>?_) (fun hc h=>?_)
    ·conv=>whnf
     replace h:=qaa h;obtain⟨⟨x15,x16,x17⟩,h3,h⟩:=h;refine⟨_,(q9i n _ _ h3),?_⟩;conv=>whnf
     refine⟨id,id,id,id,id,?_⟩;conv=>whnf
     refine ifc h (fun hc h=>?_) (fun hc h=>?_)
     ·obtain rfl:=sj h
      conv=>whnf
      try exact fin
     ·conv=>whnf
      replace h:=qaa h;obtain⟨x18,h2,h⟩:=h;refine⟨_,(g43_ok _ _ _ _ h2),?_⟩;conv=>whnf
      exact⟨x18,h,wk [] []⟩
    ·conv=>whnf
     refine qje.cut (S:=Bool) (fun x19=>[(2,.ptr 0 0),(3,.ptr 1 0),(16,pI x3),(65,pB x19)]) (fun x19=>[.box 77 [pT x1,.p (.sl (qbp .i64 x2))],.box 47 [pI x3,pS x4,pI x5,pB x6,pI x7,pS x8,pV x9,pT x10,pT x11,pE x12]]) (qnr n g43 x1 x2 x12 x3 x4 g86 x11) (r:=r) ?_ ?_
     ·intro x19 h
      unfold qnr at h;conv=>whnf
      refine ifc h (fun hc h=>?_) (fun hc h=>?_)
      ·conv=>whnf
       replace h:=qaa h;obtain⟨x20,h4,h⟩:=h;refine⟨_,(g43_ok _ _ _ _ h4),?_⟩;conv=>whnf
       exact⟨x20,h,wk [] []⟩
      ·conv=>whnf
       refine ifc h (fun hc h=>?_) (fun hc h=>?_)
       ·conv=>whnf
        replace h:=qaa h;obtain⟨x21,h5,h⟩:=h;refine⟨_,(g43_ok _ _ _ _ h5),?_⟩;conv=>whnf
        exact⟨x21,h,wk [] []⟩
       ·conv=>whnf
        refine ifc h (fun hc h=>?_) (fun hc h=>?_)
        ·conv=>whnf
         refine⟨id,id,id,?_⟩;conv=>whnf
         refine ifc h (fun hc h=>?_) (fun hc h=>?_)
         ·conv=>whnf
          replace h:=qaa h;obtain⟨x22,h10,h⟩:=h;refine⟨_,(g43_ok _ _ _ _ h10),?_⟩;conv=>whnf
          refine ifc h (fun hc h=>?_) (fun hc h=>?_)
          ·conv=>whnf
           replace h:=qaa h;obtain⟨⟨x23,x24,⟨x25,x26,x27,x28,x29,x30⟩,x31,x32⟩,h9,h⟩:=h;refine⟨_,Codec.at_ qca h9,?_⟩;conv=>whnf
           replace h:=qaa h;obtain⟨⟨x33,x34⟩,h8,h⟩:=h;refine⟨_,(g86_ok _ _ _ h8),?_⟩;conv=>whnf
           replace h:=qaa h;obtain⟨⟨x35,x36,⟨x37,x38,x39,x40,x41,x42⟩,x43,x44⟩,h7,h⟩:=h;refine⟨_,Codec.at_ qca h7,?_⟩;conv=>whnf
           replace h:=qaa h;obtain⟨⟨x45,x46⟩,h6,h⟩:=h;refine⟨_,(g86_ok _ _ _ h6),?_⟩;conv=>whnf
           refine ifc h (fun hc h=>?_) (fun hc h=>?_)
           ·conv=>whnf
            exact⟨(3:Int),h,wk [] []⟩
           ·conv=>whnf
            exact⟨x22,h,wk [] []⟩
          ·conv=>whnf
           exact⟨x22,h,wk [] []⟩
         ·conv=>whnf
          replace h:=qaa h;obtain⟨x47,h11,h⟩:=h;refine⟨_,(g43_ok _ _ _ _ h11),?_⟩;conv=>whnf
          exact⟨x47,h,wk [] []⟩
        ·conv=>whnf
         replace h:=qaa h;obtain⟨x48,h13,h⟩:=h;refine⟨_,(g43_ok _ _ _ _ h13),?_⟩;conv=>whnf
         refine⟨id,id,?_⟩;conv=>whnf
         replace h:=qaa h;obtain⟨x49,h12,h⟩:=h;refine⟨_,fun hg=>(qyw n _ _ (qah h12 hg)),?_⟩;conv=>whnf
         refine⟨id,?_⟩;conv=>whnf
         refine ifc h (fun hc h=>?_) (fun hc h=>?_)
         ·conv=>whnf
          exact⟨(2:Int),h,wk [] []⟩
         ·conv=>whnf
          exact⟨x48,h,wk [] []⟩
     ·conv=>whnf
      refine ifc h (fun hc h=>?_) (fun hc h=>?_)
      ·conv=>whnf
       exact⟨(x3==4),h,wk [0,1] []⟩
      ·conv=>whnf
       refine ifc h (fun hc h=>?_) (fun hc h=>?_)
       ·conv=>whnf
        exact⟨(x3==11),h,wk [0,1] []⟩
       ·conv=>whnf
        exact⟨(x3==12),h,wk [0,1] []⟩
mutual
def qgd:Nat->qa6->(List qab)->Int->Option (Int)
 | 0=>fun _ _ _=>none
 | n+1=>qxj n (qgd n) (qly n)
def qly:Nat->qa6->qab->Option (Int×Int)
 | 0=>fun _ _=>none
 | n+1=>qu2 n (qgd n) (qly n)
end
theorem q0n (n:Nat):(∀ (a0z:qa6) (x3:List qab) (x4 r:Int),qgd n a0z x3 x4=some r->qae Tryz.prog 43 [PV.agg (qpv.cells a0z),PV.sl (qab.rows x3),PV.int .i64 x4] (qs6 r))/\(∀ (a0z:qa6) (a1z:qab) (r:Int×Int),qly n a0z a1z=some r->qae Tryz.prog 86 [PV.agg (qpv.cells a0z),PV.agg (qca.cells a1z)] (qrx r)):=by
 induction n with
 | zero=>exact⟨(by intros; rename_i h; cases h),(by intros; rename_i h; cases h)⟩
 | succ n ih=>
  obtain⟨hg43,hg86⟩:=ih;exact⟨q87 n (qgd n) (qly n) hg43 hg86,q64 n (qgd n) (qly n) hg43 hg86⟩
theorem qil (n:Nat):∀ (a0z:qa6) (x3:List qab) (x4 r:Int),qgd n a0z x3 x4=some r->qae Tryz.prog 43 [PV.agg (qpv.cells a0z),PV.sl (qab.rows x3),PV.int .i64 x4] (qs6 r):=(q0n n).1
theorem q9k (n:Nat):∀ (a0z:qa6) (a1z:qab) (r:Int×Int),qly n a0z a1z=some r->qae Tryz.prog 86 [PV.agg (qpv.cells a0z),PV.agg (qca.cells a1z)] (qrx r):=(q0n n).2
abbrev zac (r:Int):PV:=PV.int .i64 r
def qol (n:Nat):Int->Option (Int):=fun x6=>
 some x6
def qq2 (n:Nat) (a0z:qa6) (x3:List SS) (x4:List qab):Option (Int):=
 match a0z with
 | ⟨x1,x2⟩=>
 bnd (qgd n (qa6.mk x1 x2) x4 (3:Int)) fun x5=>
 bnd (qa5 (x5==0) (qq1 n x3)) fun x7=>
 bif(bif(x5==0)then x7 else false)then(
 qol n (2:Int))
 else(
 qol n x5)
theorem qyy (n:Nat):∀ (a0z:qa6) (x3:List SS) (x4:List qab) (r:Int),qq2 n a0z x3 x4=some r->qae Tryz.prog 85 [PV.agg (qpv.cells a0z),PV.sl (qam x3),PV.sl (qab.rows x4)] (zac r):=by
 intro a0z x3 x4 r h;obtain⟨x1,x2⟩:=a0z;unfold qq2 at h;refine qae.of_vcN qa3 (fun _ _=>Tryz.call85 _ _) Tryz.func85 (by kernel_rfl) (inl:=[1000000]) ?_;conv=>whnf
 replace h:=qaa h;obtain⟨x5,h2,h⟩:=h;refine⟨_,(qil n _ _ _ _ h2),?_⟩;conv=>whnf
 refine qje.cut (S:=Int) (fun x6=>[(7,pI x6)]) (fun x6=>[]) (qol n) (r:=r) ?_ ?_
 ·intro x6 h
  unfold qol at h;obtain rfl:=sj h;conv=>whnf
  try exact fin
 ·conv=>whnf
  refine⟨id,?_⟩;conv=>whnf
  replace h:=qaa h;obtain⟨x7,h1,h⟩:=h;refine⟨_,fun hg=>(qyw n _ _ (qah h1 hg)),?_⟩;conv=>whnf
  refine⟨id,?_⟩;conv=>whnf
  refine ifc h (fun hc h=>?_) (fun hc h=>?_)
  ·conv=>whnf
   exact⟨(2:Int),h,wk [] []⟩
  ·conv=>whnf
   exact⟨x5,h,wk [] []⟩
abbrev q4c (r:qa6):PV:=PV.agg (qpv.cells r)
def qhj (n:Nat) (a0z:qa6) (x3:SS) (x4:Int):Option (qa6):=
 match a0z with
 | ⟨x1,x2⟩=>
 bnd (qa5 (!(x3==([]:SS))) (qd2 n (qa6.mk x1 x2) x3)) fun x5=>
 bif(bif(x3==([]:SS))then true else(decide (x5>0)))then(
 some (qa6.mk x1 x2))
 else(
 chk (decide ((qam x1).length * 16<=140737488355328)) (
 chk (decide ((qbp .i64 x2).length * 8<=140737488355328)) (
 chk (decide ((qam (x1++[x3])).length * 16<=140737488355328)) (
 chk (decide ((qbp .i64 (x2++[x4])).length * 8<=140737488355328)) (
 some (qa6.mk (x1++[x3]) (x2++[x4])))))))
theorem qnq (n:Nat):∀ (a0z:qa6) (x3:SS) (x4:Int) (r:qa6),qhj n a0z x3 x4=some r->qae Tryz.prog 45 [PV.agg (qpv.cells a0z),PV.str x3,PV.int .i64 x4] (q4c r):=by
 intro a0z x3 x4 r h;obtain⟨x1,x2⟩:=a0z;unfold qhj at h;refine qae.of_vcN qa3 (fun _ _=>Tryz.call45 _ _) Tryz.func45 (by kernel_rfl) (inl:=[1000000]) ?_;conv=>whnf
 refine⟨id,id,?_⟩;conv=>whnf
 replace h:=qaa h;obtain⟨x5,h5,h⟩:=h;refine⟨_,fun hg=>(qem n _ _ _ (qah h5 hg)),?_⟩;conv=>whnf
 refine⟨id,id,?_⟩;conv=>whnf
 refine ifc h (fun hc h=>?_) (fun hc h=>?_)
 ·obtain rfl:=sj h
  conv=>whnf
  try exact fin
 ·conv=>whnf
  obtain⟨h4,h⟩:=qaw h;refine⟨⟨Codec.wide qqt x1,of_decide_eq_true h4,qdx h4 (by decide)⟩,?_⟩;conv=>whnf
  obtain⟨h3,h⟩:=qaw h;refine⟨⟨Codec.wide (zk3 .i64) x2,of_decide_eq_true h3,qdx h3 (by decide)⟩,?_⟩;conv=>whnf
  refine⟨Codec.one qqt [x3],qam [x3],.inl rfl,?_⟩;conv=>whnf
  rw[show qam x1++qam [x3]=qam (x1++[x3])from Codec.append qqt x1 [x3]];conv=>whnf
  obtain⟨h2,h⟩:=qaw h;refine⟨⟨Codec.wide qqt (x1++[x3]),of_decide_eq_true h2,qdx h2 (by decide)⟩,?_⟩;conv=>whnf
  refine⟨⟨rfl,rfl,rfl⟩,?_⟩;conv=>whnf
  refine⟨Codec.one (zk3 .i64) [x4],qbp .i64 [x4],.inl rfl,?_⟩;conv=>whnf
  rw[show qbp .i64 x2++qbp .i64 [x4]=qbp .i64 (x2++[x4])from Codec.append (zk3 .i64) x2 [x4]];conv=>whnf
  obtain⟨h1,h⟩:=qaw h;refine⟨⟨Codec.wide (zk3 .i64) (x2++[x4]),of_decide_eq_true h1,qdx h1 (by decide)⟩,?_⟩;conv=>whnf
  refine⟨⟨rfl,rfl,rfl⟩,?_⟩;obtain rfl:=sj h;conv=>whnf
  try exact fin
abbrev zab (r:qa6×Int):PV:=PV.tup [PV.agg (qpv.cells r.1),PV.int .i64 r.2]
def qkd (n:Nat) (x13:List SS) (x14:List Int) (x4:Bool) (x18 x19 x1:List SS) (x2:List Int) (x20:List qab) (x17:SS) (nx2:Int×List SS×List Int->Option (qa6×Int)) (x8:Int):Int->Option (qa6×Int):=fun x21=>
 bif(decide (x21>1))then(
 some (qa6.mk x13 x14,(3:Int)))
 else(
 bif(bif(bif(x21==1)then x4 else false)then(decide ((IntKind.i64.wrap (((qam x18).length:Int)+((qam x19).length:Int)))>0))else false)then(
 some (qa6.mk x13 x14,(2:Int)))
 else(
 bnd (qq2 n (qa6.mk x1 x2) x19 x20) fun x22=>
 bif(x22 != 0)then(
 some (qa6.mk x13 x14,x22))
 else(
 bnd (qhj n (qa6.mk x13 x14) x17 (1:Int)) fun⟨x23,x24⟩=>
 nx2 ((IntKind.i64.wrap (x8+1)),x23,x24))))
def qkc (n:Nat) (x3:List qa9) (x5 x8:Int) (x4:Bool) (x1:List SS) (x2:List Int) (nx2:Int×List SS×List Int->Option (qa6×Int)):List SS×List Int->Option (qa6×Int):=fun(x13,x14)=>
 bnd (idx x3 x5) fun⟨x15,x16⟩=>
 bnd (idx x15 x8) fun⟨x17,x18,x19,x20⟩=>
 bif(!(x17==([]:SS)))then(
 bnd (qd2 n (qa6.mk x13 x14) x17) fun x25=>
 qkd n x13 x14 x4 x18 x19 x1 x2 x20 x17 nx2 x8 x25)
 else(
 qkd n x13 x14 x4 x18 x19 x1 x2 x20 x17 nx2 x8 (0:Int))
def qjd (n:Nat) (x3:List qa9) (x5:Int) (x4:Bool) (x1:List SS) (x2:List Int) (nx1:Int×List SS×List Int->Option (qa6×Int)):(Int×List SS×List Int->Option (qa6×Int))->Int×List SS×List Int->Option (qa6×Int):=fun nx2 (x8,x9,x10)=>
 bnd (idx x3 x5) fun⟨x11,x12⟩=>
 bif(decide (x8<((qaf.rows x11).length:Int)))then(
 bif(decide (x8>0))then(
 bnd (idx x3 x5) fun⟨x26,x27⟩=>
 bnd (idx x27 (IntKind.i64.wrap (x8 - 1))) fun⟨x28,x29,x30,x31,x32⟩=>
 bnd (qa5 (!(x28==([]:SS))) (qd2 n (qa6.mk x9 x10) x28)) fun x33=>
 bif(bif(bif(!(x28==([]:SS)))then(decide (x33>0))else false)then true else(bif x4 then(bif(x29==([]:SS))then true else(x30==2))else false))then(
 some (qa6.mk x9 x10,(2:Int)))
 else(
 bnd (qq2 n (qa6.mk x1 x2) x31 x32) fun x34=>
 bif(x34 != 0)then(
 some (qa6.mk x9 x10,x34))
 else(
 bnd (qhj n (qa6.mk x9 x10) x28 (2:Int)) fun⟨x35,x36⟩=>
 qkc n x3 x5 x8 x4 x1 x2 nx2 (x35,x36))))
 else(
 qkc n x3 x5 x8 x4 x1 x2 nx2 (x9,x10)))
 else(
 nx1 ((IntKind.i64.wrap (x5+1)),x9,x10))
def qlz (n:Nat) (x3:List qa9) (x4:Bool) (x1:List SS) (x2:List Int):(Int×List SS×List Int->Option (qa6×Int))->Int×List SS×List Int->Option (qa6×Int):=fun nx1 (x5,x6,x7)=>
 bif(decide (x5<((qa9.rows x3).length:Int)))then(
 qap (qjd n x3 x5 x4 x1 x2 nx1) n ((0:Int),x6,x7))
 else(
 some (qa6.mk x6 x7,(0:Int)))
def qo9 (n:Nat) (a0z:qa6) (x3:List qa9) (x4:Bool):Option (qa6×Int):=
 match a0z with
 | ⟨x1,x2⟩=>
 qap (qlz n x3 x4 x1 x2) n ((0:Int),x1,x2)
set_option maxHeartbeats 4000000 in
theorem qt1 (n:Nat):∀ (a0z:qa6) (x3:List qa9) (x4:Bool) (r:qa6×Int),qo9 n a0z x3 x4=some r->qae Tryz.prog 42 [PV.agg (qpv.cells a0z),PV.sl (qa9.rows x3),PV.bool x4] (zab r):=by
 intro a0z x3 x4 r h;obtain⟨x1,x2⟩:=a0z;unfold qo9 at h;refine qae.of_vcN qa3 (fun _ _=>Tryz.call42 _ _) Tryz.func42 (by kernel_rfl) (inl:=[1000000]) ?_;conv=>whnf
 refine qby.fn [1000000] (S:=Int×List SS×List Int) (fun(x5,x6,x7)=>[(1,pP x3),(2,pB x4),(3,.ptr 0 0),(6,.ptr 1 0),(8,.ptr 2 0),(9,pI x5)]) (fun(x5,x6,x7)=>[.box 77 [pT x1,.p (.sl (qbp .i64 x2))],.box 77 [.p (.nilsl),.p (.nilsl)],.box 77 [pT x6,.p (.sl (qbp .i64 x7))]]) (B:=qlz n x3 x4 x1 x2) h (wk [0,1,2] []) ?_;intro nx1 st h;obtain⟨x5,x6,x7⟩:=st;unfold qlz at h;conv=>whnf
 refine ifc h (fun hc h=>?_) (fun hc h=>?_)
 ·conv=>whnf
  refine qby.fn [1000000] (S:=Int×List SS×List Int) (fun(x8,x9,x10)=>[(1,pP x3),(2,pB x4),(3,.ptr 0 0),(6,.ptr 1 0),(8,.ptr 2 0),(9,pI x5),(10,pI x8)]) (fun(x8,x9,x10)=>[.box 77 [pT x1,.p (.sl (qbp .i64 x2))],.box 77 [.p (.nilsl),.p (.nilsl)],.box 77 [pT x9,.p (.sl (qbp .i64 x10))]]) (B:=qjd n x3 x5 x4 x1 x2 nx1) h (wk [0,1,2] []) ?_;intro nx2 st h;obtain⟨x8,x9,x10⟩:=st;unfold qjd at h;conv=>whnf
  replace h:=qaa h;obtain⟨⟨x11,x12⟩,h11,h⟩:=h;refine⟨_,Codec.at_ qoa h11,?_⟩;conv=>whnf
  refine ifc h (fun hc h=>?_) (fun hc h=>?_)
  ·conv=>whnf
   refine qje.cut (S:=List SS×List Int) (fun(x13,x14)=>[(1,pP x3),(2,pB x4),(3,.ptr 0 0),(6,.ptr 1 0),(8,.ptr 2 0),(9,pI x5),(10,pI x8)]) (fun(x13,x14)=>[.box 77 [pT x1,.p (.sl (qbp .i64 x2))],.box 77 [.p (.nilsl),.p (.nilsl)],.box 77 [pT x13,.p (.sl (qbp .i64 x14))]]) (qkc n x3 x5 x8 x4 x1 x2 nx2) (r:=r) ?_ ?_
   ·intro st h
    obtain⟨x13,x14⟩:=st;unfold qkc at h;conv=>whnf
    replace h:=qaa h;obtain⟨⟨x15,x16⟩,h5,h⟩:=h;refine⟨_,Codec.at_ qoa h5,?_⟩;conv=>whnf
    replace h:=qaa h;obtain⟨⟨x17,x18,x19,x20⟩,h4,h⟩:=h;refine⟨_,Codec.at_ qeq h4,?_⟩;conv=>whnf
    refine qje.cut (S:=Int) (fun x21=>[(1,pP x3),(2,pB x4),(3,.ptr 0 0),(6,.ptr 1 0),(8,.ptr 2 0),(9,pI x5),(10,pI x8),(13,.ptr 3 0),(14,pI x21)]) (fun x21=>[.box 77 [pT x1,.p (.sl (qbp .i64 x2))],.box 77 [.p (.nilsl),.p (.nilsl)],.box 77 [pT x13,.p (.sl (qbp .i64 x14))],.box 63 [pS x17,pT x18,pT x19,pE x20]]) (qkd n x13 x14 x4 x18 x19 x1 x2 x20 x17 nx2 x8) (r:=r) ?_ ?_
    ·intro x21 h
     unfold qkd at h;conv=>whnf
     refine ifc h (fun hc h=>?_) (fun hc h=>?_)
     ·obtain rfl:=sj h
      conv=>whnf
      try exact fin
     ·conv=>whnf
      refine⟨id,id,id,id,id,id,id,id,id,?_⟩;conv=>whnf
      refine ifc h (fun hc h=>?_) (fun hc h=>?_)
      ·obtain rfl:=sj h
       conv=>whnf
       try exact fin
      ·conv=>whnf
       replace h:=qaa h;obtain⟨x22,h2,h⟩:=h;refine⟨_,(qyy n _ _ _ _ h2),?_⟩;conv=>whnf
       refine ifc h (fun hc h=>?_) (fun hc h=>?_)
       ·obtain rfl:=sj h
        conv=>whnf
        try exact fin
       ·conv=>whnf
        replace h:=qaa h;obtain⟨⟨x23,x24⟩,h1,h⟩:=h;refine⟨_,(qnq n _ _ _ _ h1),?_⟩;conv=>whnf
        exact⟨((IntKind.i64.wrap (x8+1)),x23,x24),h,wk [0,1,2] []⟩
    ·conv=>whnf
     refine ifc h (fun hc h=>?_) (fun hc h=>?_)
     ·conv=>whnf
      replace h:=qaa h;obtain⟨x25,h3,h⟩:=h;refine⟨_,(qem n _ _ _ h3),?_⟩;conv=>whnf
      exact⟨x25,h,wk [0,1,2,3] []⟩
     ·conv=>whnf
      exact⟨(0:Int),h,wk [0,1,2,3] []⟩
   ·conv=>whnf
    refine ifc h (fun hc h=>?_) (fun hc h=>?_)
    ·conv=>whnf
     replace h:=qaa h;obtain⟨⟨x26,x27⟩,h10,h⟩:=h;refine⟨_,Codec.at_ qoa h10,?_⟩;conv=>whnf
     replace h:=qaa h;obtain⟨⟨x28,x29,x30,x31,x32⟩,h9,h⟩:=h;refine⟨_,Codec.at_ qgn h9,?_⟩;conv=>whnf
     refine⟨id,id,id,?_⟩;conv=>whnf
     replace h:=qaa h;obtain⟨x33,h8,h⟩:=h;refine⟨_,fun hg=>(qem n _ _ _ (qah h8 hg)),?_⟩;conv=>whnf
     refine⟨id,id,id,id,id,id,id,id,id,id,id,id,id,?_⟩;conv=>whnf
     refine ifc h (fun hc h=>?_) (fun hc h=>?_)
     ·obtain rfl:=sj h
      conv=>whnf
      try exact fin
     ·conv=>whnf
      replace h:=qaa h;obtain⟨x34,h7,h⟩:=h;refine⟨_,(qyy n _ _ _ _ h7),?_⟩;conv=>whnf
      refine ifc h (fun hc h=>?_) (fun hc h=>?_)
      ·obtain rfl:=sj h
       conv=>whnf
       try exact fin
      ·conv=>whnf
       replace h:=qaa h;obtain⟨⟨x35,x36⟩,h6,h⟩:=h;refine⟨_,(qnq n _ _ _ _ h6),?_⟩;conv=>whnf
       exact⟨(x35,x36),h,wk [0,1,2] []⟩
    ·conv=>whnf
     exact⟨(x9,x10),h,wk [0,1,2] []⟩
  ·conv=>whnf
   exact⟨((IntKind.i64.wrap (x5+1)),x9,x10),h,wk [0,1,2] []⟩
 ·obtain rfl:=sj h
  conv=>whnf
  try exact fin
abbrev zbx (r:qa6×Int):PV:=PV.tup [PV.agg (qpv.cells r.1),PV.int .i64 r.2]
def qns (n:Nat) (x26:List SS) (x27:List Int) (x3:Int) (x17:List qbh) (x25:Int) (nx1:Int×List SS×List Int->Option (qa6×Int)):Int×Int->Option (qa6×Int):=fun(x39,x40)=>
 bif(x40 != 0)then(
 some (qa6.mk x26 x27,x40))
 else(
 bif(bif(x3==9)then(x39 != 3)else false)then(
 some (qa6.mk x26 x27,(3:Int)))
 else(
 bnd (idx x17 x25) fun⟨⟨x41,x42,⟨x43,x44,x45,x46,x47,x48⟩,x49,x50⟩,x51⟩=>
 bnd (qd2 n (qa6.mk x26 x27) x51) fun x52=>
 bif(decide (x52>0))then(
 some (qa6.mk x26 x27,(2:Int)))
 else(
 bnd (idx x17 x25) fun⟨⟨x53,x54,⟨x55,x56,x57,x58,x59,x60⟩,x61,x62⟩,x63⟩=>
 bnd (qhj n (qa6.mk x26 x27) x63 x39) fun⟨x64,x65⟩=>
 nx1 ((IntKind.i64.wrap (x25+1)),x64,x65))))
def qqc (n:Nat) (x1:List SS) (x2:List Int) (x37:List qab) (x26:List SS) (x27:List Int) (x3:Int) (x17:List qbh) (x25:Int) (nx1:Int×List SS×List Int->Option (qa6×Int)):Int->Option (qa6×Int):=fun x66=>
 bnd (qgd n (qa6.mk x1 x2) x37 x66) fun x67=>
 qns n x26 x27 x3 x17 x25 nx1 ((3:Int),x67)
def qon (n:Nat) (x26:List SS) (x27:List Int):Int->Option (qa6×Int):=fun x85=>
 some (qa6.mk x26 x27,x85)
def qom (n:Nat) (x26:List SS) (x27:List Int) (x5:List qab):Int->Option (qa6×Int):=fun x84=>
 bif(x84==0)then(
 bnd (qgd n (qa6.mk x26 x27) x5 (3:Int)) fun x86=>
 qon n x26 x27 x86)
 else(
 qon n x26 x27 x84)
def qin (n:Nat) (x19:List qar) (x26:List SS) (x27:List Int) (x20 x21 x5:List qab):(Int->Option (qa6×Int))->Int->Option (qa6×Int):=fun nx2 x70=>
 bif(decide (x70<((qar.rows x19).length:Int)))then(
 bnd (idx x19 x70) fun⟨⟨x71,x72,⟨x73,x74,x75,x76,x77,x78⟩,x79,x80⟩,x81⟩=>
 bnd (qgd n (qa6.mk x26 x27) [qab.mk x71 x72 (Val.mk x73 x74 x75 x76 x77 x78) x79 x80] (3:Int)) fun x82=>
 bif(x82 != 0)then(
 some (qa6.mk x26 x27,x82))
 else(
 nx2 (IntKind.i64.wrap (x70+1))))
 else(
 bnd (qgd n (qa6.mk ([]:List SS) ([]:List Int)) x20 (3:Int)) fun x83=>
 bif(x83==0)then(
 bnd (qgd n (qa6.mk ([]:List SS) ([]:List Int)) x21 (3:Int)) fun x87=>
 qom n x26 x27 x5 x87)
 else(
 qom n x26 x27 x5 x83))
def qkw (n:Nat) (x17:List qbh) (x1:List SS) (x2:List Int) (x3:Int) (x19:List qar) (x20 x21 x5:List qab):(Int×List SS×List Int->Option (qa6×Int))->Int×List SS×List Int->Option (qa6×Int):=fun nx1 (x25,x26,x27)=>
 bif(decide (x25<((qbh.rows x17).length:Int)))then(
 bnd (idx x17 x25) fun⟨⟨x28,x29,⟨x30,x31,x32,x33,x34,x35⟩,x36,x37⟩,x38⟩=>
 bif(x28==14)then(
 bif(x29==([99,111,117,110,116]:SS))then(
 qqc n x1 x2 x37 x26 x27 x3 x17 x25 nx1 (0:Int))
 else(
 qqc n x1 x2 x37 x26 x27 x3 x17 x25 nx1 (3:Int)))
 else(
 bnd (qly n (qa6.mk x1 x2) (qab.mk x28 x29 (Val.mk x30 x31 x32 x33 x34 x35) x36 x37)) fun⟨x68,x69⟩=>
 qns n x26 x27 x3 x17 x25 nx1 (x68,x69)))
 else(
 qap (qin n x19 x26 x27 x20 x21 x5) n (0:Int))
def qun (n:Nat) (a0z:qa6) (a1z:qad):Option (qa6×Int):=
 match a0z,a1z with
 | ⟨x1,x2⟩,⟨x3,x4,x5,⟨x6,x7,⟨x8,x9,x10,x11,x12,x13⟩,x14,x15⟩,x16,x17,x18,x19,x20,x21,x22,x23,x24⟩=>
 qap (qkw n x17 x1 x2 x3 x19 x20 x21 x5) n ((0:Int),([]:List _),([]:List _))
set_option maxHeartbeats 4000000 in
theorem q9n (n:Nat):∀ (a0z:qa6) (a1z:qad) (r:qa6×Int),qun n a0z a1z=some r->qae Tryz.prog 46 [PV.agg (qpv.cells a0z),PV.agg (qcw.cells a1z)] (zbx r):=by
 intro a0z a1z r h;obtain⟨x1,x2⟩:=a0z;obtain⟨x3,x4,x5,⟨x6,x7,⟨x8,x9,x10,x11,x12,x13⟩,x14,x15⟩,x16,x17,x18,x19,x20,x21,x22,x23,x24⟩:=a1z;unfold qun at h;refine qae.of_vcN qa3 (fun _ _=>Tryz.call46 _ _) Tryz.func46 (by kernel_rfl) (inl:=[1000000]) ?_;conv=>whnf
 refine qby.fn [1000000] (S:=Int×List SS×List Int) (fun(x25,x26,x27)=>[(2,.ptr 0 0),(3,.ptr 1 0),(4,.ptr 2 0),(6,.ptr 3 0),(7,pI x25)]) (fun(x25,x26,x27)=>[.box 77 [pT x1,.p (.sl (qbp .i64 x2))],.box 55 [pI x3,pP x4,pE x5,pI x6,pS x7,pI x8,pB x9,pI x10,pS x11,pV x12,pT x13,pT x14,pE x15,pS x16,pA x17,pB x18,pO x19,pE x20,pE x21,pU x22,pT x23,pB x24],.box 77 [.p (.nilsl),.p (.nilsl)],.box 77 [pT x26,.p (.sl (qbp .i64 x27))]]) (B:=qkw n x17 x1 x2 x3 x19 x20 x21 x5) h (wk [0,1,2,3] []) ?_;intro nx1 st h;obtain⟨x25,x26,x27⟩:=st;unfold qkw at h;conv=>whnf
 refine ifc h (fun hc h=>?_) (fun hc h=>?_)
 ·conv=>whnf
  replace h:=qaa h;obtain⟨⟨⟨x28,x29,⟨x30,x31,x32,x33,x34,x35⟩,x36,x37⟩,x38⟩,h7,h⟩:=h;refine⟨_,Codec.at_ qtc h7,?_⟩;conv=>whnf
  refine qje.cut (S:=Int×Int) (fun(x39,x40)=>[(2,.ptr 0 0),(3,.ptr 1 0),(4,.ptr 2 0),(6,.ptr 3 0),(7,pI x25),(8,pI x39),(9,pI x40)]) (fun(x39,x40)=>[.box 77 [pT x1,.p (.sl (qbp .i64 x2))],.box 55 [pI x3,pP x4,pE x5,pI x6,pS x7,pI x8,pB x9,pI x10,pS x11,pV x12,pT x13,pT x14,pE x15,pS x16,pA x17,pB x18,pO x19,pE x20,pE x21,pU x22,pT x23,pB x24],.box 77 [.p (.nilsl),.p (.nilsl)],.box 77 [pT x26,.p (.sl (qbp .i64 x27))]]) (qns n x26 x27 x3 x17 x25 nx1) (r:=r) ?_ ?_
  ·intro st h
   obtain⟨x39,x40⟩:=st;unfold qns at h;conv=>whnf
   refine ifc h (fun hc h=>?_) (fun hc h=>?_)
   ·obtain rfl:=sj h
    conv=>whnf
    try exact fin
   ·conv=>whnf
    refine⟨id,id,?_⟩;conv=>whnf
    refine ifc h (fun hc h=>?_) (fun hc h=>?_)
    ·obtain rfl:=sj h
     conv=>whnf
     try exact fin
    ·conv=>whnf
     replace h:=qaa h;obtain⟨⟨⟨x41,x42,⟨x43,x44,x45,x46,x47,x48⟩,x49,x50⟩,x51⟩,h4,h⟩:=h;refine⟨_,Codec.at_ qtc h4,?_⟩;conv=>whnf
     replace h:=qaa h;obtain⟨x52,h3,h⟩:=h;refine⟨_,(qem n _ _ _ h3),?_⟩;conv=>whnf
     refine ifc h (fun hc h=>?_) (fun hc h=>?_)
     ·obtain rfl:=sj h
      conv=>whnf
      try exact fin
     ·conv=>whnf
      replace h:=qaa h;obtain⟨⟨⟨x53,x54,⟨x55,x56,x57,x58,x59,x60⟩,x61,x62⟩,x63⟩,h2,h⟩:=h;refine⟨_,Codec.at_ qtc h2,?_⟩;conv=>whnf
      replace h:=qaa h;obtain⟨⟨x64,x65⟩,h1,h⟩:=h;refine⟨_,(qnq n _ _ _ _ h1),?_⟩;conv=>whnf
      exact⟨((IntKind.i64.wrap (x25+1)),x64,x65),h,wk [0,1,2,3] []⟩
  ·conv=>whnf
   refine ifc h (fun hc h=>?_) (fun hc h=>?_)
   ·conv=>whnf
    refine qje.cut (S:=Int) (fun x66=>[(2,.ptr 0 0),(3,.ptr 1 0),(4,.ptr 2 0),(6,.ptr 3 0),(7,pI x25),(8,pI x66),(10,.ptr 4 0)]) (fun x66=>[.box 77 [pT x1,.p (.sl (qbp .i64 x2))],.box 55 [pI x3,pP x4,pE x5,pI x6,pS x7,pI x8,pB x9,pI x10,pS x11,pV x12,pT x13,pT x14,pE x15,pS x16,pA x17,pB x18,pO x19,pE x20,pE x21,pU x22,pT x23,pB x24],.box 77 [.p (.nilsl),.p (.nilsl)],.box 77 [pT x26,.p (.sl (qbp .i64 x27))],.box 47 [pI x28,pS x29,pI x30,pB x31,pI x32,pS x33,pV x34,pT x35,pT x36,pE x37]]) (qqc n x1 x2 x37 x26 x27 x3 x17 x25 nx1) (r:=r) ?_ ?_
    ·intro x66 h
     unfold qqc at h;conv=>whnf
     replace h:=qaa h;obtain⟨x67,h5,h⟩:=h;refine⟨_,(qil n _ _ _ _ h5),?_⟩;conv=>whnf
     exact⟨((3:Int),x67),h,wk [0,1,2,3] []⟩
    ·conv=>whnf
     refine ifc h (fun hc h=>?_) (fun hc h=>?_)
     ·conv=>whnf
      exact⟨(0:Int),h,wk [0,1,2,3,4] []⟩
     ·conv=>whnf
      exact⟨(3:Int),h,wk [0,1,2,3,4] []⟩
   ·conv=>whnf
    replace h:=qaa h;obtain⟨⟨x68,x69⟩,h6,h⟩:=h;refine⟨_,(q9k n _ _ _ h6),?_⟩;conv=>whnf
    exact⟨(x68,x69),h,wk [0,1,2,3] []⟩
 ·conv=>whnf
  refine qby.fn [1000000] (S:=Int) (fun x70=>[(3,.ptr 0 0),(4,.ptr 1 0),(6,.ptr 2 0),(11,pI x70)]) (fun x70=>[.box 55 [pI x3,pP x4,pE x5,pI x6,pS x7,pI x8,pB x9,pI x10,pS x11,pV x12,pT x13,pT x14,pE x15,pS x16,pA x17,pB x18,pO x19,pE x20,pE x21,pU x22,pT x23,pB x24],.box 77 [.p (.nilsl),.p (.nilsl)],.box 77 [pT x26,.p (.sl (qbp .i64 x27))]]) (B:=qin n x19 x26 x27 x20 x21 x5) h (wk [1,2,3] []) ?_;intro nx2 x70 h;unfold qin at h;conv=>whnf
  refine ifc h (fun hc h=>?_) (fun hc h=>?_)
  ·conv=>whnf
   replace h:=qaa h;obtain⟨⟨⟨x71,x72,⟨x73,x74,x75,x76,x77,x78⟩,x79,x80⟩,x81⟩,h9,h⟩:=h;refine⟨_,Codec.at_ qpz h9,?_⟩;conv=>whnf
   refine⟨Codec.one qca [qab.mk x71 x72 (Val.mk x73 x74 x75 x76 x77 x78) x79 x80],qab.rows [qab.mk x71 x72 (Val.mk x73 x74 x75 x76 x77 x78) x79 x80],.inl rfl,?_⟩;conv=>whnf
   replace h:=qaa h;obtain⟨x82,h8,h⟩:=h;refine⟨_,(qil n _ _ _ _ h8),?_⟩;conv=>whnf
   refine ifc h (fun hc h=>?_) (fun hc h=>?_)
   ·obtain rfl:=sj h
    conv=>whnf
    try exact fin
   ·conv=>whnf
    exact⟨(IntKind.i64.wrap (x70+1)),h,wk [0,1,2] []⟩
  ·conv=>whnf
   replace h:=qaa h;obtain⟨x83,h12,h⟩:=h;refine⟨_,(qae.leArgs (qil n _ _ _ _ h12) (by try exact fin)),?_⟩;conv=>whnf
   refine qje.cut (S:=Int) (fun x84=>[(3,.ptr 0 0),(4,.ptr 1 0),(6,.ptr 2 0),(13,pI x84)]) (fun x84=>[.box 55 [pI x3,pP x4,pE x5,pI x6,pS x7,pI x8,pB x9,pI x10,pS x11,pV x12,pT x13,pT x14,pE x15,pS x16,pA x17,pB x18,pO x19,pE x20,pE x21,pU x22,pT x23,pB x24],.box 77 [.p (.nilsl),.p (.nilsl)],.box 77 [pT x26,.p (.sl (qbp .i64 x27))]]) (qom n x26 x27 x5) (r:=r) ?_ ?_
   ·intro x84 h
    unfold qom at h;conv=>whnf
    refine qje.cut (S:=Int) (fun x85=>[(4,.ptr 0 0),(6,.ptr 1 0),(13,pI x85)]) (fun x85=>[.box 77 [.p (.nilsl),.p (.nilsl)],.box 77 [pT x26,.p (.sl (qbp .i64 x27))]]) (qon n x26 x27) (r:=r) ?_ ?_
    ·intro x85 h
     unfold qon at h;obtain rfl:=sj h;conv=>whnf
     try exact fin
    ·conv=>whnf
     refine ifc h (fun hc h=>?_) (fun hc h=>?_)
     ·conv=>whnf
      replace h:=qaa h;obtain⟨x86,h10,h⟩:=h;refine⟨_,(qil n _ _ _ _ h10),?_⟩;conv=>whnf
      exact⟨x86,h,wk [1,2] []⟩
     ·conv=>whnf
      exact⟨x84,h,wk [1,2] []⟩
   ·conv=>whnf
    refine ifc h (fun hc h=>?_) (fun hc h=>?_)
    ·conv=>whnf
     replace h:=qaa h;obtain⟨x87,h11,h⟩:=h;refine⟨_,(qae.leArgs (qil n _ _ _ _ h11) (by try exact fin)),?_⟩;conv=>whnf
     exact⟨x87,h,wk [0,1,2] []⟩
    ·conv=>whnf
     exact⟨x83,h,wk [0,1,2] []⟩
abbrev q72 (r:qa6×Int):PV:=PV.tup [PV.agg (qpv.cells r.1),PV.int .i64 r.2]
def qmv (n:Nat) (x25:List SS) (x26:List Int):Int->Option (qa6×Int):=fun x28=>
 some (qa6.mk x25 x26,x28)
def qmw (n:Nat) (x1:List SS) (x2:List Int) (x16:SS):Int->Option (qa6×Int):=fun x31=>
 bnd (qhj n (qa6.mk x1 x2) x16 (3:Int)) fun⟨x32,x33⟩=>
 some (qa6.mk x32 x33,x31)
def qqb (n:Nat) (x1:List SS) (x2:List Int) (x4:List qa9):Unit->Option (qa6×Int):=fun _=>
 bnd (qo9 n (qa6.mk x1 x2) x4 true) fun⟨⟨x44,x45⟩,x46⟩=>
 some (qa6.mk x44 x45,x46)
def qla (n:Nat) (nx1:Int->Option (qa6×Int)) (x49:Int):Unit->Option (qa6×Int):=fun _=>
 nx1 (IntKind.i64.wrap (x49+1))
def qoz (n:Nat) (x3:Int) (x51:SS) (x1:List SS) (x2:List Int) (x53:Int) (x54:SS) (x55:Int) (x56:Bool) (x57:Int) (x58:SS) (x59:List Val) (x60 x61:List SS) (x62:List qab) (nx1:Int->Option (qa6×Int)) (x49:Int):Unit->Option (qa6×Int):=fun _=>
 bif(bif(x3==6)then(!(x51==([]:SS)))else false)then(
 bnd (qgd n (qa6.mk x1 x2) [qab.mk x53 x54 (Val.mk x55 x56 x57 x58 x59 x60) x61 x62] (3:Int)) fun x64=>
 bif(x64 != 0)then(
 some (qa6.mk x1 x2,x64))
 else(
 qla n nx1 x49 ()))
 else(
 qla n nx1 x49 ())
def qoy (n:Nat) (x63:Int) (x52:SS) (x1:List SS) (x2:List Int) (x3:Int) (x51:SS) (x53:Int) (x54:SS) (x55:Int) (x56:Bool) (x57:Int) (x58:SS) (x59:List Val) (x60 x61:List SS) (x62:List qab) (nx1:Int->Option (qa6×Int)) (x49:Int):Unit->Option (qa6×Int):=fun _=>
 bif(bif(x63==3)then true else(bif(x63==2)then(!(x52==([]:SS)))else false))then(
 some (qa6.mk x1 x2,(3:Int)))
 else(
 qoz n x3 x51 x1 x2 x53 x54 x55 x56 x57 x58 x59 x60 x61 x62 nx1 x49 ())
def qox (n:Nat) (x22:List qag) (x49:Int) (x1:List SS) (x2:List Int) (x3:Int) (nx1:Int->Option (qa6×Int)):Unit->Option (qa6×Int):=fun _=>
 bnd (idx x22 x49) fun⟨x50,x51,x52,⟨x53,x54,⟨x55,x56,x57,x58,x59,x60⟩,x61,x62⟩⟩=>
 bnd (qd2 n (qa6.mk x1 x2) x50) fun x63=>
 bif(x63==0)then(
 some (qa6.mk x1 x2,(2:Int)))
 else(
 qoy n x63 x52 x1 x2 x3 x51 x53 x54 x55 x56 x57 x58 x59 x60 x61 x62 nx1 x49 ())
def qhy (n:Nat) (x22:List qag) (x1:List SS) (x2:List Int) (x3:Int):(Int->Option (qa6×Int))->Int->Option (qa6×Int):=fun nx1 x49=>
 bif(decide (x49<((qag.rows x22).length:Int)))then(
 qox n x22 x49 x1 x2 x3 nx1 ())
 else(
 some (qa6.mk x1 x2,(0:Int)))
def qo1 (n:Nat) (x67:Int) (x1:List SS) (x2:List Int) (nx2:Int->Option (qa6×Int)) (x65:Int):Unit->Option (qa6×Int):=fun _=>
 bif(x67==3)then(
 some (qa6.mk x1 x2,(3:Int)))
 else(
 nx2 (IntKind.i64.wrap (x65+1)))
def qo0 (n:Nat) (x23:List SS) (x65:Int) (x1:List SS) (x2:List Int) (nx2:Int->Option (qa6×Int)):Unit->Option (qa6×Int):=fun _=>
 bnd (idx x23 x65) fun x66=>
 bnd (qd2 n (qa6.mk x1 x2) x66) fun x67=>
 bif(x67==0)then(
 some (qa6.mk x1 x2,(2:Int)))
 else(
 qo1 n x67 x1 x2 nx2 x65 ())
def qhz (n:Nat) (x23 x1:List SS) (x2:List Int):(Int->Option (qa6×Int))->Int->Option (qa6×Int):=fun nx2 x65=>
 bif(decide (x65<((qam x23).length:Int)))then(
 qo0 n x23 x65 x1 x2 nx2 ())
 else(
 some (qa6.mk x1 x2,(0:Int)))
def qmx (n:Nat) (x22:List qag) (x1:List SS) (x2:List Int) (x3:Int) (x23:List SS) (x4:List qa9) (x5:List qab) (x6:Int) (x7:SS) (x8:Int) (x9:Bool) (x10:Int) (x11:SS) (x12:List Val) (x13 x14:List SS) (x15:List qab) (x16:SS) (x17:List qbh) (x18:Bool) (x19:List qar) (x20 x21:List qab) (x24:Bool):Bool->Option (qa6×Int):=fun x48=>
 bif x48 then(
 qap (qhy n x22 x1 x2 x3) n (0:Int))
 else(
 bif(x3==8)then(
 qap (qhz n x23 x1 x2) n (0:Int))
 else(
 bnd (qun n (qa6.mk x1 x2) (qad.mk x3 x4 x5 (qab.mk x6 x7 (Val.mk x8 x9 x10 x11 x12 x13) x14 x15) x16 x17 x18 x19 x20 x21 x22 x23 x24)) fun⟨⟨x68,x69⟩,x70⟩=>
 some (qa6.mk x68 x69,x70)))
def qrs (n:Nat) (a0z:qa6) (a1z:qad):Option (qa6×Int):=
 match a0z,a1z with
 | ⟨x1,x2⟩,⟨x3,x4,x5,⟨x6,x7,⟨x8,x9,x10,x11,x12,x13⟩,x14,x15⟩,x16,x17,x18,x19,x20,x21,x22,x23,x24⟩=>
 bif(x3==1)then(
 bnd (qo9 n (qa6.mk x1 x2) x4 false) fun⟨⟨x25,x26⟩,x27⟩=>
 bif(x27==0)then(
 bnd (qgd n (qa6.mk x25 x26) x5 (3:Int)) fun x29=>
 qmv n x25 x26 x29)
 else(
 qmv n x25 x26 x27))
 else(
 bif(x3==2)then(
 bnd (qgd n (qa6.mk x1 x2) [qab.mk x6 x7 (Val.mk x8 x9 x10 x11 x12 x13) x14 x15] (3:Int)) fun x30=>
 bnd (qa5 (x30==0) (qd2 n (qa6.mk x1 x2) x16)) fun x34=>
 bif(bif(x30==0)then(decide (x34>0))else false)then(
 qmw n x1 x2 x16 (2:Int))
 else(
 qmw n x1 x2 x16 x30))
 else(
 bif(x3==4)then(
 bnd (qo9 n (qa6.mk x1 x2) x4 true) fun⟨⟨x35,x36⟩,x37⟩=>
 some (qa6.mk x35 x36,x37))
 else(
 bif(x3==5)then(
 bnd (idx x4 (0:Int)) fun⟨x38,x39⟩=>
 bnd (idx x38 (0:Int)) fun⟨x40,x41,x42,x43⟩=>
 bnd (qa5 (!(x40==([]:SS))) (qd2 n (qa6.mk x1 x2) x40)) fun x47=>
 bif(bif(!(x40==([]:SS)))then(decide (x47>0))else false)then(
 some (qa6.mk x1 x2,(2:Int)))
 else(
 qqb n x1 x2 x4 ()))
 else(
 bif(x3==6)then(
 qmx n x22 x1 x2 x3 x23 x4 x5 x6 x7 x8 x9 x10 x11 x12 x13 x14 x15 x16 x17 x18 x19 x20 x21 x24 (x3==6))
 else(
 qmx n x22 x1 x2 x3 x23 x4 x5 x6 x7 x8 x9 x10 x11 x12 x13 x14 x15 x16 x17 x18 x19 x20 x21 x24 (x3==7))))))
set_option maxHeartbeats 4000000 in
theorem q49 (n:Nat):∀ (a0z:qa6) (a1z:qad) (r:qa6×Int),qrs n a0z a1z=some r->qae Tryz.prog 24 [PV.agg (qpv.cells a0z),PV.agg (qcw.cells a1z)] (q72 r):=by
 intro a0z a1z r h;obtain⟨x1,x2⟩:=a0z;obtain⟨x3,x4,x5,⟨x6,x7,⟨x8,x9,x10,x11,x12,x13⟩,x14,x15⟩,x16,x17,x18,x19,x20,x21,x22,x23,x24⟩:=a1z;unfold qrs at h;refine qae.of_vcN qa3 (fun _ _=>Tryz.call24 _ _) Tryz.func24 (by kernel_rfl) (inl:=[1000001,1000000]) ?_;conv=>whnf
 refine ifc h (fun hc h=>?_) (fun hc h=>?_)
 ·conv=>whnf
  replace h:=qaa h;obtain⟨⟨⟨x25,x26⟩,x27⟩,h2,h⟩:=h;refine⟨_,(qt1 n _ _ _ _ h2),?_⟩;conv=>whnf
  refine qje.cut (S:=Int) (fun x28=>[(4,.ptr 0 0),(6,.ptr 1 0),(7,pI x28)]) (fun x28=>[.box 77 [.p (.nilsl),.p (.nilsl)],.box 77 [pT x25,.p (.sl (qbp .i64 x26))]]) (qmv n x25 x26) (r:=r) ?_ ?_
  ·intro x28 h
   unfold qmv at h;obtain rfl:=sj h;conv=>whnf
   try exact fin
  ·conv=>whnf
   refine ifc h (fun hc h=>?_) (fun hc h=>?_)
   ·conv=>whnf
    replace h:=qaa h;obtain⟨x29,h1,h⟩:=h;refine⟨_,(qil n _ _ _ _ h1),?_⟩;conv=>whnf
    exact⟨x29,h,wk [2,3] []⟩
   ·conv=>whnf
    exact⟨x27,h,wk [2,3] []⟩
 ·conv=>whnf
  refine ifc h (fun hc h=>?_) (fun hc h=>?_)
  ·conv=>whnf
   refine⟨Codec.one qca [qab.mk x6 x7 (Val.mk x8 x9 x10 x11 x12 x13) x14 x15],qab.rows [qab.mk x6 x7 (Val.mk x8 x9 x10 x11 x12 x13) x14 x15],.inl rfl,?_⟩;conv=>whnf
   replace h:=qaa h;obtain⟨x30,h5,h⟩:=h;refine⟨_,(qil n _ _ _ _ h5),?_⟩;conv=>whnf
   refine qje.cut (S:=Int) (fun x31=>[(2,.ptr 0 0),(3,.ptr 1 0),(4,.ptr 2 0),(8,pI x31)]) (fun x31=>[.box 77 [pT x1,.p (.sl (qbp .i64 x2))],.box 55 [pI x3,pP x4,pE x5,pI x6,pS x7,pI x8,pB x9,pI x10,pS x11,pV x12,pT x13,pT x14,pE x15,pS x16,pA x17,pB x18,pO x19,pE x20,pE x21,pU x22,pT x23,pB x24],.box 77 [.p (.nilsl),.p (.nilsl)]]) (qmw n x1 x2 x16) (r:=r) ?_ ?_
   ·intro x31 h
    unfold qmw at h;conv=>whnf
    replace h:=qaa h;obtain⟨⟨x32,x33⟩,h3,h⟩:=h;refine⟨_,(qnq n _ _ _ _ h3),?_⟩;obtain rfl:=sj h;conv=>whnf
    try exact fin
   ·conv=>whnf
    refine⟨id,?_⟩;conv=>whnf
    refine⟨id,id,?_⟩;conv=>whnf
    replace h:=qaa h;obtain⟨x34,h4,h⟩:=h;refine⟨_,fun hg=>(qem n _ _ _ (qah h4 hg)),?_⟩;conv=>whnf
    refine⟨id,id,?_⟩;conv=>whnf
    refine ifc h (fun hc h=>?_) (fun hc h=>?_)
    ·conv=>whnf
     exact⟨(2:Int),h,wk [0,1,2] []⟩
    ·conv=>whnf
     exact⟨x30,h,wk [0,1,2] []⟩
  ·conv=>whnf
   refine ifc h (fun hc h=>?_) (fun hc h=>?_)
   ·conv=>whnf
    replace h:=qaa h;obtain⟨⟨⟨x35,x36⟩,x37⟩,h6,h⟩:=h;refine⟨_,(qt1 n _ _ _ _ h6),?_⟩;obtain rfl:=sj h;conv=>whnf
    try exact fin
   ·conv=>whnf
    refine ifc h (fun hc h=>?_) (fun hc h=>?_)
    ·conv=>whnf
     replace h:=qaa h;obtain⟨⟨x38,x39⟩,h10,h⟩:=h;refine⟨_,Codec.at_ qoa h10,?_⟩;conv=>whnf
     replace h:=qaa h;obtain⟨⟨x40,x41,x42,x43⟩,h9,h⟩:=h;refine⟨_,Codec.at_ qeq h9,?_⟩;conv=>whnf
     refine qje.cut (S:=Unit) (fun _=>[(2,.ptr 0 0),(3,.ptr 1 0),(4,.ptr 2 0)]) (fun _=>[.box 77 [pT x1,.p (.sl (qbp .i64 x2))],.box 55 [pI x3,pP x4,pE x5,pI x6,pS x7,pI x8,pB x9,pI x10,pS x11,pV x12,pT x13,pT x14,pE x15,pS x16,pA x17,pB x18,pO x19,pE x20,pE x21,pU x22,pT x23,pB x24],.box 77 [.p (.nilsl),.p (.nilsl)]]) (qqb n x1 x2 x4) (r:=r) ?_ ?_
     ·intro _ h
      unfold qqb at h;conv=>whnf
      replace h:=qaa h;obtain⟨⟨⟨x44,x45⟩,x46⟩,h7,h⟩:=h;refine⟨_,(qt1 n _ _ _ _ h7),?_⟩;obtain rfl:=sj h;conv=>whnf
      try exact fin
     ·conv=>whnf
      refine⟨id,?_⟩;conv=>whnf
      refine⟨id,?_⟩;conv=>whnf
      replace h:=qaa h;obtain⟨x47,h8,h⟩:=h;refine⟨_,fun hg=>(qem n _ _ _ (qah h8 hg)),?_⟩;conv=>whnf
      refine⟨id,id,?_⟩;conv=>whnf
      refine ifc h (fun hc h=>?_) (fun hc h=>?_)
      ·obtain rfl:=sj h
       conv=>whnf
       try exact fin
      ·conv=>whnf
       exact⟨(),h,wk [0,1,2] []⟩
    ·conv=>whnf
     refine qje.cut (S:=Bool) (fun x48=>[(2,.ptr 0 0),(3,.ptr 1 0),(4,.ptr 2 0),(17,pI x3),(89,pB x48)]) (fun x48=>[.box 77 [pT x1,.p (.sl (qbp .i64 x2))],.box 55 [pI x3,pP x4,pE x5,pI x6,pS x7,pI x8,pB x9,pI x10,pS x11,pV x12,pT x13,pT x14,pE x15,pS x16,pA x17,pB x18,pO x19,pE x20,pE x21,pU x22,pT x23,pB x24],.box 77 [.p (.nilsl),.p (.nilsl)]]) (qmx n x22 x1 x2 x3 x23 x4 x5 x6 x7 x8 x9 x10 x11 x12 x13 x14 x15 x16 x17 x18 x19 x20 x21 x24) (r:=r) ?_ ?_
     ·intro x48 h
      unfold qmx at h;conv=>whnf
      refine ifc h (fun hc h=>?_) (fun hc h=>?_)
      ·conv=>whnf
       refine qby.fn [1000001,1000000] (S:=Int) (fun x49=>[(2,.ptr 0 0),(3,.ptr 1 0),(4,.ptr 2 0),(10,pI x49)]) (fun x49=>[.box 77 [pT x1,.p (.sl (qbp .i64 x2))],.box 55 [pI x3,pP x4,pE x5,pI x6,pS x7,pI x8,pB x9,pI x10,pS x11,pV x12,pT x13,pT x14,pE x15,pS x16,pA x17,pB x18,pO x19,pE x20,pE x21,pU x22,pT x23,pB x24],.box 77 [.p (.nilsl),.p (.nilsl)]]) (B:=qhy n x22 x1 x2 x3) h (wk [0,1,2] []) ?_;intro nx1 x49 h;unfold qhy at h;conv=>whnf
       refine qje.cut (S:=Unit) (fun _=>[(2,.ptr 0 0),(3,.ptr 1 0),(4,.ptr 2 0),(10,pI x49)]) (fun _=>[.box 77 [pT x1,.p (.sl (qbp .i64 x2))],.box 55 [pI x3,pP x4,pE x5,pI x6,pS x7,pI x8,pB x9,pI x10,pS x11,pV x12,pT x13,pT x14,pE x15,pS x16,pA x17,pB x18,pO x19,pE x20,pE x21,pU x22,pT x23,pB x24],.box 77 [.p (.nilsl),.p (.nilsl)]]) (qox n x22 x49 x1 x2 x3 nx1) (r:=r) ?_ ?_
       ·intro _ h
        unfold qox at h;conv=>whnf
        refine qje.cut (S:=Unit) (fun _=>[(2,.ptr 0 0),(3,.ptr 1 0),(4,.ptr 2 0),(10,pI x49)]) (fun _=>[.box 77 [pT x1,.p (.sl (qbp .i64 x2))],.box 55 [pI x3,pP x4,pE x5,pI x6,pS x7,pI x8,pB x9,pI x10,pS x11,pV x12,pT x13,pT x14,pE x15,pS x16,pA x17,pB x18,pO x19,pE x20,pE x21,pU x22,pT x23,pB x24],.box 77 [.p (.nilsl),.p (.nilsl)]]) (qla n nx1 x49) (r:=r) ?_ ?_
        ·intro _ h
         unfold qla at h;conv=>whnf
         exact⟨(IntKind.i64.wrap (x49+1)),h,wk [0,1,2] []⟩
        ·conv=>whnf
         replace h:=qaa h;obtain⟨⟨x50,x51,x52,⟨x53,x54,⟨x55,x56,x57,x58,x59,x60⟩,x61,x62⟩⟩,h13,h⟩:=h;refine⟨_,Codec.at_ qi2 h13,?_⟩;conv=>whnf
         replace h:=qaa h;obtain⟨x63,h12,h⟩:=h;refine⟨_,(qem n _ _ _ h12),?_⟩;conv=>whnf
         refine qje.cut (S:=Unit) (fun _=>[(2,.ptr 0 0),(3,.ptr 1 0),(4,.ptr 2 0),(10,pI x49),(11,.ptr 3 0),(12,pI x63)]) (fun _=>[.box 77 [pT x1,.p (.sl (qbp .i64 x2))],.box 55 [pI x3,pP x4,pE x5,pI x6,pS x7,pI x8,pB x9,pI x10,pS x11,pV x12,pT x13,pT x14,pE x15,pS x16,pA x17,pB x18,pO x19,pE x20,pE x21,pU x22,pT x23,pB x24],.box 77 [.p (.nilsl),.p (.nilsl)],.box 69 [pS x50,pS x51,pS x52,pI x53,pS x54,pI x55,pB x56,pI x57,pS x58,pV x59,pT x60,pT x61,pE x62]]) (qoy n x63 x52 x1 x2 x3 x51 x53 x54 x55 x56 x57 x58 x59 x60 x61 x62 nx1 x49) (r:=r) ?_ ?_
         ·intro _ h
          unfold qoy at h;conv=>whnf
          refine qje.cut (S:=Unit) (fun _=>[(2,.ptr 0 0),(3,.ptr 1 0),(4,.ptr 2 0),(10,pI x49),(11,.ptr 3 0)]) (fun _=>[.box 77 [pT x1,.p (.sl (qbp .i64 x2))],.box 55 [pI x3,pP x4,pE x5,pI x6,pS x7,pI x8,pB x9,pI x10,pS x11,pV x12,pT x13,pT x14,pE x15,pS x16,pA x17,pB x18,pO x19,pE x20,pE x21,pU x22,pT x23,pB x24],.box 77 [.p (.nilsl),.p (.nilsl)],.box 69 [pS x50,pS x51,pS x52,pI x53,pS x54,pI x55,pB x56,pI x57,pS x58,pV x59,pT x60,pT x61,pE x62]]) (qoz n x3 x51 x1 x2 x53 x54 x55 x56 x57 x58 x59 x60 x61 x62 nx1 x49) (r:=r) ?_ ?_
          ·intro _ h
           unfold qoz at h;conv=>whnf
           refine⟨id,id,id,?_⟩;conv=>whnf
           refine ifc h (fun hc h=>?_) (fun hc h=>?_)
           ·conv=>whnf
            refine⟨Codec.one qca [qab.mk x53 x54 (Val.mk x55 x56 x57 x58 x59 x60) x61 x62],qab.rows [qab.mk x53 x54 (Val.mk x55 x56 x57 x58 x59 x60) x61 x62],.inl rfl,?_⟩;conv=>whnf
            replace h:=qaa h;obtain⟨x64,h11,h⟩:=h;refine⟨_,(qil n _ _ _ _ h11),?_⟩;conv=>whnf
            refine ifc h (fun hc h=>?_) (fun hc h=>?_)
            ·obtain rfl:=sj h
             conv=>whnf
             try exact fin
            ·conv=>whnf
             exact⟨(),h,wk [0,1,2] []⟩
           ·conv=>whnf
            exact⟨(),h,wk [0,1,2] []⟩
          ·conv=>whnf
           refine⟨id,?_⟩;conv=>whnf
           refine⟨id,id,id,id,id,id,?_⟩;conv=>whnf
           refine ifc h (fun hc h=>?_) (fun hc h=>?_)
           ·obtain rfl:=sj h
            conv=>whnf
            try exact fin
           ·conv=>whnf
            exact⟨(),h,wk [0,1,2,3] []⟩
         ·conv=>whnf
          refine ifc h (fun hc h=>?_) (fun hc h=>?_)
          ·obtain rfl:=sj h
           conv=>whnf
           try exact fin
          ·conv=>whnf
           exact⟨(),h,wk [0,1,2,3] []⟩
       ·conv=>whnf
        refine ifc h (fun hc h=>?_) (fun hc h=>?_)
        ·conv=>whnf
         exact⟨(),h,wk [0,1,2] []⟩
        ·obtain rfl:=sj h
         conv=>whnf
         try exact fin
      ·conv=>whnf
       refine ifc h (fun hc h=>?_) (fun hc h=>?_)
       ·conv=>whnf
        refine qby.fn [1000001,1000000] (S:=Int) (fun x65=>[(2,.ptr 0 0),(3,.ptr 1 0),(4,.ptr 2 0),(14,pI x65)]) (fun x65=>[.box 77 [pT x1,.p (.sl (qbp .i64 x2))],.box 55 [pI x3,pP x4,pE x5,pI x6,pS x7,pI x8,pB x9,pI x10,pS x11,pV x12,pT x13,pT x14,pE x15,pS x16,pA x17,pB x18,pO x19,pE x20,pE x21,pU x22,pT x23,pB x24],.box 77 [.p (.nilsl),.p (.nilsl)]]) (B:=qhz n x23 x1 x2) h (wk [0,1,2] []) ?_;intro nx2 x65 h;unfold qhz at h;conv=>whnf
        refine qje.cut (S:=Unit) (fun _=>[(2,.ptr 0 0),(3,.ptr 1 0),(4,.ptr 2 0),(14,pI x65)]) (fun _=>[.box 77 [pT x1,.p (.sl (qbp .i64 x2))],.box 55 [pI x3,pP x4,pE x5,pI x6,pS x7,pI x8,pB x9,pI x10,pS x11,pV x12,pT x13,pT x14,pE x15,pS x16,pA x17,pB x18,pO x19,pE x20,pE x21,pU x22,pT x23,pB x24],.box 77 [.p (.nilsl),.p (.nilsl)]]) (qo0 n x23 x65 x1 x2 nx2) (r:=r) ?_ ?_
        ·intro _ h
         unfold qo0 at h;conv=>whnf
         replace h:=qaa h;obtain⟨x66,h15,h⟩:=h;refine⟨_,Codec.at_ qqt h15,?_⟩;conv=>whnf
         replace h:=qaa h;obtain⟨x67,h14,h⟩:=h;refine⟨_,(qem n _ _ _ h14),?_⟩;conv=>whnf
         refine qje.cut (S:=Unit) (fun _=>[(2,.ptr 0 0),(3,.ptr 1 0),(4,.ptr 2 0),(14,pI x65),(15,pI x67)]) (fun _=>[.box 77 [pT x1,.p (.sl (qbp .i64 x2))],.box 55 [pI x3,pP x4,pE x5,pI x6,pS x7,pI x8,pB x9,pI x10,pS x11,pV x12,pT x13,pT x14,pE x15,pS x16,pA x17,pB x18,pO x19,pE x20,pE x21,pU x22,pT x23,pB x24],.box 77 [.p (.nilsl),.p (.nilsl)]]) (qo1 n x67 x1 x2 nx2 x65) (r:=r) ?_ ?_
         ·intro _ h
          unfold qo1 at h;conv=>whnf
          refine ifc h (fun hc h=>?_) (fun hc h=>?_)
          ·obtain rfl:=sj h
           conv=>whnf
           try exact fin
          ·conv=>whnf
           exact⟨(IntKind.i64.wrap (x65+1)),h,wk [0,1,2] []⟩
         ·conv=>whnf
          refine ifc h (fun hc h=>?_) (fun hc h=>?_)
          ·obtain rfl:=sj h
           conv=>whnf
           try exact fin
          ·conv=>whnf
           exact⟨(),h,wk [0,1,2] []⟩
        ·conv=>whnf
         refine ifc h (fun hc h=>?_) (fun hc h=>?_)
         ·conv=>whnf
          exact⟨(),h,wk [0,1,2] []⟩
         ·obtain rfl:=sj h
          conv=>whnf
          try exact fin
       ·conv=>whnf
        replace h:=qaa h;obtain⟨⟨⟨x68,x69⟩,x70⟩,h16,h⟩:=h;refine⟨_,(q9n n _ _ _ h16),?_⟩;obtain rfl:=sj h;conv=>whnf
        try exact fin
     ·conv=>whnf
      refine ifc h (fun hc h=>?_) (fun hc h=>?_)
      ·conv=>whnf
       exact⟨(x3==6),h,wk [0,1,2] []⟩
      ·conv=>whnf
       exact⟨(x3==7),h,wk [0,1,2] []⟩
abbrev q99 (r:List SS×List Int×Int):PV:=PV.tup [PV.sl (qam r.1),PV.sl (qbp .i64 r.2.1),PV.int .i64 r.2.2]
def qjb (n:Nat) (x2:Int) (x1:List qad):(Int×List SS×List Int->Option (List SS×List Int×Int))->Int×List SS×List Int->Option (List SS×List Int×Int):=fun nx1 (x4,x5,x6)=>
 bif(decide (x4<x2))then(
 bnd (idx x1 x4) fun⟨x7,x8,x9,⟨x10,x11,⟨x12,x13,x14,x15,x16,x17⟩,x18,x19⟩,x20,x21,x22,x23,x24,x25,x26,x27,x28⟩=>
 bnd (qrs n (qa6.mk x5 x6) (qad.mk x7 x8 x9 (qab.mk x10 x11 (Val.mk x12 x13 x14 x15 x16 x17) x18 x19) x20 x21 x22 x23 x24 x25 x26 x27 x28)) fun⟨⟨x29,x30⟩,x31⟩=>
 bif(x31 != 0)then(
 some (([]:List SS),([]:List Int),x31))
 else(
 nx1 ((IntKind.i64.wrap (x4+1)),x29,x30)))
 else(
 some (x5,x6,(0:Int)))
def qo8 (n:Nat) (a0z:qg3) (x2:Int):Option (List SS×List Int×Int):=
 match a0z with
 | ⟨x1⟩=>
 bnd (qmq n (qg3.mk x1)) fun x3=>
 bif(bif(bif(!x3)then true else(decide (x2<0)))then true else(decide (x2>((qad.rows x1).length:Int))))then(
 some (([]:List SS),([]:List Int),(20:Int)))
 else(
 qap (qjb n x2 x1) n ((0:Int),([]:List _),([]:List _)))
theorem qyu (n:Nat):∀ (a0z:qg3) (x2:Int) (r:List SS×List Int×Int),qo8 n a0z x2=some r->qae Tryz.prog 15 [PV.agg (qys.cells a0z),PV.int .i64 x2] (q99 r):=by
 intro a0z x2 r h;obtain⟨x1⟩:=a0z;unfold qo8 at h;refine qae.of_vcN qa3 (fun _ _=>Tryz.call15 _ _) Tryz.func15 (by kernel_rfl) (inl:=[40000007,1000000]) ?_;conv=>whnf
 replace h:=qaa h;obtain⟨x3,h3,h⟩:=h;refine⟨_,(qpf n _ _ h3),?_⟩;conv=>whnf
 refine⟨id,id,id,id,id,id,id,?_⟩;conv=>whnf
 refine ifc h (fun hc h=>?_) (fun hc h=>?_)
 ·obtain rfl:=sj h
  conv=>whnf
  try exact fin
 ·conv=>whnf
  refine qby.fn [40000007,1000000] (S:=Int×List SS×List Int) (fun(x4,x5,x6)=>[(1,pI x2),(2,.ptr 0 0),(7,.ptr 1 0),(8,pI x4)]) (fun(x4,x5,x6)=>[.box 24 [pC x1],.box 77 [pT x5,.p (.sl (qbp .i64 x6))]]) (B:=qjb n x2 x1) h (wk [0,1] []) ?_;intro nx1 st h;obtain⟨x4,x5,x6⟩:=st;unfold qjb at h;conv=>whnf
  refine ifc h (fun hc h=>?_) (fun hc h=>?_)
  ·conv=>whnf
   replace h:=qaa h;obtain⟨⟨x7,x8,x9,⟨x10,x11,⟨x12,x13,x14,x15,x16,x17⟩,x18,x19⟩,x20,x21,x22,x23,x24,x25,x26,x27,x28⟩,h2,h⟩:=h;refine⟨_,Codec.at_ qcw h2,?_⟩;conv=>whnf
   replace h:=qaa h;obtain⟨⟨⟨x29,x30⟩,x31⟩,h1,h⟩:=h;refine⟨_,(q49 n _ _ _ h1),?_⟩;conv=>whnf
   refine ifc h (fun hc h=>?_) (fun hc h=>?_)
   ·obtain rfl:=sj h
    conv=>whnf
    try exact fin
   ·conv=>whnf
    exact⟨((IntKind.i64.wrap (x4+1)),x29,x30),h,wk [0,1] []⟩
  ·obtain rfl:=sj h
   conv=>whnf
   try exact fin
abbrev q98 (r:List SS×Int):PV:=PV.tup [PV.sl (qam r.1),PV.int .i64 r.2]
def qq0 (n:Nat) (a0z:qg3):Option (List SS×Int):=
 match a0z with
 | ⟨x1⟩=>
 bnd (qo8 n (qg3.mk x1) ((qad.rows x1).length:Int)) fun⟨x2,x3,x4⟩=>
 bnd (qa5 (!(x4 != 0)) (idx x1 (IntKind.i64.wrap (((qad.rows x1).length:Int) - 1)))) fun⟨x5,x6,x7,⟨x8,x9,⟨x10,x11,x12,x13,x14,x15⟩,x16,x17⟩,x18,x19,x20,x21,x22,x23,x24,x25,x26⟩=>
 bif(bif(x4 != 0)then true else(x5 != 9))then(
 some (([]:List SS),x4))
 else(
 some (x2,(0:Int)))
theorem qyt (n:Nat):∀ (a0z:qg3) (r:List SS×Int),qq0 n a0z=some r->qae Tryz.prog 12 [PV.agg (qys.cells a0z)] (q98 r):=by
 intro a0z r h;obtain⟨x1⟩:=a0z;unfold qq0 at h;refine qae.of_vcN qa3 (fun _ _=>Tryz.call12 _ _) Tryz.func12 (by kernel_rfl) (inl:=[1000000]) ?_;conv=>whnf
 replace h:=qaa h;obtain⟨⟨x2,x3,x4⟩,h2,h⟩:=h;refine⟨_,(qyu n _ _ _ h2),?_⟩;conv=>whnf
 refine⟨id,id,id,id,id,id,?_⟩;conv=>whnf
 replace h:=qaa h;obtain⟨⟨x5,x6,x7,⟨x8,x9,⟨x10,x11,x12,x13,x14,x15⟩,x16,x17⟩,x18,x19,x20,x21,x22,x23,x24,x25,x26⟩,h1,h⟩:=h;refine⟨_,fun hg=>Codec.at_ qcw (qah h1 hg),?_⟩;conv=>whnf
 refine⟨id,id,id,id,?_⟩;conv=>whnf
 refine ifc h (fun hc h=>?_) (fun hc h=>?_)
 ·obtain rfl:=sj h
  conv=>whnf
  try exact fin
 ·obtain rfl:=sj h
  conv=>whnf
  try exact fin
abbrev q0s (r:Bool):PV:=PV.bool r
def qov (n:Nat) (x1:SS):Option (Bool):=
 bnd (qmu n x1) fun⟨⟨x2⟩,x3,x4⟩=>
 bif(x4 != 0)then(
 bnd (qdu n) fun x5=>
 some x5)
 else(
 bnd (qdv n (qg3.mk x2)) fun⟨x6,x7⟩=>
 bnd (qq0 n (qg3.mk x2)) fun⟨x8,x9⟩=>
 bnd (qcu n x6 x8) fun x10=>
 bnd (qa5 (bif x10 then(x7==x9)else false) (qdu n)) fun x11=>
 some (bif(bif x10 then(x7==x9)else false)then x11 else false))
theorem qze (n:Nat):∀ (x1:SS) (r:Bool),qov n x1=some r->qae Tryz.prog 5 [PV.str x1] (q0s r):=by
 intro x1 r h;unfold qov at h;refine qae.of_vcN qa3 (fun _ _=>Tryz.call5 _ _) Tryz.func5 (by kernel_rfl) (inl:=[1000000]) ?_;conv=>whnf
 replace h:=qaa h;obtain⟨⟨⟨x2⟩,x3,x4⟩,h6,h⟩:=h;refine⟨_,(qrc n _ _ h6),?_⟩;conv=>whnf
 refine ifc h (fun hc h=>?_) (fun hc h=>?_)
 ·conv=>whnf
  replace h:=qaa h;obtain⟨x5,h1,h⟩:=h;refine⟨_,(qc7 n _ h1),?_⟩;obtain rfl:=sj h;conv=>whnf
  try exact fin
 ·conv=>whnf
  replace h:=qaa h;obtain⟨⟨x6,x7⟩,h5,h⟩:=h;refine⟨_,(qdz n _ _ h5),?_⟩;conv=>whnf
  replace h:=qaa h;obtain⟨⟨x8,x9⟩,h4,h⟩:=h;refine⟨_,(qyt n _ _ h4),?_⟩;conv=>whnf
  replace h:=qaa h;obtain⟨x10,h3,h⟩:=h;refine⟨_,(qdh n _ _ _ h3),?_⟩;conv=>whnf
  refine⟨id,id,id,?_⟩;conv=>whnf
  replace h:=qaa h;obtain⟨x11,h2,h⟩:=h;refine⟨_,fun hg=>(qc7 n _ (qah h2 hg)),?_⟩;conv=>whnf
  refine⟨id,?_⟩;obtain rfl:=sj h;conv=>whnf
  try exact fin
end W
end
