/- A part of the proof: contracts, printed by program. -/
import Derived.Test.YtneaemdbncgcdaaGreatB
set_option linter.unusedVariables false
set_option linter.unusedSimpArgs false
set_option linter.unnecessarySimpa false
set_option linter.deprecated false
set_option linter.unusedSectionVars false
set_option linter.constructorNameAsVariable false
section
set_option maxRecDepth 100000
open Go Go.Proofs Ax
namespace W
abbrev qp3 (r:Int):PV:=PV.int .i64 r
def qju (n:Nat) (x5:List Val) (g33:Val→Option (Int)):(Int×Int→Option (Int))→Int×Int→Option (Int):=fun nx1 (x7,x8)=>
bif(decide (x8<((Val.rows x5).length:Int)))then(
bnd (idx x5 x8) fun⟨x9,x10,x11,x12,x13,x14⟩=>
bnd (g33 (Val.mk x9 x10 x11 x12 x13 x14)) fun x15=>
nx1 ((IntKind.i64.wrap (x7+x15)),(IntKind.i64.wrap (x8+1))))
else(
some x7)
def qrf (n:Nat) (g33:Val→Option (Int)) (a0z:Val):Option (Int):=
 match a0z with
 | ⟨x1,x2,x3,x4,x5,x6⟩=>
 qas (qju n x5 g33) n ((1:Int),(0:Int))
theorem q3n (n:Nat) (g33:Val→Option (Int)) (g33_ok:∀ (a0z:Val) (r:Int),g33 a0z=some r→qae Tryz.prog 33 [PV.agg (qrx.cells a0z)] (qp3 r)):∀ (a0z:Val) (r:Int),qrf n g33 a0z=some r→qae Tryz.prog 33 [PV.agg (qrx.cells a0z)] (qp3 r):=by
 intro a0z r h
 obtain⟨x1,x2,x3,x4,x5,x6⟩:=a0z
 unfold qrf at h
 refine qae.of_vcN qa6 (fun _ _=>Tryz.call33 _ _) Tryz.func33 (by kernel_rfl) (inl:=[1000000]) ?_
 conv=>whnf
 refine qb4.fn [1000000] (S:=Int×Int) (fun(x7,x8)=>[(1,.ptr 0 0),(3,pI x7),(4,pI x8)]) (fun(x7,x8)=>[.box 44 [pI x1,pB x2,pI x3,pS x4,pV x5,pT x6]]) (B:=qju n x5 g33) h (wk [0] []) ?_
 intro nx1 st h
 obtain⟨x7,x8⟩:=st
 unfold qju at h
 conv=>whnf
 refine ifc h (fun hc h=>?_) (fun hc h=>?_)
 ·conv=>whnf
  replace h:=qaa h
  obtain⟨⟨x9,x10,x11,x12,x13,x14⟩,h2,h⟩:=h
  refine⟨_,Codec.at_ qrx h2,?_⟩
  conv=>whnf
  replace h:=qaa h
  obtain⟨x15,h1,h⟩:=h
  refine⟨_,(g33_ok _ _ h1),?_⟩
  conv=>whnf
  exact⟨((IntKind.i64.wrap (x7+x15)),(IntKind.i64.wrap (x8+1))),h,wk [0] []⟩
 ·obtain rfl:=sj h
  conv=>whnf
  try exact fin
def qkn:Nat→Val→Option (Int)
 | 0=>fun _=>none
 | n+1=>qrf n (qkn n)
theorem q4s (n:Nat):(∀ (a0z:Val) (r:Int),qkn n a0z=some r→qae Tryz.prog 33 [PV.agg (qrx.cells a0z)] (qp3 r)):=by
 induction n with
 | zero=>exact(by intros; rename_i h; cases h)
 | succ n ih=>
  have hg33:=ih
  exact q3n n (qkn n) hg33
theorem q5w (n:Nat):∀ (a0z:Val) (r:Int),qkn n a0z=some r→qae Tryz.prog 33 [PV.agg (qrx.cells a0z)] (qp3 r):=(q4s n)
abbrev qp0 (r:Int):PV:=PV.int .i64 r
def qjz (n:Nat) (x10:List qab) (x11:Int) (g20:qab→Int→Option (Int)):(Int×Int→Option (Int))→Int×Int→Option (Int):=fun nx1 (x13,x14)=>
bif(bif(decide (x14<((qab.rows x10).length:Int)))then(decide (x13<x11))else false)then(
bnd (idx x10 x14) fun⟨x15,x16,⟨x17,x18,x19,x20,x21,x22⟩,x23,x24⟩=>
bnd (g20 (qab.mk x15 x16 (Val.mk x17 x18 x19 x20 x21 x22) x23 x24) (IntKind.i64.wrap (x11 - x13))) fun x25=>
nx1 ((IntKind.i64.wrap (x13+x25)),(IntKind.i64.wrap (x14+1))))
else(
some x13)
def qrr (n:Nat) (g20:qab→Int→Option (Int)) (a0z:qab) (x11:Int):Option (Int):=
 match a0z with
 | ⟨x1,x2,⟨x3,x4,x5,x6,x7,x8⟩,x9,x10⟩=>
 bnd (qkn n (Val.mk x3 x4 x5 x6 x7 x8)) fun x12=>
 qas (qjz n x10 x11 g20) n ((IntKind.i64.wrap ((IntKind.i64.wrap ((IntKind.i64.wrap ((1:Int)+(IntKind.i64.wrap (Int.tdiv ((x2.length:Nat):Int) (16:Int)))))+(IntKind.i64.wrap (Int.tdiv ((x6.length:Nat):Int) (16:Int)))))+x12)),(0:Int))
theorem q27 (n:Nat) (g20:qab→Int→Option (Int)) (g20_ok:∀ (a0z:qab) (x11 r:Int),g20 a0z x11=some r→qae Tryz.prog 20 [PV.agg (qcc.cells a0z),PV.int .i64 x11] (qp0 r)):∀ (a0z:qab) (x11 r:Int),qrr n g20 a0z x11=some r→qae Tryz.prog 20 [PV.agg (qcc.cells a0z),PV.int .i64 x11] (qp0 r):=by
 intro a0z x11 r h
 obtain⟨x1,x2,⟨x3,x4,x5,x6,x7,x8⟩,x9,x10⟩:=a0z
 unfold qrr at h
 refine qae.of_vcN qa6 (fun _ _=>Tryz.call20 _ _) Tryz.func20 (by kernel_rfl) (inl:=[1000000]) ?_
 conv=>whnf
 refine⟨by unfold gI; decide,?_⟩
 conv=>whnf
 refine⟨by unfold gI; decide,?_⟩
 conv=>whnf
 replace h:=qaa h
 obtain⟨x12,h3,h⟩:=h
 refine⟨_,(q5w n _ _ h3),?_⟩
 conv=>whnf
 refine qb4.fn [1000000] (S:=Int×Int) (fun(x13,x14)=>[(1,pI x11),(2,.ptr 0 0),(5,pI x13),(6,pI x14)]) (fun(x13,x14)=>[.box 47 [pI x1,pS x2,pI x3,pB x4,pI x5,pS x6,pV x7,pT x8,pT x9,pE x10]]) (B:=qjz n x10 x11 g20) h (wk [0] []) ?_
 intro nx1 st h
 obtain⟨x13,x14⟩:=st
 unfold qjz at h
 conv=>whnf
 refine⟨id,id,id,?_⟩
 conv=>whnf
 refine ifc h (fun hc h=>?_) (fun hc h=>?_)
 ·conv=>whnf
  replace h:=qaa h
  obtain⟨⟨x15,x16,⟨x17,x18,x19,x20,x21,x22⟩,x23,x24⟩,h2,h⟩:=h
  refine⟨_,Codec.at_ qcc h2,?_⟩
  conv=>whnf
  replace h:=qaa h
  obtain⟨x25,h1,h⟩:=h
  refine⟨_,(g20_ok _ _ _ h1),?_⟩
  conv=>whnf
  exact⟨((IntKind.i64.wrap (x13+x25)),(IntKind.i64.wrap (x14+1))),h,wk [0] []⟩
 ·obtain rfl:=sj h
  conv=>whnf
  try exact fin
def qgb:Nat→qab→Int→Option (Int)
 | 0=>fun _ _=>none
 | n+1=>qrr n (qgb n)
theorem q4n (n:Nat):(∀ (a0z:qab) (x11 r:Int),qgb n a0z x11=some r→qae Tryz.prog 20 [PV.agg (qcc.cells a0z),PV.int .i64 x11] (qp0 r)):=by
 induction n with
 | zero=>exact(by intros; rename_i h; cases h)
 | succ n ih=>
  have hg20:=ih
  exact q27 n (qgb n) hg20
theorem qmj (n:Nat):∀ (a0z:qab) (x11 r:Int),qgb n a0z x11=some r→qae Tryz.prog 20 [PV.agg (qcc.cells a0z),PV.int .i64 x11] (qp0 r):=(q4n n)
abbrev q15 (r:Int):PV:=PV.int .i64 r
def qg1 (n:Nat) (x1:List qab) (x2:Int):(Int×Int→Option (Int))→Int×Int→Option (Int):=fun nx1 (x3,x4)=>
bif(bif(decide (x4<((qab.rows x1).length:Int)))then(decide (x3<x2))else false)then(
bnd (idx x1 x4) fun⟨x5,x6,⟨x7,x8,x9,x10,x11,x12⟩,x13,x14⟩=>
bnd (qgb n (qab.mk x5 x6 (Val.mk x7 x8 x9 x10 x11 x12) x13 x14) (IntKind.i64.wrap (x2 - x3))) fun x15=>
nx1 ((IntKind.i64.wrap (x3+x15)),(IntKind.i64.wrap (x4+1))))
else(
some x3)
def qfn (n:Nat) (x1:List qab) (x2:Int):Option (Int):=
 qas (qg1 n x1 x2) n ((0:Int),(0:Int))
theorem qiv (n:Nat):∀ (x1:List qab) (x2 r:Int),qfn n x1 x2=some r→qae Tryz.prog 21 [PV.sl (qab.rows x1),PV.int .i64 x2] (q15 r):=by
 intro x1 x2 r h
 unfold qfn at h
 refine qae.of_vcN qa6 (fun _ _=>Tryz.call21 _ _) Tryz.func21 (by kernel_rfl) (inl:=[1000000]) ?_
 conv=>whnf
 refine qb4.fn [1000000] (S:=Int×Int) (fun(x3,x4)=>[(0,pE x1),(1,pI x2),(5,pI x3),(6,pI x4)]) (fun(x3,x4)=>[]) (B:=qg1 n x1 x2) h (wk [] []) ?_
 intro nx1 st h
 obtain⟨x3,x4⟩:=st
 unfold qg1 at h
 conv=>whnf
 refine⟨id,id,id,?_⟩
 conv=>whnf
 refine ifc h (fun hc h=>?_) (fun hc h=>?_)
 ·conv=>whnf
  replace h:=qaa h
  obtain⟨⟨x5,x6,⟨x7,x8,x9,x10,x11,x12⟩,x13,x14⟩,h2,h⟩:=h
  refine⟨_,Codec.at_ qcc h2,?_⟩
  conv=>whnf
  replace h:=qaa h
  obtain⟨x15,h1,h⟩:=h
  refine⟨_,(qmj n _ _ _ h1),?_⟩
  conv=>whnf
  exact⟨((IntKind.i64.wrap (x3+x15)),(IntKind.i64.wrap (x4+1))),h,wk [] []⟩
 ·obtain rfl:=sj h
  conv=>whnf
  try exact fin
abbrev q8m (r:Bool):PV:=PV.bool r
def qh5 (n:Nat) (x5:List qa8) (x31:Int) (nx2:Int×Int→Option (Bool)):(Int×Int→Option (Bool))→Int×Int→Option (Bool):=fun nx4 (x49,x50)=>
bnd (idx x5 x31) fun⟨x51,x52⟩=>
bif(bif(decide (x50<((qag.rows x52).length:Int)))then(decide (x49<3000))else false)then(
bnd (idx x5 x31) fun⟨x53,x54⟩=>
bnd (idx x54 x50) fun⟨x55,x56,x57,x58,x59⟩=>
bnd (qfn n x59 (3000:Int)) fun x60=>
nx4 ((IntKind.i64.wrap ((IntKind.i64.wrap (x49+1))+x60)),(IntKind.i64.wrap (x50+1))))
else(
nx2 (x49,(IntKind.i64.wrap (x31+1))))
def qj2 (n:Nat) (x5:List qa8) (x31:Int) (nx2:Int×Int→Option (Bool)):(Int×Int→Option (Bool))→Int×Int→Option (Bool):=fun nx3 (x32,x33)=>
bnd (idx x5 x31) fun⟨x34,x35⟩=>
bif(bif(decide (x33<((qad.rows x34).length:Int)))then(decide (x32<3000))else false)then(
bnd (idx x5 x31) fun⟨x36,x37⟩=>
bnd (idx x36 x33) fun⟨x38,x39,x40,x41⟩=>
bnd (idx x5 x31) fun⟨x42,x43⟩=>
bnd (idx x42 x33) fun⟨x44,x45,x46,x47⟩=>
bnd (qfn n x47 (3000:Int)) fun x48=>
nx3 ((IntKind.i64.wrap ((IntKind.i64.wrap ((IntKind.i64.wrap (x32+1))+((qak x39).length:Int)))+x48)),(IntKind.i64.wrap (x33+1))))
else(
qas (qh5 n x5 x31 nx2) n (x32,(0:Int)))
def qgp (n:Nat) (x23:List qaf) (nx1:Int×Int→Option (Bool)) (x3:Int):(Int×Int→Option (Bool))→Int×Int→Option (Bool):=fun nx7 (x89,x90)=>
bif(bif(decide (x90<((qaf.rows x23).length:Int)))then(decide (x89<3000))else false)then(
bnd (idx x23 x90) fun⟨x91,x92,x93,⟨x94,x95,⟨x96,x97,x98,x99,x100,x101⟩,x102,x103⟩⟩=>
bnd (qgb n (qab.mk x94 x95 (Val.mk x96 x97 x98 x99 x100 x101) x102 x103) (3000:Int)) fun x104=>
nx7 ((IntKind.i64.wrap ((IntKind.i64.wrap (x89+1))+x104)),(IntKind.i64.wrap (x90+1))))
else(
nx1 (x89,(IntKind.i64.wrap (x3+1))))
def qgm (n:Nat) (x20:List qaq) (x23:List qaf) (nx1:Int×Int→Option (Bool)) (x3:Int):(Int×Int→Option (Bool))→Int×Int→Option (Bool):=fun nx6 (x75,x76)=>
bif(bif(decide (x76<((qaq.rows x20).length:Int)))then(decide (x75<3000))else false)then(
bnd (idx x20 x76) fun⟨⟨x77,x78,⟨x79,x80,x81,x82,x83,x84⟩,x85,x86⟩,x87⟩=>
bnd (qgb n (qab.mk x77 x78 (Val.mk x79 x80 x81 x82 x83 x84) x85 x86) (3000:Int)) fun x88=>
nx6 ((IntKind.i64.wrap (x75+x88)),(IntKind.i64.wrap (x76+1))))
else(
qas (qgp n x23 nx1 x3) n (x75,(0:Int)))
def qgl (n:Nat) (x18:List qbf) (x20:List qaq) (x23:List qaf) (nx1:Int×Int→Option (Bool)) (x3:Int):(Int×Int→Option (Bool))→Int×Int→Option (Bool):=fun nx5 (x61,x62)=>
bif(bif(decide (x62<((qbf.rows x18).length:Int)))then(decide (x61<3000))else false)then(
bnd (idx x18 x62) fun⟨⟨x63,x64,⟨x65,x66,x67,x68,x69,x70⟩,x71,x72⟩,x73⟩=>
bnd (qgb n (qab.mk x63 x64 (Val.mk x65 x66 x67 x68 x69 x70) x71 x72) (3000:Int)) fun x74=>
nx5 ((IntKind.i64.wrap (x61+x74)),(IntKind.i64.wrap (x62+1))))
else(
qas (qgm n x20 x23 nx1 x3) n (x61,(0:Int)))
def qh4 (n:Nat) (x5:List qa8) (x18:List qbf) (x20:List qaq) (x23:List qaf) (nx1:Int×Int→Option (Bool)) (x3:Int):(Int×Int→Option (Bool))→Int×Int→Option (Bool):=fun nx2 (x30,x31)=>
bif(bif(decide (x31<((qa8.rows x5).length:Int)))then(decide (x30<3000))else false)then(
qas (qj2 n x5 x31 nx2) n (x30,(0:Int)))
else(
qas (qgl n x18 x20 x23 nx1 x3) n (x30,(0:Int)))
def qjt (n:Nat) (x1:List qac):(Int×Int→Option (Bool))→Int×Int→Option (Bool):=fun nx1 (x2,x3)=>
bif(bif(decide (x3<((qac.rows x1).length:Int)))then(decide (x2<3000))else false)then(
bnd (idx x1 x3) fun⟨x4,x5,x6,⟨x7,x8,⟨x9,x10,x11,x12,x13,x14⟩,x15,x16⟩,x17,x18,x19,x20,x21,x22,x23,x24,x25⟩=>
bnd (qgb n (qab.mk x7 x8 (Val.mk x9 x10 x11 x12 x13 x14) x15 x16) (3000:Int)) fun x26=>
bnd (qfn n x6 (3000:Int)) fun x27=>
bnd (qfn n x21 (3000:Int)) fun x28=>
bnd (qfn n x22 (3000:Int)) fun x29=>
qas (qh4 n x5 x18 x20 x23 nx1 x3) n ((IntKind.i64.wrap ((IntKind.i64.wrap ((IntKind.i64.wrap ((IntKind.i64.wrap ((IntKind.i64.wrap ((IntKind.i64.wrap (x2+1))+x26))+x27))+x28))+x29))+((qak x24).length:Int))),(0:Int)))
else(
some (decide (x2≥3000)))
def qok (n:Nat) (a0z:qi2):Option (Bool):=
 match a0z with
 | ⟨x1⟩=>
 qas (qjt n x1) n ((0:Int),(0:Int))
set_option maxHeartbeats 4000000 in
theorem qxf (n:Nat):∀ (a0z:qi2) (r:Bool),qok n a0z=some r→qae Tryz.prog 9 [PV.agg (q35.cells a0z)] (q8m r):=by
 intro a0z r h
 obtain⟨x1⟩:=a0z
 unfold qok at h
 refine qae.of_vcN qa6 (fun _ _=>Tryz.call9 _ _) Tryz.func9 (by kernel_rfl) (inl:=[1000000]) ?_
 conv=>whnf
 refine qb4.fn [1000000] (S:=Int×Int) (fun(x2,x3)=>[(1,.ptr 0 0),(3,pI x2),(4,pI x3)]) (fun(x2,x3)=>[.box 24 [pC x1]]) (B:=qjt n x1) h (wk [0] []) ?_
 intro nx1 st h
 obtain⟨x2,x3⟩:=st
 unfold qjt at h
 conv=>whnf
 refine⟨id,id,?_⟩
 conv=>whnf
 refine ifc h (fun hc h=>?_) (fun hc h=>?_)
 ·conv=>whnf
  replace h:=qaa h
  obtain⟨⟨x4,x5,x6,⟨x7,x8,⟨x9,x10,x11,x12,x13,x14⟩,x15,x16⟩,x17,x18,x19,x20,x21,x22,x23,x24,x25⟩,h21,h⟩:=h
  refine⟨_,Codec.at_ qds h21,?_⟩
  conv=>whnf
  replace h:=qaa h
  obtain⟨x26,h20,h⟩:=h
  refine⟨_,(qmj n _ _ _ h20),?_⟩
  conv=>whnf
  replace h:=qaa h
  obtain⟨x27,h19,h⟩:=h
  refine⟨_,(qiv n _ _ _ h19),?_⟩
  conv=>whnf
  replace h:=qaa h
  obtain⟨x28,h18,h⟩:=h
  refine⟨_,(qiv n _ _ _ h18),?_⟩
  conv=>whnf
  replace h:=qaa h
  obtain⟨x29,h17,h⟩:=h
  refine⟨_,(qiv n _ _ _ h17),?_⟩
  conv=>whnf
  refine qb4.fn [1000000] (S:=Int×Int) (fun(x30,x31)=>[(1,.ptr 0 0),(3,pI x30),(4,pI x3),(5,.ptr 1 0),(6,pI x31)]) (fun(x30,x31)=>[.box 24 [pC x1],.box 55 [pI x4,pP x5,pE x6,pI x7,pS x8,pI x9,pB x10,pI x11,pS x12,pV x13,pT x14,pT x15,pE x16,pS x17,pA x18,pB x19,pO x20,pE x21,pE x22,pU x23,pT x24,pB x25]]) (B:=qh4 n x5 x18 x20 x23 nx1 x3) h (wk [0,1] []) ?_
  intro nx2 st h
  obtain⟨x30,x31⟩:=st
  unfold qh4 at h
  conv=>whnf
  refine⟨id,id,?_⟩
  conv=>whnf
  refine ifc h (fun hc h=>?_) (fun hc h=>?_)
  ·conv=>whnf
   refine qb4.fn [1000000] (S:=Int×Int) (fun(x32,x33)=>[(1,.ptr 0 0),(3,pI x32),(4,pI x3),(5,.ptr 1 0),(6,pI x31),(7,pI x33)]) (fun(x32,x33)=>[.box 24 [pC x1],.box 55 [pI x4,pP x5,pE x6,pI x7,pS x8,pI x9,pB x10,pI x11,pS x12,pV x13,pT x14,pT x15,pE x16,pS x17,pA x18,pB x19,pO x20,pE x21,pE x22,pU x23,pT x24,pB x25]]) (B:=qj2 n x5 x31 nx2) h (wk [0,1] []) ?_
   intro nx3 st h
   obtain⟨x32,x33⟩:=st
   unfold qj2 at h
   conv=>whnf
   replace h:=qaa h
   obtain⟨⟨x34,x35⟩,h10,h⟩:=h
   refine⟨_,Codec.at_ qnf h10,?_⟩
   conv=>whnf
   refine⟨id,id,?_⟩
   conv=>whnf
   refine ifc h (fun hc h=>?_) (fun hc h=>?_)
   ·conv=>whnf
    replace h:=qaa h
    obtain⟨⟨x36,x37⟩,h5,h⟩:=h
    refine⟨_,Codec.at_ qnf h5,?_⟩
    conv=>whnf
    replace h:=qaa h
    obtain⟨⟨x38,x39,x40,x41⟩,h4,h⟩:=h
    refine⟨_,Codec.at_ qeq h4,?_⟩
    conv=>whnf
    replace h:=qaa h
    obtain⟨⟨x42,x43⟩,h3,h⟩:=h
    refine⟨_,Codec.at_ qnf h3,?_⟩
    conv=>whnf
    replace h:=qaa h
    obtain⟨⟨x44,x45,x46,x47⟩,h2,h⟩:=h
    refine⟨_,Codec.at_ qeq h2,?_⟩
    conv=>whnf
    replace h:=qaa h
    obtain⟨x48,h1,h⟩:=h
    refine⟨_,(qiv n _ _ _ h1),?_⟩
    conv=>whnf
    exact⟨((IntKind.i64.wrap ((IntKind.i64.wrap ((IntKind.i64.wrap (x32+1))+((qak x39).length:Int)))+x48)),(IntKind.i64.wrap (x33+1))),h,wk [0,1] []⟩
   ·conv=>whnf
    refine qb4.fn [1000000] (S:=Int×Int) (fun(x49,x50)=>[(1,.ptr 0 0),(3,pI x49),(4,pI x3),(5,.ptr 1 0),(6,pI x31),(8,pI x50)]) (fun(x49,x50)=>[.box 24 [pC x1],.box 55 [pI x4,pP x5,pE x6,pI x7,pS x8,pI x9,pB x10,pI x11,pS x12,pV x13,pT x14,pT x15,pE x16,pS x17,pA x18,pB x19,pO x20,pE x21,pE x22,pU x23,pT x24,pB x25]]) (B:=qh5 n x5 x31 nx2) h (wk [0,1] []) ?_
    intro nx4 st h
    obtain⟨x49,x50⟩:=st
    unfold qh5 at h
    conv=>whnf
    replace h:=qaa h
    obtain⟨⟨x51,x52⟩,h9,h⟩:=h
    refine⟨_,Codec.at_ qnf h9,?_⟩
    conv=>whnf
    refine⟨id,id,?_⟩
    conv=>whnf
    refine ifc h (fun hc h=>?_) (fun hc h=>?_)
    ·conv=>whnf
     replace h:=qaa h
     obtain⟨⟨x53,x54⟩,h8,h⟩:=h
     refine⟨_,Codec.at_ qnf h8,?_⟩
     conv=>whnf
     replace h:=qaa h
     obtain⟨⟨x55,x56,x57,x58,x59⟩,h7,h⟩:=h
     refine⟨_,Codec.at_ qgj h7,?_⟩
     conv=>whnf
     replace h:=qaa h
     obtain⟨x60,h6,h⟩:=h
     refine⟨_,(qiv n _ _ _ h6),?_⟩
     conv=>whnf
     exact⟨((IntKind.i64.wrap ((IntKind.i64.wrap (x49+1))+x60)),(IntKind.i64.wrap (x50+1))),h,wk [0,1] []⟩
    ·conv=>whnf
     exact⟨(x49,(IntKind.i64.wrap (x31+1))),h,wk [0,1] []⟩
  ·conv=>whnf
   refine qb4.fn [1000000] (S:=Int×Int) (fun(x61,x62)=>[(1,.ptr 0 0),(3,pI x61),(4,pI x3),(5,.ptr 1 0),(9,pI x62)]) (fun(x61,x62)=>[.box 24 [pC x1],.box 55 [pI x4,pP x5,pE x6,pI x7,pS x8,pI x9,pB x10,pI x11,pS x12,pV x13,pT x14,pT x15,pE x16,pS x17,pA x18,pB x19,pO x20,pE x21,pE x22,pU x23,pT x24,pB x25]]) (B:=qgl n x18 x20 x23 nx1 x3) h (wk [0,1] []) ?_
   intro nx5 st h
   obtain⟨x61,x62⟩:=st
   unfold qgl at h
   conv=>whnf
   refine⟨id,id,?_⟩
   conv=>whnf
   refine ifc h (fun hc h=>?_) (fun hc h=>?_)
   ·conv=>whnf
    replace h:=qaa h
    obtain⟨⟨⟨x63,x64,⟨x65,x66,x67,x68,x69,x70⟩,x71,x72⟩,x73⟩,h12,h⟩:=h
    refine⟨_,Codec.at_ qsq h12,?_⟩
    conv=>whnf
    replace h:=qaa h
    obtain⟨x74,h11,h⟩:=h
    refine⟨_,(qmj n _ _ _ h11),?_⟩
    conv=>whnf
    exact⟨((IntKind.i64.wrap (x61+x74)),(IntKind.i64.wrap (x62+1))),h,wk [0,1] []⟩
   ·conv=>whnf
    refine qb4.fn [1000000] (S:=Int×Int) (fun(x75,x76)=>[(1,.ptr 0 0),(3,pI x75),(4,pI x3),(5,.ptr 1 0),(10,pI x76)]) (fun(x75,x76)=>[.box 24 [pC x1],.box 55 [pI x4,pP x5,pE x6,pI x7,pS x8,pI x9,pB x10,pI x11,pS x12,pV x13,pT x14,pT x15,pE x16,pS x17,pA x18,pB x19,pO x20,pE x21,pE x22,pU x23,pT x24,pB x25]]) (B:=qgm n x20 x23 nx1 x3) h (wk [0,1] []) ?_
    intro nx6 st h
    obtain⟨x75,x76⟩:=st
    unfold qgm at h
    conv=>whnf
    refine⟨id,id,?_⟩
    conv=>whnf
    refine ifc h (fun hc h=>?_) (fun hc h=>?_)
    ·conv=>whnf
     replace h:=qaa h
     obtain⟨⟨⟨x77,x78,⟨x79,x80,x81,x82,x83,x84⟩,x85,x86⟩,x87⟩,h14,h⟩:=h
     refine⟨_,Codec.at_ qnn h14,?_⟩
     conv=>whnf
     replace h:=qaa h
     obtain⟨x88,h13,h⟩:=h
     refine⟨_,(qmj n _ _ _ h13),?_⟩
     conv=>whnf
     exact⟨((IntKind.i64.wrap (x75+x88)),(IntKind.i64.wrap (x76+1))),h,wk [0,1] []⟩
    ·conv=>whnf
     refine qb4.fn [1000000] (S:=Int×Int) (fun(x89,x90)=>[(1,.ptr 0 0),(3,pI x89),(4,pI x3),(5,.ptr 1 0),(11,pI x90)]) (fun(x89,x90)=>[.box 24 [pC x1],.box 55 [pI x4,pP x5,pE x6,pI x7,pS x8,pI x9,pB x10,pI x11,pS x12,pV x13,pT x14,pT x15,pE x16,pS x17,pA x18,pB x19,pO x20,pE x21,pE x22,pU x23,pT x24,pB x25]]) (B:=qgp n x23 nx1 x3) h (wk [0,1] []) ?_
     intro nx7 st h
     obtain⟨x89,x90⟩:=st
     unfold qgp at h
     conv=>whnf
     refine⟨id,id,?_⟩
     conv=>whnf
     refine ifc h (fun hc h=>?_) (fun hc h=>?_)
     ·conv=>whnf
      replace h:=qaa h
      obtain⟨⟨x91,x92,x93,⟨x94,x95,⟨x96,x97,x98,x99,x100,x101⟩,x102,x103⟩⟩,h16,h⟩:=h
      refine⟨_,Codec.at_ qid h16,?_⟩
      conv=>whnf
      replace h:=qaa h
      obtain⟨x104,h15,h⟩:=h
      refine⟨_,(qmj n _ _ _ h15),?_⟩
      conv=>whnf
      exact⟨((IntKind.i64.wrap ((IntKind.i64.wrap (x89+1))+x104)),(IntKind.i64.wrap (x90+1))),h,wk [0,1] []⟩
     ·conv=>whnf
      exact⟨(x89,(IntKind.i64.wrap (x3+1))),h,wk [0] []⟩
 ·obtain rfl:=sj h
  conv=>whnf
  try exact fin
abbrev q5g (r:Bool):PV:=PV.bool r
def qhw (n:Nat) (x1:Int):Option (Bool):=
 some (bif(bif(bif(decide (x1≥97))then(decide (x1≤122))else false)then true else(bif(decide (x1≥65))then(decide (x1≤90))else false))then true else(x1==95))
theorem qn4 (n:Nat):∀ (x1:Int) (r:Bool),qhw n x1=some r→qae Tryz.prog 87 [PV.int .u8 x1] (q5g r):=by
 intro x1 r h
 unfold qhw at h
 refine qae.of_vcN qa6 (fun _ _=>Tryz.call87 _ _) Tryz.func87 (by kernel_rfl) (inl:=[1000000]) ?_
 conv=>whnf
 refine⟨id,id,id,id,id,id,id,id,id,id,?_⟩
 obtain rfl:=sj h
 conv=>whnf
 try exact fin
abbrev q68 (r:Bool):PV:=PV.bool r
def qjf (n:Nat) (x1:Int):Option (Bool):=
 some (bif(decide (x1≥48))then(decide (x1≤57))else false)
theorem ql8 (n:Nat):∀ (x1:Int) (r:Bool),qjf n x1=some r→qae Tryz.prog 88 [PV.int .u8 x1] (q68 r):=by
 intro x1 r h
 unfold qjf at h
 refine qae.of_vcN qa6 (fun _ _=>Tryz.call88 _ _) Tryz.func88 (by kernel_rfl) (inl:=[1000000]) ?_
 conv=>whnf
 refine⟨id,id,?_⟩
 obtain rfl:=sj h
 conv=>whnf
 try exact fin
abbrev q72 (r:List SS):PV:=PV.sl (qak r)
def qte (n:Nat):Option (List SS):=
 some [([77,65,84,67,72]:SS),([87,72,69,82,69]:SS),([85,78,87,73,78,68]:SS),([65,83]:SS),([87,73,84,72]:SS),([67,82,69,65,84,69]:SS),([77,69,82,71,69]:SS),([83,69,84]:SS),([82,69,77,79,86,69]:SS),([68,69,76,69,84,69]:SS),([68,69,84,65,67,72]:SS),([82,69,84,85,82,78]:SS),([68,73,83,84,73,78,67,84]:SS),([79,82,68,69,82]:SS),([66,89]:SS),([65,83,67]:SS),([68,69,83,67]:SS),([83,75,73,80]:SS),([76,73,77,73,84]:SS),([65,78,68]:SS),([79,82]:SS),([88,79,82]:SS),([78,79,84]:SS),([73,78]:SS),([73,83]:SS),([78,85,76,76]:SS),([84,82,85,69]:SS),([70,65,76,83,69]:SS)]
theorem q5x (n:Nat):∀ (r:List SS),qte n=some r→qae Tryz.prog 116 [] (q72 r):=by
 intro r h
 unfold qte at h
 refine qae.of_vcN qa6 (fun _ _=>Tryz.call116 _ _) Tryz.func116 (by kernel_rfl) (inl:=[1000000]) ?_
 conv=>whnf
 refine⟨Codec.one qp6 [([77,65,84,67,72]:SS),([87,72,69,82,69]:SS),([85,78,87,73,78,68]:SS),([65,83]:SS),([87,73,84,72]:SS),([67,82,69,65,84,69]:SS),([77,69,82,71,69]:SS),([83,69,84]:SS),([82,69,77,79,86,69]:SS),([68,69,76,69,84,69]:SS),([68,69,84,65,67,72]:SS),([82,69,84,85,82,78]:SS),([68,73,83,84,73,78,67,84]:SS),([79,82,68,69,82]:SS),([66,89]:SS),([65,83,67]:SS),([68,69,83,67]:SS),([83,75,73,80]:SS),([76,73,77,73,84]:SS),([65,78,68]:SS),([79,82]:SS),([88,79,82]:SS),([78,79,84]:SS),([73,78]:SS),([73,83]:SS),([78,85,76,76]:SS),([84,82,85,69]:SS),([70,65,76,83,69]:SS)],qak [([77,65,84,67,72]:SS),([87,72,69,82,69]:SS),([85,78,87,73,78,68]:SS),([65,83]:SS),([87,73,84,72]:SS),([67,82,69,65,84,69]:SS),([77,69,82,71,69]:SS),([83,69,84]:SS),([82,69,77,79,86,69]:SS),([68,69,76,69,84,69]:SS),([68,69,84,65,67,72]:SS),([82,69,84,85,82,78]:SS),([68,73,83,84,73,78,67,84]:SS),([79,82,68,69,82]:SS),([66,89]:SS),([65,83,67]:SS),([68,69,83,67]:SS),([83,75,73,80]:SS),([76,73,77,73,84]:SS),([65,78,68]:SS),([79,82]:SS),([88,79,82]:SS),([78,79,84]:SS),([73,78]:SS),([73,83]:SS),([78,85,76,76]:SS),([84,82,85,69]:SS),([70,65,76,83,69]:SS)],.inl rfl,?_⟩
 obtain rfl:=sj h
 conv=>whnf
 try exact fin
abbrev q8f (r:SS):PV:=PV.str r
def qjr (n:Nat) (x2:SS) (nx1:SS×Int→Option SS) (x3:Int):Int→Option SS:=fun x5=>
bnd (u8I x5) fun x6=>
chk (decide ((qdr (x2++[x6])).length * 1≤140737488355328)) (
nx1 ((x2++[x6]),(IntKind.i64.wrap (x3+1))))
def qj4 (n:Nat) (x1:SS):(SS×Int→Option SS)→SS×Int→Option SS:=fun nx1 (x2,x3)=>
bif(decide (x3<((x1.length:Nat):Int)))then(
bnd (idx x1 x3) fun x4=>
bif(bif(decide (((x4.toNat:Nat):Int)≥97))then(decide (((x4.toNat:Nat):Int)≤122))else false)then(
qjr n x2 nx1 x3 (IntKind.u8.wrap (((x4.toNat:Nat):Int) - 32)))
else(
qjr n x2 nx1 x3 ((x4.toNat:Nat):Int)))
else(
some x2)
def qqj (n:Nat) (x1:SS):Option SS:=
 qas (qj4 n x1) n (([]:List _),(0:Int))
theorem q5f (n:Nat):∀ (x1 r:SS),qqj n x1=some r→qae Tryz.prog 117 [PV.str x1] (q8f r):=by
 intro x1 r h
 unfold qqj at h
 refine qae.of_vcN qa6 (fun _ _=>Tryz.call117 _ _) Tryz.func117 (by kernel_rfl) (inl:=[1000000]) ?_
 conv=>whnf
 refine qb4.fn [1000000] (S:=SS×Int) (fun(x2,x3)=>[(0,pS x1),(3,.tsl 0 (qdr x2)),(4,pI x3)]) (fun(x2,x3)=>[.tail 5 1 (qdr x2).length]) (B:=qj4 n x1) h (wk [0] [0]) ?_
 intro nx1 st h
 obtain⟨x2,x3⟩:=st
 unfold qj4 at h
 conv=>whnf
 refine ifc h (fun hc h=>?_) (fun hc h=>?_)
 ·conv=>whnf
  replace h:=qaa h
  obtain⟨x4,h3,h⟩:=h
  refine⟨_,qdq h3,?_⟩
  conv=>whnf
  refine qme.cut (S:=Int) (fun x5=>[(0,pS x1),(3,.tsl 0 (qdr x2)),(4,pI x3),(5,.p (.int .u8 x5))]) (fun x5=>[.tail 5 1 (qdr x2).length]) (qjr n x2 nx1 x3) (r:=r) ?_ ?_
  ·intro x5 h
   unfold qjr at h
   conv=>whnf
   replace h:=qaa h
   obtain⟨x6,h1,h⟩:=h
   rw[show([[PV.int .u8 x5]]:List (List PV))=qdr [x6]from by rw[q7g h1]; rfl]
   refine⟨Codec.one qs1 [x6],_,.inl rfl,?_⟩
   conv=>whnf
   rw[show qdr x2++qdr [x6]=qdr (x2++[x6])from Codec.append qs1 x2 [x6]]
   conv=>whnf
   obtain⟨h2,h⟩:=qaz h
   refine⟨⟨Codec.wide qs1 (x2++[x6]),of_decide_eq_true h2,qd6 h2 (by decide)⟩,?_⟩
   conv=>whnf
   refine⟨⟨rfl,rfl,rfl⟩,?_⟩
   conv=>whnf
   exact⟨((x2++[x6]),(IntKind.i64.wrap (x3+1))),h,wk [1] []⟩
  ·conv=>whnf
   refine⟨id,?_⟩
   conv=>whnf
   refine⟨id,?_⟩
   conv=>whnf
   refine ifc h (fun hc h=>?_) (fun hc h=>?_)
   ·conv=>whnf
    exact⟨(IntKind.u8.wrap (((x4.toNat:Nat):Int) - 32)),h,wk [0] []⟩
   ·conv=>whnf
    exact⟨((x4.toNat:Nat):Int),h,wk [0] []⟩
 ·conv=>whnf
  refine⟨_,rfl,?_⟩
  obtain rfl:=sj h
  conv=>whnf
  try exact fin
abbrev zaa (r:SS×Bool):PV:=PV.tup [PV.str r.1,PV.bool r.2]
def ql2 (n:Nat) (x2:List SS) (x3:SS):(Int→Option (SS×Bool))→Int→Option (SS×Bool):=fun nx1 x4=>
bif(decide (x4<((qak x2).length:Int)))then(
bnd (idx x2 x4) fun x5=>
bif(x5==x3)then(
some (x3,true))
else(
nx1 (IntKind.i64.wrap (x4+1))))
else(
some (([]:SS),false))
def qqc (n:Nat) (x1:SS):Option (SS×Bool):=
 bnd (qte n) fun x2=>
 bnd (qqj n x1) fun x3=>
 qas (ql2 n x2 x3) n (0:Int)
theorem qy5 (n:Nat):∀ (x1:SS) (r:SS×Bool),qqc n x1=some r→qae Tryz.prog 89 [PV.str x1] (zaa r):=by
 intro x1 r h
 unfold qqc at h
 refine qae.of_vcN qa6 (fun _ _=>Tryz.call89 _ _) Tryz.func89 (by kernel_rfl) (inl:=[1000000]) ?_
 conv=>whnf
 replace h:=qaa h
 obtain⟨x2,h3,h⟩:=h
 refine⟨_,(q5x n _ h3),?_⟩
 conv=>whnf
 replace h:=qaa h
 obtain⟨x3,h2,h⟩:=h
 refine⟨_,(q5f n _ _ h2),?_⟩
 conv=>whnf
 refine qb4.fn [1000000] (S:=Int) (fun x4=>[(4,pT x2),(5,pS x3),(6,pI x4)]) (fun x4=>[]) (B:=ql2 n x2 x3) h (wk [] []) ?_
 intro nx1 x4 h
 unfold ql2 at h
 conv=>whnf
 refine ifc h (fun hc h=>?_) (fun hc h=>?_)
 ·conv=>whnf
  replace h:=qaa h
  obtain⟨x5,h1,h⟩:=h
  refine⟨_,Codec.at_ qp6 h1,?_⟩
  conv=>whnf
  refine ifc h (fun hc h=>?_) (fun hc h=>?_)
  ·obtain rfl:=sj h
   conv=>whnf
   try exact fin
  ·conv=>whnf
   exact⟨(IntKind.i64.wrap (x4+1)),h,wk [] []⟩
 ·obtain rfl:=sj h
  conv=>whnf
  try exact fin
abbrev q50 (r:Bool):PV:=PV.bool r
def qq1 (n:Nat) (x1:SS):(Int→Option (Bool))→Int→Option (Bool):=fun nx1 x2=>
bif(decide (x2<((x1.length:Nat):Int)))then(
bnd (idx x1 x2) fun x3=>
bnd (qa2 (!(decide (((x3.toNat:Nat):Int)<48))) (idx x1 x2)) fun x4=>
bif(bif(decide (((x3.toNat:Nat):Int)<48))then true else(decide (((x4.toNat:Nat):Int)>57)))then(
some false)
else(
nx1 (IntKind.i64.wrap (x2+1))))
else(
some (decide (((x1.length:Nat):Int)>0)))
def qu4 (n:Nat) (x1:SS):Option (Bool):=
 qas (qq1 n x1) n (0:Int)
theorem q3s (n:Nat):∀ (x1:SS) (r:Bool),qu4 n x1=some r→qae Tryz.prog 118 [PV.str x1] (q50 r):=by
 intro x1 r h
 unfold qu4 at h
 refine qae.of_vcN qa6 (fun _ _=>Tryz.call118 _ _) Tryz.func118 (by kernel_rfl) (inl:=[1000000]) ?_
 conv=>whnf
 refine qb4.fn [1000000] (S:=Int) (fun x2=>[(0,pS x1),(3,pI x2)]) (fun x2=>[]) (B:=qq1 n x1) h (wk [] []) ?_
 intro nx1 x2 h
 unfold qq1 at h
 conv=>whnf
 refine ifc h (fun hc h=>?_) (fun hc h=>?_)
 ·conv=>whnf
  replace h:=qaa h
  obtain⟨x3,h2,h⟩:=h
  refine⟨_,qdq h2,?_⟩
  conv=>whnf
  refine⟨id,id,?_⟩
  conv=>whnf
  replace h:=qaa h
  obtain⟨x4,h1,h⟩:=h
  refine⟨_,fun hg=>qdq (qah h1 hg),?_⟩
  conv=>whnf
  refine⟨id,id,?_⟩
  conv=>whnf
  refine ifc h (fun hc h=>?_) (fun hc h=>?_)
  ·obtain rfl:=sj h
   conv=>whnf
   try exact fin
  ·conv=>whnf
   exact⟨(IntKind.i64.wrap (x2+1)),h,wk [] []⟩
 ·obtain rfl:=sj h
  conv=>whnf
  try exact fin
abbrev zce (r:Int×Int):PV:=PV.tup [PV.int .i64 r.1,PV.int .i64 r.2]
def q20 (n:Nat) (x1 x2:Int):Option (Int×Int):=
 bif(bif(x1==0)then true else(x2==0))then(
 some ((0:Int),(0:Int)))
 else(
 bif(bif(bif(x1==(-1:Int))then(x2==(-9223372036854775808:Int))else false)then true else(bif(x2==(-1:Int))then(x1==(-9223372036854775808:Int))else false))then(
 some ((0:Int),(4:Int)))
 else(
 chk (decide (x2≠0)) (
 bif((IntKind.i64.wrap (Int.tdiv (IntKind.i64.wrap (x1 * x2)) x2)) != x1)then(
 some ((0:Int),(4:Int)))
 else(
 some ((IntKind.i64.wrap (x1 * x2)),(0:Int))))))
theorem zax (n:Nat):∀ (x1 x2:Int) (r:Int×Int),q20 n x1 x2=some r→qae Tryz.prog 119 [PV.int .i64 x1,PV.int .i64 x2] (zce r):=by
 intro x1 x2 r h
 unfold q20 at h
 refine qae.of_vcN qa6 (fun _ _=>Tryz.call119 _ _) Tryz.func119 (by kernel_rfl) (inl:=[1000000]) ?_
 conv=>whnf
 refine⟨id,id,?_⟩
 conv=>whnf
 refine ifc h (fun hc h=>?_) (fun hc h=>?_)
 ·obtain rfl:=sj h
  conv=>whnf
  try exact fin
 ·conv=>whnf
  refine⟨id,id,id,id,id,id,id,id,?_⟩
  conv=>whnf
  refine ifc h (fun hc h=>?_) (fun hc h=>?_)
  ·obtain rfl:=sj h
   conv=>whnf
   try exact fin
  ·conv=>whnf
   obtain⟨h1,h⟩:=qaz h
   refine⟨(of_decide_eq_true h1:x2≠0),?_⟩
   conv=>whnf
   refine ifc h (fun hc h=>?_) (fun hc h=>?_)
   ·obtain rfl:=sj h
    conv=>whnf
    try exact fin
   ·obtain rfl:=sj h
    conv=>whnf
    try exact fin
abbrev zbu (r:Int×Int):PV:=PV.tup [PV.int .i64 r.1,PV.int .i64 r.2]
def q3c (n:Nat) (x1 x2:Int):Option (Int×Int):=
 bif(bif(bif(decide (x2>0))then(decide (x1>(IntKind.i64.wrap ((9223372036854775807:Int) - x2))))else false)then true else(bif(decide (x2<0))then(decide (x1<(IntKind.i64.wrap ((-9223372036854775808:Int) - x2))))else false))then(
 some ((0:Int),(4:Int)))
 else(
 some ((IntKind.i64.wrap (x1+x2)),(0:Int)))
theorem zag (n:Nat):∀ (x1 x2:Int) (r:Int×Int),q3c n x1 x2=some r→qae Tryz.prog 120 [PV.int .i64 x1,PV.int .i64 x2] (zbu r):=by
 intro x1 x2 r h
 unfold q3c at h
 refine qae.of_vcN qa6 (fun _ _=>Tryz.call120 _ _) Tryz.func120 (by kernel_rfl) (inl:=[1000000]) ?_
 conv=>whnf
 refine⟨id,id,id,id,id,id,id,id,id,id,id,id,?_⟩
 conv=>whnf
 refine ifc h (fun hc h=>?_) (fun hc h=>?_)
 ·obtain rfl:=sj h
  conv=>whnf
  try exact fin
 ·obtain rfl:=sj h
  conv=>whnf
  try exact fin
abbrev q64 (r:Int×Int):PV:=PV.tup [PV.int .i64 r.1,PV.int .i64 r.2]
def qop (n:Nat) (x7:Int) (nx1:Int×Int→Option (Int×Int)) (x6:Int):Int→Option (Int×Int):=fun x10=>
bnd (q3c n x7 x10) fun⟨x11,x12⟩=>
bif(x12 != 0)then(
some ((0:Int),x12))
else(
nx1 (x11,(IntKind.i64.wrap (x6+1))))
def qr2 (n:Nat) (x2 x1:SS):(Int×Int→Option (Int×Int))→Int×Int→Option (Int×Int):=fun nx1 (x5,x6)=>
bif(decide (x6<((x2.length:Nat):Int)))then(
bnd (q20 n x5 (10:Int)) fun⟨x7,x8⟩=>
bif(x8 != 0)then(
some ((0:Int),x8))
else(
bnd (idx x2 x6) fun x9=>
bif(decide (((x2.length:Nat):Int)<((x1.length:Nat):Int)))then(
qop n x7 nx1 x6 (IntKind.i64.wrap ((0:Int) - (IntKind.i64.wrap (IntKind.u8.wrap (((x9.toNat:Nat):Int) - 48))))))
else(
qop n x7 nx1 x6 (IntKind.i64.wrap (IntKind.u8.wrap (((x9.toNat:Nat):Int) - 48))))))
else(
some (x5,(0:Int)))
def qor (n:Nat) (x1:SS):SS→Option (Int×Int):=fun x2=>
bnd (qu4 n x2) fun x3=>
bnd (qa2 (!(!x3)) (idx x2 (0:Int))) fun x4=>
bif(bif(!x3)then true else(bif(((x4.toNat:Nat):Int)==48)then(!(x1==([48]:SS)))else false))then(
some ((0:Int),(1:Int)))
else(
qas (qr2 n x2 x1) n ((0:Int),(0:Int)))
def qya (n:Nat) (x1:SS):Option (Int×Int):=
 bnd (qa2 (decide (((x1.length:Nat):Int)>0)) (idx x1 (0:Int))) fun x13=>
 bif(bif(decide (((x1.length:Nat):Int)>0))then(((x13.toNat:Nat):Int)==45)else false)then(
 chk (decide (1≤x1.length)) (
 qor n x1 (x1.drop 1)))
 else(
 qor n x1 x1)
theorem q59 (n:Nat):∀ (x1:SS) (r:Int×Int),qya n x1=some r→qae Tryz.prog 90 [PV.str x1] (q64 r):=by
 intro x1 r h
 unfold qya at h
 refine qae.of_vcN qa6 (fun _ _=>Tryz.call90 _ _) Tryz.func90 (by kernel_rfl) (inl:=[1000000]) ?_
 conv=>whnf
 refine qme.cut (S:=SS) (fun x2=>[(0,pS x1),(4,pS x2)]) (fun x2=>[]) (qor n x1) (r:=r) ?_ ?_
 ·intro x2 h
  unfold qor at h
  conv=>whnf
  replace h:=qaa h
  obtain⟨x3,h5,h⟩:=h
  refine⟨_,(q3s n _ _ h5),?_⟩
  conv=>whnf
  refine⟨id,?_⟩
  conv=>whnf
  replace h:=qaa h
  obtain⟨x4,h4,h⟩:=h
  refine⟨_,fun hg=>qdq (qah h4 hg),?_⟩
  conv=>whnf
  refine⟨id,id,id,id,id,id,?_⟩
  conv=>whnf
  refine ifc h (fun hc h=>?_) (fun hc h=>?_)
  ·obtain rfl:=sj h
   conv=>whnf
   try exact fin
  ·conv=>whnf
   refine qb4.fn [1000000] (S:=Int×Int) (fun(x5,x6)=>[(0,pS x1),(4,pS x2),(5,pI x5),(6,pI x6)]) (fun(x5,x6)=>[]) (B:=qr2 n x2 x1) h (wk [] []) ?_
   intro nx1 st h
   obtain⟨x5,x6⟩:=st
   unfold qr2 at h
   conv=>whnf
   refine ifc h (fun hc h=>?_) (fun hc h=>?_)
   ·conv=>whnf
    replace h:=qaa h
    obtain⟨⟨x7,x8⟩,h3,h⟩:=h
    refine⟨_,(zax n _ _ _ h3),?_⟩
    conv=>whnf
    refine ifc h (fun hc h=>?_) (fun hc h=>?_)
    ·obtain rfl:=sj h
     conv=>whnf
     try exact fin
    ·conv=>whnf
     replace h:=qaa h
     obtain⟨x9,h2,h⟩:=h
     refine⟨_,qdq h2,?_⟩
     conv=>whnf
     refine qme.cut (S:=Int) (fun x10=>[(0,pS x1),(4,pS x2),(6,pI x6),(7,pI x7),(9,pI x10)]) (fun x10=>[]) (qop n x7 nx1 x6) (r:=r) ?_ ?_
     ·intro x10 h
      unfold qop at h
      conv=>whnf
      replace h:=qaa h
      obtain⟨⟨x11,x12⟩,h1,h⟩:=h
      refine⟨_,(zag n _ _ _ h1),?_⟩
      conv=>whnf
      refine ifc h (fun hc h=>?_) (fun hc h=>?_)
      ·obtain rfl:=sj h
       conv=>whnf
       try exact fin
      ·conv=>whnf
       exact⟨(x11,(IntKind.i64.wrap (x6+1))),h,wk [] []⟩
     ·conv=>whnf
      refine ifc h (fun hc h=>?_) (fun hc h=>?_)
      ·conv=>whnf
       exact⟨(IntKind.i64.wrap ((0:Int) - (IntKind.i64.wrap (IntKind.u8.wrap (((x9.toNat:Nat):Int) - 48))))),h,wk [] []⟩
      ·conv=>whnf
       exact⟨(IntKind.i64.wrap (IntKind.u8.wrap (((x9.toNat:Nat):Int) - 48))),h,wk [] []⟩
   ·obtain rfl:=sj h
    conv=>whnf
    try exact fin
 ·conv=>whnf
  refine⟨id,?_⟩
  conv=>whnf
  replace h:=qaa h
  obtain⟨x13,h7,h⟩:=h
  refine⟨_,fun hg=>qdq (qah h7 hg),?_⟩
  conv=>whnf
  refine⟨id,id,?_⟩
  conv=>whnf
  refine ifc h (fun hc h=>?_) (fun hc h=>?_)
  ·conv=>whnf
   refine⟨1,rfl,?_⟩
   conv=>whnf
   obtain⟨h6,h⟩:=qaz h
   refine⟨⟨(of_decide_eq_true h6:(1≤x1.length)),Nat.le_refl _⟩,?_⟩
   rw[show List.drop 1 (List.take x1.length x1)=(x1.drop 1)from by rw[List.take_length]]
   conv=>whnf
   exact⟨(x1.drop 1),h,wk [] []⟩
  ·conv=>whnf
   exact⟨x1,h,wk [] []⟩
abbrev zac (r:Bool):PV:=PV.bool r
def qsp (n:Nat) (x1:SS) (x2:Int):Option (Bool):=
 bnd (qa2 (decide (x2<((x1.length:Nat):Int))) (idx x1 x2)) fun x3=>
 bnd (qa2 (bif(decide (x2<((x1.length:Nat):Int)))then(decide (((x3.toNat:Nat):Int)≥128))else false) (idx x1 x2)) fun x4=>
 some (bif(bif(decide (x2<((x1.length:Nat):Int)))then(decide (((x3.toNat:Nat):Int)≥128))else false)then(decide (((x4.toNat:Nat):Int)<192))else false)
theorem qtc (n:Nat):∀ (x1:SS) (x2:Int) (r:Bool),qsp n x1 x2=some r→qae Tryz.prog 127 [PV.str x1,PV.int .i64 x2] (zac r):=by
 intro x1 x2 r h
 unfold qsp at h
 refine qae.of_vcN qa6 (fun _ _=>Tryz.call127 _ _) Tryz.func127 (by kernel_rfl) (inl:=[1000000]) ?_
 conv=>whnf
 refine⟨id,id,?_⟩
 conv=>whnf
 replace h:=qaa h
 obtain⟨x3,h2,h⟩:=h
 refine⟨_,fun hg=>qdq (qah h2 hg),?_⟩
 conv=>whnf
 refine⟨id,id,id,id,?_⟩
 conv=>whnf
 replace h:=qaa h
 obtain⟨x4,h1,h⟩:=h
 refine⟨_,fun hg=>qdq (qah h1 hg),?_⟩
 conv=>whnf
 refine⟨id,id,?_⟩
 obtain rfl:=sj h
 conv=>whnf
 try exact fin
abbrev q9n (r:Int):PV:=PV.int .i64 r
def qz9 (n:Nat) (x1:SS) (x2:Int):Option (Int):=
 bif(decide (x2≥((x1.length:Nat):Int)))then(
 some (0:Int))
 else(
 bnd (idx x1 x2) fun x3=>
 bif(decide (((x3.toNat:Nat):Int)<128))then(
 some (1:Int))
 else(
 bnd (qa2 (!(bif(decide (((x3.toNat:Nat):Int)<194))then true else(decide (((x3.toNat:Nat):Int)>244)))) (qsp n x1 (IntKind.i64.wrap (x2+1)))) fun x4=>
 bif(bif(bif(decide (((x3.toNat:Nat):Int)<194))then true else(decide (((x3.toNat:Nat):Int)>244)))then true else(!x4))then(
 some (0:Int))
 else(
 bif(decide (((x3.toNat:Nat):Int)<224))then(
 some (2:Int))
 else(
 bnd (idx x1 (IntKind.i64.wrap (x2+1))) fun x5=>
 bnd (qsp n x1 (IntKind.i64.wrap (x2+2))) fun x6=>
 bif(bif(bif(!x6)then true else(bif(((x3.toNat:Nat):Int)==224)then(decide (((x5.toNat:Nat):Int)<160))else false))then true else(bif(((x3.toNat:Nat):Int)==237)then(decide (((x5.toNat:Nat):Int)≥160))else false))then(
 some (0:Int))
 else(
 bif(decide (((x3.toNat:Nat):Int)<240))then(
 some (3:Int))
 else(
 bnd (qsp n x1 (IntKind.i64.wrap (x2+3))) fun x7=>
 bif(bif(bif(!x7)then true else(bif(((x3.toNat:Nat):Int)==240)then(decide (((x5.toNat:Nat):Int)<144))else false))then true else(bif(((x3.toNat:Nat):Int)==244)then(decide (((x5.toNat:Nat):Int)≥144))else false))then(
 some (0:Int))
 else(
 some (4:Int))))))))
set_option maxHeartbeats 4000000 in
theorem q7o (n:Nat):∀ (x1:SS) (x2 r:Int),qz9 n x1 x2=some r→qae Tryz.prog 121 [PV.str x1,PV.int .i64 x2] (q9n r):=by
 intro x1 x2 r h
 unfold qz9 at h
 refine qae.of_vcN qa6 (fun _ _=>Tryz.call121 _ _) Tryz.func121 (by kernel_rfl) (inl:=[1000000]) ?_
 conv=>whnf
 refine ifc h (fun hc h=>?_) (fun hc h=>?_)
 ·obtain rfl:=sj h
  conv=>whnf
  try exact fin
 ·conv=>whnf
  replace h:=qaa h
  obtain⟨x3,h5,h⟩:=h
  refine⟨_,qdq h5,?_⟩
  conv=>whnf
  refine ifc h (fun hc h=>?_) (fun hc h=>?_)
  ·obtain rfl:=sj h
   conv=>whnf
   try exact fin
  ·conv=>whnf
   refine⟨id,id,id,id,id,?_⟩
   conv=>whnf
   replace h:=qaa h
   obtain⟨x4,h4,h⟩:=h
   refine⟨_,fun hg=>(qtc n _ _ _ (qah h4 hg)),?_⟩
   conv=>whnf
   refine⟨id,id,?_⟩
   conv=>whnf
   refine ifc h (fun hc h=>?_) (fun hc h=>?_)
   ·obtain rfl:=sj h
    conv=>whnf
    try exact fin
   ·conv=>whnf
    refine ifc h (fun hc h=>?_) (fun hc h=>?_)
    ·obtain rfl:=sj h
     conv=>whnf
     try exact fin
    ·conv=>whnf
     replace h:=qaa h
     obtain⟨x5,h3,h⟩:=h
     refine⟨_,qdq h3,?_⟩
     conv=>whnf
     replace h:=qaa h
     obtain⟨x6,h2,h⟩:=h
     refine⟨_,(qtc n _ _ _ h2),?_⟩
     conv=>whnf
     refine⟨id,id,id,id,id,id,id,id,id,id,id,id,?_⟩
     conv=>whnf
     refine ifc h (fun hc h=>?_) (fun hc h=>?_)
     ·obtain rfl:=sj h
      conv=>whnf
      try exact fin
     ·conv=>whnf
      refine ifc h (fun hc h=>?_) (fun hc h=>?_)
      ·obtain rfl:=sj h
       conv=>whnf
       try exact fin
      ·conv=>whnf
       replace h:=qaa h
       obtain⟨x7,h1,h⟩:=h
       refine⟨_,(qtc n _ _ _ h1),?_⟩
       conv=>whnf
       refine⟨id,id,id,id,id,id,id,id,id,id,id,id,?_⟩
       conv=>whnf
       refine ifc h (fun hc h=>?_) (fun hc h=>?_)
       ·obtain rfl:=sj h
        conv=>whnf
        try exact fin
       ·obtain rfl:=sj h
        conv=>whnf
        try exact fin
abbrev zbv (r:Int):PV:=PV.int .i64 r
def qsm (n:Nat) (x1:Int):Option (Int):=
 bnd (qjf n x1) fun x2=>
 bif x2 then(
 some (IntKind.i64.wrap (IntKind.u8.wrap (x1 - 48))))
 else(
 bif(bif(decide (x1≥97))then(decide (x1≤102))else false)then(
 some (IntKind.i64.wrap ((IntKind.i64.wrap (IntKind.u8.wrap (x1 - 97)))+10)))
 else(
 bif(bif(decide (x1≥65))then(decide (x1≤70))else false)then(
 some (IntKind.i64.wrap ((IntKind.i64.wrap (IntKind.u8.wrap (x1 - 65)))+10)))
 else(
 some (-1:Int))))
theorem qrg (n:Nat):∀ (x1 r:Int),qsm n x1=some r→qae Tryz.prog 122 [PV.int .u8 x1] (zbv r):=by
 intro x1 r h
 unfold qsm at h
 refine qae.of_vcN qa6 (fun _ _=>Tryz.call122 _ _) Tryz.func122 (by kernel_rfl) (inl:=[1000000]) ?_
 conv=>whnf
 replace h:=qaa h
 obtain⟨x2,h1,h⟩:=h
 refine⟨_,(ql8 n _ _ h1),?_⟩
 conv=>whnf
 refine ifc h (fun hc h=>?_) (fun hc h=>?_)
 ·obtain rfl:=sj h
  conv=>whnf
  try exact fin
 ·conv=>whnf
  refine⟨id,id,?_⟩
  conv=>whnf
  refine ifc h (fun hc h=>?_) (fun hc h=>?_)
  ·obtain rfl:=sj h
   conv=>whnf
   try exact fin
  ·conv=>whnf
   refine⟨id,id,?_⟩
   conv=>whnf
   refine ifc h (fun hc h=>?_) (fun hc h=>?_)
   ·obtain rfl:=sj h
    conv=>whnf
    try exact fin
   ·obtain rfl:=sj h
    conv=>whnf
    try exact fin
abbrev q5r (r:SS×Int×Bool):PV:=PV.tup [PV.str r.1,PV.int .i64 r.2.1,PV.bool r.2.2]
def qni (n:Nat) (x4:SS) (x10:UInt8) (nx1:SS×Int→Option (SS×Int×Bool)) (x5:Int) (x1:SS):Bool→Option (SS×Int×Bool):=fun x11=>
bif x11 then(
chk (decide ((qdr (x4++[x10])).length * 1≤140737488355328)) (
nx1 ((x4++[x10]),(IntKind.i64.wrap (x5+2)))))
else(
bif(((x10.toNat:Nat):Int)==110)then(
chk (decide ((qdr (x4++[(10:UInt8)])).length * 1≤140737488355328)) (
nx1 ((x4++[(10:UInt8)]),(IntKind.i64.wrap (x5+2)))))
else(
bif(((x10.toNat:Nat):Int)==116)then(
chk (decide ((qdr (x4++[(9:UInt8)])).length * 1≤140737488355328)) (
nx1 ((x4++[(9:UInt8)]),(IntKind.i64.wrap (x5+2)))))
else(
bif(((x10.toNat:Nat):Int)==114)then(
chk (decide ((qdr (x4++[(13:UInt8)])).length * 1≤140737488355328)) (
nx1 ((x4++[(13:UInt8)]),(IntKind.i64.wrap (x5+2)))))
else(
bif(((x10.toNat:Nat):Int)==120)then(
bnd (qa2 (!(decide ((IntKind.i64.wrap ((IntKind.i64.wrap (x5+2))+1))≥((x1.length:Nat):Int)))) (idx x1 (IntKind.i64.wrap (x5+2)))) fun x12=>
bnd (qa2 (!(decide ((IntKind.i64.wrap ((IntKind.i64.wrap (x5+2))+1))≥((x1.length:Nat):Int)))) (qsm n ((x12.toNat:Nat):Int))) fun x13=>
bnd (qa2 (!(bif(decide ((IntKind.i64.wrap ((IntKind.i64.wrap (x5+2))+1))≥((x1.length:Nat):Int)))then true else(decide (x13<0)))) (idx x1 (IntKind.i64.wrap ((IntKind.i64.wrap (x5+2))+1)))) fun x14=>
bnd (qa2 (!(bif(decide ((IntKind.i64.wrap ((IntKind.i64.wrap (x5+2))+1))≥((x1.length:Nat):Int)))then true else(decide (x13<0)))) (qsm n ((x14.toNat:Nat):Int))) fun x15=>
bif(bif(bif(decide ((IntKind.i64.wrap ((IntKind.i64.wrap (x5+2))+1))≥((x1.length:Nat):Int)))then true else(decide (x13<0)))then true else(decide (x15<0)))then(
some (([]:SS),(0:Int),false))
else(
bnd (idx x1 (IntKind.i64.wrap (x5+2))) fun x16=>
bnd (qsm n ((x16.toNat:Nat):Int)) fun x17=>
bnd (idx x1 (IntKind.i64.wrap ((IntKind.i64.wrap (x5+2))+1))) fun x18=>
bnd (qsm n ((x18.toNat:Nat):Int)) fun x19=>
bnd (u8I (IntKind.u8.wrap (IntKind.i64.wrap ((IntKind.i64.wrap (x17 * (16:Int)))+x19)))) fun x20=>
chk (decide ((qdr (x4++[x20])).length * 1≤140737488355328)) (
nx1 ((x4++[x20]),(IntKind.i64.wrap ((IntKind.i64.wrap (x5+2))+2))))))
else(
some (([]:SS),(0:Int),false))))))
def qqk (n:Nat) (x1:SS):(SS×Int→Option (SS×Int×Bool))→SS×Int→Option (SS×Int×Bool):=fun nx1 (x4,x5)=>
bif(decide (x5<((x1.length:Nat):Int)))then(
bnd (idx x1 x5) fun x6=>
bnd (qz9 n x1 x5) fun x7=>
bif(((x6.toNat:Nat):Int)==39)then(
some (x4,(IntKind.i64.wrap (x5+1)),true))
else(
bif(bif(bif(x7==0)then true else(decide (((x6.toNat:Nat):Int)<32)))then true else(((x6.toNat:Nat):Int)==127))then(
some (([]:SS),(0:Int),false))
else(
bif(((x6.toNat:Nat):Int) != 92)then(
bnd (q3x (IntKind.i64.wrap (x5+x7))) fun x8=>
bnd (q3x x5) fun x9=>
chk (decide (x9≤x8∧x8≤x1.length)) (
chk (decide ((qdr (x4++((x1.take x8).drop x9))).length * 1≤140737488355328)) (
nx1 ((x4++((x1.take x8).drop x9)),(IntKind.i64.wrap (x5+x7))))))
else(
bif(decide ((IntKind.i64.wrap (x5+1))≥((x1.length:Nat):Int)))then(
some (([]:SS),(0:Int),false))
else(
bnd (idx x1 (IntKind.i64.wrap (x5+1))) fun x10=>
bif(((x10.toNat:Nat):Int)==92)then(
qni n x4 x10 nx1 x5 x1 (((x10.toNat:Nat):Int)==92))
else(
qni n x4 x10 nx1 x5 x1 (((x10.toNat:Nat):Int)==39)))))))
else(
some (([]:SS),(0:Int),false))
def qvy (n:Nat) (x1:SS) (x2:Int):Option (SS×Int×Bool):=
 bnd (qa2 (!(decide (x2≥((x1.length:Nat):Int)))) (idx x1 x2)) fun x3=>
 bif(bif(decide (x2≥((x1.length:Nat):Int)))then true else(((x3.toNat:Nat):Int) != 39))then(
 some (([]:SS),(0:Int),false))
 else(
 qas (qqk n x1) n (([]:List _),(IntKind.i64.wrap (x2+1))))
set_option maxHeartbeats 4000000 in
theorem q31 (n:Nat):∀ (x1:SS) (x2:Int) (r:SS×Int×Bool),qvy n x1 x2=some r→qae Tryz.prog 91 [PV.str x1,PV.int .i64 x2] (q5r r):=by
 intro x1 x2 r h
 unfold qvy at h
 refine qae.of_vcN qa6 (fun _ _=>Tryz.call91 _ _) Tryz.func91 (by kernel_rfl) (inl:=[40000033,1000000]) ?_
 conv=>whnf
 refine⟨id,id,?_⟩
 conv=>whnf
 replace h:=qaa h
 obtain⟨x3,h22,h⟩:=h
 refine⟨_,fun hg=>qdq (qah h22 hg),?_⟩
 conv=>whnf
 refine⟨id,id,?_⟩
 conv=>whnf
 refine ifc h (fun hc h=>?_) (fun hc h=>?_)
 ·obtain rfl:=sj h
  conv=>whnf
  try exact fin
 ·conv=>whnf
  refine qb4.fn [40000033,1000000] (S:=SS×Int) (fun(x4,x5)=>[(0,pS x1),(7,.tsl 0 (qdr x4)),(8,pI x5)]) (fun(x4,x5)=>[.tail 5 1 (qdr x4).length]) (B:=qqk n x1) h (wk [0] [0]) ?_
  intro nx1 st h
  obtain⟨x4,x5⟩:=st
  unfold qqk at h
  conv=>whnf
  refine ifc h (fun hc h=>?_) (fun hc h=>?_)
  ·conv=>whnf
   replace h:=qaa h
   obtain⟨x6,h21,h⟩:=h
   refine⟨_,qdq h21,?_⟩
   conv=>whnf
   replace h:=qaa h
   obtain⟨x7,h20,h⟩:=h
   refine⟨_,(q7o n _ _ _ h20),?_⟩
   conv=>whnf
   refine ifc h (fun hc h=>?_) (fun hc h=>?_)
   ·conv=>whnf
    refine⟨_,rfl,?_⟩
    obtain rfl:=sj h
    conv=>whnf
    try exact fin
   ·conv=>whnf
    refine⟨id,id,id,id,?_⟩
    conv=>whnf
    refine ifc h (fun hc h=>?_) (fun hc h=>?_)
    ·obtain rfl:=sj h
     conv=>whnf
     try exact fin
    ·conv=>whnf
     refine ifc h (fun hc h=>?_) (fun hc h=>?_)
     ·conv=>whnf
      replace h:=qaa h
      obtain⟨x8,h4,h⟩:=h
      refine⟨_,qfx h4,?_⟩
      conv=>whnf
      replace h:=qaa h
      obtain⟨x9,h3,h⟩:=h
      refine⟨_,qfx h3,?_⟩
      conv=>whnf
      obtain⟨h2,h⟩:=qaz h
      refine⟨⟨(of_decide_eq_true h2:(x9≤x8∧x8≤x1.length)).1,(of_decide_eq_true h2:(x9≤x8∧x8≤x1.length)).2⟩,?_⟩
      conv=>whnf
      rw[show qdr x4++qdr ((x1.take x8).drop x9)=qdr (x4++((x1.take x8).drop x9))from Codec.append qs1 x4 ((x1.take x8).drop x9)]
      conv=>whnf
      obtain⟨h1,h⟩:=qaz h
      refine⟨⟨Codec.wide qs1 x4,of_decide_eq_true h1,qd6 h1 (by decide)⟩,?_⟩
      conv=>whnf
      refine⟨⟨rfl,rfl,rfl⟩,?_⟩
      conv=>whnf
      exact⟨((x4++((x1.take x8).drop x9)),(IntKind.i64.wrap (x5+x7))),h,wk [1] []⟩
     ·conv=>whnf
      refine ifc h (fun hc h=>?_) (fun hc h=>?_)
      ·obtain rfl:=sj h
       conv=>whnf
       try exact fin
      ·conv=>whnf
       replace h:=qaa h
       obtain⟨x10,h19,h⟩:=h
       refine⟨_,qdq h19,?_⟩
       conv=>whnf
       refine qme.cut (S:=Bool) (fun x11=>[(0,pS x1),(7,.tsl 0 (qdr x4)),(8,.p (.int .i64 (IntKind.i64.wrap (x5+2)))),(11,.p (.int .u8 ((x10.toNat:Nat):Int))),(74,.p (.int .u8 ((x10.toNat:Nat):Int))),(75,pB x11)]) (fun x11=>[.tail 5 1 (qdr x4).length]) (qni n x4 x10 nx1 x5 x1) (r:=r) ?_ ?_
       ·intro x11 h
        unfold qni at h
        conv=>whnf
        refine ifc h (fun hc h=>?_) (fun hc h=>?_)
        ·conv=>whnf
         refine⟨Codec.one qs1 [x10],qdr [x10],.inl rfl,?_⟩
         conv=>whnf
         rw[show qdr x4++qdr [x10]=qdr (x4++[x10])from Codec.append qs1 x4 [x10]]
         conv=>whnf
         obtain⟨h5,h⟩:=qaz h
         refine⟨⟨Codec.wide qs1 (x4++[x10]),of_decide_eq_true h5,qd6 h5 (by decide)⟩,?_⟩
         conv=>whnf
         refine⟨⟨rfl,rfl,rfl⟩,?_⟩
         conv=>whnf
         exact⟨((x4++[x10]),(IntKind.i64.wrap (x5+2))),h,wk [1] []⟩
        ·conv=>whnf
         refine ifc h (fun hc h=>?_) (fun hc h=>?_)
         ·conv=>whnf
          refine⟨Codec.one qs1 [(10:UInt8)],qdr [(10:UInt8)],.inl rfl,?_⟩
          conv=>whnf
          rw[show qdr x4++qdr [(10:UInt8)]=qdr (x4++[(10:UInt8)])from Codec.append qs1 x4 [(10:UInt8)]]
          conv=>whnf
          obtain⟨h6,h⟩:=qaz h
          refine⟨⟨Codec.wide qs1 (x4++[(10:UInt8)]),of_decide_eq_true h6,qd6 h6 (by decide)⟩,?_⟩
          conv=>whnf
          refine⟨⟨rfl,rfl,rfl⟩,?_⟩
          conv=>whnf
          exact⟨((x4++[(10:UInt8)]),(IntKind.i64.wrap (x5+2))),h,wk [1] []⟩
         ·conv=>whnf
          refine ifc h (fun hc h=>?_) (fun hc h=>?_)
          ·conv=>whnf
           refine⟨Codec.one qs1 [(9:UInt8)],qdr [(9:UInt8)],.inl rfl,?_⟩
           conv=>whnf
           rw[show qdr x4++qdr [(9:UInt8)]=qdr (x4++[(9:UInt8)])from Codec.append qs1 x4 [(9:UInt8)]]
           conv=>whnf
           obtain⟨h7,h⟩:=qaz h
           refine⟨⟨Codec.wide qs1 (x4++[(9:UInt8)]),of_decide_eq_true h7,qd6 h7 (by decide)⟩,?_⟩
           conv=>whnf
           refine⟨⟨rfl,rfl,rfl⟩,?_⟩
           conv=>whnf
           exact⟨((x4++[(9:UInt8)]),(IntKind.i64.wrap (x5+2))),h,wk [1] []⟩
          ·conv=>whnf
           refine ifc h (fun hc h=>?_) (fun hc h=>?_)
           ·conv=>whnf
            refine⟨Codec.one qs1 [(13:UInt8)],qdr [(13:UInt8)],.inl rfl,?_⟩
            conv=>whnf
            rw[show qdr x4++qdr [(13:UInt8)]=qdr (x4++[(13:UInt8)])from Codec.append qs1 x4 [(13:UInt8)]]
            conv=>whnf
            obtain⟨h8,h⟩:=qaz h
            refine⟨⟨Codec.wide qs1 (x4++[(13:UInt8)]),of_decide_eq_true h8,qd6 h8 (by decide)⟩,?_⟩
            conv=>whnf
            refine⟨⟨rfl,rfl,rfl⟩,?_⟩
            conv=>whnf
            exact⟨((x4++[(13:UInt8)]),(IntKind.i64.wrap (x5+2))),h,wk [1] []⟩
           ·conv=>whnf
            refine ifc h (fun hc h=>?_) (fun hc h=>?_)
            ·conv=>whnf
             refine⟨id,id,?_⟩
             conv=>whnf
             replace h:=qaa h
             obtain⟨x12,h18,h⟩:=h
             refine⟨_,fun hg=>qdq (qah h18 hg),?_⟩
             conv=>whnf
             refine⟨id,?_⟩
             conv=>whnf
             replace h:=qaa h
             obtain⟨x13,h17,h⟩:=h
             refine⟨_,fun hg=>(qrg n _ _ (qah h17 hg)),?_⟩
             conv=>whnf
             refine⟨id,id,id,id,id,?_⟩
             conv=>whnf
             replace h:=qaa h
             obtain⟨x14,h16,h⟩:=h
             refine⟨_,fun hg=>qdq (qah h16 hg),?_⟩
             conv=>whnf
             refine⟨id,?_⟩
             conv=>whnf
             replace h:=qaa h
             obtain⟨x15,h15,h⟩:=h
             refine⟨_,fun hg=>(qrg n _ _ (qah h15 hg)),?_⟩
             conv=>whnf
             refine⟨id,id,?_⟩
             conv=>whnf
             refine ifc h (fun hc h=>?_) (fun hc h=>?_)
             ·obtain rfl:=sj h
              conv=>whnf
              try exact fin
             ·conv=>whnf
              replace h:=qaa h
              obtain⟨x16,h14,h⟩:=h
              refine⟨_,qdq h14,?_⟩
              conv=>whnf
              replace h:=qaa h
              obtain⟨x17,h13,h⟩:=h
              refine⟨_,(qrg n _ _ h13),?_⟩
              conv=>whnf
              replace h:=qaa h
              obtain⟨x18,h12,h⟩:=h
              refine⟨_,qdq h12,?_⟩
              conv=>whnf
              replace h:=qaa h
              obtain⟨x19,h11,h⟩:=h
              refine⟨_,(qrg n _ _ h11),?_⟩
              conv=>whnf
              replace h:=qaa h
              obtain⟨x20,h9,h⟩:=h
              rw[show([[PV.int .u8 (IntKind.u8.wrap (IntKind.i64.wrap ((IntKind.i64.wrap (x17 * (16:Int)))+x19)))]]:List (List PV))=qdr [x20]from by rw[q7g h9]; rfl]
              refine⟨Codec.one qs1 [x20],_,.inl rfl,?_⟩
              conv=>whnf
              rw[show qdr x4++qdr [x20]=qdr (x4++[x20])from Codec.append qs1 x4 [x20]]
              conv=>whnf
              obtain⟨h10,h⟩:=qaz h
              refine⟨⟨Codec.wide qs1 (x4++[x20]),of_decide_eq_true h10,qd6 h10 (by decide)⟩,?_⟩
              conv=>whnf
              refine⟨⟨rfl,rfl,rfl⟩,?_⟩
              conv=>whnf
              exact⟨((x4++[x20]),(IntKind.i64.wrap ((IntKind.i64.wrap (x5+2))+2))),h,wk [1] []⟩
            ·obtain rfl:=sj h
             conv=>whnf
             try exact fin
       ·conv=>whnf
        refine ifc h (fun hc h=>?_) (fun hc h=>?_)
        ·conv=>whnf
         exact⟨(((x10.toNat:Nat):Int)==92),h,wk [0] []⟩
        ·conv=>whnf
         exact⟨(((x10.toNat:Nat):Int)==39),h,wk [0] []⟩
  ·obtain rfl:=sj h
   conv=>whnf
   try exact fin
abbrev q9d (r:SS):PV:=PV.str r
def qt5 (n:Nat) (x1:SS) (x4 x5:Nat):(Int→Option SS)→Int→Option SS:=fun nx1 x6=>
bif(decide (x6<((([40,41,91,93,123,125,44,58,46,43,45,42,47,37,61,60,62,36]:SS).length:Nat):Int)))then(
bnd (q3x (IntKind.i64.wrap (x6+1))) fun x7=>
bnd (q3x x6) fun x8=>
chk (decide (x8≤x7∧x7≤([40,41,91,93,123,125,44,58,46,43,45,42,47,37,61,60,62,36]:SS).length)) (
bif(((([40,41,91,93,123,125,44,58,46,43,45,42,47,37,61,60,62,36]:SS).take x7).drop x8)==((x1.take x4).drop x5))then(
some ((x1.take x4).drop x5))
else(
nx1 (IntKind.i64.wrap (x6+1)))))
else(
some ([]:SS))
def qpu (n:Nat) (x2:Int) (x1:SS):SS→Option SS:=fun x3=>
bif(bif(bif(x3==([60,61]:SS))then true else(x3==([62,61]:SS)))then true else(x3==([60,62]:SS)))then(
some x3)
else(
bnd (q3x (IntKind.i64.wrap (x2+1))) fun x4=>
bnd (q3x x2) fun x5=>
chk (decide (x5≤x4∧x4≤x1.length)) (
qas (qt5 n x1 x4 x5) n (0:Int)))
def qz4 (n:Nat) (x1:SS) (x2:Int):Option SS:=
 bif(decide ((IntKind.i64.wrap (x2+1))<((x1.length:Nat):Int)))then(
 bnd (q3x (IntKind.i64.wrap (x2+2))) fun x9=>
 bnd (q3x x2) fun x10=>
 chk (decide (x10≤x9∧x9≤x1.length)) (
 qpu n x2 x1 ((x1.take x9).drop x10)))
 else(
 qpu n x2 x1 ([]:SS))
theorem q8r (n:Nat):∀ (x1:SS) (x2:Int) (r:SS),qz4 n x1 x2=some r→qae Tryz.prog 92 [PV.str x1,PV.int .i64 x2] (q9d r):=by
 intro x1 x2 r h
 unfold qz4 at h
 refine qae.of_vcN qa6 (fun _ _=>Tryz.call92 _ _) Tryz.func92 (by kernel_rfl) (inl:=[1000000]) ?_
 conv=>whnf
 refine qme.cut (S:=SS) (fun x3=>[(0,pS x1),(1,pI x2),(5,pS x3)]) (fun x3=>[]) (qpu n x2 x1) (r:=r) ?_ ?_
 ·intro x3 h
  unfold qpu at h
  conv=>whnf
  refine⟨id,id,id,id,?_⟩
  conv=>whnf
  refine ifc h (fun hc h=>?_) (fun hc h=>?_)
  ·obtain rfl:=sj h
   conv=>whnf
   try exact fin
  ·conv=>whnf
   replace h:=qaa h
   obtain⟨x4,h6,h⟩:=h
   refine⟨_,qfx h6,?_⟩
   conv=>whnf
   replace h:=qaa h
   obtain⟨x5,h5,h⟩:=h
   refine⟨_,qfx h5,?_⟩
   conv=>whnf
   obtain⟨h4,h⟩:=qaz h
   refine⟨⟨(of_decide_eq_true h4:(x5≤x4∧x4≤x1.length)).1,(of_decide_eq_true h4:(x5≤x4∧x4≤x1.length)).2⟩,?_⟩
   conv=>whnf
   refine qb4.fn [1000000] (S:=Int) (fun x6=>[(6,.p (.str ((x1.take x4).drop x5))),(7,.p (.str ([40,41,91,93,123,125,44,58,46,43,45,42,47,37,61,60,62,36]:SS))),(8,pI x6)]) (fun x6=>[]) (B:=qt5 n x1 x4 x5) h (wk [] []) ?_
   intro nx1 x6 h
   unfold qt5 at h
   conv=>whnf
   refine ifc h (fun hc h=>?_) (fun hc h=>?_)
   ·conv=>whnf
    replace h:=qaa h
    obtain⟨x7,h3,h⟩:=h
    refine⟨_,qfx h3,?_⟩
    conv=>whnf
    replace h:=qaa h
    obtain⟨x8,h2,h⟩:=h
    refine⟨_,qfx h2,?_⟩
    conv=>whnf
    obtain⟨h1,h⟩:=qaz h
    refine⟨⟨(of_decide_eq_true h1:(x8≤x7∧x7≤([40,41,91,93,123,125,44,58,46,43,45,42,47,37,61,60,62,36]:SS).length)).1,(of_decide_eq_true h1:(x8≤x7∧x7≤([40,41,91,93,123,125,44,58,46,43,45,42,47,37,61,60,62,36]:SS).length)).2⟩,?_⟩
    conv=>whnf
    refine ifc h (fun hc h=>?_) (fun hc h=>?_)
    ·obtain rfl:=sj h
     conv=>whnf
     try exact fin
    ·conv=>whnf
     exact⟨(IntKind.i64.wrap (x6+1)),h,wk [] []⟩
   ·obtain rfl:=sj h
    conv=>whnf
    try exact fin
 ·conv=>whnf
  refine ifc h (fun hc h=>?_) (fun hc h=>?_)
  ·conv=>whnf
   replace h:=qaa h
   obtain⟨x9,h9,h⟩:=h
   refine⟨_,qfx h9,?_⟩
   conv=>whnf
   replace h:=qaa h
   obtain⟨x10,h8,h⟩:=h
   refine⟨_,qfx h8,?_⟩
   conv=>whnf
   obtain⟨h7,h⟩:=qaz h
   refine⟨⟨(of_decide_eq_true h7:(x10≤x9∧x9≤x1.length)).1,(of_decide_eq_true h7:(x10≤x9∧x9≤x1.length)).2⟩,?_⟩
   conv=>whnf
   exact⟨((x1.take x9).drop x10),h,wk [] []⟩
  ·conv=>whnf
   exact⟨([]:SS),h,wk [] []⟩
abbrev zbc (r:qam×Int×Int):PV:=PV.tup [PV.agg (qo4.cells r.1),PV.int .i64 r.2.1,PV.int .i64 r.2.2]
def qkw (n:Nat) (x2:Int):Int×Int×SS×Int→Option (qam×Int×Int):=fun(x4,x5,x6,x7)=>
some (qam.mk x5 x6 x7 x2,x4,(0:Int))
def qvm (n:Nat) (x1:SS) (x2:Int):(Int→Option (qam×Int×Int))→Int→Option (qam×Int×Int):=fun nx1 x9=>
bnd (qa2 (decide (x9<((x1.length:Nat):Int))) (idx x1 x9)) fun x10=>
bnd (qa2 (decide (x9<((x1.length:Nat):Int))) (qhw n ((x10.toNat:Nat):Int))) fun x11=>
bnd (qa2 ((decide (x9<((x1.length:Nat):Int)))&&(!x11)) (idx x1 x9)) fun x12=>
bnd (qa2 ((decide (x9<((x1.length:Nat):Int)))&&(!x11)) (qjf n ((x12.toNat:Nat):Int))) fun x13=>
bif(bif(decide (x9<((x1.length:Nat):Int)))then(bif x11 then true else x13)else false)then(
nx1 (IntKind.i64.wrap (x9+1)))
else(
bif(decide ((IntKind.i64.wrap (x9 - x2))>64))then(
some (qam.mk (0:Int) ([]:SS) (0:Int) x2,(0:Int),(1:Int)))
else(
bnd (q3x x9) fun x14=>
bnd (q3x x2) fun x15=>
chk (decide (x15≤x14∧x14≤x1.length)) (
bnd (qqc n ((x1.take x14).drop x15)) fun⟨x16,x17⟩=>
bnd (q3x x9) fun x18=>
bnd (q3x x2) fun x19=>
chk (decide (x19≤x18∧x18≤x1.length)) (
bif x17 then(
qkw n x2 (x9,(2:Int),x16,(0:Int)))
else(
qkw n x2 (x9,(1:Int),((x1.take x18).drop x19),(0:Int)))))))
def qu9 (n:Nat) (x1:SS) (x2:Int):(Int→Option (qam×Int×Int))→Int→Option (qam×Int×Int):=fun nx2 x21=>
bnd (qa2 (decide (x21<((x1.length:Nat):Int))) (idx x1 x21)) fun x22=>
bnd (qa2 (decide (x21<((x1.length:Nat):Int))) (qjf n ((x22.toNat:Nat):Int))) fun x23=>
bif(bif(decide (x21<((x1.length:Nat):Int)))then x23 else false)then(
nx2 (IntKind.i64.wrap (x21+1)))
else(
bnd (q3x x21) fun x24=>
bnd (q3x x2) fun x25=>
chk (decide (x25≤x24∧x24≤x1.length)) (
bnd (qya n ((x1.take x24).drop x25)) fun⟨x26,x27⟩=>
bif(x27 != 0)then(
some (qam.mk (0:Int) ([]:SS) (0:Int) x2,(0:Int),x27))
else(
qkw n x2 (x21,(3:Int),([]:SS),x26))))
def q3u (n:Nat) (x1:SS) (x2:Int):Option (qam×Int×Int):=
 bnd (idx x1 x2) fun x3=>
 bnd (qhw n ((x3.toNat:Nat):Int)) fun x8=>
 bif x8 then(
 qas (qvm n x1 x2) n (IntKind.i64.wrap (x2+1)))
 else(
 bnd (qjf n ((x3.toNat:Nat):Int)) fun x20=>
 bif x20 then(
 qas (qu9 n x1 x2) n (IntKind.i64.wrap (x2+1)))
 else(
 bif(((x3.toNat:Nat):Int)==39)then(
 bnd (qvy n x1 x2) fun⟨x28,x29,x30⟩=>
 bif(!x30)then(
 some (qam.mk (0:Int) ([]:SS) (0:Int) x2,(0:Int),(1:Int)))
 else(
 qkw n x2 (x29,(4:Int),x28,(0:Int))))
 else(
 bnd (qz4 n x1 x2) fun x31=>
 bif(x31==([]:SS))then(
 some (qam.mk (5:Int) x31 (0:Int) x2,(0:Int),(1:Int)))
 else(
 qkw n x2 ((IntKind.i64.wrap (x2+((x31.length:Nat):Int))),(5:Int),x31,(0:Int))))))
set_option maxHeartbeats 4000000 in
theorem zah (n:Nat):∀ (x1:SS) (x2:Int) (r:qam×Int×Int),q3u n x1 x2=some r→qae Tryz.prog 47 [PV.str x1,PV.int .i64 x2] (zbc r):=by
 intro x1 x2 r h
 unfold q3u at h
 refine qae.of_vcN qa6 (fun _ _=>Tryz.call47 _ _) Tryz.func47 (by kernel_rfl) (inl:=[1000000]) ?_
 conv=>whnf
 replace h:=qaa h
 obtain⟨x3,h22,h⟩:=h
 refine⟨_,qdq h22,?_⟩
 conv=>whnf
 refine qme.cut (S:=Int×Int×SS×Int) (fun(x4,x5,x6,x7)=>[(4,.ptr 0 0),(7,.ptr 1 0),(9,pI x4)]) (fun(x4,x5,x6,x7)=>[.box 87 [.p (.int .i64 (0:Int)),.p (.str ([]:SS)),.p (.int .i64 (0:Int)),.p (.int .i64 (0:Int))],.box 87 [pI x5,pS x6,pI x7,pI x2]]) (qkw n x2) (r:=r) ?_ ?_
 ·intro st h
  obtain⟨x4,x5,x6,x7⟩:=st
  unfold qkw at h
  obtain rfl:=sj h
  conv=>whnf
  try exact fin
 ·conv=>whnf
  replace h:=qaa h
  obtain⟨x8,h21,h⟩:=h
  refine⟨_,(qn4 n _ _ h21),?_⟩
  conv=>whnf
  refine ifc h (fun hc h=>?_) (fun hc h=>?_)
  ·conv=>whnf
   refine qb4.fn [1000000] (S:=Int) (fun x9=>[(0,pS x1),(1,pI x2),(4,.ptr 0 0),(7,.ptr 1 0),(9,pI x9)]) (fun x9=>[.box 87 [.p (.int .i64 (0:Int)),.p (.str ([]:SS)),.p (.int .i64 (0:Int)),.p (.int .i64 (0:Int))],.box 87 [.p (.int .i64 (0:Int)),.p (.str ([]:SS)),.p (.int .i64 (0:Int)),pI x2]]) (B:=qvm n x1 x2) h (wk [0,1] []) ?_
   intro nx1 x9 h
   unfold qvm at h
   conv=>whnf
   refine⟨id,id,?_⟩
   conv=>whnf
   replace h:=qaa h
   obtain⟨x10,h11,h⟩:=h
   refine⟨_,fun hg=>qdq (qah h11 hg),?_⟩
   conv=>whnf
   refine⟨id,?_⟩
   conv=>whnf
   replace h:=qaa h
   obtain⟨x11,h10,h⟩:=h
   refine⟨_,fun hg=>(qn4 n _ _ (qah h10 hg)),?_⟩
   conv=>whnf
   refine⟨id,id,id,?_⟩
   conv=>whnf
   replace h:=qaa h
   obtain⟨x12,h9,h⟩:=h
   refine⟨_,fun hg=>qdq (qah h9 hg),?_⟩
   conv=>whnf
   refine⟨id,?_⟩
   conv=>whnf
   replace h:=qaa h
   obtain⟨x13,h8,h⟩:=h
   refine⟨_,fun hg=>(ql8 n _ _ (qah h8 hg)),?_⟩
   conv=>whnf
   refine⟨id,id,id,?_⟩
   conv=>whnf
   refine ifc h (fun hc h=>?_) (fun hc h=>?_)
   ·conv=>whnf
    exact⟨(IntKind.i64.wrap (x9+1)),h,wk [0,1] []⟩
   ·conv=>whnf
    refine ifc h (fun hc h=>?_) (fun hc h=>?_)
    ·obtain rfl:=sj h
     conv=>whnf
     try exact fin
    ·conv=>whnf
     replace h:=qaa h
     obtain⟨x14,h7,h⟩:=h
     refine⟨_,qfx h7,?_⟩
     conv=>whnf
     replace h:=qaa h
     obtain⟨x15,h6,h⟩:=h
     refine⟨_,qfx h6,?_⟩
     conv=>whnf
     obtain⟨h5,h⟩:=qaz h
     refine⟨⟨(of_decide_eq_true h5:(x15≤x14∧x14≤x1.length)).1,(of_decide_eq_true h5:(x15≤x14∧x14≤x1.length)).2⟩,?_⟩
     conv=>whnf
     replace h:=qaa h
     obtain⟨⟨x16,x17⟩,h4,h⟩:=h
     refine⟨_,(qy5 n _ _ h4),?_⟩
     conv=>whnf
     replace h:=qaa h
     obtain⟨x18,h3,h⟩:=h
     refine⟨_,qfx h3,?_⟩
     conv=>whnf
     replace h:=qaa h
     obtain⟨x19,h2,h⟩:=h
     refine⟨_,qfx h2,?_⟩
     conv=>whnf
     obtain⟨h1,h⟩:=qaz h
     refine⟨⟨(of_decide_eq_true h1:(x19≤x18∧x18≤x1.length)).1,(of_decide_eq_true h1:(x19≤x18∧x18≤x1.length)).2⟩,?_⟩
     conv=>whnf
     refine ifc h (fun hc h=>?_) (fun hc h=>?_)
     ·conv=>whnf
      exact⟨(x9,(2:Int),x16,(0:Int)),h,wk [0,1] []⟩
     ·conv=>whnf
      exact⟨(x9,(1:Int),((x1.take x18).drop x19),(0:Int)),h,wk [0,1] []⟩
  ·conv=>whnf
   replace h:=qaa h
   obtain⟨x20,h20,h⟩:=h
   refine⟨_,(ql8 n _ _ h20),?_⟩
   conv=>whnf
   refine ifc h (fun hc h=>?_) (fun hc h=>?_)
   ·conv=>whnf
    refine qb4.fn [1000000] (S:=Int) (fun x21=>[(0,pS x1),(1,pI x2),(4,.ptr 0 0),(7,.ptr 1 0),(9,pI x21)]) (fun x21=>[.box 87 [.p (.int .i64 (0:Int)),.p (.str ([]:SS)),.p (.int .i64 (0:Int)),.p (.int .i64 (0:Int))],.box 87 [.p (.int .i64 (0:Int)),.p (.str ([]:SS)),.p (.int .i64 (0:Int)),pI x2]]) (B:=qu9 n x1 x2) h (wk [0,1] []) ?_
    intro nx2 x21 h
    unfold qu9 at h
    conv=>whnf
    refine⟨id,id,?_⟩
    conv=>whnf
    replace h:=qaa h
    obtain⟨x22,h17,h⟩:=h
    refine⟨_,fun hg=>qdq (qah h17 hg),?_⟩
    conv=>whnf
    refine⟨id,?_⟩
    conv=>whnf
    replace h:=qaa h
    obtain⟨x23,h16,h⟩:=h
    refine⟨_,fun hg=>(ql8 n _ _ (qah h16 hg)),?_⟩
    conv=>whnf
    refine⟨id,?_⟩
    conv=>whnf
    refine ifc h (fun hc h=>?_) (fun hc h=>?_)
    ·conv=>whnf
     exact⟨(IntKind.i64.wrap (x21+1)),h,wk [0,1] []⟩
    ·conv=>whnf
     replace h:=qaa h
     obtain⟨x24,h15,h⟩:=h
     refine⟨_,qfx h15,?_⟩
     conv=>whnf
     replace h:=qaa h
     obtain⟨x25,h14,h⟩:=h
     refine⟨_,qfx h14,?_⟩
     conv=>whnf
     obtain⟨h13,h⟩:=qaz h
     refine⟨⟨(of_decide_eq_true h13:(x25≤x24∧x24≤x1.length)).1,(of_decide_eq_true h13:(x25≤x24∧x24≤x1.length)).2⟩,?_⟩
     conv=>whnf
     replace h:=qaa h
     obtain⟨⟨x26,x27⟩,h12,h⟩:=h
     refine⟨_,(q59 n _ _ h12),?_⟩
     conv=>whnf
     refine ifc h (fun hc h=>?_) (fun hc h=>?_)
     ·obtain rfl:=sj h
      conv=>whnf
      try exact fin
     ·conv=>whnf
      exact⟨(x21,(3:Int),([]:SS),x26),h,wk [0,1] []⟩
   ·conv=>whnf
    refine ifc h (fun hc h=>?_) (fun hc h=>?_)
    ·conv=>whnf
     replace h:=qaa h
     obtain⟨⟨x28,x29,x30⟩,h18,h⟩:=h
     refine⟨_,(q31 n _ _ _ h18),?_⟩
     conv=>whnf
     refine ifc h (fun hc h=>?_) (fun hc h=>?_)
     ·obtain rfl:=sj h
      conv=>whnf
      try exact fin
     ·conv=>whnf
      exact⟨(x29,(4:Int),x28,(0:Int)),h,wk [0,1] []⟩
    ·conv=>whnf
     replace h:=qaa h
     obtain⟨x31,h19,h⟩:=h
     refine⟨_,(q8r n _ _ _ h19),?_⟩
     conv=>whnf
     refine ifc h (fun hc h=>?_) (fun hc h=>?_)
     ·obtain rfl:=sj h
      conv=>whnf
      try exact fin
     ·conv=>whnf
      exact⟨((IntKind.i64.wrap (x2+((x31.length:Nat):Int))),(5:Int),x31,(0:Int)),h,wk [0,1] []⟩
abbrev za4 (r:List qam×Int×Int):PV:=PV.tup [PV.sl (qam.rows r.1),PV.int .i64 r.2.1,PV.int .i64 r.2.2]
def qp7 (n:Nat) (x2:List qam) (x4:Int) (nx1:List qam×Int→Option (List qam×Int×Int)):Int×Int×SS×Int×Int→Option (List qam×Int×Int):=fun(x9,x10,x11,x12,x13)=>
bif(decide (((qam.rows x2).length:Int)≥4096))then(
some (([]:List qam),x4,(8:Int)))
else(
chk (decide ((qam.rows (x2++[qam.mk x10 x11 x12 x13])).length * 40≤140737488355328)) (
bif(x10==6)then(
some ((x2++[qam.mk x10 x11 x12 x13]),(0:Int),(0:Int)))
else(
nx1 ((x2++[qam.mk x10 x11 x12 x13]),x9))))
def qtt (n:Nat) (x1:SS) (x2:List qam) (nx1:List qam×Int→Option (List qam×Int×Int)):(Int→Option (List qam×Int×Int))→Int→Option (List qam×Int×Int):=fun nx2 x4=>
bnd (qa2 (decide (x4<((x1.length:Nat):Int))) (idx x1 x4)) fun x5=>
bnd (qa2 ((decide (x4<((x1.length:Nat):Int)))&&(!(((x5.toNat:Nat):Int)==32))) (idx x1 x4)) fun x6=>
bnd (qa2 ((decide (x4<((x1.length:Nat):Int)))&&(!(bif(((x5.toNat:Nat):Int)==32)then true else(((x6.toNat:Nat):Int)==9)))) (idx x1 x4)) fun x7=>
bnd (qa2 ((decide (x4<((x1.length:Nat):Int)))&&(!(bif(bif(((x5.toNat:Nat):Int)==32)then true else(((x6.toNat:Nat):Int)==9))then true else(((x7.toNat:Nat):Int)==10)))) (idx x1 x4)) fun x8=>
bif(bif(decide (x4<((x1.length:Nat):Int)))then(bif(bif(bif(((x5.toNat:Nat):Int)==32)then true else(((x6.toNat:Nat):Int)==9))then true else(((x7.toNat:Nat):Int)==10))then true else(((x8.toNat:Nat):Int)==13))else false)then(
nx2 (IntKind.i64.wrap (x4+1)))
else(
bif(decide (x4<((x1.length:Nat):Int)))then(
bnd (q3u n x1 x4) fun⟨⟨x14,x15,x16,x17⟩,x18,x19⟩=>
bif(x19 != 0)then(
some (([]:List qam),x4,x19))
else(
qp7 n x2 x4 nx1 (x18,x14,x15,x16,x17)))
else(
qp7 n x2 x4 nx1 (x4,(6:Int),([]:SS),(0:Int),x4)))
def qt4 (n:Nat) (x1:SS):(List qam×Int→Option (List qam×Int×Int))→List qam×Int→Option (List qam×Int×Int):=fun nx1 (x2,x3)=>
qas (qtt n x1 x2 nx1) n x3
def q0t (n:Nat) (x1:SS):Option (List qam×Int×Int):=
 bif(decide (((x1.length:Nat):Int)>16384))then(
 some (([]:List qam),(0:Int),(8:Int)))
 else(
 qas (qt4 n x1) n (([]:List _),(0:Int)))
set_option maxHeartbeats 4000000 in
theorem q8k (n:Nat):∀ (x1:SS) (r:List qam×Int×Int),q0t n x1=some r→qae Tryz.prog 25 [PV.str x1] (za4 r):=by
 intro x1 r h
 unfold q0t at h
 refine qae.of_vcN qa6 (fun _ _=>Tryz.call25 _ _) Tryz.func25 (by kernel_rfl) (inl:=[1000000]) ?_
 conv=>whnf
 refine ifc h (fun hc h=>?_) (fun hc h=>?_)
 ·obtain rfl:=sj h
  conv=>whnf
  try exact fin
 ·conv=>whnf
  refine qb4.fn [1000000] (S:=List qam×Int) (fun(x2,x3)=>[(0,pS x1),(5,.tsl 0 (qam.rows x2)),(6,pI x3)]) (fun(x2,x3)=>[.tail 87 4 (qam.rows x2).length]) (B:=qt4 n x1) h (wk [0] [0]) ?_
  intro nx1 st h
  obtain⟨x2,x3⟩:=st
  unfold qt4 at h
  conv=>whnf
  refine qb4.fn [1000000] (S:=Int) (fun x4=>[(0,pS x1),(5,.tsl 0 (qam.rows x2)),(6,pI x4)]) (fun x4=>[.tail 87 4 (qam.rows x2).length]) (B:=qtt n x1 x2 nx1) h (wk [0] []) ?_
  intro nx2 x4 h
  unfold qtt at h
  conv=>whnf
  refine⟨id,id,?_⟩
  conv=>whnf
  replace h:=qaa h
  obtain⟨x5,h6,h⟩:=h
  refine⟨_,fun hg=>qdq (qah h6 hg),?_⟩
  conv=>whnf
  refine⟨id,id,id,id,?_⟩
  conv=>whnf
  replace h:=qaa h
  obtain⟨x6,h5,h⟩:=h
  refine⟨_,fun hg=>qdq (qah h5 hg),?_⟩
  conv=>whnf
  refine⟨id,id,id,id,id,id,?_⟩
  conv=>whnf
  replace h:=qaa h
  obtain⟨x7,h4,h⟩:=h
  refine⟨_,fun hg=>qdq (qah h4 hg),?_⟩
  conv=>whnf
  refine⟨id,id,id,id,id,id,?_⟩
  conv=>whnf
  replace h:=qaa h
  obtain⟨x8,h3,h⟩:=h
  refine⟨_,fun hg=>qdq (qah h3 hg),?_⟩
  conv=>whnf
  refine⟨id,id,id,id,?_⟩
  conv=>whnf
  refine ifc h (fun hc h=>?_) (fun hc h=>?_)
  ·conv=>whnf
   exact⟨(IntKind.i64.wrap (x4+1)),h,wk [0] []⟩
  ·conv=>whnf
   refine qme.cut (S:=Int×Int×SS×Int×Int) (fun(x9,x10,x11,x12,x13)=>[(0,pS x1),(5,.tsl 0 (qam.rows x2)),(6,pI x4),(7,.ptr 1 0),(8,pI x9)]) (fun(x9,x10,x11,x12,x13)=>[.tail 87 4 (qam.rows x2).length,.box 87 [pI x10,pS x11,pI x12,pI x13]]) (qp7 n x2 x4 nx1) (r:=r) ?_ ?_
   ·intro st h
    obtain⟨x9,x10,x11,x12,x13⟩:=st
    unfold qp7 at h
    conv=>whnf
    refine ifc h (fun hc h=>?_) (fun hc h=>?_)
    ·obtain rfl:=sj h
     conv=>whnf
     try exact fin
    ·conv=>whnf
     refine⟨Codec.one qo4 [qam.mk x10 x11 x12 x13],qam.rows [qam.mk x10 x11 x12 x13],.inl rfl,?_⟩
     conv=>whnf
     rw[show qam.rows x2++qam.rows [qam.mk x10 x11 x12 x13]=qam.rows (x2++[qam.mk x10 x11 x12 x13])from Codec.append qo4 x2 [qam.mk x10 x11 x12 x13]]
     conv=>whnf
     obtain⟨h1,h⟩:=qaz h
     refine⟨⟨Codec.wide qo4 (x2++[qam.mk x10 x11 x12 x13]),of_decide_eq_true h1,qd6 h1 (by decide)⟩,?_⟩
     conv=>whnf
     refine⟨⟨rfl,rfl,rfl⟩,?_⟩
     conv=>whnf
     refine ifc h (fun hc h=>?_) (fun hc h=>?_)
     ·obtain rfl:=sj h
      conv=>whnf
      try exact fin
     ·conv=>whnf
      exact⟨((x2++[qam.mk x10 x11 x12 x13]),x9),h,wk [2] []⟩
   ·conv=>whnf
    refine ifc h (fun hc h=>?_) (fun hc h=>?_)
    ·conv=>whnf
     replace h:=qaa h
     obtain⟨⟨⟨x14,x15,x16,x17⟩,x18,x19⟩,h2,h⟩:=h
     refine⟨_,(zah n _ _ _ h2),?_⟩
     conv=>whnf
     refine ifc h (fun hc h=>?_) (fun hc h=>?_)
     ·obtain rfl:=sj h
      conv=>whnf
      try exact fin
     ·conv=>whnf
      exact⟨(x18,x14,x15,x16,x17),h,wk [0,1] []⟩
    ·conv=>whnf
     exact⟨(x4,(6:Int),([]:SS),(0:Int),x4),h,wk [0,1] []⟩
abbrev q5z (r:Bool):PV:=PV.bool r
def qm9 (n:Nat) (x1:Int):Option (Bool):=
 some (bif(bif(bif(bif(x1==4)then true else(x1==5))then true else(x1==6))then true else(x1==7))then true else(x1==8))
theorem qv3 (n:Nat):∀ (x1:Int) (r:Bool),qm9 n x1=some r→qae Tryz.prog 26 [PV.int .i64 x1] (q5z r):=by
 intro x1 r h
 unfold qm9 at h
 refine qae.of_vcN qa6 (fun _ _=>Tryz.call26 _ _) Tryz.func26 (by kernel_rfl) (inl:=[1000000]) ?_
 conv=>whnf
 refine⟨id,id,id,id,id,id,id,id,?_⟩
 obtain rfl:=sj h
 conv=>whnf
 try exact fin
abbrev zar (x2:List qam) (x3:Int) (x4 r:Bool):FV:=pB r
abbrev q9t (x2:List qam) (x3:Int) (x4 r:Bool):List AObj:=[.box 85 [pK x2,pI x3,pB x4]]
def qea (n:Nat) (x1:SS) (x2:List qam) (x3:Int) (x4:Bool):Option (Bool):=
 bnd (idx x2 x3) fun⟨x5,x6,x7,x8⟩=>
 some (bif(bif(!x4)then(bif(x5==5)then true else(x5==2))else false)then(x6==x1)else false)
theorem qc0 (n:Nat):∀ (x1:SS) (x2:List qam) (x3:Int) (x4 r:Bool),qea n x1 x2 x3 x4=some r→qau Tryz.prog 57 [.ptr 0 0,.p (PV.str x1)] [.box 85 [pK x2,pI x3,pB x4]] 1 (fun v lo=>v=zar x2 x3 x4 r∧lo=q9t x2 x3 x4 r):=by
 intro x1 x2 x3 x4 r h
 unfold qea at h
 refine qau.of_vc qa6 (fun _ _=>Tryz.call57 _ _) Tryz.func57 (by kernel_rfl) (inl:=[40000001,1000000]) (Nat.le_of_ble_eq_true rfl) ?_
 conv=>whnf
 replace h:=qaa h
 obtain⟨⟨x5,x6,x7,x8⟩,h1,h⟩:=h
 refine⟨_,Codec.at_ qo4 h1,?_⟩
 conv=>whnf
 refine⟨id,id,id,id,id,id,id,id,id,id,id,id,?_⟩
 obtain rfl:=sj h
 conv=>whnf
 refine⟨_,_,⟨rfl,rfl⟩,wk [0] []⟩
abbrev q73 (x2:List qam) (x3:Int) (x4:Bool) (r:Bool×Int):FV:=.p (.bool r.1)
abbrev q8g (x2:List qam) (x3:Int) (x4:Bool) (r:Bool×Int):List AObj:=[.box 85 [pK x2,.p (.int .i64 r.2),pB x4]]
def qan (n:Nat) (x1:SS) (x2:List qam) (x3:Int) (x4:Bool):Option (Bool×Int):=
 bnd (qea n x1 x2 x3 x4) fun x5=>
 bif(!x5)then(
 some (false,x3))
 else(
 some (true,(IntKind.i64.wrap (x3+1))))
theorem qaj (n:Nat):∀ (x1:SS) (x2:List qam) (x3:Int) (x4:Bool) (r:Bool×Int),qan n x1 x2 x3 x4=some r→qau Tryz.prog 48 [.ptr 0 0,.p (PV.str x1)] [.box 85 [pK x2,pI x3,pB x4]] 1 (fun v lo=>v=q73 x2 x3 x4 r∧lo=q8g x2 x3 x4 r):=by
 intro x1 x2 x3 x4 r h
 unfold qan at h
 refine qau.of_vc qa6 (fun _ _=>Tryz.call48 _ _) Tryz.func48 (by kernel_rfl) (inl:=[57,1000000]) (Nat.le_of_ble_eq_true rfl) ?_
 conv=>whnf
 replace h:=qaa h
 obtain⟨x5,h1,h⟩:=h
 refine qb9 (qc0 n _ _ _ _ _ h1) [0] [] ?_
 rintro _ _ ⟨rfl,rfl⟩
 refine⟨pB x5,[.box 85 [pK x2,pI x3,pB x4]],rfl,rfl,?_⟩
 conv=>whnf
 refine ifc h (fun hc h=>?_) (fun hc h=>?_)
 ·obtain rfl:=sj h
  conv=>whnf
  refine⟨_,_,⟨rfl,rfl⟩,wk [0] []⟩
 ·obtain rfl:=sj h
  conv=>whnf
  refine⟨_,_,⟨rfl,rfl⟩,wk [0] []⟩
abbrev q5m (x2:List qam) (x3:Int) (x4:Bool) (r:Int×Bool):FV:=.p (.tup [])
abbrev q5o (x2:List qam) (x3:Int) (x4:Bool) (r:Int×Bool):List AObj:=[.box 85 [pK x2,.p (.int .i64 r.1),.p (.bool r.2)]]
def qbj (n:Nat) (x1:SS) (x2:List qam) (x3:Int) (x4:Bool):Option (Int×Bool):=
 bnd (qan n x1 x2 x3 x4) fun⟨x5,x6⟩=>
 bif(!x5)then(
 some (x6,true))
 else(
 some (x6,x4))
theorem qa1 (n:Nat):∀ (x1:SS) (x2:List qam) (x3:Int) (x4:Bool) (r:Int×Bool),qbj n x1 x2 x3 x4=some r→qau Tryz.prog 52 [.ptr 0 0,.p (PV.str x1)] [.box 85 [pK x2,pI x3,pB x4]] 1 (fun v lo=>v=q5m x2 x3 x4 r∧lo=q5o x2 x3 x4 r):=by
 intro x1 x2 x3 x4 r h
 unfold qbj at h
 refine qau.of_vc qa6 (fun _ _=>Tryz.call52 _ _) Tryz.func52 (by kernel_rfl) (inl:=[48,1000000]) (Nat.le_of_ble_eq_true rfl) ?_
 conv=>whnf
 replace h:=qaa h
 obtain⟨⟨x5,x6⟩,h1,h⟩:=h
 refine qb9 (qaj n _ _ _ _ _ h1) [0] [] ?_
 rintro _ _ ⟨rfl,rfl⟩
 refine⟨pB x5,[.box 85 [pK x2,pI x6,pB x4]],rfl,rfl,?_⟩
 conv=>whnf
 refine ifc h (fun hc h=>?_) (fun hc h=>?_)
 ·obtain rfl:=sj h
  conv=>whnf
  refine⟨_,_,⟨rfl,rfl⟩,wk [0] []⟩
 ·obtain rfl:=sj h
  conv=>whnf
  refine⟨_,_,⟨rfl,rfl⟩,wk [0] []⟩
abbrev q5i (x1:List qam) (x2:Int) (x3:Bool) (r:SS×Int×Bool):FV:=.p (.str r.1)
abbrev q48 (x1:List qam) (x2:Int) (x3:Bool) (r:SS×Int×Bool):List AObj:=[.box 85 [pK x1,.p (.int .i64 r.2.1),.p (.bool r.2.2)]]
def qgn (n:Nat) (x1:List qam) (x2:Int) (x3:Bool):Option (SS×Int×Bool):=
 bnd (idx x1 x2) fun⟨x4,x5,x6,x7⟩=>
 bif(bif x3 then true else(x4 != 1))then(
 some (([]:SS),x2,true))
 else(
 some (x5,(IntKind.i64.wrap (x2+1)),x3))
theorem qfp (n:Nat):∀ (x1:List qam) (x2:Int) (x3:Bool) (r:SS×Int×Bool),qgn n x1 x2 x3=some r→qau Tryz.prog 53 [.ptr 0 0] [.box 85 [pK x1,pI x2,pB x3]] 1 (fun v lo=>v=q5i x1 x2 x3 r∧lo=q48 x1 x2 x3 r):=by
 intro x1 x2 x3 r h
 unfold qgn at h
 refine qau.of_vc qa6 (fun _ _=>Tryz.call53 _ _) Tryz.func53 (by kernel_rfl) (inl:=[40000001,1000000]) (Nat.le_of_ble_eq_true rfl) ?_
 conv=>whnf
 replace h:=qaa h
 obtain⟨⟨x4,x5,x6,x7⟩,h1,h⟩:=h
 refine⟨_,Codec.at_ qo4 h1,?_⟩
 conv=>whnf
 refine⟨id,id,id,?_⟩
 conv=>whnf
 refine ifc h (fun hc h=>?_) (fun hc h=>?_)
 ·obtain rfl:=sj h
  conv=>whnf
  refine⟨_,_,⟨rfl,rfl⟩,wk [0] []⟩
 ·obtain rfl:=sj h
  conv=>whnf
  refine⟨_,_,⟨rfl,rfl⟩,wk [0] []⟩
abbrev qzq (x1:List qam) (x2:Int) (x3:Bool) (r:SS×Int×Bool):FV:=.p (.str r.1)
abbrev qzs (x1:List qam) (x2:Int) (x3:Bool) (r:SS×Int×Bool):List AObj:=[.box 85 [pK x1,.p (.int .i64 r.2.1),.p (.bool r.2.2)]]
def qjl (n:Nat) (x1:List qam) (x2:Int) (x3:Bool):Option (SS×Int×Bool):=
 bnd (qa2 (!x3) (idx x1 x2)) fun⟨x4,x5,x6,x7⟩=>
 bif(bif x3 then true else(x4 != 1))then(
 some (([]:SS),x2,x3))
 else(
 bnd (qgn n x1 x2 x3) fun⟨x8,x9,x10⟩=>
 some (x8,x9,x10))
theorem qmw (n:Nat):∀ (x1:List qam) (x2:Int) (x3:Bool) (r:SS×Int×Bool),qjl n x1 x2 x3=some r→qau Tryz.prog 96 [.ptr 0 0] [.box 85 [pK x1,pI x2,pB x3]] 1 (fun v lo=>v=qzq x1 x2 x3 r∧lo=qzs x1 x2 x3 r):=by
 intro x1 x2 x3 r h
 unfold qjl at h
 refine qau.of_vc qa6 (fun _ _=>Tryz.call96 _ _) Tryz.func96 (by kernel_rfl) (inl:=[53,1000000]) (Nat.le_of_ble_eq_true rfl) ?_
 conv=>whnf
 refine⟨id,id,id,id,id,id,id,id,?_⟩
 conv=>whnf
 replace h:=qaa h
 obtain⟨⟨x4,x5,x6,x7⟩,h2,h⟩:=h
 refine⟨_,fun hg=>Codec.at_ qo4 (qah h2 hg),?_⟩
 conv=>whnf
 refine⟨id,id,id,id,?_⟩
 conv=>whnf
 refine ifc h (fun hc h=>?_) (fun hc h=>?_)
 ·obtain rfl:=sj h
  conv=>whnf
  refine⟨_,_,⟨rfl,rfl⟩,wk [0] []⟩
 ·conv=>whnf
  replace h:=qaa h
  obtain⟨⟨x8,x9,x10⟩,h1,h⟩:=h
  refine qb9 (qfp n _ _ _ _ h1) [0] [] ?_
  rintro _ _ ⟨rfl,rfl⟩
  refine⟨pS x8,[.box 85 [pK x1,pI x9,pB x10]],rfl,rfl,?_⟩
  obtain rfl:=sj h
  conv=>whnf
  refine⟨_,_,⟨rfl,rfl⟩,wk [0] []⟩
abbrev zbr (r:Bool):PV:=PV.bool r
def qiy (n:Nat) (x1:SS):Option (Bool):=
 some (bif(decide (((x1.length:Nat):Int)≥1))then(decide (((x1.length:Nat):Int)≤64))else false)
theorem qhv (n:Nat):∀ (x1:SS) (r:Bool),qiy n x1=some r→qae Tryz.prog 102 [PV.str x1] (zbr r):=by
 intro x1 r h
 unfold qiy at h
 refine qae.of_vcN qa6 (fun _ _=>Tryz.call102 _ _) Tryz.func102 (by kernel_rfl) (inl:=[1000000]) ?_
 conv=>whnf
 refine⟨id,id,id,?_⟩
 obtain rfl:=sj h
 conv=>whnf
 try exact fin
abbrev q78 (x1:List qam) (x2:Int) (x3:Bool) (r:SS×Int×Bool):FV:=.p (.str r.1)
abbrev q7j (x1:List qam) (x2:Int) (x3:Bool) (r:SS×Int×Bool):List AObj:=[.box 85 [pK x1,.p (.int .i64 r.2.1),.p (.bool r.2.2)]]
def qh9 (n:Nat) (x1:List qam) (x2:Int) (x3:Bool):Option (SS×Int×Bool):=
 bnd (idx x1 x2) fun⟨x4,x5,x6,x7⟩=>
 bnd (qa2 (((!x3)&&(x4 != 1))&&(!(x4 != 4))) (qiy n x5)) fun x8=>
 bif(bif x3 then true else(bif(x4 != 1)then(bif(x4 != 4)then true else(!x8))else false))then(
 some (([]:SS),x2,true))
 else(
 some (x5,(IntKind.i64.wrap (x2+1)),x3))
theorem qgr (n:Nat):∀ (x1:List qam) (x2:Int) (x3:Bool) (r:SS×Int×Bool),qh9 n x1 x2 x3=some r→qau Tryz.prog 97 [.ptr 0 0] [.box 85 [pK x1,pI x2,pB x3]] 1 (fun v lo=>v=q78 x1 x2 x3 r∧lo=q7j x1 x2 x3 r):=by
 intro x1 x2 x3 r h
 unfold qh9 at h
 refine qau.of_vc qa6 (fun _ _=>Tryz.call97 _ _) Tryz.func97 (by kernel_rfl) (inl:=[40000001,1000000]) (Nat.le_of_ble_eq_true rfl) ?_
 conv=>whnf
 replace h:=qaa h
 obtain⟨⟨x4,x5,x6,x7⟩,h2,h⟩:=h
 refine⟨_,Codec.at_ qo4 h2,?_⟩
 conv=>whnf
 refine⟨id,id,id,id,id,id,id,id,?_⟩
 conv=>whnf
 replace h:=qaa h
 obtain⟨x8,h1,h⟩:=h
 refine⟨_,fun hg=>(qhv n _ _ (qah h1 hg)),?_⟩
 conv=>whnf
 refine⟨id,id,id,id,id,id,?_⟩
 conv=>whnf
 refine ifc h (fun hc h=>?_) (fun hc h=>?_)
 ·obtain rfl:=sj h
  conv=>whnf
  refine⟨_,_,⟨rfl,rfl⟩,wk [0] []⟩
 ·obtain rfl:=sj h
  conv=>whnf
  refine⟨_,_,⟨rfl,rfl⟩,wk [0] []⟩
abbrev zcp (r:qab):PV:=PV.agg (qcc.cells r)
def qo5 (n:Nat) (x1:Int) (a1z:qab):Option (qab):=
 match a1z with
 | ⟨x2,x3,⟨x4,x5,x6,x7,x8,x9⟩,x10,x11⟩=>
 some (qab.mk x1 ([]:SS) (Val.mk (0:Int) false (0:Int) ([]:SS) ([]:List Val) ([]:List SS)) ([]:List SS) [qab.mk x2 x3 (Val.mk x4 x5 x6 x7 x8 x9) x10 x11])
theorem qm8 (n:Nat):∀ (x1:Int) (a1z r:qab),qo5 n x1 a1z=some r→qae Tryz.prog 135 [PV.int .i64 x1,PV.agg (qcc.cells a1z)] (zcp r):=by
 intro x1 a1z r h
 obtain⟨x2,x3,⟨x4,x5,x6,x7,x8,x9⟩,x10,x11⟩:=a1z
 unfold qo5 at h
 refine qae.of_vcN qa6 (fun _ _=>Tryz.call135 _ _) Tryz.func135 (by kernel_rfl) (inl:=[1000000]) ?_
 conv=>whnf
 refine⟨Codec.one qcc [qab.mk x2 x3 (Val.mk x4 x5 x6 x7 x8 x9) x10 x11],qab.rows [qab.mk x2 x3 (Val.mk x4 x5 x6 x7 x8 x9) x10 x11],.inl rfl,?_⟩
 obtain rfl:=sj h
 conv=>whnf
 try exact fin
abbrev qz2 (r:Bool):PV:=PV.bool r
def qil (n:Nat) (x1:SS):Option (Bool):=
 some (bif(bif(bif(bif(x1==([99,111,117,110,116]:SS))then true else(x1==([115,117,109]:SS)))then true else(x1==([109,105,110]:SS)))then true else(x1==([109,97,120]:SS)))then true else(x1==([99,111,108,108,101,99,116]:SS)))
theorem qnl (n:Nat):∀ (x1:SS) (r:Bool),qil n x1=some r→qae Tryz.prog 132 [PV.str x1] (qz2 r):=by
 intro x1 r h
 unfold qil at h
 refine qae.of_vcN qa6 (fun _ _=>Tryz.call132 _ _) Tryz.func132 (by kernel_rfl) (inl:=[1000000]) ?_
 conv=>whnf
 refine⟨id,id,id,id,id,id,id,id,?_⟩
 obtain rfl:=sj h
 conv=>whnf
 try exact fin
abbrev zb9 (r:qab):PV:=PV.agg (qcc.cells r)
def qjn (n:Nat) (x1:SS) (a1z a2z:qab):Option (qab):=
 match a1z,a2z with
 | ⟨x2,x3,⟨x4,x5,x6,x7,x8,x9⟩,x10,x11⟩,⟨x12,x13,⟨x14,x15,x16,x17,x18,x19⟩,x20,x21⟩=>
 some (qab.mk (10:Int) x1 (Val.mk (0:Int) false (0:Int) ([]:SS) ([]:List Val) ([]:List SS)) ([]:List SS) [qab.mk x2 x3 (Val.mk x4 x5 x6 x7 x8 x9) x10 x11,qab.mk x12 x13 (Val.mk x14 x15 x16 x17 x18 x19) x20 x21])
theorem qgq (n:Nat):∀ (x1:SS) (a1z a2z r:qab),qjn n x1 a1z a2z=some r→qae Tryz.prog 95 [PV.str x1,PV.agg (qcc.cells a1z),PV.agg (qcc.cells a2z)] (zb9 r):=by
 intro x1 a1z a2z r h
 obtain⟨x2,x3,⟨x4,x5,x6,x7,x8,x9⟩,x10,x11⟩:=a1z
 obtain⟨x12,x13,⟨x14,x15,x16,x17,x18,x19⟩,x20,x21⟩:=a2z
 unfold qjn at h
 refine qae.of_vcN qa6 (fun _ _=>Tryz.call95 _ _) Tryz.func95 (by kernel_rfl) (inl:=[1000000]) ?_
 conv=>whnf
 refine⟨Codec.one qcc [qab.mk x2 x3 (Val.mk x4 x5 x6 x7 x8 x9) x10 x11,qab.mk x12 x13 (Val.mk x14 x15 x16 x17 x18 x19) x20 x21],qab.rows [qab.mk x2 x3 (Val.mk x4 x5 x6 x7 x8 x9) x10 x11,qab.mk x12 x13 (Val.mk x14 x15 x16 x17 x18 x19) x20 x21],.inl rfl,?_⟩
 obtain rfl:=sj h
 conv=>whnf
 try exact fin
end W
end
