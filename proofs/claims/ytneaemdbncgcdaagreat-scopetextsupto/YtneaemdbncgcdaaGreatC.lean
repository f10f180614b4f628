/- A part of the proof: contracts, printed by program. -/
import Derived.Test.YtneaemdbncgcdaaGreatB
set_option linter.unusedVariables false
set_option linter.unusedSimpArgs false
set_option linter.unnecessarySimpa false
set_option linter.deprecated false
set_option linter.unusedSectionVars false
set_option linter.constructorNameAsVariable false
section
set_option maxRecDepth 100000
open Go Go.Proofs Ax
namespace W
abbrev qsj (r:Int):PV:=PV.int .i64 r
def qlj (n:Nat) (x5:List Val) (g33:Val->Option (Int)):(Int×Int->Option (Int))->Int×Int->Option (Int):=fun nx1 (x7,x8)=>
 bif(decide (x8<((Val.rows x5).length:Int)))then(
 bnd (idx x5 x8) fun⟨x9,x10,x11,x12,x13,x14⟩=>
 bnd (g33 (Val.mk x9 x10 x11 x12 x13 x14)) fun x15=>
 nx1 ((IntKind.i64.wrap (x7+x15)),(IntKind.i64.wrap (x8+1))))
 else(
 some x7)
def qti (n:Nat) (g33:Val->Option (Int)) (a0z:Val):Option (Int):=
 match a0z with
 | ⟨x1,x2,x3,x4,x5,x6⟩=>
 qap (qlj n x5 g33) n ((1:Int),(0:Int))
theorem q4v (n:Nat) (g33:Val->Option (Int)) (g33_ok:∀ (a0z:Val) (r:Int),g33 a0z=some r->qae Tryz.prog 33 [PV.agg (qtz.cells a0z)] (qsj r)):∀ (a0z:Val) (r:Int),qti n g33 a0z=some r->qae Tryz.prog 33 [PV.agg (qtz.cells a0z)] (qsj r):=by
 intro a0z r h;obtain⟨x1,x2,x3,x4,x5,x6⟩:=a0z;unfold qti at h;refine qae.of_vcN qa3 (fun _ _=>Tryz.call33 _ _) Tryz.func33 (by kernel_rfl) (inl:=[1000000]) ?_;conv=>whnf
 refine qby.fn [1000000] (S:=Int×Int) (fun(x7,x8)=>[(1,.ptr 0 0),(3,pI x7),(4,pI x8)]) (fun(x7,x8)=>[.box 44 [pI x1,pB x2,pI x3,pS x4,pV x5,pT x6]]) (B:=qlj n x5 g33) h (wk [0] []) ?_;intro nx1 st h;obtain⟨x7,x8⟩:=st;unfold qlj at h;conv=>whnf
 refine ifc h (fun hc h=>?_) (fun hc h=>?_)
 ·conv=>whnf
  replace h:=qaa h;obtain⟨⟨x9,x10,x11,x12,x13,x14⟩,h2,h⟩:=h;refine⟨_,Codec.at_ qtz h2,?_⟩;conv=>whnf
  replace h:=qaa h;obtain⟨x15,h1,h⟩:=h;refine⟨_,(g33_ok _ _ h1),?_⟩;conv=>whnf
  exact⟨((IntKind.i64.wrap (x7+x15)),(IntKind.i64.wrap (x8+1))),h,wk [0] []⟩
 ·obtain rfl:=sj h
  conv=>whnf
  try exact fin
def qmk:Nat->Val->Option (Int)
 | 0=>fun _=>none
 | n+1=>qti n (qmk n)
theorem q42 (n:Nat):(∀ (a0z:Val) (r:Int),qmk n a0z=some r->qae Tryz.prog 33 [PV.agg (qtz.cells a0z)] (qsj r)):=by
 induction n with
 | zero=>exact(by intros; rename_i h; cases h)
 | succ n ih=>
  have hg33:=ih;exact q4v n (qmk n) hg33
theorem q66 (n:Nat):∀ (a0z:Val) (r:Int),qmk n a0z=some r->qae Tryz.prog 33 [PV.agg (qtz.cells a0z)] (qsj r):=(q42 n)
abbrev qsk (r:Int):PV:=PV.int .i64 r
def qlr (n:Nat) (x10:List qab) (x11:Int) (g20:qab->Int->Option (Int)):(Int×Int->Option (Int))->Int×Int->Option (Int):=fun nx1 (x13,x14)=>
 bif(bif(decide (x14<((qab.rows x10).length:Int)))then(decide (x13<x11))else false)then(
 bnd (idx x10 x14) fun⟨x15,x16,⟨x17,x18,x19,x20,x21,x22⟩,x23,x24⟩=>
 bnd (g20 (qab.mk x15 x16 (Val.mk x17 x18 x19 x20 x21 x22) x23 x24) (IntKind.i64.wrap (x11 - x13))) fun x25=>
 nx1 ((IntKind.i64.wrap (x13+x25)),(IntKind.i64.wrap (x14+1))))
 else(
 some x13)
def qtj (n:Nat) (g20:qab->Int->Option (Int)) (a0z:qab) (x11:Int):Option (Int):=
 match a0z with
 | ⟨x1,x2,⟨x3,x4,x5,x6,x7,x8⟩,x9,x10⟩=>
 bnd (qmk n (Val.mk x3 x4 x5 x6 x7 x8)) fun x12=>
 qap (qlr n x10 x11 g20) n ((IntKind.i64.wrap ((IntKind.i64.wrap ((IntKind.i64.wrap ((1:Int)+(IntKind.i64.wrap (Int.tdiv ((x2.length:Nat):Int) (16:Int)))))+(IntKind.i64.wrap (Int.tdiv ((x6.length:Nat):Int) (16:Int)))))+x12)),(0:Int))
theorem q4w (n:Nat) (g20:qab->Int->Option (Int)) (g20_ok:∀ (a0z:qab) (x11 r:Int),g20 a0z x11=some r->qae Tryz.prog 20 [PV.agg (qca.cells a0z),PV.int .i64 x11] (qsk r)):∀ (a0z:qab) (x11 r:Int),qtj n g20 a0z x11=some r->qae Tryz.prog 20 [PV.agg (qca.cells a0z),PV.int .i64 x11] (qsk r):=by
 intro a0z x11 r h;obtain⟨x1,x2,⟨x3,x4,x5,x6,x7,x8⟩,x9,x10⟩:=a0z;unfold qtj at h;refine qae.of_vcN qa3 (fun _ _=>Tryz.call20 _ _) Tryz.func20 (by kernel_rfl) (inl:=[1000000]) ?_;conv=>whnf
 refine⟨by unfold gI; decide,?_⟩;conv=>whnf
 refine⟨by unfold gI; decide,?_⟩;conv=>whnf
 replace h:=qaa h;obtain⟨x12,h3,h⟩:=h;refine⟨_,(q66 n _ _ h3),?_⟩;conv=>whnf
 refine qby.fn [1000000] (S:=Int×Int) (fun(x13,x14)=>[(1,pI x11),(2,.ptr 0 0),(5,pI x13),(6,pI x14)]) (fun(x13,x14)=>[.box 47 [pI x1,pS x2,pI x3,pB x4,pI x5,pS x6,pV x7,pT x8,pT x9,pE x10]]) (B:=qlr n x10 x11 g20) h (wk [0] []) ?_;intro nx1 st h;obtain⟨x13,x14⟩:=st;unfold qlr at h;conv=>whnf
 refine⟨id,id,id,?_⟩;conv=>whnf
 refine ifc h (fun hc h=>?_) (fun hc h=>?_)
 ·conv=>whnf
  replace h:=qaa h;obtain⟨⟨x15,x16,⟨x17,x18,x19,x20,x21,x22⟩,x23,x24⟩,h2,h⟩:=h;refine⟨_,Codec.at_ qca h2,?_⟩;conv=>whnf
  replace h:=qaa h;obtain⟨x25,h1,h⟩:=h;refine⟨_,(g20_ok _ _ _ h1),?_⟩;conv=>whnf
  exact⟨((IntKind.i64.wrap (x13+x25)),(IntKind.i64.wrap (x14+1))),h,wk [0] []⟩
 ·obtain rfl:=sj h
  conv=>whnf
  try exact fin
def qgs:Nat->qab->Int->Option (Int)
 | 0=>fun _ _=>none
 | n+1=>qtj n (qgs n)
theorem q46 (n:Nat):(∀ (a0z:qab) (x11 r:Int),qgs n a0z x11=some r->qae Tryz.prog 20 [PV.agg (qca.cells a0z),PV.int .i64 x11] (qsk r)):=by
 induction n with
 | zero=>exact(by intros; rename_i h; cases h)
 | succ n ih=>
  have hg20:=ih;exact q4w n (qgs n) hg20
theorem qok (n:Nat):∀ (a0z:qab) (x11 r:Int),qgs n a0z x11=some r->qae Tryz.prog 20 [PV.agg (qca.cells a0z),PV.int .i64 x11] (qsk r):=(q46 n)
abbrev q38 (r:Int):PV:=PV.int .i64 r
def qhn (n:Nat) (x1:List qab) (x2:Int):(Int×Int->Option (Int))->Int×Int->Option (Int):=fun nx1 (x3,x4)=>
 bif(bif(decide (x4<((qab.rows x1).length:Int)))then(decide (x3<x2))else false)then(
 bnd (idx x1 x4) fun⟨x5,x6,⟨x7,x8,x9,x10,x11,x12⟩,x13,x14⟩=>
 bnd (qgs n (qab.mk x5 x6 (Val.mk x7 x8 x9 x10 x11 x12) x13 x14) (IntKind.i64.wrap (x2 - x3))) fun x15=>
 nx1 ((IntKind.i64.wrap (x3+x15)),(IntKind.i64.wrap (x4+1))))
 else(
 some x3)
def qf8 (n:Nat) (x1:List qab) (x2:Int):Option (Int):=
 qap (qhn n x1 x2) n ((0:Int),(0:Int))
theorem qjs (n:Nat):∀ (x1:List qab) (x2 r:Int),qf8 n x1 x2=some r->qae Tryz.prog 21 [PV.sl (qab.rows x1),PV.int .i64 x2] (q38 r):=by
 intro x1 x2 r h;unfold qf8 at h;refine qae.of_vcN qa3 (fun _ _=>Tryz.call21 _ _) Tryz.func21 (by kernel_rfl) (inl:=[1000000]) ?_;conv=>whnf
 refine qby.fn [1000000] (S:=Int×Int) (fun(x3,x4)=>[(0,pE x1),(1,pI x2),(5,pI x3),(6,pI x4)]) (fun(x3,x4)=>[]) (B:=qhn n x1 x2) h (wk [] []) ?_;intro nx1 st h;obtain⟨x3,x4⟩:=st;unfold qhn at h;conv=>whnf
 refine⟨id,id,id,?_⟩;conv=>whnf
 refine ifc h (fun hc h=>?_) (fun hc h=>?_)
 ·conv=>whnf
  replace h:=qaa h;obtain⟨⟨x5,x6,⟨x7,x8,x9,x10,x11,x12⟩,x13,x14⟩,h2,h⟩:=h;refine⟨_,Codec.at_ qca h2,?_⟩;conv=>whnf
  replace h:=qaa h;obtain⟨x15,h1,h⟩:=h;refine⟨_,(qok n _ _ _ h1),?_⟩;conv=>whnf
  exact⟨((IntKind.i64.wrap (x3+x15)),(IntKind.i64.wrap (x4+1))),h,wk [] []⟩
 ·obtain rfl:=sj h
  conv=>whnf
  try exact fin
abbrev q91 (r:Bool):PV:=PV.bool r
def qi8 (n:Nat) (x5:List qa9) (x31:Int) (nx2:Int×Int->Option (Bool)):(Int×Int->Option (Bool))->Int×Int->Option (Bool):=fun nx4 (x49,x50)=>
 bnd (idx x5 x31) fun⟨x51,x52⟩=>
 bif(bif(decide (x50<((qai.rows x52).length:Int)))then(decide (x49<3000))else false)then(
 bnd (idx x5 x31) fun⟨x53,x54⟩=>
 bnd (idx x54 x50) fun⟨x55,x56,x57,x58,x59⟩=>
 bnd (qf8 n x59 (3000:Int)) fun x60=>
 nx4 ((IntKind.i64.wrap ((IntKind.i64.wrap (x49+1))+x60)),(IntKind.i64.wrap (x50+1))))
 else(
 nx2 (x49,(IntKind.i64.wrap (x31+1))))
def qln (n:Nat) (x5:List qa9) (x31:Int) (nx2:Int×Int->Option (Bool)):(Int×Int->Option (Bool))->Int×Int->Option (Bool):=fun nx3 (x32,x33)=>
 bnd (idx x5 x31) fun⟨x34,x35⟩=>
 bif(bif(decide (x33<((qaf.rows x34).length:Int)))then(decide (x32<3000))else false)then(
 bnd (idx x5 x31) fun⟨x36,x37⟩=>
 bnd (idx x36 x33) fun⟨x38,x39,x40,x41⟩=>
 bnd (idx x5 x31) fun⟨x42,x43⟩=>
 bnd (idx x42 x33) fun⟨x44,x45,x46,x47⟩=>
 bnd (qf8 n x47 (3000:Int)) fun x48=>
 nx3 ((IntKind.i64.wrap ((IntKind.i64.wrap ((IntKind.i64.wrap (x32+1))+((qam x39).length:Int)))+x48)),(IntKind.i64.wrap (x33+1))))
 else(
 qap (qi8 n x5 x31 nx2) n (x32,(0:Int)))
def qhf (n:Nat) (x23:List qag) (nx1:Int×Int->Option (Bool)) (x3:Int):(Int×Int->Option (Bool))->Int×Int->Option (Bool):=fun nx7 (x89,x90)=>
 bif(bif(decide (x90<((qag.rows x23).length:Int)))then(decide (x89<3000))else false)then(
 bnd (idx x23 x90) fun⟨x91,x92,x93,⟨x94,x95,⟨x96,x97,x98,x99,x100,x101⟩,x102,x103⟩⟩=>
 bnd (qgs n (qab.mk x94 x95 (Val.mk x96 x97 x98 x99 x100 x101) x102 x103) (3000:Int)) fun x104=>
 nx7 ((IntKind.i64.wrap ((IntKind.i64.wrap (x89+1))+x104)),(IntKind.i64.wrap (x90+1))))
 else(
 nx1 (x89,(IntKind.i64.wrap (x3+1))))
def qhe (n:Nat) (x20:List qar) (x23:List qag) (nx1:Int×Int->Option (Bool)) (x3:Int):(Int×Int->Option (Bool))->Int×Int->Option (Bool):=fun nx6 (x75,x76)=>
 bif(bif(decide (x76<((qar.rows x20).length:Int)))then(decide (x75<3000))else false)then(
 bnd (idx x20 x76) fun⟨⟨x77,x78,⟨x79,x80,x81,x82,x83,x84⟩,x85,x86⟩,x87⟩=>
 bnd (qgs n (qab.mk x77 x78 (Val.mk x79 x80 x81 x82 x83 x84) x85 x86) (3000:Int)) fun x88=>
 nx6 ((IntKind.i64.wrap (x75+x88)),(IntKind.i64.wrap (x76+1))))
 else(
 qap (qhf n x23 nx1 x3) n (x75,(0:Int)))
def qhd (n:Nat) (x18:List qbh) (x20:List qar) (x23:List qag) (nx1:Int×Int->Option (Bool)) (x3:Int):(Int×Int->Option (Bool))->Int×Int->Option (Bool):=fun nx5 (x61,x62)=>
 bif(bif(decide (x62<((qbh.rows x18).length:Int)))then(decide (x61<3000))else false)then(
 bnd (idx x18 x62) fun⟨⟨x63,x64,⟨x65,x66,x67,x68,x69,x70⟩,x71,x72⟩,x73⟩=>
 bnd (qgs n (qab.mk x63 x64 (Val.mk x65 x66 x67 x68 x69 x70) x71 x72) (3000:Int)) fun x74=>
 nx5 ((IntKind.i64.wrap (x61+x74)),(IntKind.i64.wrap (x62+1))))
 else(
 qap (qhe n x20 x23 nx1 x3) n (x61,(0:Int)))
def qi7 (n:Nat) (x5:List qa9) (x18:List qbh) (x20:List qar) (x23:List qag) (nx1:Int×Int->Option (Bool)) (x3:Int):(Int×Int->Option (Bool))->Int×Int->Option (Bool):=fun nx2 (x30,x31)=>
 bif(bif(decide (x31<((qa9.rows x5).length:Int)))then(decide (x30<3000))else false)then(
 qap (qln n x5 x31 nx2) n (x30,(0:Int)))
 else(
 qap (qhd n x18 x20 x23 nx1 x3) n (x30,(0:Int)))
def qlm (n:Nat) (x1:List qad):(Int×Int->Option (Bool))->Int×Int->Option (Bool):=fun nx1 (x2,x3)=>
 bif(bif(decide (x3<((qad.rows x1).length:Int)))then(decide (x2<3000))else false)then(
 bnd (idx x1 x3) fun⟨x4,x5,x6,⟨x7,x8,⟨x9,x10,x11,x12,x13,x14⟩,x15,x16⟩,x17,x18,x19,x20,x21,x22,x23,x24,x25⟩=>
 bnd (qgs n (qab.mk x7 x8 (Val.mk x9 x10 x11 x12 x13 x14) x15 x16) (3000:Int)) fun x26=>
 bnd (qf8 n x6 (3000:Int)) fun x27=>
 bnd (qf8 n x21 (3000:Int)) fun x28=>
 bnd (qf8 n x22 (3000:Int)) fun x29=>
 qap (qi7 n x5 x18 x20 x23 nx1 x3) n ((IntKind.i64.wrap ((IntKind.i64.wrap ((IntKind.i64.wrap ((IntKind.i64.wrap ((IntKind.i64.wrap ((IntKind.i64.wrap (x2+1))+x26))+x27))+x28))+x29))+((qam x24).length:Int))),(0:Int)))
 else(
 some (decide (x2≥3000)))
def qkt (n:Nat) (a0z:qg3):Option (Bool):=
 match a0z with
 | ⟨x1⟩=>
 qap (qlm n x1) n ((0:Int),(0:Int))
set_option maxHeartbeats 4000000 in
theorem qoh (n:Nat):∀ (a0z:qg3) (r:Bool),qkt n a0z=some r->qae Tryz.prog 9 [PV.agg (qys.cells a0z)] (q91 r):=by
 intro a0z r h;obtain⟨x1⟩:=a0z;unfold qkt at h;refine qae.of_vcN qa3 (fun _ _=>Tryz.call9 _ _) Tryz.func9 (by kernel_rfl) (inl:=[1000000]) ?_;conv=>whnf
 refine qby.fn [1000000] (S:=Int×Int) (fun(x2,x3)=>[(1,.ptr 0 0),(3,pI x2),(4,pI x3)]) (fun(x2,x3)=>[.box 24 [pC x1]]) (B:=qlm n x1) h (wk [0] []) ?_;intro nx1 st h;obtain⟨x2,x3⟩:=st;unfold qlm at h;conv=>whnf
 refine⟨id,id,?_⟩;conv=>whnf
 refine ifc h (fun hc h=>?_) (fun hc h=>?_)
 ·conv=>whnf
  replace h:=qaa h;obtain⟨⟨x4,x5,x6,⟨x7,x8,⟨x9,x10,x11,x12,x13,x14⟩,x15,x16⟩,x17,x18,x19,x20,x21,x22,x23,x24,x25⟩,h21,h⟩:=h;refine⟨_,Codec.at_ qcw h21,?_⟩;conv=>whnf
  replace h:=qaa h;obtain⟨x26,h20,h⟩:=h;refine⟨_,(qok n _ _ _ h20),?_⟩;conv=>whnf
  replace h:=qaa h;obtain⟨x27,h19,h⟩:=h;refine⟨_,(qjs n _ _ _ h19),?_⟩;conv=>whnf
  replace h:=qaa h;obtain⟨x28,h18,h⟩:=h;refine⟨_,(qjs n _ _ _ h18),?_⟩;conv=>whnf
  replace h:=qaa h;obtain⟨x29,h17,h⟩:=h;refine⟨_,(qjs n _ _ _ h17),?_⟩;conv=>whnf
  refine qby.fn [1000000] (S:=Int×Int) (fun(x30,x31)=>[(1,.ptr 0 0),(3,pI x30),(4,pI x3),(5,.ptr 1 0),(6,pI x31)]) (fun(x30,x31)=>[.box 24 [pC x1],.box 55 [pI x4,pP x5,pE x6,pI x7,pS x8,pI x9,pB x10,pI x11,pS x12,pV x13,pT x14,pT x15,pE x16,pS x17,pA x18,pB x19,pO x20,pE x21,pE x22,pU x23,pT x24,pB x25]]) (B:=qi7 n x5 x18 x20 x23 nx1 x3) h (wk [0,1] []) ?_;intro nx2 st h;obtain⟨x30,x31⟩:=st;unfold qi7 at h;conv=>whnf
  refine⟨id,id,?_⟩;conv=>whnf
  refine ifc h (fun hc h=>?_) (fun hc h=>?_)
  ·conv=>whnf
   refine qby.fn [1000000] (S:=Int×Int) (fun(x32,x33)=>[(1,.ptr 0 0),(3,pI x32),(4,pI x3),(5,.ptr 1 0),(6,pI x31),(7,pI x33)]) (fun(x32,x33)=>[.box 24 [pC x1],.box 55 [pI x4,pP x5,pE x6,pI x7,pS x8,pI x9,pB x10,pI x11,pS x12,pV x13,pT x14,pT x15,pE x16,pS x17,pA x18,pB x19,pO x20,pE x21,pE x22,pU x23,pT x24,pB x25]]) (B:=qln n x5 x31 nx2) h (wk [0,1] []) ?_;intro nx3 st h;obtain⟨x32,x33⟩:=st;unfold qln at h;conv=>whnf
   replace h:=qaa h;obtain⟨⟨x34,x35⟩,h10,h⟩:=h;refine⟨_,Codec.at_ qoa h10,?_⟩;conv=>whnf
   refine⟨id,id,?_⟩;conv=>whnf
   refine ifc h (fun hc h=>?_) (fun hc h=>?_)
   ·conv=>whnf
    replace h:=qaa h;obtain⟨⟨x36,x37⟩,h5,h⟩:=h;refine⟨_,Codec.at_ qoa h5,?_⟩;conv=>whnf
    replace h:=qaa h;obtain⟨⟨x38,x39,x40,x41⟩,h4,h⟩:=h;refine⟨_,Codec.at_ qeq h4,?_⟩;conv=>whnf
    replace h:=qaa h;obtain⟨⟨x42,x43⟩,h3,h⟩:=h;refine⟨_,Codec.at_ qoa h3,?_⟩;conv=>whnf
    replace h:=qaa h;obtain⟨⟨x44,x45,x46,x47⟩,h2,h⟩:=h;refine⟨_,Codec.at_ qeq h2,?_⟩;conv=>whnf
    replace h:=qaa h;obtain⟨x48,h1,h⟩:=h;refine⟨_,(qjs n _ _ _ h1),?_⟩;conv=>whnf
    exact⟨((IntKind.i64.wrap ((IntKind.i64.wrap ((IntKind.i64.wrap (x32+1))+((qam x39).length:Int)))+x48)),(IntKind.i64.wrap (x33+1))),h,wk [0,1] []⟩
   ·conv=>whnf
    refine qby.fn [1000000] (S:=Int×Int) (fun(x49,x50)=>[(1,.ptr 0 0),(3,pI x49),(4,pI x3),(5,.ptr 1 0),(6,pI x31),(8,pI x50)]) (fun(x49,x50)=>[.box 24 [pC x1],.box 55 [pI x4,pP x5,pE x6,pI x7,pS x8,pI x9,pB x10,pI x11,pS x12,pV x13,pT x14,pT x15,pE x16,pS x17,pA x18,pB x19,pO x20,pE x21,pE x22,pU x23,pT x24,pB x25]]) (B:=qi8 n x5 x31 nx2) h (wk [0,1] []) ?_;intro nx4 st h;obtain⟨x49,x50⟩:=st;unfold qi8 at h;conv=>whnf
    replace h:=qaa h;obtain⟨⟨x51,x52⟩,h9,h⟩:=h;refine⟨_,Codec.at_ qoa h9,?_⟩;conv=>whnf
    refine⟨id,id,?_⟩;conv=>whnf
    refine ifc h (fun hc h=>?_) (fun hc h=>?_)
    ·conv=>whnf
     replace h:=qaa h;obtain⟨⟨x53,x54⟩,h8,h⟩:=h;refine⟨_,Codec.at_ qoa h8,?_⟩;conv=>whnf
     replace h:=qaa h;obtain⟨⟨x55,x56,x57,x58,x59⟩,h7,h⟩:=h;refine⟨_,Codec.at_ qgn h7,?_⟩;conv=>whnf
     replace h:=qaa h;obtain⟨x60,h6,h⟩:=h;refine⟨_,(qjs n _ _ _ h6),?_⟩;conv=>whnf
     exact⟨((IntKind.i64.wrap ((IntKind.i64.wrap (x49+1))+x60)),(IntKind.i64.wrap (x50+1))),h,wk [0,1] []⟩
    ·conv=>whnf
     exact⟨(x49,(IntKind.i64.wrap (x31+1))),h,wk [0,1] []⟩
  ·conv=>whnf
   refine qby.fn [1000000] (S:=Int×Int) (fun(x61,x62)=>[(1,.ptr 0 0),(3,pI x61),(4,pI x3),(5,.ptr 1 0),(9,pI x62)]) (fun(x61,x62)=>[.box 24 [pC x1],.box 55 [pI x4,pP x5,pE x6,pI x7,pS x8,pI x9,pB x10,pI x11,pS x12,pV x13,pT x14,pT x15,pE x16,pS x17,pA x18,pB x19,pO x20,pE x21,pE x22,pU x23,pT x24,pB x25]]) (B:=qhd n x18 x20 x23 nx1 x3) h (wk [0,1] []) ?_;intro nx5 st h;obtain⟨x61,x62⟩:=st;unfold qhd at h;conv=>whnf
   refine⟨id,id,?_⟩;conv=>whnf
   refine ifc h (fun hc h=>?_) (fun hc h=>?_)
   ·conv=>whnf
    replace h:=qaa h;obtain⟨⟨⟨x63,x64,⟨x65,x66,x67,x68,x69,x70⟩,x71,x72⟩,x73⟩,h12,h⟩:=h;refine⟨_,Codec.at_ qtc h12,?_⟩;conv=>whnf
    replace h:=qaa h;obtain⟨x74,h11,h⟩:=h;refine⟨_,(qok n _ _ _ h11),?_⟩;conv=>whnf
    exact⟨((IntKind.i64.wrap (x61+x74)),(IntKind.i64.wrap (x62+1))),h,wk [0,1] []⟩
   ·conv=>whnf
    refine qby.fn [1000000] (S:=Int×Int) (fun(x75,x76)=>[(1,.ptr 0 0),(3,pI x75),(4,pI x3),(5,.ptr 1 0),(10,pI x76)]) (fun(x75,x76)=>[.box 24 [pC x1],.box 55 [pI x4,pP x5,pE x6,pI x7,pS x8,pI x9,pB x10,pI x11,pS x12,pV x13,pT x14,pT x15,pE x16,pS x17,pA x18,pB x19,pO x20,pE x21,pE x22,pU x23,pT x24,pB x25]]) (B:=qhe n x20 x23 nx1 x3) h (wk [0,1] []) ?_;intro nx6 st h;obtain⟨x75,x76⟩:=st;unfold qhe at h;conv=>whnf
    refine⟨id,id,?_⟩;conv=>whnf
    refine ifc h (fun hc h=>?_) (fun hc h=>?_)
    ·conv=>whnf
     replace h:=qaa h;obtain⟨⟨⟨x77,x78,⟨x79,x80,x81,x82,x83,x84⟩,x85,x86⟩,x87⟩,h14,h⟩:=h;refine⟨_,Codec.at_ qpz h14,?_⟩;conv=>whnf
     replace h:=qaa h;obtain⟨x88,h13,h⟩:=h;refine⟨_,(qok n _ _ _ h13),?_⟩;conv=>whnf
     exact⟨((IntKind.i64.wrap (x75+x88)),(IntKind.i64.wrap (x76+1))),h,wk [0,1] []⟩
    ·conv=>whnf
     refine qby.fn [1000000] (S:=Int×Int) (fun(x89,x90)=>[(1,.ptr 0 0),(3,pI x89),(4,pI x3),(5,.ptr 1 0),(11,pI x90)]) (fun(x89,x90)=>[.box 24 [pC x1],.box 55 [pI x4,pP x5,pE x6,pI x7,pS x8,pI x9,pB x10,pI x11,pS x12,pV x13,pT x14,pT x15,pE x16,pS x17,pA x18,pB x19,pO x20,pE x21,pE x22,pU x23,pT x24,pB x25]]) (B:=qhf n x23 nx1 x3) h (wk [0,1] []) ?_;intro nx7 st h;obtain⟨x89,x90⟩:=st;unfold qhf at h;conv=>whnf
     refine⟨id,id,?_⟩;conv=>whnf
     refine ifc h (fun hc h=>?_) (fun hc h=>?_)
     ·conv=>whnf
      replace h:=qaa h;obtain⟨⟨x91,x92,x93,⟨x94,x95,⟨x96,x97,x98,x99,x100,x101⟩,x102,x103⟩⟩,h16,h⟩:=h;refine⟨_,Codec.at_ qi2 h16,?_⟩;conv=>whnf
      replace h:=qaa h;obtain⟨x104,h15,h⟩:=h;refine⟨_,(qok n _ _ _ h15),?_⟩;conv=>whnf
      exact⟨((IntKind.i64.wrap ((IntKind.i64.wrap (x89+1))+x104)),(IntKind.i64.wrap (x90+1))),h,wk [0,1] []⟩
     ·conv=>whnf
      exact⟨(x89,(IntKind.i64.wrap (x3+1))),h,wk [0] []⟩
 ·obtain rfl:=sj h
  conv=>whnf
  try exact fin
abbrev q7s (r:Bool):PV:=PV.bool r
def qga (n:Nat) (x1:Int):Option (Bool):=
 some (bif(bif(bif(decide (x1≥97))then(decide (x1<=122))else false)then true else(bif(decide (x1≥65))then(decide (x1<=90))else false))then true else(x1==95))
theorem qp7 (n:Nat):∀ (x1:Int) (r:Bool),qga n x1=some r->qae Tryz.prog 87 [PV.int .u8 x1] (q7s r):=by
 intro x1 r h;unfold qga at h;refine qae.of_vcN qa3 (fun _ _=>Tryz.call87 _ _) Tryz.func87 (by kernel_rfl) (inl:=[1000000]) ?_;conv=>whnf
 refine⟨id,id,id,id,id,id,id,id,id,id,?_⟩;obtain rfl:=sj h;conv=>whnf
 try exact fin
abbrev q9x (r:Bool):PV:=PV.bool r
def qf1 (n:Nat) (x1:Int):Option (Bool):=
 some (bif(decide (x1≥48))then(decide (x1<=57))else false)
theorem qog (n:Nat):∀ (x1:Int) (r:Bool),qf1 n x1=some r->qae Tryz.prog 88 [PV.int .u8 x1] (q9x r):=by
 intro x1 r h;unfold qf1 at h;refine qae.of_vcN qa3 (fun _ _=>Tryz.call88 _ _) Tryz.func88 (by kernel_rfl) (inl:=[1000000]) ?_;conv=>whnf
 refine⟨id,id,?_⟩;obtain rfl:=sj h;conv=>whnf
 try exact fin
abbrev q90 (r:List SS):PV:=PV.sl (qam r)
def qu5 (n:Nat):Option (List SS):=
 some [([77,65,84,67,72]:SS),([87,72,69,82,69]:SS),([85,78,87,73,78,68]:SS),([65,83]:SS),([87,73,84,72]:SS),([67,82,69,65,84,69]:SS),([77,69,82,71,69]:SS),([83,69,84]:SS),([82,69,77,79,86,69]:SS),([68,69,76,69,84,69]:SS),([68,69,84,65,67,72]:SS),([82,69,84,85,82,78]:SS),([68,73,83,84,73,78,67,84]:SS),([79,82,68,69,82]:SS),([66,89]:SS),([65,83,67]:SS),([68,69,83,67]:SS),([83,75,73,80]:SS),([76,73,77,73,84]:SS),([65,78,68]:SS),([79,82]:SS),([88,79,82]:SS),([78,79,84]:SS),([73,78]:SS),([73,83]:SS),([78,85,76,76]:SS),([84,82,85,69]:SS),([70,65,76,83,69]:SS)]
theorem q7b (n:Nat):∀ (r:List SS),qu5 n=some r->qae Tryz.prog 116 [] (q90 r):=by
 intro r h;unfold qu5 at h;refine qae.of_vcN qa3 (fun _ _=>Tryz.call116 _ _) Tryz.func116 (by kernel_rfl) (inl:=[1000000]) ?_;conv=>whnf
 refine⟨Codec.one qqt [([77,65,84,67,72]:SS),([87,72,69,82,69]:SS),([85,78,87,73,78,68]:SS),([65,83]:SS),([87,73,84,72]:SS),([67,82,69,65,84,69]:SS),([77,69,82,71,69]:SS),([83,69,84]:SS),([82,69,77,79,86,69]:SS),([68,69,76,69,84,69]:SS),([68,69,84,65,67,72]:SS),([82,69,84,85,82,78]:SS),([68,73,83,84,73,78,67,84]:SS),([79,82,68,69,82]:SS),([66,89]:SS),([65,83,67]:SS),([68,69,83,67]:SS),([83,75,73,80]:SS),([76,73,77,73,84]:SS),([65,78,68]:SS),([79,82]:SS),([88,79,82]:SS),([78,79,84]:SS),([73,78]:SS),([73,83]:SS),([78,85,76,76]:SS),([84,82,85,69]:SS),([70,65,76,83,69]:SS)],qam [([77,65,84,67,72]:SS),([87,72,69,82,69]:SS),([85,78,87,73,78,68]:SS),([65,83]:SS),([87,73,84,72]:SS),([67,82,69,65,84,69]:SS),([77,69,82,71,69]:SS),([83,69,84]:SS),([82,69,77,79,86,69]:SS),([68,69,76,69,84,69]:SS),([68,69,84,65,67,72]:SS),([82,69,84,85,82,78]:SS),([68,73,83,84,73,78,67,84]:SS),([79,82,68,69,82]:SS),([66,89]:SS),([65,83,67]:SS),([68,69,83,67]:SS),([83,75,73,80]:SS),([76,73,77,73,84]:SS),([65,78,68]:SS),([79,82]:SS),([88,79,82]:SS),([78,79,84]:SS),([73,78]:SS),([73,83]:SS),([78,85,76,76]:SS),([84,82,85,69]:SS),([70,65,76,83,69]:SS)],.inl rfl,?_⟩;obtain rfl:=sj h;conv=>whnf
 try exact fin
abbrev q9y (r:SS):PV:=PV.str r
def qlk (n:Nat) (x2:SS) (nx1:SS×Int->Option SS) (x3:Int):Int->Option SS:=fun x5=>
 bnd (u8I x5) fun x6=>
 chk (decide ((qea (x2++[x6])).length * 1<=140737488355328)) (
 nx1 ((x2++[x6]),(IntKind.i64.wrap (x3+1))))
def qll (n:Nat) (x1:SS):(SS×Int->Option SS)->SS×Int->Option SS:=fun nx1 (x2,x3)=>
 bif(decide (x3<((x1.length:Nat):Int)))then(
 bnd (idx x1 x3) fun x4=>
 bif(bif(decide (((x4.toNat:Nat):Int)≥97))then(decide (((x4.toNat:Nat):Int)<=122))else false)then(
 qlk n x2 nx1 x3 (IntKind.u8.wrap (((x4.toNat:Nat):Int) - 32)))
 else(
 qlk n x2 nx1 x3 ((x4.toNat:Nat):Int)))
 else(
 some x2)
def qs0 (n:Nat) (x1:SS):Option SS:=
 qap (qll n x1) n (([]:List _),(0:Int))
theorem q7a (n:Nat):∀ (x1 r:SS),qs0 n x1=some r->qae Tryz.prog 117 [PV.str x1] (q9y r):=by
 intro x1 r h;unfold qs0 at h;refine qae.of_vcN qa3 (fun _ _=>Tryz.call117 _ _) Tryz.func117 (by kernel_rfl) (inl:=[1000000]) ?_;conv=>whnf
 refine qby.fn [1000000] (S:=SS×Int) (fun(x2,x3)=>[(0,pS x1),(3,.tsl 0 (qea x2)),(4,pI x3)]) (fun(x2,x3)=>[.tail 5 1 (qea x2).length]) (B:=qll n x1) h (wk [0] [0]) ?_;intro nx1 st h;obtain⟨x2,x3⟩:=st;unfold qll at h;conv=>whnf
 refine ifc h (fun hc h=>?_) (fun hc h=>?_)
 ·conv=>whnf
  replace h:=qaa h;obtain⟨x4,h3,h⟩:=h;refine⟨_,qeb h3,?_⟩;conv=>whnf
  refine qje.cut (S:=Int) (fun x5=>[(0,pS x1),(3,.tsl 0 (qea x2)),(4,pI x3),(5,.p (.int .u8 x5))]) (fun x5=>[.tail 5 1 (qea x2).length]) (qlk n x2 nx1 x3) (r:=r) ?_ ?_
  ·intro x5 h
   unfold qlk at h;conv=>whnf
   replace h:=qaa h;obtain⟨x6,h1,h⟩:=h;rw[show([[PV.int .u8 x5]]:List (List PV))=qea [x6]from by rw[zba h1]; rfl];refine⟨Codec.one quq [x6],_,.inl rfl,?_⟩;conv=>whnf
   rw[show qea x2++qea [x6]=qea (x2++[x6])from Codec.append quq x2 [x6]];conv=>whnf
   obtain⟨h2,h⟩:=qaw h;refine⟨⟨Codec.wide quq (x2++[x6]),of_decide_eq_true h2,qdx h2 (by decide)⟩,?_⟩;conv=>whnf
   refine⟨⟨rfl,rfl,rfl⟩,?_⟩;conv=>whnf
   exact⟨((x2++[x6]),(IntKind.i64.wrap (x3+1))),h,wk [1] []⟩
  ·conv=>whnf
   refine⟨id,?_⟩;conv=>whnf
   refine⟨id,?_⟩;conv=>whnf
   refine ifc h (fun hc h=>?_) (fun hc h=>?_)
   ·conv=>whnf
    exact⟨(IntKind.u8.wrap (((x4.toNat:Nat):Int) - 32)),h,wk [0] []⟩
   ·conv=>whnf
    exact⟨((x4.toNat:Nat):Int),h,wk [0] []⟩
 ·conv=>whnf
  refine⟨_,rfl,?_⟩;obtain rfl:=sj h;conv=>whnf
  try exact fin
abbrev zbq (r:SS×Bool):PV:=PV.tup [PV.str r.1,PV.bool r.2]
def qnf (n:Nat) (x2:List SS) (x3:SS):(Int->Option (SS×Bool))->Int->Option (SS×Bool):=fun nx1 x4=>
 bif(decide (x4<((qam x2).length:Int)))then(
 bnd (idx x2 x4) fun x5=>
 bif(x5==x3)then(
 some (x3,true))
 else(
 nx1 (IntKind.i64.wrap (x4+1))))
 else(
 some (([]:SS),false))
def qqz (n:Nat) (x1:SS):Option (SS×Bool):=
 bnd (qu5 n) fun x2=>
 bnd (qs0 n x1) fun x3=>
 qap (qnf n x2 x3) n (0:Int)
theorem q0k (n:Nat):∀ (x1:SS) (r:SS×Bool),qqz n x1=some r->qae Tryz.prog 89 [PV.str x1] (zbq r):=by
 intro x1 r h;unfold qqz at h;refine qae.of_vcN qa3 (fun _ _=>Tryz.call89 _ _) Tryz.func89 (by kernel_rfl) (inl:=[1000000]) ?_;conv=>whnf
 replace h:=qaa h;obtain⟨x2,h3,h⟩:=h;refine⟨_,(q7b n _ h3),?_⟩;conv=>whnf
 replace h:=qaa h;obtain⟨x3,h2,h⟩:=h;refine⟨_,(q7a n _ _ h2),?_⟩;conv=>whnf
 refine qby.fn [1000000] (S:=Int) (fun x4=>[(4,pT x2),(5,pS x3),(6,pI x4)]) (fun x4=>[]) (B:=qnf n x2 x3) h (wk [] []) ?_;intro nx1 x4 h;unfold qnf at h;conv=>whnf
 refine ifc h (fun hc h=>?_) (fun hc h=>?_)
 ·conv=>whnf
  replace h:=qaa h;obtain⟨x5,h1,h⟩:=h;refine⟨_,Codec.at_ qqt h1,?_⟩;conv=>whnf
  refine ifc h (fun hc h=>?_) (fun hc h=>?_)
  ·obtain rfl:=sj h
   conv=>whnf
   try exact fin
  ·conv=>whnf
   exact⟨(IntKind.i64.wrap (x4+1)),h,wk [] []⟩
 ·obtain rfl:=sj h
  conv=>whnf
  try exact fin
abbrev q7q (r:Bool):PV:=PV.bool r
def qjk (n:Nat) (x1:SS):(Int->Option (Bool))->Int->Option (Bool):=fun nx1 x2=>
 bif(decide (x2<((x1.length:Nat):Int)))then(
 bnd (idx x1 x2) fun x3=>
 bnd (qa5 (!(decide (((x3.toNat:Nat):Int)<48))) (idx x1 x2)) fun x4=>
 bif(bif(decide (((x3.toNat:Nat):Int)<48))then true else(decide (((x4.toNat:Nat):Int)>57)))then(
 some false)
 else(
 nx1 (IntKind.i64.wrap (x2+1))))
 else(
 some (decide (((x1.length:Nat):Int)>0)))
def qtl (n:Nat) (x1:SS):Option (Bool):=
 qap (qjk n x1) n (0:Int)
theorem q41 (n:Nat):∀ (x1:SS) (r:Bool),qtl n x1=some r->qae Tryz.prog 118 [PV.str x1] (q7q r):=by
 intro x1 r h;unfold qtl at h;refine qae.of_vcN qa3 (fun _ _=>Tryz.call118 _ _) Tryz.func118 (by kernel_rfl) (inl:=[1000000]) ?_;conv=>whnf
 refine qby.fn [1000000] (S:=Int) (fun x2=>[(0,pS x1),(3,pI x2)]) (fun x2=>[]) (B:=qjk n x1) h (wk [] []) ?_;intro nx1 x2 h;unfold qjk at h;conv=>whnf
 refine ifc h (fun hc h=>?_) (fun hc h=>?_)
 ·conv=>whnf
  replace h:=qaa h;obtain⟨x3,h2,h⟩:=h;refine⟨_,qeb h2,?_⟩;conv=>whnf
  refine⟨id,id,?_⟩;conv=>whnf
  replace h:=qaa h;obtain⟨x4,h1,h⟩:=h;refine⟨_,fun hg=>qeb (qah h1 hg),?_⟩;conv=>whnf
  refine⟨id,id,?_⟩;conv=>whnf
  refine ifc h (fun hc h=>?_) (fun hc h=>?_)
  ·obtain rfl:=sj h
   conv=>whnf
   try exact fin
  ·conv=>whnf
   exact⟨(IntKind.i64.wrap (x2+1)),h,wk [] []⟩
 ·obtain rfl:=sj h
  conv=>whnf
  try exact fin
abbrev zdt (r:Int×Int):PV:=PV.tup [PV.int .i64 r.1,PV.int .i64 r.2]
def qwf (n:Nat) (x1 x2:Int):Option (Int×Int):=
 bif(bif(x1==0)then true else(x2==0))then(
 some ((0:Int),(0:Int)))
 else(
 bif(bif(bif(x1==(-1:Int))then(x2==(-9223372036854775808:Int))else false)then true else(bif(x2==(-1:Int))then(x1==(-9223372036854775808:Int))else false))then(
 some ((0:Int),(4:Int)))
 else(
 chk (decide (x2≠0)) (
 bif((IntKind.i64.wrap (Int.tdiv (IntKind.i64.wrap (x1 * x2)) x2)) != x1)then(
 some ((0:Int),(4:Int)))
 else(
 some ((IntKind.i64.wrap (x1 * x2)),(0:Int))))))
theorem zbf (n:Nat):∀ (x1 x2:Int) (r:Int×Int),qwf n x1 x2=some r->qae Tryz.prog 119 [PV.int .i64 x1,PV.int .i64 x2] (zdt r):=by
 intro x1 x2 r h;unfold qwf at h;refine qae.of_vcN qa3 (fun _ _=>Tryz.call119 _ _) Tryz.func119 (by kernel_rfl) (inl:=[1000000]) ?_;conv=>whnf
 refine⟨id,id,?_⟩;conv=>whnf
 refine ifc h (fun hc h=>?_) (fun hc h=>?_)
 ·obtain rfl:=sj h
  conv=>whnf
  try exact fin
 ·conv=>whnf
  refine⟨id,id,id,id,id,id,id,id,?_⟩;conv=>whnf
  refine ifc h (fun hc h=>?_) (fun hc h=>?_)
  ·obtain rfl:=sj h
   conv=>whnf
   try exact fin
  ·conv=>whnf
   obtain⟨h1,h⟩:=qaw h;refine⟨(of_decide_eq_true h1:x2≠0),?_⟩;conv=>whnf
   refine ifc h (fun hc h=>?_) (fun hc h=>?_)
   ·obtain rfl:=sj h
    conv=>whnf
    try exact fin
   ·obtain rfl:=sj h
    conv=>whnf
    try exact fin
abbrev zds (r:Int×Int):PV:=PV.tup [PV.int .i64 r.1,PV.int .i64 r.2]
def qwe (n:Nat) (x1 x2:Int):Option (Int×Int):=
 bif(bif(bif(decide (x2>0))then(decide (x1>(IntKind.i64.wrap ((9223372036854775807:Int) - x2))))else false)then true else(bif(decide (x2<0))then(decide (x1<(IntKind.i64.wrap ((-9223372036854775808:Int) - x2))))else false))then(
 some ((0:Int),(4:Int)))
 else(
 some ((IntKind.i64.wrap (x1+x2)),(0:Int)))
theorem zbe (n:Nat):∀ (x1 x2:Int) (r:Int×Int),qwe n x1 x2=some r->qae Tryz.prog 120 [PV.int .i64 x1,PV.int .i64 x2] (zds r):=by
 intro x1 x2 r h;unfold qwe at h;refine qae.of_vcN qa3 (fun _ _=>Tryz.call120 _ _) Tryz.func120 (by kernel_rfl) (inl:=[1000000]) ?_;conv=>whnf
 refine⟨id,id,id,id,id,id,id,id,id,id,id,id,?_⟩;conv=>whnf
 refine ifc h (fun hc h=>?_) (fun hc h=>?_)
 ·obtain rfl:=sj h
  conv=>whnf
  try exact fin
 ·obtain rfl:=sj h
  conv=>whnf
  try exact fin
abbrev q9w (r:Int×Int):PV:=PV.tup [PV.int .i64 r.1,PV.int .i64 r.2]
def qlh (n:Nat) (x7:Int) (nx1:Int×Int->Option (Int×Int)) (x6:Int):Int->Option (Int×Int):=fun x10=>
 bnd (qwe n x7 x10) fun⟨x11,x12⟩=>
 bif(x12 != 0)then(
 some ((0:Int),x12))
 else(
 nx1 (x11,(IntKind.i64.wrap (x6+1))))
def qli (n:Nat) (x2 x1:SS):(Int×Int->Option (Int×Int))->Int×Int->Option (Int×Int):=fun nx1 (x5,x6)=>
 bif(decide (x6<((x2.length:Nat):Int)))then(
 bnd (qwf n x5 (10:Int)) fun⟨x7,x8⟩=>
 bif(x8 != 0)then(
 some ((0:Int),x8))
 else(
 bnd (idx x2 x6) fun x9=>
 bif(decide (((x2.length:Nat):Int)<((x1.length:Nat):Int)))then(
 qlh n x7 nx1 x6 (IntKind.i64.wrap ((0:Int) - (IntKind.i64.wrap (IntKind.u8.wrap (((x9.toNat:Nat):Int) - 48))))))
 else(
 qlh n x7 nx1 x6 (IntKind.i64.wrap (IntKind.u8.wrap (((x9.toNat:Nat):Int) - 48))))))
 else(
 some (x5,(0:Int)))
def qlg (n:Nat) (x1:SS):SS->Option (Int×Int):=fun x2=>
 bnd (qtl n x2) fun x3=>
 bnd (qa5 (!(!x3)) (idx x2 (0:Int))) fun x4=>
 bif(bif(!x3)then true else(bif(((x4.toNat:Nat):Int)==48)then(!(x1==([48]:SS)))else false))then(
 some ((0:Int),(1:Int)))
 else(
 qap (qli n x2 x1) n ((0:Int),(0:Int)))
def qqx (n:Nat) (x1:SS):Option (Int×Int):=
 bnd (qa5 (decide (((x1.length:Nat):Int)>0)) (idx x1 (0:Int))) fun x13=>
 bif(bif(decide (((x1.length:Nat):Int)>0))then(((x13.toNat:Nat):Int)==45)else false)then(
 chk (decide (1<=x1.length)) (
 qlg n x1 (x1.drop 1)))
 else(
 qlg n x1 x1)
theorem q65 (n:Nat):∀ (x1:SS) (r:Int×Int),qqx n x1=some r->qae Tryz.prog 90 [PV.str x1] (q9w r):=by
 intro x1 r h;unfold qqx at h;refine qae.of_vcN qa3 (fun _ _=>Tryz.call90 _ _) Tryz.func90 (by kernel_rfl) (inl:=[1000000]) ?_;conv=>whnf
 refine qje.cut (S:=SS) (fun x2=>[(0,pS x1),(4,pS x2)]) (fun x2=>[]) (qlg n x1) (r:=r) ?_ ?_
 ·intro x2 h
  unfold qlg at h;conv=>whnf
  replace h:=qaa h;obtain⟨x3,h5,h⟩:=h;refine⟨_,(q41 n _ _ h5),?_⟩;conv=>whnf
  refine⟨id,?_⟩;conv=>whnf
  replace h:=qaa h;obtain⟨x4,h4,h⟩:=h;refine⟨_,fun hg=>qeb (qah h4 hg),?_⟩;conv=>whnf
  refine⟨id,id,id,id,id,id,?_⟩;conv=>whnf
  refine ifc h (fun hc h=>?_) (fun hc h=>?_)
  ·obtain rfl:=sj h
   conv=>whnf
   try exact fin
  ·conv=>whnf
   refine qby.fn [1000000] (S:=Int×Int) (fun(x5,x6)=>[(0,pS x1),(4,pS x2),(5,pI x5),(6,pI x6)]) (fun(x5,x6)=>[]) (B:=qli n x2 x1) h (wk [] []) ?_;intro nx1 st h;obtain⟨x5,x6⟩:=st;unfold qli at h;conv=>whnf
   refine ifc h (fun hc h=>?_) (fun hc h=>?_)
   ·conv=>whnf
    replace h:=qaa h;obtain⟨⟨x7,x8⟩,h3,h⟩:=h;refine⟨_,(zbf n _ _ _ h3),?_⟩;conv=>whnf
    refine ifc h (fun hc h=>?_) (fun hc h=>?_)
    ·obtain rfl:=sj h
     conv=>whnf
     try exact fin
    ·conv=>whnf
     replace h:=qaa h;obtain⟨x9,h2,h⟩:=h;refine⟨_,qeb h2,?_⟩;conv=>whnf
     refine qje.cut (S:=Int) (fun x10=>[(0,pS x1),(4,pS x2),(6,pI x6),(7,pI x7),(9,pI x10)]) (fun x10=>[]) (qlh n x7 nx1 x6) (r:=r) ?_ ?_
     ·intro x10 h
      unfold qlh at h;conv=>whnf
      replace h:=qaa h;obtain⟨⟨x11,x12⟩,h1,h⟩:=h;refine⟨_,(zbe n _ _ _ h1),?_⟩;conv=>whnf
      refine ifc h (fun hc h=>?_) (fun hc h=>?_)
      ·obtain rfl:=sj h
       conv=>whnf
       try exact fin
      ·conv=>whnf
       exact⟨(x11,(IntKind.i64.wrap (x6+1))),h,wk [] []⟩
     ·conv=>whnf
      refine ifc h (fun hc h=>?_) (fun hc h=>?_)
      ·conv=>whnf
       exact⟨(IntKind.i64.wrap ((0:Int) - (IntKind.i64.wrap (IntKind.u8.wrap (((x9.toNat:Nat):Int) - 48))))),h,wk [] []⟩
      ·conv=>whnf
       exact⟨(IntKind.i64.wrap (IntKind.u8.wrap (((x9.toNat:Nat):Int) - 48))),h,wk [] []⟩
   ·obtain rfl:=sj h
    conv=>whnf
    try exact fin
 ·conv=>whnf
  refine⟨id,?_⟩;conv=>whnf
  replace h:=qaa h;obtain⟨x13,h7,h⟩:=h;refine⟨_,fun hg=>qeb (qah h7 hg),?_⟩;conv=>whnf
  refine⟨id,id,?_⟩;conv=>whnf
  refine ifc h (fun hc h=>?_) (fun hc h=>?_)
  ·conv=>whnf
   refine⟨1,rfl,?_⟩;conv=>whnf
   obtain⟨h6,h⟩:=qaw h;refine⟨⟨(of_decide_eq_true h6:(1<=x1.length)),Nat.le_refl _⟩,?_⟩;rw[show List.drop 1 (List.take x1.length x1)=(x1.drop 1)from by rw[List.take_length]];conv=>whnf
   exact⟨(x1.drop 1),h,wk [] []⟩
  ·conv=>whnf
   exact⟨x1,h,wk [] []⟩
abbrev zbo (r:Bool):PV:=PV.bool r
def qqy (n:Nat) (x1:SS) (x2:Int):Option (Bool):=
 bnd (qa5 (decide (x2<((x1.length:Nat):Int))) (idx x1 x2)) fun x3=>
 bnd (qa5 (bif(decide (x2<((x1.length:Nat):Int)))then(decide (((x3.toNat:Nat):Int)≥128))else false) (idx x1 x2)) fun x4=>
 some (bif(bif(decide (x2<((x1.length:Nat):Int)))then(decide (((x3.toNat:Nat):Int)≥128))else false)then(decide (((x4.toNat:Nat):Int)<192))else false)
theorem qu4 (n:Nat):∀ (x1:SS) (x2:Int) (r:Bool),qqy n x1 x2=some r->qae Tryz.prog 127 [PV.str x1,PV.int .i64 x2] (zbo r):=by
 intro x1 x2 r h;unfold qqy at h;refine qae.of_vcN qa3 (fun _ _=>Tryz.call127 _ _) Tryz.func127 (by kernel_rfl) (inl:=[1000000]) ?_;conv=>whnf
 refine⟨id,id,?_⟩;conv=>whnf
 replace h:=qaa h;obtain⟨x3,h2,h⟩:=h;refine⟨_,fun hg=>qeb (qah h2 hg),?_⟩;conv=>whnf
 refine⟨id,id,id,id,?_⟩;conv=>whnf
 replace h:=qaa h;obtain⟨x4,h1,h⟩:=h;refine⟨_,fun hg=>qeb (qah h1 hg),?_⟩;conv=>whnf
 refine⟨id,id,?_⟩;obtain rfl:=sj h;conv=>whnf
 try exact fin
abbrev zbn (r:Int):PV:=PV.int .i64 r
def quh (n:Nat) (x1:SS) (x2:Int):Option (Int):=
 bif(decide (x2≥((x1.length:Nat):Int)))then(
 some (0:Int))
 else(
 bnd (idx x1 x2) fun x3=>
 bif(decide (((x3.toNat:Nat):Int)<128))then(
 some (1:Int))
 else(
 bnd (qa5 (!(bif(decide (((x3.toNat:Nat):Int)<194))then true else(decide (((x3.toNat:Nat):Int)>244)))) (qqy n x1 (IntKind.i64.wrap (x2+1)))) fun x4=>
 bif(bif(bif(decide (((x3.toNat:Nat):Int)<194))then true else(decide (((x3.toNat:Nat):Int)>244)))then true else(!x4))then(
 some (0:Int))
 else(
 bif(decide (((x3.toNat:Nat):Int)<224))then(
 some (2:Int))
 else(
 bnd (idx x1 (IntKind.i64.wrap (x2+1))) fun x5=>
 bnd (qqy n x1 (IntKind.i64.wrap (x2+2))) fun x6=>
 bif(bif(bif(!x6)then true else(bif(((x3.toNat:Nat):Int)==224)then(decide (((x5.toNat:Nat):Int)<160))else false))then true else(bif(((x3.toNat:Nat):Int)==237)then(decide (((x5.toNat:Nat):Int)≥160))else false))then(
 some (0:Int))
 else(
 bif(decide (((x3.toNat:Nat):Int)<240))then(
 some (3:Int))
 else(
 bnd (qqy n x1 (IntKind.i64.wrap (x2+3))) fun x7=>
 bif(bif(bif(!x7)then true else(bif(((x3.toNat:Nat):Int)==240)then(decide (((x5.toNat:Nat):Int)<144))else false))then true else(bif(((x3.toNat:Nat):Int)==244)then(decide (((x5.toNat:Nat):Int)≥144))else false))then(
 some (0:Int))
 else(
 some (4:Int))))))))
set_option maxHeartbeats 4000000 in
theorem q9c (n:Nat):∀ (x1:SS) (x2 r:Int),quh n x1 x2=some r->qae Tryz.prog 121 [PV.str x1,PV.int .i64 x2] (zbn r):=by
 intro x1 x2 r h;unfold quh at h;refine qae.of_vcN qa3 (fun _ _=>Tryz.call121 _ _) Tryz.func121 (by kernel_rfl) (inl:=[1000000]) ?_;conv=>whnf
 refine ifc h (fun hc h=>?_) (fun hc h=>?_)
 ·obtain rfl:=sj h
  conv=>whnf
  try exact fin
 ·conv=>whnf
  replace h:=qaa h;obtain⟨x3,h5,h⟩:=h;refine⟨_,qeb h5,?_⟩;conv=>whnf
  refine ifc h (fun hc h=>?_) (fun hc h=>?_)
  ·obtain rfl:=sj h
   conv=>whnf
   try exact fin
  ·conv=>whnf
   refine⟨id,id,id,id,id,?_⟩;conv=>whnf
   replace h:=qaa h;obtain⟨x4,h4,h⟩:=h;refine⟨_,fun hg=>(qu4 n _ _ _ (qah h4 hg)),?_⟩;conv=>whnf
   refine⟨id,id,?_⟩;conv=>whnf
   refine ifc h (fun hc h=>?_) (fun hc h=>?_)
   ·obtain rfl:=sj h
    conv=>whnf
    try exact fin
   ·conv=>whnf
    refine ifc h (fun hc h=>?_) (fun hc h=>?_)
    ·obtain rfl:=sj h
     conv=>whnf
     try exact fin
    ·conv=>whnf
     replace h:=qaa h;obtain⟨x5,h3,h⟩:=h;refine⟨_,qeb h3,?_⟩;conv=>whnf
     replace h:=qaa h;obtain⟨x6,h2,h⟩:=h;refine⟨_,(qu4 n _ _ _ h2),?_⟩;conv=>whnf
     refine⟨id,id,id,id,id,id,id,id,id,id,id,id,?_⟩;conv=>whnf
     refine ifc h (fun hc h=>?_) (fun hc h=>?_)
     ·obtain rfl:=sj h
      conv=>whnf
      try exact fin
     ·conv=>whnf
      refine ifc h (fun hc h=>?_) (fun hc h=>?_)
      ·obtain rfl:=sj h
       conv=>whnf
       try exact fin
      ·conv=>whnf
       replace h:=qaa h;obtain⟨x7,h1,h⟩:=h;refine⟨_,(qu4 n _ _ _ h1),?_⟩;conv=>whnf
       refine⟨id,id,id,id,id,id,id,id,id,id,id,id,?_⟩;conv=>whnf
       refine ifc h (fun hc h=>?_) (fun hc h=>?_)
       ·obtain rfl:=sj h
        conv=>whnf
        try exact fin
       ·obtain rfl:=sj h
        conv=>whnf
        try exact fin
abbrev zdv (r:Int):PV:=PV.int .i64 r
def qrp (n:Nat) (x1:Int):Option (Int):=
 bnd (qf1 n x1) fun x2=>
 bif x2 then(
 some (IntKind.i64.wrap (IntKind.u8.wrap (x1 - 48))))
 else(
 bif(bif(decide (x1≥97))then(decide (x1<=102))else false)then(
 some (IntKind.i64.wrap ((IntKind.i64.wrap (IntKind.u8.wrap (x1 - 97)))+10)))
 else(
 bif(bif(decide (x1≥65))then(decide (x1<=70))else false)then(
 some (IntKind.i64.wrap ((IntKind.i64.wrap (IntKind.u8.wrap (x1 - 65)))+10)))
 else(
 some (-1:Int))))
theorem qtm (n:Nat):∀ (x1 r:Int),qrp n x1=some r->qae Tryz.prog 122 [PV.int .u8 x1] (zdv r):=by
 intro x1 r h;unfold qrp at h;refine qae.of_vcN qa3 (fun _ _=>Tryz.call122 _ _) Tryz.func122 (by kernel_rfl) (inl:=[1000000]) ?_;conv=>whnf
 replace h:=qaa h;obtain⟨x2,h1,h⟩:=h;refine⟨_,(qog n _ _ h1),?_⟩;conv=>whnf
 refine ifc h (fun hc h=>?_) (fun hc h=>?_)
 ·obtain rfl:=sj h
  conv=>whnf
  try exact fin
 ·conv=>whnf
  refine⟨id,id,?_⟩;conv=>whnf
  refine ifc h (fun hc h=>?_) (fun hc h=>?_)
  ·obtain rfl:=sj h
   conv=>whnf
   try exact fin
  ·conv=>whnf
   refine⟨id,id,?_⟩;conv=>whnf
   refine ifc h (fun hc h=>?_) (fun hc h=>?_)
   ·obtain rfl:=sj h
    conv=>whnf
    try exact fin
   ·obtain rfl:=sj h
    conv=>whnf
    try exact fin
abbrev q7t (r:SS×Int×Bool):PV:=PV.tup [PV.str r.1,PV.int .i64 r.2.1,PV.bool r.2.2]
def qjo (n:Nat) (x4:SS) (x10:UInt8) (nx1:SS×Int->Option (SS×Int×Bool)) (x5:Int) (x1:SS):Bool->Option (SS×Int×Bool):=fun x11=>
 bif x11 then(
 chk (decide ((qea (x4++[x10])).length * 1<=140737488355328)) (
 nx1 ((x4++[x10]),(IntKind.i64.wrap (x5+2)))))
 else(
 bif(((x10.toNat:Nat):Int)==110)then(
 chk (decide ((qea (x4++[(10:UInt8)])).length * 1<=140737488355328)) (
 nx1 ((x4++[(10:UInt8)]),(IntKind.i64.wrap (x5+2)))))
 else(
 bif(((x10.toNat:Nat):Int)==116)then(
 chk (decide ((qea (x4++[(9:UInt8)])).length * 1<=140737488355328)) (
 nx1 ((x4++[(9:UInt8)]),(IntKind.i64.wrap (x5+2)))))
 else(
 bif(((x10.toNat:Nat):Int)==114)then(
 chk (decide ((qea (x4++[(13:UInt8)])).length * 1<=140737488355328)) (
 nx1 ((x4++[(13:UInt8)]),(IntKind.i64.wrap (x5+2)))))
 else(
 bif(((x10.toNat:Nat):Int)==120)then(
 bnd (qa5 (!(decide ((IntKind.i64.wrap ((IntKind.i64.wrap (x5+2))+1))≥((x1.length:Nat):Int)))) (idx x1 (IntKind.i64.wrap (x5+2)))) fun x12=>
 bnd (qa5 (!(decide ((IntKind.i64.wrap ((IntKind.i64.wrap (x5+2))+1))≥((x1.length:Nat):Int)))) (qrp n ((x12.toNat:Nat):Int))) fun x13=>
 bnd (qa5 (!(bif(decide ((IntKind.i64.wrap ((IntKind.i64.wrap (x5+2))+1))≥((x1.length:Nat):Int)))then true else(decide (x13<0)))) (idx x1 (IntKind.i64.wrap ((IntKind.i64.wrap (x5+2))+1)))) fun x14=>
 bnd (qa5 (!(bif(decide ((IntKind.i64.wrap ((IntKind.i64.wrap (x5+2))+1))≥((x1.length:Nat):Int)))then true else(decide (x13<0)))) (qrp n ((x14.toNat:Nat):Int))) fun x15=>
 bif(bif(bif(decide ((IntKind.i64.wrap ((IntKind.i64.wrap (x5+2))+1))≥((x1.length:Nat):Int)))then true else(decide (x13<0)))then true else(decide (x15<0)))then(
 some (([]:SS),(0:Int),false))
 else(
 bnd (idx x1 (IntKind.i64.wrap (x5+2))) fun x16=>
 bnd (qrp n ((x16.toNat:Nat):Int)) fun x17=>
 bnd (idx x1 (IntKind.i64.wrap ((IntKind.i64.wrap (x5+2))+1))) fun x18=>
 bnd (qrp n ((x18.toNat:Nat):Int)) fun x19=>
 bnd (u8I (IntKind.u8.wrap (IntKind.i64.wrap ((IntKind.i64.wrap (x17 * (16:Int)))+x19)))) fun x20=>
 chk (decide ((qea (x4++[x20])).length * 1<=140737488355328)) (
 nx1 ((x4++[x20]),(IntKind.i64.wrap ((IntKind.i64.wrap (x5+2))+2))))))
 else(
 some (([]:SS),(0:Int),false))))))
def qjp (n:Nat) (x1:SS):(SS×Int->Option (SS×Int×Bool))->SS×Int->Option (SS×Int×Bool):=fun nx1 (x4,x5)=>
 bif(decide (x5<((x1.length:Nat):Int)))then(
 bnd (idx x1 x5) fun x6=>
 bnd (quh n x1 x5) fun x7=>
 bif(((x6.toNat:Nat):Int)==39)then(
 some (x4,(IntKind.i64.wrap (x5+1)),true))
 else(
 bif(bif(bif(x7==0)then true else(decide (((x6.toNat:Nat):Int)<32)))then true else(((x6.toNat:Nat):Int)==127))then(
 some (([]:SS),(0:Int),false))
 else(
 bif(((x6.toNat:Nat):Int) != 92)then(
 bnd (qz9 (IntKind.i64.wrap (x5+x7))) fun x8=>
 bnd (qz9 x5) fun x9=>
 chk (decide (x9<=x8/\x8<=x1.length)) (
 chk (decide ((qea (x4++((x1.take x8).drop x9))).length * 1<=140737488355328)) (
 nx1 ((x4++((x1.take x8).drop x9)),(IntKind.i64.wrap (x5+x7))))))
 else(
 bif(decide ((IntKind.i64.wrap (x5+1))≥((x1.length:Nat):Int)))then(
 some (([]:SS),(0:Int),false))
 else(
 bnd (idx x1 (IntKind.i64.wrap (x5+1))) fun x10=>
 bif(((x10.toNat:Nat):Int)==92)then(
 qjo n x4 x10 nx1 x5 x1 (((x10.toNat:Nat):Int)==92))
 else(
 qjo n x4 x10 nx1 x5 x1 (((x10.toNat:Nat):Int)==39)))))))
 else(
 some (([]:SS),(0:Int),false))
def qrq (n:Nat) (x1:SS) (x2:Int):Option (SS×Int×Bool):=
 bnd (qa5 (!(decide (x2≥((x1.length:Nat):Int)))) (idx x1 x2)) fun x3=>
 bif(bif(decide (x2≥((x1.length:Nat):Int)))then true else(((x3.toNat:Nat):Int) != 39))then(
 some (([]:SS),(0:Int),false))
 else(
 qap (qjp n x1) n (([]:List _),(IntKind.i64.wrap (x2+1))))
set_option maxHeartbeats 4000000 in
theorem q44 (n:Nat):∀ (x1:SS) (x2:Int) (r:SS×Int×Bool),qrq n x1 x2=some r->qae Tryz.prog 91 [PV.str x1,PV.int .i64 x2] (q7t r):=by
 intro x1 x2 r h;unfold qrq at h;refine qae.of_vcN qa3 (fun _ _=>Tryz.call91 _ _) Tryz.func91 (by kernel_rfl) (inl:=[40000033,1000000]) ?_;conv=>whnf
 refine⟨id,id,?_⟩;conv=>whnf
 replace h:=qaa h;obtain⟨x3,h22,h⟩:=h;refine⟨_,fun hg=>qeb (qah h22 hg),?_⟩;conv=>whnf
 refine⟨id,id,?_⟩;conv=>whnf
 refine ifc h (fun hc h=>?_) (fun hc h=>?_)
 ·obtain rfl:=sj h
  conv=>whnf
  try exact fin
 ·conv=>whnf
  refine qby.fn [40000033,1000000] (S:=SS×Int) (fun(x4,x5)=>[(0,pS x1),(7,.tsl 0 (qea x4)),(8,pI x5)]) (fun(x4,x5)=>[.tail 5 1 (qea x4).length]) (B:=qjp n x1) h (wk [0] [0]) ?_;intro nx1 st h;obtain⟨x4,x5⟩:=st;unfold qjp at h;conv=>whnf
  refine ifc h (fun hc h=>?_) (fun hc h=>?_)
  ·conv=>whnf
   replace h:=qaa h;obtain⟨x6,h21,h⟩:=h;refine⟨_,qeb h21,?_⟩;conv=>whnf
   replace h:=qaa h;obtain⟨x7,h20,h⟩:=h;refine⟨_,(q9c n _ _ _ h20),?_⟩;conv=>whnf
   refine ifc h (fun hc h=>?_) (fun hc h=>?_)
   ·conv=>whnf
    refine⟨_,rfl,?_⟩;obtain rfl:=sj h;conv=>whnf
    try exact fin
   ·conv=>whnf
    refine⟨id,id,id,id,?_⟩;conv=>whnf
    refine ifc h (fun hc h=>?_) (fun hc h=>?_)
    ·obtain rfl:=sj h
     conv=>whnf
     try exact fin
    ·conv=>whnf
     refine ifc h (fun hc h=>?_) (fun hc h=>?_)
     ·conv=>whnf
      replace h:=qaa h;obtain⟨x8,h4,h⟩:=h;refine⟨_,qf0 h4,?_⟩;conv=>whnf
      replace h:=qaa h;obtain⟨x9,h3,h⟩:=h;refine⟨_,qf0 h3,?_⟩;conv=>whnf
      obtain⟨h2,h⟩:=qaw h;refine⟨⟨(of_decide_eq_true h2:(x9<=x8/\x8<=x1.length)).1,(of_decide_eq_true h2:(x9<=x8/\x8<=x1.length)).2⟩,?_⟩;conv=>whnf
      rw[show qea x4++qea ((x1.take x8).drop x9)=qea (x4++((x1.take x8).drop x9))from Codec.append quq x4 ((x1.take x8).drop x9)];conv=>whnf
      obtain⟨h1,h⟩:=qaw h;refine⟨⟨Codec.wide quq x4,of_decide_eq_true h1,qdx h1 (by decide)⟩,?_⟩;conv=>whnf
      refine⟨⟨rfl,rfl,rfl⟩,?_⟩;conv=>whnf
      exact⟨((x4++((x1.take x8).drop x9)),(IntKind.i64.wrap (x5+x7))),h,wk [1] []⟩
     ·conv=>whnf
      refine ifc h (fun hc h=>?_) (fun hc h=>?_)
      ·obtain rfl:=sj h
       conv=>whnf
       try exact fin
      ·conv=>whnf
       replace h:=qaa h;obtain⟨x10,h19,h⟩:=h;refine⟨_,qeb h19,?_⟩;conv=>whnf
       refine qje.cut (S:=Bool) (fun x11=>[(0,pS x1),(7,.tsl 0 (qea x4)),(8,.p (.int .i64 (IntKind.i64.wrap (x5+2)))),(11,.p (.int .u8 ((x10.toNat:Nat):Int))),(74,.p (.int .u8 ((x10.toNat:Nat):Int))),(75,pB x11)]) (fun x11=>[.tail 5 1 (qea x4).length]) (qjo n x4 x10 nx1 x5 x1) (r:=r) ?_ ?_
       ·intro x11 h
        unfold qjo at h;conv=>whnf
        refine ifc h (fun hc h=>?_) (fun hc h=>?_)
        ·conv=>whnf
         refine⟨Codec.one quq [x10],qea [x10],.inl rfl,?_⟩;conv=>whnf
         rw[show qea x4++qea [x10]=qea (x4++[x10])from Codec.append quq x4 [x10]];conv=>whnf
         obtain⟨h5,h⟩:=qaw h;refine⟨⟨Codec.wide quq (x4++[x10]),of_decide_eq_true h5,qdx h5 (by decide)⟩,?_⟩;conv=>whnf
         refine⟨⟨rfl,rfl,rfl⟩,?_⟩;conv=>whnf
         exact⟨((x4++[x10]),(IntKind.i64.wrap (x5+2))),h,wk [1] []⟩
        ·conv=>whnf
         refine ifc h (fun hc h=>?_) (fun hc h=>?_)
         ·conv=>whnf
          refine⟨Codec.one quq [(10:UInt8)],qea [(10:UInt8)],.inl rfl,?_⟩;conv=>whnf
          rw[show qea x4++qea [(10:UInt8)]=qea (x4++[(10:UInt8)])from Codec.append quq x4 [(10:UInt8)]];conv=>whnf
          obtain⟨h6,h⟩:=qaw h;refine⟨⟨Codec.wide quq (x4++[(10:UInt8)]),of_decide_eq_true h6,qdx h6 (by decide)⟩,?_⟩;conv=>whnf
          refine⟨⟨rfl,rfl,rfl⟩,?_⟩;conv=>whnf
          exact⟨((x4++[(10:UInt8)]),(IntKind.i64.wrap (x5+2))),h,wk [1] []⟩
         ·conv=>whnf
          refine ifc h (fun hc h=>?_) (fun hc h=>?_)
          ·conv=>whnf
           refine⟨Codec.one quq [(9:UInt8)],qea [(9:UInt8)],.inl rfl,?_⟩;conv=>whnf
           rw[show qea x4++qea [(9:UInt8)]=qea (x4++[(9:UInt8)])from Codec.append quq x4 [(9:UInt8)]];conv=>whnf
           obtain⟨h7,h⟩:=qaw h;refine⟨⟨Codec.wide quq (x4++[(9:UInt8)]),of_decide_eq_true h7,qdx h7 (by decide)⟩,?_⟩;conv=>whnf
           refine⟨⟨rfl,rfl,rfl⟩,?_⟩;conv=>whnf
           exact⟨((x4++[(9:UInt8)]),(IntKind.i64.wrap (x5+2))),h,wk [1] []⟩
          ·conv=>whnf
           refine ifc h (fun hc h=>?_) (fun hc h=>?_)
           ·conv=>whnf
            refine⟨Codec.one quq [(13:UInt8)],qea [(13:UInt8)],.inl rfl,?_⟩;conv=>whnf
            rw[show qea x4++qea [(13:UInt8)]=qea (x4++[(13:UInt8)])from Codec.append quq x4 [(13:UInt8)]];conv=>whnf
            obtain⟨h8,h⟩:=qaw h;refine⟨⟨Codec.wide quq (x4++[(13:UInt8)]),of_decide_eq_true h8,qdx h8 (by decide)⟩,?_⟩;conv=>whnf
            refine⟨⟨rfl,rfl,rfl⟩,?_⟩;conv=>whnf
            exact⟨((x4++[(13:UInt8)]),(IntKind.i64.wrap (x5+2))),h,wk [1] []⟩
           ·conv=>whnf
            refine ifc h (fun hc h=>?_) (fun hc h=>?_)
            ·conv=>whnf
             refine⟨id,id,?_⟩;conv=>whnf
             replace h:=qaa h;obtain⟨x12,h18,h⟩:=h;refine⟨_,fun hg=>qeb (qah h18 hg),?_⟩;conv=>whnf
             refine⟨id,?_⟩;conv=>whnf
             replace h:=qaa h;obtain⟨x13,h17,h⟩:=h;refine⟨_,fun hg=>(qtm n _ _ (qah h17 hg)),?_⟩;conv=>whnf
             refine⟨id,id,id,id,id,?_⟩;conv=>whnf
             replace h:=qaa h;obtain⟨x14,h16,h⟩:=h;refine⟨_,fun hg=>qeb (qah h16 hg),?_⟩;conv=>whnf
             refine⟨id,?_⟩;conv=>whnf
             replace h:=qaa h;obtain⟨x15,h15,h⟩:=h;refine⟨_,fun hg=>(qtm n _ _ (qah h15 hg)),?_⟩;conv=>whnf
             refine⟨id,id,?_⟩;conv=>whnf
             refine ifc h (fun hc h=>?_) (fun hc h=>?_)
             ·obtain rfl:=sj h
              conv=>whnf
              try exact fin
             ·conv=>whnf
              replace h:=qaa h;obtain⟨x16,h14,h⟩:=h;refine⟨_,qeb h14,?_⟩;conv=>whnf
              replace h:=qaa h;obtain⟨x17,h13,h⟩:=h;refine⟨_,(qtm n _ _ h13),?_⟩;conv=>whnf
              replace h:=qaa h;obtain⟨x18,h12,h⟩:=h;refine⟨_,qeb h12,?_⟩;conv=>whnf
              replace h:=qaa h;obtain⟨x19,h11,h⟩:=h;refine⟨_,(qtm n _ _ h11),?_⟩;conv=>whnf
              replace h:=qaa h;obtain⟨x20,h9,h⟩:=h;rw[show([[PV.int .u8 (IntKind.u8.wrap (IntKind.i64.wrap ((IntKind.i64.wrap (x17 * (16:Int)))+x19)))]]:List (List PV))=qea [x20]from by rw[zba h9]; rfl];refine⟨Codec.one quq [x20],_,.inl rfl,?_⟩;conv=>whnf
              rw[show qea x4++qea [x20]=qea (x4++[x20])from Codec.append quq x4 [x20]];conv=>whnf
              obtain⟨h10,h⟩:=qaw h;refine⟨⟨Codec.wide quq (x4++[x20]),of_decide_eq_true h10,qdx h10 (by decide)⟩,?_⟩;conv=>whnf
              refine⟨⟨rfl,rfl,rfl⟩,?_⟩;conv=>whnf
              exact⟨((x4++[x20]),(IntKind.i64.wrap ((IntKind.i64.wrap (x5+2))+2))),h,wk [1] []⟩
            ·obtain rfl:=sj h
             conv=>whnf
             try exact fin
       ·conv=>whnf
        refine ifc h (fun hc h=>?_) (fun hc h=>?_)
        ·conv=>whnf
         exact⟨(((x10.toNat:Nat):Int)==92),h,wk [0] []⟩
        ·conv=>whnf
         exact⟨(((x10.toNat:Nat):Int)==39),h,wk [0] []⟩
  ·obtain rfl:=sj h
   conv=>whnf
   try exact fin
abbrev zbr (r:SS):PV:=PV.str r
def qnh (n:Nat) (x1:SS) (x4 x5:Nat):(Int->Option SS)->Int->Option SS:=fun nx1 x6=>
 bif(decide (x6<((([40,41,91,93,123,125,44,58,46,43,45,42,47,37,61,60,62,36]:SS).length:Nat):Int)))then(
 bnd (qz9 (IntKind.i64.wrap (x6+1))) fun x7=>
 bnd (qz9 x6) fun x8=>
 chk (decide (x8<=x7/\x7<=([40,41,91,93,123,125,44,58,46,43,45,42,47,37,61,60,62,36]:SS).length)) (
 bif(((([40,41,91,93,123,125,44,58,46,43,45,42,47,37,61,60,62,36]:SS).take x7).drop x8)==((x1.take x4).drop x5))then(
 some ((x1.take x4).drop x5))
 else(
 nx1 (IntKind.i64.wrap (x6+1)))))
 else(
 some ([]:SS))
def qng (n:Nat) (x2:Int) (x1:SS):SS->Option SS:=fun x3=>
 bif(bif(bif(x3==([60,61]:SS))then true else(x3==([62,61]:SS)))then true else(x3==([60,62]:SS)))then(
 some x3)
 else(
 bnd (qz9 (IntKind.i64.wrap (x2+1))) fun x4=>
 bnd (qz9 x2) fun x5=>
 chk (decide (x5<=x4/\x4<=x1.length)) (
 qap (qnh n x1 x4 x5) n (0:Int)))
def qui (n:Nat) (x1:SS) (x2:Int):Option SS:=
 bif(decide ((IntKind.i64.wrap (x2+1))<((x1.length:Nat):Int)))then(
 bnd (qz9 (IntKind.i64.wrap (x2+2))) fun x9=>
 bnd (qz9 x2) fun x10=>
 chk (decide (x10<=x9/\x9<=x1.length)) (
 qng n x2 x1 ((x1.take x9).drop x10)))
 else(
 qng n x2 x1 ([]:SS))
theorem q9e (n:Nat):∀ (x1:SS) (x2:Int) (r:SS),qui n x1 x2=some r->qae Tryz.prog 92 [PV.str x1,PV.int .i64 x2] (zbr r):=by
 intro x1 x2 r h;unfold qui at h;refine qae.of_vcN qa3 (fun _ _=>Tryz.call92 _ _) Tryz.func92 (by kernel_rfl) (inl:=[1000000]) ?_;conv=>whnf
 refine qje.cut (S:=SS) (fun x3=>[(0,pS x1),(1,pI x2),(5,pS x3)]) (fun x3=>[]) (qng n x2 x1) (r:=r) ?_ ?_
 ·intro x3 h
  unfold qng at h;conv=>whnf
  refine⟨id,id,id,id,?_⟩;conv=>whnf
  refine ifc h (fun hc h=>?_) (fun hc h=>?_)
  ·obtain rfl:=sj h
   conv=>whnf
   try exact fin
  ·conv=>whnf
   replace h:=qaa h;obtain⟨x4,h6,h⟩:=h;refine⟨_,qf0 h6,?_⟩;conv=>whnf
   replace h:=qaa h;obtain⟨x5,h5,h⟩:=h;refine⟨_,qf0 h5,?_⟩;conv=>whnf
   obtain⟨h4,h⟩:=qaw h;refine⟨⟨(of_decide_eq_true h4:(x5<=x4/\x4<=x1.length)).1,(of_decide_eq_true h4:(x5<=x4/\x4<=x1.length)).2⟩,?_⟩;conv=>whnf
   refine qby.fn [1000000] (S:=Int) (fun x6=>[(6,.p (.str ((x1.take x4).drop x5))),(7,.p (.str ([40,41,91,93,123,125,44,58,46,43,45,42,47,37,61,60,62,36]:SS))),(8,pI x6)]) (fun x6=>[]) (B:=qnh n x1 x4 x5) h (wk [] []) ?_;intro nx1 x6 h;unfold qnh at h;conv=>whnf
   refine ifc h (fun hc h=>?_) (fun hc h=>?_)
   ·conv=>whnf
    replace h:=qaa h;obtain⟨x7,h3,h⟩:=h;refine⟨_,qf0 h3,?_⟩;conv=>whnf
    replace h:=qaa h;obtain⟨x8,h2,h⟩:=h;refine⟨_,qf0 h2,?_⟩;conv=>whnf
    obtain⟨h1,h⟩:=qaw h;refine⟨⟨(of_decide_eq_true h1:(x8<=x7/\x7<=([40,41,91,93,123,125,44,58,46,43,45,42,47,37,61,60,62,36]:SS).length)).1,(of_decide_eq_true h1:(x8<=x7/\x7<=([40,41,91,93,123,125,44,58,46,43,45,42,47,37,61,60,62,36]:SS).length)).2⟩,?_⟩;conv=>whnf
    refine ifc h (fun hc h=>?_) (fun hc h=>?_)
    ·obtain rfl:=sj h
     conv=>whnf
     try exact fin
    ·conv=>whnf
     exact⟨(IntKind.i64.wrap (x6+1)),h,wk [] []⟩
   ·obtain rfl:=sj h
    conv=>whnf
    try exact fin
 ·conv=>whnf
  refine ifc h (fun hc h=>?_) (fun hc h=>?_)
  ·conv=>whnf
   replace h:=qaa h;obtain⟨x9,h9,h⟩:=h;refine⟨_,qf0 h9,?_⟩;conv=>whnf
   replace h:=qaa h;obtain⟨x10,h8,h⟩:=h;refine⟨_,qf0 h8,?_⟩;conv=>whnf
   obtain⟨h7,h⟩:=qaw h;refine⟨⟨(of_decide_eq_true h7:(x10<=x9/\x9<=x1.length)).1,(of_decide_eq_true h7:(x10<=x9/\x9<=x1.length)).2⟩,?_⟩;conv=>whnf
   exact⟨((x1.take x9).drop x10),h,wk [] []⟩
  ·conv=>whnf
   exact⟨([]:SS),h,wk [] []⟩
abbrev zdw (r:qaj×Int×Int):PV:=PV.tup [PV.agg (qr3.cells r.1),PV.int .i64 r.2.1,PV.int .i64 r.2.2]
def qe3 (n:Nat) (x2:Int):Int×Int×SS×Int->Option (qaj×Int×Int):=fun(x4,x5,x6,x7)=>
 some (qaj.mk x5 x6 x7 x2,x4,(0:Int))
def qmo (n:Nat) (x1:SS) (x2:Int):(Int->Option (qaj×Int×Int))->Int->Option (qaj×Int×Int):=fun nx1 x9=>
 bnd (qa5 (decide (x9<((x1.length:Nat):Int))) (idx x1 x9)) fun x10=>
 bnd (qa5 (decide (x9<((x1.length:Nat):Int))) (qga n ((x10.toNat:Nat):Int))) fun x11=>
 bnd (qa5 ((decide (x9<((x1.length:Nat):Int)))&&(!x11)) (idx x1 x9)) fun x12=>
 bnd (qa5 ((decide (x9<((x1.length:Nat):Int)))&&(!x11)) (qf1 n ((x12.toNat:Nat):Int))) fun x13=>
 bif(bif(decide (x9<((x1.length:Nat):Int)))then(bif x11 then true else x13)else false)then(
 nx1 (IntKind.i64.wrap (x9+1)))
 else(
 bif(decide ((IntKind.i64.wrap (x9 - x2))>64))then(
 some (qaj.mk (0:Int) ([]:SS) (0:Int) x2,(0:Int),(1:Int)))
 else(
 bnd (qz9 x9) fun x14=>
 bnd (qz9 x2) fun x15=>
 chk (decide (x15<=x14/\x14<=x1.length)) (
 bnd (qqz n ((x1.take x14).drop x15)) fun⟨x16,x17⟩=>
 bnd (qz9 x9) fun x18=>
 bnd (qz9 x2) fun x19=>
 chk (decide (x19<=x18/\x18<=x1.length)) (
 bif x17 then(
 qe3 n x2 (x9,(2:Int),x16,(0:Int)))
 else(
 qe3 n x2 (x9,(1:Int),((x1.take x18).drop x19),(0:Int)))))))
def qmp (n:Nat) (x1:SS) (x2:Int):(Int->Option (qaj×Int×Int))->Int->Option (qaj×Int×Int):=fun nx2 x21=>
 bnd (qa5 (decide (x21<((x1.length:Nat):Int))) (idx x1 x21)) fun x22=>
 bnd (qa5 (decide (x21<((x1.length:Nat):Int))) (qf1 n ((x22.toNat:Nat):Int))) fun x23=>
 bif(bif(decide (x21<((x1.length:Nat):Int)))then x23 else false)then(
 nx2 (IntKind.i64.wrap (x21+1)))
 else(
 bnd (qz9 x21) fun x24=>
 bnd (qz9 x2) fun x25=>
 chk (decide (x25<=x24/\x24<=x1.length)) (
 bnd (qqx n ((x1.take x24).drop x25)) fun⟨x26,x27⟩=>
 bif(x27 != 0)then(
 some (qaj.mk (0:Int) ([]:SS) (0:Int) x2,(0:Int),x27))
 else(
 qe3 n x2 (x21,(3:Int),([]:SS),x26))))
def qwg (n:Nat) (x1:SS) (x2:Int):Option (qaj×Int×Int):=
 bnd (idx x1 x2) fun x3=>
 bnd (qga n ((x3.toNat:Nat):Int)) fun x8=>
 bif x8 then(
 qap (qmo n x1 x2) n (IntKind.i64.wrap (x2+1)))
 else(
 bnd (qf1 n ((x3.toNat:Nat):Int)) fun x20=>
 bif x20 then(
 qap (qmp n x1 x2) n (IntKind.i64.wrap (x2+1)))
 else(
 bif(((x3.toNat:Nat):Int)==39)then(
 bnd (qrq n x1 x2) fun⟨x28,x29,x30⟩=>
 bif(!x30)then(
 some (qaj.mk (0:Int) ([]:SS) (0:Int) x2,(0:Int),(1:Int)))
 else(
 qe3 n x2 (x29,(4:Int),x28,(0:Int))))
 else(
 bnd (qui n x1 x2) fun x31=>
 bif(x31==([]:SS))then(
 some (qaj.mk (5:Int) x31 (0:Int) x2,(0:Int),(1:Int)))
 else(
 qe3 n x2 ((IntKind.i64.wrap (x2+((x31.length:Nat):Int))),(5:Int),x31,(0:Int))))))
set_option maxHeartbeats 4000000 in
theorem zbi (n:Nat):∀ (x1:SS) (x2:Int) (r:qaj×Int×Int),qwg n x1 x2=some r->qae Tryz.prog 47 [PV.str x1,PV.int .i64 x2] (zdw r):=by
 intro x1 x2 r h;unfold qwg at h;refine qae.of_vcN qa3 (fun _ _=>Tryz.call47 _ _) Tryz.func47 (by kernel_rfl) (inl:=[1000000]) ?_;conv=>whnf
 replace h:=qaa h;obtain⟨x3,h22,h⟩:=h;refine⟨_,qeb h22,?_⟩;conv=>whnf
 refine qje.cut (S:=Int×Int×SS×Int) (fun(x4,x5,x6,x7)=>[(4,.ptr 0 0),(7,.ptr 1 0),(9,pI x4)]) (fun(x4,x5,x6,x7)=>[.box 87 [.p (.int .i64 (0:Int)),.p (.str ([]:SS)),.p (.int .i64 (0:Int)),.p (.int .i64 (0:Int))],.box 87 [pI x5,pS x6,pI x7,pI x2]]) (qe3 n x2) (r:=r) ?_ ?_
 ·intro st h
  obtain⟨x4,x5,x6,x7⟩:=st;unfold qe3 at h;obtain rfl:=sj h;conv=>whnf
  try exact fin
 ·conv=>whnf
  replace h:=qaa h;obtain⟨x8,h21,h⟩:=h;refine⟨_,(qp7 n _ _ h21),?_⟩;conv=>whnf
  refine ifc h (fun hc h=>?_) (fun hc h=>?_)
  ·conv=>whnf
   refine qby.fn [1000000] (S:=Int) (fun x9=>[(0,pS x1),(1,pI x2),(4,.ptr 0 0),(7,.ptr 1 0),(9,pI x9)]) (fun x9=>[.box 87 [.p (.int .i64 (0:Int)),.p (.str ([]:SS)),.p (.int .i64 (0:Int)),.p (.int .i64 (0:Int))],.box 87 [.p (.int .i64 (0:Int)),.p (.str ([]:SS)),.p (.int .i64 (0:Int)),pI x2]]) (B:=qmo n x1 x2) h (wk [0,1] []) ?_;intro nx1 x9 h;unfold qmo at h;conv=>whnf
   refine⟨id,id,?_⟩;conv=>whnf
   replace h:=qaa h;obtain⟨x10,h11,h⟩:=h;refine⟨_,fun hg=>qeb (qah h11 hg),?_⟩;conv=>whnf
   refine⟨id,?_⟩;conv=>whnf
   replace h:=qaa h;obtain⟨x11,h10,h⟩:=h;refine⟨_,fun hg=>(qp7 n _ _ (qah h10 hg)),?_⟩;conv=>whnf
   refine⟨id,id,id,?_⟩;conv=>whnf
   replace h:=qaa h;obtain⟨x12,h9,h⟩:=h;refine⟨_,fun hg=>qeb (qah h9 hg),?_⟩;conv=>whnf
   refine⟨id,?_⟩;conv=>whnf
   replace h:=qaa h;obtain⟨x13,h8,h⟩:=h;refine⟨_,fun hg=>(qog n _ _ (qah h8 hg)),?_⟩;conv=>whnf
   refine⟨id,id,id,?_⟩;conv=>whnf
   refine ifc h (fun hc h=>?_) (fun hc h=>?_)
   ·conv=>whnf
    exact⟨(IntKind.i64.wrap (x9+1)),h,wk [0,1] []⟩
   ·conv=>whnf
    refine ifc h (fun hc h=>?_) (fun hc h=>?_)
    ·obtain rfl:=sj h
     conv=>whnf
     try exact fin
    ·conv=>whnf
     replace h:=qaa h;obtain⟨x14,h7,h⟩:=h;refine⟨_,qf0 h7,?_⟩;conv=>whnf
     replace h:=qaa h;obtain⟨x15,h6,h⟩:=h;refine⟨_,qf0 h6,?_⟩;conv=>whnf
     obtain⟨h5,h⟩:=qaw h;refine⟨⟨(of_decide_eq_true h5:(x15<=x14/\x14<=x1.length)).1,(of_decide_eq_true h5:(x15<=x14/\x14<=x1.length)).2⟩,?_⟩;conv=>whnf
     replace h:=qaa h;obtain⟨⟨x16,x17⟩,h4,h⟩:=h;refine⟨_,(q0k n _ _ h4),?_⟩;conv=>whnf
     replace h:=qaa h;obtain⟨x18,h3,h⟩:=h;refine⟨_,qf0 h3,?_⟩;conv=>whnf
     replace h:=qaa h;obtain⟨x19,h2,h⟩:=h;refine⟨_,qf0 h2,?_⟩;conv=>whnf
     obtain⟨h1,h⟩:=qaw h;refine⟨⟨(of_decide_eq_true h1:(x19<=x18/\x18<=x1.length)).1,(of_decide_eq_true h1:(x19<=x18/\x18<=x1.length)).2⟩,?_⟩;conv=>whnf
     refine ifc h (fun hc h=>?_) (fun hc h=>?_)
     ·conv=>whnf
      exact⟨(x9,(2:Int),x16,(0:Int)),h,wk [0,1] []⟩
     ·conv=>whnf
      exact⟨(x9,(1:Int),((x1.take x18).drop x19),(0:Int)),h,wk [0,1] []⟩
  ·conv=>whnf
   replace h:=qaa h;obtain⟨x20,h20,h⟩:=h;refine⟨_,(qog n _ _ h20),?_⟩;conv=>whnf
   refine ifc h (fun hc h=>?_) (fun hc h=>?_)
   ·conv=>whnf
    refine qby.fn [1000000] (S:=Int) (fun x21=>[(0,pS x1),(1,pI x2),(4,.ptr 0 0),(7,.ptr 1 0),(9,pI x21)]) (fun x21=>[.box 87 [.p (.int .i64 (0:Int)),.p (.str ([]:SS)),.p (.int .i64 (0:Int)),.p (.int .i64 (0:Int))],.box 87 [.p (.int .i64 (0:Int)),.p (.str ([]:SS)),.p (.int .i64 (0:Int)),pI x2]]) (B:=qmp n x1 x2) h (wk [0,1] []) ?_;intro nx2 x21 h;unfold qmp at h;conv=>whnf
    refine⟨id,id,?_⟩;conv=>whnf
    replace h:=qaa h;obtain⟨x22,h17,h⟩:=h;refine⟨_,fun hg=>qeb (qah h17 hg),?_⟩;conv=>whnf
    refine⟨id,?_⟩;conv=>whnf
    replace h:=qaa h;obtain⟨x23,h16,h⟩:=h;refine⟨_,fun hg=>(qog n _ _ (qah h16 hg)),?_⟩;conv=>whnf
    refine⟨id,?_⟩;conv=>whnf
    refine ifc h (fun hc h=>?_) (fun hc h=>?_)
    ·conv=>whnf
     exact⟨(IntKind.i64.wrap (x21+1)),h,wk [0,1] []⟩
    ·conv=>whnf
     replace h:=qaa h;obtain⟨x24,h15,h⟩:=h;refine⟨_,qf0 h15,?_⟩;conv=>whnf
     replace h:=qaa h;obtain⟨x25,h14,h⟩:=h;refine⟨_,qf0 h14,?_⟩;conv=>whnf
     obtain⟨h13,h⟩:=qaw h;refine⟨⟨(of_decide_eq_true h13:(x25<=x24/\x24<=x1.length)).1,(of_decide_eq_true h13:(x25<=x24/\x24<=x1.length)).2⟩,?_⟩;conv=>whnf
     replace h:=qaa h;obtain⟨⟨x26,x27⟩,h12,h⟩:=h;refine⟨_,(q65 n _ _ h12),?_⟩;conv=>whnf
     refine ifc h (fun hc h=>?_) (fun hc h=>?_)
     ·obtain rfl:=sj h
      conv=>whnf
      try exact fin
     ·conv=>whnf
      exact⟨(x21,(3:Int),([]:SS),x26),h,wk [0,1] []⟩
   ·conv=>whnf
    refine ifc h (fun hc h=>?_) (fun hc h=>?_)
    ·conv=>whnf
     replace h:=qaa h;obtain⟨⟨x28,x29,x30⟩,h18,h⟩:=h;refine⟨_,(q44 n _ _ _ h18),?_⟩;conv=>whnf
     refine ifc h (fun hc h=>?_) (fun hc h=>?_)
     ·obtain rfl:=sj h
      conv=>whnf
      try exact fin
     ·conv=>whnf
      exact⟨(x29,(4:Int),x28,(0:Int)),h,wk [0,1] []⟩
    ·conv=>whnf
     replace h:=qaa h;obtain⟨x31,h19,h⟩:=h;refine⟨_,(q9e n _ _ _ h19),?_⟩;conv=>whnf
     refine ifc h (fun hc h=>?_) (fun hc h=>?_)
     ·obtain rfl:=sj h
      conv=>whnf
      try exact fin
     ·conv=>whnf
      exact⟨((IntKind.i64.wrap (x2+((x31.length:Nat):Int))),(5:Int),x31,(0:Int)),h,wk [0,1] []⟩
abbrev zbp (r:List qaj×Int×Int):PV:=PV.tup [PV.sl (qaj.rows r.1),PV.int .i64 r.2.1,PV.int .i64 r.2.2]
def qnd (n:Nat) (x2:List qaj) (x4:Int) (nx1:List qaj×Int->Option (List qaj×Int×Int)):Int×Int×SS×Int×Int->Option (List qaj×Int×Int):=fun(x9,x10,x11,x12,x13)=>
 bif(decide (((qaj.rows x2).length:Int)≥4096))then(
 some (([]:List qaj),x4,(8:Int)))
 else(
 chk (decide ((qaj.rows (x2++[qaj.mk x10 x11 x12 x13])).length * 40<=140737488355328)) (
 bif(x10==6)then(
 some ((x2++[qaj.mk x10 x11 x12 x13]),(0:Int),(0:Int)))
 else(
 nx1 ((x2++[qaj.mk x10 x11 x12 x13]),x9))))
def qkr (n:Nat) (x1:SS) (x2:List qaj) (nx1:List qaj×Int->Option (List qaj×Int×Int)):(Int->Option (List qaj×Int×Int))->Int->Option (List qaj×Int×Int):=fun nx2 x4=>
 bnd (qa5 (decide (x4<((x1.length:Nat):Int))) (idx x1 x4)) fun x5=>
 bnd (qa5 ((decide (x4<((x1.length:Nat):Int)))&&(!(((x5.toNat:Nat):Int)==32))) (idx x1 x4)) fun x6=>
 bnd (qa5 ((decide (x4<((x1.length:Nat):Int)))&&(!(bif(((x5.toNat:Nat):Int)==32)then true else(((x6.toNat:Nat):Int)==9)))) (idx x1 x4)) fun x7=>
 bnd (qa5 ((decide (x4<((x1.length:Nat):Int)))&&(!(bif(bif(((x5.toNat:Nat):Int)==32)then true else(((x6.toNat:Nat):Int)==9))then true else(((x7.toNat:Nat):Int)==10)))) (idx x1 x4)) fun x8=>
 bif(bif(decide (x4<((x1.length:Nat):Int)))then(bif(bif(bif(((x5.toNat:Nat):Int)==32)then true else(((x6.toNat:Nat):Int)==9))then true else(((x7.toNat:Nat):Int)==10))then true else(((x8.toNat:Nat):Int)==13))else false)then(
 nx2 (IntKind.i64.wrap (x4+1)))
 else(
 bif(decide (x4<((x1.length:Nat):Int)))then(
 bnd (qwg n x1 x4) fun⟨⟨x14,x15,x16,x17⟩,x18,x19⟩=>
 bif(x19 != 0)then(
 some (([]:List qaj),x4,x19))
 else(
 qnd n x2 x4 nx1 (x18,x14,x15,x16,x17)))
 else(
 qnd n x2 x4 nx1 (x4,(6:Int),([]:SS),(0:Int),x4)))
def qne (n:Nat) (x1:SS):(List qaj×Int->Option (List qaj×Int×Int))->List qaj×Int->Option (List qaj×Int×Int):=fun nx1 (x2,x3)=>
 qap (qkr n x1 x2 nx1) n x3
def qsp (n:Nat) (x1:SS):Option (List qaj×Int×Int):=
 bif(decide (((x1.length:Nat):Int)>16384))then(
 some (([]:List qaj),(0:Int),(8:Int)))
 else(
 qap (qne n x1) n (([]:List _),(0:Int)))
set_option maxHeartbeats 4000000 in
theorem q9d (n:Nat):∀ (x1:SS) (r:List qaj×Int×Int),qsp n x1=some r->qae Tryz.prog 25 [PV.str x1] (zbp r):=by
 intro x1 r h;unfold qsp at h;refine qae.of_vcN qa3 (fun _ _=>Tryz.call25 _ _) Tryz.func25 (by kernel_rfl) (inl:=[1000000]) ?_;conv=>whnf
 refine ifc h (fun hc h=>?_) (fun hc h=>?_)
 ·obtain rfl:=sj h
  conv=>whnf
  try exact fin
 ·conv=>whnf
  refine qby.fn [1000000] (S:=List qaj×Int) (fun(x2,x3)=>[(0,pS x1),(5,.tsl 0 (qaj.rows x2)),(6,pI x3)]) (fun(x2,x3)=>[.tail 87 4 (qaj.rows x2).length]) (B:=qne n x1) h (wk [0] [0]) ?_;intro nx1 st h;obtain⟨x2,x3⟩:=st;unfold qne at h;conv=>whnf
  refine qby.fn [1000000] (S:=Int) (fun x4=>[(0,pS x1),(5,.tsl 0 (qaj.rows x2)),(6,pI x4)]) (fun x4=>[.tail 87 4 (qaj.rows x2).length]) (B:=qkr n x1 x2 nx1) h (wk [0] []) ?_;intro nx2 x4 h;unfold qkr at h;conv=>whnf
  refine⟨id,id,?_⟩;conv=>whnf
  replace h:=qaa h;obtain⟨x5,h6,h⟩:=h;refine⟨_,fun hg=>qeb (qah h6 hg),?_⟩;conv=>whnf
  refine⟨id,id,id,id,?_⟩;conv=>whnf
  replace h:=qaa h;obtain⟨x6,h5,h⟩:=h;refine⟨_,fun hg=>qeb (qah h5 hg),?_⟩;conv=>whnf
  refine⟨id,id,id,id,id,id,?_⟩;conv=>whnf
  replace h:=qaa h;obtain⟨x7,h4,h⟩:=h;refine⟨_,fun hg=>qeb (qah h4 hg),?_⟩;conv=>whnf
  refine⟨id,id,id,id,id,id,?_⟩;conv=>whnf
  replace h:=qaa h;obtain⟨x8,h3,h⟩:=h;refine⟨_,fun hg=>qeb (qah h3 hg),?_⟩;conv=>whnf
  refine⟨id,id,id,id,?_⟩;conv=>whnf
  refine ifc h (fun hc h=>?_) (fun hc h=>?_)
  ·conv=>whnf
   exact⟨(IntKind.i64.wrap (x4+1)),h,wk [0] []⟩
  ·conv=>whnf
   refine qje.cut (S:=Int×Int×SS×Int×Int) (fun(x9,x10,x11,x12,x13)=>[(0,pS x1),(5,.tsl 0 (qaj.rows x2)),(6,pI x4),(7,.ptr 1 0),(8,pI x9)]) (fun(x9,x10,x11,x12,x13)=>[.tail 87 4 (qaj.rows x2).length,.box 87 [pI x10,pS x11,pI x12,pI x13]]) (qnd n x2 x4 nx1) (r:=r) ?_ ?_
   ·intro st h
    obtain⟨x9,x10,x11,x12,x13⟩:=st;unfold qnd at h;conv=>whnf
    refine ifc h (fun hc h=>?_) (fun hc h=>?_)
    ·obtain rfl:=sj h
     conv=>whnf
     try exact fin
    ·conv=>whnf
     refine⟨Codec.one qr3 [qaj.mk x10 x11 x12 x13],qaj.rows [qaj.mk x10 x11 x12 x13],.inl rfl,?_⟩;conv=>whnf
     rw[show qaj.rows x2++qaj.rows [qaj.mk x10 x11 x12 x13]=qaj.rows (x2++[qaj.mk x10 x11 x12 x13])from Codec.append qr3 x2 [qaj.mk x10 x11 x12 x13]];conv=>whnf
     obtain⟨h1,h⟩:=qaw h;refine⟨⟨Codec.wide qr3 (x2++[qaj.mk x10 x11 x12 x13]),of_decide_eq_true h1,qdx h1 (by decide)⟩,?_⟩;conv=>whnf
     refine⟨⟨rfl,rfl,rfl⟩,?_⟩;conv=>whnf
     refine ifc h (fun hc h=>?_) (fun hc h=>?_)
     ·obtain rfl:=sj h
      conv=>whnf
      try exact fin
     ·conv=>whnf
      exact⟨((x2++[qaj.mk x10 x11 x12 x13]),x9),h,wk [2] []⟩
   ·conv=>whnf
    refine ifc h (fun hc h=>?_) (fun hc h=>?_)
    ·conv=>whnf
     replace h:=qaa h;obtain⟨⟨⟨x14,x15,x16,x17⟩,x18,x19⟩,h2,h⟩:=h;refine⟨_,(zbi n _ _ _ h2),?_⟩;conv=>whnf
     refine ifc h (fun hc h=>?_) (fun hc h=>?_)
     ·obtain rfl:=sj h
      conv=>whnf
      try exact fin
     ·conv=>whnf
      exact⟨(x18,x14,x15,x16,x17),h,wk [0,1] []⟩
    ·conv=>whnf
     exact⟨(x4,(6:Int),([]:SS),(0:Int),x4),h,wk [0,1] []⟩
abbrev q7u (r:Bool):PV:=PV.bool r
def qpg (n:Nat) (x1:Int):Option (Bool):=
 some (bif(bif(bif(bif(x1==4)then true else(x1==5))then true else(x1==6))then true else(x1==7))then true else(x1==8))
theorem qwh (n:Nat):∀ (x1:Int) (r:Bool),qpg n x1=some r->qae Tryz.prog 26 [PV.int .i64 x1] (q7u r):=by
 intro x1 r h;unfold qpg at h;refine qae.of_vcN qa3 (fun _ _=>Tryz.call26 _ _) Tryz.func26 (by kernel_rfl) (inl:=[1000000]) ?_;conv=>whnf
 refine⟨id,id,id,id,id,id,id,id,?_⟩;obtain rfl:=sj h;conv=>whnf
 try exact fin
abbrev zbu (x2:List qaj) (x3:Int) (x4 r:Bool):FV:=pB r
abbrev zbk (x2:List qaj) (x3:Int) (x4 r:Bool):List AObj:=[.box 85 [pK x2,pI x3,pB x4]]
def qcx (n:Nat) (x1:SS) (x2:List qaj) (x3:Int) (x4:Bool):Option (Bool):=
 bnd (idx x2 x3) fun⟨x5,x6,x7,x8⟩=>
 some (bif(bif(!x4)then(bif(x5==5)then true else(x5==2))else false)then(x6==x1)else false)
theorem qdc (n:Nat):∀ (x1:SS) (x2:List qaj) (x3:Int) (x4 r:Bool),qcx n x1 x2 x3 x4=some r->qau Tryz.prog 57 [.ptr 0 0,.p (PV.str x1)] [.box 85 [pK x2,pI x3,pB x4]] 1 (fun v lo=>v=zbu x2 x3 x4 r/\lo=zbk x2 x3 x4 r):=by
 intro x1 x2 x3 x4 r h;unfold qcx at h;refine qau.of_vc qa3 (fun _ _=>Tryz.call57 _ _) Tryz.func57 (by kernel_rfl) (inl:=[40000001,1000000]) (Nat.le_of_ble_eq_true rfl) ?_;conv=>whnf
 replace h:=qaa h;obtain⟨⟨x5,x6,x7,x8⟩,h1,h⟩:=h;refine⟨_,Codec.at_ qr3 h1,?_⟩;conv=>whnf
 refine⟨id,id,id,id,id,id,id,id,id,id,id,id,?_⟩;obtain rfl:=sj h;conv=>whnf
 refine⟨_,_,⟨rfl,rfl⟩,wk [0] []⟩
abbrev q95 (x2:List qaj) (x3:Int) (x4:Bool) (r:Bool×Int):FV:=.p (.bool r.1)
abbrev q9t (x2:List qaj) (x3:Int) (x4:Bool) (r:Bool×Int):List AObj:=[.box 85 [pK x2,.p (.int .i64 r.2),pB x4]]
def qan (n:Nat) (x1:SS) (x2:List qaj) (x3:Int) (x4:Bool):Option (Bool×Int):=
 bnd (qcx n x1 x2 x3 x4) fun x5=>
 bif(!x5)then(
 some (false,x3))
 else(
 some (true,(IntKind.i64.wrap (x3+1))))
theorem qak (n:Nat):∀ (x1:SS) (x2:List qaj) (x3:Int) (x4:Bool) (r:Bool×Int),qan n x1 x2 x3 x4=some r->qau Tryz.prog 48 [.ptr 0 0,.p (PV.str x1)] [.box 85 [pK x2,pI x3,pB x4]] 1 (fun v lo=>v=q95 x2 x3 x4 r/\lo=q9t x2 x3 x4 r):=by
 intro x1 x2 x3 x4 r h;unfold qan at h;refine qau.of_vc qa3 (fun _ _=>Tryz.call48 _ _) Tryz.func48 (by kernel_rfl) (inl:=[57,1000000]) (Nat.le_of_ble_eq_true rfl) ?_;conv=>whnf
 replace h:=qaa h;obtain⟨x5,h1,h⟩:=h;refine qcl (qdc n _ _ _ _ _ h1) [0] [] ?_;rintro _ _ ⟨rfl,rfl⟩;refine⟨pB x5,[.box 85 [pK x2,pI x3,pB x4]],rfl,rfl,?_⟩;conv=>whnf
 refine ifc h (fun hc h=>?_) (fun hc h=>?_)
 ·obtain rfl:=sj h
  conv=>whnf
  refine⟨_,_,⟨rfl,rfl⟩,wk [0] []⟩
 ·obtain rfl:=sj h
  conv=>whnf
  refine⟨_,_,⟨rfl,rfl⟩,wk [0] []⟩
abbrev q7w (x2:List qaj) (x3:Int) (x4:Bool) (r:Int×Bool):FV:=.p (.tup [])
abbrev q7k (x2:List qaj) (x3:Int) (x4:Bool) (r:Int×Bool):List AObj:=[.box 85 [pK x2,.p (.int .i64 r.1),.p (.bool r.2)]]
def qax (n:Nat) (x1:SS) (x2:List qaj) (x3:Int) (x4:Bool):Option (Int×Bool):=
 bnd (qan n x1 x2 x3 x4) fun⟨x5,x6⟩=>
 bif(!x5)then(
 some (x6,true))
 else(
 some (x6,x4))
theorem qa7 (n:Nat):∀ (x1:SS) (x2:List qaj) (x3:Int) (x4:Bool) (r:Int×Bool),qax n x1 x2 x3 x4=some r->qau Tryz.prog 52 [.ptr 0 0,.p (PV.str x1)] [.box 85 [pK x2,pI x3,pB x4]] 1 (fun v lo=>v=q7w x2 x3 x4 r/\lo=q7k x2 x3 x4 r):=by
 intro x1 x2 x3 x4 r h;unfold qax at h;refine qau.of_vc qa3 (fun _ _=>Tryz.call52 _ _) Tryz.func52 (by kernel_rfl) (inl:=[48,1000000]) (Nat.le_of_ble_eq_true rfl) ?_;conv=>whnf
 replace h:=qaa h;obtain⟨⟨x5,x6⟩,h1,h⟩:=h;refine qcl (qak n _ _ _ _ _ h1) [0] [] ?_;rintro _ _ ⟨rfl,rfl⟩;refine⟨pB x5,[.box 85 [pK x2,pI x6,pB x4]],rfl,rfl,?_⟩;conv=>whnf
 refine ifc h (fun hc h=>?_) (fun hc h=>?_)
 ·obtain rfl:=sj h
  conv=>whnf
  refine⟨_,_,⟨rfl,rfl⟩,wk [0] []⟩
 ·obtain rfl:=sj h
  conv=>whnf
  refine⟨_,_,⟨rfl,rfl⟩,wk [0] []⟩
abbrev q7x (x1:List qaj) (x2:Int) (x3:Bool) (r:SS×Int×Bool):FV:=.p (.str r.1)
abbrev q7l (x1:List qaj) (x2:Int) (x3:Bool) (r:SS×Int×Bool):List AObj:=[.box 85 [pK x1,.p (.int .i64 r.2.1),.p (.bool r.2.2)]]
def qd3 (n:Nat) (x1:List qaj) (x2:Int) (x3:Bool):Option (SS×Int×Bool):=
 bnd (idx x1 x2) fun⟨x4,x5,x6,x7⟩=>
 bif(bif x3 then true else(x4 != 1))then(
 some (([]:SS),x2,true))
 else(
 some (x5,(IntKind.i64.wrap (x2+1)),x3))
theorem qgb (n:Nat):∀ (x1:List qaj) (x2:Int) (x3:Bool) (r:SS×Int×Bool),qd3 n x1 x2 x3=some r->qau Tryz.prog 53 [.ptr 0 0] [.box 85 [pK x1,pI x2,pB x3]] 1 (fun v lo=>v=q7x x1 x2 x3 r/\lo=q7l x1 x2 x3 r):=by
 intro x1 x2 x3 r h;unfold qd3 at h;refine qau.of_vc qa3 (fun _ _=>Tryz.call53 _ _) Tryz.func53 (by kernel_rfl) (inl:=[40000001,1000000]) (Nat.le_of_ble_eq_true rfl) ?_;conv=>whnf
 replace h:=qaa h;obtain⟨⟨x4,x5,x6,x7⟩,h1,h⟩:=h;refine⟨_,Codec.at_ qr3 h1,?_⟩;conv=>whnf
 refine⟨id,id,id,?_⟩;conv=>whnf
 refine ifc h (fun hc h=>?_) (fun hc h=>?_)
 ·obtain rfl:=sj h
  conv=>whnf
  refine⟨_,_,⟨rfl,rfl⟩,wk [0] []⟩
 ·obtain rfl:=sj h
  conv=>whnf
  refine⟨_,_,⟨rfl,rfl⟩,wk [0] []⟩
abbrev q0u (x1:List qaj) (x2:Int) (x3:Bool) (r:SS×Int×Bool):FV:=.p (.str r.1)
abbrev q0p (x1:List qaj) (x2:Int) (x3:Bool) (r:SS×Int×Bool):List AObj:=[.box 85 [pK x1,.p (.int .i64 r.2.1),.p (.bool r.2.2)]]
def qei (n:Nat) (x1:List qaj) (x2:Int) (x3:Bool):Option (SS×Int×Bool):=
 bnd (qa5 (!x3) (idx x1 x2)) fun⟨x4,x5,x6,x7⟩=>
 bif(bif x3 then true else(x4 != 1))then(
 some (([]:SS),x2,x3))
 else(
 bnd (qd3 n x1 x2 x3) fun⟨x8,x9,x10⟩=>
 some (x8,x9,x10))
theorem qo7 (n:Nat):∀ (x1:List qaj) (x2:Int) (x3:Bool) (r:SS×Int×Bool),qei n x1 x2 x3=some r->qau Tryz.prog 96 [.ptr 0 0] [.box 85 [pK x1,pI x2,pB x3]] 1 (fun v lo=>v=q0u x1 x2 x3 r/\lo=q0p x1 x2 x3 r):=by
 intro x1 x2 x3 r h;unfold qei at h;refine qau.of_vc qa3 (fun _ _=>Tryz.call96 _ _) Tryz.func96 (by kernel_rfl) (inl:=[53,1000000]) (Nat.le_of_ble_eq_true rfl) ?_;conv=>whnf
 refine⟨id,id,id,id,id,id,id,id,?_⟩;conv=>whnf
 replace h:=qaa h;obtain⟨⟨x4,x5,x6,x7⟩,h2,h⟩:=h;refine⟨_,fun hg=>Codec.at_ qr3 (qah h2 hg),?_⟩;conv=>whnf
 refine⟨id,id,id,id,?_⟩;conv=>whnf
 refine ifc h (fun hc h=>?_) (fun hc h=>?_)
 ·obtain rfl:=sj h
  conv=>whnf
  refine⟨_,_,⟨rfl,rfl⟩,wk [0] []⟩
 ·conv=>whnf
  replace h:=qaa h;obtain⟨⟨x8,x9,x10⟩,h1,h⟩:=h;refine qcl (qgb n _ _ _ _ h1) [0] [] ?_;rintro _ _ ⟨rfl,rfl⟩;refine⟨pS x8,[.box 85 [pK x1,pI x9,pB x10]],rfl,rfl,?_⟩;obtain rfl:=sj h;conv=>whnf
  refine⟨_,_,⟨rfl,rfl⟩,wk [0] []⟩
abbrev zdx (r:Bool):PV:=PV.bool r
def qjq (n:Nat) (x1:SS):Option (Bool):=
 some (bif(decide (((x1.length:Nat):Int)≥1))then(decide (((x1.length:Nat):Int)<=64))else false)
theorem qig (n:Nat):∀ (x1:SS) (r:Bool),qjq n x1=some r->qae Tryz.prog 102 [PV.str x1] (zdx r):=by
 intro x1 r h;unfold qjq at h;refine qae.of_vcN qa3 (fun _ _=>Tryz.call102 _ _) Tryz.func102 (by kernel_rfl) (inl:=[1000000]) ?_;conv=>whnf
 refine⟨id,id,id,?_⟩;obtain rfl:=sj h;conv=>whnf
 try exact fin
abbrev q96 (x1:List qaj) (x2:Int) (x3:Bool) (r:SS×Int×Bool):FV:=.p (.str r.1)
abbrev q9u (x1:List qaj) (x2:Int) (x3:Bool) (r:SS×Int×Bool):List AObj:=[.box 85 [pK x1,.p (.int .i64 r.2.1),.p (.bool r.2.2)]]
def qeo (n:Nat) (x1:List qaj) (x2:Int) (x3:Bool):Option (SS×Int×Bool):=
 bnd (idx x1 x2) fun⟨x4,x5,x6,x7⟩=>
 bnd (qa5 (((!x3)&&(x4 != 1))&&(!(x4 != 4))) (qjq n x5)) fun x8=>
 bif(bif x3 then true else(bif(x4 != 1)then(bif(x4 != 4)then true else(!x8))else false))then(
 some (([]:SS),x2,true))
 else(
 some (x5,(IntKind.i64.wrap (x2+1)),x3))
theorem qhh (n:Nat):∀ (x1:List qaj) (x2:Int) (x3:Bool) (r:SS×Int×Bool),qeo n x1 x2 x3=some r->qau Tryz.prog 97 [.ptr 0 0] [.box 85 [pK x1,pI x2,pB x3]] 1 (fun v lo=>v=q96 x1 x2 x3 r/\lo=q9u x1 x2 x3 r):=by
 intro x1 x2 x3 r h;unfold qeo at h;refine qau.of_vc qa3 (fun _ _=>Tryz.call97 _ _) Tryz.func97 (by kernel_rfl) (inl:=[40000001,1000000]) (Nat.le_of_ble_eq_true rfl) ?_;conv=>whnf
 replace h:=qaa h;obtain⟨⟨x4,x5,x6,x7⟩,h2,h⟩:=h;refine⟨_,Codec.at_ qr3 h2,?_⟩;conv=>whnf
 refine⟨id,id,id,id,id,id,id,id,?_⟩;conv=>whnf
 replace h:=qaa h;obtain⟨x8,h1,h⟩:=h;refine⟨_,fun hg=>(qig n _ _ (qah h1 hg)),?_⟩;conv=>whnf
 refine⟨id,id,id,id,id,id,?_⟩;conv=>whnf
 refine ifc h (fun hc h=>?_) (fun hc h=>?_)
 ·obtain rfl:=sj h
  conv=>whnf
  refine⟨_,_,⟨rfl,rfl⟩,wk [0] []⟩
 ·obtain rfl:=sj h
  conv=>whnf
  refine⟨_,_,⟨rfl,rfl⟩,wk [0] []⟩
abbrev zd0 (r:qab):PV:=PV.agg (qca.cells r)
def qqa (n:Nat) (x1:Int) (a1z:qab):Option (qab):=
 match a1z with
 | ⟨x2,x3,⟨x4,x5,x6,x7,x8,x9⟩,x10,x11⟩=>
 some (qab.mk x1 ([]:SS) (Val.mk (0:Int) false (0:Int) ([]:SS) ([]:List Val) ([]:List SS)) ([]:List SS) [qab.mk x2 x3 (Val.mk x4 x5 x6 x7 x8 x9) x10 x11])
theorem qpn (n:Nat):∀ (x1:Int) (a1z r:qab),qqa n x1 a1z=some r->qae Tryz.prog 135 [PV.int .i64 x1,PV.agg (qca.cells a1z)] (zd0 r):=by
 intro x1 a1z r h;obtain⟨x2,x3,⟨x4,x5,x6,x7,x8,x9⟩,x10,x11⟩:=a1z;unfold qqa at h;refine qae.of_vcN qa3 (fun _ _=>Tryz.call135 _ _) Tryz.func135 (by kernel_rfl) (inl:=[1000000]) ?_;conv=>whnf
 refine⟨Codec.one qca [qab.mk x2 x3 (Val.mk x4 x5 x6 x7 x8 x9) x10 x11],qab.rows [qab.mk x2 x3 (Val.mk x4 x5 x6 x7 x8 x9) x10 x11],.inl rfl,?_⟩;obtain rfl:=sj h;conv=>whnf
 try exact fin
abbrev q19 (r:Bool):PV:=PV.bool r
def qhw (n:Nat) (x1:SS):Option (Bool):=
 some (bif(bif(bif(bif(x1==([99,111,117,110,116]:SS))then true else(x1==([115,117,109]:SS)))then true else(x1==([109,105,110]:SS)))then true else(x1==([109,97,120]:SS)))then true else(x1==([99,111,108,108,101,99,116]:SS)))
theorem qp8 (n:Nat):∀ (x1:SS) (r:Bool),qhw n x1=some r->qae Tryz.prog 132 [PV.str x1] (q19 r):=by
 intro x1 r h;unfold qhw at h;refine qae.of_vcN qa3 (fun _ _=>Tryz.call132 _ _) Tryz.func132 (by kernel_rfl) (inl:=[1000000]) ?_;conv=>whnf
 refine⟨id,id,id,id,id,id,id,id,?_⟩;obtain rfl:=sj h;conv=>whnf
 try exact fin
abbrev zd1 (r:qab):PV:=PV.agg (qca.cells r)
def qj3 (n:Nat) (x1:SS) (a1z a2z:qab):Option (qab):=
 match a1z,a2z with
 | ⟨x2,x3,⟨x4,x5,x6,x7,x8,x9⟩,x10,x11⟩,⟨x12,x13,⟨x14,x15,x16,x17,x18,x19⟩,x20,x21⟩=>
 some (qab.mk (10:Int) x1 (Val.mk (0:Int) false (0:Int) ([]:SS) ([]:List Val) ([]:List SS)) ([]:List SS) [qab.mk x2 x3 (Val.mk x4 x5 x6 x7 x8 x9) x10 x11,qab.mk x12 x13 (Val.mk x14 x15 x16 x17 x18 x19) x20 x21])
theorem qhi (n:Nat):∀ (x1:SS) (a1z a2z r:qab),qj3 n x1 a1z a2z=some r->qae Tryz.prog 95 [PV.str x1,PV.agg (qca.cells a1z),PV.agg (qca.cells a2z)] (zd1 r):=by
 intro x1 a1z a2z r h;obtain⟨x2,x3,⟨x4,x5,x6,x7,x8,x9⟩,x10,x11⟩:=a1z;obtain⟨x12,x13,⟨x14,x15,x16,x17,x18,x19⟩,x20,x21⟩:=a2z;unfold qj3 at h;refine qae.of_vcN qa3 (fun _ _=>Tryz.call95 _ _) Tryz.func95 (by kernel_rfl) (inl:=[1000000]) ?_;conv=>whnf
 refine⟨Codec.one qca [qab.mk x2 x3 (Val.mk x4 x5 x6 x7 x8 x9) x10 x11,qab.mk x12 x13 (Val.mk x14 x15 x16 x17 x18 x19) x20 x21],qab.rows [qab.mk x2 x3 (Val.mk x4 x5 x6 x7 x8 x9) x10 x11,qab.mk x12 x13 (Val.mk x14 x15 x16 x17 x18 x19) x20 x21],.inl rfl,?_⟩;obtain rfl:=sj h;conv=>whnf
 try exact fin
end W
end
