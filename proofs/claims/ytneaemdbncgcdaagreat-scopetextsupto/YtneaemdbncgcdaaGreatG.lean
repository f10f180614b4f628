/- A part of the proof: contracts, printed by program. -/
import Derived.Test.YtneaemdbncgcdaaGreatB
import Derived.Test.YtneaemdbncgcdaaGreatC
import Derived.Test.YtneaemdbncgcdaaGreatF
set_option linter.unusedVariables false
set_option linter.unusedSimpArgs false
set_option linter.unnecessarySimpa false
set_option linter.deprecated false
set_option linter.unusedSectionVars false
set_option linter.constructorNameAsVariable false
section
set_option maxRecDepth 100000
open Go Go.Proofs Ax
namespace W
abbrev q7v (r:Bool):PV:=PV.bool r
def qph (n:Nat) (a0z:qag) (x14:Bool):Option (Bool):=
 match a0z with
 | ⟨x1,x2,x3,⟨x4,x5,⟨x6,x7,x8,x9,x10,x11⟩,x12,x13⟩⟩=>
 bnd (qgo n x1) fun x15=>
 bif(!x15)then(
 some false)
 else(
 bif(x2==([]:SS))then(
 bnd (qjq n x3) fun x16=>
 bnd (qa5 x16 (qsq n (qab.mk x4 x5 (Val.mk x6 x7 x8 x9 x10 x11) x12 x13))) fun x17=>
 some (bif x16 then x17 else false))
 else(
 bnd (qa5 (!(!(x3==([]:SS)))) (qjq n x2)) fun x18=>
 bif(bif(!(x3==([]:SS)))then true else(!x18))then(
 some false)
 else(
 bif x14 then(
 bnd (qfd n (qab.mk x4 x5 (Val.mk x6 x7 x8 x9 x10 x11) x12 x13)) fun x19=>
 some x19)
 else(
 bnd (qsq n (qab.mk x4 x5 (Val.mk x6 x7 x8 x9 x10 x11) x12 x13)) fun x20=>
 some x20))))
theorem q45 (n:Nat):∀ (a0z:qag) (x14 r:Bool),qph n a0z x14=some r->qae Tryz.prog 65 [PV.agg (qi2.cells a0z),PV.bool x14] (q7v r):=by
 intro a0z x14 r h;obtain⟨x1,x2,x3,⟨x4,x5,⟨x6,x7,x8,x9,x10,x11⟩,x12,x13⟩⟩:=a0z;unfold qph at h;refine qae.of_vcN qa3 (fun _ _=>Tryz.call65 _ _) Tryz.func65 (by kernel_rfl) (inl:=[1000000]) ?_;conv=>whnf
 replace h:=qaa h;obtain⟨x15,h6,h⟩:=h;refine⟨_,(qhc n _ _ h6),?_⟩;conv=>whnf
 refine ifc h (fun hc h=>?_) (fun hc h=>?_)
 ·obtain rfl:=sj h
  conv=>whnf
  try exact fin
 ·conv=>whnf
  refine ifc h (fun hc h=>?_) (fun hc h=>?_)
  ·conv=>whnf
   replace h:=qaa h;obtain⟨x16,h2,h⟩:=h;refine⟨_,(qig n _ _ h2),?_⟩;conv=>whnf
   refine⟨id,id,?_⟩;conv=>whnf
   replace h:=qaa h;obtain⟨x17,h1,h⟩:=h;refine⟨_,fun hg=>(q0l n _ _ (qah h1 hg)),?_⟩;conv=>whnf
   refine⟨id,?_⟩;obtain rfl:=sj h;conv=>whnf
   try exact fin
  ·conv=>whnf
   refine⟨id,id,?_⟩;conv=>whnf
   replace h:=qaa h;obtain⟨x18,h5,h⟩:=h;refine⟨_,fun hg=>(qig n _ _ (qah h5 hg)),?_⟩;conv=>whnf
   refine⟨id,id,?_⟩;conv=>whnf
   refine ifc h (fun hc h=>?_) (fun hc h=>?_)
   ·obtain rfl:=sj h
    conv=>whnf
    try exact fin
   ·conv=>whnf
    refine ifc h (fun hc h=>?_) (fun hc h=>?_)
    ·conv=>whnf
     replace h:=qaa h;obtain⟨x19,h3,h⟩:=h;refine⟨_,(qh5 n _ _ h3),?_⟩;obtain rfl:=sj h;conv=>whnf
     try exact fin
    ·conv=>whnf
     replace h:=qaa h;obtain⟨x20,h4,h⟩:=h;refine⟨_,(q0l n _ _ h4),?_⟩;obtain rfl:=sj h;conv=>whnf
     try exact fin
abbrev q2a (r:Bool):PV:=PV.bool r
def qff (n:Nat) (x20:List qag) (x1:Int):(Int->Option (Bool))->Int->Option (Bool):=fun nx2 x59=>
 bif(decide (x59<((qag.rows x20).length:Int)))then(
 bnd (idx x20 x59) fun⟨x60,x61,x62,⟨x63,x64,⟨x65,x66,x67,x68,x69,x70⟩,x71,x72⟩⟩=>
 bnd (qph n (qag.mk x60 x61 x62 (qab.mk x63 x64 (Val.mk x65 x66 x67 x68 x69 x70) x71 x72)) (x1==6)) fun x73=>
 bif(!x73)then(
 some false)
 else(
 nx2 (IntKind.i64.wrap (x59+1))))
 else(
 some (decide (((qag.rows x20).length:Int)>0)))
def qfg (n:Nat) (x21:List SS):(Int->Option (Bool))->Int->Option (Bool):=fun nx3 x74=>
 bif(decide (x74<((qam x21).length:Int)))then(
 bnd (idx x21 x74) fun x75=>
 bnd (qgo n x75) fun x76=>
 bif(!x76)then(
 some false)
 else(
 nx3 (IntKind.i64.wrap (x74+1))))
 else(
 some (decide (((qam x21).length:Int)>0)))
def qik (n:Nat) (x20:List qag) (x1:Int) (x21:List SS):Bool->Option (Bool):=fun x58=>
 bif x58 then(
 qap (qff n x20 x1) n (0:Int))
 else(
 bif(x1==8)then(
 qap (qfg n x21) n (0:Int))
 else(
 some false))
def qij (n:Nat) (x1:Int) (x2:List qa9) (x3:List qab) (x4:Int) (x5:SS) (x6:Int) (x7:Bool) (x8:Int) (x9:SS) (x10:List Val) (x11 x12:List SS) (x13:List qab) (x14:SS) (x15:List qbh) (x16:Bool) (x17:List qar) (x18 x19:List qab) (x20:List qag) (x21:List SS) (x22:Bool):Bool->Option (Bool):=fun x53=>
 bif x53 then(
 bnd (quk n (qad.mk x1 x2 x3 (qab.mk x4 x5 (Val.mk x6 x7 x8 x9 x10 x11) x12 x13) x14 x15 x16 x17 x18 x19 x20 x21 x22)) fun x54=>
 bnd (qa5 x54 (qms n x3 (1:Int))) fun x55=>
 some (bif x54 then x55 else false))
 else(
 bif(x1==4)then(
 some (decide (((qa9.rows x2).length:Int)>0)))
 else(
 bif(x1==5)then(
 bnd (qa5 (((qa9.rows x2).length:Int)==1) (idx x2 (0:Int))) fun⟨x56,x57⟩=>
 some (bif(((qa9.rows x2).length:Int)==1)then(((qai.rows x57).length:Int)==0)else false))
 else(
 bif(x1==6)then(
 qik n x20 x1 x21 (x1==6))
 else(
 qik n x20 x1 x21 (x1==7)))))
def qfe (n:Nat) (x2:List qa9) (x1:Int) (x3:List qab) (x4:Int) (x5:SS) (x6:Int) (x7:Bool) (x8:Int) (x9:SS) (x10:List Val) (x11 x12:List SS) (x13:List qab) (x14:SS) (x15:List qbh) (x16:Bool) (x17:List qar) (x18 x19:List qab) (x20:List qag) (x21:List SS) (x22:Bool):(Int->Option (Bool))->Int->Option (Bool):=fun nx1 x46=>
 bif(decide (x46<((qa9.rows x2).length:Int)))then(
 bnd (idx x2 x46) fun⟨x47,x48⟩=>
 bnd (qnj n (qa9.mk x47 x48)) fun x49=>
 bif(!x49)then(
 some false)
 else(
 nx1 (IntKind.i64.wrap (x46+1))))
 else(
 bif(x1==1)then(
 bnd (qa5 (decide (((qa9.rows x2).length:Int)>0)) (qms n x3 (1:Int))) fun x50=>
 some (bif(decide (((qa9.rows x2).length:Int)>0))then x50 else false))
 else(
 bif(x1==2)then(
 bnd (qfd n (qab.mk x4 x5 (Val.mk x6 x7 x8 x9 x10 x11) x12 x13)) fun x51=>
 bnd (qa5 x51 (qgo n x14)) fun x52=>
 some (bif x51 then x52 else false))
 else(
 bif(x1==3)then(
 qij n x1 x2 x3 x4 x5 x6 x7 x8 x9 x10 x11 x12 x13 x14 x15 x16 x17 x18 x19 x20 x21 x22 (x1==3))
 else(
 qij n x1 x2 x3 x4 x5 x6 x7 x8 x9 x10 x11 x12 x13 x14 x15 x16 x17 x18 x19 x20 x21 x22 (x1==9)))))
def qet (n:Nat) (a0z:qad):Option (Bool):=
 match a0z with
 | ⟨x1,x2,x3,⟨x4,x5,⟨x6,x7,x8,x9,x10,x11⟩,x12,x13⟩,x14,x15,x16,x17,x18,x19,x20,x21,x22⟩=>
 bnd (qs3 n (qad.mk x1 x2 x3 (qab.mk x4 x5 (Val.mk x6 x7 x8 x9 x10 x11) x12 x13) x14 x15 x16 x17 x18 x19 x20 x21 x22)) fun⟨x23,x24,x25,⟨x26,x27,⟨x28,x29,x30,x31,x32,x33⟩,x34,x35⟩,x36,x37,x38,x39,x40,x41,x42,x43,x44⟩=>
 bnd (qgr n (qad.mk x23 x24 x25 (qab.mk x26 x27 (Val.mk x28 x29 x30 x31 x32 x33) x34 x35) x36 x37 x38 x39 x40 x41 x42 x43 x44) (qad.mk x1 x2 x3 (qab.mk x4 x5 (Val.mk x6 x7 x8 x9 x10 x11) x12 x13) x14 x15 x16 x17 x18 x19 x20 x21 x22)) fun x45=>
 bif(!x45)then(
 some false)
 else(
 qap (qfe n x2 x1 x3 x4 x5 x6 x7 x8 x9 x10 x11 x12 x13 x14 x15 x16 x17 x18 x19 x20 x21 x22) n (0:Int))
set_option maxHeartbeats 4000000 in
theorem q0m (n:Nat):∀ (a0z:qad) (r:Bool),qet n a0z=some r->qae Tryz.prog 28 [PV.agg (qcw.cells a0z)] (q2a r):=by
 intro a0z r h;obtain⟨x1,x2,x3,⟨x4,x5,⟨x6,x7,x8,x9,x10,x11⟩,x12,x13⟩,x14,x15,x16,x17,x18,x19,x20,x21,x22⟩:=a0z;unfold qet at h;refine qae.of_vcN qa3 (fun _ _=>Tryz.call28 _ _) Tryz.func28 (by kernel_rfl) (inl:=[1000000]) ?_;conv=>whnf
 replace h:=qaa h;obtain⟨⟨x23,x24,x25,⟨x26,x27,⟨x28,x29,x30,x31,x32,x33⟩,x34,x35⟩,x36,x37,x38,x39,x40,x41,x42,x43,x44⟩,h14,h⟩:=h;refine⟨_,(zbj n _ _ h14),?_⟩;conv=>whnf
 replace h:=qaa h;obtain⟨x45,h13,h⟩:=h;refine⟨_,(qzf n _ _ _ h13),?_⟩;conv=>whnf
 refine ifc h (fun hc h=>?_) (fun hc h=>?_)
 ·obtain rfl:=sj h
  conv=>whnf
  try exact fin
 ·conv=>whnf
  refine qby.fn [1000000] (S:=Int) (fun x46=>[(1,.ptr 0 0),(3,pI x46)]) (fun x46=>[.box 55 [pI x1,pP x2,pE x3,pI x4,pS x5,pI x6,pB x7,pI x8,pS x9,pV x10,pT x11,pT x12,pE x13,pS x14,pA x15,pB x16,pO x17,pE x18,pE x19,pU x20,pT x21,pB x22]]) (B:=qfe n x2 x1 x3 x4 x5 x6 x7 x8 x9 x10 x11 x12 x13 x14 x15 x16 x17 x18 x19 x20 x21 x22) h (wk [0] []) ?_;intro nx1 x46 h;unfold qfe at h;conv=>whnf
  refine ifc h (fun hc h=>?_) (fun hc h=>?_)
  ·conv=>whnf
   replace h:=qaa h;obtain⟨⟨x47,x48⟩,h2,h⟩:=h;refine⟨_,Codec.at_ qoa h2,?_⟩;conv=>whnf
   replace h:=qaa h;obtain⟨x49,h1,h⟩:=h;refine⟨_,(q3n n _ _ h1),?_⟩;conv=>whnf
   refine ifc h (fun hc h=>?_) (fun hc h=>?_)
   ·obtain rfl:=sj h
    conv=>whnf
    try exact fin
   ·conv=>whnf
    exact⟨(IntKind.i64.wrap (x46+1)),h,wk [0] []⟩
  ·conv=>whnf
   refine ifc h (fun hc h=>?_) (fun hc h=>?_)
   ·conv=>whnf
    refine⟨id,id,?_⟩;conv=>whnf
    replace h:=qaa h;obtain⟨x50,h3,h⟩:=h;refine⟨_,fun hg=>(qrb n _ _ _ (qah h3 hg)),?_⟩;conv=>whnf
    refine⟨id,?_⟩;obtain rfl:=sj h;conv=>whnf
    try exact fin
   ·conv=>whnf
    refine ifc h (fun hc h=>?_) (fun hc h=>?_)
    ·conv=>whnf
     replace h:=qaa h;obtain⟨x51,h5,h⟩:=h;refine⟨_,(qh5 n _ _ h5),?_⟩;conv=>whnf
     refine⟨id,id,?_⟩;conv=>whnf
     replace h:=qaa h;obtain⟨x52,h4,h⟩:=h;refine⟨_,fun hg=>(qhc n _ _ (qah h4 hg)),?_⟩;conv=>whnf
     refine⟨id,?_⟩;obtain rfl:=sj h;conv=>whnf
     try exact fin
    ·conv=>whnf
     refine qje.cut (S:=Bool) (fun x53=>[(1,.ptr 0 0),(26,pI x1),(48,pB x53)]) (fun x53=>[.box 55 [pI x1,pP x2,pE x3,pI x4,pS x5,pI x6,pB x7,pI x8,pS x9,pV x10,pT x11,pT x12,pE x13,pS x14,pA x15,pB x16,pO x17,pE x18,pE x19,pU x20,pT x21,pB x22]]) (qij n x1 x2 x3 x4 x5 x6 x7 x8 x9 x10 x11 x12 x13 x14 x15 x16 x17 x18 x19 x20 x21 x22) (r:=r) ?_ ?_
     ·intro x53 h
      unfold qij at h;conv=>whnf
      refine ifc h (fun hc h=>?_) (fun hc h=>?_)
      ·conv=>whnf
       replace h:=qaa h;obtain⟨x54,h7,h⟩:=h;refine⟨_,(q9g n _ _ h7),?_⟩;conv=>whnf
       refine⟨id,id,?_⟩;conv=>whnf
       replace h:=qaa h;obtain⟨x55,h6,h⟩:=h;refine⟨_,fun hg=>(qrb n _ _ _ (qah h6 hg)),?_⟩;conv=>whnf
       refine⟨id,?_⟩;obtain rfl:=sj h;conv=>whnf
       try exact fin
      ·conv=>whnf
       refine ifc h (fun hc h=>?_) (fun hc h=>?_)
       ·obtain rfl:=sj h
        conv=>whnf
        try exact fin
       ·conv=>whnf
        refine ifc h (fun hc h=>?_) (fun hc h=>?_)
        ·conv=>whnf
         refine⟨id,id,?_⟩;conv=>whnf
         replace h:=qaa h;obtain⟨⟨x56,x57⟩,h8,h⟩:=h;refine⟨_,fun hg=>Codec.at_ qoa (qah h8 hg),?_⟩;conv=>whnf
         refine⟨id,id,id,id,id,?_⟩;obtain rfl:=sj h;conv=>whnf
         try exact fin
        ·conv=>whnf
         refine qje.cut (S:=Bool) (fun x58=>[(1,.ptr 0 0),(26,pI x1),(79,pB x58)]) (fun x58=>[.box 55 [pI x1,pP x2,pE x3,pI x4,pS x5,pI x6,pB x7,pI x8,pS x9,pV x10,pT x11,pT x12,pE x13,pS x14,pA x15,pB x16,pO x17,pE x18,pE x19,pU x20,pT x21,pB x22]]) (qik n x20 x1 x21) (r:=r) ?_ ?_
         ·intro x58 h
          unfold qik at h;conv=>whnf
          refine ifc h (fun hc h=>?_) (fun hc h=>?_)
          ·conv=>whnf
           refine qby.fn [1000000] (S:=Int) (fun x59=>[(1,.ptr 0 0),(4,pI x59)]) (fun x59=>[.box 55 [pI x1,pP x2,pE x3,pI x4,pS x5,pI x6,pB x7,pI x8,pS x9,pV x10,pT x11,pT x12,pE x13,pS x14,pA x15,pB x16,pO x17,pE x18,pE x19,pU x20,pT x21,pB x22]]) (B:=qff n x20 x1) h (wk [0] []) ?_;intro nx2 x59 h;unfold qff at h;conv=>whnf
           refine ifc h (fun hc h=>?_) (fun hc h=>?_)
           ·conv=>whnf
            replace h:=qaa h;obtain⟨⟨x60,x61,x62,⟨x63,x64,⟨x65,x66,x67,x68,x69,x70⟩,x71,x72⟩⟩,h10,h⟩:=h;refine⟨_,Codec.at_ qi2 h10,?_⟩;conv=>whnf
            replace h:=qaa h;obtain⟨x73,h9,h⟩:=h;refine⟨_,(q45 n _ _ _ h9),?_⟩;conv=>whnf
            refine ifc h (fun hc h=>?_) (fun hc h=>?_)
            ·obtain rfl:=sj h
             conv=>whnf
             try exact fin
            ·conv=>whnf
             exact⟨(IntKind.i64.wrap (x59+1)),h,wk [0] []⟩
           ·obtain rfl:=sj h
            conv=>whnf
            try exact fin
          ·conv=>whnf
           refine ifc h (fun hc h=>?_) (fun hc h=>?_)
           ·conv=>whnf
            refine qby.fn [1000000] (S:=Int) (fun x74=>[(1,.ptr 0 0),(5,pI x74)]) (fun x74=>[.box 55 [pI x1,pP x2,pE x3,pI x4,pS x5,pI x6,pB x7,pI x8,pS x9,pV x10,pT x11,pT x12,pE x13,pS x14,pA x15,pB x16,pO x17,pE x18,pE x19,pU x20,pT x21,pB x22]]) (B:=qfg n x21) h (wk [0] []) ?_;intro nx3 x74 h;unfold qfg at h;conv=>whnf
            refine ifc h (fun hc h=>?_) (fun hc h=>?_)
            ·conv=>whnf
             replace h:=qaa h;obtain⟨x75,h12,h⟩:=h;refine⟨_,Codec.at_ qqt h12,?_⟩;conv=>whnf
             replace h:=qaa h;obtain⟨x76,h11,h⟩:=h;refine⟨_,(qhc n _ _ h11),?_⟩;conv=>whnf
             refine ifc h (fun hc h=>?_) (fun hc h=>?_)
             ·obtain rfl:=sj h
              conv=>whnf
              try exact fin
             ·conv=>whnf
              exact⟨(IntKind.i64.wrap (x74+1)),h,wk [0] []⟩
            ·obtain rfl:=sj h
             conv=>whnf
             try exact fin
           ·obtain rfl:=sj h
            conv=>whnf
            try exact fin
         ·conv=>whnf
          refine ifc h (fun hc h=>?_) (fun hc h=>?_)
          ·conv=>whnf
           exact⟨(x1==6),h,wk [0] []⟩
          ·conv=>whnf
           exact⟨(x1==7),h,wk [0] []⟩
     ·conv=>whnf
      refine ifc h (fun hc h=>?_) (fun hc h=>?_)
      ·conv=>whnf
       exact⟨(x1==3),h,wk [0] []⟩
      ·conv=>whnf
       exact⟨(x1==9),h,wk [0] []⟩
abbrev zdy (r:Bool):PV:=PV.bool r
def qmr (n:Nat) (x1:List qad):(Int->Option (Bool))->Int->Option (Bool):=fun nx1 x2=>
 bif(decide (x2<((qad.rows x1).length:Int)))then(
 bnd (idx x1 x2) fun⟨x3,x4,x5,⟨x6,x7,⟨x8,x9,x10,x11,x12,x13⟩,x14,x15⟩,x16,x17,x18,x19,x20,x21,x22,x23,x24⟩=>
 bnd (qet n (qad.mk x3 x4 x5 (qab.mk x6 x7 (Val.mk x8 x9 x10 x11 x12 x13) x14 x15) x16 x17 x18 x19 x20 x21 x22 x23 x24)) fun x25=>
 bnd (qa5 (!(!x25)) (idx x1 x2)) fun⟨x26,x27,x28,⟨x29,x30,⟨x31,x32,x33,x34,x35,x36⟩,x37,x38⟩,x39,x40,x41,x42,x43,x44,x45,x46,x47⟩=>
 bif(bif(!x25)then true else(bif(x26==9)then(decide ((IntKind.i64.wrap (x2+1))<((qad.rows x1).length:Int)))else false))then(
 some false)
 else(
 nx1 (IntKind.i64.wrap (x2+1))))
 else(
 bnd (qa5 (bif(decide (((qad.rows x1).length:Int)>0))then(decide (((qad.rows x1).length:Int)<=64))else false) (idx x1 (IntKind.i64.wrap (((qad.rows x1).length:Int) - 1)))) fun⟨x48,x49,x50,⟨x51,x52,⟨x53,x54,x55,x56,x57,x58⟩,x59,x60⟩,x61,x62,x63,x64,x65,x66,x67,x68,x69⟩=>
 bnd (qa5 ((bif(decide (((qad.rows x1).length:Int)>0))then(decide (((qad.rows x1).length:Int)<=64))else false)&&(!(x48==9))) (idx x1 (IntKind.i64.wrap (((qad.rows x1).length:Int) - 1)))) fun⟨x70,x71,x72,⟨x73,x74,⟨x75,x76,x77,x78,x79,x80⟩,x81,x82⟩,x83,x84,x85,x86,x87,x88,x89,x90,x91⟩=>
 bnd (qa5 ((bif(decide (((qad.rows x1).length:Int)>0))then(decide (((qad.rows x1).length:Int)<=64))else false)&&(!(x48==9))) (qpg n x70)) fun x92=>
 some (bif(bif(decide (((qad.rows x1).length:Int)>0))then(decide (((qad.rows x1).length:Int)<=64))else false)then(bif(x48==9)then true else x92)else false))
def qmq (n:Nat) (a0z:qg3):Option (Bool):=
 match a0z with
 | ⟨x1⟩=>
 qap (qmr n x1) n (0:Int)
theorem qpf (n:Nat):∀ (a0z:qg3) (r:Bool),qmq n a0z=some r->qae Tryz.prog 18 [PV.agg (qys.cells a0z)] (zdy r):=by
 intro a0z r h;obtain⟨x1⟩:=a0z;unfold qmq at h;refine qae.of_vcN qa3 (fun _ _=>Tryz.call18 _ _) Tryz.func18 (by kernel_rfl) (inl:=[1000000]) ?_;conv=>whnf
 refine qby.fn [1000000] (S:=Int) (fun x2=>[(1,.ptr 0 0),(3,.p (.int .i64 ((qad.rows x1).length:Int))),(4,pI x2)]) (fun x2=>[.box 24 [pC x1]]) (B:=qmr n x1) h (wk [0] []) ?_;intro nx1 x2 h;unfold qmr at h;conv=>whnf
 refine ifc h (fun hc h=>?_) (fun hc h=>?_)
 ·conv=>whnf
  replace h:=qaa h;obtain⟨⟨x3,x4,x5,⟨x6,x7,⟨x8,x9,x10,x11,x12,x13⟩,x14,x15⟩,x16,x17,x18,x19,x20,x21,x22,x23,x24⟩,h3,h⟩:=h;refine⟨_,Codec.at_ qcw h3,?_⟩;conv=>whnf
  replace h:=qaa h;obtain⟨x25,h2,h⟩:=h;refine⟨_,(q0m n _ _ h2),?_⟩;conv=>whnf
  refine⟨id,id,id,?_⟩;conv=>whnf
  replace h:=qaa h;obtain⟨⟨x26,x27,x28,⟨x29,x30,⟨x31,x32,x33,x34,x35,x36⟩,x37,x38⟩,x39,x40,x41,x42,x43,x44,x45,x46,x47⟩,h1,h⟩:=h;refine⟨_,fun hg=>Codec.at_ qcw (qah h1 hg),?_⟩;conv=>whnf
  refine⟨id,id,id,id,id,id,id,id,id,id,?_⟩;conv=>whnf
  refine ifc h (fun hc h=>?_) (fun hc h=>?_)
  ·obtain rfl:=sj h
   conv=>whnf
   try exact fin
  ·conv=>whnf
   exact⟨(IntKind.i64.wrap (x2+1)),h,wk [0] []⟩
 ·conv=>whnf
  refine⟨id,id,id,id,id,id,?_⟩;conv=>whnf
  replace h:=qaa h;obtain⟨⟨x48,x49,x50,⟨x51,x52,⟨x53,x54,x55,x56,x57,x58⟩,x59,x60⟩,x61,x62,x63,x64,x65,x66,x67,x68,x69⟩,h6,h⟩:=h;refine⟨_,fun hg=>Codec.at_ qcw (qah h6 hg),?_⟩;conv=>whnf
  refine⟨id,id,id,id,id,id,id,id,?_⟩;conv=>whnf
  replace h:=qaa h;obtain⟨⟨x70,x71,x72,⟨x73,x74,⟨x75,x76,x77,x78,x79,x80⟩,x81,x82⟩,x83,x84,x85,x86,x87,x88,x89,x90,x91⟩,h5,h⟩:=h;refine⟨_,fun hg=>Codec.at_ qcw (qah h5 hg),?_⟩;conv=>whnf
  refine⟨id,id,id,?_⟩;conv=>whnf
  replace h:=qaa h;obtain⟨x92,h4,h⟩:=h;refine⟨_,fun hg=>(qwh n _ _ (qah h4 hg)),?_⟩;conv=>whnf
  refine⟨id,id,id,?_⟩;obtain rfl:=sj h;conv=>whnf
  try exact fin
abbrev q97 (r:qg3×Int×Int):PV:=PV.tup [PV.agg (qys.cells r.1),PV.int .i64 r.2.1,PV.int .i64 r.2.2]
def qf9 (n:Nat) (x2:List qaj):Int×Bool×List qad->Option (qg3×Int×Int):=fun(x5,x6,x7)=>
 bif x6 then(
 bnd (idx x2 x5) fun⟨x8,x9,x10,x11⟩=>
 some (qg3.mk ([]:List qad),x11,(1:Int)))
 else(
 bnd (qmq n (qg3.mk x7)) fun x12=>
 bif(!x12)then(
 some (qg3.mk ([]:List qad),(0:Int),(8:Int)))
 else(
 some (qg3.mk x7,(0:Int),(0:Int))))
def qja (n:Nat) (x2:List qaj):(Int×Int×Bool×List qad->Option (qg3×Int×Int))->Int×Int×Bool×List qad->Option (qg3×Int×Int):=fun nx1 (x13,x14,x15,x16)=>
 bnd (qa5 (!x15) (idx x2 x14)) fun⟨x17,x18,x19,x20⟩=>
 bnd (qa5 ((!x15)&&(!(x17 != 6))) (qpg n x13)) fun x21=>
 bif(bif(!x15)then(bif(x17 != 6)then true else(bif(!x21)then(x13 != 9)else false))else false)then(
 bif(x13==9)then(
 qf9 n x2 (x14,true,x16))
 else(
 bnd (qlt n x2 x14 x15) fun⟨⟨x22,x23,x24,⟨x25,x26,⟨x27,x28,x29,x30,x31,x32⟩,x33,x34⟩,x35,x36,x37,x38,x39,x40,x41,x42,x43⟩,x44,x45⟩=>
 chk (decide ((qad.rows (x16++[qad.mk x22 x23 x24 (qab.mk x25 x26 (Val.mk x27 x28 x29 x30 x31 x32) x33 x34) x35 x36 x37 x38 x39 x40 x41 x42 x43])).length * 392<=140737488355328)) (
 nx1 (x22,x44,x45,(x16++[qad.mk x22 x23 x24 (qab.mk x25 x26 (Val.mk x27 x28 x29 x30 x31 x32) x33 x34) x35 x36 x37 x38 x39 x40 x41 x42 x43])))))
 else(
 qf9 n x2 (x14,x15,x16))
def qmu (n:Nat) (x1:SS):Option (qg3×Int×Int):=
 bnd (qsp n x1) fun⟨x2,x3,x4⟩=>
 bif(x4 != 0)then(
 some (qg3.mk ([]:List qad),x3,x4))
 else(
 qap (qja n x2) n ((0:Int),(0:Int),false,([]:List _)))
set_option maxHeartbeats 4000000 in
theorem qrc (n:Nat):∀ (x1:SS) (r:qg3×Int×Int),qmu n x1=some r->qae Tryz.prog 17 [PV.str x1] (q97 r):=by
 intro x1 r h;unfold qmu at h;refine qae.of_vcN qa3 (fun _ _=>Tryz.call17 _ _) Tryz.func17 (by kernel_rfl) (inl:=[27,40000014,50000002,60004000,1000000]) ?_;conv=>whnf
 replace h:=qaa h;obtain⟨⟨x2,x3,x4⟩,h7,h⟩:=h;refine⟨_,(q9d n _ _ h7),?_⟩;conv=>whnf
 refine ifc h (fun hc h=>?_) (fun hc h=>?_)
 ·obtain rfl:=sj h
  conv=>whnf
  try exact fin
 ·conv=>whnf
  refine qje.cut (S:=Int×Bool×List qad) (fun(x5,x6,x7)=>[(2,.ptr 0 0),(8,.ptr 1 0),(9,.ptr 2 0)]) (fun(x5,x6,x7)=>[.box 24 [.p (.nilsl)],.box 85 [pK x2,pI x5,pB x6],.box 24 [.tsl 3 (qad.rows x7)],.tail 55 22 (qad.rows x7).length]) (qf9 n x2) (r:=r) ?_ ?_
  ·intro st h
   obtain⟨x5,x6,x7⟩:=st;unfold qf9 at h;conv=>whnf
   refine ifc h (fun hc h=>?_) (fun hc h=>?_)
   ·conv=>whnf
    replace h:=qaa h;obtain⟨⟨x8,x9,x10,x11⟩,h1,h⟩:=h;refine⟨_,Codec.at_ qr3 h1,?_⟩;obtain rfl:=sj h;conv=>whnf
    try exact fin
   ·conv=>whnf
    replace h:=qaa h;obtain⟨x12,h2,h⟩:=h;refine⟨_,(qpf n _ _ h2),?_⟩;conv=>whnf
    refine ifc h (fun hc h=>?_) (fun hc h=>?_)
    ·obtain rfl:=sj h
     conv=>whnf
     try exact fin
    ·obtain rfl:=sj h
     conv=>whnf
     try exact fin
  ·conv=>whnf
   refine qby.fn [27,40000014,50000002,60004000,1000000] (S:=Int×Int×Bool×List qad) (fun(x13,x14,x15,x16)=>[(2,.ptr 0 0),(8,.ptr 1 0),(9,.ptr 2 0),(10,pI x13)]) (fun(x13,x14,x15,x16)=>[.box 24 [.p (.nilsl)],.box 85 [pK x2,pI x14,pB x15],.box 24 [.tsl 3 (qad.rows x16)],.tail 55 22 (qad.rows x16).length]) (B:=qja n x2) h (wk [0,1,2,0] [3]) ?_;intro nx1 st h;obtain⟨x13,x14,x15,x16⟩:=st;unfold qja at h;conv=>whnf
   refine⟨id,id,id,id,id,id,id,id,?_⟩;conv=>whnf
   replace h:=qaa h;obtain⟨⟨x17,x18,x19,x20⟩,h6,h⟩:=h;refine⟨_,fun hg=>Codec.at_ qr3 (qah h6 hg),?_⟩;conv=>whnf
   refine⟨id,id,id,id,id,?_⟩;conv=>whnf
   replace h:=qaa h;obtain⟨x21,h5,h⟩:=h;refine⟨_,fun hg=>(qwh n _ _ (qah h5 hg)),?_⟩;conv=>whnf
   refine⟨id,id,id,id,id,id,id,id,?_⟩;conv=>whnf
   refine ifc h (fun hc h=>?_) (fun hc h=>?_)
   ·conv=>whnf
    refine ifc h (fun hc h=>?_) (fun hc h=>?_)
    ·conv=>whnf
     exact⟨(x14,true,x16),h,wk [0,1,2,3] []⟩
    ·conv=>whnf
     replace h:=qaa h;obtain⟨⟨⟨x22,x23,x24,⟨x25,x26,⟨x27,x28,x29,x30,x31,x32⟩,x33,x34⟩,x35,x36,x37,x38,x39,x40,x41,x42,x43⟩,x44,x45⟩,h3,h⟩:=h;refine qcl (q1y n _ _ _ _ h3) [1] [] ?_;rintro _ _ ⟨rfl,rfl⟩;refine⟨.p (.agg [.int .i64 x22,.sl (qa9.rows x23),.sl (qab.rows x24),.int .i64 x25,.str x26,.int .i64 x27,.bool x28,.int .i64 x29,.str x30,.sl (Val.rows x31),.sl (qam x32),.sl (qam x33),.sl (qab.rows x34),.str x35,.sl (qbh.rows x36),.bool x37,.sl (qar.rows x38),.sl (qab.rows x39),.sl (qab.rows x40),.sl (qag.rows x41),.sl (qam x42),.bool x43]),[.box 24 [.p (.nilsl)],.box 85 [pK x2,pI x44,pB x45],.box 24 [.tsl 3 (qad.rows x16)],.tail 55 22 (qad.rows x16).length],rfl,rfl,?_⟩;conv=>whnf
     refine⟨Codec.one qcw [qad.mk x22 x23 x24 (qab.mk x25 x26 (Val.mk x27 x28 x29 x30 x31 x32) x33 x34) x35 x36 x37 x38 x39 x40 x41 x42 x43],qad.rows [qad.mk x22 x23 x24 (qab.mk x25 x26 (Val.mk x27 x28 x29 x30 x31 x32) x33 x34) x35 x36 x37 x38 x39 x40 x41 x42 x43],.inl rfl,?_⟩;conv=>whnf
     rw[show qad.rows x16++qad.rows [qad.mk x22 x23 x24 (qab.mk x25 x26 (Val.mk x27 x28 x29 x30 x31 x32) x33 x34) x35 x36 x37 x38 x39 x40 x41 x42 x43]=qad.rows (x16++[qad.mk x22 x23 x24 (qab.mk x25 x26 (Val.mk x27 x28 x29 x30 x31 x32) x33 x34) x35 x36 x37 x38 x39 x40 x41 x42 x43])from Codec.append qcw x16 [qad.mk x22 x23 x24 (qab.mk x25 x26 (Val.mk x27 x28 x29 x30 x31 x32) x33 x34) x35 x36 x37 x38 x39 x40 x41 x42 x43]];conv=>whnf
     obtain⟨h4,h⟩:=qaw h;refine⟨⟨Codec.wide qcw (x16++[qad.mk x22 x23 x24 (qab.mk x25 x26 (Val.mk x27 x28 x29 x30 x31 x32) x33 x34) x35 x36 x37 x38 x39 x40 x41 x42 x43]),of_decide_eq_true h4,qdx h4 (by decide)⟩,?_⟩;conv=>whnf
     refine⟨⟨rfl,rfl,rfl⟩,?_⟩;conv=>whnf
     exact⟨(x22,x44,x45,(x16++[qad.mk x22 x23 x24 (qab.mk x25 x26 (Val.mk x27 x28 x29 x30 x31 x32) x33 x34) x35 x36 x37 x38 x39 x40 x41 x42 x43])),h,wk [0,1,2,5] []⟩
   ·conv=>whnf
    exact⟨(x14,x15,x16),h,wk [0,1,2,3] []⟩
abbrev q4f (r:Bool):PV:=PV.bool r
def qrd (n:Nat) (x1:Int):Option (Bool):=
 some (bif(decide (x1≥4))then(decide (x1<=8))else false)
theorem q15 (n:Nat):∀ (x1:Int) (r:Bool),qrd n x1=some r->qae Tryz.prog 34 [PV.int .i64 x1] (q4f r):=by
 intro x1 r h;unfold qrd at h;refine qae.of_vcN qa3 (fun _ _=>Tryz.call34 _ _) Tryz.func34 (by kernel_rfl) (inl:=[1000000]) ?_;conv=>whnf
 refine⟨id,id,?_⟩;obtain rfl:=sj h;conv=>whnf
 try exact fin
abbrev qzr (r:qbl):PV:=(PV.ifc (qbl.tid r) (qbl.val r))
def qnv (n:Nat) (a0z:qa9):Option (qbl):=
 match a0z with
 | ⟨x1,x2⟩=>
 some (qbl.path (qa9.mk x1 x2))
theorem qx1 (n:Nat):∀ (a0z:qa9) (r:qbl),qnv n a0z=some r->qae Tryz.prog 67 [PV.agg (qoa.cells a0z)] (qzr r):=by
 intro a0z r h;obtain⟨x1,x2⟩:=a0z;unfold qnv at h;refine qae.of_vcN qa3 (fun _ _=>Tryz.call67 _ _) Tryz.func67 (by kernel_rfl) (inl:=[1000000]) ?_;obtain rfl:=sj h;conv=>whnf
 try exact fin
abbrev qn8 (r:List qbl):PV:=PV.sl (qbl.rows r)
def qbv (n:Nat) (x1:List qa9):(List qbl×Int->Option (List qbl))->List qbl×Int->Option (List qbl):=fun nx1 (x2,x3)=>
 bif(decide (x3<((qa9.rows x1).length:Int)))then(
 bnd (idx x1 x3) fun⟨x4,x5⟩=>
 bnd (qnv n (qa9.mk x4 x5)) fun x6=>
 chk (decide ((qbl.rows (x2++[x6])).length * 16<=140737488355328)) (
 nx1 ((x2++[x6]),(IntKind.i64.wrap (x3+1)))))
 else(
 some x2)
def qdm (n:Nat) (x1:List qa9):Option (List qbl):=
 qap (qbv n x1) n (([]:List _),(0:Int))
theorem qm4 (n:Nat):∀ (x1:List qa9) (r:List qbl),qdm n x1=some r->qae Tryz.prog 66 [PV.sl (qa9.rows x1),PV.fn 67] (qn8 r):=by
 intro x1 r h;unfold qdm at h;refine qae.of_vcN qa3 (fun _ _=>Tryz.call66 _ _) Tryz.func66 (by kernel_rfl) (inl:=[1000000]) ?_;conv=>whnf
 refine qby.fn [1000000] (S:=List qbl×Int) (fun(x2,x3)=>[(1,.p (.fn 67)),(5,.tsl 0 (qbl.rows x2)),(8,pP x1),(9,.p (.int .i64 ((qa9.rows x1).length:Int))),(10,pI x3)]) (fun(x2,x3)=>[.tail 103 1 (qbl.rows x2).length]) (B:=qbv n x1) h (wk [0] [0]) ?_;intro nx1 st h;obtain⟨x2,x3⟩:=st;unfold qbv at h;conv=>whnf
 refine ifc h (fun hc h=>?_) (fun hc h=>?_)
 ·conv=>whnf
  replace h:=qaa h;obtain⟨⟨x4,x5⟩,h3,h⟩:=h;refine⟨_,Codec.at_ qoa h3,?_⟩;conv=>whnf
  replace h:=qaa h;obtain⟨x6,h2,h⟩:=h;refine⟨_,(qx1 n _ _ h2),?_⟩;conv=>whnf
  refine⟨Codec.one qq9 [x6],qbl.rows [x6],.inl rfl,?_⟩;conv=>whnf
  rw[show qbl.rows x2++qbl.rows [x6]=qbl.rows (x2++[x6])from Codec.append qq9 x2 [x6]];conv=>whnf
  obtain⟨h1,h⟩:=qaw h;refine⟨⟨Codec.wide qq9 (x2++[x6]),of_decide_eq_true h1,qdx h1 (by decide)⟩,?_⟩;conv=>whnf
  refine⟨⟨rfl,rfl,rfl⟩,?_⟩;conv=>whnf
  exact⟨((x2++[x6]),(IntKind.i64.wrap (x3+1))),h,wk [2] []⟩
 ·obtain rfl:=sj h
  conv=>whnf
  try exact fin
abbrev qzs (r:qbl):PV:=(PV.ifc (qbl.tid r) (qbl.val r))
def qnw (n:Nat) (a0z:qab):Option (qbl):=
 match a0z with
 | ⟨x1,x2,⟨x3,x4,x5,x6,x7,x8⟩,x9,x10⟩=>
 some (qbl.expr (qab.mk x1 x2 (Val.mk x3 x4 x5 x6 x7 x8) x9 x10))
theorem qx2 (n:Nat):∀ (a0z:qab) (r:qbl),qnw n a0z=some r->qae Tryz.prog 69 [PV.agg (qca.cells a0z)] (qzs r):=by
 intro a0z r h;obtain⟨x1,x2,⟨x3,x4,x5,x6,x7,x8⟩,x9,x10⟩:=a0z;unfold qnw at h;refine qae.of_vcN qa3 (fun _ _=>Tryz.call69 _ _) Tryz.func69 (by kernel_rfl) (inl:=[1000000]) ?_;obtain rfl:=sj h;conv=>whnf
 try exact fin
abbrev qn4 (r:List qbl):PV:=PV.sl (qbl.rows r)
def qbr (n:Nat) (x1:List qab):(List qbl×Int->Option (List qbl))->List qbl×Int->Option (List qbl):=fun nx1 (x2,x3)=>
 bif(decide (x3<((qab.rows x1).length:Int)))then(
 bnd (idx x1 x3) fun⟨x4,x5,⟨x6,x7,x8,x9,x10,x11⟩,x12,x13⟩=>
 bnd (qnw n (qab.mk x4 x5 (Val.mk x6 x7 x8 x9 x10 x11) x12 x13)) fun x14=>
 chk (decide ((qbl.rows (x2++[x14])).length * 16<=140737488355328)) (
 nx1 ((x2++[x14]),(IntKind.i64.wrap (x3+1)))))
 else(
 some x2)
def qdi (n:Nat) (x1:List qab):Option (List qbl):=
 qap (qbr n x1) n (([]:List _),(0:Int))
theorem qm0 (n:Nat):∀ (x1:List qab) (r:List qbl),qdi n x1=some r->qae Tryz.prog 68 [PV.sl (qab.rows x1),PV.fn 69] (qn4 r):=by
 intro x1 r h;unfold qdi at h;refine qae.of_vcN qa3 (fun _ _=>Tryz.call68 _ _) Tryz.func68 (by kernel_rfl) (inl:=[1000000]) ?_;conv=>whnf
 refine qby.fn [1000000] (S:=List qbl×Int) (fun(x2,x3)=>[(1,.p (.fn 69)),(5,.tsl 0 (qbl.rows x2)),(8,pE x1),(9,.p (.int .i64 ((qab.rows x1).length:Int))),(10,pI x3)]) (fun(x2,x3)=>[.tail 103 1 (qbl.rows x2).length]) (B:=qbr n x1) h (wk [0] [0]) ?_;intro nx1 st h;obtain⟨x2,x3⟩:=st;unfold qbr at h;conv=>whnf
 refine ifc h (fun hc h=>?_) (fun hc h=>?_)
 ·conv=>whnf
  replace h:=qaa h;obtain⟨⟨x4,x5,⟨x6,x7,x8,x9,x10,x11⟩,x12,x13⟩,h3,h⟩:=h;refine⟨_,Codec.at_ qca h3,?_⟩;conv=>whnf
  replace h:=qaa h;obtain⟨x14,h2,h⟩:=h;refine⟨_,(qx2 n _ _ h2),?_⟩;conv=>whnf
  refine⟨Codec.one qq9 [x14],qbl.rows [x14],.inl rfl,?_⟩;conv=>whnf
  rw[show qbl.rows x2++qbl.rows [x14]=qbl.rows (x2++[x14])from Codec.append qq9 x2 [x14]];conv=>whnf
  obtain⟨h1,h⟩:=qaw h;refine⟨⟨Codec.wide qq9 (x2++[x14]),of_decide_eq_true h1,qdx h1 (by decide)⟩,?_⟩;conv=>whnf
  refine⟨⟨rfl,rfl,rfl⟩,?_⟩;conv=>whnf
  exact⟨((x2++[x14]),(IntKind.i64.wrap (x3+1))),h,wk [2] []⟩
 ·obtain rfl:=sj h
  conv=>whnf
  try exact fin
abbrev qzt (r:qbl):PV:=(PV.ifc (qbl.tid r) (qbl.val r))
def qnx (n:Nat) (a0z:qbh):Option (qbl):=
 match a0z with
 | ⟨⟨x1,x2,⟨x3,x4,x5,x6,x7,x8⟩,x9,x10⟩,x11⟩=>
 some (qbl.item (qbh.mk (qab.mk x1 x2 (Val.mk x3 x4 x5 x6 x7 x8) x9 x10) x11))
theorem qx3 (n:Nat):∀ (a0z:qbh) (r:qbl),qnx n a0z=some r->qae Tryz.prog 71 [PV.agg (qtc.cells a0z)] (qzt r):=by
 intro a0z r h;obtain⟨⟨x1,x2,⟨x3,x4,x5,x6,x7,x8⟩,x9,x10⟩,x11⟩:=a0z;unfold qnx at h;refine qae.of_vcN qa3 (fun _ _=>Tryz.call71 _ _) Tryz.func71 (by kernel_rfl) (inl:=[1000000]) ?_;obtain rfl:=sj h;conv=>whnf
 try exact fin
abbrev qn7 (r:List qbl):PV:=PV.sl (qbl.rows r)
def qbu (n:Nat) (x1:List qbh):(List qbl×Int->Option (List qbl))->List qbl×Int->Option (List qbl):=fun nx1 (x2,x3)=>
 bif(decide (x3<((qbh.rows x1).length:Int)))then(
 bnd (idx x1 x3) fun⟨⟨x4,x5,⟨x6,x7,x8,x9,x10,x11⟩,x12,x13⟩,x14⟩=>
 bnd (qnx n (qbh.mk (qab.mk x4 x5 (Val.mk x6 x7 x8 x9 x10 x11) x12 x13) x14)) fun x15=>
 chk (decide ((qbl.rows (x2++[x15])).length * 16<=140737488355328)) (
 nx1 ((x2++[x15]),(IntKind.i64.wrap (x3+1)))))
 else(
 some x2)
def qdl (n:Nat) (x1:List qbh):Option (List qbl):=
 qap (qbu n x1) n (([]:List _),(0:Int))
theorem qm3 (n:Nat):∀ (x1:List qbh) (r:List qbl),qdl n x1=some r->qae Tryz.prog 70 [PV.sl (qbh.rows x1),PV.fn 71] (qn7 r):=by
 intro x1 r h;unfold qdl at h;refine qae.of_vcN qa3 (fun _ _=>Tryz.call70 _ _) Tryz.func70 (by kernel_rfl) (inl:=[1000000]) ?_;conv=>whnf
 refine qby.fn [1000000] (S:=List qbl×Int) (fun(x2,x3)=>[(1,.p (.fn 71)),(5,.tsl 0 (qbl.rows x2)),(8,pA x1),(9,.p (.int .i64 ((qbh.rows x1).length:Int))),(10,pI x3)]) (fun(x2,x3)=>[.tail 103 1 (qbl.rows x2).length]) (B:=qbu n x1) h (wk [0] [0]) ?_;intro nx1 st h;obtain⟨x2,x3⟩:=st;unfold qbu at h;conv=>whnf
 refine ifc h (fun hc h=>?_) (fun hc h=>?_)
 ·conv=>whnf
  replace h:=qaa h;obtain⟨⟨⟨x4,x5,⟨x6,x7,x8,x9,x10,x11⟩,x12,x13⟩,x14⟩,h3,h⟩:=h;refine⟨_,Codec.at_ qtc h3,?_⟩;conv=>whnf
  replace h:=qaa h;obtain⟨x15,h2,h⟩:=h;refine⟨_,(qx3 n _ _ h2),?_⟩;conv=>whnf
  refine⟨Codec.one qq9 [x15],qbl.rows [x15],.inl rfl,?_⟩;conv=>whnf
  rw[show qbl.rows x2++qbl.rows [x15]=qbl.rows (x2++[x15])from Codec.append qq9 x2 [x15]];conv=>whnf
  obtain⟨h1,h⟩:=qaw h;refine⟨⟨Codec.wide qq9 (x2++[x15]),of_decide_eq_true h1,qdx h1 (by decide)⟩,?_⟩;conv=>whnf
  refine⟨⟨rfl,rfl,rfl⟩,?_⟩;conv=>whnf
  exact⟨((x2++[x15]),(IntKind.i64.wrap (x3+1))),h,wk [2] []⟩
 ·obtain rfl:=sj h
  conv=>whnf
  try exact fin
abbrev qzu (r:qbl):PV:=(PV.ifc (qbl.tid r) (qbl.val r))
def qny (n:Nat) (a0z:qar):Option (qbl):=
 match a0z with
 | ⟨⟨x1,x2,⟨x3,x4,x5,x6,x7,x8⟩,x9,x10⟩,x11⟩=>
 some (qbl.sorted (qar.mk (qab.mk x1 x2 (Val.mk x3 x4 x5 x6 x7 x8) x9 x10) x11))
theorem qx4 (n:Nat):∀ (a0z:qar) (r:qbl),qny n a0z=some r->qae Tryz.prog 73 [PV.agg (qpz.cells a0z)] (qzu r):=by
 intro a0z r h;obtain⟨⟨x1,x2,⟨x3,x4,x5,x6,x7,x8⟩,x9,x10⟩,x11⟩:=a0z;unfold qny at h;refine qae.of_vcN qa3 (fun _ _=>Tryz.call73 _ _) Tryz.func73 (by kernel_rfl) (inl:=[1000000]) ?_;obtain rfl:=sj h;conv=>whnf
 try exact fin
abbrev qn9 (r:List qbl):PV:=PV.sl (qbl.rows r)
def qbw (n:Nat) (x1:List qar):(List qbl×Int->Option (List qbl))->List qbl×Int->Option (List qbl):=fun nx1 (x2,x3)=>
 bif(decide (x3<((qar.rows x1).length:Int)))then(
 bnd (idx x1 x3) fun⟨⟨x4,x5,⟨x6,x7,x8,x9,x10,x11⟩,x12,x13⟩,x14⟩=>
 bnd (qny n (qar.mk (qab.mk x4 x5 (Val.mk x6 x7 x8 x9 x10 x11) x12 x13) x14)) fun x15=>
 chk (decide ((qbl.rows (x2++[x15])).length * 16<=140737488355328)) (
 nx1 ((x2++[x15]),(IntKind.i64.wrap (x3+1)))))
 else(
 some x2)
def qdn (n:Nat) (x1:List qar):Option (List qbl):=
 qap (qbw n x1) n (([]:List _),(0:Int))
theorem qm5 (n:Nat):∀ (x1:List qar) (r:List qbl),qdn n x1=some r->qae Tryz.prog 72 [PV.sl (qar.rows x1),PV.fn 73] (qn9 r):=by
 intro x1 r h;unfold qdn at h;refine qae.of_vcN qa3 (fun _ _=>Tryz.call72 _ _) Tryz.func72 (by kernel_rfl) (inl:=[1000000]) ?_;conv=>whnf
 refine qby.fn [1000000] (S:=List qbl×Int) (fun(x2,x3)=>[(1,.p (.fn 73)),(5,.tsl 0 (qbl.rows x2)),(8,pO x1),(9,.p (.int .i64 ((qar.rows x1).length:Int))),(10,pI x3)]) (fun(x2,x3)=>[.tail 103 1 (qbl.rows x2).length]) (B:=qbw n x1) h (wk [0] [0]) ?_;intro nx1 st h;obtain⟨x2,x3⟩:=st;unfold qbw at h;conv=>whnf
 refine ifc h (fun hc h=>?_) (fun hc h=>?_)
 ·conv=>whnf
  replace h:=qaa h;obtain⟨⟨⟨x4,x5,⟨x6,x7,x8,x9,x10,x11⟩,x12,x13⟩,x14⟩,h3,h⟩:=h;refine⟨_,Codec.at_ qpz h3,?_⟩;conv=>whnf
  replace h:=qaa h;obtain⟨x15,h2,h⟩:=h;refine⟨_,(qx4 n _ _ h2),?_⟩;conv=>whnf
  refine⟨Codec.one qq9 [x15],qbl.rows [x15],.inl rfl,?_⟩;conv=>whnf
  rw[show qbl.rows x2++qbl.rows [x15]=qbl.rows (x2++[x15])from Codec.append qq9 x2 [x15]];conv=>whnf
  obtain⟨h1,h⟩:=qaw h;refine⟨⟨Codec.wide qq9 (x2++[x15]),of_decide_eq_true h1,qdx h1 (by decide)⟩,?_⟩;conv=>whnf
  refine⟨⟨rfl,rfl,rfl⟩,?_⟩;conv=>whnf
  exact⟨((x2++[x15]),(IntKind.i64.wrap (x3+1))),h,wk [2] []⟩
 ·obtain rfl:=sj h
  conv=>whnf
  try exact fin
abbrev qzv (r:qbl):PV:=(PV.ifc (qbl.tid r) (qbl.val r))
def qnz (n:Nat) (a0z:qab):Option (qbl):=
 match a0z with
 | ⟨x1,x2,⟨x3,x4,x5,x6,x7,x8⟩,x9,x10⟩=>
 some (qbl.expr (qab.mk x1 x2 (Val.mk x3 x4 x5 x6 x7 x8) x9 x10))
theorem qx5 (n:Nat):∀ (a0z:qab) (r:qbl),qnz n a0z=some r->qae Tryz.prog 74 [PV.agg (qca.cells a0z)] (qzv r):=by
 intro a0z r h;obtain⟨x1,x2,⟨x3,x4,x5,x6,x7,x8⟩,x9,x10⟩:=a0z;unfold qnz at h;refine qae.of_vcN qa3 (fun _ _=>Tryz.call74 _ _) Tryz.func74 (by kernel_rfl) (inl:=[1000000]) ?_;obtain rfl:=sj h;conv=>whnf
 try exact fin
abbrev qn5 (r:List qbl):PV:=PV.sl (qbl.rows r)
def qbs (n:Nat) (x1:List qab):(List qbl×Int->Option (List qbl))->List qbl×Int->Option (List qbl):=fun nx1 (x2,x3)=>
 bif(decide (x3<((qab.rows x1).length:Int)))then(
 bnd (idx x1 x3) fun⟨x4,x5,⟨x6,x7,x8,x9,x10,x11⟩,x12,x13⟩=>
 bnd (qnz n (qab.mk x4 x5 (Val.mk x6 x7 x8 x9 x10 x11) x12 x13)) fun x14=>
 chk (decide ((qbl.rows (x2++[x14])).length * 16<=140737488355328)) (
 nx1 ((x2++[x14]),(IntKind.i64.wrap (x3+1)))))
 else(
 some x2)
def qdj (n:Nat) (x1:List qab):Option (List qbl):=
 qap (qbs n x1) n (([]:List _),(0:Int))
theorem qm1 (n:Nat):∀ (x1:List qab) (r:List qbl),qdj n x1=some r->qae Tryz.prog 68 [PV.sl (qab.rows x1),PV.fn 74] (qn5 r):=by
 intro x1 r h;unfold qdj at h;refine qae.of_vcN qa3 (fun _ _=>Tryz.call68 _ _) Tryz.func68 (by kernel_rfl) (inl:=[1000000]) ?_;conv=>whnf
 refine qby.fn [1000000] (S:=List qbl×Int) (fun(x2,x3)=>[(1,.p (.fn 74)),(5,.tsl 0 (qbl.rows x2)),(8,pE x1),(9,.p (.int .i64 ((qab.rows x1).length:Int))),(10,pI x3)]) (fun(x2,x3)=>[.tail 103 1 (qbl.rows x2).length]) (B:=qbs n x1) h (wk [0] [0]) ?_;intro nx1 st h;obtain⟨x2,x3⟩:=st;unfold qbs at h;conv=>whnf
 refine ifc h (fun hc h=>?_) (fun hc h=>?_)
 ·conv=>whnf
  replace h:=qaa h;obtain⟨⟨x4,x5,⟨x6,x7,x8,x9,x10,x11⟩,x12,x13⟩,h3,h⟩:=h;refine⟨_,Codec.at_ qca h3,?_⟩;conv=>whnf
  replace h:=qaa h;obtain⟨x14,h2,h⟩:=h;refine⟨_,(qx5 n _ _ h2),?_⟩;conv=>whnf
  refine⟨Codec.one qq9 [x14],qbl.rows [x14],.inl rfl,?_⟩;conv=>whnf
  rw[show qbl.rows x2++qbl.rows [x14]=qbl.rows (x2++[x14])from Codec.append qq9 x2 [x14]];conv=>whnf
  obtain⟨h1,h⟩:=qaw h;refine⟨⟨Codec.wide qq9 (x2++[x14]),of_decide_eq_true h1,qdx h1 (by decide)⟩,?_⟩;conv=>whnf
  refine⟨⟨rfl,rfl,rfl⟩,?_⟩;conv=>whnf
  exact⟨((x2++[x14]),(IntKind.i64.wrap (x3+1))),h,wk [2] []⟩
 ·obtain rfl:=sj h
  conv=>whnf
  try exact fin
abbrev qzw (r:qbl):PV:=(PV.ifc (qbl.tid r) (qbl.val r))
def qn0 (n:Nat) (a0z:qab):Option (qbl):=
 match a0z with
 | ⟨x1,x2,⟨x3,x4,x5,x6,x7,x8⟩,x9,x10⟩=>
 some (qbl.expr (qab.mk x1 x2 (Val.mk x3 x4 x5 x6 x7 x8) x9 x10))
theorem qx6 (n:Nat):∀ (a0z:qab) (r:qbl),qn0 n a0z=some r->qae Tryz.prog 75 [PV.agg (qca.cells a0z)] (qzw r):=by
 intro a0z r h;obtain⟨x1,x2,⟨x3,x4,x5,x6,x7,x8⟩,x9,x10⟩:=a0z;unfold qn0 at h;refine qae.of_vcN qa3 (fun _ _=>Tryz.call75 _ _) Tryz.func75 (by kernel_rfl) (inl:=[1000000]) ?_;obtain rfl:=sj h;conv=>whnf
 try exact fin
abbrev qn6 (r:List qbl):PV:=PV.sl (qbl.rows r)
def qbt (n:Nat) (x1:List qab):(List qbl×Int->Option (List qbl))->List qbl×Int->Option (List qbl):=fun nx1 (x2,x3)=>
 bif(decide (x3<((qab.rows x1).length:Int)))then(
 bnd (idx x1 x3) fun⟨x4,x5,⟨x6,x7,x8,x9,x10,x11⟩,x12,x13⟩=>
 bnd (qn0 n (qab.mk x4 x5 (Val.mk x6 x7 x8 x9 x10 x11) x12 x13)) fun x14=>
 chk (decide ((qbl.rows (x2++[x14])).length * 16<=140737488355328)) (
 nx1 ((x2++[x14]),(IntKind.i64.wrap (x3+1)))))
 else(
 some x2)
def qdk (n:Nat) (x1:List qab):Option (List qbl):=
 qap (qbt n x1) n (([]:List _),(0:Int))
theorem qm2 (n:Nat):∀ (x1:List qab) (r:List qbl),qdk n x1=some r->qae Tryz.prog 68 [PV.sl (qab.rows x1),PV.fn 75] (qn6 r):=by
 intro x1 r h;unfold qdk at h;refine qae.of_vcN qa3 (fun _ _=>Tryz.call68 _ _) Tryz.func68 (by kernel_rfl) (inl:=[1000000]) ?_;conv=>whnf
 refine qby.fn [1000000] (S:=List qbl×Int) (fun(x2,x3)=>[(1,.p (.fn 75)),(5,.tsl 0 (qbl.rows x2)),(8,pE x1),(9,.p (.int .i64 ((qab.rows x1).length:Int))),(10,pI x3)]) (fun(x2,x3)=>[.tail 103 1 (qbl.rows x2).length]) (B:=qbt n x1) h (wk [0] [0]) ?_;intro nx1 st h;obtain⟨x2,x3⟩:=st;unfold qbt at h;conv=>whnf
 refine ifc h (fun hc h=>?_) (fun hc h=>?_)
 ·conv=>whnf
  replace h:=qaa h;obtain⟨⟨x4,x5,⟨x6,x7,x8,x9,x10,x11⟩,x12,x13⟩,h3,h⟩:=h;refine⟨_,Codec.at_ qca h3,?_⟩;conv=>whnf
  replace h:=qaa h;obtain⟨x14,h2,h⟩:=h;refine⟨_,(qx6 n _ _ h2),?_⟩;conv=>whnf
  refine⟨Codec.one qq9 [x14],qbl.rows [x14],.inl rfl,?_⟩;conv=>whnf
  rw[show qbl.rows x2++qbl.rows [x14]=qbl.rows (x2++[x14])from Codec.append qq9 x2 [x14]];conv=>whnf
  obtain⟨h1,h⟩:=qaw h;refine⟨⟨Codec.wide qq9 (x2++[x14]),of_decide_eq_true h1,qdx h1 (by decide)⟩,?_⟩;conv=>whnf
  refine⟨⟨rfl,rfl,rfl⟩,?_⟩;conv=>whnf
  exact⟨((x2++[x14]),(IntKind.i64.wrap (x3+1))),h,wk [2] []⟩
 ·obtain rfl:=sj h
  conv=>whnf
  try exact fin
abbrev qzx (r:qbl):PV:=(PV.ifc (qbl.tid r) (qbl.val r))
def qn1 (n:Nat) (x1:SS):Option (qbl):=
 some (qbl.name x1)
theorem qx7 (n:Nat):∀ (x1:SS) (r:qbl),qn1 n x1=some r->qae Tryz.prog 77 [PV.str x1] (qzx r):=by
 intro x1 r h;unfold qn1 at h;refine qae.of_vcN qa3 (fun _ _=>Tryz.call77 _ _) Tryz.func77 (by kernel_rfl) (inl:=[1000000]) ?_;obtain rfl:=sj h;conv=>whnf
 try exact fin
abbrev qoo (r:List qbl):PV:=PV.sl (qbl.rows r)
def qb6 (n:Nat) (x1:List SS):(List qbl×Int->Option (List qbl))->List qbl×Int->Option (List qbl):=fun nx1 (x2,x3)=>
 bif(decide (x3<((qam x1).length:Int)))then(
 bnd (idx x1 x3) fun x4=>
 bnd (qn1 n x4) fun x5=>
 chk (decide ((qbl.rows (x2++[x5])).length * 16<=140737488355328)) (
 nx1 ((x2++[x5]),(IntKind.i64.wrap (x3+1)))))
 else(
 some x2)
def qd1 (n:Nat) (x1:List SS):Option (List qbl):=
 qap (qb6 n x1) n (([]:List _),(0:Int))
theorem qob (n:Nat):∀ (x1:List SS) (r:List qbl),qd1 n x1=some r->qae Tryz.prog 76 [PV.sl (qam x1),PV.fn 77] (qoo r):=by
 intro x1 r h;unfold qd1 at h;refine qae.of_vcN qa3 (fun _ _=>Tryz.call76 _ _) Tryz.func76 (by kernel_rfl) (inl:=[1000000]) ?_;conv=>whnf
 refine qby.fn [1000000] (S:=List qbl×Int) (fun(x2,x3)=>[(1,.p (.fn 77)),(5,.tsl 0 (qbl.rows x2)),(8,pT x1),(9,.p (.int .i64 ((qam x1).length:Int))),(10,pI x3)]) (fun(x2,x3)=>[.tail 103 1 (qbl.rows x2).length]) (B:=qb6 n x1) h (wk [0] [0]) ?_;intro nx1 st h;obtain⟨x2,x3⟩:=st;unfold qb6 at h;conv=>whnf
 refine ifc h (fun hc h=>?_) (fun hc h=>?_)
 ·conv=>whnf
  replace h:=qaa h;obtain⟨x4,h3,h⟩:=h;refine⟨_,Codec.at_ qqt h3,?_⟩;conv=>whnf
  replace h:=qaa h;obtain⟨x5,h2,h⟩:=h;refine⟨_,(qx7 n _ _ h2),?_⟩;conv=>whnf
  refine⟨Codec.one qq9 [x5],qbl.rows [x5],.inl rfl,?_⟩;conv=>whnf
  rw[show qbl.rows x2++qbl.rows [x5]=qbl.rows (x2++[x5])from Codec.append qq9 x2 [x5]];conv=>whnf
  obtain⟨h1,h⟩:=qaw h;refine⟨⟨Codec.wide qq9 (x2++[x5]),of_decide_eq_true h1,qdx h1 (by decide)⟩,?_⟩;conv=>whnf
  refine⟨⟨rfl,rfl,rfl⟩,?_⟩;conv=>whnf
  exact⟨((x2++[x5]),(IntKind.i64.wrap (x3+1))),h,wk [1] []⟩
 ·obtain rfl:=sj h
  conv=>whnf
  try exact fin
abbrev qzy (x14:Int) (x15:List qa9) (x16:List qab) (x17:Int) (x18:SS) (x19:Int) (x20:Bool) (x21:Int) (x22:SS) (x23:List Val) (x24 x25:List SS) (x26:List qab) (x27:SS) (x28:List qbh) (x29:Bool) (x30:List qar) (x31 x32:List qab) (x33:List qag) (x34:List SS) (x35:Bool) (r:qbl):FV:=.p ((PV.ifc (qbl.tid r) (qbl.val r)))
abbrev qzn (x14:Int) (x15:List qa9) (x16:List qab) (x17:Int) (x18:SS) (x19:Int) (x20:Bool) (x21:Int) (x22:SS) (x23:List Val) (x24 x25:List SS) (x26:List qab) (x27:SS) (x28:List qbh) (x29:Bool) (x30:List qar) (x31 x32:List qab) (x33:List qag) (x34:List SS) (x35:Bool) (r:qbl):List AObj:=[.box 55 [pI x14,pP x15,pE x16,pI x17,pS x18,pI x19,pB x20,pI x21,pS x22,pV x23,pT x24,pT x25,pE x26,pS x27,pA x28,pB x29,pO x30,pE x31,pE x32,pU x33,pT x34,pB x35]]
def qn2 (n:Nat) (a0z:qag) (x14:Int) (x15:List qa9) (x16:List qab) (x17:Int) (x18:SS) (x19:Int) (x20:Bool) (x21:Int) (x22:SS) (x23:List Val) (x24 x25:List SS) (x26:List qab) (x27:SS) (x28:List qbh) (x29:Bool) (x30:List qar) (x31 x32:List qab) (x33:List qag) (x34:List SS) (x35:Bool):Option (qbl):=
 match a0z with
 | ⟨x1,x2,x3,⟨x4,x5,⟨x6,x7,x8,x9,x10,x11⟩,x12,x13⟩⟩=>
 some (qbl.change (qtk.mk (qag.mk x1 x2 x3 (qab.mk x4 x5 (Val.mk x6 x7 x8 x9 x10 x11) x12 x13)) (x14==6)))
theorem qx8 (n:Nat):∀ (a0z:qag) (x14:Int) (x15:List qa9) (x16:List qab) (x17:Int) (x18:SS) (x19:Int) (x20:Bool) (x21:Int) (x22:SS) (x23:List Val) (x24 x25:List SS) (x26:List qab) (x27:SS) (x28:List qbh) (x29:Bool) (x30:List qar) (x31 x32:List qab) (x33:List qag) (x34:List SS) (x35:Bool) (r:qbl),qn2 n a0z x14 x15 x16 x17 x18 x19 x20 x21 x22 x23 x24 x25 x26 x27 x28 x29 x30 x31 x32 x33 x34 x35=some r->qau Tryz.prog 79 [.p (PV.agg (qi2.cells a0z)),.ptr 0 0] [.box 55 [pI x14,pP x15,pE x16,pI x17,pS x18,pI x19,pB x20,pI x21,pS x22,pV x23,pT x24,pT x25,pE x26,pS x27,pA x28,pB x29,pO x30,pE x31,pE x32,pU x33,pT x34,pB x35]] 1 (fun v lo=>v=qzy x14 x15 x16 x17 x18 x19 x20 x21 x22 x23 x24 x25 x26 x27 x28 x29 x30 x31 x32 x33 x34 x35 r/\lo=qzn x14 x15 x16 x17 x18 x19 x20 x21 x22 x23 x24 x25 x26 x27 x28 x29 x30 x31 x32 x33 x34 x35 r):=by
 intro a0z x14 x15 x16 x17 x18 x19 x20 x21 x22 x23 x24 x25 x26 x27 x28 x29 x30 x31 x32 x33 x34 x35 r h;obtain⟨x1,x2,x3,⟨x4,x5,⟨x6,x7,x8,x9,x10,x11⟩,x12,x13⟩⟩:=a0z;unfold qn2 at h;refine qau.of_vc qa3 (fun _ _=>Tryz.call79 _ _) Tryz.func79 (by kernel_rfl) (inl:=[1000000]) (Nat.le_of_ble_eq_true rfl) ?_;obtain rfl:=sj h;conv=>whnf
 refine⟨_,_,⟨rfl,rfl⟩,wk [0] []⟩
abbrev qma (x2:Int) (x3:List qa9) (x4:List qab) (x5:Int) (x6:SS) (x7:Int) (x8:Bool) (x9:Int) (x10:SS) (x11:List Val) (x12 x13:List SS) (x14:List qab) (x15:SS) (x16:List qbh) (x17:Bool) (x18:List qar) (x19 x20:List qab) (x21:List qag) (x22:List SS) (x23:Bool) (r:(List qbl)):FV:=.p (.sl (qbl.rows r))
abbrev ql9 (x2:Int) (x3:List qa9) (x4:List qab) (x5:Int) (x6:SS) (x7:Int) (x8:Bool) (x9:Int) (x10:SS) (x11:List Val) (x12 x13:List SS) (x14:List qab) (x15:SS) (x16:List qbh) (x17:Bool) (x18:List qar) (x19 x20:List qab) (x21:List qag) (x22:List SS) (x23:Bool) (r:(List qbl)):List AObj:=[.box 55 [pI x2,pP x3,pE x4,pI x5,pS x6,pI x7,pB x8,pI x9,pS x10,pV x11,pT x12,pT x13,pE x14,pS x15,pA x16,pB x17,pO x18,pE x19,pE x20,pU x21,pT x22,pB x23]]
def qbi (n:Nat) (x1:List qag) (x2:Int) (x3:List qa9) (x4:List qab) (x5:Int) (x6:SS) (x7:Int) (x8:Bool) (x9:Int) (x10:SS) (x11:List Val) (x12 x13:List SS) (x14:List qab) (x15:SS) (x16:List qbh) (x17:Bool) (x18:List qar) (x19 x20:List qab) (x21:List qag) (x22:List SS) (x23:Bool):(List qbl×Int->Option ((List qbl)))->List qbl×Int->Option ((List qbl)):=fun nx1 (x24,x25)=>
 bif(decide (x25<((qag.rows x1).length:Int)))then(
 bnd (idx x1 x25) fun⟨x26,x27,x28,⟨x29,x30,⟨x31,x32,x33,x34,x35,x36⟩,x37,x38⟩⟩=>
 bnd (qn2 n (qag.mk x26 x27 x28 (qab.mk x29 x30 (Val.mk x31 x32 x33 x34 x35 x36) x37 x38)) x2 x3 x4 x5 x6 x7 x8 x9 x10 x11 x12 x13 x14 x15 x16 x17 x18 x19 x20 x21 x22 x23) fun x39=>
 chk (decide ((qbl.rows (x24++[x39])).length * 16<=140737488355328)) (
 nx1 ((x24++[x39]),(IntKind.i64.wrap (x25+1)))))
 else(
 some x24)
def qc4 (n:Nat) (x1:List qag) (x2:Int) (x3:List qa9) (x4:List qab) (x5:Int) (x6:SS) (x7:Int) (x8:Bool) (x9:Int) (x10:SS) (x11:List Val) (x12 x13:List SS) (x14:List qab) (x15:SS) (x16:List qbh) (x17:Bool) (x18:List qar) (x19 x20:List qab) (x21:List qag) (x22:List SS) (x23:Bool):Option ((List qbl)):=
 qap (qbi n x1 x2 x3 x4 x5 x6 x7 x8 x9 x10 x11 x12 x13 x14 x15 x16 x17 x18 x19 x20 x21 x22 x23) n (([]:List _),(0:Int))
theorem qlc (n:Nat):∀ (x1:List qag) (x2:Int) (x3:List qa9) (x4:List qab) (x5:Int) (x6:SS) (x7:Int) (x8:Bool) (x9:Int) (x10:SS) (x11:List Val) (x12 x13:List SS) (x14:List qab) (x15:SS) (x16:List qbh) (x17:Bool) (x18:List qar) (x19 x20:List qab) (x21:List qag) (x22:List SS) (x23:Bool) (r:(List qbl)),qc4 n x1 x2 x3 x4 x5 x6 x7 x8 x9 x10 x11 x12 x13 x14 x15 x16 x17 x18 x19 x20 x21 x22 x23=some r->qau Tryz.prog 78 [.p (PV.sl (qag.rows x1)),.clo 79 (.cap (.ptr 0 0) (.cap0))] [.box 55 [pI x2,pP x3,pE x4,pI x5,pS x6,pI x7,pB x8,pI x9,pS x10,pV x11,pT x12,pT x13,pE x14,pS x15,pA x16,pB x17,pO x18,pE x19,pE x20,pU x21,pT x22,pB x23]] 1 (fun v lo=>v=qma x2 x3 x4 x5 x6 x7 x8 x9 x10 x11 x12 x13 x14 x15 x16 x17 x18 x19 x20 x21 x22 x23 r/\lo=ql9 x2 x3 x4 x5 x6 x7 x8 x9 x10 x11 x12 x13 x14 x15 x16 x17 x18 x19 x20 x21 x22 x23 r):=by
 intro x1 x2 x3 x4 x5 x6 x7 x8 x9 x10 x11 x12 x13 x14 x15 x16 x17 x18 x19 x20 x21 x22 x23 r h;unfold qc4 at h;refine qau.of_vc qa3 (fun _ _=>Tryz.call78 _ _) Tryz.func78 (by kernel_rfl) (inl:=[20000015,1000000]) (Nat.le_of_ble_eq_true rfl) ?_;conv=>whnf
 refine qby.fn [20000015,1000000] (S:=List qbl×Int) (fun(x24,x25)=>[(1,.clo 79 (.cap (.ptr 0 0) (.cap0))),(5,.tsl 1 (qbl.rows x24)),(8,pU x1),(9,.p (.int .i64 ((qag.rows x1).length:Int))),(10,pI x25)]) (fun(x24,x25)=>[.box 55 [pI x2,pP x3,pE x4,pI x5,pS x6,pI x7,pB x8,pI x9,pS x10,pV x11,pT x12,pT x13,pE x14,pS x15,pA x16,pB x17,pO x18,pE x19,pE x20,pU x21,pT x22,pB x23],.tail 103 1 (qbl.rows x24).length]) (B:=qbi n x1 x2 x3 x4 x5 x6 x7 x8 x9 x10 x11 x12 x13 x14 x15 x16 x17 x18 x19 x20 x21 x22 x23) h (wk [0,0] [1]) ?_;intro nx1 st h;obtain⟨x24,x25⟩:=st;unfold qbi at h;conv=>whnf
 refine ifc h (fun hc h=>?_) (fun hc h=>?_)
 ·conv=>whnf
  replace h:=qaa h;obtain⟨⟨x26,x27,x28,⟨x29,x30,⟨x31,x32,x33,x34,x35,x36⟩,x37,x38⟩⟩,h3,h⟩:=h;refine⟨_,Codec.at_ qi2 h3,?_⟩;conv=>whnf
  replace h:=qaa h;obtain⟨x39,h1,h⟩:=h;refine qcl (qx8 n _ _ _ _ _ _ _ _ _ _ _ _ _ _ _ _ _ _ _ _ _ _ _ _ h1) [0] [] ?_;rintro _ _ ⟨rfl,rfl⟩;refine⟨.p ((PV.ifc (qbl.tid x39) (qbl.val x39))),[.box 55 [pI x2,pP x3,pE x4,pI x5,pS x6,pI x7,pB x8,pI x9,pS x10,pV x11,pT x12,pT x13,pE x14,pS x15,pA x16,pB x17,pO x18,pE x19,pE x20,pU x21,pT x22,pB x23],.tail 103 1 (qbl.rows x24).length,.box 69 [pS x26,pS x27,pS x28,pI x29,pS x30,pI x31,pB x32,pI x33,pS x34,pV x35,pT x36,pT x37,pE x38]],rfl,rfl,?_⟩;conv=>whnf
  refine⟨Codec.one qq9 [x39],qbl.rows [x39],.inl rfl,?_⟩;conv=>whnf
  rw[show qbl.rows x24++qbl.rows [x39]=qbl.rows (x24++[x39])from Codec.append qq9 x24 [x39]];conv=>whnf
  obtain⟨h2,h⟩:=qaw h;refine⟨⟨Codec.wide qq9 (x24++[x39]),of_decide_eq_true h2,qdx h2 (by decide)⟩,?_⟩;conv=>whnf
  refine⟨⟨rfl,rfl,rfl⟩,?_⟩;conv=>whnf
  exact⟨((x24++[x39]),(IntKind.i64.wrap (x25+1))),h,wk [0,3] []⟩
 ·obtain rfl:=sj h
  conv=>whnf
  refine⟨_,_,⟨rfl,rfl⟩,wk [0] []⟩
abbrev qry (r:Bool):PV:=PV.bool r
def qdg (n:Nat) (x1 x2:List SS):(Int->Option (Bool))->Int->Option (Bool):=fun nx1 x3=>
 bif(decide (x3<((qam x1).length:Int)))then(
 bnd (idx x1 x3) fun x4=>
 bnd (idx x2 x3) fun x5=>
 bif(!(x4==x5))then(
 some false)
 else(
 nx1 (IntKind.i64.wrap (x3+1))))
 else(
 some true)
def qd7 (n:Nat) (x1 x2:List SS):Option (Bool):=
 bif(((qam x1).length:Int) != ((qam x2).length:Int))then(
 some false)
 else(
 qap (qdg n x1 x2) n (0:Int))
theorem qq4 (n:Nat):∀ (x1 x2:List SS) (r:Bool),qd7 n x1 x2=some r->qae Tryz.prog 133 [PV.sl (qam x1),PV.sl (qam x2)] (qry r):=by
 intro x1 x2 r h;unfold qd7 at h;refine qae.of_vcN qa3 (fun _ _=>Tryz.call133 _ _) Tryz.func133 (by kernel_rfl) (inl:=[1000000]) ?_;conv=>whnf
 refine ifc h (fun hc h=>?_) (fun hc h=>?_)
 ·obtain rfl:=sj h
  conv=>whnf
  try exact fin
 ·conv=>whnf
  refine qby.fn [1000000] (S:=Int) (fun x3=>[(0,pT x1),(1,pT x2),(12,.p (.int .i64 ((qam x1).length:Int))),(13,pI x3)]) (fun x3=>[]) (B:=qdg n x1 x2) h (wk [] []) ?_;intro nx1 x3 h;unfold qdg at h;conv=>whnf
  refine ifc h (fun hc h=>?_) (fun hc h=>?_)
  ·conv=>whnf
   replace h:=qaa h;obtain⟨x4,h2,h⟩:=h;refine⟨_,Codec.at_ qqt h2,?_⟩;conv=>whnf
   replace h:=qaa h;obtain⟨x5,h1,h⟩:=h;refine⟨_,Codec.at_ qqt h1,?_⟩;conv=>whnf
   refine ifc h (fun hc h=>?_) (fun hc h=>?_)
   ·obtain rfl:=sj h
    conv=>whnf
    try exact fin
   ·conv=>whnf
    exact⟨(IntKind.i64.wrap (x3+1)),h,wk [] []⟩
  ·obtain rfl:=sj h
   conv=>whnf
   try exact fin
abbrev qop (r:Bool):PV:=PV.bool r
abbrev zo5:Type:=Val->Val->Option (Bool)
def qsg (n:Nat) (g126:zo5) (g134z126:(List Val)->(List Val)->Option (Bool)) (a0z a1z:Val):Option (Bool):=
 match a0z,a1z with
 | ⟨x1,x2,x3,x4,x5,x6⟩,⟨x7,x8,x9,x10,x11,x12⟩=>
 bnd (qa5 (bif(bif(bif(x1==x7)then(x2==x8)else false)then(x3==x9)else false)then(x4==x10)else false) (qd7 n x6 x12)) fun x13=>
 bnd (qa5 (bif(bif(bif(bif(x1==x7)then(x2==x8)else false)then(x3==x9)else false)then(x4==x10)else false)then x13 else false) (g134z126 x5 x11)) fun x14=>
 some (bif(bif(bif(bif(bif(x1==x7)then(x2==x8)else false)then(x3==x9)else false)then(x4==x10)else false)then x13 else false)then x14 else false)
abbrev qa1 (r:Bool):PV:=PV.bool r
def qas (n:Nat) (x1 x2:List Val) (g126:zo5):(Int->Option (Bool))->Int->Option (Bool):=fun nx1 x3=>
 bif(decide (x3<((Val.rows x1).length:Int)))then(
 bnd (idx x1 x3) fun⟨x4,x5,x6,x7,x8,x9⟩=>
 bnd (idx x2 x3) fun⟨x10,x11,x12,x13,x14,x15⟩=>
 bnd (g126 (Val.mk x4 x5 x6 x7 x8 x9) (Val.mk x10 x11 x12 x13 x14 x15)) fun x16=>
 bif(!x16)then(
 some false)
 else(
 nx1 (IntKind.i64.wrap (x3+1))))
 else(
 some true)
def qa2 (n:Nat) (g126:zo5) (g134z126:(List Val)->(List Val)->Option (Bool)) (x1 x2:List Val):Option (Bool):=
 bif(((Val.rows x1).length:Int) != ((Val.rows x2).length:Int))then(
 some false)
 else(
 qap (qas n x1 x2 g126) n (0:Int))
theorem q3l (n:Nat) (g126:zo5) (g134z126:(List Val)->(List Val)->Option (Bool)) (g126_ok:∀ (a0z a1z:Val) (r:Bool),g126 a0z a1z=some r->qae Tryz.prog 126 [PV.agg (qtz.cells a0z),PV.agg (qtz.cells a1z)] (qop r)) (g134_126_ok:∀ (x1 x2:List Val) (r:Bool),g134z126 x1 x2=some r->qae Tryz.prog 134 [PV.sl (Val.rows x1),PV.sl (Val.rows x2),PV.fn 126] (qa1 r)):∀ (a0z a1z:Val) (r:Bool),qsg n g126 g134z126 a0z a1z=some r->qae Tryz.prog 126 [PV.agg (qtz.cells a0z),PV.agg (qtz.cells a1z)] (qop r):=by
 intro a0z a1z r h;obtain⟨x1,x2,x3,x4,x5,x6⟩:=a0z;obtain⟨x7,x8,x9,x10,x11,x12⟩:=a1z;unfold qsg at h;refine qae.of_vcN qa3 (fun _ _=>Tryz.call126 _ _) Tryz.func126 (by kernel_rfl) (inl:=[1000000]) ?_;conv=>whnf
 refine⟨id,id,id,id,id,id,id,id,id,id,id,id,id,id,id,id,id,id,id,?_⟩;conv=>whnf
 replace h:=qaa h;obtain⟨x13,h2,h⟩:=h;refine⟨_,fun hg=>(qq4 n _ _ _ (qah h2 hg)),?_⟩;conv=>whnf
 refine⟨id,id,id,id,id,?_⟩;conv=>whnf
 replace h:=qaa h;obtain⟨x14,h1,h⟩:=h;refine⟨_,fun hg=>(g134_126_ok _ _ _ (qah h1 hg)),?_⟩;conv=>whnf
 refine⟨id,?_⟩;obtain rfl:=sj h;conv=>whnf
 try exact fin
theorem qel (n:Nat) (g126:zo5) (g134z126:(List Val)->(List Val)->Option (Bool)) (g126_ok:∀ (a0z a1z:Val) (r:Bool),g126 a0z a1z=some r->qae Tryz.prog 126 [PV.agg (qtz.cells a0z),PV.agg (qtz.cells a1z)] (qop r)) (g134_126_ok:∀ (x1 x2:List Val) (r:Bool),g134z126 x1 x2=some r->qae Tryz.prog 134 [PV.sl (Val.rows x1),PV.sl (Val.rows x2),PV.fn 126] (qa1 r)):∀ (x1 x2:List Val) (r:Bool),qa2 n g126 g134z126 x1 x2=some r->qae Tryz.prog 134 [PV.sl (Val.rows x1),PV.sl (Val.rows x2),PV.fn 126] (qa1 r):=by
 intro x1 x2 r h;unfold qa2 at h;refine qae.of_vcN qa3 (fun _ _=>Tryz.call134 _ _) Tryz.func134 (by kernel_rfl) (inl:=[1000000]) ?_;conv=>whnf
 refine ifc h (fun hc h=>?_) (fun hc h=>?_)
 ·obtain rfl:=sj h
  conv=>whnf
  try exact fin
 ·conv=>whnf
  refine qby.fn [1000000] (S:=Int) (fun x3=>[(1,pV x2),(2,.p (.fn 126)),(15,pV x1),(16,.p (.int .i64 ((Val.rows x1).length:Int))),(17,pI x3)]) (fun x3=>[]) (B:=qas n x1 x2 g126) h (wk [] []) ?_;intro nx1 x3 h;unfold qas at h;conv=>whnf
  refine ifc h (fun hc h=>?_) (fun hc h=>?_)
  ·conv=>whnf
   replace h:=qaa h;obtain⟨⟨x4,x5,x6,x7,x8,x9⟩,h3,h⟩:=h;refine⟨_,Codec.at_ qtz h3,?_⟩;conv=>whnf
   replace h:=qaa h;obtain⟨⟨x10,x11,x12,x13,x14,x15⟩,h2,h⟩:=h;refine⟨_,Codec.at_ qtz h2,?_⟩;conv=>whnf
   replace h:=qaa h;obtain⟨x16,h1,h⟩:=h;refine⟨_,(g126_ok _ _ _ h1),?_⟩;conv=>whnf
   refine ifc h (fun hc h=>?_) (fun hc h=>?_)
   ·obtain rfl:=sj h
    conv=>whnf
    try exact fin
   ·conv=>whnf
    exact⟨(IntKind.i64.wrap (x3+1)),h,wk [] []⟩
  ·obtain rfl:=sj h
   conv=>whnf
   try exact fin
mutual
def qhk:Nat->Val->Val->Option (Bool)
 | 0=>fun _ _=>none
 | n+1=>qsg n (qhk n) (qao n)
def qao:Nat->(List Val)->(List Val)->Option (Bool)
 | 0=>fun _ _=>none
 | n+1=>qa2 n (qhk n) (qao n)
end
theorem q3w (n:Nat):(∀ (a0z a1z:Val) (r:Bool),qhk n a0z a1z=some r->qae Tryz.prog 126 [PV.agg (qtz.cells a0z),PV.agg (qtz.cells a1z)] (qop r))/\(∀ (x1 x2:List Val) (r:Bool),qao n x1 x2=some r->qae Tryz.prog 134 [PV.sl (Val.rows x1),PV.sl (Val.rows x2),PV.fn 126] (qa1 r)):=by
 induction n with
 | zero=>exact⟨(by intros; rename_i h; cases h),(by intros; rename_i h; cases h)⟩
 | succ n ih=>
  obtain⟨hg126,hg134_126⟩:=ih;exact⟨q3l n (qhk n) (qao n) hg126 hg134_126,qel n (qhk n) (qao n) hg126 hg134_126⟩
theorem qww (n:Nat):∀ (a0z a1z:Val) (r:Bool),qhk n a0z a1z=some r->qae Tryz.prog 126 [PV.agg (qtz.cells a0z),PV.agg (qtz.cells a1z)] (qop r):=(q3w n).1
abbrev q5x (r:Bool):PV:=PV.bool r
def qiw (n:Nat) (a0z:qab):Option (Bool):=
 match a0z with
 | ⟨x1,x2,⟨x3,x4,x5,x6,x7,x8⟩,x9,x10⟩=>
 bnd (qa5 (bif(x1==0)then(x2==([]:SS))else false) (qhk n (Val.mk x3 x4 x5 x6 x7 x8) (Val.mk (0:Int) false (0:Int) ([]:SS) ([]:List Val) ([]:List SS)))) fun x11=>
 some (bif(bif(bif(bif(x1==0)then(x2==([]:SS))else false)then x11 else false)then(((qam x9).length:Int)==0)else false)then(((qab.rows x10).length:Int)==0)else false)
theorem qv3 (n:Nat):∀ (a0z:qab) (r:Bool),qiw n a0z=some r->qae Tryz.prog 107 [PV.agg (qca.cells a0z)] (q5x r):=by
 intro a0z r h;obtain⟨x1,x2,⟨x3,x4,x5,x6,x7,x8⟩,x9,x10⟩:=a0z;unfold qiw at h;refine qae.of_vcN qa3 (fun _ _=>Tryz.call107 _ _) Tryz.func107 (by kernel_rfl) (inl:=[1000000]) ?_;conv=>whnf
 refine⟨id,id,id,id,id,id,?_⟩;conv=>whnf
 replace h:=qaa h;obtain⟨x11,h1,h⟩:=h;refine⟨_,fun hg=>(qae.leArgs (qww n _ _ _ (qah h1 hg)) (by try exact fin)),?_⟩;conv=>whnf
 refine⟨id,id,id,id,id,id,id,id,id,?_⟩;obtain rfl:=sj h;conv=>whnf
 try exact fin
abbrev q5w (r:Bool):PV:=PV.bool r
def qd8 (n:Nat) (a0z a1z:qad):Option (Bool):=
 match a0z,a1z with
 | ⟨x1,x2,x3,⟨x4,x5,⟨x6,x7,x8,x9,x10,x11⟩,x12,x13⟩,x14,x15,x16,x17,x18,x19,x20,x21,x22⟩,⟨x23,x24,x25,⟨x26,x27,⟨x28,x29,x30,x31,x32,x33⟩,x34,x35⟩,x36,x37,x38,x39,x40,x41,x42,x43,x44⟩=>
 bnd (qa5 ((bif(((qa9.rows x2).length:Int)==((qa9.rows x24).length:Int))then(((qab.rows x3).length:Int)==((qab.rows x25).length:Int))else false)&&(!(x26 != 0))) (qiw n (qab.mk x4 x5 (Val.mk x6 x7 x8 x9 x10 x11) x12 x13))) fun x45=>
 some (bif(bif(bif(bif(bif(bif(bif(bif(bif(bif(bif(((qa9.rows x2).length:Int)==((qa9.rows x24).length:Int))then(((qab.rows x3).length:Int)==((qab.rows x25).length:Int))else false)then(bif(x26 != 0)then true else x45)else false)then(x14==x36)else false)then(((qbh.rows x15).length:Int)==((qbh.rows x37).length:Int))else false)then(x16==x38)else false)then(((qar.rows x17).length:Int)==((qar.rows x39).length:Int))else false)then(((qab.rows x18).length:Int)==((qab.rows x40).length:Int))else false)then(((qab.rows x19).length:Int)==((qab.rows x41).length:Int))else false)then(((qag.rows x20).length:Int)==((qag.rows x42).length:Int))else false)then(((qam x21).length:Int)==((qam x43).length:Int))else false)then(x22==x44)else false)
set_option maxHeartbeats 4000000 in
theorem qft (n:Nat):∀ (a0z a1z:qad) (r:Bool),qd8 n a0z a1z=some r->qae Tryz.prog 80 [PV.agg (qcw.cells a0z),PV.agg (qcw.cells a1z)] (q5w r):=by
 intro a0z a1z r h;obtain⟨x1,x2,x3,⟨x4,x5,⟨x6,x7,x8,x9,x10,x11⟩,x12,x13⟩,x14,x15,x16,x17,x18,x19,x20,x21,x22⟩:=a0z;obtain⟨x23,x24,x25,⟨x26,x27,⟨x28,x29,x30,x31,x32,x33⟩,x34,x35⟩,x36,x37,x38,x39,x40,x41,x42,x43,x44⟩:=a1z;unfold qd8 at h;refine qae.of_vcN qa3 (fun _ _=>Tryz.call80 _ _) Tryz.func80 (by kernel_rfl) (inl:=[1000000]) ?_;conv=>whnf
 refine⟨id,id,id,id,id,id,id,id,id,id,id,id,id,?_⟩;conv=>whnf
 replace h:=qaa h;obtain⟨x45,h1,h⟩:=h;refine⟨_,fun hg=>(qv3 n _ _ (qah h1 hg)),?_⟩;conv=>whnf
 refine⟨id,id,id,id,id,id,id,id,id,id,id,id,id,id,id,id,id,id,id,id,id,id,id,id,id,id,id,id,id,id,id,id,id,id,id,id,id,id,id,id,id,id,id,id,id,id,id,id,id,id,id,id,id,id,id,id,id,id,id,id,?_⟩;obtain rfl:=sj h;conv=>whnf
 try exact fin
abbrev q4e (r:List qba×Bool):PV:=PV.tup [PV.sl (qba.rows r.1),PV.bool r.2]
def qhs (n:Nat) (x1:Int) (x2:List qa9) (x3:List qab) (x4:Int) (x5:SS) (x6:Int) (x7:Bool) (x8:Int) (x9:SS) (x10:List Val) (x11 x12:List SS) (x13:List qab) (x14:SS) (x15:List qbh) (x16:Bool) (x17:List qar) (x18 x19:List qab) (x20:List qag) (x21:List SS) (x22:Bool):List qba×List qab->Option (List qba×Bool):=fun(x35,x36)=>
 bnd (qd8 n (qad.mk x1 x2 x3 (qab.mk x4 x5 (Val.mk x6 x7 x8 x9 x10 x11) x12 x13) x14 x15 x16 x17 x18 x19 x20 x21 x22) (qad.mk x1 ([]:List qa9) x36 (qab.mk (0:Int) ([]:SS) (Val.mk (0:Int) false (0:Int) ([]:SS) ([]:List Val) ([]:List SS)) ([]:List SS) ([]:List qab)) ([]:SS) x15 x16 x17 x18 x19 ([]:List qag) ([]:List SS) false)) fun x37=>
 some (x35,x37)
def qix (n:Nat) (x1:Int) (x2:List qa9) (x3:List qab) (x4:Int) (x5:SS) (x6:Int) (x7:Bool) (x8:Int) (x9:SS) (x10:List Val) (x11 x12:List SS) (x13:List qab) (x14:SS) (x15:List qbh) (x16:Bool) (x17:List qar) (x18 x19:List qab) (x20:List qag) (x21:List SS) (x22:Bool) (x30:List qbl):SS->Option (List qba×Bool):=fun x47=>
 bnd (qd8 n (qad.mk x1 x2 x3 (qab.mk x4 x5 (Val.mk x6 x7 x8 x9 x10 x11) x12 x13) x14 x15 x16 x17 x18 x19 x20 x21 x22) (qad.mk x1 ([]:List qa9) ([]:List qab) (qab.mk (0:Int) ([]:SS) (Val.mk (0:Int) false (0:Int) ([]:SS) ([]:List Val) ([]:List SS)) ([]:List SS) ([]:List qab)) ([]:SS) ([]:List qbh) false ([]:List qar) ([]:List qab) ([]:List qab) x20 ([]:List SS) false)) fun x48=>
 some ([qba.mk x47 x30 (1:Int) (1048576:Int)],x48)
def qiy (n:Nat) (x1:Int) (x2:List qa9) (x3:List qab) (x4:Int) (x5:SS) (x6:Int) (x7:Bool) (x8:Int) (x9:SS) (x10:List Val) (x11 x12:List SS) (x13:List qab) (x14:SS) (x15:List qbh) (x16:Bool) (x17:List qar) (x18 x19:List qab) (x20:List qag) (x21:List SS) (x22:Bool) (x29:List qbl):SS->Option (List qba×Bool):=fun x49=>
 bnd (qd8 n (qad.mk x1 x2 x3 (qab.mk x4 x5 (Val.mk x6 x7 x8 x9 x10 x11) x12 x13) x14 x15 x16 x17 x18 x19 x20 x21 x22) (qad.mk x1 ([]:List qa9) ([]:List qab) (qab.mk (0:Int) ([]:SS) (Val.mk (0:Int) false (0:Int) ([]:SS) ([]:List Val) ([]:List SS)) ([]:List SS) ([]:List qab)) ([]:SS) ([]:List qbh) false ([]:List qar) ([]:List qab) ([]:List qab) ([]:List qag) x21 x22)) fun x50=>
 some ([qba.mk x49 x29 (1:Int) (1048576:Int)],x50)
def qkf (n:Nat) (x1:Int) (x2:List qa9) (x3:List qab) (x4:Int) (x5:SS) (x6:Int) (x7:Bool) (x8:Int) (x9:SS) (x10:List Val) (x11 x12:List SS) (x13:List qab) (x14:SS) (x15:List qbh) (x16:Bool) (x17:List qar) (x18 x19:List qab) (x20:List qag) (x21:List SS) (x22:Bool) (x30 x29:List qbl):Bool->Option (List qba×Bool):=fun x46=>
 bif x46 then(
 bif(x1==7)then(
 qix n x1 x2 x3 x4 x5 x6 x7 x8 x9 x10 x11 x12 x13 x14 x15 x16 x17 x18 x19 x20 x21 x22 x30 ([82,69,77,79,86,69,32]:SS))
 else(
 qix n x1 x2 x3 x4 x5 x6 x7 x8 x9 x10 x11 x12 x13 x14 x15 x16 x17 x18 x19 x20 x21 x22 x30 ([83,69,84,32]:SS)))
 else(
 bif(x1==8)then(
 bif x22 then(
 qiy n x1 x2 x3 x4 x5 x6 x7 x8 x9 x10 x11 x12 x13 x14 x15 x16 x17 x18 x19 x20 x21 x22 x29 ([68,69,84,65,67,72,32,68,69,76,69,84,69,32]:SS))
 else(
 qiy n x1 x2 x3 x4 x5 x6 x7 x8 x9 x10 x11 x12 x13 x14 x15 x16 x17 x18 x19 x20 x21 x22 x29 ([68,69,76,69,84,69,32]:SS)))
 else(
 bnd (qd8 n (qad.mk x1 x2 x3 (qab.mk x4 x5 (Val.mk x6 x7 x8 x9 x10 x11) x12 x13) x14 x15 x16 x17 x18 x19 x20 x21 x22) (qad.mk x1 ([]:List qa9) ([]:List qab) (qab.mk (0:Int) ([]:SS) (Val.mk (0:Int) false (0:Int) ([]:SS) ([]:List Val) ([]:List SS)) ([]:List SS) ([]:List qab)) ([]:SS) ([]:List qbh) false ([]:List qar) ([]:List qab) ([]:List qab) ([]:List qag) ([]:List SS) false)) fun x51=>
 some (([]:List qba),x51)))
def qhr (n:Nat) (x31:SS) (x25 x26:List qbl) (x27 x28:List qbl) (x1:Int) (x24:List qbl) (x2:List qa9) (x3:List qab) (x4:Int) (x5:SS) (x6:Int) (x7:Bool) (x8:Int) (x9:SS) (x10:List Val) (x11 x12:List SS) (x13:List qab) (x14:SS) (x15:List qbh) (x16:Bool) (x17:List qar) (x18 x19:List qab) (x20:List qag) (x21:List SS) (x22:Bool) (x23 x30 x29:List qbl):Bool->Option (List qba×Bool):=fun x34=>
 bif x34 then(
 chk (decide (((([82,69,84,85,82,78,32]:SS).length+x31.length:Nat):Int)<=q1g)) (
 chk (decide ((qba.rows ([qba.mk (([82,69,84,85,82,78,32]:SS)++x31) x25 (1:Int) (1048576:Int)]++[qba.mk ([32,79,82,68,69,82,32,66,89,32]:SS) x26 (0:Int) (1048576:Int),qba.mk ([32,83,75,73,80,32]:SS) x27 (0:Int) (1:Int),qba.mk ([32,76,73,77,73,84,32]:SS) x28 (0:Int) (1:Int)])).length * 56<=140737488355328)) (
 bif(x1==3)then(
 chk (decide (((([87,73,84,72,32]:SS).length+x31.length:Nat):Int)<=q1g)) (
 chk (decide (0<(qba.rows ([qba.mk (([82,69,84,85,82,78,32]:SS)++x31) x25 (1:Int) (1048576:Int)]++[qba.mk ([32,79,82,68,69,82,32,66,89,32]:SS) x26 (0:Int) (1048576:Int),qba.mk ([32,83,75,73,80,32]:SS) x27 (0:Int) (1:Int),qba.mk ([32,76,73,77,73,84,32]:SS) x28 (0:Int) (1:Int)])).length)) (
 bnd (([qba.mk (([82,69,84,85,82,78,32]:SS)++x31) x25 (1:Int) (1048576:Int)]++[qba.mk ([32,79,82,68,69,82,32,66,89,32]:SS) x26 (0:Int) (1048576:Int),qba.mk ([32,83,75,73,80,32]:SS) x27 (0:Int) (1:Int),qba.mk ([32,76,73,77,73,84,32]:SS) x28 (0:Int) (1:Int)])[0]?) fun⟨x38,x39,x40,x41⟩=>
 chk (decide ((qba.rows ((([qba.mk (([82,69,84,85,82,78,32]:SS)++x31) x25 (1:Int) (1048576:Int)]++[qba.mk ([32,79,82,68,69,82,32,66,89,32]:SS) x26 (0:Int) (1048576:Int),qba.mk ([32,83,75,73,80,32]:SS) x27 (0:Int) (1:Int),qba.mk ([32,76,73,77,73,84,32]:SS) x28 (0:Int) (1:Int)]).set 0 (qba.mk (([87,73,84,72,32]:SS)++x31) x39 x40 x41))++[qba.mk ([32,87,72,69,82,69,32]:SS) x24 (0:Int) (1:Int)])).length * 56<=140737488355328)) (
 qhs n x1 x2 x3 x4 x5 x6 x7 x8 x9 x10 x11 x12 x13 x14 x15 x16 x17 x18 x19 x20 x21 x22 (((([qba.mk (([82,69,84,85,82,78,32]:SS)++x31) x25 (1:Int) (1048576:Int)]++[qba.mk ([32,79,82,68,69,82,32,66,89,32]:SS) x26 (0:Int) (1048576:Int),qba.mk ([32,83,75,73,80,32]:SS) x27 (0:Int) (1:Int),qba.mk ([32,76,73,77,73,84,32]:SS) x28 (0:Int) (1:Int)]).set 0 (qba.mk (([87,73,84,72,32]:SS)++x31) x39 x40 x41))++[qba.mk ([32,87,72,69,82,69,32]:SS) x24 (0:Int) (1:Int)]),x3)))))
 else(
 qhs n x1 x2 x3 x4 x5 x6 x7 x8 x9 x10 x11 x12 x13 x14 x15 x16 x17 x18 x19 x20 x21 x22 (([qba.mk (([82,69,84,85,82,78,32]:SS)++x31) x25 (1:Int) (1048576:Int)]++[qba.mk ([32,79,82,68,69,82,32,66,89,32]:SS) x26 (0:Int) (1048576:Int),qba.mk ([32,83,75,73,80,32]:SS) x27 (0:Int) (1:Int),qba.mk ([32,76,73,77,73,84,32]:SS) x28 (0:Int) (1:Int)]),([]:List _))))))
 else(
 bif(x1==4)then(
 bnd (qd8 n (qad.mk x1 x2 x3 (qab.mk x4 x5 (Val.mk x6 x7 x8 x9 x10 x11) x12 x13) x14 x15 x16 x17 x18 x19 x20 x21 x22) (qad.mk x1 x2 ([]:List qab) (qab.mk (0:Int) ([]:SS) (Val.mk (0:Int) false (0:Int) ([]:SS) ([]:List Val) ([]:List SS)) ([]:List SS) ([]:List qab)) ([]:SS) ([]:List qbh) false ([]:List qar) ([]:List qab) ([]:List qab) ([]:List qag) ([]:List SS) false)) fun x42=>
 some ([qba.mk ([67,82,69,65,84,69,32]:SS) x23 (1:Int) (1048576:Int)],x42))
 else(
 bif(x1==5)then(
 bnd (qa5 (((qa9.rows x2).length:Int)==1) (idx x2 (0:Int))) fun⟨x43,x44⟩=>
 bif(bif(((qa9.rows x2).length:Int)==1)then(decide (((qai.rows x44).length:Int)>0))else false)then(
 some (([]:List qba),false))
 else(
 bnd (qd8 n (qad.mk x1 x2 x3 (qab.mk x4 x5 (Val.mk x6 x7 x8 x9 x10 x11) x12 x13) x14 x15 x16 x17 x18 x19 x20 x21 x22) (qad.mk x1 x2 ([]:List qab) (qab.mk (0:Int) ([]:SS) (Val.mk (0:Int) false (0:Int) ([]:SS) ([]:List Val) ([]:List SS)) ([]:List SS) ([]:List qab)) ([]:SS) ([]:List qbh) false ([]:List qar) ([]:List qab) ([]:List qab) ([]:List qag) ([]:List SS) false)) fun x45=>
 some ([qba.mk ([77,69,82,71,69,32]:SS) x23 (1:Int) (1:Int)],x45)))
 else(
 bif(x1==6)then(
 qkf n x1 x2 x3 x4 x5 x6 x7 x8 x9 x10 x11 x12 x13 x14 x15 x16 x17 x18 x19 x20 x21 x22 x30 x29 (x1==6))
 else(
 qkf n x1 x2 x3 x4 x5 x6 x7 x8 x9 x10 x11 x12 x13 x14 x15 x16 x17 x18 x19 x20 x21 x22 x30 x29 (x1==7)))))
def qhq (n:Nat) (x1:Int) (x2:List qa9) (x3:List qab) (x4:Int) (x5:SS) (x6:Int) (x7:Bool) (x8:Int) (x9:SS) (x10:List Val) (x11 x12:List SS) (x13:List qab) (x14:SS) (x15:List qbh) (x16:Bool) (x17:List qar) (x18 x19:List qab) (x20:List qag) (x21:List SS) (x22:Bool) (x23 x24:List qbl) (x25 x26:List qbl) (x27 x28:List qbl) (x30 x29:List qbl):SS->Option (List qba×Bool):=fun x31=>
 bif(x1==1)then(
 bnd (qd8 n (qad.mk x1 x2 x3 (qab.mk x4 x5 (Val.mk x6 x7 x8 x9 x10 x11) x12 x13) x14 x15 x16 x17 x18 x19 x20 x21 x22) (qad.mk x1 x2 x3 (qab.mk (0:Int) ([]:SS) (Val.mk (0:Int) false (0:Int) ([]:SS) ([]:List Val) ([]:List SS)) ([]:List SS) ([]:List qab)) ([]:SS) ([]:List qbh) false ([]:List qar) ([]:List qab) ([]:List qab) ([]:List qag) ([]:List SS) false)) fun x32=>
 some ([qba.mk ([77,65,84,67,72,32]:SS) x23 (1:Int) (1048576:Int),qba.mk ([32,87,72,69,82,69,32]:SS) x24 (0:Int) (1:Int)],x32))
 else(
 bif(x1==2)then(
 bnd (qd8 n (qad.mk x1 x2 x3 (qab.mk x4 x5 (Val.mk x6 x7 x8 x9 x10 x11) x12 x13) x14 x15 x16 x17 x18 x19 x20 x21 x22) (qad.mk x1 ([]:List qa9) ([]:List qab) (qab.mk x4 x5 (Val.mk x6 x7 x8 x9 x10 x11) x12 x13) x14 ([]:List qbh) false ([]:List qar) ([]:List qab) ([]:List qab) ([]:List qag) ([]:List SS) false)) fun x33=>
 some ([qba.mk ([85,78,87,73,78,68,32]:SS) [(qbl.expr (qab.mk x4 x5 (Val.mk x6 x7 x8 x9 x10 x11) x12 x13))] (1:Int) (1:Int),qba.mk ([32,65,83,32]:SS) [(qbl.name x14)] (1:Int) (1:Int)],x33))
 else(
 bif(x1==3)then(
 qhr n x31 x25 x26 x27 x28 x1 x24 x2 x3 x4 x5 x6 x7 x8 x9 x10 x11 x12 x13 x14 x15 x16 x17 x18 x19 x20 x21 x22 x23 x30 x29 (x1==3))
 else(
 qhr n x31 x25 x26 x27 x28 x1 x24 x2 x3 x4 x5 x6 x7 x8 x9 x10 x11 x12 x13 x14 x15 x16 x17 x18 x19 x20 x21 x22 x23 x30 x29 (x1==9))))
def ql3 (n:Nat) (a0z:qad):Option (List qba×Bool):=
 match a0z with
 | ⟨x1,x2,x3,⟨x4,x5,⟨x6,x7,x8,x9,x10,x11⟩,x12,x13⟩,x14,x15,x16,x17,x18,x19,x20,x21,x22⟩=>
 bnd (qdm n x2) fun x23=>
 bnd (qdi n x3) fun x24=>
 bnd (qdl n x15) fun x25=>
 bnd (qdn n x17) fun x26=>
 bnd (qdj n x18) fun x27=>
 bnd (qdk n x19) fun x28=>
 bnd (qd1 n x21) fun x29=>
 bnd (qc4 n x20 x1 x2 x3 x4 x5 x6 x7 x8 x9 x10 x11 x12 x13 x14 x15 x16 x17 x18 x19 x20 x21 x22) fun x30=>
 bif x16 then(
 qhq n x1 x2 x3 x4 x5 x6 x7 x8 x9 x10 x11 x12 x13 x14 x15 x16 x17 x18 x19 x20 x21 x22 x23 x24 x25 x26 x27 x28 x30 x29 ([68,73,83,84,73,78,67,84,32]:SS))
 else(
 qhq n x1 x2 x3 x4 x5 x6 x7 x8 x9 x10 x11 x12 x13 x14 x15 x16 x17 x18 x19 x20 x21 x22 x23 x24 x25 x26 x27 x28 x30 x29 ([]:SS))
set_option maxHeartbeats 4000000 in
theorem q13 (n:Nat):∀ (a0z:qad) (r:List qba×Bool),ql3 n a0z=some r->qae Tryz.prog 35 [PV.agg (qcw.cells a0z)] (q4e r):=by
 intro a0z r h;obtain⟨x1,x2,x3,⟨x4,x5,⟨x6,x7,x8,x9,x10,x11⟩,x12,x13⟩,x14,x15,x16,x17,x18,x19,x20,x21,x22⟩:=a0z;unfold ql3 at h;refine qae.of_vcN qa3 (fun _ _=>Tryz.call35 _ _) Tryz.func35 (by kernel_rfl) (inl:=[78,10000092,40000015,40000017,40000024,40000025,40000043,50000064,50000083,50000120,50000121,50000122,50000123,50000179,60003002,60007006,1000000]) ?_;conv=>whnf
 replace h:=qaa h;obtain⟨x23,h23,h⟩:=h;refine⟨_,(qm4 n _ _ h23),?_⟩;conv=>whnf
 replace h:=qaa h;obtain⟨x24,h22,h⟩:=h;refine⟨_,(qm0 n _ _ h22),?_⟩;conv=>whnf
 replace h:=qaa h;obtain⟨x25,h21,h⟩:=h;refine⟨_,(qm3 n _ _ h21),?_⟩;conv=>whnf
 replace h:=qaa h;obtain⟨x26,h20,h⟩:=h;refine⟨_,(qm5 n _ _ h20),?_⟩;conv=>whnf
 replace h:=qaa h;obtain⟨x27,h19,h⟩:=h;refine⟨_,(qm1 n _ _ h19),?_⟩;conv=>whnf
 replace h:=qaa h;obtain⟨x28,h18,h⟩:=h;refine⟨_,(qm2 n _ _ h18),?_⟩;conv=>whnf
 refine⟨Codec.one qsf [qba.mk ([32,79,82,68,69,82,32,66,89,32]:SS) x26 (0:Int) (1048576:Int),qba.mk ([32,83,75,73,80,32]:SS) x27 (0:Int) (1:Int),qba.mk ([32,76,73,77,73,84,32]:SS) x28 (0:Int) (1:Int)],qba.rows [qba.mk ([32,79,82,68,69,82,32,66,89,32]:SS) x26 (0:Int) (1048576:Int),qba.mk ([32,83,75,73,80,32]:SS) x27 (0:Int) (1:Int),qba.mk ([32,76,73,77,73,84,32]:SS) x28 (0:Int) (1:Int)],.inl rfl,?_⟩;conv=>whnf
 replace h:=qaa h;obtain⟨x29,h17,h⟩:=h;refine⟨_,(qob n _ _ h17),?_⟩;conv=>whnf
 replace h:=qaa h;obtain⟨x30,h1,h⟩:=h;refine qcl (qlc n _ _ _ _ _ _ _ _ _ _ _ _ _ _ _ _ _ _ _ _ _ _ _ _ h1) [0] [] ?_;rintro _ _ ⟨rfl,rfl⟩;refine⟨.p (.sl (qbl.rows x30)),[.box 55 [pI x1,pP x2,pE x3,pI x4,pS x5,pI x6,pB x7,pI x8,pS x9,pV x10,pT x11,pT x12,pE x13,pS x14,pA x15,pB x16,pO x17,pE x18,pE x19,pU x20,pT x21,pB x22],.box 101 [.p (.str ([]:SS)),.p (.sl (qbl.rows x23)),.p (.int .i64 (1:Int)),.p (.int .i64 (1048576:Int))],.box 101 [.p (.str ([32,87,72,69,82,69,32]:SS)),.p (.sl (qbl.rows x24)),.p (.int .i64 (0:Int)),.p (.int .i64 (1:Int))],.box 101 [.p (.str ([]:SS)),.p (.sl (qbl.rows x25)),.p (.int .i64 (1:Int)),.p (.int .i64 (1048576:Int))],.box 101 [.p (.str ([68,69,76,69,84,69,32]:SS)),.p (.sl (qbl.rows x29)),.p (.int .i64 (1:Int)),.p (.int .i64 (1048576:Int))]],rfl,rfl,?_⟩;conv=>whnf
 refine qje.cut (S:=SS) (fun x31=>[(1,.ptr 0 0),(4,.ptr 1 0),(5,.ptr 2 0),(6,.ptr 3 0),(7,.p (.sl (qba.rows [qba.mk ([32,79,82,68,69,82,32,66,89,32]:SS) x26 (0:Int) (1048576:Int),qba.mk ([32,83,75,73,80,32]:SS) x27 (0:Int) (1:Int),qba.mk ([32,76,73,77,73,84,32]:SS) x28 (0:Int) (1:Int)]))),(8,.ptr 4 0),(9,.ptr 5 0),(10,pS x31)]) (fun x31=>[.box 55 [pI x1,pP x2,pE x3,pI x4,pS x5,pI x6,pB x7,pI x8,pS x9,pV x10,pT x11,pT x12,pE x13,pS x14,pA x15,pB x16,pO x17,pE x18,pE x19,pU x20,pT x21,pB x22],.box 101 [.p (.str ([]:SS)),.p (.sl (qbl.rows x23)),.p (.int .i64 (1:Int)),.p (.int .i64 (1048576:Int))],.box 101 [.p (.str ([32,87,72,69,82,69,32]:SS)),.p (.sl (qbl.rows x24)),.p (.int .i64 (0:Int)),.p (.int .i64 (1:Int))],.box 101 [.p (.str ([]:SS)),.p (.sl (qbl.rows x25)),.p (.int .i64 (1:Int)),.p (.int .i64 (1048576:Int))],.box 101 [.p (.str ([68,69,76,69,84,69,32]:SS)),.p (.sl (qbl.rows x29)),.p (.int .i64 (1:Int)),.p (.int .i64 (1048576:Int))],.box 101 [.p (.str ([]:SS)),.p (.sl (qbl.rows x30)),.p (.int .i64 (1:Int)),.p (.int .i64 (1048576:Int))]]) (qhq n x1 x2 x3 x4 x5 x6 x7 x8 x9 x10 x11 x12 x13 x14 x15 x16 x17 x18 x19 x20 x21 x22 x23 x24 x25 x26 x27 x28 x30 x29) (r:=r) ?_ ?_
 ·intro x31 h
  unfold qhq at h;conv=>whnf
  refine qje.go ?_;conv=>whnf
  refine ifc h (fun hc h=>?_) (fun hc h=>?_)
  ·conv=>whnf
   refine⟨Codec.one qsf [qba.mk ([77,65,84,67,72,32]:SS) x23 (1:Int) (1048576:Int),qba.mk ([32,87,72,69,82,69,32]:SS) x24 (0:Int) (1:Int)],qba.rows [qba.mk ([77,65,84,67,72,32]:SS) x23 (1:Int) (1048576:Int),qba.mk ([32,87,72,69,82,69,32]:SS) x24 (0:Int) (1:Int)],.inl rfl,?_⟩;conv=>whnf
   replace h:=qaa h;obtain⟨x32,h2,h⟩:=h;refine⟨_,(qae.leArgs (qft n _ _ _ h2) (by try exact fin)),?_⟩;obtain rfl:=sj h;conv=>whnf
   try exact fin
  ·conv=>whnf
   refine ifc h (fun hc h=>?_) (fun hc h=>?_)
   ·conv=>whnf
    refine⟨Codec.one qq9 [(qbl.expr (qab.mk x4 x5 (Val.mk x6 x7 x8 x9 x10 x11) x12 x13))],qbl.rows [(qbl.expr (qab.mk x4 x5 (Val.mk x6 x7 x8 x9 x10 x11) x12 x13))],.inl rfl,?_⟩;conv=>whnf
    refine⟨Codec.one qq9 [(qbl.name x14)],qbl.rows [(qbl.name x14)],.inl rfl,?_⟩;conv=>whnf
    refine⟨Codec.one qsf [qba.mk ([85,78,87,73,78,68,32]:SS) [(qbl.expr (qab.mk x4 x5 (Val.mk x6 x7 x8 x9 x10 x11) x12 x13))] (1:Int) (1:Int),qba.mk ([32,65,83,32]:SS) [(qbl.name x14)] (1:Int) (1:Int)],qba.rows [qba.mk ([85,78,87,73,78,68,32]:SS) [(qbl.expr (qab.mk x4 x5 (Val.mk x6 x7 x8 x9 x10 x11) x12 x13))] (1:Int) (1:Int),qba.mk ([32,65,83,32]:SS) [(qbl.name x14)] (1:Int) (1:Int)],.inl rfl,?_⟩;conv=>whnf
    replace h:=qaa h;obtain⟨x33,h3,h⟩:=h;refine⟨_,(qae.leArgs (qft n _ _ _ h3) (by try exact fin)),?_⟩;obtain rfl:=sj h;conv=>whnf
    try exact fin
   ·conv=>whnf
    refine qje.cut (S:=Bool) (fun x34=>[(1,.ptr 0 0),(4,.ptr 1 0),(5,.ptr 2 0),(6,.ptr 3 0),(7,.p (.sl (qba.rows [qba.mk ([32,79,82,68,69,82,32,66,89,32]:SS) x26 (0:Int) (1048576:Int),qba.mk ([32,83,75,73,80,32]:SS) x27 (0:Int) (1:Int),qba.mk ([32,76,73,77,73,84,32]:SS) x28 (0:Int) (1:Int)]))),(8,.ptr 4 0),(9,.ptr 5 0),(10,pS x31),(11,.p (.nilsl)),(12,.ptr 6 0),(53,pI x1),(85,pB x34)]) (fun x34=>[.box 55 [pI x1,pP x2,pE x3,pI x4,pS x5,pI x6,pB x7,pI x8,pS x9,pV x10,pT x11,pT x12,pE x13,pS x14,pA x15,pB x16,pO x17,pE x18,pE x19,pU x20,pT x21,pB x22],.box 101 [.p (.str ([]:SS)),.p (.sl (qbl.rows x23)),.p (.int .i64 (1:Int)),.p (.int .i64 (1048576:Int))],.box 101 [.p (.str ([32,87,72,69,82,69,32]:SS)),.p (.sl (qbl.rows x24)),.p (.int .i64 (0:Int)),.p (.int .i64 (1:Int))],.box 101 [.p (.str ([]:SS)),.p (.sl (qbl.rows x25)),.p (.int .i64 (1:Int)),.p (.int .i64 (1048576:Int))],.box 101 [.p (.str ([68,69,76,69,84,69,32]:SS)),.p (.sl (qbl.rows x29)),.p (.int .i64 (1:Int)),.p (.int .i64 (1048576:Int))],.box 101 [.p (.str ([]:SS)),.p (.sl (qbl.rows x30)),.p (.int .i64 (1:Int)),.p (.int .i64 (1048576:Int))],.box 55 [pI x1,.p (.nilsl),.p (.nilsl),.p (.int .i64 (0:Int)),.p (.str ([]:SS)),.p (.int .i64 (0:Int)),pB false,.p (.int .i64 (0:Int)),.p (.str ([]:SS)),.p (.nilsl),.p (.nilsl),.p (.nilsl),.p (.nilsl),.p (.str ([]:SS)),.p (.nilsl),pB false,.p (.nilsl),.p (.nilsl),.p (.nilsl),.p (.nilsl),.p (.nilsl),pB false]]) (qhr n x31 x25 x26 x27 x28 x1 x24 x2 x3 x4 x5 x6 x7 x8 x9 x10 x11 x12 x13 x14 x15 x16 x17 x18 x19 x20 x21 x22 x23 x30 x29) (r:=r) ?_ ?_
    ·intro x34 h
     unfold qhr at h;conv=>whnf
     refine ifc h (fun hc h=>?_) (fun hc h=>?_)
     ·conv=>whnf
      obtain⟨h10,h⟩:=qaw h;refine⟨(of_decide_eq_true h10:((([82,69,84,85,82,78,32]:SS).length+x31.length:Nat):Int)<=q1g),?_⟩;conv=>whnf
      refine⟨Codec.one qsf [qba.mk (([82,69,84,85,82,78,32]:SS)++x31) x25 (1:Int) (1048576:Int)],qba.rows [qba.mk (([82,69,84,85,82,78,32]:SS)++x31) x25 (1:Int) (1048576:Int)],.inl rfl,?_⟩;conv=>whnf
      obtain⟨h9,h⟩:=qaw h;refine⟨_,⟨Codec.append qsf [qba.mk (([82,69,84,85,82,78,32]:SS)++x31) x25 (1:Int) (1048576:Int)] [qba.mk ([32,79,82,68,69,82,32,66,89,32]:SS) x26 (0:Int) (1048576:Int),qba.mk ([32,83,75,73,80,32]:SS) x27 (0:Int) (1:Int),qba.mk ([32,76,73,77,73,84,32]:SS) x28 (0:Int) (1:Int)],rfl,rfl,Codec.wide qsf [qba.mk ([32,79,82,68,69,82,32,66,89,32]:SS) x26 (0:Int) (1048576:Int),qba.mk ([32,83,75,73,80,32]:SS) x27 (0:Int) (1:Int),qba.mk ([32,76,73,77,73,84,32]:SS) x28 (0:Int) (1:Int)],of_decide_eq_true h9,qdx h9 (by decide)⟩,?_⟩;conv=>whnf
      refine qje.cut (S:=List qba×List qab) (fun(x35,x36)=>[(1,.ptr 0 0),(11,.vsl 1 ((qba.rows x35).length)),(12,.ptr 2 0)]) (fun(x35,x36)=>[.box 55 [pI x1,pP x2,pE x3,pI x4,pS x5,pI x6,pB x7,pI x8,pS x9,pV x10,pT x11,pT x12,pE x13,pS x14,pA x15,pB x16,pO x17,pE x18,pE x19,pU x20,pT x21,pB x22],.vec 101 4 (qba.rows x35),.box 55 [pI x1,.p (.nilsl),pE x36,.p (.int .i64 (0:Int)),.p (.str ([]:SS)),.p (.int .i64 (0:Int)),pB false,.p (.int .i64 (0:Int)),.p (.str ([]:SS)),.p (.nilsl),.p (.nilsl),.p (.nilsl),.p (.nilsl),.p (.str ([]:SS)),.p (.nilsl),pB false,.p (.nilsl),.p (.nilsl),.p (.nilsl),.p (.nilsl),.p (.nilsl),pB false]]) (qhs n x1 x2 x3 x4 x5 x6 x7 x8 x9 x10 x11 x12 x13 x14 x15 x16 x17 x18 x19 x20 x21 x22) (r:=r) ?_ ?_
      ·intro st h
       obtain⟨x35,x36⟩:=st;unfold qhs at h;conv=>whnf
       replace h:=qaa h;obtain⟨x37,h4,h⟩:=h;refine⟨_,(qae.leArgs (qft n _ _ _ h4) (by try exact fin)),?_⟩;obtain rfl:=sj h;conv=>whnf
       try exact fin
      ·conv=>whnf
       refine ifc h (fun hc h=>?_) (fun hc h=>?_)
       ·conv=>whnf
        obtain⟨h8,h⟩:=qaw h;refine⟨(of_decide_eq_true h8:((([87,73,84,72,32]:SS).length+x31.length:Nat):Int)<=q1g),?_⟩;conv=>whnf
        obtain⟨h7,h⟩:=qaw h;refine⟨0,⟨rfl,of_decide_eq_true h7⟩,?_⟩;conv=>whnf
        replace h:=qaa h;obtain⟨⟨x38,x39,x40,x41⟩,h6,h⟩:=h;refine⟨_,⟨rfl,Codec.getN qsf h6,rfl⟩,?_⟩;conv=>whnf
        refine⟨_,Codec.setN qsf ([qba.mk (([82,69,84,85,82,78,32]:SS)++x31) x25 (1:Int) (1048576:Int)]++[qba.mk ([32,79,82,68,69,82,32,66,89,32]:SS) x26 (0:Int) (1048576:Int),qba.mk ([32,83,75,73,80,32]:SS) x27 (0:Int) (1:Int),qba.mk ([32,76,73,77,73,84,32]:SS) x28 (0:Int) (1:Int)]) 0 (qba.mk (([87,73,84,72,32]:SS)++x31) x39 x40 x41),?_⟩;conv=>whnf
        refine⟨Codec.one qsf [qba.mk ([32,87,72,69,82,69,32]:SS) x24 (0:Int) (1:Int)],qba.rows [qba.mk ([32,87,72,69,82,69,32]:SS) x24 (0:Int) (1:Int)],.inl rfl,?_⟩;conv=>whnf
        obtain⟨h5,h⟩:=qaw h;refine⟨_,⟨Codec.append qsf (([qba.mk (([82,69,84,85,82,78,32]:SS)++x31) x25 (1:Int) (1048576:Int)]++[qba.mk ([32,79,82,68,69,82,32,66,89,32]:SS) x26 (0:Int) (1048576:Int),qba.mk ([32,83,75,73,80,32]:SS) x27 (0:Int) (1:Int),qba.mk ([32,76,73,77,73,84,32]:SS) x28 (0:Int) (1:Int)]).set 0 (qba.mk (([87,73,84,72,32]:SS)++x31) x39 x40 x41)) [qba.mk ([32,87,72,69,82,69,32]:SS) x24 (0:Int) (1:Int)],rfl,rfl,Codec.wide qsf [qba.mk ([32,87,72,69,82,69,32]:SS) x24 (0:Int) (1:Int)],of_decide_eq_true h5,qdx h5 (by decide)⟩,?_⟩;conv=>whnf
        exact⟨(((([qba.mk (([82,69,84,85,82,78,32]:SS)++x31) x25 (1:Int) (1048576:Int)]++[qba.mk ([32,79,82,68,69,82,32,66,89,32]:SS) x26 (0:Int) (1048576:Int),qba.mk ([32,83,75,73,80,32]:SS) x27 (0:Int) (1:Int),qba.mk ([32,76,73,77,73,84,32]:SS) x28 (0:Int) (1:Int)]).set 0 (qba.mk (([87,73,84,72,32]:SS)++x31) x39 x40 x41))++[qba.mk ([32,87,72,69,82,69,32]:SS) x24 (0:Int) (1:Int)]),x3),h,wk [0,9,6] []⟩
       ·conv=>whnf
        exact⟨(([qba.mk (([82,69,84,85,82,78,32]:SS)++x31) x25 (1:Int) (1048576:Int)]++[qba.mk ([32,79,82,68,69,82,32,66,89,32]:SS) x26 (0:Int) (1048576:Int),qba.mk ([32,83,75,73,80,32]:SS) x27 (0:Int) (1:Int),qba.mk ([32,76,73,77,73,84,32]:SS) x28 (0:Int) (1:Int)]),([]:List _)),h,wk [0,8,6] []⟩
     ·conv=>whnf
      refine ifc h (fun hc h=>?_) (fun hc h=>?_)
      ·conv=>whnf
       refine⟨Codec.one qsf [qba.mk ([67,82,69,65,84,69,32]:SS) x23 (1:Int) (1048576:Int)],qba.rows [qba.mk ([67,82,69,65,84,69,32]:SS) x23 (1:Int) (1048576:Int)],.inl rfl,?_⟩;conv=>whnf
       replace h:=qaa h;obtain⟨x42,h11,h⟩:=h;refine⟨_,(qae.leArgs (qft n _ _ _ h11) (by try exact fin)),?_⟩;obtain rfl:=sj h;conv=>whnf
       try exact fin
      ·conv=>whnf
       refine ifc h (fun hc h=>?_) (fun hc h=>?_)
       ·conv=>whnf
        refine⟨id,id,?_⟩;conv=>whnf
        replace h:=qaa h;obtain⟨⟨x43,x44⟩,h13,h⟩:=h;refine⟨_,fun hg=>Codec.at_ qoa (qah h13 hg),?_⟩;conv=>whnf
        refine⟨id,id,id,id,id,?_⟩;conv=>whnf
        refine ifc h (fun hc h=>?_) (fun hc h=>?_)
        ·obtain rfl:=sj h
         conv=>whnf
         try exact fin
        ·conv=>whnf
         refine⟨Codec.one qsf [qba.mk ([77,69,82,71,69,32]:SS) x23 (1:Int) (1:Int)],qba.rows [qba.mk ([77,69,82,71,69,32]:SS) x23 (1:Int) (1:Int)],.inl rfl,?_⟩;conv=>whnf
         replace h:=qaa h;obtain⟨x45,h12,h⟩:=h;refine⟨_,(qae.leArgs (qft n _ _ _ h12) (by try exact fin)),?_⟩;obtain rfl:=sj h;conv=>whnf
         try exact fin
       ·conv=>whnf
        refine qje.cut (S:=Bool) (fun x46=>[(1,.ptr 0 0),(8,.ptr 1 0),(9,.ptr 2 0),(11,.p (.nilsl)),(12,.ptr 3 0),(53,pI x1),(155,pB x46)]) (fun x46=>[.box 55 [pI x1,pP x2,pE x3,pI x4,pS x5,pI x6,pB x7,pI x8,pS x9,pV x10,pT x11,pT x12,pE x13,pS x14,pA x15,pB x16,pO x17,pE x18,pE x19,pU x20,pT x21,pB x22],.box 101 [.p (.str ([68,69,76,69,84,69,32]:SS)),.p (.sl (qbl.rows x29)),.p (.int .i64 (1:Int)),.p (.int .i64 (1048576:Int))],.box 101 [.p (.str ([]:SS)),.p (.sl (qbl.rows x30)),.p (.int .i64 (1:Int)),.p (.int .i64 (1048576:Int))],.box 55 [pI x1,.p (.nilsl),.p (.nilsl),.p (.int .i64 (0:Int)),.p (.str ([]:SS)),.p (.int .i64 (0:Int)),pB false,.p (.int .i64 (0:Int)),.p (.str ([]:SS)),.p (.nilsl),.p (.nilsl),.p (.nilsl),.p (.nilsl),.p (.str ([]:SS)),.p (.nilsl),pB false,.p (.nilsl),.p (.nilsl),.p (.nilsl),.p (.nilsl),.p (.nilsl),pB false]]) (qkf n x1 x2 x3 x4 x5 x6 x7 x8 x9 x10 x11 x12 x13 x14 x15 x16 x17 x18 x19 x20 x21 x22 x30 x29) (r:=r) ?_ ?_
        ·intro x46 h
         unfold qkf at h;conv=>whnf
         refine ifc h (fun hc h=>?_) (fun hc h=>?_)
         ·conv=>whnf
          refine qje.cut (S:=SS) (fun x47=>[(1,.ptr 0 0),(9,.ptr 1 0),(12,.ptr 2 0)]) (fun x47=>[.box 55 [pI x1,pP x2,pE x3,pI x4,pS x5,pI x6,pB x7,pI x8,pS x9,pV x10,pT x11,pT x12,pE x13,pS x14,pA x15,pB x16,pO x17,pE x18,pE x19,pU x20,pT x21,pB x22],.box 101 [pS x47,.p (.sl (qbl.rows x30)),.p (.int .i64 (1:Int)),.p (.int .i64 (1048576:Int))],.box 55 [pI x1,.p (.nilsl),.p (.nilsl),.p (.int .i64 (0:Int)),.p (.str ([]:SS)),.p (.int .i64 (0:Int)),pB false,.p (.int .i64 (0:Int)),.p (.str ([]:SS)),.p (.nilsl),.p (.nilsl),.p (.nilsl),.p (.nilsl),.p (.str ([]:SS)),.p (.nilsl),pB false,.p (.nilsl),.p (.nilsl),.p (.nilsl),.p (.nilsl),.p (.nilsl),pB false]]) (qix n x1 x2 x3 x4 x5 x6 x7 x8 x9 x10 x11 x12 x13 x14 x15 x16 x17 x18 x19 x20 x21 x22 x30) (r:=r) ?_ ?_
          ·intro x47 h
           unfold qix at h;conv=>whnf
           refine⟨Codec.one qsf [qba.mk x47 x30 (1:Int) (1048576:Int)],qba.rows [qba.mk x47 x30 (1:Int) (1048576:Int)],.inl rfl,?_⟩;conv=>whnf
           replace h:=qaa h;obtain⟨x48,h14,h⟩:=h;refine⟨_,(qae.leArgs (qft n _ _ _ h14) (by try exact fin)),?_⟩;obtain rfl:=sj h;conv=>whnf
           try exact fin
          ·conv=>whnf
           refine ifc h (fun hc h=>?_) (fun hc h=>?_)
           ·conv=>whnf
            exact⟨([82,69,77,79,86,69,32]:SS),h,wk [0,2,3] []⟩
           ·conv=>whnf
            exact⟨([83,69,84,32]:SS),h,wk [0,2,3] []⟩
         ·conv=>whnf
          refine ifc h (fun hc h=>?_) (fun hc h=>?_)
          ·conv=>whnf
           refine qje.cut (S:=SS) (fun x49=>[(1,.ptr 0 0),(8,.ptr 1 0),(12,.ptr 2 0)]) (fun x49=>[.box 55 [pI x1,pP x2,pE x3,pI x4,pS x5,pI x6,pB x7,pI x8,pS x9,pV x10,pT x11,pT x12,pE x13,pS x14,pA x15,pB x16,pO x17,pE x18,pE x19,pU x20,pT x21,pB x22],.box 101 [pS x49,.p (.sl (qbl.rows x29)),.p (.int .i64 (1:Int)),.p (.int .i64 (1048576:Int))],.box 55 [pI x1,.p (.nilsl),.p (.nilsl),.p (.int .i64 (0:Int)),.p (.str ([]:SS)),.p (.int .i64 (0:Int)),pB false,.p (.int .i64 (0:Int)),.p (.str ([]:SS)),.p (.nilsl),.p (.nilsl),.p (.nilsl),.p (.nilsl),.p (.str ([]:SS)),.p (.nilsl),pB false,.p (.nilsl),.p (.nilsl),.p (.nilsl),.p (.nilsl),.p (.nilsl),pB false]]) (qiy n x1 x2 x3 x4 x5 x6 x7 x8 x9 x10 x11 x12 x13 x14 x15 x16 x17 x18 x19 x20 x21 x22 x29) (r:=r) ?_ ?_
           ·intro x49 h
            unfold qiy at h;conv=>whnf
            refine⟨Codec.one qsf [qba.mk x49 x29 (1:Int) (1048576:Int)],qba.rows [qba.mk x49 x29 (1:Int) (1048576:Int)],.inl rfl,?_⟩;conv=>whnf
            replace h:=qaa h;obtain⟨x50,h15,h⟩:=h;refine⟨_,(qae.leArgs (qft n _ _ _ h15) (by try exact fin)),?_⟩;obtain rfl:=sj h;conv=>whnf
            try exact fin
           ·conv=>whnf
            refine ifc h (fun hc h=>?_) (fun hc h=>?_)
            ·conv=>whnf
             exact⟨([68,69,84,65,67,72,32,68,69,76,69,84,69,32]:SS),h,wk [0,1,3] []⟩
            ·conv=>whnf
             exact⟨([68,69,76,69,84,69,32]:SS),h,wk [0,1,3] []⟩
          ·conv=>whnf
           replace h:=qaa h;obtain⟨x51,h16,h⟩:=h;refine⟨_,(qae.leArgs (qft n _ _ _ h16) (by try exact fin)),?_⟩;obtain rfl:=sj h;conv=>whnf
           try exact fin
        ·conv=>whnf
         refine ifc h (fun hc h=>?_) (fun hc h=>?_)
         ·conv=>whnf
          exact⟨(x1==6),h,wk [0,4,5,6] []⟩
         ·conv=>whnf
          exact⟨(x1==7),h,wk [0,4,5,6] []⟩
    ·conv=>whnf
     refine ifc h (fun hc h=>?_) (fun hc h=>?_)
     ·conv=>whnf
      exact⟨(x1==3),h,wk [0,1,2,3,4,5,6] []⟩
     ·conv=>whnf
      exact⟨(x1==9),h,wk [0,1,2,3,4,5,6] []⟩
 ·conv=>whnf
  refine ifc h (fun hc h=>?_) (fun hc h=>?_)
  ·conv=>whnf
   exact⟨([68,73,83,84,73,78,67,84,32]:SS),h,wk [0,1,2,3,4,5] []⟩
  ·conv=>whnf
   exact⟨([]:SS),h,wk [0,1,2,3,4,5] []⟩
abbrev zaf (r:Bool):PV:=PV.bool r
def qkz (n:Nat) (x1:SS):Option (Bool):=
 some (bif(!(x1==([]:SS)))then(decide (((x1.length:Nat):Int)<=64))else false)
theorem ql4 (n:Nat):∀ (x1:SS) (r:Bool),qkz n x1=some r->qae Tryz.prog 165 [PV.str x1] (zaf r):=by
 intro x1 r h;unfold qkz at h;refine qae.of_vcN qa3 (fun _ _=>Tryz.call165 _ _) Tryz.func165 (by kernel_rfl) (inl:=[1000000]) ?_;conv=>whnf
 refine⟨id,id,id,?_⟩;obtain rfl:=sj h;conv=>whnf
 try exact fin
abbrev zad (r:SS):PV:=PV.str r
def ql0 (n:Nat) (nx1:Int×SS->Option SS) (x2:Int):SS->Option SS:=fun x4=>
 nx1 ((IntKind.i64.wrap (x2+1)),x4)
def ql1 (n:Nat) (x1:SS):(Int×SS->Option SS)->Int×SS->Option SS:=fun nx1 (x2,x3)=>
 bif(decide (x2<((x1.length:Nat):Int)))then(
 bnd (qz9 x2) fun x5=>
 chk (decide (x5<x3.length)) (
 bnd (x3[x5]?) fun x6=>
 bif(bif(decide (((x6.toNat:Nat):Int)≥97))then(decide (((x6.toNat:Nat):Int)<=122))else false)then(
 bnd (qz9 x2) fun x7=>
 chk (decide (x7<x3.length)) (
 bnd (u8I (IntKind.u8.wrap (((x6.toNat:Nat):Int) - 32))) fun x8=>
 chk (decide (x7<x3.length)) (
 ql0 n nx1 x2 (x3.set x7 x8))))
 else(
 ql0 n nx1 x2 x3)))
 else(
 some x3)
def qq3 (n:Nat) (x1:SS):Option SS:=
 qap (ql1 n x1) n ((0:Int),x1)
theorem q7i (n:Nat):∀ (x1 r:SS),qq3 n x1=some r->qae Tryz.prog 171 [PV.str x1] (zad r):=by
 intro x1 r h;unfold qq3 at h;refine qae.of_vcN qa3 (fun _ _=>Tryz.call171 _ _) Tryz.func171 (by kernel_rfl) (inl:=[10000007,1000000]) ?_;conv=>whnf
 refine qby.fn [10000007,1000000] (S:=Int×SS) (fun(x2,x3)=>[(3,.vsl 0 x3.length),(8,.vsl 0 x3.length),(9,.p (.int .i64 ((x1.length:Nat):Int))),(10,pI x2)]) (fun(x2,x3)=>[.bv x3]) (B:=ql1 n x1) h (wk [0] []) ?_;intro nx1 st h;obtain⟨x2,x3⟩:=st;unfold ql1 at h;conv=>whnf
 refine ifc h (fun hc h=>?_) (fun hc h=>?_)
 ·conv=>whnf
  refine qje.cut (S:=SS) (fun x4=>[(3,.vsl 0 x4.length),(8,.vsl 0 x4.length),(9,.p (.int .i64 ((x1.length:Nat):Int))),(10,pI x2)]) (fun x4=>[.bv x4]) (ql0 n nx1 x2) (r:=r) ?_ ?_
  ·intro x4 h
   unfold ql0 at h;conv=>whnf
   exact⟨((IntKind.i64.wrap (x2+1)),x4),h,wk [0] []⟩
  ·conv=>whnf
   replace h:=qaa h;obtain⟨x5,h7,h⟩:=h;have hj:=qf0 h7;conv=>whnf
   obtain⟨h6,h⟩:=qaw h;refine⟨x5,⟨hj,of_decide_eq_true h6⟩,?_⟩;conv=>whnf
   replace h:=qaa h;obtain⟨x6,h5,h⟩:=h;refine⟨_,⟨rfl,rfl,h5⟩,?_⟩;conv=>whnf
   refine⟨id,id,?_⟩;conv=>whnf
   refine ifc h (fun hc h=>?_) (fun hc h=>?_)
   ·conv=>whnf
    replace h:=qaa h;obtain⟨x7,h4,h⟩:=h;have hj:=qf0 h4;conv=>whnf
    obtain⟨h3,h⟩:=qaw h;refine⟨x7,⟨hj,of_decide_eq_true h3⟩,?_⟩;conv=>whnf
    replace h:=qaa h;obtain⟨x8,h2,h⟩:=h;have hb:=zba h2;conv=>whnf
    obtain⟨h1,h⟩:=qaw h;refine⟨_,_,⟨rfl,rfl,of_decide_eq_true h1,hb,rfl⟩,?_⟩;conv=>whnf
    exact⟨(x3.set x7 x8),h,wk [0] []⟩
   ·conv=>whnf
    exact⟨x3,h,wk [0] []⟩
 ·conv=>whnf
  refine⟨by first|rfl|simp only[List.length_set]|(simp only[List.length_set]; assumption)|assumption,?_⟩;obtain rfl:=sj h;conv=>whnf
  try exact fin
abbrev zae (r:Bool):PV:=PV.bool r
def ql2 (n:Nat) (x1:SS):(Nat->Option (Bool))->Nat->Option (Bool):=fun nx1 x2=>
 bif(decide (x2<x1.length))then(
 bif(bif(!(bif(bif(bif(decide (((qor x1 x2:Nat):Int)≥97))then(decide (((qor x1 x2:Nat):Int)<=122))else false)then true else(bif(decide (((qor x1 x2:Nat):Int)≥65))then(decide (((qor x1 x2:Nat):Int)<=90))else false))then true else(((qor x1 x2:Nat):Int)==95)))then(bif(bif(((x2:Nat):Int)==0)then true else(decide (((qor x1 x2:Nat):Int)<48)))then true else(decide (((qor x1 x2:Nat):Int)>57)))else false)then(
 some false)
 else(
 nx1 (bif(decide (x2<x1.length))then q0c x1 x2 else x2)))
 else(
 some (bif(!(x1==([]:SS)))then(decide (((x1.length:Nat):Int)<=64))else false))
def qpa (n:Nat) (x1:SS):Option (Bool):=
 qap (ql2 n x1) n 0
theorem qy0 (n:Nat):∀ (x1:SS) (r:Bool),qpa n x1=some r->qae Tryz.prog 169 [PV.str x1] (zae r):=by
 intro x1 r h;unfold qpa at h;refine qae.of_vcN qa3 (fun _ _=>Tryz.call169 _ _) Tryz.func169 (by kernel_rfl) (inl:=[1000000]) ?_;conv=>whnf
 refine qby.fn [1000000] (S:=Nat) (fun x2=>[(0,pS x1),(7,.ptr 0 0)]) (fun x2=>[.sit x1 x2]) (B:=ql2 n x1) h (wk [0] []) ?_;intro nx1 x2 h;unfold ql2 at h;conv=>whnf
 refine⟨(decide (x2<x1.length)),(bif(decide (x2<x1.length))then q0c x1 x2 else x2),⟨rfl,rfl⟩,?_⟩;conv=>whnf
 refine ifc h (fun hc h=>?_) (fun hc h=>?_)
 ·conv=>whnf
  refine⟨by assumption,?_⟩;conv=>whnf
  refine⟨by assumption,?_⟩;conv=>whnf
  refine⟨id,id,id,id,id,id,id,id,id,id,id,id,id,id,id,id,id,id,id,id,?_⟩;conv=>whnf
  refine ifc h (fun hc h=>?_) (fun hc h=>?_)
  ·obtain rfl:=sj h
   conv=>whnf
   try exact fin
  ·conv=>whnf
   exact⟨(bif(decide (x2<x1.length))then q0c x1 x2 else x2),h,wk [0] []⟩
 ·conv=>whnf
  refine⟨id,id,id,?_⟩;obtain rfl:=sj h;conv=>whnf
  try exact fin
abbrev zby (r:SS×Bool):PV:=PV.tup [PV.str r.1,PV.bool r.2]
def qxk (n:Nat) (x1:SS):Option (SS×Bool):=
 bnd (qq3 n x1) fun x2=>
 bnd (qpa n x1) fun x3=>
 chk (bif(!(!x3))then decide (((([32]:SS).length+x2.length:Nat):Int)<=q1g)else true) (
 chk (bif(!(!x3))then decide ((((([32]:SS)++x2).length+([32]:SS).length:Nat):Int)<=q1g)else true) (
 bnd (qa5 (!(!x3)) (qmh n ([32,77,65,84,67,72,32,87,72,69,82,69,32,85,78,87,73,78,68,32,65,83,32,87,73,84,72,32,67,82,69,65,84,69,32,77,69,82,71,69,32,83,69,84,32,82,69,77,79,86,69,32,68,69,76,69,84,69,32,68,69,84,65,67,72,32,82,69,84,85,82,78,32,68,73,83,84,73,78,67,84,32,79,82,68,69,82,32,66,89,32,65,83,67,32,68,69,83,67,32,83,75,73,80,32,76,73,77,73,84,32,65,78,68,32,79,82,32,88,79,82,32,78,79,84,32,73,78,32,73,83,32,78,85,76,76,32,84,82,85,69,32,70,65,76,83,69,32]:SS) ((([32]:SS)++x2)++([32]:SS)))) fun x4=>
 bif(bif(!x3)then true else(!x4))then(
 some (([]:SS),false))
 else(
 some (x2,true))))
theorem q9r (n:Nat):∀ (x1:SS) (r:SS×Bool),qxk n x1=some r->qae Tryz.prog 168 [PV.str x1] (zby r):=by
 intro x1 r h;unfold qxk at h;refine qae.of_vcN qa3 (fun _ _=>Tryz.call168 _ _) Tryz.func168 (by kernel_rfl) (inl:=[1000000]) ?_;conv=>whnf
 replace h:=qaa h;obtain⟨x2,h5,h⟩:=h;refine⟨_,(q7i n _ _ h5),?_⟩;conv=>whnf
 replace h:=qaa h;obtain⟨x3,h4,h⟩:=h;refine⟨_,(qy0 n _ _ h4),?_⟩;conv=>whnf
 refine⟨id,?_⟩;conv=>whnf
 obtain⟨h3,h⟩:=qaw h;refine⟨fun hg=>(of_decide_eq_true (gd h3 hg):((([32]:SS).length+x2.length:Nat):Int)<=q1g),?_⟩;conv=>whnf
 refine⟨id,?_⟩;conv=>whnf
 obtain⟨h2,h⟩:=qaw h;refine⟨fun hg=>(of_decide_eq_true (gd h2 hg):(((([32]:SS)++x2).length+([32]:SS).length:Nat):Int)<=q1g),?_⟩;conv=>whnf
 refine⟨id,?_⟩;conv=>whnf
 replace h:=qaa h;obtain⟨x4,h1,h⟩:=h;refine⟨_,fun hg=>(qwv n _ _ _ (qah h1 hg)),?_⟩;conv=>whnf
 refine⟨id,id,?_⟩;conv=>whnf
 refine ifc h (fun hc h=>?_) (fun hc h=>?_)
 ·obtain rfl:=sj h
  conv=>whnf
  try exact fin
 ·obtain rfl:=sj h
  conv=>whnf
  try exact fin
abbrev q5z (r:Bool):PV:=PV.bool r
def qfi (n:Nat) (x1:SS):Option (Bool):=
 bnd (qxk n x1) fun⟨x2,x3⟩=>
 bnd (qpa n x1) fun x4=>
 some (bif x4 then(!x3)else false)
theorem qgy (n:Nat):∀ (x1:SS) (r:Bool),qfi n x1=some r->qae Tryz.prog 166 [PV.str x1] (q5z r):=by
 intro x1 r h;unfold qfi at h;refine qae.of_vcN qa3 (fun _ _=>Tryz.call166 _ _) Tryz.func166 (by kernel_rfl) (inl:=[1000000]) ?_;conv=>whnf
 replace h:=qaa h;obtain⟨⟨x2,x3⟩,h2,h⟩:=h;refine⟨_,(q9r n _ _ h2),?_⟩;conv=>whnf
 replace h:=qaa h;obtain⟨x4,h1,h⟩:=h;refine⟨_,(qy0 n _ _ h1),?_⟩;conv=>whnf
 refine⟨id,id,?_⟩;obtain rfl:=sj h;conv=>whnf
 try exact fin
abbrev q74 (r:Bool):PV:=PV.bool r
def qpq (n:Nat) (a0z:Val):Option (Bool):=
 match a0z with
 | ⟨x1,x2,x3,x4,x5,x6⟩=>
 some (bif(bif(bif(bif(bif(x1==1)then true else(!x2))then(bif(bif(x1==2)then true else(decide (x1≥6)))then true else(x3==0))else false)then(bif(x1==3)then true else(x4==([]:SS)))else false)then(bif(bif(x1==4)then true else(x1==5))then true else(((Val.rows x5).length:Int)==0))else false)then(bif(x1==5)then true else(((qam x6).length:Int)==0))else false)
theorem q5i (n:Nat):∀ (a0z:Val) (r:Bool),qpq n a0z=some r->qae Tryz.prog 187 [PV.agg (qtz.cells a0z)] (q74 r):=by
 intro a0z r h;obtain⟨x1,x2,x3,x4,x5,x6⟩:=a0z;unfold qpq at h;refine qae.of_vcN qa3 (fun _ _=>Tryz.call187 _ _) Tryz.func187 (by kernel_rfl) (inl:=[1000000]) ?_;conv=>whnf
 refine⟨id,id,id,id,id,id,id,id,id,id,id,id,id,id,id,id,id,id,id,id,id,id,id,id,id,id,id,id,id,id,id,id,id,id,id,id,id,id,id,id,id,id,id,id,id,id,id,?_⟩;obtain rfl:=sj h;conv=>whnf
 try exact fin
abbrev q75 (r:Bool):PV:=PV.bool r
def qh1 (n:Nat) (x1:List SS):(Int->Option (Bool))->Int->Option (Bool):=fun nx1 x2=>
 bif(decide (x2<((qam x1).length:Int)))then(
 bnd (idx x1 x2) fun x3=>
 bnd (qa5 ((!(bif(x3==([]:SS))then true else(decide (((x3.length:Nat):Int)>64))))&&(decide (x2>0))) (idx x1 (IntKind.i64.wrap (x2 - 1)))) fun x4=>
 bif(bif(bif(x3==([]:SS))then true else(decide (((x3.length:Nat):Int)>64)))then true else(bif(decide (x2>0))then(!(Op.bytesLess x4 x3))else false))then(
 some false)
 else(
 nx1 (IntKind.i64.wrap (x2+1))))
 else(
 some true)
def qtn (n:Nat) (x1:List SS):Option (Bool):=
 qap (qh1 n x1) n (0:Int)
theorem q5j (n:Nat):∀ (x1:List SS) (r:Bool),qtn n x1=some r->qae Tryz.prog 188 [PV.sl (qam x1)] (q75 r):=by
 intro x1 r h;unfold qtn at h;refine qae.of_vcN qa3 (fun _ _=>Tryz.call188 _ _) Tryz.func188 (by kernel_rfl) (inl:=[1000000]) ?_;conv=>whnf
 refine qby.fn [1000000] (S:=Int) (fun x2=>[(0,pT x1),(5,pT x1),(6,.p (.int .i64 ((qam x1).length:Int))),(7,pI x2)]) (fun x2=>[]) (B:=qh1 n x1) h (wk [] []) ?_;intro nx1 x2 h;unfold qh1 at h;conv=>whnf
 refine ifc h (fun hc h=>?_) (fun hc h=>?_)
 ·conv=>whnf
  replace h:=qaa h;obtain⟨x3,h2,h⟩:=h;refine⟨_,Codec.at_ qqt h2,?_⟩;conv=>whnf
  refine⟨id,id,id,id,id,id,id,id,?_⟩;conv=>whnf
  replace h:=qaa h;obtain⟨x4,h1,h⟩:=h;refine⟨_,fun hg=>Codec.at_ qqt (qah h1 hg),?_⟩;conv=>whnf
  refine⟨id,id,id,id,id,id,?_⟩;conv=>whnf
  refine ifc h (fun hc h=>?_) (fun hc h=>?_)
  ·obtain rfl:=sj h
   conv=>whnf
   try exact fin
  ·conv=>whnf
   exact⟨(IntKind.i64.wrap (x2+1)),h,wk [] []⟩
 ·obtain rfl:=sj h
  conv=>whnf
  try exact fin
abbrev qrg (r:Int×Bool):PV:=PV.tup [PV.int .i64 r.1,PV.bool r.2]
def qgj (n:Nat) (x5:List Val) (g184:Val->Int->Int->Option (Int×Bool)) (x7:Int):(Int×Bool×Int->Option (Int×Bool))->Int×Bool×Int->Option (Int×Bool):=fun nx1 (x11,x12,x13)=>
 bif(bif(decide (x13<((Val.rows x5).length:Int)))then x12 else false)then(
 bnd (idx x5 x13) fun⟨x14,x15,x16,x17,x18,x19⟩=>
 bnd (g184 (Val.mk x14 x15 x16 x17 x18 x19) (IntKind.i64.wrap (x7 - 1)) x11) fun⟨x20,x21⟩=>
 nx1 (x20,x21,(IntKind.i64.wrap (x13+1))))
 else(
 some (x11,x12))
def qsh (n:Nat) (g184:Val->Int->Int->Option (Int×Bool)) (a0z:Val) (x7 x8:Int):Option (Int×Bool):=
 match a0z with
 | ⟨x1,x2,x3,x4,x5,x6⟩=>
 bnd (qa5 (!(bif(bif(bif(decide (x7<1))then true else(decide ((IntKind.i64.wrap (x8+1))>4096)))then true else(decide (x1<0)))then true else(decide (x1>7)))) (qpq n (Val.mk x1 x2 x3 x4 x5 x6))) fun x9=>
 bnd (qa5 (((!(bif(bif(bif(bif(bif(decide (x7<1))then true else(decide ((IntKind.i64.wrap (x8+1))>4096)))then true else(decide (x1<0)))then true else(decide (x1>7)))then true else(!x9))then true else(bif(decide (x1≥6))then(decide (x3<1))else false)))&&(x1==5))&&(!(((qam x6).length:Int) != ((Val.rows x5).length:Int)))) (qtn n x6)) fun x10=>
 bif(bif(bif(bif(bif(bif(bif(decide (x7<1))then true else(decide ((IntKind.i64.wrap (x8+1))>4096)))then true else(decide (x1<0)))then true else(decide (x1>7)))then true else(!x9))then true else(bif(decide (x1≥6))then(decide (x3<1))else false))then true else(bif(x1==5)then(bif(((qam x6).length:Int) != ((Val.rows x5).length:Int))then true else(!x10))else false))then(
 some ((IntKind.i64.wrap (x8+1)),false))
 else(
 qap (qgj n x5 g184 x7) n ((IntKind.i64.wrap (x8+1)),true,(0:Int)))
theorem q3m (n:Nat) (g184:Val->Int->Int->Option (Int×Bool)) (g184_ok:∀ (a0z:Val) (x7 x8:Int) (r:Int×Bool),g184 a0z x7 x8=some r->qae Tryz.prog 184 [PV.agg (qtz.cells a0z),PV.int .i64 x7,PV.int .i64 x8] (qrg r)):∀ (a0z:Val) (x7 x8:Int) (r:Int×Bool),qsh n g184 a0z x7 x8=some r->qae Tryz.prog 184 [PV.agg (qtz.cells a0z),PV.int .i64 x7,PV.int .i64 x8] (qrg r):=by
 intro a0z x7 x8 r h;obtain⟨x1,x2,x3,x4,x5,x6⟩:=a0z;unfold qsh at h;refine qae.of_vcN qa3 (fun _ _=>Tryz.call184 _ _) Tryz.func184 (by kernel_rfl) (inl:=[1000000]) ?_;conv=>whnf
 refine⟨id,id,id,id,id,id,id,id,id,?_⟩;conv=>whnf
 replace h:=qaa h;obtain⟨x9,h4,h⟩:=h;refine⟨_,fun hg=>(q5i n _ _ (qah h4 hg)),?_⟩;conv=>whnf
 refine⟨id,id,id,id,id,id,id,id,id,id,id,id,id,id,id,id,id,id,id,id,id,id,?_⟩;conv=>whnf
 replace h:=qaa h;obtain⟨x10,h3,h⟩:=h;refine⟨_,fun hg=>(q5j n _ _ (qah h3 hg)),?_⟩;conv=>whnf
 refine⟨id,id,id,id,id,id,?_⟩;conv=>whnf
 refine ifc h (fun hc h=>?_) (fun hc h=>?_)
 ·obtain rfl:=sj h
  conv=>whnf
  try exact fin
 ·conv=>whnf
  refine qby.fn [1000000] (S:=Int×Bool×Int) (fun(x11,x12,x13)=>[(1,pI x7),(2,pI x11),(3,.ptr 0 0),(8,pB x12),(9,pI x13)]) (fun(x11,x12,x13)=>[.box 44 [pI x1,pB x2,pI x3,pS x4,pV x5,pT x6]]) (B:=qgj n x5 g184 x7) h (wk [0] []) ?_;intro nx1 st h;obtain⟨x11,x12,x13⟩:=st;unfold qgj at h;conv=>whnf
  refine⟨id,?_⟩;conv=>whnf
  refine ifc h (fun hc h=>?_) (fun hc h=>?_)
  ·conv=>whnf
   replace h:=qaa h;obtain⟨⟨x14,x15,x16,x17,x18,x19⟩,h2,h⟩:=h;refine⟨_,Codec.at_ qtz h2,?_⟩;conv=>whnf
   replace h:=qaa h;obtain⟨⟨x20,x21⟩,h1,h⟩:=h;refine⟨_,(g184_ok _ _ _ _ h1),?_⟩;conv=>whnf
   exact⟨(x20,x21,(IntKind.i64.wrap (x13+1))),h,wk [0] []⟩
  ·obtain rfl:=sj h
   conv=>whnf
   try exact fin
def qiz:Nat->Val->Int->Int->Option (Int×Bool)
 | 0=>fun _ _ _=>none
 | n+1=>qsh n (qiz n)
theorem q3x (n:Nat):(∀ (a0z:Val) (x7 x8:Int) (r:Int×Bool),qiz n a0z x7 x8=some r->qae Tryz.prog 184 [PV.agg (qtz.cells a0z),PV.int .i64 x7,PV.int .i64 x8] (qrg r)):=by
 induction n with
 | zero=>exact(by intros; rename_i h; cases h)
 | succ n ih=>
  have hg184:=ih;exact q3m n (qiz n) hg184
theorem q5k (n:Nat):∀ (a0z:Val) (x7 x8:Int) (r:Int×Bool),qiz n a0z x7 x8=some r->qae Tryz.prog 184 [PV.agg (qtz.cells a0z),PV.int .i64 x7,PV.int .i64 x8] (qrg r):=(q3x n)
abbrev q51 (r:Int):PV:=PV.int .i64 r
def qqd (n:Nat) (a0z:Val):Option (Int):=
 match a0z with
 | ⟨x1,x2,x3,x4,x5,x6⟩=>
 bnd (qiz n (Val.mk x1 x2 x3 x4 x5 x6) (32:Int) (0:Int)) fun⟨x7,x8⟩=>
 bif(!x8)then(
 some (20:Int))
 else(
 some (0:Int))
theorem q3v (n:Nat):∀ (a0z:Val) (r:Int),qqd n a0z=some r->qae Tryz.prog 179 [PV.agg (qtz.cells a0z)] (q51 r):=by
 intro a0z r h;obtain⟨x1,x2,x3,x4,x5,x6⟩:=a0z;unfold qqd at h;refine qae.of_vcN qa3 (fun _ _=>Tryz.call179 _ _) Tryz.func179 (by kernel_rfl) (inl:=[1000000]) ?_;conv=>whnf
 replace h:=qaa h;obtain⟨⟨x7,x8⟩,h1,h⟩:=h;refine⟨_,(q5k n _ _ _ _ h1),?_⟩;conv=>whnf
 refine ifc h (fun hc h=>?_) (fun hc h=>?_)
 ·obtain rfl:=sj h
  conv=>whnf
  try exact fin
 ·obtain rfl:=sj h
  conv=>whnf
  try exact fin
abbrev q2b (r:Bool):PV:=PV.bool r
def qmz (n:Nat) (a0z:Val):Option (Bool):=
 match a0z with
 | ⟨x1,x2,x3,x4,x5,x6⟩=>
 bnd (qqd n (Val.mk x1 x2 x3 x4 x5 x6)) fun x7=>
 some (bif(x7==0)then(bif(bif(decide (x1<=1))then true else(bif(x1==2)then(decide (x3≥0))else false))then true else(x1==3))else false)
theorem q0o (n:Nat):∀ (a0z:Val) (r:Bool),qmz n a0z=some r->qae Tryz.prog 175 [PV.agg (qtz.cells a0z)] (q2b r):=by
 intro a0z r h;obtain⟨x1,x2,x3,x4,x5,x6⟩:=a0z;unfold qmz at h;refine qae.of_vcN qa3 (fun _ _=>Tryz.call175 _ _) Tryz.func175 (by kernel_rfl) (inl:=[1000000]) ?_;conv=>whnf
 replace h:=qaa h;obtain⟨x7,h1,h⟩:=h;refine⟨_,(q3v n _ _ h1),?_⟩;conv=>whnf
 refine⟨id,id,id,id,id,id,id,id,id,id,id,id,id,id,id,id,id,id,?_⟩;obtain rfl:=sj h;conv=>whnf
 try exact fin
abbrev q5y (r:Int):PV:=PV.int .i64 r
def qn3 (n:Nat) (x1:SS):Option (Int):=
 some (qd0 (qco ([37]:SS) (7:Int) (qco ([47]:SS) (7:Int) (qco ([42]:SS) (7:Int) (qco ([45]:SS) (6:Int) (qco ([43]:SS) (6:Int) (qco ([73,78]:SS) (5:Int) (qco ([62,61]:SS) (5:Int) (qco ([62]:SS) (5:Int) (qco ([60,61]:SS) (5:Int) (qco ([60]:SS) (5:Int) (qco ([60,62]:SS) (5:Int) (qco ([61]:SS) (5:Int) (qco ([65,78,68]:SS) (3:Int) (qco ([88,79,82]:SS) (2:Int) (qco ([79,82]:SS) (1:Int) ([]:List (SS×Int))))))))))))))))) x1 (0:Int))
theorem q3t (n:Nat):∀ (x1:SS) (r:Int),qn3 n x1=some r->qae Tryz.prog 176 [PV.str x1] (q5y r):=by
 intro x1 r h;unfold qn3 at h;refine qae.of_vcN qa3 (fun _ _=>Tryz.call176 _ _) Tryz.func176 (by kernel_rfl) (inl:=[1000000]) ?_;conv=>whnf
 refine⟨_,qh3 qen (PV.int .i64) ([79,82]:SS) (1:Int) ([]:List (SS×Int)),?_⟩;conv=>whnf
 refine⟨_,qh3 qen (PV.int .i64) ([88,79,82]:SS) (2:Int) (qco ([79,82]:SS) (1:Int) ([]:List (SS×Int))),?_⟩;conv=>whnf
 refine⟨_,qh3 qen (PV.int .i64) ([65,78,68]:SS) (3:Int) (qco ([88,79,82]:SS) (2:Int) (qco ([79,82]:SS) (1:Int) ([]:List (SS×Int)))),?_⟩;conv=>whnf
 refine⟨_,qh3 qen (PV.int .i64) ([61]:SS) (5:Int) (qco ([65,78,68]:SS) (3:Int) (qco ([88,79,82]:SS) (2:Int) (qco ([79,82]:SS) (1:Int) ([]:List (SS×Int))))),?_⟩;conv=>whnf
 refine⟨_,qh3 qen (PV.int .i64) ([60,62]:SS) (5:Int) (qco ([61]:SS) (5:Int) (qco ([65,78,68]:SS) (3:Int) (qco ([88,79,82]:SS) (2:Int) (qco ([79,82]:SS) (1:Int) ([]:List (SS×Int)))))),?_⟩;conv=>whnf
 refine⟨_,qh3 qen (PV.int .i64) ([60]:SS) (5:Int) (qco ([60,62]:SS) (5:Int) (qco ([61]:SS) (5:Int) (qco ([65,78,68]:SS) (3:Int) (qco ([88,79,82]:SS) (2:Int) (qco ([79,82]:SS) (1:Int) ([]:List (SS×Int))))))),?_⟩;conv=>whnf
 refine⟨_,qh3 qen (PV.int .i64) ([60,61]:SS) (5:Int) (qco ([60]:SS) (5:Int) (qco ([60,62]:SS) (5:Int) (qco ([61]:SS) (5:Int) (qco ([65,78,68]:SS) (3:Int) (qco ([88,79,82]:SS) (2:Int) (qco ([79,82]:SS) (1:Int) ([]:List (SS×Int)))))))),?_⟩;conv=>whnf
 refine⟨_,qh3 qen (PV.int .i64) ([62]:SS) (5:Int) (qco ([60,61]:SS) (5:Int) (qco ([60]:SS) (5:Int) (qco ([60,62]:SS) (5:Int) (qco ([61]:SS) (5:Int) (qco ([65,78,68]:SS) (3:Int) (qco ([88,79,82]:SS) (2:Int) (qco ([79,82]:SS) (1:Int) ([]:List (SS×Int))))))))),?_⟩;conv=>whnf
 refine⟨_,qh3 qen (PV.int .i64) ([62,61]:SS) (5:Int) (qco ([62]:SS) (5:Int) (qco ([60,61]:SS) (5:Int) (qco ([60]:SS) (5:Int) (qco ([60,62]:SS) (5:Int) (qco ([61]:SS) (5:Int) (qco ([65,78,68]:SS) (3:Int) (qco ([88,79,82]:SS) (2:Int) (qco ([79,82]:SS) (1:Int) ([]:List (SS×Int)))))))))),?_⟩;conv=>whnf
 refine⟨_,qh3 qen (PV.int .i64) ([73,78]:SS) (5:Int) (qco ([62,61]:SS) (5:Int) (qco ([62]:SS) (5:Int) (qco ([60,61]:SS) (5:Int) (qco ([60]:SS) (5:Int) (qco ([60,62]:SS) (5:Int) (qco ([61]:SS) (5:Int) (qco ([65,78,68]:SS) (3:Int) (qco ([88,79,82]:SS) (2:Int) (qco ([79,82]:SS) (1:Int) ([]:List (SS×Int))))))))))),?_⟩;conv=>whnf
 refine⟨_,qh3 qen (PV.int .i64) ([43]:SS) (6:Int) (qco ([73,78]:SS) (5:Int) (qco ([62,61]:SS) (5:Int) (qco ([62]:SS) (5:Int) (qco ([60,61]:SS) (5:Int) (qco ([60]:SS) (5:Int) (qco ([60,62]:SS) (5:Int) (qco ([61]:SS) (5:Int) (qco ([65,78,68]:SS) (3:Int) (qco ([88,79,82]:SS) (2:Int) (qco ([79,82]:SS) (1:Int) ([]:List (SS×Int)))))))))))),?_⟩;conv=>whnf
 refine⟨_,qh3 qen (PV.int .i64) ([45]:SS) (6:Int) (qco ([43]:SS) (6:Int) (qco ([73,78]:SS) (5:Int) (qco ([62,61]:SS) (5:Int) (qco ([62]:SS) (5:Int) (qco ([60,61]:SS) (5:Int) (qco ([60]:SS) (5:Int) (qco ([60,62]:SS) (5:Int) (qco ([61]:SS) (5:Int) (qco ([65,78,68]:SS) (3:Int) (qco ([88,79,82]:SS) (2:Int) (qco ([79,82]:SS) (1:Int) ([]:List (SS×Int))))))))))))),?_⟩;conv=>whnf
 refine⟨_,qh3 qen (PV.int .i64) ([42]:SS) (7:Int) (qco ([45]:SS) (6:Int) (qco ([43]:SS) (6:Int) (qco ([73,78]:SS) (5:Int) (qco ([62,61]:SS) (5:Int) (qco ([62]:SS) (5:Int) (qco ([60,61]:SS) (5:Int) (qco ([60]:SS) (5:Int) (qco ([60,62]:SS) (5:Int) (qco ([61]:SS) (5:Int) (qco ([65,78,68]:SS) (3:Int) (qco ([88,79,82]:SS) (2:Int) (qco ([79,82]:SS) (1:Int) ([]:List (SS×Int)))))))))))))),?_⟩;conv=>whnf
 refine⟨_,qh3 qen (PV.int .i64) ([47]:SS) (7:Int) (qco ([42]:SS) (7:Int) (qco ([45]:SS) (6:Int) (qco ([43]:SS) (6:Int) (qco ([73,78]:SS) (5:Int) (qco ([62,61]:SS) (5:Int) (qco ([62]:SS) (5:Int) (qco ([60,61]:SS) (5:Int) (qco ([60]:SS) (5:Int) (qco ([60,62]:SS) (5:Int) (qco ([61]:SS) (5:Int) (qco ([65,78,68]:SS) (3:Int) (qco ([88,79,82]:SS) (2:Int) (qco ([79,82]:SS) (1:Int) ([]:List (SS×Int))))))))))))))),?_⟩;conv=>whnf
 refine⟨_,qh3 qen (PV.int .i64) ([37]:SS) (7:Int) (qco ([47]:SS) (7:Int) (qco ([42]:SS) (7:Int) (qco ([45]:SS) (6:Int) (qco ([43]:SS) (6:Int) (qco ([73,78]:SS) (5:Int) (qco ([62,61]:SS) (5:Int) (qco ([62]:SS) (5:Int) (qco ([60,61]:SS) (5:Int) (qco ([60]:SS) (5:Int) (qco ([60,62]:SS) (5:Int) (qco ([61]:SS) (5:Int) (qco ([65,78,68]:SS) (3:Int) (qco ([88,79,82]:SS) (2:Int) (qco ([79,82]:SS) (1:Int) ([]:List (SS×Int)))))))))))))))),?_⟩;conv=>whnf
 refine⟨PV.int .i64 (qd0 (qco ([37]:SS) (7:Int) (qco ([47]:SS) (7:Int) (qco ([42]:SS) (7:Int) (qco ([45]:SS) (6:Int) (qco ([43]:SS) (6:Int) (qco ([73,78]:SS) (5:Int) (qco ([62,61]:SS) (5:Int) (qco ([62]:SS) (5:Int) (qco ([60,61]:SS) (5:Int) (qco ([60]:SS) (5:Int) (qco ([60,62]:SS) (5:Int) (qco ([61]:SS) (5:Int) (qco ([65,78,68]:SS) (3:Int) (qco ([88,79,82]:SS) (2:Int) (qco ([79,82]:SS) (1:Int) ([]:List (SS×Int))))))))))))))))) x1 (0:Int)),(q4t (qco ([37]:SS) (7:Int) (qco ([47]:SS) (7:Int) (qco ([42]:SS) (7:Int) (qco ([45]:SS) (6:Int) (qco ([43]:SS) (6:Int) (qco ([73,78]:SS) (5:Int) (qco ([62,61]:SS) (5:Int) (qco ([62]:SS) (5:Int) (qco ([60,61]:SS) (5:Int) (qco ([60]:SS) (5:Int) (qco ([60,62]:SS) (5:Int) (qco ([61]:SS) (5:Int) (qco ([65,78,68]:SS) (3:Int) (qco ([88,79,82]:SS) (2:Int) (qco ([79,82]:SS) (1:Int) ([]:List (SS×Int))))))))))))))))) x1),⟨qtt qen (PV.int .i64) (qco ([37]:SS) (7:Int) (qco ([47]:SS) (7:Int) (qco ([42]:SS) (7:Int) (qco ([45]:SS) (6:Int) (qco ([43]:SS) (6:Int) (qco ([73,78]:SS) (5:Int) (qco ([62,61]:SS) (5:Int) (qco ([62]:SS) (5:Int) (qco ([60,61]:SS) (5:Int) (qco ([60]:SS) (5:Int) (qco ([60,62]:SS) (5:Int) (qco ([61]:SS) (5:Int) (qco ([65,78,68]:SS) (3:Int) (qco ([88,79,82]:SS) (2:Int) (qco ([79,82]:SS) (1:Int) ([]:List (SS×Int))))))))))))))))) x1 (0:Int),qtu qen (PV.int .i64) (qco ([37]:SS) (7:Int) (qco ([47]:SS) (7:Int) (qco ([42]:SS) (7:Int) (qco ([45]:SS) (6:Int) (qco ([43]:SS) (6:Int) (qco ([73,78]:SS) (5:Int) (qco ([62,61]:SS) (5:Int) (qco ([62]:SS) (5:Int) (qco ([60,61]:SS) (5:Int) (qco ([60]:SS) (5:Int) (qco ([60,62]:SS) (5:Int) (qco ([61]:SS) (5:Int) (qco ([65,78,68]:SS) (3:Int) (qco ([88,79,82]:SS) (2:Int) (qco ([79,82]:SS) (1:Int) ([]:List (SS×Int))))))))))))))))) x1⟩,?_⟩;obtain rfl:=sj h;conv=>whnf
 try exact fin
abbrev qzq (r:Bool):PV:=PV.bool r
def qd5 (n:Nat):Bool->Option (Bool):=fun x2=>
 bif x2 then(
 some true)
 else(
 some false)
def qhp (n:Nat) (x1:SS):Option (Bool):=
 bif(x1==([99,111,117,110,116]:SS))then(
 qd5 n (x1==([99,111,117,110,116]:SS)))
 else(
 bif(x1==([115,117,109]:SS))then(
 qd5 n (x1==([115,117,109]:SS)))
 else(
 bif(x1==([109,105,110]:SS))then(
 qd5 n (x1==([109,105,110]:SS)))
 else(
 bif(x1==([109,97,120]:SS))then(
 qd5 n (x1==([109,97,120]:SS)))
 else(
 qd5 n (x1==([99,111,108,108,101,99,116]:SS))))))
theorem qsd (n:Nat):∀ (x1:SS) (r:Bool),qhp n x1=some r->qae Tryz.prog 177 [PV.str x1] (qzq r):=by
 intro x1 r h;unfold qhp at h;refine qae.of_vcN qa3 (fun _ _=>Tryz.call177 _ _) Tryz.func177 (by kernel_rfl) (inl:=[1000000]) ?_;conv=>whnf
 refine qje.cut (S:=Bool) (fun x2=>[(4,pB x2)]) (fun x2=>[]) (qd5 n) (r:=r) ?_ ?_
 ·intro x2 h
  unfold qd5 at h;conv=>whnf
  refine ifc h (fun hc h=>?_) (fun hc h=>?_)
  ·obtain rfl:=sj h
   conv=>whnf
   try exact fin
  ·obtain rfl:=sj h
   conv=>whnf
   try exact fin
 ·conv=>whnf
  refine ifc h (fun hc h=>?_) (fun hc h=>?_)
  ·conv=>whnf
   exact⟨(x1==([99,111,117,110,116]:SS)),h,wk [] []⟩
  ·conv=>whnf
   refine ifc h (fun hc h=>?_) (fun hc h=>?_)
   ·conv=>whnf
    exact⟨(x1==([115,117,109]:SS)),h,wk [] []⟩
   ·conv=>whnf
    refine ifc h (fun hc h=>?_) (fun hc h=>?_)
    ·conv=>whnf
     exact⟨(x1==([109,105,110]:SS)),h,wk [] []⟩
    ·conv=>whnf
     refine ifc h (fun hc h=>?_) (fun hc h=>?_)
     ·conv=>whnf
      exact⟨(x1==([109,97,120]:SS)),h,wk [] []⟩
     ·conv=>whnf
      exact⟨(x1==([99,111,108,108,101,99,116]:SS)),h,wk [] []⟩
abbrev q50 (r:Int×Bool):PV:=PV.tup [PV.int .i64 r.1,PV.bool r.2]
def qbg (n:Nat) (x2:SS) (x1:Int) (x10:List qab):Bool->Option (Int×Bool):=fun x15=>
 bif x15 then(
 some ((1:Int),(x2==([]:SS))))
 else(
 bif(x1==10)then(
 bnd (qn3 n x2) fun x16=>
 some ((2:Int),(decide (x16>0))))
 else(
 bif(x1==13)then(
 bnd (qfi n x2) fun x17=>
 bnd (qa5 x17 (qhp n x2)) fun x18=>
 some ((-1:Int),(bif x17 then(!x18)else false)))
 else(
 bif(x1==14)then(
 bif(((qab.rows x10).length:Int)==0)then(
 some ((0:Int),(x2==([99,111,117,110,116]:SS))))
 else(
 bnd (qhp n x2) fun x19=>
 some ((1:Int),x19)))
 else(
 bif(x1==15)then(
 bnd (qkz n x2) fun x20=>
 bnd (qa5 (bif x20 then(((qab.rows x10).length:Int)==1)else false) (idx x10 (0:Int))) fun⟨x21,x22,⟨x23,x24,x25,x26,x27,x28⟩,x29,x30⟩=>
 some ((1:Int),(bif(bif x20 then(((qab.rows x10).length:Int)==1)else false)then(x21==2)else false)))
 else(
 some ((0:Int),false))))))
def qbo (n:Nat) (x2:SS) (x1:Int) (x9:List SS) (x10:List qab):Bool->Option (Int×Bool):=fun x12=>
 bif x12 then(
 bnd (qfi n x2) fun x13=>
 some ((0:Int),x13))
 else(
 bif(x1==4)then(
 bnd (qkz n x2) fun x14=>
 some ((1:Int),x14))
 else(
 bif(x1==5)then(
 some ((-1:Int),(x2==([]:SS))))
 else(
 bif(x1==6)then(
 some (((qam x9).length:Int),(x2==([]:SS))))
 else(
 bif(x1==7)then(
 some ((2:Int),(x2==([]:SS))))
 else(
 bif(x1==8)then(
 qbg n x2 x1 x10 (x1==8))
 else(
 bif(x1==9)then(
 qbg n x2 x1 x10 (x1==9))
 else(
 bif(x1==11)then(
 qbg n x2 x1 x10 (x1==11))
 else(
 qbg n x2 x1 x10 (x1==12)))))))))
def qb9 (n:Nat) (a0z:qab):Option (Int×Bool):=
 match a0z with
 | ⟨x1,x2,⟨x3,x4,x5,x6,x7,x8⟩,x9,x10⟩=>
 bif(x1==1)then(
 bnd (qa5 (x2==([]:SS)) (qmz n (Val.mk x3 x4 x5 x6 x7 x8))) fun x11=>
 some ((0:Int),(bif(x2==([]:SS))then x11 else false)))
 else(
 bif(x1==2)then(
 qbo n x2 x1 x9 x10 (x1==2))
 else(
 qbo n x2 x1 x9 x10 (x1==3)))
set_option maxHeartbeats 4000000 in
theorem q3u (n:Nat):∀ (a0z:qab) (r:Int×Bool),qb9 n a0z=some r->qae Tryz.prog 173 [PV.agg (qca.cells a0z)] (q50 r):=by
 intro a0z r h;obtain⟨x1,x2,⟨x3,x4,x5,x6,x7,x8⟩,x9,x10⟩:=a0z;unfold qb9 at h;refine qae.of_vcN qa3 (fun _ _=>Tryz.call173 _ _) Tryz.func173 (by kernel_rfl) (inl:=[1000000]) ?_;conv=>whnf
 refine ifc h (fun hc h=>?_) (fun hc h=>?_)
 ·conv=>whnf
  refine⟨id,id,?_⟩;conv=>whnf
  replace h:=qaa h;obtain⟨x11,h1,h⟩:=h;refine⟨_,fun hg=>(q0o n _ _ (qah h1 hg)),?_⟩;conv=>whnf
  refine⟨id,?_⟩;obtain rfl:=sj h;conv=>whnf
  try exact fin
 ·conv=>whnf
  refine qje.cut (S:=Bool) (fun x12=>[(1,.ptr 0 0),(5,pI x1),(16,pB x12)]) (fun x12=>[.box 47 [pI x1,pS x2,pI x3,pB x4,pI x5,pS x6,pV x7,pT x8,pT x9,pE x10]]) (qbo n x2 x1 x9 x10) (r:=r) ?_ ?_
  ·intro x12 h
   unfold qbo at h;conv=>whnf
   refine ifc h (fun hc h=>?_) (fun hc h=>?_)
   ·conv=>whnf
    replace h:=qaa h;obtain⟨x13,h2,h⟩:=h;refine⟨_,(qgy n _ _ h2),?_⟩;obtain rfl:=sj h;conv=>whnf
    try exact fin
   ·conv=>whnf
    refine ifc h (fun hc h=>?_) (fun hc h=>?_)
    ·conv=>whnf
     replace h:=qaa h;obtain⟨x14,h3,h⟩:=h;refine⟨_,(ql4 n _ _ h3),?_⟩;obtain rfl:=sj h;conv=>whnf
     try exact fin
    ·conv=>whnf
     refine ifc h (fun hc h=>?_) (fun hc h=>?_)
     ·obtain rfl:=sj h
      conv=>whnf
      try exact fin
     ·conv=>whnf
      refine ifc h (fun hc h=>?_) (fun hc h=>?_)
      ·obtain rfl:=sj h
       conv=>whnf
       try exact fin
      ·conv=>whnf
       refine ifc h (fun hc h=>?_) (fun hc h=>?_)
       ·obtain rfl:=sj h
        conv=>whnf
        try exact fin
       ·conv=>whnf
        refine qje.cut (S:=Bool) (fun x15=>[(1,.ptr 0 0),(5,pI x1),(45,pB x15)]) (fun x15=>[.box 47 [pI x1,pS x2,pI x3,pB x4,pI x5,pS x6,pV x7,pT x8,pT x9,pE x10]]) (qbg n x2 x1 x10) (r:=r) ?_ ?_
        ·intro x15 h
         unfold qbg at h;conv=>whnf
         refine ifc h (fun hc h=>?_) (fun hc h=>?_)
         ·obtain rfl:=sj h
          conv=>whnf
          try exact fin
         ·conv=>whnf
          refine ifc h (fun hc h=>?_) (fun hc h=>?_)
          ·conv=>whnf
           replace h:=qaa h;obtain⟨x16,h4,h⟩:=h;refine⟨_,(q3t n _ _ h4),?_⟩;obtain rfl:=sj h;conv=>whnf
           try exact fin
          ·conv=>whnf
           refine ifc h (fun hc h=>?_) (fun hc h=>?_)
           ·conv=>whnf
            replace h:=qaa h;obtain⟨x17,h6,h⟩:=h;refine⟨_,(qgy n _ _ h6),?_⟩;conv=>whnf
            refine⟨id,id,?_⟩;conv=>whnf
            replace h:=qaa h;obtain⟨x18,h5,h⟩:=h;refine⟨_,fun hg=>(qsd n _ _ (qah h5 hg)),?_⟩;conv=>whnf
            refine⟨id,id,?_⟩;obtain rfl:=sj h;conv=>whnf
            try exact fin
           ·conv=>whnf
            refine ifc h (fun hc h=>?_) (fun hc h=>?_)
            ·conv=>whnf
             refine ifc h (fun hc h=>?_) (fun hc h=>?_)
             ·obtain rfl:=sj h
              conv=>whnf
              try exact fin
             ·conv=>whnf
              replace h:=qaa h;obtain⟨x19,h7,h⟩:=h;refine⟨_,(qsd n _ _ h7),?_⟩;obtain rfl:=sj h;conv=>whnf
              try exact fin
            ·conv=>whnf
             refine ifc h (fun hc h=>?_) (fun hc h=>?_)
             ·conv=>whnf
              replace h:=qaa h;obtain⟨x20,h9,h⟩:=h;refine⟨_,(ql4 n _ _ h9),?_⟩;conv=>whnf
              refine⟨id,id,id,id,id,id,?_⟩;conv=>whnf
              replace h:=qaa h;obtain⟨⟨x21,x22,⟨x23,x24,x25,x26,x27,x28⟩,x29,x30⟩,h8,h⟩:=h;refine⟨_,fun hg=>Codec.at_ qca (qah h8 hg),?_⟩;conv=>whnf
              refine⟨id,id,id,id,?_⟩;obtain rfl:=sj h;conv=>whnf
              try exact fin
             ·obtain rfl:=sj h
              conv=>whnf
              try exact fin
        ·conv=>whnf
         refine ifc h (fun hc h=>?_) (fun hc h=>?_)
         ·conv=>whnf
          exact⟨(x1==8),h,wk [0] []⟩
         ·conv=>whnf
          refine ifc h (fun hc h=>?_) (fun hc h=>?_)
          ·conv=>whnf
           exact⟨(x1==9),h,wk [0] []⟩
          ·conv=>whnf
           refine ifc h (fun hc h=>?_) (fun hc h=>?_)
           ·conv=>whnf
            exact⟨(x1==11),h,wk [0] []⟩
           ·conv=>whnf
            exact⟨(x1==12),h,wk [0] []⟩
  ·conv=>whnf
   refine ifc h (fun hc h=>?_) (fun hc h=>?_)
   ·conv=>whnf
    exact⟨(x1==2),h,wk [0] []⟩
   ·conv=>whnf
    exact⟨(x1==3),h,wk [0] []⟩
abbrev qqg (r:Bool):PV:=PV.bool r
abbrev zqi:Type:=qab->Int->Option (Bool)
def qg0 (n:Nat) (x10:List qab) (g170:zqi) (x11:Int):(Int->Option (Bool))->Int->Option (Bool):=fun nx2 x18=>
 bif(decide (x18<((qab.rows x10).length:Int)))then(
 bnd (idx x10 x18) fun⟨x19,x20,⟨x21,x22,x23,x24,x25,x26⟩,x27,x28⟩=>
 bnd (g170 (qab.mk x19 x20 (Val.mk x21 x22 x23 x24 x25 x26) x27 x28) (IntKind.i64.wrap (x11 - 1))) fun x29=>
 bif(!x29)then(
 some false)
 else(
 nx2 (IntKind.i64.wrap (x18+1))))
 else(
 some true)
def qgz (n:Nat) (x9:List SS) (x10:List qab) (g170:zqi) (x11:Int):(Int->Option (Bool))->Int->Option (Bool):=fun nx1 x15=>
 bif(decide (x15<((qam x9).length:Int)))then(
 bnd (idx x9 x15) fun x16=>
 bnd (qkz n x16) fun x17=>
 bif(!x17)then(
 some false)
 else(
 nx1 (IntKind.i64.wrap (x15+1))))
 else(
 qap (qg0 n x10 g170 x11) n (0:Int))
def qof (n:Nat) (g170:zqi) (a0z:qab) (x11:Int):Option (Bool):=
 match a0z with
 | ⟨x1,x2,⟨x3,x4,x5,x6,x7,x8⟩,x9,x10⟩=>
 bnd (qb9 n (qab.mk x1 x2 (Val.mk x3 x4 x5 x6 x7 x8) x9 x10)) fun⟨x12,x13⟩=>
 bnd (qa5 ((!(bif(bif(!x13)then true else(decide (x11<1)))then true else(bif(decide (x12≥0))then(((qab.rows x10).length:Int) != x12)else false)))&&(x1 != 1)) (qhk n (Val.mk x3 x4 x5 x6 x7 x8) (Val.mk (0:Int) false (0:Int) ([]:SS) ([]:List Val) ([]:List SS)))) fun x14=>
 bif(bif(bif(bif(bif(!x13)then true else(decide (x11<1)))then true else(bif(decide (x12≥0))then(((qab.rows x10).length:Int) != x12)else false))then true else(bif(x1 != 1)then(!x14)else false))then true else(bif(x1 != 6)then(decide (((qam x9).length:Int)>0))else false))then(
 some false)
 else(
 qap (qgz n x9 x10 g170 x11) n (0:Int))
set_option maxHeartbeats 4000000 in
theorem q1w (n:Nat) (g170:zqi) (g170_ok:∀ (a0z:qab) (x11:Int) (r:Bool),g170 a0z x11=some r->qae Tryz.prog 170 [PV.agg (qca.cells a0z),PV.int .i64 x11] (qqg r)):∀ (a0z:qab) (x11:Int) (r:Bool),qof n g170 a0z x11=some r->qae Tryz.prog 170 [PV.agg (qca.cells a0z),PV.int .i64 x11] (qqg r):=by
 intro a0z x11 r h;obtain⟨x1,x2,⟨x3,x4,x5,x6,x7,x8⟩,x9,x10⟩:=a0z;unfold qof at h;refine qae.of_vcN qa3 (fun _ _=>Tryz.call170 _ _) Tryz.func170 (by kernel_rfl) (inl:=[1000000]) ?_;conv=>whnf
 replace h:=qaa h;obtain⟨⟨x12,x13⟩,h6,h⟩:=h;refine⟨_,(q3u n _ _ h6),?_⟩;conv=>whnf
 refine⟨id,id,id,id,id,id,id,id,id,id,id,id,id,id,id,id,id,?_⟩;conv=>whnf
 replace h:=qaa h;obtain⟨x14,h5,h⟩:=h;refine⟨_,fun hg=>(qae.leArgs (qww n _ _ _ (qah h5 hg)) (by try exact fin)),?_⟩;conv=>whnf
 refine⟨id,id,id,id,id,id,id,id,id,id,id,id,id,?_⟩;conv=>whnf
 refine ifc h (fun hc h=>?_) (fun hc h=>?_)
 ·obtain rfl:=sj h
  conv=>whnf
  try exact fin
 ·conv=>whnf
  refine qby.fn [1000000] (S:=Int) (fun x15=>[(1,pI x11),(2,.ptr 0 0),(57,pT x9),(58,.p (.int .i64 ((qam x9).length:Int))),(59,pI x15)]) (fun x15=>[.box 47 [pI x1,pS x2,pI x3,pB x4,pI x5,pS x6,pV x7,pT x8,pT x9,pE x10]]) (B:=qgz n x9 x10 g170 x11) h (wk [0] []) ?_;intro nx1 x15 h;unfold qgz at h;conv=>whnf
  refine ifc h (fun hc h=>?_) (fun hc h=>?_)
  ·conv=>whnf
   replace h:=qaa h;obtain⟨x16,h2,h⟩:=h;refine⟨_,Codec.at_ qqt h2,?_⟩;conv=>whnf
   replace h:=qaa h;obtain⟨x17,h1,h⟩:=h;refine⟨_,(ql4 n _ _ h1),?_⟩;conv=>whnf
   refine ifc h (fun hc h=>?_) (fun hc h=>?_)
   ·obtain rfl:=sj h
    conv=>whnf
    try exact fin
   ·conv=>whnf
    exact⟨(IntKind.i64.wrap (x15+1)),h,wk [0] []⟩
  ·conv=>whnf
   refine qby.fn [1000000] (S:=Int) (fun x18=>[(1,pI x11),(68,pE x10),(69,.p (.int .i64 ((qab.rows x10).length:Int))),(70,pI x18)]) (fun x18=>[]) (B:=qg0 n x10 g170 x11) h (wk [] []) ?_;intro nx2 x18 h;unfold qg0 at h;conv=>whnf
   refine ifc h (fun hc h=>?_) (fun hc h=>?_)
   ·conv=>whnf
    replace h:=qaa h;obtain⟨⟨x19,x20,⟨x21,x22,x23,x24,x25,x26⟩,x27,x28⟩,h4,h⟩:=h;refine⟨_,Codec.at_ qca h4,?_⟩;conv=>whnf
    replace h:=qaa h;obtain⟨x29,h3,h⟩:=h;refine⟨_,(g170_ok _ _ _ h3),?_⟩;conv=>whnf
    refine ifc h (fun hc h=>?_) (fun hc h=>?_)
    ·obtain rfl:=sj h
     conv=>whnf
     try exact fin
    ·conv=>whnf
     exact⟨(IntKind.i64.wrap (x18+1)),h,wk [] []⟩
   ·obtain rfl:=sj h
    conv=>whnf
    try exact fin
def qcv:Nat->qab->Int->Option (Bool)
 | 0=>fun _ _=>none
 | n+1=>qof n (qcv n)
theorem q14 (n:Nat):(∀ (a0z:qab) (x11:Int) (r:Bool),qcv n a0z x11=some r->qae Tryz.prog 170 [PV.agg (qca.cells a0z),PV.int .i64 x11] (qqg r)):=by
 induction n with
 | zero=>exact(by intros; rename_i h; cases h)
 | succ n ih=>
  have hg170:=ih;exact q1w n (qcv n) hg170
theorem qr7 (n:Nat):∀ (a0z:qab) (x11:Int) (r:Bool),qcv n a0z x11=some r->qae Tryz.prog 170 [PV.agg (qca.cells a0z),PV.int .i64 x11] (qqg r):=(q14 n)
abbrev qzz (r:Bool):PV:=PV.bool r
def qfn (n:Nat) (x1:List SS) (x2:List qab):(Int->Option (Bool))->Int->Option (Bool):=fun nx1 x3=>
 bif(decide (x3<((qam x1).length:Int)))then(
 bnd (idx x1 x3) fun x4=>
 bnd (qkz n x4) fun x5=>
 bnd (qa5 (!(!x5)) (idx x2 x3)) fun⟨x6,x7,⟨x8,x9,x10,x11,x12,x13⟩,x14,x15⟩=>
 bnd (qa5 (!(!x5)) (qcv n (qab.mk x6 x7 (Val.mk x8 x9 x10 x11 x12 x13) x14 x15) (32:Int))) fun x16=>
 bif(bif(!x5)then true else(!x16))then(
 some false)
 else(
 nx1 (IntKind.i64.wrap (x3+1))))
 else(
 some true)
def qht (n:Nat) (a0z:q16):Option (Bool):=
 match a0z with
 | ⟨x1,x2⟩=>
 bif(((qam x1).length:Int) != ((qab.rows x2).length:Int))then(
 some false)
 else(
 qap (qfn n x1 x2) n (0:Int))
theorem qse (n:Nat):∀ (a0z:q16) (r:Bool),qht n a0z=some r->qae Tryz.prog 167 [PV.agg (zpu.cells a0z)] (qzz r):=by
 intro a0z r h;obtain⟨x1,x2⟩:=a0z;unfold qht at h;refine qae.of_vcN qa3 (fun _ _=>Tryz.call167 _ _) Tryz.func167 (by kernel_rfl) (inl:=[1000000]) ?_;conv=>whnf
 refine ifc h (fun hc h=>?_) (fun hc h=>?_)
 ·obtain rfl:=sj h
  conv=>whnf
  try exact fin
 ·conv=>whnf
  refine qby.fn [1000000] (S:=Int) (fun x3=>[(1,.ptr 0 0),(13,pT x1),(14,.p (.int .i64 ((qam x1).length:Int))),(15,pI x3)]) (fun x3=>[.box 215 [pT x1,pE x2]]) (B:=qfn n x1 x2) h (wk [0] []) ?_;intro nx1 x3 h;unfold qfn at h;conv=>whnf
  refine ifc h (fun hc h=>?_) (fun hc h=>?_)
  ·conv=>whnf
   replace h:=qaa h;obtain⟨x4,h4,h⟩:=h;refine⟨_,Codec.at_ qqt h4,?_⟩;conv=>whnf
   replace h:=qaa h;obtain⟨x5,h3,h⟩:=h;refine⟨_,(ql4 n _ _ h3),?_⟩;conv=>whnf
   refine⟨id,id,id,?_⟩;conv=>whnf
   replace h:=qaa h;obtain⟨⟨x6,x7,⟨x8,x9,x10,x11,x12,x13⟩,x14,x15⟩,h2,h⟩:=h;refine⟨_,fun hg=>Codec.at_ qca (qah h2 hg),?_⟩;conv=>whnf
   refine⟨id,id,?_⟩;conv=>whnf
   replace h:=qaa h;obtain⟨x16,h1,h⟩:=h;refine⟨_,fun hg=>(qr7 n _ _ _ (qah h1 hg)),?_⟩;conv=>whnf
   refine⟨id,id,?_⟩;conv=>whnf
   refine ifc h (fun hc h=>?_) (fun hc h=>?_)
   ·obtain rfl:=sj h
    conv=>whnf
    try exact fin
   ·conv=>whnf
    exact⟨(IntKind.i64.wrap (x3+1)),h,wk [0] []⟩
  ·obtain rfl:=sj h
   conv=>whnf
   try exact fin
abbrev q00 (r:Bool):PV:=PV.bool r
def qf7 (n:Nat) (x2:List SS) (x1:SS) (x3:List SS) (x4:List qab):(Int->Option (Bool))->Int->Option (Bool):=fun nx1 x5=>
 bif(decide (x5<((qam x2).length:Int)))then(
 bnd (idx x2 x5) fun x6=>
 bnd (qkz n x6) fun x7=>
 bif(!x7)then(
 some false)
 else(
 nx1 (IntKind.i64.wrap (x5+1))))
 else(
 bnd (qa5 (!(x1==([]:SS))) (qfi n x1)) fun x8=>
 bnd (qa5 (bif(x1==([]:SS))then true else x8) (qht n (q16.mk x3 x4))) fun x9=>
 some (bif(bif(x1==([]:SS))then true else x8)then x9 else false))
def qev (n:Nat) (a0z:qaf):Option (Bool):=
 match a0z with
 | ⟨x1,x2,x3,x4⟩=>
 qap (qf7 n x2 x1 x3 x4) n (0:Int)
theorem qzk (n:Nat):∀ (a0z:qaf) (r:Bool),qev n a0z=some r->qae Tryz.prog 163 [PV.agg (qeq.cells a0z)] (q00 r):=by
 intro a0z r h;obtain⟨x1,x2,x3,x4⟩:=a0z;unfold qev at h;refine qae.of_vcN qa3 (fun _ _=>Tryz.call163 _ _) Tryz.func163 (by kernel_rfl) (inl:=[1000000]) ?_;conv=>whnf
 refine qby.fn [1000000] (S:=Int) (fun x5=>[(1,.ptr 0 0),(6,pT x2),(7,.p (.int .i64 ((qam x2).length:Int))),(8,pI x5)]) (fun x5=>[.box 212 [pS x1,pT x2,pT x3,pE x4]]) (B:=qf7 n x2 x1 x3 x4) h (wk [0] []) ?_;intro nx1 x5 h;unfold qf7 at h;conv=>whnf
 refine ifc h (fun hc h=>?_) (fun hc h=>?_)
 ·conv=>whnf
  replace h:=qaa h;obtain⟨x6,h2,h⟩:=h;refine⟨_,Codec.at_ qqt h2,?_⟩;conv=>whnf
  replace h:=qaa h;obtain⟨x7,h1,h⟩:=h;refine⟨_,(ql4 n _ _ h1),?_⟩;conv=>whnf
  refine ifc h (fun hc h=>?_) (fun hc h=>?_)
  ·obtain rfl:=sj h
   conv=>whnf
   try exact fin
  ·conv=>whnf
   exact⟨(IntKind.i64.wrap (x5+1)),h,wk [0] []⟩
 ·conv=>whnf
  refine⟨id,id,?_⟩;conv=>whnf
  replace h:=qaa h;obtain⟨x8,h4,h⟩:=h;refine⟨_,fun hg=>(qgy n _ _ (qah h4 hg)),?_⟩;conv=>whnf
  refine⟨id,id,id,id,id,id,?_⟩;conv=>whnf
  replace h:=qaa h;obtain⟨x9,h3,h⟩:=h;refine⟨_,fun hg=>(qse n _ _ (qah h3 hg)),?_⟩;conv=>whnf
  refine⟨id,?_⟩;obtain rfl:=sj h;conv=>whnf
  try exact fin
abbrev q0w (r:Bool):PV:=PV.bool r
def qek (n:Nat) (a0z:qai):Option (Bool):=
 match a0z with
 | ⟨x1,x2,x3,x4,x5⟩=>
 bnd (qa5 (!(x1==([]:SS))) (qfi n x1)) fun x6=>
 bnd (qa5 ((bif(x1==([]:SS))then true else x6)&&(!(x2==([]:SS)))) (qkz n x2)) fun x7=>
 bnd (qa5 (bif(bif(bif(bif(x1==([]:SS))then true else x6)then(bif(x2==([]:SS))then true else x7)else false)then(decide (x3≥0))else false)then(decide (x3<=2))else false) (qht n (q16.mk x4 x5))) fun x8=>
 some (bif(bif(bif(bif(bif(x1==([]:SS))then true else x6)then(bif(x2==([]:SS))then true else x7)else false)then(decide (x3≥0))else false)then(decide (x3<=2))else false)then x8 else false)
theorem qzh (n:Nat):∀ (a0z:qai) (r:Bool),qek n a0z=some r->qae Tryz.prog 164 [PV.agg (qgn.cells a0z)] (q0w r):=by
 intro a0z r h;obtain⟨x1,x2,x3,x4,x5⟩:=a0z;unfold qek at h;refine qae.of_vcN qa3 (fun _ _=>Tryz.call164 _ _) Tryz.func164 (by kernel_rfl) (inl:=[1000000]) ?_;conv=>whnf
 refine⟨id,id,?_⟩;conv=>whnf
 replace h:=qaa h;obtain⟨x6,h3,h⟩:=h;refine⟨_,fun hg=>(qgy n _ _ (qah h3 hg)),?_⟩;conv=>whnf
 refine⟨id,id,id,id,id,id,?_⟩;conv=>whnf
 replace h:=qaa h;obtain⟨x7,h2,h⟩:=h;refine⟨_,fun hg=>(ql4 n _ _ (qah h2 hg)),?_⟩;conv=>whnf
 refine⟨id,id,id,id,id,id,id,id,id,id,id,id,id,id,?_⟩;conv=>whnf
 replace h:=qaa h;obtain⟨x8,h1,h⟩:=h;refine⟨_,fun hg=>(qse n _ _ (qah h1 hg)),?_⟩;conv=>whnf
 refine⟨id,?_⟩;obtain rfl:=sj h;conv=>whnf
 try exact fin
abbrev qtp (r:Bool):PV:=PV.bool r
def qef (n:Nat) (x1:List qaf) (x2:List qai):(Int->Option (Bool))->Int->Option (Bool):=fun nx1 x3=>
 bif(decide (x3<((qaf.rows x1).length:Int)))then(
 bnd (idx x1 x3) fun⟨x4,x5,x6,x7⟩=>
 bnd (qev n (qaf.mk x4 x5 x6 x7)) fun x8=>
 bnd (qa5 ((!(!x8))&&(decide (x3>0))) (idx x2 (IntKind.i64.wrap (x3 - 1)))) fun⟨x9,x10,x11,x12,x13⟩=>
 bnd (qa5 ((!(!x8))&&(decide (x3>0))) (qek n (qai.mk x9 x10 x11 x12 x13))) fun x14=>
 bif(bif(!x8)then true else(bif(decide (x3>0))then(!x14)else false))then(
 some false)
 else(
 nx1 (IntKind.i64.wrap (x3+1))))
 else(
 some true)
def qic (n:Nat) (a0z:qa9):Option (Bool):=
 match a0z with
 | ⟨x1,x2⟩=>
 bif(((qaf.rows x1).length:Int) != (IntKind.i64.wrap (((qai.rows x2).length:Int)+1)))then(
 some false)
 else(
 qap (qef n x1 x2) n (0:Int))
theorem qzl (n:Nat):∀ (a0z:qa9) (r:Bool),qic n a0z=some r->qae Tryz.prog 161 [PV.agg (qoa.cells a0z)] (qtp r):=by
 intro a0z r h;obtain⟨x1,x2⟩:=a0z;unfold qic at h;refine qae.of_vcN qa3 (fun _ _=>Tryz.call161 _ _) Tryz.func161 (by kernel_rfl) (inl:=[1000000]) ?_;conv=>whnf
 refine ifc h (fun hc h=>?_) (fun hc h=>?_)
 ·obtain rfl:=sj h
  conv=>whnf
  try exact fin
 ·conv=>whnf
  refine qby.fn [1000000] (S:=Int) (fun x3=>[(1,.ptr 0 0),(14,.p (.int .i64 ((qaf.rows x1).length:Int))),(15,pI x3)]) (fun x3=>[.box 128 [pN x1,pG x2]]) (B:=qef n x1 x2) h (wk [0] []) ?_;intro nx1 x3 h;unfold qef at h;conv=>whnf
  refine ifc h (fun hc h=>?_) (fun hc h=>?_)
  ·conv=>whnf
   replace h:=qaa h;obtain⟨⟨x4,x5,x6,x7⟩,h4,h⟩:=h;refine⟨_,Codec.at_ qeq h4,?_⟩;conv=>whnf
   replace h:=qaa h;obtain⟨x8,h3,h⟩:=h;refine⟨_,(qzk n _ _ h3),?_⟩;conv=>whnf
   refine⟨id,id,id,id,id,id,?_⟩;conv=>whnf
   replace h:=qaa h;obtain⟨⟨x9,x10,x11,x12,x13⟩,h2,h⟩:=h;refine⟨_,fun hg=>Codec.at_ qgn (qah h2 hg),?_⟩;conv=>whnf
   refine⟨id,id,?_⟩;conv=>whnf
   replace h:=qaa h;obtain⟨x14,h1,h⟩:=h;refine⟨_,fun hg=>(qzh n _ _ (qah h1 hg)),?_⟩;conv=>whnf
   refine⟨id,id,id,id,?_⟩;conv=>whnf
   refine ifc h (fun hc h=>?_) (fun hc h=>?_)
   ·obtain rfl:=sj h
    conv=>whnf
    try exact fin
   ·conv=>whnf
    exact⟨(IntKind.i64.wrap (x3+1)),h,wk [0] []⟩
  ·obtain rfl:=sj h
   conv=>whnf
   try exact fin
abbrev q0x (r:Bool):PV:=PV.bool r
def qgx (n:Nat) (a0z:qab):Option (Bool):=
 match a0z with
 | ⟨x1,x2,⟨x3,x4,x5,x6,x7,x8⟩,x9,x10⟩=>
 bnd (qcv n (qab.mk x1 x2 (Val.mk x3 x4 x5 x6 x7 x8) x9 x10) (32:Int)) fun x11=>
 some x11
theorem qpb (n:Nat):∀ (a0z:qab) (r:Bool),qgx n a0z=some r->qae Tryz.prog 189 [PV.agg (qca.cells a0z)] (q0x r):=by
 intro a0z r h;obtain⟨x1,x2,⟨x3,x4,x5,x6,x7,x8⟩,x9,x10⟩:=a0z;unfold qgx at h;refine qae.of_vcN qa3 (fun _ _=>Tryz.call189 _ _) Tryz.func189 (by kernel_rfl) (inl:=[1000000]) ?_;conv=>whnf
 replace h:=qaa h;obtain⟨x11,h1,h⟩:=h;refine⟨_,(qr7 n _ _ _ h1),?_⟩;obtain rfl:=sj h;conv=>whnf
 try exact fin
abbrev q0y (r:Bool):PV:=PV.bool r
def qo2 (n:Nat) (a0z:qbh):Option (Bool):=
 match a0z with
 | ⟨⟨x1,x2,⟨x3,x4,x5,x6,x7,x8⟩,x9,x10⟩,x11⟩=>
 bnd (qfi n x11) fun x12=>
 bnd (qa5 x12 (qgx n (qab.mk x1 x2 (Val.mk x3 x4 x5 x6 x7 x8) x9 x10))) fun x13=>
 some (bif x12 then x13 else false)
theorem qzi (n:Nat):∀ (a0z:qbh) (r:Bool),qo2 n a0z=some r->qae Tryz.prog 191 [PV.agg (qtc.cells a0z)] (q0y r):=by
 intro a0z r h;obtain⟨⟨x1,x2,⟨x3,x4,x5,x6,x7,x8⟩,x9,x10⟩,x11⟩:=a0z;unfold qo2 at h;refine qae.of_vcN qa3 (fun _ _=>Tryz.call191 _ _) Tryz.func191 (by kernel_rfl) (inl:=[1000000]) ?_;conv=>whnf
 replace h:=qaa h;obtain⟨x12,h2,h⟩:=h;refine⟨_,(qgy n _ _ h2),?_⟩;conv=>whnf
 refine⟨id,id,?_⟩;conv=>whnf
 replace h:=qaa h;obtain⟨x13,h1,h⟩:=h;refine⟨_,fun hg=>(qpb n _ _ (qah h1 hg)),?_⟩;conv=>whnf
 refine⟨id,?_⟩;obtain rfl:=sj h;conv=>whnf
 try exact fin
abbrev qyr (r:Bool):PV:=PV.bool r
def qmg (n:Nat) (a0z:qar):Option (Bool):=
 match a0z with
 | ⟨⟨x1,x2,⟨x3,x4,x5,x6,x7,x8⟩,x9,x10⟩,x11⟩=>
 bnd (qgx n (qab.mk x1 x2 (Val.mk x3 x4 x5 x6 x7 x8) x9 x10)) fun x12=>
 some x12
theorem qwt (n:Nat):∀ (a0z:qar) (r:Bool),qmg n a0z=some r->qae Tryz.prog 193 [PV.agg (qpz.cells a0z)] (qyr r):=by
 intro a0z r h;obtain⟨⟨x1,x2,⟨x3,x4,x5,x6,x7,x8⟩,x9,x10⟩,x11⟩:=a0z;unfold qmg at h;refine qae.of_vcN qa3 (fun _ _=>Tryz.call193 _ _) Tryz.func193 (by kernel_rfl) (inl:=[1000000]) ?_;conv=>whnf
 replace h:=qaa h;obtain⟨x12,h1,h⟩:=h;refine⟨_,(qpb n _ _ h1),?_⟩;obtain rfl:=sj h;conv=>whnf
 try exact fin
abbrev q0z (r:Bool):PV:=PV.bool r
def qo3 (n:Nat) (x1:SS):Option (Bool):=
 bnd (qfi n x1) fun x2=>
 some x2
theorem qzj (n:Nat):∀ (x1:SS) (r:Bool),qo3 n x1=some r->qae Tryz.prog 195 [PV.str x1] (q0z r):=by
 intro x1 r h;unfold qo3 at h;refine qae.of_vcN qa3 (fun _ _=>Tryz.call195 _ _) Tryz.func195 (by kernel_rfl) (inl:=[1000000]) ?_;conv=>whnf
 replace h:=qaa h;obtain⟨x2,h1,h⟩:=h;refine⟨_,(qgy n _ _ h1),?_⟩;obtain rfl:=sj h;conv=>whnf
 try exact fin
abbrev qyq (r:Bool):PV:=PV.bool r
def qgm (n:Nat) (a0z:qtk):Option (Bool):=
 match a0z with
 | ⟨⟨x1,x2,x3,⟨x4,x5,⟨x6,x7,x8,x9,x10,x11⟩,x12,x13⟩⟩,x14⟩=>
 bnd (qfi n x1) fun x15=>
 bif(bif(bif(!x15)then true else((x2==([]:SS))==(x3==([]:SS))))then true else(decide ((IntKind.i64.wrap (((x2.length:Nat):Int)+((x3.length:Nat):Int)))>64)))then(
 some false)
 else(
 bif(bif x14 then(!(x2==([]:SS)))else false)then(
 bnd (qcv n (qab.mk x4 x5 (Val.mk x6 x7 x8 x9 x10 x11) x12 x13) (32:Int)) fun x16=>
 some x16)
 else(
 bnd (qiw n (qab.mk x4 x5 (Val.mk x6 x7 x8 x9 x10 x11) x12 x13)) fun x17=>
 some x17))
theorem qws (n:Nat):∀ (a0z:qtk) (r:Bool),qgm n a0z=some r->qae Tryz.prog 197 [PV.agg (znm.cells a0z)] (qyq r):=by
 intro a0z r h;obtain⟨⟨x1,x2,x3,⟨x4,x5,⟨x6,x7,x8,x9,x10,x11⟩,x12,x13⟩⟩,x14⟩:=a0z;unfold qgm at h;refine qae.of_vcN qa3 (fun _ _=>Tryz.call197 _ _) Tryz.func197 (by kernel_rfl) (inl:=[1000000]) ?_;conv=>whnf
 replace h:=qaa h;obtain⟨x15,h3,h⟩:=h;refine⟨_,(qgy n _ _ h3),?_⟩;conv=>whnf
 refine⟨id,id,id,id,id,id,id,id,id,id,id,id,id,id,id,id,id,id,id,?_⟩;conv=>whnf
 refine ifc h (fun hc h=>?_) (fun hc h=>?_)
 ·obtain rfl:=sj h
  conv=>whnf
  try exact fin
 ·conv=>whnf
  refine⟨id,id,id,id,?_⟩;conv=>whnf
  refine ifc h (fun hc h=>?_) (fun hc h=>?_)
  ·conv=>whnf
   replace h:=qaa h;obtain⟨x16,h1,h⟩:=h;refine⟨_,(qr7 n _ _ _ h1),?_⟩;obtain rfl:=sj h;conv=>whnf
   try exact fin
  ·conv=>whnf
   replace h:=qaa h;obtain⟨x17,h2,h⟩:=h;refine⟨_,(qv3 n _ _ h2),?_⟩;obtain rfl:=sj h;conv=>whnf
   try exact fin
def qpr (n:Nat):qbl->Option (Bool)
 | .path x=>qic n x
 | .expr x=>qgx n x
 | .item x=>qo2 n x
 | .sorted x=>qmg n x
 | .name x=>qo3 n x
 | .change x=>qgm n x
def q22:qbl->FuncId
 | .path _=>161
 | .expr _=>189
 | .item _=>191
 | .sorted _=>193
 | .name _=>195
 | .change _=>197
theorem q9s (n:Nat):∀ (x:qbl) (r:Bool),qpr n x=some r->zfb Tryz.prog x.tid "wattle/spell.may" (q22 x)/\qae Tryz.prog (q22 x) [x.val] (qtp r)
 | .path x,r,h=>⟨fun _ _=>rfl,qzl n x r h⟩
 | .expr x,r,h=>⟨fun _ _=>rfl,qpb n x r h⟩
 | .item x,r,h=>⟨fun _ _=>rfl,qzi n x r h⟩
 | .sorted x,r,h=>⟨fun _ _=>rfl,qwt n x r h⟩
 | .name x,r,h=>⟨fun _ _=>rfl,qzj n x r h⟩
 | .change x,r,h=>⟨fun _ _=>rfl,qws n x r h⟩
end W
end
