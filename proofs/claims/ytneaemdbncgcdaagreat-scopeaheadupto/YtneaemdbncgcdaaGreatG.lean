/- A part of the proof: contracts, printed by program. -/
import Derived.Test.YtneaemdbncgcdaaGreatB
import Derived.Test.YtneaemdbncgcdaaGreatC
import Derived.Test.YtneaemdbncgcdaaGreatF
set_option linter.unusedVariables false
set_option linter.unusedSimpArgs false
set_option linter.unnecessarySimpa false
set_option linter.deprecated false
set_option linter.unusedSectionVars false
set_option linter.constructorNameAsVariable false
section
set_option maxRecDepth 100000
open Go Go.Proofs Ax
namespace W
abbrev q4o (r:Bool):PV:=PV.bool r
def qm6 (n:Nat) (a0z:qag) (x14:Bool):Option (Bool):=
 match a0z with
 | ⟨x1,x2,x3,⟨x4,x5,⟨x6,x7,x8,x9,x10,x11⟩,x12,x13⟩⟩=>
 bnd (qft n x1) fun x15=>
 bif(!x15)then(
 some false)
 else(
 bif(x2==([]:SS))then(
 bnd (qia n x3) fun x16=>
 bnd (qa4 x16 (qp9 n (qab.mk x4 x5 (Val.mk x6 x7 x8 x9 x10 x11) x12 x13))) fun x17=>
 some (bif x16 then x17 else false))
 else(
 bnd (qa4 (!(!(x3==([]:SS)))) (qia n x2)) fun x18=>
 bif(bif(!(x3==([]:SS)))then true else(!x18))then(
 some false)
 else(
 bif x14 then(
 bnd (qev n (qab.mk x4 x5 (Val.mk x6 x7 x8 x9 x10 x11) x12 x13)) fun x19=>
 some x19)
 else(
 bnd (qp9 n (qab.mk x4 x5 (Val.mk x6 x7 x8 x9 x10 x11) x12 x13)) fun x20=>
 some x20))))
theorem q2u (n:Nat):∀ (a0z:qag) (x14 r:Bool),qm6 n a0z x14=some r→qac Tryz.prog 65 [PV.agg (qk2.cells a0z),PV.bool x14] (q4o r):=by
 intro a0z x14 r h
 obtain⟨x1,x2,x3,⟨x4,x5,⟨x6,x7,x8,x9,x10,x11⟩,x12,x13⟩⟩:=a0z
 unfold qm6 at h
 refine qac.of_vcN qa2 (fun _ _=>Tryz.call65 _ _) Tryz.func65 (by kernel_rfl) (inl:=[1000000]) ?_
 conv=>whnf
 replace h:=qaa h
 obtain⟨x15,h6,h⟩:=h
 refine⟨_,(qgd n _ _ h6),?_⟩
 conv=>whnf
 refine ifc h (fun hc h=>?_) (fun hc h=>?_)
 ·obtain rfl:=sj h
  conv=>whnf
  try exact fin
 ·conv=>whnf
  refine ifc h (fun hc h=>?_) (fun hc h=>?_)
  ·conv=>whnf
   replace h:=qaa h
   obtain⟨x16,h2,h⟩:=h
   refine⟨_,(qhe n _ _ h2),?_⟩
   conv=>whnf
   refine⟨id,id,?_⟩
   conv=>whnf
   replace h:=qaa h
   obtain⟨x17,h1,h⟩:=h
   refine⟨_,fun hg=>(qyf n _ _ (qae h1 hg)),?_⟩
   conv=>whnf
   refine⟨id,?_⟩
   obtain rfl:=sj h
   conv=>whnf
   try exact fin
  ·conv=>whnf
   refine⟨id,id,?_⟩
   conv=>whnf
   replace h:=qaa h
   obtain⟨x18,h5,h⟩:=h
   refine⟨_,fun hg=>(qhe n _ _ (qae h5 hg)),?_⟩
   conv=>whnf
   refine⟨id,id,?_⟩
   conv=>whnf
   refine ifc h (fun hc h=>?_) (fun hc h=>?_)
   ·obtain rfl:=sj h
    conv=>whnf
    try exact fin
   ·conv=>whnf
    refine ifc h (fun hc h=>?_) (fun hc h=>?_)
    ·conv=>whnf
     replace h:=qaa h
     obtain⟨x19,h3,h⟩:=h
     refine⟨_,(qg2 n _ _ h3),?_⟩
     obtain rfl:=sj h
     conv=>whnf
     try exact fin
    ·conv=>whnf
     replace h:=qaa h
     obtain⟨x20,h4,h⟩:=h
     refine⟨_,(qyf n _ _ h4),?_⟩
     obtain rfl:=sj h
     conv=>whnf
     try exact fin
abbrev qze (r:Bool):PV:=PV.bool r
def qeu (n:Nat) (x20:List qag) (x1:Int):(Int→Option (Bool))→Int→Option (Bool):=fun nx2 x59=>
bif(decide (x59<((qag.rows x20).length:Int)))then(
bnd (idx x20 x59) fun⟨x60,x61,x62,⟨x63,x64,⟨x65,x66,x67,x68,x69,x70⟩,x71,x72⟩⟩=>
bnd (qm6 n (qag.mk x60 x61 x62 (qab.mk x63 x64 (Val.mk x65 x66 x67 x68 x69 x70) x71 x72)) (x1==6)) fun x73=>
bif(!x73)then(
some false)
else(
nx2 (IntKind.i64.wrap (x59+1))))
else(
some (decide (((qag.rows x20).length:Int)>0)))
def qeo (n:Nat) (x21:List SS):(Int→Option (Bool))→Int→Option (Bool):=fun nx3 x74=>
bif(decide (x74<((qak x21).length:Int)))then(
bnd (idx x21 x74) fun x75=>
bnd (qft n x75) fun x76=>
bif(!x76)then(
some false)
else(
nx3 (IntKind.i64.wrap (x74+1))))
else(
some (decide (((qak x21).length:Int)>0)))
def qhr (n:Nat) (x20:List qag) (x1:Int) (x21:List SS):Bool→Option (Bool):=fun x58=>
bif x58 then(
qas (qeu n x20 x1) n (0:Int))
else(
bif(x1==8)then(
qas (qeo n x21) n (0:Int))
else(
some false))
def qhs (n:Nat) (x1:Int) (x2:List qbq) (x3:List qab) (x4:Int) (x5:SS) (x6:Int) (x7:Bool) (x8:Int) (x9:SS) (x10:List Val) (x11 x12:List SS) (x13:List qab) (x14:SS) (x15:List qbz) (x16:Bool) (x17:List qav) (x18 x19:List qab) (x20:List qag) (x21:List SS) (x22:Bool):Bool→Option (Bool):=fun x53=>
bif x53 then(
bnd (qsb n (qad.mk x1 x2 x3 (qab.mk x4 x5 (Val.mk x6 x7 x8 x9 x10 x11) x12 x13) x14 x15 x16 x17 x18 x19 x20 x21 x22)) fun x54=>
bnd (qa4 x54 (qkj n x3 (1:Int))) fun x55=>
some (bif x54 then x55 else false))
else(
bif(x1==4)then(
some (decide (((qbq.rows x2).length:Int)>0)))
else(
bif(x1==5)then(
bnd (qa4 (((qbq.rows x2).length:Int)==1) (idx x2 (0:Int))) fun⟨x56,x57⟩=>
some (bif(((qbq.rows x2).length:Int)==1)then(((qah.rows x57).length:Int)==0)else false))
else(
bif(x1==6)then(
qhr n x20 x1 x21 (x1==6))
else(
qhr n x20 x1 x21 (x1==7)))))
def qex (n:Nat) (x2:List qbq) (x1:Int) (x3:List qab) (x4:Int) (x5:SS) (x6:Int) (x7:Bool) (x8:Int) (x9:SS) (x10:List Val) (x11 x12:List SS) (x13:List qab) (x14:SS) (x15:List qbz) (x16:Bool) (x17:List qav) (x18 x19:List qab) (x20:List qag) (x21:List SS) (x22:Bool):(Int→Option (Bool))→Int→Option (Bool):=fun nx1 x46=>
bif(decide (x46<((qbq.rows x2).length:Int)))then(
bnd (idx x2 x46) fun⟨x47,x48⟩=>
bnd (qk9 n (qbq.mk x47 x48)) fun x49=>
bif(!x49)then(
some false)
else(
nx1 (IntKind.i64.wrap (x46+1))))
else(
bif(x1==1)then(
bnd (qa4 (decide (((qbq.rows x2).length:Int)>0)) (qkj n x3 (1:Int))) fun x50=>
some (bif(decide (((qbq.rows x2).length:Int)>0))then x50 else false))
else(
bif(x1==2)then(
bnd (qev n (qab.mk x4 x5 (Val.mk x6 x7 x8 x9 x10 x11) x12 x13)) fun x51=>
bnd (qa4 x51 (qft n x14)) fun x52=>
some (bif x51 then x52 else false))
else(
bif(x1==3)then(
qhs n x1 x2 x3 x4 x5 x6 x7 x8 x9 x10 x11 x12 x13 x14 x15 x16 x17 x18 x19 x20 x21 x22 (x1==3))
else(
qhs n x1 x2 x3 x4 x5 x6 x7 x8 x9 x10 x11 x12 x13 x14 x15 x16 x17 x18 x19 x20 x21 x22 (x1==9)))))
def qer (n:Nat) (a0z:qad):Option (Bool):=
 match a0z with
 | ⟨x1,x2,x3,⟨x4,x5,⟨x6,x7,x8,x9,x10,x11⟩,x12,x13⟩,x14,x15,x16,x17,x18,x19,x20,x21,x22⟩=>
 bnd (qqr n (qad.mk x1 x2 x3 (qab.mk x4 x5 (Val.mk x6 x7 x8 x9 x10 x11) x12 x13) x14 x15 x16 x17 x18 x19 x20 x21 x22)) fun⟨x23,x24,x25,⟨x26,x27,⟨x28,x29,x30,x31,x32,x33⟩,x34,x35⟩,x36,x37,x38,x39,x40,x41,x42,x43,x44⟩=>
 bnd (qfx n (qad.mk x23 x24 x25 (qab.mk x26 x27 (Val.mk x28 x29 x30 x31 x32 x33) x34 x35) x36 x37 x38 x39 x40 x41 x42 x43 x44) (qad.mk x1 x2 x3 (qab.mk x4 x5 (Val.mk x6 x7 x8 x9 x10 x11) x12 x13) x14 x15 x16 x17 x18 x19 x20 x21 x22)) fun x45=>
 bif(!x45)then(
 some false)
 else(
 qas (qex n x2 x1 x3 x4 x5 x6 x7 x8 x9 x10 x11 x12 x13 x14 x15 x16 x17 x18 x19 x20 x21 x22) n (0:Int))
set_option maxHeartbeats 4000000 in
theorem qyl (n:Nat):∀ (a0z:qad) (r:Bool),qer n a0z=some r→qac Tryz.prog 28 [PV.agg (qdd.cells a0z)] (qze r):=by
 intro a0z r h
 obtain⟨x1,x2,x3,⟨x4,x5,⟨x6,x7,x8,x9,x10,x11⟩,x12,x13⟩,x14,x15,x16,x17,x18,x19,x20,x21,x22⟩:=a0z
 unfold qer at h
 refine qac.of_vcN qa2 (fun _ _=>Tryz.call28 _ _) Tryz.func28 (by kernel_rfl) (inl:=[1000000]) ?_
 conv=>whnf
 replace h:=qaa h
 obtain⟨⟨x23,x24,x25,⟨x26,x27,⟨x28,x29,x30,x31,x32,x33⟩,x34,x35⟩,x36,x37,x38,x39,x40,x41,x42,x43,x44⟩,h14,h⟩:=h
 refine⟨_,(q89 n _ _ h14),?_⟩
 conv=>whnf
 replace h:=qaa h
 obtain⟨x45,h13,h⟩:=h
 refine⟨_,(qxu n _ _ _ h13),?_⟩
 conv=>whnf
 refine ifc h (fun hc h=>?_) (fun hc h=>?_)
 ·obtain rfl:=sj h
  conv=>whnf
  try exact fin
 ·conv=>whnf
  refine qb2.fn [1000000] (S:=Int) (fun x46=>[(1,.ptr 0 0),(3,pI x46)]) (fun x46=>[.box 55 [pI x1,pP x2,pE x3,pI x4,pS x5,pI x6,pB x7,pI x8,pS x9,pV x10,pT x11,pT x12,pE x13,pS x14,pA x15,pB x16,pO x17,pE x18,pE x19,pU x20,pT x21,pB x22]]) (B:=qex n x2 x1 x3 x4 x5 x6 x7 x8 x9 x10 x11 x12 x13 x14 x15 x16 x17 x18 x19 x20 x21 x22) h (wk [0] []) ?_
  intro nx1 x46 h
  unfold qex at h
  conv=>whnf
  refine ifc h (fun hc h=>?_) (fun hc h=>?_)
  ·conv=>whnf
   replace h:=qaa h
   obtain⟨⟨x47,x48⟩,h2,h⟩:=h
   refine⟨_,Codec.at_ qn9 h2,?_⟩
   conv=>whnf
   replace h:=qaa h
   obtain⟨x49,h1,h⟩:=h
   refine⟨_,(q07 n _ _ h1),?_⟩
   conv=>whnf
   refine ifc h (fun hc h=>?_) (fun hc h=>?_)
   ·obtain rfl:=sj h
    conv=>whnf
    try exact fin
   ·conv=>whnf
    exact⟨(IntKind.i64.wrap (x46+1)),h,wk [0] []⟩
  ·conv=>whnf
   refine ifc h (fun hc h=>?_) (fun hc h=>?_)
   ·conv=>whnf
    refine⟨id,id,?_⟩
    conv=>whnf
    replace h:=qaa h
    obtain⟨x50,h3,h⟩:=h
    refine⟨_,fun hg=>(qoo n _ _ _ (qae h3 hg)),?_⟩
    conv=>whnf
    refine⟨id,?_⟩
    obtain rfl:=sj h
    conv=>whnf
    try exact fin
   ·conv=>whnf
    refine ifc h (fun hc h=>?_) (fun hc h=>?_)
    ·conv=>whnf
     replace h:=qaa h
     obtain⟨x51,h5,h⟩:=h
     refine⟨_,(qg2 n _ _ h5),?_⟩
     conv=>whnf
     refine⟨id,id,?_⟩
     conv=>whnf
     replace h:=qaa h
     obtain⟨x52,h4,h⟩:=h
     refine⟨_,fun hg=>(qgd n _ _ (qae h4 hg)),?_⟩
     conv=>whnf
     refine⟨id,?_⟩
     obtain rfl:=sj h
     conv=>whnf
     try exact fin
    ·conv=>whnf
     refine qh6.cut (S:=Bool) (fun x53=>[(1,.ptr 0 0),(26,pI x1),(48,pB x53)]) (fun x53=>[.box 55 [pI x1,pP x2,pE x3,pI x4,pS x5,pI x6,pB x7,pI x8,pS x9,pV x10,pT x11,pT x12,pE x13,pS x14,pA x15,pB x16,pO x17,pE x18,pE x19,pU x20,pT x21,pB x22]]) (qhs n x1 x2 x3 x4 x5 x6 x7 x8 x9 x10 x11 x12 x13 x14 x15 x16 x17 x18 x19 x20 x21 x22) (r:=r) ?_ ?_
     ·intro x53 h
      unfold qhs at h
      conv=>whnf
      refine ifc h (fun hc h=>?_) (fun hc h=>?_)
      ·conv=>whnf
       replace h:=qaa h
       obtain⟨x54,h7,h⟩:=h
       refine⟨_,(q6w n _ _ h7),?_⟩
       conv=>whnf
       refine⟨id,id,?_⟩
       conv=>whnf
       replace h:=qaa h
       obtain⟨x55,h6,h⟩:=h
       refine⟨_,fun hg=>(qoo n _ _ _ (qae h6 hg)),?_⟩
       conv=>whnf
       refine⟨id,?_⟩
       obtain rfl:=sj h
       conv=>whnf
       try exact fin
      ·conv=>whnf
       refine ifc h (fun hc h=>?_) (fun hc h=>?_)
       ·obtain rfl:=sj h
        conv=>whnf
        try exact fin
       ·conv=>whnf
        refine ifc h (fun hc h=>?_) (fun hc h=>?_)
        ·conv=>whnf
         refine⟨id,id,?_⟩
         conv=>whnf
         replace h:=qaa h
         obtain⟨⟨x56,x57⟩,h8,h⟩:=h
         refine⟨_,fun hg=>Codec.at_ qn9 (qae h8 hg),?_⟩
         conv=>whnf
         refine⟨id,id,id,id,id,?_⟩
         obtain rfl:=sj h
         conv=>whnf
         try exact fin
        ·conv=>whnf
         refine qh6.cut (S:=Bool) (fun x58=>[(1,.ptr 0 0),(26,pI x1),(79,pB x58)]) (fun x58=>[.box 55 [pI x1,pP x2,pE x3,pI x4,pS x5,pI x6,pB x7,pI x8,pS x9,pV x10,pT x11,pT x12,pE x13,pS x14,pA x15,pB x16,pO x17,pE x18,pE x19,pU x20,pT x21,pB x22]]) (qhr n x20 x1 x21) (r:=r) ?_ ?_
         ·intro x58 h
          unfold qhr at h
          conv=>whnf
          refine ifc h (fun hc h=>?_) (fun hc h=>?_)
          ·conv=>whnf
           refine qb2.fn [1000000] (S:=Int) (fun x59=>[(1,.ptr 0 0),(4,pI x59)]) (fun x59=>[.box 55 [pI x1,pP x2,pE x3,pI x4,pS x5,pI x6,pB x7,pI x8,pS x9,pV x10,pT x11,pT x12,pE x13,pS x14,pA x15,pB x16,pO x17,pE x18,pE x19,pU x20,pT x21,pB x22]]) (B:=qeu n x20 x1) h (wk [0] []) ?_
           intro nx2 x59 h
           unfold qeu at h
           conv=>whnf
           refine ifc h (fun hc h=>?_) (fun hc h=>?_)
           ·conv=>whnf
            replace h:=qaa h
            obtain⟨⟨x60,x61,x62,⟨x63,x64,⟨x65,x66,x67,x68,x69,x70⟩,x71,x72⟩⟩,h10,h⟩:=h
            refine⟨_,Codec.at_ qk2 h10,?_⟩
            conv=>whnf
            replace h:=qaa h
            obtain⟨x73,h9,h⟩:=h
            refine⟨_,(q2u n _ _ _ h9),?_⟩
            conv=>whnf
            refine ifc h (fun hc h=>?_) (fun hc h=>?_)
            ·obtain rfl:=sj h
             conv=>whnf
             try exact fin
            ·conv=>whnf
             exact⟨(IntKind.i64.wrap (x59+1)),h,wk [0] []⟩
           ·obtain rfl:=sj h
            conv=>whnf
            try exact fin
          ·conv=>whnf
           refine ifc h (fun hc h=>?_) (fun hc h=>?_)
           ·conv=>whnf
            refine qb2.fn [1000000] (S:=Int) (fun x74=>[(1,.ptr 0 0),(5,pI x74)]) (fun x74=>[.box 55 [pI x1,pP x2,pE x3,pI x4,pS x5,pI x6,pB x7,pI x8,pS x9,pV x10,pT x11,pT x12,pE x13,pS x14,pA x15,pB x16,pO x17,pE x18,pE x19,pU x20,pT x21,pB x22]]) (B:=qeo n x21) h (wk [0] []) ?_
            intro nx3 x74 h
            unfold qeo at h
            conv=>whnf
            refine ifc h (fun hc h=>?_) (fun hc h=>?_)
            ·conv=>whnf
             replace h:=qaa h
             obtain⟨x75,h12,h⟩:=h
             refine⟨_,Codec.at_ qpc h12,?_⟩
             conv=>whnf
             replace h:=qaa h
             obtain⟨x76,h11,h⟩:=h
             refine⟨_,(qgd n _ _ h11),?_⟩
             conv=>whnf
             refine ifc h (fun hc h=>?_) (fun hc h=>?_)
             ·obtain rfl:=sj h
              conv=>whnf
              try exact fin
             ·conv=>whnf
              exact⟨(IntKind.i64.wrap (x74+1)),h,wk [0] []⟩
            ·obtain rfl:=sj h
             conv=>whnf
             try exact fin
           ·obtain rfl:=sj h
            conv=>whnf
            try exact fin
         ·conv=>whnf
          refine ifc h (fun hc h=>?_) (fun hc h=>?_)
          ·conv=>whnf
           exact⟨(x1==6),h,wk [0] []⟩
          ·conv=>whnf
           exact⟨(x1==7),h,wk [0] []⟩
     ·conv=>whnf
      refine ifc h (fun hc h=>?_) (fun hc h=>?_)
      ·conv=>whnf
       exact⟨(x1==3),h,wk [0] []⟩
      ·conv=>whnf
       exact⟨(x1==9),h,wk [0] []⟩
abbrev zax (r:Bool):PV:=PV.bool r
def qkz (n:Nat) (x1:List qad):(Int→Option (Bool))→Int→Option (Bool):=fun nx1 x2=>
bif(decide (x2<((qad.rows x1).length:Int)))then(
bnd (idx x1 x2) fun⟨x3,x4,x5,⟨x6,x7,⟨x8,x9,x10,x11,x12,x13⟩,x14,x15⟩,x16,x17,x18,x19,x20,x21,x22,x23,x24⟩=>
bnd (qer n (qad.mk x3 x4 x5 (qab.mk x6 x7 (Val.mk x8 x9 x10 x11 x12 x13) x14 x15) x16 x17 x18 x19 x20 x21 x22 x23 x24)) fun x25=>
bnd (qa4 (!(!x25)) (idx x1 x2)) fun⟨x26,x27,x28,⟨x29,x30,⟨x31,x32,x33,x34,x35,x36⟩,x37,x38⟩,x39,x40,x41,x42,x43,x44,x45,x46,x47⟩=>
bif(bif(!x25)then true else(bif(x26==9)then(decide ((IntKind.i64.wrap (x2+1))<((qad.rows x1).length:Int)))else false))then(
some false)
else(
nx1 (IntKind.i64.wrap (x2+1))))
else(
bnd (qa4 (bif(decide (((qad.rows x1).length:Int)>0))then(decide (((qad.rows x1).length:Int)≤64))else false) (idx x1 (IntKind.i64.wrap (((qad.rows x1).length:Int) - 1)))) fun⟨x48,x49,x50,⟨x51,x52,⟨x53,x54,x55,x56,x57,x58⟩,x59,x60⟩,x61,x62,x63,x64,x65,x66,x67,x68,x69⟩=>
bnd (qa4 ((bif(decide (((qad.rows x1).length:Int)>0))then(decide (((qad.rows x1).length:Int)≤64))else false)&&(!(x48==9))) (idx x1 (IntKind.i64.wrap (((qad.rows x1).length:Int) - 1)))) fun⟨x70,x71,x72,⟨x73,x74,⟨x75,x76,x77,x78,x79,x80⟩,x81,x82⟩,x83,x84,x85,x86,x87,x88,x89,x90,x91⟩=>
bnd (qa4 ((bif(decide (((qad.rows x1).length:Int)>0))then(decide (((qad.rows x1).length:Int)≤64))else false)&&(!(x48==9))) (qng n x70)) fun x92=>
some (bif(bif(decide (((qad.rows x1).length:Int)>0))then(decide (((qad.rows x1).length:Int)≤64))else false)then(bif(x48==9)then true else x92)else false))
def qqd (n:Nat) (a0z:qnj):Option (Bool):=
 match a0z with
 | ⟨x1⟩=>
 qas (qkz n x1) n (0:Int)
theorem q0n (n:Nat):∀ (a0z:qnj) (r:Bool),qqd n a0z=some r→qac Tryz.prog 18 [PV.agg (q06.cells a0z)] (zax r):=by
 intro a0z r h
 obtain⟨x1⟩:=a0z
 unfold qqd at h
 refine qac.of_vcN qa2 (fun _ _=>Tryz.call18 _ _) Tryz.func18 (by kernel_rfl) (inl:=[1000000]) ?_
 conv=>whnf
 refine qb2.fn [1000000] (S:=Int) (fun x2=>[(1,.ptr 0 0),(3,.p (.int .i64 ((qad.rows x1).length:Int))),(4,pI x2)]) (fun x2=>[.box 24 [pC x1]]) (B:=qkz n x1) h (wk [0] []) ?_
 intro nx1 x2 h
 unfold qkz at h
 conv=>whnf
 refine ifc h (fun hc h=>?_) (fun hc h=>?_)
 ·conv=>whnf
  replace h:=qaa h
  obtain⟨⟨x3,x4,x5,⟨x6,x7,⟨x8,x9,x10,x11,x12,x13⟩,x14,x15⟩,x16,x17,x18,x19,x20,x21,x22,x23,x24⟩,h3,h⟩:=h
  refine⟨_,Codec.at_ qdd h3,?_⟩
  conv=>whnf
  replace h:=qaa h
  obtain⟨x25,h2,h⟩:=h
  refine⟨_,(qyl n _ _ h2),?_⟩
  conv=>whnf
  refine⟨id,id,id,?_⟩
  conv=>whnf
  replace h:=qaa h
  obtain⟨⟨x26,x27,x28,⟨x29,x30,⟨x31,x32,x33,x34,x35,x36⟩,x37,x38⟩,x39,x40,x41,x42,x43,x44,x45,x46,x47⟩,h1,h⟩:=h
  refine⟨_,fun hg=>Codec.at_ qdd (qae h1 hg),?_⟩
  conv=>whnf
  refine⟨id,id,id,id,id,id,id,id,id,id,?_⟩
  conv=>whnf
  refine ifc h (fun hc h=>?_) (fun hc h=>?_)
  ·obtain rfl:=sj h
   conv=>whnf
   try exact fin
  ·conv=>whnf
   exact⟨(IntKind.i64.wrap (x2+1)),h,wk [0] []⟩
 ·conv=>whnf
  refine⟨id,id,id,id,id,id,?_⟩
  conv=>whnf
  replace h:=qaa h
  obtain⟨⟨x48,x49,x50,⟨x51,x52,⟨x53,x54,x55,x56,x57,x58⟩,x59,x60⟩,x61,x62,x63,x64,x65,x66,x67,x68,x69⟩,h6,h⟩:=h
  refine⟨_,fun hg=>Codec.at_ qdd (qae h6 hg),?_⟩
  conv=>whnf
  refine⟨id,id,id,id,id,id,id,id,?_⟩
  conv=>whnf
  replace h:=qaa h
  obtain⟨⟨x70,x71,x72,⟨x73,x74,⟨x75,x76,x77,x78,x79,x80⟩,x81,x82⟩,x83,x84,x85,x86,x87,x88,x89,x90,x91⟩,h5,h⟩:=h
  refine⟨_,fun hg=>Codec.at_ qdd (qae h5 hg),?_⟩
  conv=>whnf
  refine⟨id,id,id,?_⟩
  conv=>whnf
  replace h:=qaa h
  obtain⟨x92,h4,h⟩:=h
  refine⟨_,fun hg=>(quu n _ _ (qae h4 hg)),?_⟩
  conv=>whnf
  refine⟨id,id,id,?_⟩
  obtain rfl:=sj h
  conv=>whnf
  try exact fin
abbrev q79 (r:qnj×Int×Int):PV:=PV.tup [PV.agg (q06.cells r.1),PV.int .i64 r.2.1,PV.int .i64 r.2.2]
def qov (n:Nat) (x2:List qam):Int×Bool×List qad→Option (qnj×Int×Int):=fun(x5,x6,x7)=>
bif x6 then(
bnd (idx x2 x5) fun⟨x8,x9,x10,x11⟩=>
some (qnj.mk ([]:List qad),x11,(1:Int)))
else(
bnd (qqd n (qnj.mk x7)) fun x12=>
bif(!x12)then(
some (qnj.mk ([]:List qad),(0:Int),(8:Int)))
else(
some (qnj.mk x7,(0:Int),(0:Int))))
def qrp (n:Nat) (x2:List qam):(Int×Int×Bool×List qad→Option (qnj×Int×Int))→Int×Int×Bool×List qad→Option (qnj×Int×Int):=fun nx1 (x13,x14,x15,x16)=>
bnd (qa4 (!x15) (idx x2 x14)) fun⟨x17,x18,x19,x20⟩=>
bnd (qa4 ((!x15)&&(!(x17 != 6))) (qng n x13)) fun x21=>
bif(bif(!x15)then(bif(x17 != 6)then true else(bif(!x21)then(x13 != 9)else false))else false)then(
bif(x13==9)then(
qov n x2 (x14,true,x16))
else(
bnd (qrt n x2 x14 x15) fun⟨⟨x22,x23,x24,⟨x25,x26,⟨x27,x28,x29,x30,x31,x32⟩,x33,x34⟩,x35,x36,x37,x38,x39,x40,x41,x42,x43⟩,x44,x45⟩=>
chk (decide ((qad.rows (x16++[qad.mk x22 x23 x24 (qab.mk x25 x26 (Val.mk x27 x28 x29 x30 x31 x32) x33 x34) x35 x36 x37 x38 x39 x40 x41 x42 x43])).length * 392≤140737488355328)) (
nx1 (x22,x44,x45,(x16++[qad.mk x22 x23 x24 (qab.mk x25 x26 (Val.mk x27 x28 x29 x30 x31 x32) x33 x34) x35 x36 x37 x38 x39 x40 x41 x42 x43])))))
else(
qov n x2 (x14,x15,x16))
def qqc (n:Nat) (x1:SS):Option (qnj×Int×Int):=
 bnd (q0f n x1) fun⟨x2,x3,x4⟩=>
 bif(x4 != 0)then(
 some (qnj.mk ([]:List qad),x3,x4))
 else(
 qas (qrp n x2) n ((0:Int),(0:Int),false,([]:List _)))
set_option maxHeartbeats 4000000 in
theorem qry (n:Nat):∀ (x1:SS) (r:qnj×Int×Int),qqc n x1=some r→qac Tryz.prog 17 [PV.str x1] (q79 r):=by
 intro x1 r h
 unfold qqc at h
 refine qac.of_vcN qa2 (fun _ _=>Tryz.call17 _ _) Tryz.func17 (by kernel_rfl) (inl:=[27,40000014,50000002,60004000,1000000]) ?_
 conv=>whnf
 replace h:=qaa h
 obtain⟨⟨x2,x3,x4⟩,h7,h⟩:=h
 refine⟨_,(q75 n _ _ h7),?_⟩
 conv=>whnf
 refine ifc h (fun hc h=>?_) (fun hc h=>?_)
 ·obtain rfl:=sj h
  conv=>whnf
  try exact fin
 ·conv=>whnf
  refine qh6.cut (S:=Int×Bool×List qad) (fun(x5,x6,x7)=>[(2,.ptr 0 0),(8,.ptr 1 0),(9,.ptr 2 0)]) (fun(x5,x6,x7)=>[.box 24 [.p (.nilsl)],.box 85 [pK x2,pI x5,pB x6],.box 24 [.tsl 3 (qad.rows x7)],.tail 55 22 (qad.rows x7).length]) (qov n x2) (r:=r) ?_ ?_
  ·intro st h
   obtain⟨x5,x6,x7⟩:=st
   unfold qov at h
   conv=>whnf
   refine ifc h (fun hc h=>?_) (fun hc h=>?_)
   ·conv=>whnf
    replace h:=qaa h
    obtain⟨⟨x8,x9,x10,x11⟩,h1,h⟩:=h
    refine⟨_,Codec.at_ qo0 h1,?_⟩
    obtain rfl:=sj h
    conv=>whnf
    try exact fin
   ·conv=>whnf
    replace h:=qaa h
    obtain⟨x12,h2,h⟩:=h
    refine⟨_,(q0n n _ _ h2),?_⟩
    conv=>whnf
    refine ifc h (fun hc h=>?_) (fun hc h=>?_)
    ·obtain rfl:=sj h
     conv=>whnf
     try exact fin
    ·obtain rfl:=sj h
     conv=>whnf
     try exact fin
  ·conv=>whnf
   refine qb2.fn [27,40000014,50000002,60004000,1000000] (S:=Int×Int×Bool×List qad) (fun(x13,x14,x15,x16)=>[(2,.ptr 0 0),(8,.ptr 1 0),(9,.ptr 2 0),(10,pI x13)]) (fun(x13,x14,x15,x16)=>[.box 24 [.p (.nilsl)],.box 85 [pK x2,pI x14,pB x15],.box 24 [.tsl 3 (qad.rows x16)],.tail 55 22 (qad.rows x16).length]) (B:=qrp n x2) h (wk [0,1,2,0] [3]) ?_
   intro nx1 st h
   obtain⟨x13,x14,x15,x16⟩:=st
   unfold qrp at h
   conv=>whnf
   refine⟨id,id,id,id,id,id,id,id,?_⟩
   conv=>whnf
   replace h:=qaa h
   obtain⟨⟨x17,x18,x19,x20⟩,h6,h⟩:=h
   refine⟨_,fun hg=>Codec.at_ qo0 (qae h6 hg),?_⟩
   conv=>whnf
   refine⟨id,id,id,id,id,?_⟩
   conv=>whnf
   replace h:=qaa h
   obtain⟨x21,h5,h⟩:=h
   refine⟨_,fun hg=>(quu n _ _ (qae h5 hg)),?_⟩
   conv=>whnf
   refine⟨id,id,id,id,id,id,id,id,?_⟩
   conv=>whnf
   refine ifc h (fun hc h=>?_) (fun hc h=>?_)
   ·conv=>whnf
    refine ifc h (fun hc h=>?_) (fun hc h=>?_)
    ·conv=>whnf
     exact⟨(x14,true,x16),h,wk [0,1,2,3] []⟩
    ·conv=>whnf
     replace h:=qaa h
     obtain⟨⟨⟨x22,x23,x24,⟨x25,x26,⟨x27,x28,x29,x30,x31,x32⟩,x33,x34⟩,x35,x36,x37,x38,x39,x40,x41,x42,x43⟩,x44,x45⟩,h3,h⟩:=h
     refine qb8 (qzd n _ _ _ _ h3) [1] [] ?_
     rintro _ _ ⟨rfl,rfl⟩
     refine⟨.p (.agg [.int .i64 x22,.sl (qbq.rows x23),.sl (qab.rows x24),.int .i64 x25,.str x26,.int .i64 x27,.bool x28,.int .i64 x29,.str x30,.sl (Val.rows x31),.sl (qak x32),.sl (qak x33),.sl (qab.rows x34),.str x35,.sl (qbz.rows x36),.bool x37,.sl (qav.rows x38),.sl (qab.rows x39),.sl (qab.rows x40),.sl (qag.rows x41),.sl (qak x42),.bool x43]),[.box 24 [.p (.nilsl)],.box 85 [pK x2,pI x44,pB x45],.box 24 [.tsl 3 (qad.rows x16)],.tail 55 22 (qad.rows x16).length],rfl,rfl,?_⟩
     conv=>whnf
     refine⟨Codec.one qdd [qad.mk x22 x23 x24 (qab.mk x25 x26 (Val.mk x27 x28 x29 x30 x31 x32) x33 x34) x35 x36 x37 x38 x39 x40 x41 x42 x43],qad.rows [qad.mk x22 x23 x24 (qab.mk x25 x26 (Val.mk x27 x28 x29 x30 x31 x32) x33 x34) x35 x36 x37 x38 x39 x40 x41 x42 x43],.inl rfl,?_⟩
     conv=>whnf
     rw[show qad.rows x16++qad.rows [qad.mk x22 x23 x24 (qab.mk x25 x26 (Val.mk x27 x28 x29 x30 x31 x32) x33 x34) x35 x36 x37 x38 x39 x40 x41 x42 x43]=qad.rows (x16++[qad.mk x22 x23 x24 (qab.mk x25 x26 (Val.mk x27 x28 x29 x30 x31 x32) x33 x34) x35 x36 x37 x38 x39 x40 x41 x42 x43])from Codec.append qdd x16 [qad.mk x22 x23 x24 (qab.mk x25 x26 (Val.mk x27 x28 x29 x30 x31 x32) x33 x34) x35 x36 x37 x38 x39 x40 x41 x42 x43]]
     conv=>whnf
     obtain⟨h4,h⟩:=qa3 h
     refine⟨⟨Codec.wide qdd (x16++[qad.mk x22 x23 x24 (qab.mk x25 x26 (Val.mk x27 x28 x29 x30 x31 x32) x33 x34) x35 x36 x37 x38 x39 x40 x41 x42 x43]),of_decide_eq_true h4,qeb h4 (by decide)⟩,?_⟩
     conv=>whnf
     refine⟨⟨rfl,rfl,rfl⟩,?_⟩
     conv=>whnf
     exact⟨(x22,x44,x45,(x16++[qad.mk x22 x23 x24 (qab.mk x25 x26 (Val.mk x27 x28 x29 x30 x31 x32) x33 x34) x35 x36 x37 x38 x39 x40 x41 x42 x43])),h,wk [0,1,2,5] []⟩
   ·conv=>whnf
    exact⟨(x14,x15,x16),h,wk [0,1,2,3] []⟩
abbrev q1j (r:Bool):PV:=PV.bool r
def qoq (n:Nat) (x1:Int):Option (Bool):=
 some (bif(decide (x1≥4))then(decide (x1≤8))else false)
theorem qzu (n:Nat):∀ (x1:Int) (r:Bool),qoq n x1=some r→qac Tryz.prog 34 [PV.int .i64 x1] (q1j r):=by
 intro x1 r h
 unfold qoq at h
 refine qac.of_vcN qa2 (fun _ _=>Tryz.call34 _ _) Tryz.func34 (by kernel_rfl) (inl:=[1000000]) ?_
 conv=>whnf
 refine⟨id,id,?_⟩
 obtain rfl:=sj h
 conv=>whnf
 try exact fin
abbrev qxc (r:qbe):PV:=(PV.ifc (qbe.tid r) (qbe.val r))
def qlt (n:Nat) (a0z:qbq):Option (qbe):=
 match a0z with
 | ⟨x1,x2⟩=>
 some (qbe.path (qbq.mk x1 x2))
theorem qv0 (n:Nat):∀ (a0z:qbq) (r:qbe),qlt n a0z=some r→qac Tryz.prog 67 [PV.agg (qn9.cells a0z)] (qxc r):=by
 intro a0z r h
 obtain⟨x1,x2⟩:=a0z
 unfold qlt at h
 refine qac.of_vcN qa2 (fun _ _=>Tryz.call67 _ _) Tryz.func67 (by kernel_rfl) (inl:=[1000000]) ?_
 obtain rfl:=sj h
 conv=>whnf
 try exact fin
abbrev qla (r:List qbe):PV:=PV.sl (qbe.rows r)
def qbl (n:Nat) (x1:List qbq):(List qbe×Int→Option (List qbe))→List qbe×Int→Option (List qbe):=fun nx1 (x2,x3)=>
bif(decide (x3<((qbq.rows x1).length:Int)))then(
bnd (idx x1 x3) fun⟨x4,x5⟩=>
bnd (qlt n (qbq.mk x4 x5)) fun x6=>
chk (decide ((qbe.rows (x2++[x6])).length * 16≤140737488355328)) (
nx1 ((x2++[x6]),(IntKind.i64.wrap (x3+1)))))
else(
some x2)
def qc3 (n:Nat) (x1:List qbq):Option (List qbe):=
 qas (qbl n x1) n (([]:List _),(0:Int))
theorem qkl (n:Nat):∀ (x1:List qbq) (r:List qbe),qc3 n x1=some r→qac Tryz.prog 66 [PV.sl (qbq.rows x1),PV.fn 67] (qla r):=by
 intro x1 r h
 unfold qc3 at h
 refine qac.of_vcN qa2 (fun _ _=>Tryz.call66 _ _) Tryz.func66 (by kernel_rfl) (inl:=[1000000]) ?_
 conv=>whnf
 refine qb2.fn [1000000] (S:=List qbe×Int) (fun(x2,x3)=>[(1,.p (.fn 67)),(5,.tsl 0 (qbe.rows x2)),(8,pP x1),(9,.p (.int .i64 ((qbq.rows x1).length:Int))),(10,pI x3)]) (fun(x2,x3)=>[.tail 103 1 (qbe.rows x2).length]) (B:=qbl n x1) h (wk [0] [0]) ?_
 intro nx1 st h
 obtain⟨x2,x3⟩:=st
 unfold qbl at h
 conv=>whnf
 refine ifc h (fun hc h=>?_) (fun hc h=>?_)
 ·conv=>whnf
  replace h:=qaa h
  obtain⟨⟨x4,x5⟩,h3,h⟩:=h
  refine⟨_,Codec.at_ qn9 h3,?_⟩
  conv=>whnf
  replace h:=qaa h
  obtain⟨x6,h2,h⟩:=h
  refine⟨_,(qv0 n _ _ h2),?_⟩
  conv=>whnf
  refine⟨Codec.one qoh [x6],qbe.rows [x6],.inl rfl,?_⟩
  conv=>whnf
  rw[show qbe.rows x2++qbe.rows [x6]=qbe.rows (x2++[x6])from Codec.append qoh x2 [x6]]
  conv=>whnf
  obtain⟨h1,h⟩:=qa3 h
  refine⟨⟨Codec.wide qoh (x2++[x6]),of_decide_eq_true h1,qeb h1 (by decide)⟩,?_⟩
  conv=>whnf
  refine⟨⟨rfl,rfl,rfl⟩,?_⟩
  conv=>whnf
  exact⟨((x2++[x6]),(IntKind.i64.wrap (x3+1))),h,wk [2] []⟩
 ·obtain rfl:=sj h
  conv=>whnf
  try exact fin
abbrev qxy (r:qbe):PV:=(PV.ifc (qbe.tid r) (qbe.val r))
def qln (n:Nat) (a0z:qab):Option (qbe):=
 match a0z with
 | ⟨x1,x2,⟨x3,x4,x5,x6,x7,x8⟩,x9,x10⟩=>
 some (qbe.expr (qab.mk x1 x2 (Val.mk x3 x4 x5 x6 x7 x8) x9 x10))
theorem qwf (n:Nat):∀ (a0z:qab) (r:qbe),qln n a0z=some r→qac Tryz.prog 69 [PV.agg (qb9.cells a0z)] (qxy r):=by
 intro a0z r h
 obtain⟨x1,x2,⟨x3,x4,x5,x6,x7,x8⟩,x9,x10⟩:=a0z
 unfold qln at h
 refine qac.of_vcN qa2 (fun _ _=>Tryz.call69 _ _) Tryz.func69 (by kernel_rfl) (inl:=[1000000]) ?_
 obtain rfl:=sj h
 conv=>whnf
 try exact fin
abbrev qk4 (r:List qbe):PV:=PV.sl (qbe.rows r)
def qbk (n:Nat) (x1:List qab):(List qbe×Int→Option (List qbe))→List qbe×Int→Option (List qbe):=fun nx1 (x2,x3)=>
bif(decide (x3<((qab.rows x1).length:Int)))then(
bnd (idx x1 x3) fun⟨x4,x5,⟨x6,x7,x8,x9,x10,x11⟩,x12,x13⟩=>
bnd (qln n (qab.mk x4 x5 (Val.mk x6 x7 x8 x9 x10 x11) x12 x13)) fun x14=>
chk (decide ((qbe.rows (x2++[x14])).length * 16≤140737488355328)) (
nx1 ((x2++[x14]),(IntKind.i64.wrap (x3+1)))))
else(
some x2)
def qc8 (n:Nat) (x1:List qab):Option (List qbe):=
 qas (qbk n x1) n (([]:List _),(0:Int))
theorem qky (n:Nat):∀ (x1:List qab) (r:List qbe),qc8 n x1=some r→qac Tryz.prog 68 [PV.sl (qab.rows x1),PV.fn 69] (qk4 r):=by
 intro x1 r h
 unfold qc8 at h
 refine qac.of_vcN qa2 (fun _ _=>Tryz.call68 _ _) Tryz.func68 (by kernel_rfl) (inl:=[1000000]) ?_
 conv=>whnf
 refine qb2.fn [1000000] (S:=List qbe×Int) (fun(x2,x3)=>[(1,.p (.fn 69)),(5,.tsl 0 (qbe.rows x2)),(8,pE x1),(9,.p (.int .i64 ((qab.rows x1).length:Int))),(10,pI x3)]) (fun(x2,x3)=>[.tail 103 1 (qbe.rows x2).length]) (B:=qbk n x1) h (wk [0] [0]) ?_
 intro nx1 st h
 obtain⟨x2,x3⟩:=st
 unfold qbk at h
 conv=>whnf
 refine ifc h (fun hc h=>?_) (fun hc h=>?_)
 ·conv=>whnf
  replace h:=qaa h
  obtain⟨⟨x4,x5,⟨x6,x7,x8,x9,x10,x11⟩,x12,x13⟩,h3,h⟩:=h
  refine⟨_,Codec.at_ qb9 h3,?_⟩
  conv=>whnf
  replace h:=qaa h
  obtain⟨x14,h2,h⟩:=h
  refine⟨_,(qwf n _ _ h2),?_⟩
  conv=>whnf
  refine⟨Codec.one qoh [x14],qbe.rows [x14],.inl rfl,?_⟩
  conv=>whnf
  rw[show qbe.rows x2++qbe.rows [x14]=qbe.rows (x2++[x14])from Codec.append qoh x2 [x14]]
  conv=>whnf
  obtain⟨h1,h⟩:=qa3 h
  refine⟨⟨Codec.wide qoh (x2++[x14]),of_decide_eq_true h1,qeb h1 (by decide)⟩,?_⟩
  conv=>whnf
  refine⟨⟨rfl,rfl,rfl⟩,?_⟩
  conv=>whnf
  exact⟨((x2++[x14]),(IntKind.i64.wrap (x3+1))),h,wk [2] []⟩
 ·obtain rfl:=sj h
  conv=>whnf
  try exact fin
abbrev qxb (r:qbe):PV:=(PV.ifc (qbe.tid r) (qbe.val r))
def qlf (n:Nat) (a0z:qbz):Option (qbe):=
 match a0z with
 | ⟨⟨x1,x2,⟨x3,x4,x5,x6,x7,x8⟩,x9,x10⟩,x11⟩=>
 some (qbe.item (qbz.mk (qab.mk x1 x2 (Val.mk x3 x4 x5 x6 x7 x8) x9 x10) x11))
theorem qv7 (n:Nat):∀ (a0z:qbz) (r:qbe),qlf n a0z=some r→qac Tryz.prog 71 [PV.agg (qt4.cells a0z)] (qxb r):=by
 intro a0z r h
 obtain⟨⟨x1,x2,⟨x3,x4,x5,x6,x7,x8⟩,x9,x10⟩,x11⟩:=a0z
 unfold qlf at h
 refine qac.of_vcN qa2 (fun _ _=>Tryz.call71 _ _) Tryz.func71 (by kernel_rfl) (inl:=[1000000]) ?_
 obtain rfl:=sj h
 conv=>whnf
 try exact fin
abbrev qlo (r:List qbe):PV:=PV.sl (qbe.rows r)
def qbm (n:Nat) (x1:List qbz):(List qbe×Int→Option (List qbe))→List qbe×Int→Option (List qbe):=fun nx1 (x2,x3)=>
bif(decide (x3<((qbz.rows x1).length:Int)))then(
bnd (idx x1 x3) fun⟨⟨x4,x5,⟨x6,x7,x8,x9,x10,x11⟩,x12,x13⟩,x14⟩=>
bnd (qlf n (qbz.mk (qab.mk x4 x5 (Val.mk x6 x7 x8 x9 x10 x11) x12 x13) x14)) fun x15=>
chk (decide ((qbe.rows (x2++[x15])).length * 16≤140737488355328)) (
nx1 ((x2++[x15]),(IntKind.i64.wrap (x3+1)))))
else(
some x2)
def qc4 (n:Nat) (x1:List qbz):Option (List qbe):=
 qas (qbm n x1) n (([]:List _),(0:Int))
theorem qke (n:Nat):∀ (x1:List qbz) (r:List qbe),qc4 n x1=some r→qac Tryz.prog 70 [PV.sl (qbz.rows x1),PV.fn 71] (qlo r):=by
 intro x1 r h
 unfold qc4 at h
 refine qac.of_vcN qa2 (fun _ _=>Tryz.call70 _ _) Tryz.func70 (by kernel_rfl) (inl:=[1000000]) ?_
 conv=>whnf
 refine qb2.fn [1000000] (S:=List qbe×Int) (fun(x2,x3)=>[(1,.p (.fn 71)),(5,.tsl 0 (qbe.rows x2)),(8,pA x1),(9,.p (.int .i64 ((qbz.rows x1).length:Int))),(10,pI x3)]) (fun(x2,x3)=>[.tail 103 1 (qbe.rows x2).length]) (B:=qbm n x1) h (wk [0] [0]) ?_
 intro nx1 st h
 obtain⟨x2,x3⟩:=st
 unfold qbm at h
 conv=>whnf
 refine ifc h (fun hc h=>?_) (fun hc h=>?_)
 ·conv=>whnf
  replace h:=qaa h
  obtain⟨⟨⟨x4,x5,⟨x6,x7,x8,x9,x10,x11⟩,x12,x13⟩,x14⟩,h3,h⟩:=h
  refine⟨_,Codec.at_ qt4 h3,?_⟩
  conv=>whnf
  replace h:=qaa h
  obtain⟨x15,h2,h⟩:=h
  refine⟨_,(qv7 n _ _ h2),?_⟩
  conv=>whnf
  refine⟨Codec.one qoh [x15],qbe.rows [x15],.inl rfl,?_⟩
  conv=>whnf
  rw[show qbe.rows x2++qbe.rows [x15]=qbe.rows (x2++[x15])from Codec.append qoh x2 [x15]]
  conv=>whnf
  obtain⟨h1,h⟩:=qa3 h
  refine⟨⟨Codec.wide qoh (x2++[x15]),of_decide_eq_true h1,qeb h1 (by decide)⟩,?_⟩
  conv=>whnf
  refine⟨⟨rfl,rfl,rfl⟩,?_⟩
  conv=>whnf
  exact⟨((x2++[x15]),(IntKind.i64.wrap (x3+1))),h,wk [2] []⟩
 ·obtain rfl:=sj h
  conv=>whnf
  try exact fin
abbrev qxj (r:qbe):PV:=(PV.ifc (qbe.tid r) (qbe.val r))
def qk8 (n:Nat) (a0z:qav):Option (qbe):=
 match a0z with
 | ⟨⟨x1,x2,⟨x3,x4,x5,x6,x7,x8⟩,x9,x10⟩,x11⟩=>
 some (qbe.sorted (qav.mk (qab.mk x1 x2 (Val.mk x3 x4 x5 x6 x7 x8) x9 x10) x11))
theorem qwk (n:Nat):∀ (a0z:qav) (r:qbe),qk8 n a0z=some r→qac Tryz.prog 73 [PV.agg (qqh.cells a0z)] (qxj r):=by
 intro a0z r h
 obtain⟨⟨x1,x2,⟨x3,x4,x5,x6,x7,x8⟩,x9,x10⟩,x11⟩:=a0z
 unfold qk8 at h
 refine qac.of_vcN qa2 (fun _ _=>Tryz.call73 _ _) Tryz.func73 (by kernel_rfl) (inl:=[1000000]) ?_
 obtain rfl:=sj h
 conv=>whnf
 try exact fin
abbrev qlb (r:List qbe):PV:=PV.sl (qbe.rows r)
def qbo (n:Nat) (x1:List qav):(List qbe×Int→Option (List qbe))→List qbe×Int→Option (List qbe):=fun nx1 (x2,x3)=>
bif(decide (x3<((qav.rows x1).length:Int)))then(
bnd (idx x1 x3) fun⟨⟨x4,x5,⟨x6,x7,x8,x9,x10,x11⟩,x12,x13⟩,x14⟩=>
bnd (qk8 n (qav.mk (qab.mk x4 x5 (Val.mk x6 x7 x8 x9 x10 x11) x12 x13) x14)) fun x15=>
chk (decide ((qbe.rows (x2++[x15])).length * 16≤140737488355328)) (
nx1 ((x2++[x15]),(IntKind.i64.wrap (x3+1)))))
else(
some x2)
def qc2 (n:Nat) (x1:List qav):Option (List qbe):=
 qas (qbo n x1) n (([]:List _),(0:Int))
theorem qkf (n:Nat):∀ (x1:List qav) (r:List qbe),qc2 n x1=some r→qac Tryz.prog 72 [PV.sl (qav.rows x1),PV.fn 73] (qlb r):=by
 intro x1 r h
 unfold qc2 at h
 refine qac.of_vcN qa2 (fun _ _=>Tryz.call72 _ _) Tryz.func72 (by kernel_rfl) (inl:=[1000000]) ?_
 conv=>whnf
 refine qb2.fn [1000000] (S:=List qbe×Int) (fun(x2,x3)=>[(1,.p (.fn 73)),(5,.tsl 0 (qbe.rows x2)),(8,pO x1),(9,.p (.int .i64 ((qav.rows x1).length:Int))),(10,pI x3)]) (fun(x2,x3)=>[.tail 103 1 (qbe.rows x2).length]) (B:=qbo n x1) h (wk [0] [0]) ?_
 intro nx1 st h
 obtain⟨x2,x3⟩:=st
 unfold qbo at h
 conv=>whnf
 refine ifc h (fun hc h=>?_) (fun hc h=>?_)
 ·conv=>whnf
  replace h:=qaa h
  obtain⟨⟨⟨x4,x5,⟨x6,x7,x8,x9,x10,x11⟩,x12,x13⟩,x14⟩,h3,h⟩:=h
  refine⟨_,Codec.at_ qqh h3,?_⟩
  conv=>whnf
  replace h:=qaa h
  obtain⟨x15,h2,h⟩:=h
  refine⟨_,(qwk n _ _ h2),?_⟩
  conv=>whnf
  refine⟨Codec.one qoh [x15],qbe.rows [x15],.inl rfl,?_⟩
  conv=>whnf
  rw[show qbe.rows x2++qbe.rows [x15]=qbe.rows (x2++[x15])from Codec.append qoh x2 [x15]]
  conv=>whnf
  obtain⟨h1,h⟩:=qa3 h
  refine⟨⟨Codec.wide qoh (x2++[x15]),of_decide_eq_true h1,qeb h1 (by decide)⟩,?_⟩
  conv=>whnf
  refine⟨⟨rfl,rfl,rfl⟩,?_⟩
  conv=>whnf
  exact⟨((x2++[x15]),(IntKind.i64.wrap (x3+1))),h,wk [2] []⟩
 ·obtain rfl:=sj h
  conv=>whnf
  try exact fin
abbrev qxp (r:qbe):PV:=(PV.ifc (qbe.tid r) (qbe.val r))
def qld (n:Nat) (a0z:qab):Option (qbe):=
 match a0z with
 | ⟨x1,x2,⟨x3,x4,x5,x6,x7,x8⟩,x9,x10⟩=>
 some (qbe.expr (qab.mk x1 x2 (Val.mk x3 x4 x5 x6 x7 x8) x9 x10))
theorem qv3 (n:Nat):∀ (a0z:qab) (r:qbe),qld n a0z=some r→qac Tryz.prog 74 [PV.agg (qb9.cells a0z)] (qxp r):=by
 intro a0z r h
 obtain⟨x1,x2,⟨x3,x4,x5,x6,x7,x8⟩,x9,x10⟩:=a0z
 unfold qld at h
 refine qac.of_vcN qa2 (fun _ _=>Tryz.call74 _ _) Tryz.func74 (by kernel_rfl) (inl:=[1000000]) ?_
 obtain rfl:=sj h
 conv=>whnf
 try exact fin
abbrev qle (r:List qbe):PV:=PV.sl (qbe.rows r)
def qbn (n:Nat) (x1:List qab):(List qbe×Int→Option (List qbe))→List qbe×Int→Option (List qbe):=fun nx1 (x2,x3)=>
bif(decide (x3<((qab.rows x1).length:Int)))then(
bnd (idx x1 x3) fun⟨x4,x5,⟨x6,x7,x8,x9,x10,x11⟩,x12,x13⟩=>
bnd (qld n (qab.mk x4 x5 (Val.mk x6 x7 x8 x9 x10 x11) x12 x13)) fun x14=>
chk (decide ((qbe.rows (x2++[x14])).length * 16≤140737488355328)) (
nx1 ((x2++[x14]),(IntKind.i64.wrap (x3+1)))))
else(
some x2)
def qc5 (n:Nat) (x1:List qab):Option (List qbe):=
 qas (qbn n x1) n (([]:List _),(0:Int))
theorem qkw (n:Nat):∀ (x1:List qab) (r:List qbe),qc5 n x1=some r→qac Tryz.prog 68 [PV.sl (qab.rows x1),PV.fn 74] (qle r):=by
 intro x1 r h
 unfold qc5 at h
 refine qac.of_vcN qa2 (fun _ _=>Tryz.call68 _ _) Tryz.func68 (by kernel_rfl) (inl:=[1000000]) ?_
 conv=>whnf
 refine qb2.fn [1000000] (S:=List qbe×Int) (fun(x2,x3)=>[(1,.p (.fn 74)),(5,.tsl 0 (qbe.rows x2)),(8,pE x1),(9,.p (.int .i64 ((qab.rows x1).length:Int))),(10,pI x3)]) (fun(x2,x3)=>[.tail 103 1 (qbe.rows x2).length]) (B:=qbn n x1) h (wk [0] [0]) ?_
 intro nx1 st h
 obtain⟨x2,x3⟩:=st
 unfold qbn at h
 conv=>whnf
 refine ifc h (fun hc h=>?_) (fun hc h=>?_)
 ·conv=>whnf
  replace h:=qaa h
  obtain⟨⟨x4,x5,⟨x6,x7,x8,x9,x10,x11⟩,x12,x13⟩,h3,h⟩:=h
  refine⟨_,Codec.at_ qb9 h3,?_⟩
  conv=>whnf
  replace h:=qaa h
  obtain⟨x14,h2,h⟩:=h
  refine⟨_,(qv3 n _ _ h2),?_⟩
  conv=>whnf
  refine⟨Codec.one qoh [x14],qbe.rows [x14],.inl rfl,?_⟩
  conv=>whnf
  rw[show qbe.rows x2++qbe.rows [x14]=qbe.rows (x2++[x14])from Codec.append qoh x2 [x14]]
  conv=>whnf
  obtain⟨h1,h⟩:=qa3 h
  refine⟨⟨Codec.wide qoh (x2++[x14]),of_decide_eq_true h1,qeb h1 (by decide)⟩,?_⟩
  conv=>whnf
  refine⟨⟨rfl,rfl,rfl⟩,?_⟩
  conv=>whnf
  exact⟨((x2++[x14]),(IntKind.i64.wrap (x3+1))),h,wk [2] []⟩
 ·obtain rfl:=sj h
  conv=>whnf
  try exact fin
abbrev qxn (r:qbe):PV:=(PV.ifc (qbe.tid r) (qbe.val r))
def qlg (n:Nat) (a0z:qab):Option (qbe):=
 match a0z with
 | ⟨x1,x2,⟨x3,x4,x5,x6,x7,x8⟩,x9,x10⟩=>
 some (qbe.expr (qab.mk x1 x2 (Val.mk x3 x4 x5 x6 x7 x8) x9 x10))
theorem qvu (n:Nat):∀ (a0z:qab) (r:qbe),qlg n a0z=some r→qac Tryz.prog 75 [PV.agg (qb9.cells a0z)] (qxn r):=by
 intro a0z r h
 obtain⟨x1,x2,⟨x3,x4,x5,x6,x7,x8⟩,x9,x10⟩:=a0z
 unfold qlg at h
 refine qac.of_vcN qa2 (fun _ _=>Tryz.call75 _ _) Tryz.func75 (by kernel_rfl) (inl:=[1000000]) ?_
 obtain rfl:=sj h
 conv=>whnf
 try exact fin
abbrev qlm (r:List qbe):PV:=PV.sl (qbe.rows r)
def qbp (n:Nat) (x1:List qab):(List qbe×Int→Option (List qbe))→List qbe×Int→Option (List qbe):=fun nx1 (x2,x3)=>
bif(decide (x3<((qab.rows x1).length:Int)))then(
bnd (idx x1 x3) fun⟨x4,x5,⟨x6,x7,x8,x9,x10,x11⟩,x12,x13⟩=>
bnd (qlg n (qab.mk x4 x5 (Val.mk x6 x7 x8 x9 x10 x11) x12 x13)) fun x14=>
chk (decide ((qbe.rows (x2++[x14])).length * 16≤140737488355328)) (
nx1 ((x2++[x14]),(IntKind.i64.wrap (x3+1)))))
else(
some x2)
def qc7 (n:Nat) (x1:List qab):Option (List qbe):=
 qas (qbp n x1) n (([]:List _),(0:Int))
theorem qku (n:Nat):∀ (x1:List qab) (r:List qbe),qc7 n x1=some r→qac Tryz.prog 68 [PV.sl (qab.rows x1),PV.fn 75] (qlm r):=by
 intro x1 r h
 unfold qc7 at h
 refine qac.of_vcN qa2 (fun _ _=>Tryz.call68 _ _) Tryz.func68 (by kernel_rfl) (inl:=[1000000]) ?_
 conv=>whnf
 refine qb2.fn [1000000] (S:=List qbe×Int) (fun(x2,x3)=>[(1,.p (.fn 75)),(5,.tsl 0 (qbe.rows x2)),(8,pE x1),(9,.p (.int .i64 ((qab.rows x1).length:Int))),(10,pI x3)]) (fun(x2,x3)=>[.tail 103 1 (qbe.rows x2).length]) (B:=qbp n x1) h (wk [0] [0]) ?_
 intro nx1 st h
 obtain⟨x2,x3⟩:=st
 unfold qbp at h
 conv=>whnf
 refine ifc h (fun hc h=>?_) (fun hc h=>?_)
 ·conv=>whnf
  replace h:=qaa h
  obtain⟨⟨x4,x5,⟨x6,x7,x8,x9,x10,x11⟩,x12,x13⟩,h3,h⟩:=h
  refine⟨_,Codec.at_ qb9 h3,?_⟩
  conv=>whnf
  replace h:=qaa h
  obtain⟨x14,h2,h⟩:=h
  refine⟨_,(qvu n _ _ h2),?_⟩
  conv=>whnf
  refine⟨Codec.one qoh [x14],qbe.rows [x14],.inl rfl,?_⟩
  conv=>whnf
  rw[show qbe.rows x2++qbe.rows [x14]=qbe.rows (x2++[x14])from Codec.append qoh x2 [x14]]
  conv=>whnf
  obtain⟨h1,h⟩:=qa3 h
  refine⟨⟨Codec.wide qoh (x2++[x14]),of_decide_eq_true h1,qeb h1 (by decide)⟩,?_⟩
  conv=>whnf
  refine⟨⟨rfl,rfl,rfl⟩,?_⟩
  conv=>whnf
  exact⟨((x2++[x14]),(IntKind.i64.wrap (x3+1))),h,wk [2] []⟩
 ·obtain rfl:=sj h
  conv=>whnf
  try exact fin
abbrev qxd (r:qbe):PV:=(PV.ifc (qbe.tid r) (qbe.val r))
def qk7 (n:Nat) (x1:SS):Option (qbe):=
 some (qbe.name x1)
theorem qvx (n:Nat):∀ (x1:SS) (r:qbe),qk7 n x1=some r→qac Tryz.prog 77 [PV.str x1] (qxd r):=by
 intro x1 r h
 unfold qk7 at h
 refine qac.of_vcN qa2 (fun _ _=>Tryz.call77 _ _) Tryz.func77 (by kernel_rfl) (inl:=[1000000]) ?_
 obtain rfl:=sj h
 conv=>whnf
 try exact fin
abbrev qma (r:List qbe):PV:=PV.sl (qbe.rows r)
def qbt (n:Nat) (x1:List SS):(List qbe×Int→Option (List qbe))→List qbe×Int→Option (List qbe):=fun nx1 (x2,x3)=>
bif(decide (x3<((qak x1).length:Int)))then(
bnd (idx x1 x3) fun x4=>
bnd (qk7 n x4) fun x5=>
chk (decide ((qbe.rows (x2++[x5])).length * 16≤140737488355328)) (
nx1 ((x2++[x5]),(IntKind.i64.wrap (x3+1)))))
else(
some x2)
def qdf (n:Nat) (x1:List SS):Option (List qbe):=
 qas (qbt n x1) n (([]:List _),(0:Int))
theorem qlx (n:Nat):∀ (x1:List SS) (r:List qbe),qdf n x1=some r→qac Tryz.prog 76 [PV.sl (qak x1),PV.fn 77] (qma r):=by
 intro x1 r h
 unfold qdf at h
 refine qac.of_vcN qa2 (fun _ _=>Tryz.call76 _ _) Tryz.func76 (by kernel_rfl) (inl:=[1000000]) ?_
 conv=>whnf
 refine qb2.fn [1000000] (S:=List qbe×Int) (fun(x2,x3)=>[(1,.p (.fn 77)),(5,.tsl 0 (qbe.rows x2)),(8,pT x1),(9,.p (.int .i64 ((qak x1).length:Int))),(10,pI x3)]) (fun(x2,x3)=>[.tail 103 1 (qbe.rows x2).length]) (B:=qbt n x1) h (wk [0] [0]) ?_
 intro nx1 st h
 obtain⟨x2,x3⟩:=st
 unfold qbt at h
 conv=>whnf
 refine ifc h (fun hc h=>?_) (fun hc h=>?_)
 ·conv=>whnf
  replace h:=qaa h
  obtain⟨x4,h3,h⟩:=h
  refine⟨_,Codec.at_ qpc h3,?_⟩
  conv=>whnf
  replace h:=qaa h
  obtain⟨x5,h2,h⟩:=h
  refine⟨_,(qvx n _ _ h2),?_⟩
  conv=>whnf
  refine⟨Codec.one qoh [x5],qbe.rows [x5],.inl rfl,?_⟩
  conv=>whnf
  rw[show qbe.rows x2++qbe.rows [x5]=qbe.rows (x2++[x5])from Codec.append qoh x2 [x5]]
  conv=>whnf
  obtain⟨h1,h⟩:=qa3 h
  refine⟨⟨Codec.wide qoh (x2++[x5]),of_decide_eq_true h1,qeb h1 (by decide)⟩,?_⟩
  conv=>whnf
  refine⟨⟨rfl,rfl,rfl⟩,?_⟩
  conv=>whnf
  exact⟨((x2++[x5]),(IntKind.i64.wrap (x3+1))),h,wk [1] []⟩
 ·obtain rfl:=sj h
  conv=>whnf
  try exact fin
abbrev qx0 (x14:Int) (x15:List qbq) (x16:List qab) (x17:Int) (x18:SS) (x19:Int) (x20:Bool) (x21:Int) (x22:SS) (x23:List Val) (x24 x25:List SS) (x26:List qab) (x27:SS) (x28:List qbz) (x29:Bool) (x30:List qav) (x31 x32:List qab) (x33:List qag) (x34:List SS) (x35:Bool) (r:qbe):FV:=.p ((PV.ifc (qbe.tid r) (qbe.val r)))
abbrev qw2 (x14:Int) (x15:List qbq) (x16:List qab) (x17:Int) (x18:SS) (x19:Int) (x20:Bool) (x21:Int) (x22:SS) (x23:List Val) (x24 x25:List SS) (x26:List qab) (x27:SS) (x28:List qbz) (x29:Bool) (x30:List qav) (x31 x32:List qab) (x33:List qag) (x34:List SS) (x35:Bool) (r:qbe):List AObj:=[.box 55 [pI x14,pP x15,pE x16,pI x17,pS x18,pI x19,pB x20,pI x21,pS x22,pV x23,pT x24,pT x25,pE x26,pS x27,pA x28,pB x29,pO x30,pE x31,pE x32,pU x33,pT x34,pB x35]]
def qlj (n:Nat) (a0z:qag) (x14:Int) (x15:List qbq) (x16:List qab) (x17:Int) (x18:SS) (x19:Int) (x20:Bool) (x21:Int) (x22:SS) (x23:List Val) (x24 x25:List SS) (x26:List qab) (x27:SS) (x28:List qbz) (x29:Bool) (x30:List qav) (x31 x32:List qab) (x33:List qag) (x34:List SS) (x35:Bool):Option (qbe):=
 match a0z with
 | ⟨x1,x2,x3,⟨x4,x5,⟨x6,x7,x8,x9,x10,x11⟩,x12,x13⟩⟩=>
 some (qbe.change (qrh.mk (qag.mk x1 x2 x3 (qab.mk x4 x5 (Val.mk x6 x7 x8 x9 x10 x11) x12 x13)) (x14==6)))
theorem qvw (n:Nat):∀ (a0z:qag) (x14:Int) (x15:List qbq) (x16:List qab) (x17:Int) (x18:SS) (x19:Int) (x20:Bool) (x21:Int) (x22:SS) (x23:List Val) (x24 x25:List SS) (x26:List qab) (x27:SS) (x28:List qbz) (x29:Bool) (x30:List qav) (x31 x32:List qab) (x33:List qag) (x34:List SS) (x35:Bool) (r:qbe),qlj n a0z x14 x15 x16 x17 x18 x19 x20 x21 x22 x23 x24 x25 x26 x27 x28 x29 x30 x31 x32 x33 x34 x35=some r→qat Tryz.prog 79 [.p (PV.agg (qk2.cells a0z)),.ptr 0 0] [.box 55 [pI x14,pP x15,pE x16,pI x17,pS x18,pI x19,pB x20,pI x21,pS x22,pV x23,pT x24,pT x25,pE x26,pS x27,pA x28,pB x29,pO x30,pE x31,pE x32,pU x33,pT x34,pB x35]] 1 (fun v lo=>v=qx0 x14 x15 x16 x17 x18 x19 x20 x21 x22 x23 x24 x25 x26 x27 x28 x29 x30 x31 x32 x33 x34 x35 r∧lo=qw2 x14 x15 x16 x17 x18 x19 x20 x21 x22 x23 x24 x25 x26 x27 x28 x29 x30 x31 x32 x33 x34 x35 r):=by
 intro a0z x14 x15 x16 x17 x18 x19 x20 x21 x22 x23 x24 x25 x26 x27 x28 x29 x30 x31 x32 x33 x34 x35 r h
 obtain⟨x1,x2,x3,⟨x4,x5,⟨x6,x7,x8,x9,x10,x11⟩,x12,x13⟩⟩:=a0z
 unfold qlj at h
 refine qat.of_vc qa2 (fun _ _=>Tryz.call79 _ _) Tryz.func79 (by kernel_rfl) (inl:=[1000000]) (Nat.le_of_ble_eq_true rfl) ?_
 obtain rfl:=sj h
 conv=>whnf
 refine⟨_,_,⟨rfl,rfl⟩,wk [0] []⟩
abbrev qj4 (x2:Int) (x3:List qbq) (x4:List qab) (x5:Int) (x6:SS) (x7:Int) (x8:Bool) (x9:Int) (x10:SS) (x11:List Val) (x12 x13:List SS) (x14:List qab) (x15:SS) (x16:List qbz) (x17:Bool) (x18:List qav) (x19 x20:List qab) (x21:List qag) (x22:List SS) (x23:Bool) (r:(List qbe)):FV:=.p (.sl (qbe.rows r))
abbrev qj3 (x2:Int) (x3:List qbq) (x4:List qab) (x5:Int) (x6:SS) (x7:Int) (x8:Bool) (x9:Int) (x10:SS) (x11:List Val) (x12 x13:List SS) (x14:List qab) (x15:SS) (x16:List qbz) (x17:Bool) (x18:List qav) (x19 x20:List qab) (x21:List qag) (x22:List SS) (x23:Bool) (r:(List qbe)):List AObj:=[.box 55 [pI x2,pP x3,pE x4,pI x5,pS x6,pI x7,pB x8,pI x9,pS x10,pV x11,pT x12,pT x13,pE x14,pS x15,pA x16,pB x17,pO x18,pE x19,pE x20,pU x21,pT x22,pB x23]]
def qbc (n:Nat) (x1:List qag) (x2:Int) (x3:List qbq) (x4:List qab) (x5:Int) (x6:SS) (x7:Int) (x8:Bool) (x9:Int) (x10:SS) (x11:List Val) (x12 x13:List SS) (x14:List qab) (x15:SS) (x16:List qbz) (x17:Bool) (x18:List qav) (x19 x20:List qab) (x21:List qag) (x22:List SS) (x23:Bool):(List qbe×Int→Option ((List qbe)))→List qbe×Int→Option ((List qbe)):=fun nx1 (x24,x25)=>
bif(decide (x25<((qag.rows x1).length:Int)))then(
bnd (idx x1 x25) fun⟨x26,x27,x28,⟨x29,x30,⟨x31,x32,x33,x34,x35,x36⟩,x37,x38⟩⟩=>
bnd (qlj n (qag.mk x26 x27 x28 (qab.mk x29 x30 (Val.mk x31 x32 x33 x34 x35 x36) x37 x38)) x2 x3 x4 x5 x6 x7 x8 x9 x10 x11 x12 x13 x14 x15 x16 x17 x18 x19 x20 x21 x22 x23) fun x39=>
chk (decide ((qbe.rows (x24++[x39])).length * 16≤140737488355328)) (
nx1 ((x24++[x39]),(IntKind.i64.wrap (x25+1)))))
else(
some x24)
def qcs (n:Nat) (x1:List qag) (x2:Int) (x3:List qbq) (x4:List qab) (x5:Int) (x6:SS) (x7:Int) (x8:Bool) (x9:Int) (x10:SS) (x11:List Val) (x12 x13:List SS) (x14:List qab) (x15:SS) (x16:List qbz) (x17:Bool) (x18:List qav) (x19 x20:List qab) (x21:List qag) (x22:List SS) (x23:Bool):Option ((List qbe)):=
 qas (qbc n x1 x2 x3 x4 x5 x6 x7 x8 x9 x10 x11 x12 x13 x14 x15 x16 x17 x18 x19 x20 x21 x22 x23) n (([]:List _),(0:Int))
theorem qjd (n:Nat):∀ (x1:List qag) (x2:Int) (x3:List qbq) (x4:List qab) (x5:Int) (x6:SS) (x7:Int) (x8:Bool) (x9:Int) (x10:SS) (x11:List Val) (x12 x13:List SS) (x14:List qab) (x15:SS) (x16:List qbz) (x17:Bool) (x18:List qav) (x19 x20:List qab) (x21:List qag) (x22:List SS) (x23:Bool) (r:(List qbe)),qcs n x1 x2 x3 x4 x5 x6 x7 x8 x9 x10 x11 x12 x13 x14 x15 x16 x17 x18 x19 x20 x21 x22 x23=some r→qat Tryz.prog 78 [.p (PV.sl (qag.rows x1)),.clo 79 (.cap (.ptr 0 0) (.cap0))] [.box 55 [pI x2,pP x3,pE x4,pI x5,pS x6,pI x7,pB x8,pI x9,pS x10,pV x11,pT x12,pT x13,pE x14,pS x15,pA x16,pB x17,pO x18,pE x19,pE x20,pU x21,pT x22,pB x23]] 1 (fun v lo=>v=qj4 x2 x3 x4 x5 x6 x7 x8 x9 x10 x11 x12 x13 x14 x15 x16 x17 x18 x19 x20 x21 x22 x23 r∧lo=qj3 x2 x3 x4 x5 x6 x7 x8 x9 x10 x11 x12 x13 x14 x15 x16 x17 x18 x19 x20 x21 x22 x23 r):=by
 intro x1 x2 x3 x4 x5 x6 x7 x8 x9 x10 x11 x12 x13 x14 x15 x16 x17 x18 x19 x20 x21 x22 x23 r h
 unfold qcs at h
 refine qat.of_vc qa2 (fun _ _=>Tryz.call78 _ _) Tryz.func78 (by kernel_rfl) (inl:=[20000015,1000000]) (Nat.le_of_ble_eq_true rfl) ?_
 conv=>whnf
 refine qb2.fn [20000015,1000000] (S:=List qbe×Int) (fun(x24,x25)=>[(1,.clo 79 (.cap (.ptr 0 0) (.cap0))),(5,.tsl 1 (qbe.rows x24)),(8,pU x1),(9,.p (.int .i64 ((qag.rows x1).length:Int))),(10,pI x25)]) (fun(x24,x25)=>[.box 55 [pI x2,pP x3,pE x4,pI x5,pS x6,pI x7,pB x8,pI x9,pS x10,pV x11,pT x12,pT x13,pE x14,pS x15,pA x16,pB x17,pO x18,pE x19,pE x20,pU x21,pT x22,pB x23],.tail 103 1 (qbe.rows x24).length]) (B:=qbc n x1 x2 x3 x4 x5 x6 x7 x8 x9 x10 x11 x12 x13 x14 x15 x16 x17 x18 x19 x20 x21 x22 x23) h (wk [0,0] [1]) ?_
 intro nx1 st h
 obtain⟨x24,x25⟩:=st
 unfold qbc at h
 conv=>whnf
 refine ifc h (fun hc h=>?_) (fun hc h=>?_)
 ·conv=>whnf
  replace h:=qaa h
  obtain⟨⟨x26,x27,x28,⟨x29,x30,⟨x31,x32,x33,x34,x35,x36⟩,x37,x38⟩⟩,h3,h⟩:=h
  refine⟨_,Codec.at_ qk2 h3,?_⟩
  conv=>whnf
  replace h:=qaa h
  obtain⟨x39,h1,h⟩:=h
  refine qb8 (qvw n _ _ _ _ _ _ _ _ _ _ _ _ _ _ _ _ _ _ _ _ _ _ _ _ h1) [0] [] ?_
  rintro _ _ ⟨rfl,rfl⟩
  refine⟨.p ((PV.ifc (qbe.tid x39) (qbe.val x39))),[.box 55 [pI x2,pP x3,pE x4,pI x5,pS x6,pI x7,pB x8,pI x9,pS x10,pV x11,pT x12,pT x13,pE x14,pS x15,pA x16,pB x17,pO x18,pE x19,pE x20,pU x21,pT x22,pB x23],.tail 103 1 (qbe.rows x24).length,.box 69 [pS x26,pS x27,pS x28,pI x29,pS x30,pI x31,pB x32,pI x33,pS x34,pV x35,pT x36,pT x37,pE x38]],rfl,rfl,?_⟩
  conv=>whnf
  refine⟨Codec.one qoh [x39],qbe.rows [x39],.inl rfl,?_⟩
  conv=>whnf
  rw[show qbe.rows x24++qbe.rows [x39]=qbe.rows (x24++[x39])from Codec.append qoh x24 [x39]]
  conv=>whnf
  obtain⟨h2,h⟩:=qa3 h
  refine⟨⟨Codec.wide qoh (x24++[x39]),of_decide_eq_true h2,qeb h2 (by decide)⟩,?_⟩
  conv=>whnf
  refine⟨⟨rfl,rfl,rfl⟩,?_⟩
  conv=>whnf
  exact⟨((x24++[x39]),(IntKind.i64.wrap (x25+1))),h,wk [0,3] []⟩
 ·obtain rfl:=sj h
  conv=>whnf
  refine⟨_,_,⟨rfl,rfl⟩,wk [0] []⟩
abbrev qo7 (r:Bool):PV:=PV.bool r
def qc1 (n:Nat) (x1 x2:List SS):(Int→Option (Bool))→Int→Option (Bool):=fun nx1 x3=>
bif(decide (x3<((qak x1).length:Int)))then(
bnd (idx x1 x3) fun x4=>
bnd (idx x2 x3) fun x5=>
bif(!(x4==x5))then(
some false)
else(
nx1 (IntKind.i64.wrap (x3+1))))
else(
some true)
def qdp (n:Nat) (x1 x2:List SS):Option (Bool):=
 bif(((qak x1).length:Int) != ((qak x2).length:Int))then(
 some false)
 else(
 qas (qc1 n x1 x2) n (0:Int))
theorem qok (n:Nat):∀ (x1 x2:List SS) (r:Bool),qdp n x1 x2=some r→qac Tryz.prog 133 [PV.sl (qak x1),PV.sl (qak x2)] (qo7 r):=by
 intro x1 x2 r h
 unfold qdp at h
 refine qac.of_vcN qa2 (fun _ _=>Tryz.call133 _ _) Tryz.func133 (by kernel_rfl) (inl:=[1000000]) ?_
 conv=>whnf
 refine ifc h (fun hc h=>?_) (fun hc h=>?_)
 ·obtain rfl:=sj h
  conv=>whnf
  try exact fin
 ·conv=>whnf
  refine qb2.fn [1000000] (S:=Int) (fun x3=>[(0,pT x1),(1,pT x2),(12,.p (.int .i64 ((qak x1).length:Int))),(13,pI x3)]) (fun x3=>[]) (B:=qc1 n x1 x2) h (wk [] []) ?_
  intro nx1 x3 h
  unfold qc1 at h
  conv=>whnf
  refine ifc h (fun hc h=>?_) (fun hc h=>?_)
  ·conv=>whnf
   replace h:=qaa h
   obtain⟨x4,h2,h⟩:=h
   refine⟨_,Codec.at_ qpc h2,?_⟩
   conv=>whnf
   replace h:=qaa h
   obtain⟨x5,h1,h⟩:=h
   refine⟨_,Codec.at_ qpc h1,?_⟩
   conv=>whnf
   refine ifc h (fun hc h=>?_) (fun hc h=>?_)
   ·obtain rfl:=sj h
    conv=>whnf
    try exact fin
   ·conv=>whnf
    exact⟨(IntKind.i64.wrap (x3+1)),h,wk [] []⟩
  ·obtain rfl:=sj h
   conv=>whnf
   try exact fin
abbrev ql5 (r:Bool):PV:=PV.bool r
abbrev zjz:Type:=Val→Val→Option (Bool)
def qpz (n:Nat) (g126:zjz) (g134z126:(List Val)→(List Val)→Option (Bool)) (a0z a1z:Val):Option (Bool):=
 match a0z,a1z with
 | ⟨x1,x2,x3,x4,x5,x6⟩,⟨x7,x8,x9,x10,x11,x12⟩=>
 bnd (qa4 (bif(bif(bif(x1==x7)then(x2==x8)else false)then(x3==x9)else false)then(x4==x10)else false) (qdp n x6 x12)) fun x13=>
 bnd (qa4 (bif(bif(bif(bif(x1==x7)then(x2==x8)else false)then(x3==x9)else false)then(x4==x10)else false)then x13 else false) (g134z126 x5 x11)) fun x14=>
 some (bif(bif(bif(bif(bif(x1==x7)then(x2==x8)else false)then(x3==x9)else false)then(x4==x10)else false)then x13 else false)then x14 else false)
abbrev qaw (r:Bool):PV:=PV.bool r
def qaq (n:Nat) (x1 x2:List Val) (g126:zjz):(Int→Option (Bool))→Int→Option (Bool):=fun nx1 x3=>
bif(decide (x3<((Val.rows x1).length:Int)))then(
bnd (idx x1 x3) fun⟨x4,x5,x6,x7,x8,x9⟩=>
bnd (idx x2 x3) fun⟨x10,x11,x12,x13,x14,x15⟩=>
bnd (g126 (Val.mk x4 x5 x6 x7 x8 x9) (Val.mk x10 x11 x12 x13 x14 x15)) fun x16=>
bif(!x16)then(
some false)
else(
nx1 (IntKind.i64.wrap (x3+1))))
else(
some true)
def qax (n:Nat) (g126:zjz) (g134z126:(List Val)→(List Val)→Option (Bool)) (x1 x2:List Val):Option (Bool):=
 bif(((Val.rows x1).length:Int) != ((Val.rows x2).length:Int))then(
 some false)
 else(
 qas (qaq n x1 x2 g126) n (0:Int))
theorem q1q (n:Nat) (g126:zjz) (g134z126:(List Val)→(List Val)→Option (Bool)) (g126_ok:∀ (a0z a1z:Val) (r:Bool),g126 a0z a1z=some r→qac Tryz.prog 126 [PV.agg (qre.cells a0z),PV.agg (qre.cells a1z)] (ql5 r)) (g134_126_ok:∀ (x1 x2:List Val) (r:Bool),g134z126 x1 x2=some r→qac Tryz.prog 134 [PV.sl (Val.rows x1),PV.sl (Val.rows x2),PV.fn 126] (qaw r)):∀ (a0z a1z:Val) (r:Bool),qpz n g126 g134z126 a0z a1z=some r→qac Tryz.prog 126 [PV.agg (qre.cells a0z),PV.agg (qre.cells a1z)] (ql5 r):=by
 intro a0z a1z r h
 obtain⟨x1,x2,x3,x4,x5,x6⟩:=a0z
 obtain⟨x7,x8,x9,x10,x11,x12⟩:=a1z
 unfold qpz at h
 refine qac.of_vcN qa2 (fun _ _=>Tryz.call126 _ _) Tryz.func126 (by kernel_rfl) (inl:=[1000000]) ?_
 conv=>whnf
 refine⟨id,id,id,id,id,id,id,id,id,id,id,id,id,id,id,id,id,id,id,?_⟩
 conv=>whnf
 replace h:=qaa h
 obtain⟨x13,h2,h⟩:=h
 refine⟨_,fun hg=>(qok n _ _ _ (qae h2 hg)),?_⟩
 conv=>whnf
 refine⟨id,id,id,id,id,?_⟩
 conv=>whnf
 replace h:=qaa h
 obtain⟨x14,h1,h⟩:=h
 refine⟨_,fun hg=>(g134_126_ok _ _ _ (qae h1 hg)),?_⟩
 conv=>whnf
 refine⟨id,?_⟩
 obtain rfl:=sj h
 conv=>whnf
 try exact fin
theorem qdy (n:Nat) (g126:zjz) (g134z126:(List Val)→(List Val)→Option (Bool)) (g126_ok:∀ (a0z a1z:Val) (r:Bool),g126 a0z a1z=some r→qac Tryz.prog 126 [PV.agg (qre.cells a0z),PV.agg (qre.cells a1z)] (ql5 r)) (g134_126_ok:∀ (x1 x2:List Val) (r:Bool),g134z126 x1 x2=some r→qac Tryz.prog 134 [PV.sl (Val.rows x1),PV.sl (Val.rows x2),PV.fn 126] (qaw r)):∀ (x1 x2:List Val) (r:Bool),qax n g126 g134z126 x1 x2=some r→qac Tryz.prog 134 [PV.sl (Val.rows x1),PV.sl (Val.rows x2),PV.fn 126] (qaw r):=by
 intro x1 x2 r h
 unfold qax at h
 refine qac.of_vcN qa2 (fun _ _=>Tryz.call134 _ _) Tryz.func134 (by kernel_rfl) (inl:=[1000000]) ?_
 conv=>whnf
 refine ifc h (fun hc h=>?_) (fun hc h=>?_)
 ·obtain rfl:=sj h
  conv=>whnf
  try exact fin
 ·conv=>whnf
  refine qb2.fn [1000000] (S:=Int) (fun x3=>[(1,pV x2),(2,.p (.fn 126)),(15,pV x1),(16,.p (.int .i64 ((Val.rows x1).length:Int))),(17,pI x3)]) (fun x3=>[]) (B:=qaq n x1 x2 g126) h (wk [] []) ?_
  intro nx1 x3 h
  unfold qaq at h
  conv=>whnf
  refine ifc h (fun hc h=>?_) (fun hc h=>?_)
  ·conv=>whnf
   replace h:=qaa h
   obtain⟨⟨x4,x5,x6,x7,x8,x9⟩,h3,h⟩:=h
   refine⟨_,Codec.at_ qre h3,?_⟩
   conv=>whnf
   replace h:=qaa h
   obtain⟨⟨x10,x11,x12,x13,x14,x15⟩,h2,h⟩:=h
   refine⟨_,Codec.at_ qre h2,?_⟩
   conv=>whnf
   replace h:=qaa h
   obtain⟨x16,h1,h⟩:=h
   refine⟨_,(g126_ok _ _ _ h1),?_⟩
   conv=>whnf
   refine ifc h (fun hc h=>?_) (fun hc h=>?_)
   ·obtain rfl:=sj h
    conv=>whnf
    try exact fin
   ·conv=>whnf
    exact⟨(IntKind.i64.wrap (x3+1)),h,wk [] []⟩
  ·obtain rfl:=sj h
   conv=>whnf
   try exact fin
mutual
def qgg:Nat→Val→Val→Option (Bool)
 | 0=>fun _ _=>none
 | n+1=>qpz n (qgg n) (qal n)
def qal:Nat→(List Val)→(List Val)→Option (Bool)
 | 0=>fun _ _=>none
 | n+1=>qax n (qgg n) (qal n)
end
theorem q1c (n:Nat):(∀ (a0z a1z:Val) (r:Bool),qgg n a0z a1z=some r→qac Tryz.prog 126 [PV.agg (qre.cells a0z),PV.agg (qre.cells a1z)] (ql5 r))∧(∀ (x1 x2:List Val) (r:Bool),qal n x1 x2=some r→qac Tryz.prog 134 [PV.sl (Val.rows x1),PV.sl (Val.rows x2),PV.fn 126] (qaw r)):=by
 induction n with
 | zero=>exact⟨(by intros; rename_i h; cases h),(by intros; rename_i h; cases h)⟩
 | succ n ih=>
  obtain⟨hg126,hg134_126⟩:=ih
  exact⟨q1q n (qgg n) (qal n) hg126 hg134_126,qdy n (qgg n) (qal n) hg126 hg134_126⟩
theorem qun (n:Nat):∀ (a0z a1z:Val) (r:Bool),qgg n a0z a1z=some r→qac Tryz.prog 126 [PV.agg (qre.cells a0z),PV.agg (qre.cells a1z)] (ql5 r):=(q1c n).1
abbrev q3u (r:Bool):PV:=PV.bool r
def qhi (n:Nat) (a0z:qab):Option (Bool):=
 match a0z with
 | ⟨x1,x2,⟨x3,x4,x5,x6,x7,x8⟩,x9,x10⟩=>
 bnd (qa4 (bif(x1==0)then(x2==([]:SS))else false) (qgg n (Val.mk x3 x4 x5 x6 x7 x8) (Val.mk (0:Int) false (0:Int) ([]:SS) ([]:List Val) ([]:List SS)))) fun x11=>
 some (bif(bif(bif(bif(x1==0)then(x2==([]:SS))else false)then x11 else false)then(((qak x9).length:Int)==0)else false)then(((qab.rows x10).length:Int)==0)else false)
theorem qt2 (n:Nat):∀ (a0z:qab) (r:Bool),qhi n a0z=some r→qac Tryz.prog 107 [PV.agg (qb9.cells a0z)] (q3u r):=by
 intro a0z r h
 obtain⟨x1,x2,⟨x3,x4,x5,x6,x7,x8⟩,x9,x10⟩:=a0z
 unfold qhi at h
 refine qac.of_vcN qa2 (fun _ _=>Tryz.call107 _ _) Tryz.func107 (by kernel_rfl) (inl:=[1000000]) ?_
 conv=>whnf
 refine⟨id,id,id,id,id,id,?_⟩
 conv=>whnf
 replace h:=qaa h
 obtain⟨x11,h1,h⟩:=h
 refine⟨_,fun hg=>(qac.leArgs (qun n _ _ _ (qae h1 hg)) (by try exact fin)),?_⟩
 conv=>whnf
 refine⟨id,id,id,id,id,id,id,id,id,?_⟩
 obtain rfl:=sj h
 conv=>whnf
 try exact fin
abbrev q2h (r:Bool):PV:=PV.bool r
def qdl (n:Nat) (a0z a1z:qad):Option (Bool):=
 match a0z,a1z with
 | ⟨x1,x2,x3,⟨x4,x5,⟨x6,x7,x8,x9,x10,x11⟩,x12,x13⟩,x14,x15,x16,x17,x18,x19,x20,x21,x22⟩,⟨x23,x24,x25,⟨x26,x27,⟨x28,x29,x30,x31,x32,x33⟩,x34,x35⟩,x36,x37,x38,x39,x40,x41,x42,x43,x44⟩=>
 bnd (qa4 ((bif(((qbq.rows x2).length:Int)==((qbq.rows x24).length:Int))then(((qab.rows x3).length:Int)==((qab.rows x25).length:Int))else false)&&(!(x26 != 0))) (qhi n (qab.mk x4 x5 (Val.mk x6 x7 x8 x9 x10 x11) x12 x13))) fun x45=>
 some (bif(bif(bif(bif(bif(bif(bif(bif(bif(bif(bif(((qbq.rows x2).length:Int)==((qbq.rows x24).length:Int))then(((qab.rows x3).length:Int)==((qab.rows x25).length:Int))else false)then(bif(x26 != 0)then true else x45)else false)then(x14==x36)else false)then(((qbz.rows x15).length:Int)==((qbz.rows x37).length:Int))else false)then(x16==x38)else false)then(((qav.rows x17).length:Int)==((qav.rows x39).length:Int))else false)then(((qab.rows x18).length:Int)==((qab.rows x40).length:Int))else false)then(((qab.rows x19).length:Int)==((qab.rows x41).length:Int))else false)then(((qag.rows x20).length:Int)==((qag.rows x42).length:Int))else false)then(((qak x21).length:Int)==((qak x43).length:Int))else false)then(x22==x44)else false)
set_option maxHeartbeats 4000000 in
theorem qe2 (n:Nat):∀ (a0z a1z:qad) (r:Bool),qdl n a0z a1z=some r→qac Tryz.prog 80 [PV.agg (qdd.cells a0z),PV.agg (qdd.cells a1z)] (q2h r):=by
 intro a0z a1z r h
 obtain⟨x1,x2,x3,⟨x4,x5,⟨x6,x7,x8,x9,x10,x11⟩,x12,x13⟩,x14,x15,x16,x17,x18,x19,x20,x21,x22⟩:=a0z
 obtain⟨x23,x24,x25,⟨x26,x27,⟨x28,x29,x30,x31,x32,x33⟩,x34,x35⟩,x36,x37,x38,x39,x40,x41,x42,x43,x44⟩:=a1z
 unfold qdl at h
 refine qac.of_vcN qa2 (fun _ _=>Tryz.call80 _ _) Tryz.func80 (by kernel_rfl) (inl:=[1000000]) ?_
 conv=>whnf
 refine⟨id,id,id,id,id,id,id,id,id,id,id,id,id,?_⟩
 conv=>whnf
 replace h:=qaa h
 obtain⟨x45,h1,h⟩:=h
 refine⟨_,fun hg=>(qt2 n _ _ (qae h1 hg)),?_⟩
 conv=>whnf
 refine⟨id,id,id,id,id,id,id,id,id,id,id,id,id,id,id,id,id,id,id,id,id,id,id,id,id,id,id,id,id,id,id,id,id,id,id,id,id,id,id,id,id,id,id,id,id,id,id,id,id,id,id,id,id,id,id,id,id,id,id,id,?_⟩
 obtain rfl:=sj h
 conv=>whnf
 try exact fin
abbrev q0v (r:List qa5×Bool):PV:=PV.tup [PV.sl (qa5.rows r.1),PV.bool r.2]
def qgq (n:Nat) (x1:Int) (x2:List qbq) (x3:List qab) (x4:Int) (x5:SS) (x6:Int) (x7:Bool) (x8:Int) (x9:SS) (x10:List Val) (x11 x12:List SS) (x13:List qab) (x14:SS) (x15:List qbz) (x16:Bool) (x17:List qav) (x18 x19:List qab) (x20:List qag) (x21:List SS) (x22:Bool):List qa5×List qab→Option (List qa5×Bool):=fun(x35,x36)=>
bnd (qdl n (qad.mk x1 x2 x3 (qab.mk x4 x5 (Val.mk x6 x7 x8 x9 x10 x11) x12 x13) x14 x15 x16 x17 x18 x19 x20 x21 x22) (qad.mk x1 ([]:List qbq) x36 (qab.mk (0:Int) ([]:SS) (Val.mk (0:Int) false (0:Int) ([]:SS) ([]:List Val) ([]:List SS)) ([]:List SS) ([]:List qab)) ([]:SS) x15 x16 x17 x18 x19 ([]:List qag) ([]:List SS) false)) fun x37=>
some (x35,x37)
def qhm (n:Nat) (x1:Int) (x2:List qbq) (x3:List qab) (x4:Int) (x5:SS) (x6:Int) (x7:Bool) (x8:Int) (x9:SS) (x10:List Val) (x11 x12:List SS) (x13:List qab) (x14:SS) (x15:List qbz) (x16:Bool) (x17:List qav) (x18 x19:List qab) (x20:List qag) (x21:List SS) (x22:Bool) (x30:List qbe):SS→Option (List qa5×Bool):=fun x47=>
bnd (qdl n (qad.mk x1 x2 x3 (qab.mk x4 x5 (Val.mk x6 x7 x8 x9 x10 x11) x12 x13) x14 x15 x16 x17 x18 x19 x20 x21 x22) (qad.mk x1 ([]:List qbq) ([]:List qab) (qab.mk (0:Int) ([]:SS) (Val.mk (0:Int) false (0:Int) ([]:SS) ([]:List Val) ([]:List SS)) ([]:List SS) ([]:List qab)) ([]:SS) ([]:List qbz) false ([]:List qav) ([]:List qab) ([]:List qab) x20 ([]:List SS) false)) fun x48=>
some ([qa5.mk x47 x30 (1:Int) (1048576:Int)],x48)
def qhg (n:Nat) (x1:Int) (x2:List qbq) (x3:List qab) (x4:Int) (x5:SS) (x6:Int) (x7:Bool) (x8:Int) (x9:SS) (x10:List Val) (x11 x12:List SS) (x13:List qab) (x14:SS) (x15:List qbz) (x16:Bool) (x17:List qav) (x18 x19:List qab) (x20:List qag) (x21:List SS) (x22:Bool) (x29:List qbe):SS→Option (List qa5×Bool):=fun x49=>
bnd (qdl n (qad.mk x1 x2 x3 (qab.mk x4 x5 (Val.mk x6 x7 x8 x9 x10 x11) x12 x13) x14 x15 x16 x17 x18 x19 x20 x21 x22) (qad.mk x1 ([]:List qbq) ([]:List qab) (qab.mk (0:Int) ([]:SS) (Val.mk (0:Int) false (0:Int) ([]:SS) ([]:List Val) ([]:List SS)) ([]:List SS) ([]:List qab)) ([]:SS) ([]:List qbz) false ([]:List qav) ([]:List qab) ([]:List qab) ([]:List qag) x21 x22)) fun x50=>
some ([qa5.mk x49 x29 (1:Int) (1048576:Int)],x50)
def qil (n:Nat) (x1:Int) (x2:List qbq) (x3:List qab) (x4:Int) (x5:SS) (x6:Int) (x7:Bool) (x8:Int) (x9:SS) (x10:List Val) (x11 x12:List SS) (x13:List qab) (x14:SS) (x15:List qbz) (x16:Bool) (x17:List qav) (x18 x19:List qab) (x20:List qag) (x21:List SS) (x22:Bool) (x30 x29:List qbe):Bool→Option (List qa5×Bool):=fun x46=>
bif x46 then(
bif(x1==7)then(
qhm n x1 x2 x3 x4 x5 x6 x7 x8 x9 x10 x11 x12 x13 x14 x15 x16 x17 x18 x19 x20 x21 x22 x30 ([82,69,77,79,86,69,32]:SS))
else(
qhm n x1 x2 x3 x4 x5 x6 x7 x8 x9 x10 x11 x12 x13 x14 x15 x16 x17 x18 x19 x20 x21 x22 x30 ([83,69,84,32]:SS)))
else(
bif(x1==8)then(
bif x22 then(
qhg n x1 x2 x3 x4 x5 x6 x7 x8 x9 x10 x11 x12 x13 x14 x15 x16 x17 x18 x19 x20 x21 x22 x29 ([68,69,84,65,67,72,32,68,69,76,69,84,69,32]:SS))
else(
qhg n x1 x2 x3 x4 x5 x6 x7 x8 x9 x10 x11 x12 x13 x14 x15 x16 x17 x18 x19 x20 x21 x22 x29 ([68,69,76,69,84,69,32]:SS)))
else(
bnd (qdl n (qad.mk x1 x2 x3 (qab.mk x4 x5 (Val.mk x6 x7 x8 x9 x10 x11) x12 x13) x14 x15 x16 x17 x18 x19 x20 x21 x22) (qad.mk x1 ([]:List qbq) ([]:List qab) (qab.mk (0:Int) ([]:SS) (Val.mk (0:Int) false (0:Int) ([]:SS) ([]:List Val) ([]:List SS)) ([]:List SS) ([]:List qab)) ([]:SS) ([]:List qbz) false ([]:List qav) ([]:List qab) ([]:List qab) ([]:List qag) ([]:List SS) false)) fun x51=>
some (([]:List qa5),x51)))
def qgm (n:Nat) (x31:SS) (x25 x26:List qbe) (x27 x28:List qbe) (x1:Int) (x24:List qbe) (x2:List qbq) (x3:List qab) (x4:Int) (x5:SS) (x6:Int) (x7:Bool) (x8:Int) (x9:SS) (x10:List Val) (x11 x12:List SS) (x13:List qab) (x14:SS) (x15:List qbz) (x16:Bool) (x17:List qav) (x18 x19:List qab) (x20:List qag) (x21:List SS) (x22:Bool) (x23 x30 x29:List qbe):Bool→Option (List qa5×Bool):=fun x34=>
bif x34 then(
chk (decide (((([82,69,84,85,82,78,32]:SS).length+x31.length:Nat):Int)≤q4c)) (
chk (decide ((qa5.rows ([qa5.mk (([82,69,84,85,82,78,32]:SS)++x31) x25 (1:Int) (1048576:Int)]++[qa5.mk ([32,79,82,68,69,82,32,66,89,32]:SS) x26 (0:Int) (1048576:Int),qa5.mk ([32,83,75,73,80,32]:SS) x27 (0:Int) (1:Int),qa5.mk ([32,76,73,77,73,84,32]:SS) x28 (0:Int) (1:Int)])).length * 56≤140737488355328)) (
bif(x1==3)then(
chk (decide (((([87,73,84,72,32]:SS).length+x31.length:Nat):Int)≤q4c)) (
chk (decide (0<(qa5.rows ([qa5.mk (([82,69,84,85,82,78,32]:SS)++x31) x25 (1:Int) (1048576:Int)]++[qa5.mk ([32,79,82,68,69,82,32,66,89,32]:SS) x26 (0:Int) (1048576:Int),qa5.mk ([32,83,75,73,80,32]:SS) x27 (0:Int) (1:Int),qa5.mk ([32,76,73,77,73,84,32]:SS) x28 (0:Int) (1:Int)])).length)) (
bnd (([qa5.mk (([82,69,84,85,82,78,32]:SS)++x31) x25 (1:Int) (1048576:Int)]++[qa5.mk ([32,79,82,68,69,82,32,66,89,32]:SS) x26 (0:Int) (1048576:Int),qa5.mk ([32,83,75,73,80,32]:SS) x27 (0:Int) (1:Int),qa5.mk ([32,76,73,77,73,84,32]:SS) x28 (0:Int) (1:Int)])[0]?) fun⟨x38,x39,x40,x41⟩=>
chk (decide ((qa5.rows ((([qa5.mk (([82,69,84,85,82,78,32]:SS)++x31) x25 (1:Int) (1048576:Int)]++[qa5.mk ([32,79,82,68,69,82,32,66,89,32]:SS) x26 (0:Int) (1048576:Int),qa5.mk ([32,83,75,73,80,32]:SS) x27 (0:Int) (1:Int),qa5.mk ([32,76,73,77,73,84,32]:SS) x28 (0:Int) (1:Int)]).set 0 (qa5.mk (([87,73,84,72,32]:SS)++x31) x39 x40 x41))++[qa5.mk ([32,87,72,69,82,69,32]:SS) x24 (0:Int) (1:Int)])).length * 56≤140737488355328)) (
qgq n x1 x2 x3 x4 x5 x6 x7 x8 x9 x10 x11 x12 x13 x14 x15 x16 x17 x18 x19 x20 x21 x22 (((([qa5.mk (([82,69,84,85,82,78,32]:SS)++x31) x25 (1:Int) (1048576:Int)]++[qa5.mk ([32,79,82,68,69,82,32,66,89,32]:SS) x26 (0:Int) (1048576:Int),qa5.mk ([32,83,75,73,80,32]:SS) x27 (0:Int) (1:Int),qa5.mk ([32,76,73,77,73,84,32]:SS) x28 (0:Int) (1:Int)]).set 0 (qa5.mk (([87,73,84,72,32]:SS)++x31) x39 x40 x41))++[qa5.mk ([32,87,72,69,82,69,32]:SS) x24 (0:Int) (1:Int)]),x3)))))
else(
qgq n x1 x2 x3 x4 x5 x6 x7 x8 x9 x10 x11 x12 x13 x14 x15 x16 x17 x18 x19 x20 x21 x22 (([qa5.mk (([82,69,84,85,82,78,32]:SS)++x31) x25 (1:Int) (1048576:Int)]++[qa5.mk ([32,79,82,68,69,82,32,66,89,32]:SS) x26 (0:Int) (1048576:Int),qa5.mk ([32,83,75,73,80,32]:SS) x27 (0:Int) (1:Int),qa5.mk ([32,76,73,77,73,84,32]:SS) x28 (0:Int) (1:Int)]),([]:List _))))))
else(
bif(x1==4)then(
bnd (qdl n (qad.mk x1 x2 x3 (qab.mk x4 x5 (Val.mk x6 x7 x8 x9 x10 x11) x12 x13) x14 x15 x16 x17 x18 x19 x20 x21 x22) (qad.mk x1 x2 ([]:List qab) (qab.mk (0:Int) ([]:SS) (Val.mk (0:Int) false (0:Int) ([]:SS) ([]:List Val) ([]:List SS)) ([]:List SS) ([]:List qab)) ([]:SS) ([]:List qbz) false ([]:List qav) ([]:List qab) ([]:List qab) ([]:List qag) ([]:List SS) false)) fun x42=>
some ([qa5.mk ([67,82,69,65,84,69,32]:SS) x23 (1:Int) (1048576:Int)],x42))
else(
bif(x1==5)then(
bnd (qa4 (((qbq.rows x2).length:Int)==1) (idx x2 (0:Int))) fun⟨x43,x44⟩=>
bif(bif(((qbq.rows x2).length:Int)==1)then(decide (((qah.rows x44).length:Int)>0))else false)then(
some (([]:List qa5),false))
else(
bnd (qdl n (qad.mk x1 x2 x3 (qab.mk x4 x5 (Val.mk x6 x7 x8 x9 x10 x11) x12 x13) x14 x15 x16 x17 x18 x19 x20 x21 x22) (qad.mk x1 x2 ([]:List qab) (qab.mk (0:Int) ([]:SS) (Val.mk (0:Int) false (0:Int) ([]:SS) ([]:List Val) ([]:List SS)) ([]:List SS) ([]:List qab)) ([]:SS) ([]:List qbz) false ([]:List qav) ([]:List qab) ([]:List qab) ([]:List qag) ([]:List SS) false)) fun x45=>
some ([qa5.mk ([77,69,82,71,69,32]:SS) x23 (1:Int) (1:Int)],x45)))
else(
bif(x1==6)then(
qil n x1 x2 x3 x4 x5 x6 x7 x8 x9 x10 x11 x12 x13 x14 x15 x16 x17 x18 x19 x20 x21 x22 x30 x29 (x1==6))
else(
qil n x1 x2 x3 x4 x5 x6 x7 x8 x9 x10 x11 x12 x13 x14 x15 x16 x17 x18 x19 x20 x21 x22 x30 x29 (x1==7)))))
def qgr (n:Nat) (x1:Int) (x2:List qbq) (x3:List qab) (x4:Int) (x5:SS) (x6:Int) (x7:Bool) (x8:Int) (x9:SS) (x10:List Val) (x11 x12:List SS) (x13:List qab) (x14:SS) (x15:List qbz) (x16:Bool) (x17:List qav) (x18 x19:List qab) (x20:List qag) (x21:List SS) (x22:Bool) (x23 x24:List qbe) (x25 x26:List qbe) (x27 x28:List qbe) (x30 x29:List qbe):SS→Option (List qa5×Bool):=fun x31=>
bif(x1==1)then(
bnd (qdl n (qad.mk x1 x2 x3 (qab.mk x4 x5 (Val.mk x6 x7 x8 x9 x10 x11) x12 x13) x14 x15 x16 x17 x18 x19 x20 x21 x22) (qad.mk x1 x2 x3 (qab.mk (0:Int) ([]:SS) (Val.mk (0:Int) false (0:Int) ([]:SS) ([]:List Val) ([]:List SS)) ([]:List SS) ([]:List qab)) ([]:SS) ([]:List qbz) false ([]:List qav) ([]:List qab) ([]:List qab) ([]:List qag) ([]:List SS) false)) fun x32=>
some ([qa5.mk ([77,65,84,67,72,32]:SS) x23 (1:Int) (1048576:Int),qa5.mk ([32,87,72,69,82,69,32]:SS) x24 (0:Int) (1:Int)],x32))
else(
bif(x1==2)then(
bnd (qdl n (qad.mk x1 x2 x3 (qab.mk x4 x5 (Val.mk x6 x7 x8 x9 x10 x11) x12 x13) x14 x15 x16 x17 x18 x19 x20 x21 x22) (qad.mk x1 ([]:List qbq) ([]:List qab) (qab.mk x4 x5 (Val.mk x6 x7 x8 x9 x10 x11) x12 x13) x14 ([]:List qbz) false ([]:List qav) ([]:List qab) ([]:List qab) ([]:List qag) ([]:List SS) false)) fun x33=>
some ([qa5.mk ([85,78,87,73,78,68,32]:SS) [(qbe.expr (qab.mk x4 x5 (Val.mk x6 x7 x8 x9 x10 x11) x12 x13))] (1:Int) (1:Int),qa5.mk ([32,65,83,32]:SS) [(qbe.name x14)] (1:Int) (1:Int)],x33))
else(
bif(x1==3)then(
qgm n x31 x25 x26 x27 x28 x1 x24 x2 x3 x4 x5 x6 x7 x8 x9 x10 x11 x12 x13 x14 x15 x16 x17 x18 x19 x20 x21 x22 x23 x30 x29 (x1==3))
else(
qgm n x31 x25 x26 x27 x28 x1 x24 x2 x3 x4 x5 x6 x7 x8 x9 x10 x11 x12 x13 x14 x15 x16 x17 x18 x19 x20 x21 x22 x23 x30 x29 (x1==9))))
def qjx (n:Nat) (a0z:qad):Option (List qa5×Bool):=
 match a0z with
 | ⟨x1,x2,x3,⟨x4,x5,⟨x6,x7,x8,x9,x10,x11⟩,x12,x13⟩,x14,x15,x16,x17,x18,x19,x20,x21,x22⟩=>
 bnd (qc3 n x2) fun x23=>
 bnd (qc8 n x3) fun x24=>
 bnd (qc4 n x15) fun x25=>
 bnd (qc2 n x17) fun x26=>
 bnd (qc5 n x18) fun x27=>
 bnd (qc7 n x19) fun x28=>
 bnd (qdf n x21) fun x29=>
 bnd (qcs n x20 x1 x2 x3 x4 x5 x6 x7 x8 x9 x10 x11 x12 x13 x14 x15 x16 x17 x18 x19 x20 x21 x22) fun x30=>
 bif x16 then(
 qgr n x1 x2 x3 x4 x5 x6 x7 x8 x9 x10 x11 x12 x13 x14 x15 x16 x17 x18 x19 x20 x21 x22 x23 x24 x25 x26 x27 x28 x30 x29 ([68,73,83,84,73,78,67,84,32]:SS))
 else(
 qgr n x1 x2 x3 x4 x5 x6 x7 x8 x9 x10 x11 x12 x13 x14 x15 x16 x17 x18 x19 x20 x21 x22 x23 x24 x25 x26 x27 x28 x30 x29 ([]:SS))
set_option maxHeartbeats 4000000 in
theorem qzk (n:Nat):∀ (a0z:qad) (r:List qa5×Bool),qjx n a0z=some r→qac Tryz.prog 35 [PV.agg (qdd.cells a0z)] (q0v r):=by
 intro a0z r h
 obtain⟨x1,x2,x3,⟨x4,x5,⟨x6,x7,x8,x9,x10,x11⟩,x12,x13⟩,x14,x15,x16,x17,x18,x19,x20,x21,x22⟩:=a0z
 unfold qjx at h
 refine qac.of_vcN qa2 (fun _ _=>Tryz.call35 _ _) Tryz.func35 (by kernel_rfl) (inl:=[78,10000092,40000015,40000017,40000024,40000025,40000043,50000064,50000083,50000120,50000121,50000122,50000123,50000179,60003002,60007006,1000000]) ?_
 conv=>whnf
 replace h:=qaa h
 obtain⟨x23,h23,h⟩:=h
 refine⟨_,(qkl n _ _ h23),?_⟩
 conv=>whnf
 replace h:=qaa h
 obtain⟨x24,h22,h⟩:=h
 refine⟨_,(qky n _ _ h22),?_⟩
 conv=>whnf
 replace h:=qaa h
 obtain⟨x25,h21,h⟩:=h
 refine⟨_,(qke n _ _ h21),?_⟩
 conv=>whnf
 replace h:=qaa h
 obtain⟨x26,h20,h⟩:=h
 refine⟨_,(qkf n _ _ h20),?_⟩
 conv=>whnf
 replace h:=qaa h
 obtain⟨x27,h19,h⟩:=h
 refine⟨_,(qkw n _ _ h19),?_⟩
 conv=>whnf
 replace h:=qaa h
 obtain⟨x28,h18,h⟩:=h
 refine⟨_,(qku n _ _ h18),?_⟩
 conv=>whnf
 refine⟨Codec.one qpq [qa5.mk ([32,79,82,68,69,82,32,66,89,32]:SS) x26 (0:Int) (1048576:Int),qa5.mk ([32,83,75,73,80,32]:SS) x27 (0:Int) (1:Int),qa5.mk ([32,76,73,77,73,84,32]:SS) x28 (0:Int) (1:Int)],qa5.rows [qa5.mk ([32,79,82,68,69,82,32,66,89,32]:SS) x26 (0:Int) (1048576:Int),qa5.mk ([32,83,75,73,80,32]:SS) x27 (0:Int) (1:Int),qa5.mk ([32,76,73,77,73,84,32]:SS) x28 (0:Int) (1:Int)],.inl rfl,?_⟩
 conv=>whnf
 replace h:=qaa h
 obtain⟨x29,h17,h⟩:=h
 refine⟨_,(qlx n _ _ h17),?_⟩
 conv=>whnf
 replace h:=qaa h
 obtain⟨x30,h1,h⟩:=h
 refine qb8 (qjd n _ _ _ _ _ _ _ _ _ _ _ _ _ _ _ _ _ _ _ _ _ _ _ _ h1) [0] [] ?_
 rintro _ _ ⟨rfl,rfl⟩
 refine⟨.p (.sl (qbe.rows x30)),[.box 55 [pI x1,pP x2,pE x3,pI x4,pS x5,pI x6,pB x7,pI x8,pS x9,pV x10,pT x11,pT x12,pE x13,pS x14,pA x15,pB x16,pO x17,pE x18,pE x19,pU x20,pT x21,pB x22],.box 101 [.p (.str ([]:SS)),.p (.sl (qbe.rows x23)),.p (.int .i64 (1:Int)),.p (.int .i64 (1048576:Int))],.box 101 [.p (.str ([32,87,72,69,82,69,32]:SS)),.p (.sl (qbe.rows x24)),.p (.int .i64 (0:Int)),.p (.int .i64 (1:Int))],.box 101 [.p (.str ([]:SS)),.p (.sl (qbe.rows x25)),.p (.int .i64 (1:Int)),.p (.int .i64 (1048576:Int))],.box 101 [.p (.str ([68,69,76,69,84,69,32]:SS)),.p (.sl (qbe.rows x29)),.p (.int .i64 (1:Int)),.p (.int .i64 (1048576:Int))]],rfl,rfl,?_⟩
 conv=>whnf
 refine qh6.cut (S:=SS) (fun x31=>[(1,.ptr 0 0),(4,.ptr 1 0),(5,.ptr 2 0),(6,.ptr 3 0),(7,.p (.sl (qa5.rows [qa5.mk ([32,79,82,68,69,82,32,66,89,32]:SS) x26 (0:Int) (1048576:Int),qa5.mk ([32,83,75,73,80,32]:SS) x27 (0:Int) (1:Int),qa5.mk ([32,76,73,77,73,84,32]:SS) x28 (0:Int) (1:Int)]))),(8,.ptr 4 0),(9,.ptr 5 0),(10,pS x31)]) (fun x31=>[.box 55 [pI x1,pP x2,pE x3,pI x4,pS x5,pI x6,pB x7,pI x8,pS x9,pV x10,pT x11,pT x12,pE x13,pS x14,pA x15,pB x16,pO x17,pE x18,pE x19,pU x20,pT x21,pB x22],.box 101 [.p (.str ([]:SS)),.p (.sl (qbe.rows x23)),.p (.int .i64 (1:Int)),.p (.int .i64 (1048576:Int))],.box 101 [.p (.str ([32,87,72,69,82,69,32]:SS)),.p (.sl (qbe.rows x24)),.p (.int .i64 (0:Int)),.p (.int .i64 (1:Int))],.box 101 [.p (.str ([]:SS)),.p (.sl (qbe.rows x25)),.p (.int .i64 (1:Int)),.p (.int .i64 (1048576:Int))],.box 101 [.p (.str ([68,69,76,69,84,69,32]:SS)),.p (.sl (qbe.rows x29)),.p (.int .i64 (1:Int)),.p (.int .i64 (1048576:Int))],.box 101 [.p (.str ([]:SS)),.p (.sl (qbe.rows x30)),.p (.int .i64 (1:Int)),.p (.int .i64 (1048576:Int))]]) (qgr n x1 x2 x3 x4 x5 x6 x7 x8 x9 x10 x11 x12 x13 x14 x15 x16 x17 x18 x19 x20 x21 x22 x23 x24 x25 x26 x27 x28 x30 x29) (r:=r) ?_ ?_
 ·intro x31 h
  unfold qgr at h
  conv=>whnf
  refine qh6.go ?_
  conv=>whnf
  refine ifc h (fun hc h=>?_) (fun hc h=>?_)
  ·conv=>whnf
   refine⟨Codec.one qpq [qa5.mk ([77,65,84,67,72,32]:SS) x23 (1:Int) (1048576:Int),qa5.mk ([32,87,72,69,82,69,32]:SS) x24 (0:Int) (1:Int)],qa5.rows [qa5.mk ([77,65,84,67,72,32]:SS) x23 (1:Int) (1048576:Int),qa5.mk ([32,87,72,69,82,69,32]:SS) x24 (0:Int) (1:Int)],.inl rfl,?_⟩
   conv=>whnf
   replace h:=qaa h
   obtain⟨x32,h2,h⟩:=h
   refine⟨_,(qac.leArgs (qe2 n _ _ _ h2) (by try exact fin)),?_⟩
   obtain rfl:=sj h
   conv=>whnf
   try exact fin
  ·conv=>whnf
   refine ifc h (fun hc h=>?_) (fun hc h=>?_)
   ·conv=>whnf
    refine⟨Codec.one qoh [(qbe.expr (qab.mk x4 x5 (Val.mk x6 x7 x8 x9 x10 x11) x12 x13))],qbe.rows [(qbe.expr (qab.mk x4 x5 (Val.mk x6 x7 x8 x9 x10 x11) x12 x13))],.inl rfl,?_⟩
    conv=>whnf
    refine⟨Codec.one qoh [(qbe.name x14)],qbe.rows [(qbe.name x14)],.inl rfl,?_⟩
    conv=>whnf
    refine⟨Codec.one qpq [qa5.mk ([85,78,87,73,78,68,32]:SS) [(qbe.expr (qab.mk x4 x5 (Val.mk x6 x7 x8 x9 x10 x11) x12 x13))] (1:Int) (1:Int),qa5.mk ([32,65,83,32]:SS) [(qbe.name x14)] (1:Int) (1:Int)],qa5.rows [qa5.mk ([85,78,87,73,78,68,32]:SS) [(qbe.expr (qab.mk x4 x5 (Val.mk x6 x7 x8 x9 x10 x11) x12 x13))] (1:Int) (1:Int),qa5.mk ([32,65,83,32]:SS) [(qbe.name x14)] (1:Int) (1:Int)],.inl rfl,?_⟩
    conv=>whnf
    replace h:=qaa h
    obtain⟨x33,h3,h⟩:=h
    refine⟨_,(qac.leArgs (qe2 n _ _ _ h3) (by try exact fin)),?_⟩
    obtain rfl:=sj h
    conv=>whnf
    try exact fin
   ·conv=>whnf
    refine qh6.cut (S:=Bool) (fun x34=>[(1,.ptr 0 0),(4,.ptr 1 0),(5,.ptr 2 0),(6,.ptr 3 0),(7,.p (.sl (qa5.rows [qa5.mk ([32,79,82,68,69,82,32,66,89,32]:SS) x26 (0:Int) (1048576:Int),qa5.mk ([32,83,75,73,80,32]:SS) x27 (0:Int) (1:Int),qa5.mk ([32,76,73,77,73,84,32]:SS) x28 (0:Int) (1:Int)]))),(8,.ptr 4 0),(9,.ptr 5 0),(10,pS x31),(11,.p (.nilsl)),(12,.ptr 6 0),(53,pI x1),(85,pB x34)]) (fun x34=>[.box 55 [pI x1,pP x2,pE x3,pI x4,pS x5,pI x6,pB x7,pI x8,pS x9,pV x10,pT x11,pT x12,pE x13,pS x14,pA x15,pB x16,pO x17,pE x18,pE x19,pU x20,pT x21,pB x22],.box 101 [.p (.str ([]:SS)),.p (.sl (qbe.rows x23)),.p (.int .i64 (1:Int)),.p (.int .i64 (1048576:Int))],.box 101 [.p (.str ([32,87,72,69,82,69,32]:SS)),.p (.sl (qbe.rows x24)),.p (.int .i64 (0:Int)),.p (.int .i64 (1:Int))],.box 101 [.p (.str ([]:SS)),.p (.sl (qbe.rows x25)),.p (.int .i64 (1:Int)),.p (.int .i64 (1048576:Int))],.box 101 [.p (.str ([68,69,76,69,84,69,32]:SS)),.p (.sl (qbe.rows x29)),.p (.int .i64 (1:Int)),.p (.int .i64 (1048576:Int))],.box 101 [.p (.str ([]:SS)),.p (.sl (qbe.rows x30)),.p (.int .i64 (1:Int)),.p (.int .i64 (1048576:Int))],.box 55 [pI x1,.p (.nilsl),.p (.nilsl),.p (.int .i64 (0:Int)),.p (.str ([]:SS)),.p (.int .i64 (0:Int)),pB false,.p (.int .i64 (0:Int)),.p (.str ([]:SS)),.p (.nilsl),.p (.nilsl),.p (.nilsl),.p (.nilsl),.p (.str ([]:SS)),.p (.nilsl),pB false,.p (.nilsl),.p (.nilsl),.p (.nilsl),.p (.nilsl),.p (.nilsl),pB false]]) (qgm n x31 x25 x26 x27 x28 x1 x24 x2 x3 x4 x5 x6 x7 x8 x9 x10 x11 x12 x13 x14 x15 x16 x17 x18 x19 x20 x21 x22 x23 x30 x29) (r:=r) ?_ ?_
    ·intro x34 h
     unfold qgm at h
     conv=>whnf
     refine ifc h (fun hc h=>?_) (fun hc h=>?_)
     ·conv=>whnf
      obtain⟨h10,h⟩:=qa3 h
      refine⟨(of_decide_eq_true h10:((([82,69,84,85,82,78,32]:SS).length+x31.length:Nat):Int)≤q4c),?_⟩
      conv=>whnf
      refine⟨Codec.one qpq [qa5.mk (([82,69,84,85,82,78,32]:SS)++x31) x25 (1:Int) (1048576:Int)],qa5.rows [qa5.mk (([82,69,84,85,82,78,32]:SS)++x31) x25 (1:Int) (1048576:Int)],.inl rfl,?_⟩
      conv=>whnf
      obtain⟨h9,h⟩:=qa3 h
      refine⟨_,⟨Codec.append qpq [qa5.mk (([82,69,84,85,82,78,32]:SS)++x31) x25 (1:Int) (1048576:Int)] [qa5.mk ([32,79,82,68,69,82,32,66,89,32]:SS) x26 (0:Int) (1048576:Int),qa5.mk ([32,83,75,73,80,32]:SS) x27 (0:Int) (1:Int),qa5.mk ([32,76,73,77,73,84,32]:SS) x28 (0:Int) (1:Int)],rfl,rfl,Codec.wide qpq [qa5.mk ([32,79,82,68,69,82,32,66,89,32]:SS) x26 (0:Int) (1048576:Int),qa5.mk ([32,83,75,73,80,32]:SS) x27 (0:Int) (1:Int),qa5.mk ([32,76,73,77,73,84,32]:SS) x28 (0:Int) (1:Int)],of_decide_eq_true h9,qeb h9 (by decide)⟩,?_⟩
      conv=>whnf
      refine qh6.cut (S:=List qa5×List qab) (fun(x35,x36)=>[(1,.ptr 0 0),(11,.vsl 1 ((qa5.rows x35).length)),(12,.ptr 2 0)]) (fun(x35,x36)=>[.box 55 [pI x1,pP x2,pE x3,pI x4,pS x5,pI x6,pB x7,pI x8,pS x9,pV x10,pT x11,pT x12,pE x13,pS x14,pA x15,pB x16,pO x17,pE x18,pE x19,pU x20,pT x21,pB x22],.vec 101 4 (qa5.rows x35),.box 55 [pI x1,.p (.nilsl),pE x36,.p (.int .i64 (0:Int)),.p (.str ([]:SS)),.p (.int .i64 (0:Int)),pB false,.p (.int .i64 (0:Int)),.p (.str ([]:SS)),.p (.nilsl),.p (.nilsl),.p (.nilsl),.p (.nilsl),.p (.str ([]:SS)),.p (.nilsl),pB false,.p (.nilsl),.p (.nilsl),.p (.nilsl),.p (.nilsl),.p (.nilsl),pB false]]) (qgq n x1 x2 x3 x4 x5 x6 x7 x8 x9 x10 x11 x12 x13 x14 x15 x16 x17 x18 x19 x20 x21 x22) (r:=r) ?_ ?_
      ·intro st h
       obtain⟨x35,x36⟩:=st
       unfold qgq at h
       conv=>whnf
       replace h:=qaa h
       obtain⟨x37,h4,h⟩:=h
       refine⟨_,(qac.leArgs (qe2 n _ _ _ h4) (by try exact fin)),?_⟩
       obtain rfl:=sj h
       conv=>whnf
       try exact fin
      ·conv=>whnf
       refine ifc h (fun hc h=>?_) (fun hc h=>?_)
       ·conv=>whnf
        obtain⟨h8,h⟩:=qa3 h
        refine⟨(of_decide_eq_true h8:((([87,73,84,72,32]:SS).length+x31.length:Nat):Int)≤q4c),?_⟩
        conv=>whnf
        obtain⟨h7,h⟩:=qa3 h
        refine⟨0,⟨rfl,of_decide_eq_true h7⟩,?_⟩
        conv=>whnf
        replace h:=qaa h
        obtain⟨⟨x38,x39,x40,x41⟩,h6,h⟩:=h
        refine⟨_,⟨rfl,Codec.getN qpq h6,rfl⟩,?_⟩
        conv=>whnf
        refine⟨_,Codec.setN qpq ([qa5.mk (([82,69,84,85,82,78,32]:SS)++x31) x25 (1:Int) (1048576:Int)]++[qa5.mk ([32,79,82,68,69,82,32,66,89,32]:SS) x26 (0:Int) (1048576:Int),qa5.mk ([32,83,75,73,80,32]:SS) x27 (0:Int) (1:Int),qa5.mk ([32,76,73,77,73,84,32]:SS) x28 (0:Int) (1:Int)]) 0 (qa5.mk (([87,73,84,72,32]:SS)++x31) x39 x40 x41),?_⟩
        conv=>whnf
        refine⟨Codec.one qpq [qa5.mk ([32,87,72,69,82,69,32]:SS) x24 (0:Int) (1:Int)],qa5.rows [qa5.mk ([32,87,72,69,82,69,32]:SS) x24 (0:Int) (1:Int)],.inl rfl,?_⟩
        conv=>whnf
        obtain⟨h5,h⟩:=qa3 h
        refine⟨_,⟨Codec.append qpq (([qa5.mk (([82,69,84,85,82,78,32]:SS)++x31) x25 (1:Int) (1048576:Int)]++[qa5.mk ([32,79,82,68,69,82,32,66,89,32]:SS) x26 (0:Int) (1048576:Int),qa5.mk ([32,83,75,73,80,32]:SS) x27 (0:Int) (1:Int),qa5.mk ([32,76,73,77,73,84,32]:SS) x28 (0:Int) (1:Int)]).set 0 (qa5.mk (([87,73,84,72,32]:SS)++x31) x39 x40 x41)) [qa5.mk ([32,87,72,69,82,69,32]:SS) x24 (0:Int) (1:Int)],rfl,rfl,Codec.wide qpq [qa5.mk ([32,87,72,69,82,69,32]:SS) x24 (0:Int) (1:Int)],of_decide_eq_true h5,qeb h5 (by decide)⟩,?_⟩
        conv=>whnf
        exact⟨(((([qa5.mk (([82,69,84,85,82,78,32]:SS)++x31) x25 (1:Int) (1048576:Int)]++[qa5.mk ([32,79,82,68,69,82,32,66,89,32]:SS) x26 (0:Int) (1048576:Int),qa5.mk ([32,83,75,73,80,32]:SS) x27 (0:Int) (1:Int),qa5.mk ([32,76,73,77,73,84,32]:SS) x28 (0:Int) (1:Int)]).set 0 (qa5.mk (([87,73,84,72,32]:SS)++x31) x39 x40 x41))++[qa5.mk ([32,87,72,69,82,69,32]:SS) x24 (0:Int) (1:Int)]),x3),h,wk [0,9,6] []⟩
       ·conv=>whnf
        exact⟨(([qa5.mk (([82,69,84,85,82,78,32]:SS)++x31) x25 (1:Int) (1048576:Int)]++[qa5.mk ([32,79,82,68,69,82,32,66,89,32]:SS) x26 (0:Int) (1048576:Int),qa5.mk ([32,83,75,73,80,32]:SS) x27 (0:Int) (1:Int),qa5.mk ([32,76,73,77,73,84,32]:SS) x28 (0:Int) (1:Int)]),([]:List _)),h,wk [0,8,6] []⟩
     ·conv=>whnf
      refine ifc h (fun hc h=>?_) (fun hc h=>?_)
      ·conv=>whnf
       refine⟨Codec.one qpq [qa5.mk ([67,82,69,65,84,69,32]:SS) x23 (1:Int) (1048576:Int)],qa5.rows [qa5.mk ([67,82,69,65,84,69,32]:SS) x23 (1:Int) (1048576:Int)],.inl rfl,?_⟩
       conv=>whnf
       replace h:=qaa h
       obtain⟨x42,h11,h⟩:=h
       refine⟨_,(qac.leArgs (qe2 n _ _ _ h11) (by try exact fin)),?_⟩
       obtain rfl:=sj h
       conv=>whnf
       try exact fin
      ·conv=>whnf
       refine ifc h (fun hc h=>?_) (fun hc h=>?_)
       ·conv=>whnf
        refine⟨id,id,?_⟩
        conv=>whnf
        replace h:=qaa h
        obtain⟨⟨x43,x44⟩,h13,h⟩:=h
        refine⟨_,fun hg=>Codec.at_ qn9 (qae h13 hg),?_⟩
        conv=>whnf
        refine⟨id,id,id,id,id,?_⟩
        conv=>whnf
        refine ifc h (fun hc h=>?_) (fun hc h=>?_)
        ·obtain rfl:=sj h
         conv=>whnf
         try exact fin
        ·conv=>whnf
         refine⟨Codec.one qpq [qa5.mk ([77,69,82,71,69,32]:SS) x23 (1:Int) (1:Int)],qa5.rows [qa5.mk ([77,69,82,71,69,32]:SS) x23 (1:Int) (1:Int)],.inl rfl,?_⟩
         conv=>whnf
         replace h:=qaa h
         obtain⟨x45,h12,h⟩:=h
         refine⟨_,(qac.leArgs (qe2 n _ _ _ h12) (by try exact fin)),?_⟩
         obtain rfl:=sj h
         conv=>whnf
         try exact fin
       ·conv=>whnf
        refine qh6.cut (S:=Bool) (fun x46=>[(1,.ptr 0 0),(8,.ptr 1 0),(9,.ptr 2 0),(11,.p (.nilsl)),(12,.ptr 3 0),(53,pI x1),(155,pB x46)]) (fun x46=>[.box 55 [pI x1,pP x2,pE x3,pI x4,pS x5,pI x6,pB x7,pI x8,pS x9,pV x10,pT x11,pT x12,pE x13,pS x14,pA x15,pB x16,pO x17,pE x18,pE x19,pU x20,pT x21,pB x22],.box 101 [.p (.str ([68,69,76,69,84,69,32]:SS)),.p (.sl (qbe.rows x29)),.p (.int .i64 (1:Int)),.p (.int .i64 (1048576:Int))],.box 101 [.p (.str ([]:SS)),.p (.sl (qbe.rows x30)),.p (.int .i64 (1:Int)),.p (.int .i64 (1048576:Int))],.box 55 [pI x1,.p (.nilsl),.p (.nilsl),.p (.int .i64 (0:Int)),.p (.str ([]:SS)),.p (.int .i64 (0:Int)),pB false,.p (.int .i64 (0:Int)),.p (.str ([]:SS)),.p (.nilsl),.p (.nilsl),.p (.nilsl),.p (.nilsl),.p (.str ([]:SS)),.p (.nilsl),pB false,.p (.nilsl),.p (.nilsl),.p (.nilsl),.p (.nilsl),.p (.nilsl),pB false]]) (qil n x1 x2 x3 x4 x5 x6 x7 x8 x9 x10 x11 x12 x13 x14 x15 x16 x17 x18 x19 x20 x21 x22 x30 x29) (r:=r) ?_ ?_
        ·intro x46 h
         unfold qil at h
         conv=>whnf
         refine ifc h (fun hc h=>?_) (fun hc h=>?_)
         ·conv=>whnf
          refine qh6.cut (S:=SS) (fun x47=>[(1,.ptr 0 0),(9,.ptr 1 0),(12,.ptr 2 0)]) (fun x47=>[.box 55 [pI x1,pP x2,pE x3,pI x4,pS x5,pI x6,pB x7,pI x8,pS x9,pV x10,pT x11,pT x12,pE x13,pS x14,pA x15,pB x16,pO x17,pE x18,pE x19,pU x20,pT x21,pB x22],.box 101 [pS x47,.p (.sl (qbe.rows x30)),.p (.int .i64 (1:Int)),.p (.int .i64 (1048576:Int))],.box 55 [pI x1,.p (.nilsl),.p (.nilsl),.p (.int .i64 (0:Int)),.p (.str ([]:SS)),.p (.int .i64 (0:Int)),pB false,.p (.int .i64 (0:Int)),.p (.str ([]:SS)),.p (.nilsl),.p (.nilsl),.p (.nilsl),.p (.nilsl),.p (.str ([]:SS)),.p (.nilsl),pB false,.p (.nilsl),.p (.nilsl),.p (.nilsl),.p (.nilsl),.p (.nilsl),pB false]]) (qhm n x1 x2 x3 x4 x5 x6 x7 x8 x9 x10 x11 x12 x13 x14 x15 x16 x17 x18 x19 x20 x21 x22 x30) (r:=r) ?_ ?_
          ·intro x47 h
           unfold qhm at h
           conv=>whnf
           refine⟨Codec.one qpq [qa5.mk x47 x30 (1:Int) (1048576:Int)],qa5.rows [qa5.mk x47 x30 (1:Int) (1048576:Int)],.inl rfl,?_⟩
           conv=>whnf
           replace h:=qaa h
           obtain⟨x48,h14,h⟩:=h
           refine⟨_,(qac.leArgs (qe2 n _ _ _ h14) (by try exact fin)),?_⟩
           obtain rfl:=sj h
           conv=>whnf
           try exact fin
          ·conv=>whnf
           refine ifc h (fun hc h=>?_) (fun hc h=>?_)
           ·conv=>whnf
            exact⟨([82,69,77,79,86,69,32]:SS),h,wk [0,2,3] []⟩
           ·conv=>whnf
            exact⟨([83,69,84,32]:SS),h,wk [0,2,3] []⟩
         ·conv=>whnf
          refine ifc h (fun hc h=>?_) (fun hc h=>?_)
          ·conv=>whnf
           refine qh6.cut (S:=SS) (fun x49=>[(1,.ptr 0 0),(8,.ptr 1 0),(12,.ptr 2 0)]) (fun x49=>[.box 55 [pI x1,pP x2,pE x3,pI x4,pS x5,pI x6,pB x7,pI x8,pS x9,pV x10,pT x11,pT x12,pE x13,pS x14,pA x15,pB x16,pO x17,pE x18,pE x19,pU x20,pT x21,pB x22],.box 101 [pS x49,.p (.sl (qbe.rows x29)),.p (.int .i64 (1:Int)),.p (.int .i64 (1048576:Int))],.box 55 [pI x1,.p (.nilsl),.p (.nilsl),.p (.int .i64 (0:Int)),.p (.str ([]:SS)),.p (.int .i64 (0:Int)),pB false,.p (.int .i64 (0:Int)),.p (.str ([]:SS)),.p (.nilsl),.p (.nilsl),.p (.nilsl),.p (.nilsl),.p (.str ([]:SS)),.p (.nilsl),pB false,.p (.nilsl),.p (.nilsl),.p (.nilsl),.p (.nilsl),.p (.nilsl),pB false]]) (qhg n x1 x2 x3 x4 x5 x6 x7 x8 x9 x10 x11 x12 x13 x14 x15 x16 x17 x18 x19 x20 x21 x22 x29) (r:=r) ?_ ?_
           ·intro x49 h
            unfold qhg at h
            conv=>whnf
            refine⟨Codec.one qpq [qa5.mk x49 x29 (1:Int) (1048576:Int)],qa5.rows [qa5.mk x49 x29 (1:Int) (1048576:Int)],.inl rfl,?_⟩
            conv=>whnf
            replace h:=qaa h
            obtain⟨x50,h15,h⟩:=h
            refine⟨_,(qac.leArgs (qe2 n _ _ _ h15) (by try exact fin)),?_⟩
            obtain rfl:=sj h
            conv=>whnf
            try exact fin
           ·conv=>whnf
            refine ifc h (fun hc h=>?_) (fun hc h=>?_)
            ·conv=>whnf
             exact⟨([68,69,84,65,67,72,32,68,69,76,69,84,69,32]:SS),h,wk [0,1,3] []⟩
            ·conv=>whnf
             exact⟨([68,69,76,69,84,69,32]:SS),h,wk [0,1,3] []⟩
          ·conv=>whnf
           replace h:=qaa h
           obtain⟨x51,h16,h⟩:=h
           refine⟨_,(qac.leArgs (qe2 n _ _ _ h16) (by try exact fin)),?_⟩
           obtain rfl:=sj h
           conv=>whnf
           try exact fin
        ·conv=>whnf
         refine ifc h (fun hc h=>?_) (fun hc h=>?_)
         ·conv=>whnf
          exact⟨(x1==6),h,wk [0,4,5,6] []⟩
         ·conv=>whnf
          exact⟨(x1==7),h,wk [0,4,5,6] []⟩
    ·conv=>whnf
     refine ifc h (fun hc h=>?_) (fun hc h=>?_)
     ·conv=>whnf
      exact⟨(x1==3),h,wk [0,1,2,3,4,5,6] []⟩
     ·conv=>whnf
      exact⟨(x1==9),h,wk [0,1,2,3,4,5,6] []⟩
 ·conv=>whnf
  refine ifc h (fun hc h=>?_) (fun hc h=>?_)
  ·conv=>whnf
   exact⟨([68,73,83,84,73,78,67,84,32]:SS),h,wk [0,1,2,3,4,5] []⟩
  ·conv=>whnf
   exact⟨([]:SS),h,wk [0,1,2,3,4,5] []⟩
abbrev q6s (r:Bool):PV:=PV.bool r
def qi5 (n:Nat) (x1:SS):Option (Bool):=
 some (bif(!(x1==([]:SS)))then(decide (((x1.length:Nat):Int)≤64))else false)
theorem qj1 (n:Nat):∀ (x1:SS) (r:Bool),qi5 n x1=some r→qac Tryz.prog 165 [PV.str x1] (q6s r):=by
 intro x1 r h
 unfold qi5 at h
 refine qac.of_vcN qa2 (fun _ _=>Tryz.call165 _ _) Tryz.func165 (by kernel_rfl) (inl:=[1000000]) ?_
 conv=>whnf
 refine⟨id,id,id,?_⟩
 obtain rfl:=sj h
 conv=>whnf
 try exact fin
abbrev q64 (r:SS):PV:=PV.str r
def qjt (n:Nat) (nx1:Int×SS→Option SS) (x2:Int):SS→Option SS:=fun x4=>
nx1 ((IntKind.i64.wrap (x2+1)),x4)
def qjk (n:Nat) (x1:SS):(Int×SS→Option SS)→Int×SS→Option SS:=fun nx1 (x2,x3)=>
bif(decide (x2<((x1.length:Nat):Int)))then(
bnd (q02 x2) fun x5=>
chk (decide (x5<x3.length)) (
bnd (x3[x5]?) fun x6=>
bif(bif(decide (((x6.toNat:Nat):Int)≥97))then(decide (((x6.toNat:Nat):Int)≤122))else false)then(
bnd (q02 x2) fun x7=>
chk (decide (x7<x3.length)) (
bnd (u8I (IntKind.u8.wrap (((x6.toNat:Nat):Int) - 32))) fun x8=>
chk (decide (x7<x3.length)) (
qjt n nx1 x2 (x3.set x7 x8))))
else(
qjt n nx1 x2 x3)))
else(
some x3)
def qoe (n:Nat) (x1:SS):Option SS:=
 qas (qjk n x1) n ((0:Int),x1)
theorem q5m (n:Nat):∀ (x1 r:SS),qoe n x1=some r→qac Tryz.prog 171 [PV.str x1] (q64 r):=by
 intro x1 r h
 unfold qoe at h
 refine qac.of_vcN qa2 (fun _ _=>Tryz.call171 _ _) Tryz.func171 (by kernel_rfl) (inl:=[10000007,1000000]) ?_
 conv=>whnf
 refine qb2.fn [10000007,1000000] (S:=Int×SS) (fun(x2,x3)=>[(3,.vsl 0 x3.length),(8,.vsl 0 x3.length),(9,.p (.int .i64 ((x1.length:Nat):Int))),(10,pI x2)]) (fun(x2,x3)=>[.bv x3]) (B:=qjk n x1) h (wk [0] []) ?_
 intro nx1 st h
 obtain⟨x2,x3⟩:=st
 unfold qjk at h
 conv=>whnf
 refine ifc h (fun hc h=>?_) (fun hc h=>?_)
 ·conv=>whnf
  refine qh6.cut (S:=SS) (fun x4=>[(3,.vsl 0 x4.length),(8,.vsl 0 x4.length),(9,.p (.int .i64 ((x1.length:Nat):Int))),(10,pI x2)]) (fun x4=>[.bv x4]) (qjt n nx1 x2) (r:=r) ?_ ?_
  ·intro x4 h
   unfold qjt at h
   conv=>whnf
   exact⟨((IntKind.i64.wrap (x2+1)),x4),h,wk [0] []⟩
  ·conv=>whnf
   replace h:=qaa h
   obtain⟨x5,h7,h⟩:=h
   have hj:=qe7 h7
   conv=>whnf
   obtain⟨h6,h⟩:=qa3 h
   refine⟨x5,⟨hj,of_decide_eq_true h6⟩,?_⟩
   conv=>whnf
   replace h:=qaa h
   obtain⟨x6,h5,h⟩:=h
   refine⟨_,⟨rfl,rfl,h5⟩,?_⟩
   conv=>whnf
   refine⟨id,id,?_⟩
   conv=>whnf
   refine ifc h (fun hc h=>?_) (fun hc h=>?_)
   ·conv=>whnf
    replace h:=qaa h
    obtain⟨x7,h4,h⟩:=h
    have hj:=qe7 h4
    conv=>whnf
    obtain⟨h3,h⟩:=qa3 h
    refine⟨x7,⟨hj,of_decide_eq_true h3⟩,?_⟩
    conv=>whnf
    replace h:=qaa h
    obtain⟨x8,h2,h⟩:=h
    have hb:=q7a h2
    conv=>whnf
    obtain⟨h1,h⟩:=qa3 h
    refine⟨_,_,⟨rfl,rfl,of_decide_eq_true h1,hb,rfl⟩,?_⟩
    conv=>whnf
    exact⟨(x3.set x7 x8),h,wk [0] []⟩
   ·conv=>whnf
    exact⟨x3,h,wk [0] []⟩
 ·conv=>whnf
  refine⟨by first|rfl|simp only[List.length_set]|(simp only[List.length_set]; assumption)|assumption,?_⟩
  obtain rfl:=sj h
  conv=>whnf
  try exact fin
abbrev q7v (r:Bool):PV:=PV.bool r
def qjp (n:Nat) (x1:SS):(Nat→Option (Bool))→Nat→Option (Bool):=fun nx1 x2=>
bif(decide (x2<x1.length))then(
bif(bif(!(bif(bif(bif(decide (((qmc x1 x2:Nat):Int)≥97))then(decide (((qmc x1 x2:Nat):Int)≤122))else false)then true else(bif(decide (((qmc x1 x2:Nat):Int)≥65))then(decide (((qmc x1 x2:Nat):Int)≤90))else false))then true else(((qmc x1 x2:Nat):Int)==95)))then(bif(bif(((x2:Nat):Int)==0)then true else(decide (((qmc x1 x2:Nat):Int)<48)))then true else(decide (((qmc x1 x2:Nat):Int)>57)))else false)then(
some false)
else(
nx1 (bif(decide (x2<x1.length))then qx2 x1 x2 else x2)))
else(
some (bif(!(x1==([]:SS)))then(decide (((x1.length:Nat):Int)≤64))else false))
def qm1 (n:Nat) (x1:SS):Option (Bool):=
 qas (qjp n x1) n 0
theorem qwr (n:Nat):∀ (x1:SS) (r:Bool),qm1 n x1=some r→qac Tryz.prog 169 [PV.str x1] (q7v r):=by
 intro x1 r h
 unfold qm1 at h
 refine qac.of_vcN qa2 (fun _ _=>Tryz.call169 _ _) Tryz.func169 (by kernel_rfl) (inl:=[1000000]) ?_
 conv=>whnf
 refine qb2.fn [1000000] (S:=Nat) (fun x2=>[(0,pS x1),(7,.ptr 0 0)]) (fun x2=>[.sit x1 x2]) (B:=qjp n x1) h (wk [0] []) ?_
 intro nx1 x2 h
 unfold qjp at h
 conv=>whnf
 refine⟨(decide (x2<x1.length)),(bif(decide (x2<x1.length))then qx2 x1 x2 else x2),⟨rfl,rfl⟩,?_⟩
 conv=>whnf
 refine ifc h (fun hc h=>?_) (fun hc h=>?_)
 ·conv=>whnf
  refine⟨by assumption,?_⟩
  conv=>whnf
  refine⟨by assumption,?_⟩
  conv=>whnf
  refine⟨id,id,id,id,id,id,id,id,id,id,id,id,id,id,id,id,id,id,id,id,?_⟩
  conv=>whnf
  refine ifc h (fun hc h=>?_) (fun hc h=>?_)
  ·obtain rfl:=sj h
   conv=>whnf
   try exact fin
  ·conv=>whnf
   exact⟨(bif(decide (x2<x1.length))then qx2 x1 x2 else x2),h,wk [0] []⟩
 ·conv=>whnf
  refine⟨id,id,id,?_⟩
  obtain rfl:=sj h
  conv=>whnf
  try exact fin
abbrev zac (r:SS×Bool):PV:=PV.tup [PV.str r.1,PV.bool r.2]
def qvm (n:Nat) (x1:SS):Option (SS×Bool):=
 bnd (qoe n x1) fun x2=>
 bnd (qm1 n x1) fun x3=>
 chk (bif(!(!x3))then decide (((([32]:SS).length+x2.length:Nat):Int)≤q4c)else true) (
 chk (bif(!(!x3))then decide ((((([32]:SS)++x2).length+([32]:SS).length:Nat):Int)≤q4c)else true) (
 bnd (qa4 (!(!x3)) (qj7 n ([32,77,65,84,67,72,32,87,72,69,82,69,32,85,78,87,73,78,68,32,65,83,32,87,73,84,72,32,67,82,69,65,84,69,32,77,69,82,71,69,32,83,69,84,32,82,69,77,79,86,69,32,68,69,76,69,84,69,32,68,69,84,65,67,72,32,82,69,84,85,82,78,32,68,73,83,84,73,78,67,84,32,79,82,68,69,82,32,66,89,32,65,83,67,32,68,69,83,67,32,83,75,73,80,32,76,73,77,73,84,32,65,78,68,32,79,82,32,88,79,82,32,78,79,84,32,73,78,32,73,83,32,78,85,76,76,32,84,82,85,69,32,70,65,76,83,69,32]:SS) ((([32]:SS)++x2)++([32]:SS)))) fun x4=>
 bif(bif(!x3)then true else(!x4))then(
 some (([]:SS),false))
 else(
 some (x2,true))))
theorem q7h (n:Nat):∀ (x1:SS) (r:SS×Bool),qvm n x1=some r→qac Tryz.prog 168 [PV.str x1] (zac r):=by
 intro x1 r h
 unfold qvm at h
 refine qac.of_vcN qa2 (fun _ _=>Tryz.call168 _ _) Tryz.func168 (by kernel_rfl) (inl:=[1000000]) ?_
 conv=>whnf
 replace h:=qaa h
 obtain⟨x2,h5,h⟩:=h
 refine⟨_,(q5m n _ _ h5),?_⟩
 conv=>whnf
 replace h:=qaa h
 obtain⟨x3,h4,h⟩:=h
 refine⟨_,(qwr n _ _ h4),?_⟩
 conv=>whnf
 refine⟨id,?_⟩
 conv=>whnf
 obtain⟨h3,h⟩:=qa3 h
 refine⟨fun hg=>(of_decide_eq_true (gd h3 hg):((([32]:SS).length+x2.length:Nat):Int)≤q4c),?_⟩
 conv=>whnf
 refine⟨id,?_⟩
 conv=>whnf
 obtain⟨h2,h⟩:=qa3 h
 refine⟨fun hg=>(of_decide_eq_true (gd h2 hg):(((([32]:SS)++x2).length+([32]:SS).length:Nat):Int)≤q4c),?_⟩
 conv=>whnf
 refine⟨id,?_⟩
 conv=>whnf
 replace h:=qaa h
 obtain⟨x4,h1,h⟩:=h
 refine⟨_,fun hg=>(qus n _ _ _ (qae h1 hg)),?_⟩
 conv=>whnf
 refine⟨id,id,?_⟩
 conv=>whnf
 refine ifc h (fun hc h=>?_) (fun hc h=>?_)
 ·obtain rfl:=sj h
  conv=>whnf
  try exact fin
 ·obtain rfl:=sj h
  conv=>whnf
  try exact fin
abbrev q2d (r:Bool):PV:=PV.bool r
def qet (n:Nat) (x1:SS):Option (Bool):=
 bnd (qvm n x1) fun⟨x2,x3⟩=>
 bnd (qm1 n x1) fun x4=>
 some (bif x4 then(!x3)else false)
theorem qf4 (n:Nat):∀ (x1:SS) (r:Bool),qet n x1=some r→qac Tryz.prog 166 [PV.str x1] (q2d r):=by
 intro x1 r h
 unfold qet at h
 refine qac.of_vcN qa2 (fun _ _=>Tryz.call166 _ _) Tryz.func166 (by kernel_rfl) (inl:=[1000000]) ?_
 conv=>whnf
 replace h:=qaa h
 obtain⟨⟨x2,x3⟩,h2,h⟩:=h
 refine⟨_,(q7h n _ _ h2),?_⟩
 conv=>whnf
 replace h:=qaa h
 obtain⟨x4,h1,h⟩:=h
 refine⟨_,(qwr n _ _ h1),?_⟩
 conv=>whnf
 refine⟨id,id,?_⟩
 obtain rfl:=sj h
 conv=>whnf
 try exact fin
abbrev q45 (r:Bool):PV:=PV.bool r
def qnd (n:Nat) (a0z:Val):Option (Bool):=
 match a0z with
 | ⟨x1,x2,x3,x4,x5,x6⟩=>
 some (bif(bif(bif(bif(bif(x1==1)then true else(!x2))then(bif(bif(x1==2)then true else(decide (x1≥6)))then true else(x3==0))else false)then(bif(x1==3)then true else(x4==([]:SS)))else false)then(bif(bif(x1==4)then true else(x1==5))then true else(((Val.rows x5).length:Int)==0))else false)then(bif(x1==5)then true else(((qak x6).length:Int)==0))else false)
theorem q2n (n:Nat):∀ (a0z:Val) (r:Bool),qnd n a0z=some r→qac Tryz.prog 187 [PV.agg (qre.cells a0z)] (q45 r):=by
 intro a0z r h
 obtain⟨x1,x2,x3,x4,x5,x6⟩:=a0z
 unfold qnd at h
 refine qac.of_vcN qa2 (fun _ _=>Tryz.call187 _ _) Tryz.func187 (by kernel_rfl) (inl:=[1000000]) ?_
 conv=>whnf
 refine⟨id,id,id,id,id,id,id,id,id,id,id,id,id,id,id,id,id,id,id,id,id,id,id,id,id,id,id,id,id,id,id,id,id,id,id,id,id,id,id,id,id,id,id,id,id,id,id,?_⟩
 obtain rfl:=sj h
 conv=>whnf
 try exact fin
abbrev q4p (r:Bool):PV:=PV.bool r
def qg0 (n:Nat) (x1:List SS):(Int→Option (Bool))→Int→Option (Bool):=fun nx1 x2=>
bif(decide (x2<((qak x1).length:Int)))then(
bnd (idx x1 x2) fun x3=>
bnd (qa4 ((!(bif(x3==([]:SS))then true else(decide (((x3.length:Nat):Int)>64))))&&(decide (x2>0))) (idx x1 (IntKind.i64.wrap (x2 - 1)))) fun x4=>
bif(bif(bif(x3==([]:SS))then true else(decide (((x3.length:Nat):Int)>64)))then true else(bif(decide (x2>0))then(!(Op.bytesLess x4 x3))else false))then(
some false)
else(
nx1 (IntKind.i64.wrap (x2+1))))
else(
some true)
def qrc (n:Nat) (x1:List SS):Option (Bool):=
 qas (qg0 n x1) n (0:Int)
theorem q2j (n:Nat):∀ (x1:List SS) (r:Bool),qrc n x1=some r→qac Tryz.prog 188 [PV.sl (qak x1)] (q4p r):=by
 intro x1 r h
 unfold qrc at h
 refine qac.of_vcN qa2 (fun _ _=>Tryz.call188 _ _) Tryz.func188 (by kernel_rfl) (inl:=[1000000]) ?_
 conv=>whnf
 refine qb2.fn [1000000] (S:=Int) (fun x2=>[(0,pT x1),(5,pT x1),(6,.p (.int .i64 ((qak x1).length:Int))),(7,pI x2)]) (fun x2=>[]) (B:=qg0 n x1) h (wk [] []) ?_
 intro nx1 x2 h
 unfold qg0 at h
 conv=>whnf
 refine ifc h (fun hc h=>?_) (fun hc h=>?_)
 ·conv=>whnf
  replace h:=qaa h
  obtain⟨x3,h2,h⟩:=h
  refine⟨_,Codec.at_ qpc h2,?_⟩
  conv=>whnf
  refine⟨id,id,id,id,id,id,id,id,?_⟩
  conv=>whnf
  replace h:=qaa h
  obtain⟨x4,h1,h⟩:=h
  refine⟨_,fun hg=>Codec.at_ qpc (qae h1 hg),?_⟩
  conv=>whnf
  refine⟨id,id,id,id,id,id,?_⟩
  conv=>whnf
  refine ifc h (fun hc h=>?_) (fun hc h=>?_)
  ·obtain rfl:=sj h
   conv=>whnf
   try exact fin
  ·conv=>whnf
   exact⟨(IntKind.i64.wrap (x2+1)),h,wk [] []⟩
 ·obtain rfl:=sj h
  conv=>whnf
  try exact fin
abbrev qow (r:Int×Bool):PV:=PV.tup [PV.int .i64 r.1,PV.bool r.2]
def qfm (n:Nat) (x5:List Val) (g184:Val→Int→Int→Option (Int×Bool)) (x7:Int):(Int×Bool×Int→Option (Int×Bool))→Int×Bool×Int→Option (Int×Bool):=fun nx1 (x11,x12,x13)=>
bif(bif(decide (x13<((Val.rows x5).length:Int)))then x12 else false)then(
bnd (idx x5 x13) fun⟨x14,x15,x16,x17,x18,x19⟩=>
bnd (g184 (Val.mk x14 x15 x16 x17 x18 x19) (IntKind.i64.wrap (x7 - 1)) x11) fun⟨x20,x21⟩=>
nx1 (x20,x21,(IntKind.i64.wrap (x13+1))))
else(
some (x11,x12))
def qp1 (n:Nat) (g184:Val→Int→Int→Option (Int×Bool)) (a0z:Val) (x7 x8:Int):Option (Int×Bool):=
 match a0z with
 | ⟨x1,x2,x3,x4,x5,x6⟩=>
 bnd (qa4 (!(bif(bif(bif(decide (x7<1))then true else(decide ((IntKind.i64.wrap (x8+1))>4096)))then true else(decide (x1<0)))then true else(decide (x1>7)))) (qnd n (Val.mk x1 x2 x3 x4 x5 x6))) fun x9=>
 bnd (qa4 (((!(bif(bif(bif(bif(bif(decide (x7<1))then true else(decide ((IntKind.i64.wrap (x8+1))>4096)))then true else(decide (x1<0)))then true else(decide (x1>7)))then true else(!x9))then true else(bif(decide (x1≥6))then(decide (x3<1))else false)))&&(x1==5))&&(!(((qak x6).length:Int) != ((Val.rows x5).length:Int)))) (qrc n x6)) fun x10=>
 bif(bif(bif(bif(bif(bif(bif(decide (x7<1))then true else(decide ((IntKind.i64.wrap (x8+1))>4096)))then true else(decide (x1<0)))then true else(decide (x1>7)))then true else(!x9))then true else(bif(decide (x1≥6))then(decide (x3<1))else false))then true else(bif(x1==5)then(bif(((qak x6).length:Int) != ((Val.rows x5).length:Int))then true else(!x10))else false))then(
 some ((IntKind.i64.wrap (x8+1)),false))
 else(
 qas (qfm n x5 g184 x7) n ((IntKind.i64.wrap (x8+1)),true,(0:Int)))
theorem q09 (n:Nat) (g184:Val→Int→Int→Option (Int×Bool)) (g184_ok:∀ (a0z:Val) (x7 x8:Int) (r:Int×Bool),g184 a0z x7 x8=some r→qac Tryz.prog 184 [PV.agg (qre.cells a0z),PV.int .i64 x7,PV.int .i64 x8] (qow r)):∀ (a0z:Val) (x7 x8:Int) (r:Int×Bool),qp1 n g184 a0z x7 x8=some r→qac Tryz.prog 184 [PV.agg (qre.cells a0z),PV.int .i64 x7,PV.int .i64 x8] (qow r):=by
 intro a0z x7 x8 r h
 obtain⟨x1,x2,x3,x4,x5,x6⟩:=a0z
 unfold qp1 at h
 refine qac.of_vcN qa2 (fun _ _=>Tryz.call184 _ _) Tryz.func184 (by kernel_rfl) (inl:=[1000000]) ?_
 conv=>whnf
 refine⟨id,id,id,id,id,id,id,id,id,?_⟩
 conv=>whnf
 replace h:=qaa h
 obtain⟨x9,h4,h⟩:=h
 refine⟨_,fun hg=>(q2n n _ _ (qae h4 hg)),?_⟩
 conv=>whnf
 refine⟨id,id,id,id,id,id,id,id,id,id,id,id,id,id,id,id,id,id,id,id,id,id,?_⟩
 conv=>whnf
 replace h:=qaa h
 obtain⟨x10,h3,h⟩:=h
 refine⟨_,fun hg=>(q2j n _ _ (qae h3 hg)),?_⟩
 conv=>whnf
 refine⟨id,id,id,id,id,id,?_⟩
 conv=>whnf
 refine ifc h (fun hc h=>?_) (fun hc h=>?_)
 ·obtain rfl:=sj h
  conv=>whnf
  try exact fin
 ·conv=>whnf
  refine qb2.fn [1000000] (S:=Int×Bool×Int) (fun(x11,x12,x13)=>[(1,pI x7),(2,pI x11),(3,.ptr 0 0),(8,pB x12),(9,pI x13)]) (fun(x11,x12,x13)=>[.box 44 [pI x1,pB x2,pI x3,pS x4,pV x5,pT x6]]) (B:=qfm n x5 g184 x7) h (wk [0] []) ?_
  intro nx1 st h
  obtain⟨x11,x12,x13⟩:=st
  unfold qfm at h
  conv=>whnf
  refine⟨id,?_⟩
  conv=>whnf
  refine ifc h (fun hc h=>?_) (fun hc h=>?_)
  ·conv=>whnf
   replace h:=qaa h
   obtain⟨⟨x14,x15,x16,x17,x18,x19⟩,h2,h⟩:=h
   refine⟨_,Codec.at_ qre h2,?_⟩
   conv=>whnf
   replace h:=qaa h
   obtain⟨⟨x20,x21⟩,h1,h⟩:=h
   refine⟨_,(g184_ok _ _ _ _ h1),?_⟩
   conv=>whnf
   exact⟨(x20,x21,(IntKind.i64.wrap (x13+1))),h,wk [0] []⟩
  ·obtain rfl:=sj h
   conv=>whnf
   try exact fin
def qhq:Nat→Val→Int→Int→Option (Int×Bool)
 | 0=>fun _ _ _=>none
 | n+1=>qp1 n (qhq n)
theorem q1i (n:Nat):(∀ (a0z:Val) (x7 x8:Int) (r:Int×Bool),qhq n a0z x7 x8=some r→qac Tryz.prog 184 [PV.agg (qre.cells a0z),PV.int .i64 x7,PV.int .i64 x8] (qow r)):=by
 induction n with
 | zero=>exact(by intros; rename_i h; cases h)
 | succ n ih=>
  have hg184:=ih
  exact q09 n (qhq n) hg184
theorem q27 (n:Nat):∀ (a0z:Val) (x7 x8:Int) (r:Int×Bool),qhq n a0z x7 x8=some r→qac Tryz.prog 184 [PV.agg (qre.cells a0z),PV.int .i64 x7,PV.int .i64 x8] (qow r):=(q1i n)
abbrev q3g (r:Int):PV:=PV.int .i64 r
def qn4 (n:Nat) (a0z:Val):Option (Int):=
 match a0z with
 | ⟨x1,x2,x3,x4,x5,x6⟩=>
 bnd (qhq n (Val.mk x1 x2 x3 x4 x5 x6) (32:Int) (0:Int)) fun⟨x7,x8⟩=>
 bif(!x8)then(
 some (20:Int))
 else(
 some (0:Int))
theorem q03 (n:Nat):∀ (a0z:Val) (r:Int),qn4 n a0z=some r→qac Tryz.prog 179 [PV.agg (qre.cells a0z)] (q3g r):=by
 intro a0z r h
 obtain⟨x1,x2,x3,x4,x5,x6⟩:=a0z
 unfold qn4 at h
 refine qac.of_vcN qa2 (fun _ _=>Tryz.call179 _ _) Tryz.func179 (by kernel_rfl) (inl:=[1000000]) ?_
 conv=>whnf
 replace h:=qaa h
 obtain⟨⟨x7,x8⟩,h1,h⟩:=h
 refine⟨_,(q27 n _ _ _ _ h1),?_⟩
 conv=>whnf
 refine ifc h (fun hc h=>?_) (fun hc h=>?_)
 ·obtain rfl:=sj h
  conv=>whnf
  try exact fin
 ·obtain rfl:=sj h
  conv=>whnf
  try exact fin
abbrev qz9 (r:Bool):PV:=PV.bool r
def qkd (n:Nat) (a0z:Val):Option (Bool):=
 match a0z with
 | ⟨x1,x2,x3,x4,x5,x6⟩=>
 bnd (qn4 n (Val.mk x1 x2 x3 x4 x5 x6)) fun x7=>
 some (bif(x7==0)then(bif(bif(decide (x1≤1))then true else(bif(x1==2)then(decide (x3≥0))else false))then true else(x1==3))else false)
theorem qy5 (n:Nat):∀ (a0z:Val) (r:Bool),qkd n a0z=some r→qac Tryz.prog 175 [PV.agg (qre.cells a0z)] (qz9 r):=by
 intro a0z r h
 obtain⟨x1,x2,x3,x4,x5,x6⟩:=a0z
 unfold qkd at h
 refine qac.of_vcN qa2 (fun _ _=>Tryz.call175 _ _) Tryz.func175 (by kernel_rfl) (inl:=[1000000]) ?_
 conv=>whnf
 replace h:=qaa h
 obtain⟨x7,h1,h⟩:=h
 refine⟨_,(q03 n _ _ h1),?_⟩
 conv=>whnf
 refine⟨id,id,id,id,id,id,id,id,id,id,id,id,id,id,id,id,id,id,?_⟩
 obtain rfl:=sj h
 conv=>whnf
 try exact fin
abbrev q22 (r:Int):PV:=PV.int .i64 r
def qk6 (n:Nat) (x1:SS):Option (Int):=
 some (qdm (qcg ([37]:SS) (7:Int) (qcg ([47]:SS) (7:Int) (qcg ([42]:SS) (7:Int) (qcg ([45]:SS) (6:Int) (qcg ([43]:SS) (6:Int) (qcg ([73,78]:SS) (5:Int) (qcg ([62,61]:SS) (5:Int) (qcg ([62]:SS) (5:Int) (qcg ([60,61]:SS) (5:Int) (qcg ([60]:SS) (5:Int) (qcg ([60,62]:SS) (5:Int) (qcg ([61]:SS) (5:Int) (qcg ([65,78,68]:SS) (3:Int) (qcg ([88,79,82]:SS) (2:Int) (qcg ([79,82]:SS) (1:Int) ([]:List (SS×Int))))))))))))))))) x1 (0:Int))
theorem q1r (n:Nat):∀ (x1:SS) (r:Int),qk6 n x1=some r→qac Tryz.prog 176 [PV.str x1] (q22 r):=by
 intro x1 r h
 unfold qk6 at h
 refine qac.of_vcN qa2 (fun _ _=>Tryz.call176 _ _) Tryz.func176 (by kernel_rfl) (inl:=[1000000]) ?_
 conv=>whnf
 refine⟨_,qg1 qd1 (PV.int .i64) ([79,82]:SS) (1:Int) ([]:List (SS×Int)),?_⟩
 conv=>whnf
 refine⟨_,qg1 qd1 (PV.int .i64) ([88,79,82]:SS) (2:Int) (qcg ([79,82]:SS) (1:Int) ([]:List (SS×Int))),?_⟩
 conv=>whnf
 refine⟨_,qg1 qd1 (PV.int .i64) ([65,78,68]:SS) (3:Int) (qcg ([88,79,82]:SS) (2:Int) (qcg ([79,82]:SS) (1:Int) ([]:List (SS×Int)))),?_⟩
 conv=>whnf
 refine⟨_,qg1 qd1 (PV.int .i64) ([61]:SS) (5:Int) (qcg ([65,78,68]:SS) (3:Int) (qcg ([88,79,82]:SS) (2:Int) (qcg ([79,82]:SS) (1:Int) ([]:List (SS×Int))))),?_⟩
 conv=>whnf
 refine⟨_,qg1 qd1 (PV.int .i64) ([60,62]:SS) (5:Int) (qcg ([61]:SS) (5:Int) (qcg ([65,78,68]:SS) (3:Int) (qcg ([88,79,82]:SS) (2:Int) (qcg ([79,82]:SS) (1:Int) ([]:List (SS×Int)))))),?_⟩
 conv=>whnf
 refine⟨_,qg1 qd1 (PV.int .i64) ([60]:SS) (5:Int) (qcg ([60,62]:SS) (5:Int) (qcg ([61]:SS) (5:Int) (qcg ([65,78,68]:SS) (3:Int) (qcg ([88,79,82]:SS) (2:Int) (qcg ([79,82]:SS) (1:Int) ([]:List (SS×Int))))))),?_⟩
 conv=>whnf
 refine⟨_,qg1 qd1 (PV.int .i64) ([60,61]:SS) (5:Int) (qcg ([60]:SS) (5:Int) (qcg ([60,62]:SS) (5:Int) (qcg ([61]:SS) (5:Int) (qcg ([65,78,68]:SS) (3:Int) (qcg ([88,79,82]:SS) (2:Int) (qcg ([79,82]:SS) (1:Int) ([]:List (SS×Int)))))))),?_⟩
 conv=>whnf
 refine⟨_,qg1 qd1 (PV.int .i64) ([62]:SS) (5:Int) (qcg ([60,61]:SS) (5:Int) (qcg ([60]:SS) (5:Int) (qcg ([60,62]:SS) (5:Int) (qcg ([61]:SS) (5:Int) (qcg ([65,78,68]:SS) (3:Int) (qcg ([88,79,82]:SS) (2:Int) (qcg ([79,82]:SS) (1:Int) ([]:List (SS×Int))))))))),?_⟩
 conv=>whnf
 refine⟨_,qg1 qd1 (PV.int .i64) ([62,61]:SS) (5:Int) (qcg ([62]:SS) (5:Int) (qcg ([60,61]:SS) (5:Int) (qcg ([60]:SS) (5:Int) (qcg ([60,62]:SS) (5:Int) (qcg ([61]:SS) (5:Int) (qcg ([65,78,68]:SS) (3:Int) (qcg ([88,79,82]:SS) (2:Int) (qcg ([79,82]:SS) (1:Int) ([]:List (SS×Int)))))))))),?_⟩
 conv=>whnf
 refine⟨_,qg1 qd1 (PV.int .i64) ([73,78]:SS) (5:Int) (qcg ([62,61]:SS) (5:Int) (qcg ([62]:SS) (5:Int) (qcg ([60,61]:SS) (5:Int) (qcg ([60]:SS) (5:Int) (qcg ([60,62]:SS) (5:Int) (qcg ([61]:SS) (5:Int) (qcg ([65,78,68]:SS) (3:Int) (qcg ([88,79,82]:SS) (2:Int) (qcg ([79,82]:SS) (1:Int) ([]:List (SS×Int))))))))))),?_⟩
 conv=>whnf
 refine⟨_,qg1 qd1 (PV.int .i64) ([43]:SS) (6:Int) (qcg ([73,78]:SS) (5:Int) (qcg ([62,61]:SS) (5:Int) (qcg ([62]:SS) (5:Int) (qcg ([60,61]:SS) (5:Int) (qcg ([60]:SS) (5:Int) (qcg ([60,62]:SS) (5:Int) (qcg ([61]:SS) (5:Int) (qcg ([65,78,68]:SS) (3:Int) (qcg ([88,79,82]:SS) (2:Int) (qcg ([79,82]:SS) (1:Int) ([]:List (SS×Int)))))))))))),?_⟩
 conv=>whnf
 refine⟨_,qg1 qd1 (PV.int .i64) ([45]:SS) (6:Int) (qcg ([43]:SS) (6:Int) (qcg ([73,78]:SS) (5:Int) (qcg ([62,61]:SS) (5:Int) (qcg ([62]:SS) (5:Int) (qcg ([60,61]:SS) (5:Int) (qcg ([60]:SS) (5:Int) (qcg ([60,62]:SS) (5:Int) (qcg ([61]:SS) (5:Int) (qcg ([65,78,68]:SS) (3:Int) (qcg ([88,79,82]:SS) (2:Int) (qcg ([79,82]:SS) (1:Int) ([]:List (SS×Int))))))))))))),?_⟩
 conv=>whnf
 refine⟨_,qg1 qd1 (PV.int .i64) ([42]:SS) (7:Int) (qcg ([45]:SS) (6:Int) (qcg ([43]:SS) (6:Int) (qcg ([73,78]:SS) (5:Int) (qcg ([62,61]:SS) (5:Int) (qcg ([62]:SS) (5:Int) (qcg ([60,61]:SS) (5:Int) (qcg ([60]:SS) (5:Int) (qcg ([60,62]:SS) (5:Int) (qcg ([61]:SS) (5:Int) (qcg ([65,78,68]:SS) (3:Int) (qcg ([88,79,82]:SS) (2:Int) (qcg ([79,82]:SS) (1:Int) ([]:List (SS×Int)))))))))))))),?_⟩
 conv=>whnf
 refine⟨_,qg1 qd1 (PV.int .i64) ([47]:SS) (7:Int) (qcg ([42]:SS) (7:Int) (qcg ([45]:SS) (6:Int) (qcg ([43]:SS) (6:Int) (qcg ([73,78]:SS) (5:Int) (qcg ([62,61]:SS) (5:Int) (qcg ([62]:SS) (5:Int) (qcg ([60,61]:SS) (5:Int) (qcg ([60]:SS) (5:Int) (qcg ([60,62]:SS) (5:Int) (qcg ([61]:SS) (5:Int) (qcg ([65,78,68]:SS) (3:Int) (qcg ([88,79,82]:SS) (2:Int) (qcg ([79,82]:SS) (1:Int) ([]:List (SS×Int))))))))))))))),?_⟩
 conv=>whnf
 refine⟨_,qg1 qd1 (PV.int .i64) ([37]:SS) (7:Int) (qcg ([47]:SS) (7:Int) (qcg ([42]:SS) (7:Int) (qcg ([45]:SS) (6:Int) (qcg ([43]:SS) (6:Int) (qcg ([73,78]:SS) (5:Int) (qcg ([62,61]:SS) (5:Int) (qcg ([62]:SS) (5:Int) (qcg ([60,61]:SS) (5:Int) (qcg ([60]:SS) (5:Int) (qcg ([60,62]:SS) (5:Int) (qcg ([61]:SS) (5:Int) (qcg ([65,78,68]:SS) (3:Int) (qcg ([88,79,82]:SS) (2:Int) (qcg ([79,82]:SS) (1:Int) ([]:List (SS×Int)))))))))))))))),?_⟩
 conv=>whnf
 refine⟨PV.int .i64 (qdm (qcg ([37]:SS) (7:Int) (qcg ([47]:SS) (7:Int) (qcg ([42]:SS) (7:Int) (qcg ([45]:SS) (6:Int) (qcg ([43]:SS) (6:Int) (qcg ([73,78]:SS) (5:Int) (qcg ([62,61]:SS) (5:Int) (qcg ([62]:SS) (5:Int) (qcg ([60,61]:SS) (5:Int) (qcg ([60]:SS) (5:Int) (qcg ([60,62]:SS) (5:Int) (qcg ([61]:SS) (5:Int) (qcg ([65,78,68]:SS) (3:Int) (qcg ([88,79,82]:SS) (2:Int) (qcg ([79,82]:SS) (1:Int) ([]:List (SS×Int))))))))))))))))) x1 (0:Int)),(q14 (qcg ([37]:SS) (7:Int) (qcg ([47]:SS) (7:Int) (qcg ([42]:SS) (7:Int) (qcg ([45]:SS) (6:Int) (qcg ([43]:SS) (6:Int) (qcg ([73,78]:SS) (5:Int) (qcg ([62,61]:SS) (5:Int) (qcg ([62]:SS) (5:Int) (qcg ([60,61]:SS) (5:Int) (qcg ([60]:SS) (5:Int) (qcg ([60,62]:SS) (5:Int) (qcg ([61]:SS) (5:Int) (qcg ([65,78,68]:SS) (3:Int) (qcg ([88,79,82]:SS) (2:Int) (qcg ([79,82]:SS) (1:Int) ([]:List (SS×Int))))))))))))))))) x1),⟨qrb qd1 (PV.int .i64) (qcg ([37]:SS) (7:Int) (qcg ([47]:SS) (7:Int) (qcg ([42]:SS) (7:Int) (qcg ([45]:SS) (6:Int) (qcg ([43]:SS) (6:Int) (qcg ([73,78]:SS) (5:Int) (qcg ([62,61]:SS) (5:Int) (qcg ([62]:SS) (5:Int) (qcg ([60,61]:SS) (5:Int) (qcg ([60]:SS) (5:Int) (qcg ([60,62]:SS) (5:Int) (qcg ([61]:SS) (5:Int) (qcg ([65,78,68]:SS) (3:Int) (qcg ([88,79,82]:SS) (2:Int) (qcg ([79,82]:SS) (1:Int) ([]:List (SS×Int))))))))))))))))) x1 (0:Int),qq9 qd1 (PV.int .i64) (qcg ([37]:SS) (7:Int) (qcg ([47]:SS) (7:Int) (qcg ([42]:SS) (7:Int) (qcg ([45]:SS) (6:Int) (qcg ([43]:SS) (6:Int) (qcg ([73,78]:SS) (5:Int) (qcg ([62,61]:SS) (5:Int) (qcg ([62]:SS) (5:Int) (qcg ([60,61]:SS) (5:Int) (qcg ([60]:SS) (5:Int) (qcg ([60,62]:SS) (5:Int) (qcg ([61]:SS) (5:Int) (qcg ([65,78,68]:SS) (3:Int) (qcg ([88,79,82]:SS) (2:Int) (qcg ([79,82]:SS) (1:Int) ([]:List (SS×Int))))))))))))))))) x1⟩,?_⟩
 obtain rfl:=sj h
 conv=>whnf
 try exact fin
abbrev qxk (r:Bool):PV:=PV.bool r
def qdi (n:Nat):Bool→Option (Bool):=fun x2=>
bif x2 then(
some true)
else(
some false)
def qgp (n:Nat) (x1:SS):Option (Bool):=
 bif(x1==([99,111,117,110,116]:SS))then(
 qdi n (x1==([99,111,117,110,116]:SS)))
 else(
 bif(x1==([115,117,109]:SS))then(
 qdi n (x1==([115,117,109]:SS)))
 else(
 bif(x1==([109,105,110]:SS))then(
 qdi n (x1==([109,105,110]:SS)))
 else(
 bif(x1==([109,97,120]:SS))then(
 qdi n (x1==([109,97,120]:SS)))
 else(
 qdi n (x1==([99,111,108,108,101,99,116]:SS))))))
theorem qpr (n:Nat):∀ (x1:SS) (r:Bool),qgp n x1=some r→qac Tryz.prog 177 [PV.str x1] (qxk r):=by
 intro x1 r h
 unfold qgp at h
 refine qac.of_vcN qa2 (fun _ _=>Tryz.call177 _ _) Tryz.func177 (by kernel_rfl) (inl:=[1000000]) ?_
 conv=>whnf
 refine qh6.cut (S:=Bool) (fun x2=>[(4,pB x2)]) (fun x2=>[]) (qdi n) (r:=r) ?_ ?_
 ·intro x2 h
  unfold qdi at h
  conv=>whnf
  refine ifc h (fun hc h=>?_) (fun hc h=>?_)
  ·obtain rfl:=sj h
   conv=>whnf
   try exact fin
  ·obtain rfl:=sj h
   conv=>whnf
   try exact fin
 ·conv=>whnf
  refine ifc h (fun hc h=>?_) (fun hc h=>?_)
  ·conv=>whnf
   exact⟨(x1==([99,111,117,110,116]:SS)),h,wk [] []⟩
  ·conv=>whnf
   refine ifc h (fun hc h=>?_) (fun hc h=>?_)
   ·conv=>whnf
    exact⟨(x1==([115,117,109]:SS)),h,wk [] []⟩
   ·conv=>whnf
    refine ifc h (fun hc h=>?_) (fun hc h=>?_)
    ·conv=>whnf
     exact⟨(x1==([109,105,110]:SS)),h,wk [] []⟩
    ·conv=>whnf
     refine ifc h (fun hc h=>?_) (fun hc h=>?_)
     ·conv=>whnf
      exact⟨(x1==([109,97,120]:SS)),h,wk [] []⟩
     ·conv=>whnf
      exact⟨(x1==([99,111,108,108,101,99,116]:SS)),h,wk [] []⟩
abbrev q2q (r:Int×Bool):PV:=PV.tup [PV.int .i64 r.1,PV.bool r.2]
def qbb (n:Nat) (x2:SS) (x1:Int) (x10:List qab):Bool→Option (Int×Bool):=fun x15=>
bif x15 then(
some ((1:Int),(x2==([]:SS))))
else(
bif(x1==10)then(
bnd (qk6 n x2) fun x16=>
some ((2:Int),(decide (x16>0))))
else(
bif(x1==13)then(
bnd (qet n x2) fun x17=>
bnd (qa4 x17 (qgp n x2)) fun x18=>
some ((-1:Int),(bif x17 then(!x18)else false)))
else(
bif(x1==14)then(
bif(((qab.rows x10).length:Int)==0)then(
some ((0:Int),(x2==([99,111,117,110,116]:SS))))
else(
bnd (qgp n x2) fun x19=>
some ((1:Int),x19)))
else(
bif(x1==15)then(
bnd (qi5 n x2) fun x20=>
bnd (qa4 (bif x20 then(((qab.rows x10).length:Int)==1)else false) (idx x10 (0:Int))) fun⟨x21,x22,⟨x23,x24,x25,x26,x27,x28⟩,x29,x30⟩=>
some ((1:Int),(bif(bif x20 then(((qab.rows x10).length:Int)==1)else false)then(x21==2)else false)))
else(
some ((0:Int),false))))))
def qbh (n:Nat) (x2:SS) (x1:Int) (x9:List SS) (x10:List qab):Bool→Option (Int×Bool):=fun x12=>
bif x12 then(
bnd (qet n x2) fun x13=>
some ((0:Int),x13))
else(
bif(x1==4)then(
bnd (qi5 n x2) fun x14=>
some ((1:Int),x14))
else(
bif(x1==5)then(
some ((-1:Int),(x2==([]:SS))))
else(
bif(x1==6)then(
some (((qak x9).length:Int),(x2==([]:SS))))
else(
bif(x1==7)then(
some ((2:Int),(x2==([]:SS))))
else(
bif(x1==8)then(
qbb n x2 x1 x10 (x1==8))
else(
bif(x1==9)then(
qbb n x2 x1 x10 (x1==9))
else(
bif(x1==11)then(
qbb n x2 x1 x10 (x1==11))
else(
qbb n x2 x1 x10 (x1==12)))))))))
def qb3 (n:Nat) (a0z:qab):Option (Int×Bool):=
 match a0z with
 | ⟨x1,x2,⟨x3,x4,x5,x6,x7,x8⟩,x9,x10⟩=>
 bif(x1==1)then(
 bnd (qa4 (x2==([]:SS)) (qkd n (Val.mk x3 x4 x5 x6 x7 x8))) fun x11=>
 some ((0:Int),(bif(x2==([]:SS))then x11 else false)))
 else(
 bif(x1==2)then(
 qbh n x2 x1 x9 x10 (x1==2))
 else(
 qbh n x2 x1 x9 x10 (x1==3)))
set_option maxHeartbeats 4000000 in
theorem q1k (n:Nat):∀ (a0z:qab) (r:Int×Bool),qb3 n a0z=some r→qac Tryz.prog 173 [PV.agg (qb9.cells a0z)] (q2q r):=by
 intro a0z r h
 obtain⟨x1,x2,⟨x3,x4,x5,x6,x7,x8⟩,x9,x10⟩:=a0z
 unfold qb3 at h
 refine qac.of_vcN qa2 (fun _ _=>Tryz.call173 _ _) Tryz.func173 (by kernel_rfl) (inl:=[1000000]) ?_
 conv=>whnf
 refine ifc h (fun hc h=>?_) (fun hc h=>?_)
 ·conv=>whnf
  refine⟨id,id,?_⟩
  conv=>whnf
  replace h:=qaa h
  obtain⟨x11,h1,h⟩:=h
  refine⟨_,fun hg=>(qy5 n _ _ (qae h1 hg)),?_⟩
  conv=>whnf
  refine⟨id,?_⟩
  obtain rfl:=sj h
  conv=>whnf
  try exact fin
 ·conv=>whnf
  refine qh6.cut (S:=Bool) (fun x12=>[(1,.ptr 0 0),(5,pI x1),(16,pB x12)]) (fun x12=>[.box 47 [pI x1,pS x2,pI x3,pB x4,pI x5,pS x6,pV x7,pT x8,pT x9,pE x10]]) (qbh n x2 x1 x9 x10) (r:=r) ?_ ?_
  ·intro x12 h
   unfold qbh at h
   conv=>whnf
   refine ifc h (fun hc h=>?_) (fun hc h=>?_)
   ·conv=>whnf
    replace h:=qaa h
    obtain⟨x13,h2,h⟩:=h
    refine⟨_,(qf4 n _ _ h2),?_⟩
    obtain rfl:=sj h
    conv=>whnf
    try exact fin
   ·conv=>whnf
    refine ifc h (fun hc h=>?_) (fun hc h=>?_)
    ·conv=>whnf
     replace h:=qaa h
     obtain⟨x14,h3,h⟩:=h
     refine⟨_,(qj1 n _ _ h3),?_⟩
     obtain rfl:=sj h
     conv=>whnf
     try exact fin
    ·conv=>whnf
     refine ifc h (fun hc h=>?_) (fun hc h=>?_)
     ·obtain rfl:=sj h
      conv=>whnf
      try exact fin
     ·conv=>whnf
      refine ifc h (fun hc h=>?_) (fun hc h=>?_)
      ·obtain rfl:=sj h
       conv=>whnf
       try exact fin
      ·conv=>whnf
       refine ifc h (fun hc h=>?_) (fun hc h=>?_)
       ·obtain rfl:=sj h
        conv=>whnf
        try exact fin
       ·conv=>whnf
        refine qh6.cut (S:=Bool) (fun x15=>[(1,.ptr 0 0),(5,pI x1),(45,pB x15)]) (fun x15=>[.box 47 [pI x1,pS x2,pI x3,pB x4,pI x5,pS x6,pV x7,pT x8,pT x9,pE x10]]) (qbb n x2 x1 x10) (r:=r) ?_ ?_
        ·intro x15 h
         unfold qbb at h
         conv=>whnf
         refine ifc h (fun hc h=>?_) (fun hc h=>?_)
         ·obtain rfl:=sj h
          conv=>whnf
          try exact fin
         ·conv=>whnf
          refine ifc h (fun hc h=>?_) (fun hc h=>?_)
          ·conv=>whnf
           replace h:=qaa h
           obtain⟨x16,h4,h⟩:=h
           refine⟨_,(q1r n _ _ h4),?_⟩
           obtain rfl:=sj h
           conv=>whnf
           try exact fin
          ·conv=>whnf
           refine ifc h (fun hc h=>?_) (fun hc h=>?_)
           ·conv=>whnf
            replace h:=qaa h
            obtain⟨x17,h6,h⟩:=h
            refine⟨_,(qf4 n _ _ h6),?_⟩
            conv=>whnf
            refine⟨id,id,?_⟩
            conv=>whnf
            replace h:=qaa h
            obtain⟨x18,h5,h⟩:=h
            refine⟨_,fun hg=>(qpr n _ _ (qae h5 hg)),?_⟩
            conv=>whnf
            refine⟨id,id,?_⟩
            obtain rfl:=sj h
            conv=>whnf
            try exact fin
           ·conv=>whnf
            refine ifc h (fun hc h=>?_) (fun hc h=>?_)
            ·conv=>whnf
             refine ifc h (fun hc h=>?_) (fun hc h=>?_)
             ·obtain rfl:=sj h
              conv=>whnf
              try exact fin
             ·conv=>whnf
              replace h:=qaa h
              obtain⟨x19,h7,h⟩:=h
              refine⟨_,(qpr n _ _ h7),?_⟩
              obtain rfl:=sj h
              conv=>whnf
              try exact fin
            ·conv=>whnf
             refine ifc h (fun hc h=>?_) (fun hc h=>?_)
             ·conv=>whnf
              replace h:=qaa h
              obtain⟨x20,h9,h⟩:=h
              refine⟨_,(qj1 n _ _ h9),?_⟩
              conv=>whnf
              refine⟨id,id,id,id,id,id,?_⟩
              conv=>whnf
              replace h:=qaa h
              obtain⟨⟨x21,x22,⟨x23,x24,x25,x26,x27,x28⟩,x29,x30⟩,h8,h⟩:=h
              refine⟨_,fun hg=>Codec.at_ qb9 (qae h8 hg),?_⟩
              conv=>whnf
              refine⟨id,id,id,id,?_⟩
              obtain rfl:=sj h
              conv=>whnf
              try exact fin
             ·obtain rfl:=sj h
              conv=>whnf
              try exact fin
        ·conv=>whnf
         refine ifc h (fun hc h=>?_) (fun hc h=>?_)
         ·conv=>whnf
          exact⟨(x1==8),h,wk [0] []⟩
         ·conv=>whnf
          refine ifc h (fun hc h=>?_) (fun hc h=>?_)
          ·conv=>whnf
           exact⟨(x1==9),h,wk [0] []⟩
          ·conv=>whnf
           refine ifc h (fun hc h=>?_) (fun hc h=>?_)
           ·conv=>whnf
            exact⟨(x1==11),h,wk [0] []⟩
           ·conv=>whnf
            exact⟨(x1==12),h,wk [0] []⟩
  ·conv=>whnf
   refine ifc h (fun hc h=>?_) (fun hc h=>?_)
   ·conv=>whnf
    exact⟨(x1==2),h,wk [0] []⟩
   ·conv=>whnf
    exact⟨(x1==3),h,wk [0] []⟩
abbrev qnn (r:Bool):PV:=PV.bool r
abbrev zka:Type:=qab→Int→Option (Bool)
def qfw (n:Nat) (x10:List qab) (g170:zka) (x11:Int):(Int→Option (Bool))→Int→Option (Bool):=fun nx2 x18=>
bif(decide (x18<((qab.rows x10).length:Int)))then(
bnd (idx x10 x18) fun⟨x19,x20,⟨x21,x22,x23,x24,x25,x26⟩,x27,x28⟩=>
bnd (g170 (qab.mk x19 x20 (Val.mk x21 x22 x23 x24 x25 x26) x27 x28) (IntKind.i64.wrap (x11 - 1))) fun x29=>
bif(!x29)then(
some false)
else(
nx2 (IntKind.i64.wrap (x18+1))))
else(
some true)
def qf1 (n:Nat) (x9:List SS) (x10:List qab) (g170:zka) (x11:Int):(Int→Option (Bool))→Int→Option (Bool):=fun nx1 x15=>
bif(decide (x15<((qak x9).length:Int)))then(
bnd (idx x9 x15) fun x16=>
bnd (qi5 n x16) fun x17=>
bif(!x17)then(
some false)
else(
nx1 (IntKind.i64.wrap (x15+1))))
else(
qas (qfw n x10 g170 x11) n (0:Int))
def ql4 (n:Nat) (g170:zka) (a0z:qab) (x11:Int):Option (Bool):=
 match a0z with
 | ⟨x1,x2,⟨x3,x4,x5,x6,x7,x8⟩,x9,x10⟩=>
 bnd (qb3 n (qab.mk x1 x2 (Val.mk x3 x4 x5 x6 x7 x8) x9 x10)) fun⟨x12,x13⟩=>
 bnd (qa4 ((!(bif(bif(!x13)then true else(decide (x11<1)))then true else(bif(decide (x12≥0))then(((qab.rows x10).length:Int) != x12)else false)))&&(x1 != 1)) (qgg n (Val.mk x3 x4 x5 x6 x7 x8) (Val.mk (0:Int) false (0:Int) ([]:SS) ([]:List Val) ([]:List SS)))) fun x14=>
 bif(bif(bif(bif(bif(!x13)then true else(decide (x11<1)))then true else(bif(decide (x12≥0))then(((qab.rows x10).length:Int) != x12)else false))then true else(bif(x1 != 1)then(!x14)else false))then true else(bif(x1 != 6)then(decide (((qak x9).length:Int)>0))else false))then(
 some false)
 else(
 qas (qf1 n x9 x10 g170 x11) n (0:Int))
set_option maxHeartbeats 4000000 in
theorem qz7 (n:Nat) (g170:zka) (g170_ok:∀ (a0z:qab) (x11:Int) (r:Bool),g170 a0z x11=some r→qac Tryz.prog 170 [PV.agg (qb9.cells a0z),PV.int .i64 x11] (qnn r)):∀ (a0z:qab) (x11:Int) (r:Bool),ql4 n g170 a0z x11=some r→qac Tryz.prog 170 [PV.agg (qb9.cells a0z),PV.int .i64 x11] (qnn r):=by
 intro a0z x11 r h
 obtain⟨x1,x2,⟨x3,x4,x5,x6,x7,x8⟩,x9,x10⟩:=a0z
 unfold ql4 at h
 refine qac.of_vcN qa2 (fun _ _=>Tryz.call170 _ _) Tryz.func170 (by kernel_rfl) (inl:=[1000000]) ?_
 conv=>whnf
 replace h:=qaa h
 obtain⟨⟨x12,x13⟩,h6,h⟩:=h
 refine⟨_,(q1k n _ _ h6),?_⟩
 conv=>whnf
 refine⟨id,id,id,id,id,id,id,id,id,id,id,id,id,id,id,id,id,?_⟩
 conv=>whnf
 replace h:=qaa h
 obtain⟨x14,h5,h⟩:=h
 refine⟨_,fun hg=>(qac.leArgs (qun n _ _ _ (qae h5 hg)) (by try exact fin)),?_⟩
 conv=>whnf
 refine⟨id,id,id,id,id,id,id,id,id,id,id,id,id,?_⟩
 conv=>whnf
 refine ifc h (fun hc h=>?_) (fun hc h=>?_)
 ·obtain rfl:=sj h
  conv=>whnf
  try exact fin
 ·conv=>whnf
  refine qb2.fn [1000000] (S:=Int) (fun x15=>[(1,pI x11),(2,.ptr 0 0),(57,pT x9),(58,.p (.int .i64 ((qak x9).length:Int))),(59,pI x15)]) (fun x15=>[.box 47 [pI x1,pS x2,pI x3,pB x4,pI x5,pS x6,pV x7,pT x8,pT x9,pE x10]]) (B:=qf1 n x9 x10 g170 x11) h (wk [0] []) ?_
  intro nx1 x15 h
  unfold qf1 at h
  conv=>whnf
  refine ifc h (fun hc h=>?_) (fun hc h=>?_)
  ·conv=>whnf
   replace h:=qaa h
   obtain⟨x16,h2,h⟩:=h
   refine⟨_,Codec.at_ qpc h2,?_⟩
   conv=>whnf
   replace h:=qaa h
   obtain⟨x17,h1,h⟩:=h
   refine⟨_,(qj1 n _ _ h1),?_⟩
   conv=>whnf
   refine ifc h (fun hc h=>?_) (fun hc h=>?_)
   ·obtain rfl:=sj h
    conv=>whnf
    try exact fin
   ·conv=>whnf
    exact⟨(IntKind.i64.wrap (x15+1)),h,wk [0] []⟩
  ·conv=>whnf
   refine qb2.fn [1000000] (S:=Int) (fun x18=>[(1,pI x11),(68,pE x10),(69,.p (.int .i64 ((qab.rows x10).length:Int))),(70,pI x18)]) (fun x18=>[]) (B:=qfw n x10 g170 x11) h (wk [] []) ?_
   intro nx2 x18 h
   unfold qfw at h
   conv=>whnf
   refine ifc h (fun hc h=>?_) (fun hc h=>?_)
   ·conv=>whnf
    replace h:=qaa h
    obtain⟨⟨x19,x20,⟨x21,x22,x23,x24,x25,x26⟩,x27,x28⟩,h4,h⟩:=h
    refine⟨_,Codec.at_ qb9 h4,?_⟩
    conv=>whnf
    replace h:=qaa h
    obtain⟨x29,h3,h⟩:=h
    refine⟨_,(g170_ok _ _ _ h3),?_⟩
    conv=>whnf
    refine ifc h (fun hc h=>?_) (fun hc h=>?_)
    ·obtain rfl:=sj h
     conv=>whnf
     try exact fin
    ·conv=>whnf
     exact⟨(IntKind.i64.wrap (x18+1)),h,wk [] []⟩
   ·obtain rfl:=sj h
    conv=>whnf
    try exact fin
def qcl:Nat→qab→Int→Option (Bool)
 | 0=>fun _ _=>none
 | n+1=>ql4 n (qcl n)
theorem qzy (n:Nat):(∀ (a0z:qab) (x11:Int) (r:Bool),qcl n a0z x11=some r→qac Tryz.prog 170 [PV.agg (qb9.cells a0z),PV.int .i64 x11] (qnn r)):=by
 induction n with
 | zero=>exact(by intros; rename_i h; cases h)
 | succ n ih=>
  have hg170:=ih
  exact qz7 n (qcl n) hg170
theorem qpg (n:Nat):∀ (a0z:qab) (x11:Int) (r:Bool),qcl n a0z x11=some r→qac Tryz.prog 170 [PV.agg (qb9.cells a0z),PV.int .i64 x11] (qnn r):=(qzy n)
abbrev qxl (r:Bool):PV:=PV.bool r
def qez (n:Nat) (x1:List SS) (x2:List qab):(Int→Option (Bool))→Int→Option (Bool):=fun nx1 x3=>
bif(decide (x3<((qak x1).length:Int)))then(
bnd (idx x1 x3) fun x4=>
bnd (qi5 n x4) fun x5=>
bnd (qa4 (!(!x5)) (idx x2 x3)) fun⟨x6,x7,⟨x8,x9,x10,x11,x12,x13⟩,x14,x15⟩=>
bnd (qa4 (!(!x5)) (qcl n (qab.mk x6 x7 (Val.mk x8 x9 x10 x11 x12 x13) x14 x15) (32:Int))) fun x16=>
bif(bif(!x5)then true else(!x16))then(
some false)
else(
nx1 (IntKind.i64.wrap (x3+1))))
else(
some true)
def qgu (n:Nat) (a0z:qzg):Option (Bool):=
 match a0z with
 | ⟨x1,x2⟩=>
 bif(((qak x1).length:Int) != ((qab.rows x2).length:Int))then(
 some false)
 else(
 qas (qez n x1 x2) n (0:Int))
theorem qpo (n:Nat):∀ (a0z:qzg) (r:Bool),qgu n a0z=some r→qac Tryz.prog 167 [PV.agg (zj7.cells a0z)] (qxl r):=by
 intro a0z r h
 obtain⟨x1,x2⟩:=a0z
 unfold qgu at h
 refine qac.of_vcN qa2 (fun _ _=>Tryz.call167 _ _) Tryz.func167 (by kernel_rfl) (inl:=[1000000]) ?_
 conv=>whnf
 refine ifc h (fun hc h=>?_) (fun hc h=>?_)
 ·obtain rfl:=sj h
  conv=>whnf
  try exact fin
 ·conv=>whnf
  refine qb2.fn [1000000] (S:=Int) (fun x3=>[(1,.ptr 0 0),(13,pT x1),(14,.p (.int .i64 ((qak x1).length:Int))),(15,pI x3)]) (fun x3=>[.box 215 [pT x1,pE x2]]) (B:=qez n x1 x2) h (wk [0] []) ?_
  intro nx1 x3 h
  unfold qez at h
  conv=>whnf
  refine ifc h (fun hc h=>?_) (fun hc h=>?_)
  ·conv=>whnf
   replace h:=qaa h
   obtain⟨x4,h4,h⟩:=h
   refine⟨_,Codec.at_ qpc h4,?_⟩
   conv=>whnf
   replace h:=qaa h
   obtain⟨x5,h3,h⟩:=h
   refine⟨_,(qj1 n _ _ h3),?_⟩
   conv=>whnf
   refine⟨id,id,id,?_⟩
   conv=>whnf
   replace h:=qaa h
   obtain⟨⟨x6,x7,⟨x8,x9,x10,x11,x12,x13⟩,x14,x15⟩,h2,h⟩:=h
   refine⟨_,fun hg=>Codec.at_ qb9 (qae h2 hg),?_⟩
   conv=>whnf
   refine⟨id,id,?_⟩
   conv=>whnf
   replace h:=qaa h
   obtain⟨x16,h1,h⟩:=h
   refine⟨_,fun hg=>(qpg n _ _ _ (qae h1 hg)),?_⟩
   conv=>whnf
   refine⟨id,id,?_⟩
   conv=>whnf
   refine ifc h (fun hc h=>?_) (fun hc h=>?_)
   ·obtain rfl:=sj h
    conv=>whnf
    try exact fin
   ·conv=>whnf
    exact⟨(IntKind.i64.wrap (x3+1)),h,wk [0] []⟩
  ·obtain rfl:=sj h
   conv=>whnf
   try exact fin
abbrev qyh (r:Bool):PV:=PV.bool r
def qff (n:Nat) (x2:List SS) (x1:SS) (x3:List SS) (x4:List qab):(Int→Option (Bool))→Int→Option (Bool):=fun nx1 x5=>
bif(decide (x5<((qak x2).length:Int)))then(
bnd (idx x2 x5) fun x6=>
bnd (qi5 n x6) fun x7=>
bif(!x7)then(
some false)
else(
nx1 (IntKind.i64.wrap (x5+1))))
else(
bnd (qa4 (!(x1==([]:SS))) (qet n x1)) fun x8=>
bnd (qa4 (bif(x1==([]:SS))then true else x8) (qgu n (qzg.mk x3 x4))) fun x9=>
some (bif(bif(x1==([]:SS))then true else x8)then x9 else false))
def qd9 (n:Nat) (a0z:qaf):Option (Bool):=
 match a0z with
 | ⟨x1,x2,x3,x4⟩=>
 qas (qff n x2 x1 x3 x4) n (0:Int)
theorem qxe (n:Nat):∀ (a0z:qaf) (r:Bool),qd9 n a0z=some r→qac Tryz.prog 163 [PV.agg (qe5.cells a0z)] (qyh r):=by
 intro a0z r h
 obtain⟨x1,x2,x3,x4⟩:=a0z
 unfold qd9 at h
 refine qac.of_vcN qa2 (fun _ _=>Tryz.call163 _ _) Tryz.func163 (by kernel_rfl) (inl:=[1000000]) ?_
 conv=>whnf
 refine qb2.fn [1000000] (S:=Int) (fun x5=>[(1,.ptr 0 0),(6,pT x2),(7,.p (.int .i64 ((qak x2).length:Int))),(8,pI x5)]) (fun x5=>[.box 212 [pS x1,pT x2,pT x3,pE x4]]) (B:=qff n x2 x1 x3 x4) h (wk [0] []) ?_
 intro nx1 x5 h
 unfold qff at h
 conv=>whnf
 refine ifc h (fun hc h=>?_) (fun hc h=>?_)
 ·conv=>whnf
  replace h:=qaa h
  obtain⟨x6,h2,h⟩:=h
  refine⟨_,Codec.at_ qpc h2,?_⟩
  conv=>whnf
  replace h:=qaa h
  obtain⟨x7,h1,h⟩:=h
  refine⟨_,(qj1 n _ _ h1),?_⟩
  conv=>whnf
  refine ifc h (fun hc h=>?_) (fun hc h=>?_)
  ·obtain rfl:=sj h
   conv=>whnf
   try exact fin
  ·conv=>whnf
   exact⟨(IntKind.i64.wrap (x5+1)),h,wk [0] []⟩
 ·conv=>whnf
  refine⟨id,id,?_⟩
  conv=>whnf
  replace h:=qaa h
  obtain⟨x8,h4,h⟩:=h
  refine⟨_,fun hg=>(qf4 n _ _ (qae h4 hg)),?_⟩
  conv=>whnf
  refine⟨id,id,id,id,id,id,?_⟩
  conv=>whnf
  replace h:=qaa h
  obtain⟨x9,h3,h⟩:=h
  refine⟨_,fun hg=>(qpo n _ _ (qae h3 hg)),?_⟩
  conv=>whnf
  refine⟨id,?_⟩
  obtain rfl:=sj h
  conv=>whnf
  try exact fin
abbrev qy7 (r:Bool):PV:=PV.bool r
def qdw (n:Nat) (a0z:qah):Option (Bool):=
 match a0z with
 | ⟨x1,x2,x3,x4,x5⟩=>
 bnd (qa4 (!(x1==([]:SS))) (qet n x1)) fun x6=>
 bnd (qa4 ((bif(x1==([]:SS))then true else x6)&&(!(x2==([]:SS)))) (qi5 n x2)) fun x7=>
 bnd (qa4 (bif(bif(bif(bif(x1==([]:SS))then true else x6)then(bif(x2==([]:SS))then true else x7)else false)then(decide (x3≥0))else false)then(decide (x3≤2))else false) (qgu n (qzg.mk x4 x5))) fun x8=>
 some (bif(bif(bif(bif(bif(x1==([]:SS))then true else x6)then(bif(x2==([]:SS))then true else x7)else false)then(decide (x3≥0))else false)then(decide (x3≤2))else false)then x8 else false)
theorem qx1 (n:Nat):∀ (a0z:qah) (r:Bool),qdw n a0z=some r→qac Tryz.prog 164 [PV.agg (qh8.cells a0z)] (qy7 r):=by
 intro a0z r h
 obtain⟨x1,x2,x3,x4,x5⟩:=a0z
 unfold qdw at h
 refine qac.of_vcN qa2 (fun _ _=>Tryz.call164 _ _) Tryz.func164 (by kernel_rfl) (inl:=[1000000]) ?_
 conv=>whnf
 refine⟨id,id,?_⟩
 conv=>whnf
 replace h:=qaa h
 obtain⟨x6,h3,h⟩:=h
 refine⟨_,fun hg=>(qf4 n _ _ (qae h3 hg)),?_⟩
 conv=>whnf
 refine⟨id,id,id,id,id,id,?_⟩
 conv=>whnf
 replace h:=qaa h
 obtain⟨x7,h2,h⟩:=h
 refine⟨_,fun hg=>(qj1 n _ _ (qae h2 hg)),?_⟩
 conv=>whnf
 refine⟨id,id,id,id,id,id,id,id,id,id,id,id,id,id,?_⟩
 conv=>whnf
 replace h:=qaa h
 obtain⟨x8,h1,h⟩:=h
 refine⟨_,fun hg=>(qpo n _ _ (qae h1 hg)),?_⟩
 conv=>whnf
 refine⟨id,?_⟩
 obtain rfl:=sj h
 conv=>whnf
 try exact fin
abbrev qq5 (r:Bool):PV:=PV.bool r
def qdt (n:Nat) (x1:List qaf) (x2:List qah):(Int→Option (Bool))→Int→Option (Bool):=fun nx1 x3=>
bif(decide (x3<((qaf.rows x1).length:Int)))then(
bnd (idx x1 x3) fun⟨x4,x5,x6,x7⟩=>
bnd (qd9 n (qaf.mk x4 x5 x6 x7)) fun x8=>
bnd (qa4 ((!(!x8))&&(decide (x3>0))) (idx x2 (IntKind.i64.wrap (x3 - 1)))) fun⟨x9,x10,x11,x12,x13⟩=>
bnd (qa4 ((!(!x8))&&(decide (x3>0))) (qdw n (qah.mk x9 x10 x11 x12 x13))) fun x14=>
bif(bif(!x8)then true else(bif(decide (x3>0))then(!x14)else false))then(
some false)
else(
nx1 (IntKind.i64.wrap (x3+1))))
else(
some true)
def qg6 (n:Nat) (a0z:qbq):Option (Bool):=
 match a0z with
 | ⟨x1,x2⟩=>
 bif(((qaf.rows x1).length:Int) != (IntKind.i64.wrap (((qah.rows x2).length:Int)+1)))then(
 some false)
 else(
 qas (qdt n x1 x2) n (0:Int))
theorem qxw (n:Nat):∀ (a0z:qbq) (r:Bool),qg6 n a0z=some r→qac Tryz.prog 161 [PV.agg (qn9.cells a0z)] (qq5 r):=by
 intro a0z r h
 obtain⟨x1,x2⟩:=a0z
 unfold qg6 at h
 refine qac.of_vcN qa2 (fun _ _=>Tryz.call161 _ _) Tryz.func161 (by kernel_rfl) (inl:=[1000000]) ?_
 conv=>whnf
 refine ifc h (fun hc h=>?_) (fun hc h=>?_)
 ·obtain rfl:=sj h
  conv=>whnf
  try exact fin
 ·conv=>whnf
  refine qb2.fn [1000000] (S:=Int) (fun x3=>[(1,.ptr 0 0),(14,.p (.int .i64 ((qaf.rows x1).length:Int))),(15,pI x3)]) (fun x3=>[.box 128 [pN x1,pG x2]]) (B:=qdt n x1 x2) h (wk [0] []) ?_
  intro nx1 x3 h
  unfold qdt at h
  conv=>whnf
  refine ifc h (fun hc h=>?_) (fun hc h=>?_)
  ·conv=>whnf
   replace h:=qaa h
   obtain⟨⟨x4,x5,x6,x7⟩,h4,h⟩:=h
   refine⟨_,Codec.at_ qe5 h4,?_⟩
   conv=>whnf
   replace h:=qaa h
   obtain⟨x8,h3,h⟩:=h
   refine⟨_,(qxe n _ _ h3),?_⟩
   conv=>whnf
   refine⟨id,id,id,id,id,id,?_⟩
   conv=>whnf
   replace h:=qaa h
   obtain⟨⟨x9,x10,x11,x12,x13⟩,h2,h⟩:=h
   refine⟨_,fun hg=>Codec.at_ qh8 (qae h2 hg),?_⟩
   conv=>whnf
   refine⟨id,id,?_⟩
   conv=>whnf
   replace h:=qaa h
   obtain⟨x14,h1,h⟩:=h
   refine⟨_,fun hg=>(qx1 n _ _ (qae h1 hg)),?_⟩
   conv=>whnf
   refine⟨id,id,id,id,?_⟩
   conv=>whnf
   refine ifc h (fun hc h=>?_) (fun hc h=>?_)
   ·obtain rfl:=sj h
    conv=>whnf
    try exact fin
   ·conv=>whnf
    exact⟨(IntKind.i64.wrap (x3+1)),h,wk [0] []⟩
  ·obtain rfl:=sj h
   conv=>whnf
   try exact fin
abbrev qx9 (r:Bool):PV:=PV.bool r
def qf2 (n:Nat) (a0z:qab):Option (Bool):=
 match a0z with
 | ⟨x1,x2,⟨x3,x4,x5,x6,x7,x8⟩,x9,x10⟩=>
 bnd (qcl n (qab.mk x1 x2 (Val.mk x3 x4 x5 x6 x7 x8) x9 x10) (32:Int)) fun x11=>
 some x11
theorem qmv (n:Nat):∀ (a0z:qab) (r:Bool),qf2 n a0z=some r→qac Tryz.prog 189 [PV.agg (qb9.cells a0z)] (qx9 r):=by
 intro a0z r h
 obtain⟨x1,x2,⟨x3,x4,x5,x6,x7,x8⟩,x9,x10⟩:=a0z
 unfold qf2 at h
 refine qac.of_vcN qa2 (fun _ _=>Tryz.call189 _ _) Tryz.func189 (by kernel_rfl) (inl:=[1000000]) ?_
 conv=>whnf
 replace h:=qaa h
 obtain⟨x11,h1,h⟩:=h
 refine⟨_,(qpg n _ _ _ h1),?_⟩
 obtain rfl:=sj h
 conv=>whnf
 try exact fin
abbrev qyk (r:Bool):PV:=PV.bool r
def qmn (n:Nat) (a0z:qbz):Option (Bool):=
 match a0z with
 | ⟨⟨x1,x2,⟨x3,x4,x5,x6,x7,x8⟩,x9,x10⟩,x11⟩=>
 bnd (qet n x11) fun x12=>
 bnd (qa4 x12 (qf2 n (qab.mk x1 x2 (Val.mk x3 x4 x5 x6 x7 x8) x9 x10))) fun x13=>
 some (bif x12 then x13 else false)
theorem qxz (n:Nat):∀ (a0z:qbz) (r:Bool),qmn n a0z=some r→qac Tryz.prog 191 [PV.agg (qt4.cells a0z)] (qyk r):=by
 intro a0z r h
 obtain⟨⟨x1,x2,⟨x3,x4,x5,x6,x7,x8⟩,x9,x10⟩,x11⟩:=a0z
 unfold qmn at h
 refine qac.of_vcN qa2 (fun _ _=>Tryz.call191 _ _) Tryz.func191 (by kernel_rfl) (inl:=[1000000]) ?_
 conv=>whnf
 replace h:=qaa h
 obtain⟨x12,h2,h⟩:=h
 refine⟨_,(qf4 n _ _ h2),?_⟩
 conv=>whnf
 refine⟨id,id,?_⟩
 conv=>whnf
 replace h:=qaa h
 obtain⟨x13,h1,h⟩:=h
 refine⟨_,fun hg=>(qmv n _ _ (qae h1 hg)),?_⟩
 conv=>whnf
 refine⟨id,?_⟩
 obtain rfl:=sj h
 conv=>whnf
 try exact fin
abbrev qv5 (r:Bool):PV:=PV.bool r
def qj9 (n:Nat) (a0z:qav):Option (Bool):=
 match a0z with
 | ⟨⟨x1,x2,⟨x3,x4,x5,x6,x7,x8⟩,x9,x10⟩,x11⟩=>
 bnd (qf2 n (qab.mk x1 x2 (Val.mk x3 x4 x5 x6 x7 x8) x9 x10)) fun x12=>
 some x12
theorem qu5 (n:Nat):∀ (a0z:qav) (r:Bool),qj9 n a0z=some r→qac Tryz.prog 193 [PV.agg (qqh.cells a0z)] (qv5 r):=by
 intro a0z r h
 obtain⟨⟨x1,x2,⟨x3,x4,x5,x6,x7,x8⟩,x9,x10⟩,x11⟩:=a0z
 unfold qj9 at h
 refine qac.of_vcN qa2 (fun _ _=>Tryz.call193 _ _) Tryz.func193 (by kernel_rfl) (inl:=[1000000]) ?_
 conv=>whnf
 replace h:=qaa h
 obtain⟨x12,h1,h⟩:=h
 refine⟨_,(qmv n _ _ h1),?_⟩
 obtain rfl:=sj h
 conv=>whnf
 try exact fin
abbrev qy1 (r:Bool):PV:=PV.bool r
def qme (n:Nat) (x1:SS):Option (Bool):=
 bnd (qet n x1) fun x2=>
 some x2
theorem qw7 (n:Nat):∀ (x1:SS) (r:Bool),qme n x1=some r→qac Tryz.prog 195 [PV.str x1] (qy1 r):=by
 intro x1 r h
 unfold qme at h
 refine qac.of_vcN qa2 (fun _ _=>Tryz.call195 _ _) Tryz.func195 (by kernel_rfl) (inl:=[1000000]) ?_
 conv=>whnf
 replace h:=qaa h
 obtain⟨x2,h1,h⟩:=h
 refine⟨_,(qf4 n _ _ h1),?_⟩
 obtain rfl:=sj h
 conv=>whnf
 try exact fin
abbrev qv4 (r:Bool):PV:=PV.bool r
def qfr (n:Nat) (a0z:qrh):Option (Bool):=
 match a0z with
 | ⟨⟨x1,x2,x3,⟨x4,x5,⟨x6,x7,x8,x9,x10,x11⟩,x12,x13⟩⟩,x14⟩=>
 bnd (qet n x1) fun x15=>
 bif(bif(bif(!x15)then true else((x2==([]:SS))==(x3==([]:SS))))then true else(decide ((IntKind.i64.wrap (((x2.length:Nat):Int)+((x3.length:Nat):Int)))>64)))then(
 some false)
 else(
 bif(bif x14 then(!(x2==([]:SS)))else false)then(
 bnd (qcl n (qab.mk x4 x5 (Val.mk x6 x7 x8 x9 x10 x11) x12 x13) (32:Int)) fun x16=>
 some x16)
 else(
 bnd (qhi n (qab.mk x4 x5 (Val.mk x6 x7 x8 x9 x10 x11) x12 x13)) fun x17=>
 some x17))
theorem qvb (n:Nat):∀ (a0z:qrh) (r:Bool),qfr n a0z=some r→qac Tryz.prog 197 [PV.agg (zik.cells a0z)] (qv4 r):=by
 intro a0z r h
 obtain⟨⟨x1,x2,x3,⟨x4,x5,⟨x6,x7,x8,x9,x10,x11⟩,x12,x13⟩⟩,x14⟩:=a0z
 unfold qfr at h
 refine qac.of_vcN qa2 (fun _ _=>Tryz.call197 _ _) Tryz.func197 (by kernel_rfl) (inl:=[1000000]) ?_
 conv=>whnf
 replace h:=qaa h
 obtain⟨x15,h3,h⟩:=h
 refine⟨_,(qf4 n _ _ h3),?_⟩
 conv=>whnf
 refine⟨id,id,id,id,id,id,id,id,id,id,id,id,id,id,id,id,id,id,id,?_⟩
 conv=>whnf
 refine ifc h (fun hc h=>?_) (fun hc h=>?_)
 ·obtain rfl:=sj h
  conv=>whnf
  try exact fin
 ·conv=>whnf
  refine⟨id,id,id,id,?_⟩
  conv=>whnf
  refine ifc h (fun hc h=>?_) (fun hc h=>?_)
  ·conv=>whnf
   replace h:=qaa h
   obtain⟨x16,h1,h⟩:=h
   refine⟨_,(qpg n _ _ _ h1),?_⟩
   obtain rfl:=sj h
   conv=>whnf
   try exact fin
  ·conv=>whnf
   replace h:=qaa h
   obtain⟨x17,h2,h⟩:=h
   refine⟨_,(qt2 n _ _ h2),?_⟩
   obtain rfl:=sj h
   conv=>whnf
   try exact fin
def qne (n:Nat):qbe→Option (Bool)
 | .path x=>qg6 n x
 | .expr x=>qf2 n x
 | .item x=>qmn n x
 | .sorted x=>qj9 n x
 | .name x=>qme n x
 | .change x=>qfr n x
def q0h:qbe→FuncId
 | .path _=>161
 | .expr _=>189
 | .item _=>191
 | .sorted _=>193
 | .name _=>195
 | .change _=>197
theorem q7x (n:Nat):∀ (x:qbe) (r:Bool),qne n x=some r→zbx Tryz.prog x.tid "wattle/spell.may" (q0h x)∧qac Tryz.prog (q0h x) [x.val] (qq5 r)
 | .path x,r,h=>⟨fun _ _=>rfl,qxw n x r h⟩
 | .expr x,r,h=>⟨fun _ _=>rfl,qmv n x r h⟩
 | .item x,r,h=>⟨fun _ _=>rfl,qxz n x r h⟩
 | .sorted x,r,h=>⟨fun _ _=>rfl,qu5 n x r h⟩
 | .name x,r,h=>⟨fun _ _=>rfl,qw7 n x r h⟩
 | .change x,r,h=>⟨fun _ _=>rfl,qvb n x r h⟩
end W
end
