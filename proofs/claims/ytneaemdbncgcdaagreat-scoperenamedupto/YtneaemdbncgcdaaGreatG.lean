/- A part of the proof: contracts, printed by program. -/
import Derived.Test.YtneaemdbncgcdaaGreatB
import Derived.Test.YtneaemdbncgcdaaGreatC
import Derived.Test.YtneaemdbncgcdaaGreatF
set_option linter.unusedVariables false
set_option linter.unusedSimpArgs false
set_option linter.unnecessarySimpa false
set_option linter.deprecated false
set_option linter.unusedSectionVars false
set_option linter.constructorNameAsVariable false
section
set_option maxRecDepth 100000
open Go Go.Proofs Ax
namespace W
abbrev q5s (r:Bool):PV:=PV.bool r
def qnc (n:Nat) (a0z:qaf) (x14:Bool):Option (Bool):=
 match a0z with
 | ⟨x1,x2,x3,⟨x4,x5,⟨x6,x7,x8,x9,x10,x11⟩,x12,x13⟩⟩=>
 bnd (qf3 n x1) fun x15=>
 bif(!x15)then(
 some false)
 else(
 bif(x2==([]:SS))then(
 bnd (qiy n x3) fun x16=>
 bnd (qa2 x16 (qp9 n (qab.mk x4 x5 (Val.mk x6 x7 x8 x9 x10 x11) x12 x13))) fun x17=>
 some (bif x16 then x17 else false))
 else(
 bnd (qa2 (!(!(x3==([]:SS)))) (qiy n x2)) fun x18=>
 bif(bif(!(x3==([]:SS)))then true else(!x18))then(
 some false)
 else(
 bif x14 then(
 bnd (qe0 n (qab.mk x4 x5 (Val.mk x6 x7 x8 x9 x10 x11) x12 x13)) fun x19=>
 some x19)
 else(
 bnd (qp9 n (qab.mk x4 x5 (Val.mk x6 x7 x8 x9 x10 x11) x12 x13)) fun x20=>
 some x20))))
theorem q32 (n:Nat):∀ (a0z:qaf) (x14 r:Bool),qnc n a0z x14=some r→qae Tryz.prog 65 [PV.agg (qid.cells a0z),PV.bool x14] (q5s r):=by
 intro a0z x14 r h
 obtain⟨x1,x2,x3,⟨x4,x5,⟨x6,x7,x8,x9,x10,x11⟩,x12,x13⟩⟩:=a0z
 unfold qnc at h
 refine qae.of_vcN qa6 (fun _ _=>Tryz.call65 _ _) Tryz.func65 (by kernel_rfl) (inl:=[1000000]) ?_
 conv=>whnf
 replace h:=qaa h
 obtain⟨x15,h6,h⟩:=h
 refine⟨_,(qgo n _ _ h6),?_⟩
 conv=>whnf
 refine ifc h (fun hc h=>?_) (fun hc h=>?_)
 ·obtain rfl:=sj h
  conv=>whnf
  try exact fin
 ·conv=>whnf
  refine ifc h (fun hc h=>?_) (fun hc h=>?_)
  ·conv=>whnf
   replace h:=qaa h
   obtain⟨x16,h2,h⟩:=h
   refine⟨_,(qhv n _ _ h2),?_⟩
   conv=>whnf
   refine⟨id,id,?_⟩
   conv=>whnf
   replace h:=qaa h
   obtain⟨x17,h1,h⟩:=h
   refine⟨_,fun hg=>(qzf n _ _ (qah h1 hg)),?_⟩
   conv=>whnf
   refine⟨id,?_⟩
   obtain rfl:=sj h
   conv=>whnf
   try exact fin
  ·conv=>whnf
   refine⟨id,id,?_⟩
   conv=>whnf
   replace h:=qaa h
   obtain⟨x18,h5,h⟩:=h
   refine⟨_,fun hg=>(qhv n _ _ (qah h5 hg)),?_⟩
   conv=>whnf
   refine⟨id,id,?_⟩
   conv=>whnf
   refine ifc h (fun hc h=>?_) (fun hc h=>?_)
   ·obtain rfl:=sj h
    conv=>whnf
    try exact fin
   ·conv=>whnf
    refine ifc h (fun hc h=>?_) (fun hc h=>?_)
    ·conv=>whnf
     replace h:=qaa h
     obtain⟨x19,h3,h⟩:=h
     refine⟨_,(qhe n _ _ h3),?_⟩
     obtain rfl:=sj h
     conv=>whnf
     try exact fin
    ·conv=>whnf
     replace h:=qaa h
     obtain⟨x20,h4,h⟩:=h
     refine⟨_,(qzf n _ _ h4),?_⟩
     obtain rfl:=sj h
     conv=>whnf
     try exact fin
abbrev q0b (r:Bool):PV:=PV.bool r
def qes (n:Nat) (x20:List qaf) (x1:Int):(Int→Option (Bool))→Int→Option (Bool):=fun nx2 x59=>
bif(decide (x59<((qaf.rows x20).length:Int)))then(
bnd (idx x20 x59) fun⟨x60,x61,x62,⟨x63,x64,⟨x65,x66,x67,x68,x69,x70⟩,x71,x72⟩⟩=>
bnd (qnc n (qaf.mk x60 x61 x62 (qab.mk x63 x64 (Val.mk x65 x66 x67 x68 x69 x70) x71 x72)) (x1==6)) fun x73=>
bif(!x73)then(
some false)
else(
nx2 (IntKind.i64.wrap (x59+1))))
else(
some (decide (((qaf.rows x20).length:Int)>0)))
def qe1 (n:Nat) (x21:List SS):(Int→Option (Bool))→Int→Option (Bool):=fun nx3 x74=>
bif(decide (x74<((qak x21).length:Int)))then(
bnd (idx x21 x74) fun x75=>
bnd (qf3 n x75) fun x76=>
bif(!x76)then(
some false)
else(
nx3 (IntKind.i64.wrap (x74+1))))
else(
some (decide (((qak x21).length:Int)>0)))
def qhm (n:Nat) (x20:List qaf) (x1:Int) (x21:List SS):Bool→Option (Bool):=fun x58=>
bif x58 then(
qas (qes n x20 x1) n (0:Int))
else(
bif(x1==8)then(
qas (qe1 n x21) n (0:Int))
else(
some false))
def qh0 (n:Nat) (x1:Int) (x2:List qa8) (x3:List qab) (x4:Int) (x5:SS) (x6:Int) (x7:Bool) (x8:Int) (x9:SS) (x10:List Val) (x11 x12:List SS) (x13:List qab) (x14:SS) (x15:List qbf) (x16:Bool) (x17:List qaq) (x18 x19:List qab) (x20:List qaf) (x21:List SS) (x22:Bool):Bool→Option (Bool):=fun x53=>
bif x53 then(
bnd (qsx n (qac.mk x1 x2 x3 (qab.mk x4 x5 (Val.mk x6 x7 x8 x9 x10 x11) x12 x13) x14 x15 x16 x17 x18 x19 x20 x21 x22)) fun x54=>
bnd (qa2 x54 (qk7 n x3 (1:Int))) fun x55=>
some (bif x54 then x55 else false))
else(
bif(x1==4)then(
some (decide (((qa8.rows x2).length:Int)>0)))
else(
bif(x1==5)then(
bnd (qa2 (((qa8.rows x2).length:Int)==1) (idx x2 (0:Int))) fun⟨x56,x57⟩=>
some (bif(((qa8.rows x2).length:Int)==1)then(((qag.rows x57).length:Int)==0)else false))
else(
bif(x1==6)then(
qhm n x20 x1 x21 (x1==6))
else(
qhm n x20 x1 x21 (x1==7)))))
def qeu (n:Nat) (x2:List qa8) (x1:Int) (x3:List qab) (x4:Int) (x5:SS) (x6:Int) (x7:Bool) (x8:Int) (x9:SS) (x10:List Val) (x11 x12:List SS) (x13:List qab) (x14:SS) (x15:List qbf) (x16:Bool) (x17:List qaq) (x18 x19:List qab) (x20:List qaf) (x21:List SS) (x22:Bool):(Int→Option (Bool))→Int→Option (Bool):=fun nx1 x46=>
bif(decide (x46<((qa8.rows x2).length:Int)))then(
bnd (idx x2 x46) fun⟨x47,x48⟩=>
bnd (qlo n (qa8.mk x47 x48)) fun x49=>
bif(!x49)then(
some false)
else(
nx1 (IntKind.i64.wrap (x46+1))))
else(
bif(x1==1)then(
bnd (qa2 (decide (((qa8.rows x2).length:Int)>0)) (qk7 n x3 (1:Int))) fun x50=>
some (bif(decide (((qa8.rows x2).length:Int)>0))then x50 else false))
else(
bif(x1==2)then(
bnd (qe0 n (qab.mk x4 x5 (Val.mk x6 x7 x8 x9 x10 x11) x12 x13)) fun x51=>
bnd (qa2 x51 (qf3 n x14)) fun x52=>
some (bif x51 then x52 else false))
else(
bif(x1==3)then(
qh0 n x1 x2 x3 x4 x5 x6 x7 x8 x9 x10 x11 x12 x13 x14 x15 x16 x17 x18 x19 x20 x21 x22 (x1==3))
else(
qh0 n x1 x2 x3 x4 x5 x6 x7 x8 x9 x10 x11 x12 x13 x14 x15 x16 x17 x18 x19 x20 x21 x22 (x1==9)))))
def qev (n:Nat) (a0z:qac):Option (Bool):=
 match a0z with
 | ⟨x1,x2,x3,⟨x4,x5,⟨x6,x7,x8,x9,x10,x11⟩,x12,x13⟩,x14,x15,x16,x17,x18,x19,x20,x21,x22⟩=>
 bnd (qq3 n (qac.mk x1 x2 x3 (qab.mk x4 x5 (Val.mk x6 x7 x8 x9 x10 x11) x12 x13) x14 x15 x16 x17 x18 x19 x20 x21 x22)) fun⟨x23,x24,x25,⟨x26,x27,⟨x28,x29,x30,x31,x32,x33⟩,x34,x35⟩,x36,x37,x38,x39,x40,x41,x42,x43,x44⟩=>
 bnd (qfz n (qac.mk x23 x24 x25 (qab.mk x26 x27 (Val.mk x28 x29 x30 x31 x32 x33) x34 x35) x36 x37 x38 x39 x40 x41 x42 x43 x44) (qac.mk x1 x2 x3 (qab.mk x4 x5 (Val.mk x6 x7 x8 x9 x10 x11) x12 x13) x14 x15 x16 x17 x18 x19 x20 x21 x22)) fun x45=>
 bif(!x45)then(
 some false)
 else(
 qas (qeu n x2 x1 x3 x4 x5 x6 x7 x8 x9 x10 x11 x12 x13 x14 x15 x16 x17 x18 x19 x20 x21 x22) n (0:Int))
set_option maxHeartbeats 4000000 in
theorem qze (n:Nat):∀ (a0z:qac) (r:Bool),qev n a0z=some r→qae Tryz.prog 28 [PV.agg (qds.cells a0z)] (q0b r):=by
 intro a0z r h
 obtain⟨x1,x2,x3,⟨x4,x5,⟨x6,x7,x8,x9,x10,x11⟩,x12,x13⟩,x14,x15,x16,x17,x18,x19,x20,x21,x22⟩:=a0z
 unfold qev at h
 refine qae.of_vcN qa6 (fun _ _=>Tryz.call28 _ _) Tryz.func28 (by kernel_rfl) (inl:=[1000000]) ?_
 conv=>whnf
 replace h:=qaa h
 obtain⟨⟨x23,x24,x25,⟨x26,x27,⟨x28,x29,x30,x31,x32,x33⟩,x34,x35⟩,x36,x37,x38,x39,x40,x41,x42,x43,x44⟩,h14,h⟩:=h
 refine⟨_,(q91 n _ _ h14),?_⟩
 conv=>whnf
 replace h:=qaa h
 obtain⟨x45,h13,h⟩:=h
 refine⟨_,(qyk n _ _ _ h13),?_⟩
 conv=>whnf
 refine ifc h (fun hc h=>?_) (fun hc h=>?_)
 ·obtain rfl:=sj h
  conv=>whnf
  try exact fin
 ·conv=>whnf
  refine qb4.fn [1000000] (S:=Int) (fun x46=>[(1,.ptr 0 0),(3,pI x46)]) (fun x46=>[.box 55 [pI x1,pP x2,pE x3,pI x4,pS x5,pI x6,pB x7,pI x8,pS x9,pV x10,pT x11,pT x12,pE x13,pS x14,pA x15,pB x16,pO x17,pE x18,pE x19,pU x20,pT x21,pB x22]]) (B:=qeu n x2 x1 x3 x4 x5 x6 x7 x8 x9 x10 x11 x12 x13 x14 x15 x16 x17 x18 x19 x20 x21 x22) h (wk [0] []) ?_
  intro nx1 x46 h
  unfold qeu at h
  conv=>whnf
  refine ifc h (fun hc h=>?_) (fun hc h=>?_)
  ·conv=>whnf
   replace h:=qaa h
   obtain⟨⟨x47,x48⟩,h2,h⟩:=h
   refine⟨_,Codec.at_ qnf h2,?_⟩
   conv=>whnf
   replace h:=qaa h
   obtain⟨x49,h1,h⟩:=h
   refine⟨_,(q2g n _ _ h1),?_⟩
   conv=>whnf
   refine ifc h (fun hc h=>?_) (fun hc h=>?_)
   ·obtain rfl:=sj h
    conv=>whnf
    try exact fin
   ·conv=>whnf
    exact⟨(IntKind.i64.wrap (x46+1)),h,wk [0] []⟩
  ·conv=>whnf
   refine ifc h (fun hc h=>?_) (fun hc h=>?_)
   ·conv=>whnf
    refine⟨id,id,?_⟩
    conv=>whnf
    replace h:=qaa h
    obtain⟨x50,h3,h⟩:=h
    refine⟨_,fun hg=>(qov n _ _ _ (qah h3 hg)),?_⟩
    conv=>whnf
    refine⟨id,?_⟩
    obtain rfl:=sj h
    conv=>whnf
    try exact fin
   ·conv=>whnf
    refine ifc h (fun hc h=>?_) (fun hc h=>?_)
    ·conv=>whnf
     replace h:=qaa h
     obtain⟨x51,h5,h⟩:=h
     refine⟨_,(qhe n _ _ h5),?_⟩
     conv=>whnf
     refine⟨id,id,?_⟩
     conv=>whnf
     replace h:=qaa h
     obtain⟨x52,h4,h⟩:=h
     refine⟨_,fun hg=>(qgo n _ _ (qah h4 hg)),?_⟩
     conv=>whnf
     refine⟨id,?_⟩
     obtain rfl:=sj h
     conv=>whnf
     try exact fin
    ·conv=>whnf
     refine qme.cut (S:=Bool) (fun x53=>[(1,.ptr 0 0),(26,pI x1),(48,pB x53)]) (fun x53=>[.box 55 [pI x1,pP x2,pE x3,pI x4,pS x5,pI x6,pB x7,pI x8,pS x9,pV x10,pT x11,pT x12,pE x13,pS x14,pA x15,pB x16,pO x17,pE x18,pE x19,pU x20,pT x21,pB x22]]) (qh0 n x1 x2 x3 x4 x5 x6 x7 x8 x9 x10 x11 x12 x13 x14 x15 x16 x17 x18 x19 x20 x21 x22) (r:=r) ?_ ?_
     ·intro x53 h
      unfold qh0 at h
      conv=>whnf
      refine ifc h (fun hc h=>?_) (fun hc h=>?_)
      ·conv=>whnf
       replace h:=qaa h
       obtain⟨x54,h7,h⟩:=h
       refine⟨_,(q60 n _ _ h7),?_⟩
       conv=>whnf
       refine⟨id,id,?_⟩
       conv=>whnf
       replace h:=qaa h
       obtain⟨x55,h6,h⟩:=h
       refine⟨_,fun hg=>(qov n _ _ _ (qah h6 hg)),?_⟩
       conv=>whnf
       refine⟨id,?_⟩
       obtain rfl:=sj h
       conv=>whnf
       try exact fin
      ·conv=>whnf
       refine ifc h (fun hc h=>?_) (fun hc h=>?_)
       ·obtain rfl:=sj h
        conv=>whnf
        try exact fin
       ·conv=>whnf
        refine ifc h (fun hc h=>?_) (fun hc h=>?_)
        ·conv=>whnf
         refine⟨id,id,?_⟩
         conv=>whnf
         replace h:=qaa h
         obtain⟨⟨x56,x57⟩,h8,h⟩:=h
         refine⟨_,fun hg=>Codec.at_ qnf (qah h8 hg),?_⟩
         conv=>whnf
         refine⟨id,id,id,id,id,?_⟩
         obtain rfl:=sj h
         conv=>whnf
         try exact fin
        ·conv=>whnf
         refine qme.cut (S:=Bool) (fun x58=>[(1,.ptr 0 0),(26,pI x1),(79,pB x58)]) (fun x58=>[.box 55 [pI x1,pP x2,pE x3,pI x4,pS x5,pI x6,pB x7,pI x8,pS x9,pV x10,pT x11,pT x12,pE x13,pS x14,pA x15,pB x16,pO x17,pE x18,pE x19,pU x20,pT x21,pB x22]]) (qhm n x20 x1 x21) (r:=r) ?_ ?_
         ·intro x58 h
          unfold qhm at h
          conv=>whnf
          refine ifc h (fun hc h=>?_) (fun hc h=>?_)
          ·conv=>whnf
           refine qb4.fn [1000000] (S:=Int) (fun x59=>[(1,.ptr 0 0),(4,pI x59)]) (fun x59=>[.box 55 [pI x1,pP x2,pE x3,pI x4,pS x5,pI x6,pB x7,pI x8,pS x9,pV x10,pT x11,pT x12,pE x13,pS x14,pA x15,pB x16,pO x17,pE x18,pE x19,pU x20,pT x21,pB x22]]) (B:=qes n x20 x1) h (wk [0] []) ?_
           intro nx2 x59 h
           unfold qes at h
           conv=>whnf
           refine ifc h (fun hc h=>?_) (fun hc h=>?_)
           ·conv=>whnf
            replace h:=qaa h
            obtain⟨⟨x60,x61,x62,⟨x63,x64,⟨x65,x66,x67,x68,x69,x70⟩,x71,x72⟩⟩,h10,h⟩:=h
            refine⟨_,Codec.at_ qid h10,?_⟩
            conv=>whnf
            replace h:=qaa h
            obtain⟨x73,h9,h⟩:=h
            refine⟨_,(q32 n _ _ _ h9),?_⟩
            conv=>whnf
            refine ifc h (fun hc h=>?_) (fun hc h=>?_)
            ·obtain rfl:=sj h
             conv=>whnf
             try exact fin
            ·conv=>whnf
             exact⟨(IntKind.i64.wrap (x59+1)),h,wk [0] []⟩
           ·obtain rfl:=sj h
            conv=>whnf
            try exact fin
          ·conv=>whnf
           refine ifc h (fun hc h=>?_) (fun hc h=>?_)
           ·conv=>whnf
            refine qb4.fn [1000000] (S:=Int) (fun x74=>[(1,.ptr 0 0),(5,pI x74)]) (fun x74=>[.box 55 [pI x1,pP x2,pE x3,pI x4,pS x5,pI x6,pB x7,pI x8,pS x9,pV x10,pT x11,pT x12,pE x13,pS x14,pA x15,pB x16,pO x17,pE x18,pE x19,pU x20,pT x21,pB x22]]) (B:=qe1 n x21) h (wk [0] []) ?_
            intro nx3 x74 h
            unfold qe1 at h
            conv=>whnf
            refine ifc h (fun hc h=>?_) (fun hc h=>?_)
            ·conv=>whnf
             replace h:=qaa h
             obtain⟨x75,h12,h⟩:=h
             refine⟨_,Codec.at_ qp6 h12,?_⟩
             conv=>whnf
             replace h:=qaa h
             obtain⟨x76,h11,h⟩:=h
             refine⟨_,(qgo n _ _ h11),?_⟩
             conv=>whnf
             refine ifc h (fun hc h=>?_) (fun hc h=>?_)
             ·obtain rfl:=sj h
              conv=>whnf
              try exact fin
             ·conv=>whnf
              exact⟨(IntKind.i64.wrap (x74+1)),h,wk [0] []⟩
            ·obtain rfl:=sj h
             conv=>whnf
             try exact fin
           ·obtain rfl:=sj h
            conv=>whnf
            try exact fin
         ·conv=>whnf
          refine ifc h (fun hc h=>?_) (fun hc h=>?_)
          ·conv=>whnf
           exact⟨(x1==6),h,wk [0] []⟩
          ·conv=>whnf
           exact⟨(x1==7),h,wk [0] []⟩
     ·conv=>whnf
      refine ifc h (fun hc h=>?_) (fun hc h=>?_)
      ·conv=>whnf
       exact⟨(x1==3),h,wk [0] []⟩
      ·conv=>whnf
       exact⟨(x1==9),h,wk [0] []⟩
abbrev zch (r:Bool):PV:=PV.bool r
def qkq (n:Nat) (x1:List qac):(Int→Option (Bool))→Int→Option (Bool):=fun nx1 x2=>
bif(decide (x2<((qac.rows x1).length:Int)))then(
bnd (idx x1 x2) fun⟨x3,x4,x5,⟨x6,x7,⟨x8,x9,x10,x11,x12,x13⟩,x14,x15⟩,x16,x17,x18,x19,x20,x21,x22,x23,x24⟩=>
bnd (qev n (qac.mk x3 x4 x5 (qab.mk x6 x7 (Val.mk x8 x9 x10 x11 x12 x13) x14 x15) x16 x17 x18 x19 x20 x21 x22 x23 x24)) fun x25=>
bnd (qa2 (!(!x25)) (idx x1 x2)) fun⟨x26,x27,x28,⟨x29,x30,⟨x31,x32,x33,x34,x35,x36⟩,x37,x38⟩,x39,x40,x41,x42,x43,x44,x45,x46,x47⟩=>
bif(bif(!x25)then true else(bif(x26==9)then(decide ((IntKind.i64.wrap (x2+1))<((qac.rows x1).length:Int)))else false))then(
some false)
else(
nx1 (IntKind.i64.wrap (x2+1))))
else(
bnd (qa2 (bif(decide (((qac.rows x1).length:Int)>0))then(decide (((qac.rows x1).length:Int)≤64))else false) (idx x1 (IntKind.i64.wrap (((qac.rows x1).length:Int) - 1)))) fun⟨x48,x49,x50,⟨x51,x52,⟨x53,x54,x55,x56,x57,x58⟩,x59,x60⟩,x61,x62,x63,x64,x65,x66,x67,x68,x69⟩=>
bnd (qa2 ((bif(decide (((qac.rows x1).length:Int)>0))then(decide (((qac.rows x1).length:Int)≤64))else false)&&(!(x48==9))) (idx x1 (IntKind.i64.wrap (((qac.rows x1).length:Int) - 1)))) fun⟨x70,x71,x72,⟨x73,x74,⟨x75,x76,x77,x78,x79,x80⟩,x81,x82⟩,x83,x84,x85,x86,x87,x88,x89,x90,x91⟩=>
bnd (qa2 ((bif(decide (((qac.rows x1).length:Int)>0))then(decide (((qac.rows x1).length:Int)≤64))else false)&&(!(x48==9))) (qm9 n x70)) fun x92=>
some (bif(bif(decide (((qac.rows x1).length:Int)>0))then(decide (((qac.rows x1).length:Int)≤64))else false)then(bif(x48==9)then true else x92)else false))
def qko (n:Nat) (a0z:qi2):Option (Bool):=
 match a0z with
 | ⟨x1⟩=>
 qas (qkq n x1) n (0:Int)
theorem qo1 (n:Nat):∀ (a0z:qi2) (r:Bool),qko n a0z=some r→qae Tryz.prog 18 [PV.agg (q35.cells a0z)] (zch r):=by
 intro a0z r h
 obtain⟨x1⟩:=a0z
 unfold qko at h
 refine qae.of_vcN qa6 (fun _ _=>Tryz.call18 _ _) Tryz.func18 (by kernel_rfl) (inl:=[1000000]) ?_
 conv=>whnf
 refine qb4.fn [1000000] (S:=Int) (fun x2=>[(1,.ptr 0 0),(3,.p (.int .i64 ((qac.rows x1).length:Int))),(4,pI x2)]) (fun x2=>[.box 24 [pC x1]]) (B:=qkq n x1) h (wk [0] []) ?_
 intro nx1 x2 h
 unfold qkq at h
 conv=>whnf
 refine ifc h (fun hc h=>?_) (fun hc h=>?_)
 ·conv=>whnf
  replace h:=qaa h
  obtain⟨⟨x3,x4,x5,⟨x6,x7,⟨x8,x9,x10,x11,x12,x13⟩,x14,x15⟩,x16,x17,x18,x19,x20,x21,x22,x23,x24⟩,h3,h⟩:=h
  refine⟨_,Codec.at_ qds h3,?_⟩
  conv=>whnf
  replace h:=qaa h
  obtain⟨x25,h2,h⟩:=h
  refine⟨_,(qze n _ _ h2),?_⟩
  conv=>whnf
  refine⟨id,id,id,?_⟩
  conv=>whnf
  replace h:=qaa h
  obtain⟨⟨x26,x27,x28,⟨x29,x30,⟨x31,x32,x33,x34,x35,x36⟩,x37,x38⟩,x39,x40,x41,x42,x43,x44,x45,x46,x47⟩,h1,h⟩:=h
  refine⟨_,fun hg=>Codec.at_ qds (qah h1 hg),?_⟩
  conv=>whnf
  refine⟨id,id,id,id,id,id,id,id,id,id,?_⟩
  conv=>whnf
  refine ifc h (fun hc h=>?_) (fun hc h=>?_)
  ·obtain rfl:=sj h
   conv=>whnf
   try exact fin
  ·conv=>whnf
   exact⟨(IntKind.i64.wrap (x2+1)),h,wk [0] []⟩
 ·conv=>whnf
  refine⟨id,id,id,id,id,id,?_⟩
  conv=>whnf
  replace h:=qaa h
  obtain⟨⟨x48,x49,x50,⟨x51,x52,⟨x53,x54,x55,x56,x57,x58⟩,x59,x60⟩,x61,x62,x63,x64,x65,x66,x67,x68,x69⟩,h6,h⟩:=h
  refine⟨_,fun hg=>Codec.at_ qds (qah h6 hg),?_⟩
  conv=>whnf
  refine⟨id,id,id,id,id,id,id,id,?_⟩
  conv=>whnf
  replace h:=qaa h
  obtain⟨⟨x70,x71,x72,⟨x73,x74,⟨x75,x76,x77,x78,x79,x80⟩,x81,x82⟩,x83,x84,x85,x86,x87,x88,x89,x90,x91⟩,h5,h⟩:=h
  refine⟨_,fun hg=>Codec.at_ qds (qah h5 hg),?_⟩
  conv=>whnf
  refine⟨id,id,id,?_⟩
  conv=>whnf
  replace h:=qaa h
  obtain⟨x92,h4,h⟩:=h
  refine⟨_,fun hg=>(qv3 n _ _ (qah h4 hg)),?_⟩
  conv=>whnf
  refine⟨id,id,id,?_⟩
  obtain rfl:=sj h
  conv=>whnf
  try exact fin
abbrev q69 (r:qi2×Int×Int):PV:=PV.tup [PV.agg (q35.cells r.1),PV.int .i64 r.2.1,PV.int .i64 r.2.2]
def qoo (n:Nat) (x2:List qam):Int×Bool×List qac→Option (qi2×Int×Int):=fun(x5,x6,x7)=>
bif x6 then(
bnd (idx x2 x5) fun⟨x8,x9,x10,x11⟩=>
some (qi2.mk ([]:List qac),x11,(1:Int)))
else(
bnd (qko n (qi2.mk x7)) fun x12=>
bif(!x12)then(
some (qi2.mk ([]:List qac),(0:Int),(8:Int)))
else(
some (qi2.mk x7,(0:Int),(0:Int))))
def qsj (n:Nat) (x2:List qam):(Int×Int×Bool×List qac→Option (qi2×Int×Int))→Int×Int×Bool×List qac→Option (qi2×Int×Int):=fun nx1 (x13,x14,x15,x16)=>
bnd (qa2 (!x15) (idx x2 x14)) fun⟨x17,x18,x19,x20⟩=>
bnd (qa2 ((!x15)&&(!(x17 != 6))) (qm9 n x13)) fun x21=>
bif(bif(!x15)then(bif(x17 != 6)then true else(bif(!x21)then(x13 != 9)else false))else false)then(
bif(x13==9)then(
qoo n x2 (x14,true,x16))
else(
bnd (qsa n x2 x14 x15) fun⟨⟨x22,x23,x24,⟨x25,x26,⟨x27,x28,x29,x30,x31,x32⟩,x33,x34⟩,x35,x36,x37,x38,x39,x40,x41,x42,x43⟩,x44,x45⟩=>
chk (decide ((qac.rows (x16++[qac.mk x22 x23 x24 (qab.mk x25 x26 (Val.mk x27 x28 x29 x30 x31 x32) x33 x34) x35 x36 x37 x38 x39 x40 x41 x42 x43])).length * 392≤140737488355328)) (
nx1 (x22,x44,x45,(x16++[qac.mk x22 x23 x24 (qab.mk x25 x26 (Val.mk x27 x28 x29 x30 x31 x32) x33 x34) x35 x36 x37 x38 x39 x40 x41 x42 x43])))))
else(
qoo n x2 (x14,x15,x16))
def qqy (n:Nat) (x1:SS):Option (qi2×Int×Int):=
 bnd (q0t n x1) fun⟨x2,x3,x4⟩=>
 bif(x4 != 0)then(
 some (qi2.mk ([]:List qac),x3,x4))
 else(
 qas (qsj n x2) n ((0:Int),(0:Int),false,([]:List _)))
set_option maxHeartbeats 4000000 in
theorem qsk (n:Nat):∀ (x1:SS) (r:qi2×Int×Int),qqy n x1=some r→qae Tryz.prog 17 [PV.str x1] (q69 r):=by
 intro x1 r h
 unfold qqy at h
 refine qae.of_vcN qa6 (fun _ _=>Tryz.call17 _ _) Tryz.func17 (by kernel_rfl) (inl:=[27,40000014,50000002,60004000,1000000]) ?_
 conv=>whnf
 replace h:=qaa h
 obtain⟨⟨x2,x3,x4⟩,h7,h⟩:=h
 refine⟨_,(q8k n _ _ h7),?_⟩
 conv=>whnf
 refine ifc h (fun hc h=>?_) (fun hc h=>?_)
 ·obtain rfl:=sj h
  conv=>whnf
  try exact fin
 ·conv=>whnf
  refine qme.cut (S:=Int×Bool×List qac) (fun(x5,x6,x7)=>[(2,.ptr 0 0),(8,.ptr 1 0),(9,.ptr 2 0)]) (fun(x5,x6,x7)=>[.box 24 [.p (.nilsl)],.box 85 [pK x2,pI x5,pB x6],.box 24 [.tsl 3 (qac.rows x7)],.tail 55 22 (qac.rows x7).length]) (qoo n x2) (r:=r) ?_ ?_
  ·intro st h
   obtain⟨x5,x6,x7⟩:=st
   unfold qoo at h
   conv=>whnf
   refine ifc h (fun hc h=>?_) (fun hc h=>?_)
   ·conv=>whnf
    replace h:=qaa h
    obtain⟨⟨x8,x9,x10,x11⟩,h1,h⟩:=h
    refine⟨_,Codec.at_ qo4 h1,?_⟩
    obtain rfl:=sj h
    conv=>whnf
    try exact fin
   ·conv=>whnf
    replace h:=qaa h
    obtain⟨x12,h2,h⟩:=h
    refine⟨_,(qo1 n _ _ h2),?_⟩
    conv=>whnf
    refine ifc h (fun hc h=>?_) (fun hc h=>?_)
    ·obtain rfl:=sj h
     conv=>whnf
     try exact fin
    ·obtain rfl:=sj h
     conv=>whnf
     try exact fin
  ·conv=>whnf
   refine qb4.fn [27,40000014,50000002,60004000,1000000] (S:=Int×Int×Bool×List qac) (fun(x13,x14,x15,x16)=>[(2,.ptr 0 0),(8,.ptr 1 0),(9,.ptr 2 0),(10,pI x13)]) (fun(x13,x14,x15,x16)=>[.box 24 [.p (.nilsl)],.box 85 [pK x2,pI x14,pB x15],.box 24 [.tsl 3 (qac.rows x16)],.tail 55 22 (qac.rows x16).length]) (B:=qsj n x2) h (wk [0,1,2,0] [3]) ?_
   intro nx1 st h
   obtain⟨x13,x14,x15,x16⟩:=st
   unfold qsj at h
   conv=>whnf
   refine⟨id,id,id,id,id,id,id,id,?_⟩
   conv=>whnf
   replace h:=qaa h
   obtain⟨⟨x17,x18,x19,x20⟩,h6,h⟩:=h
   refine⟨_,fun hg=>Codec.at_ qo4 (qah h6 hg),?_⟩
   conv=>whnf
   refine⟨id,id,id,id,id,?_⟩
   conv=>whnf
   replace h:=qaa h
   obtain⟨x21,h5,h⟩:=h
   refine⟨_,fun hg=>(qv3 n _ _ (qah h5 hg)),?_⟩
   conv=>whnf
   refine⟨id,id,id,id,id,id,id,id,?_⟩
   conv=>whnf
   refine ifc h (fun hc h=>?_) (fun hc h=>?_)
   ·conv=>whnf
    refine ifc h (fun hc h=>?_) (fun hc h=>?_)
    ·conv=>whnf
     exact⟨(x14,true,x16),h,wk [0,1,2,3] []⟩
    ·conv=>whnf
     replace h:=qaa h
     obtain⟨⟨⟨x22,x23,x24,⟨x25,x26,⟨x27,x28,x29,x30,x31,x32⟩,x33,x34⟩,x35,x36,x37,x38,x39,x40,x41,x42,x43⟩,x44,x45⟩,h3,h⟩:=h
     refine qb9 (q0o n _ _ _ _ h3) [1] [] ?_
     rintro _ _ ⟨rfl,rfl⟩
     refine⟨.p (.agg [.int .i64 x22,.sl (qa8.rows x23),.sl (qab.rows x24),.int .i64 x25,.str x26,.int .i64 x27,.bool x28,.int .i64 x29,.str x30,.sl (Val.rows x31),.sl (qak x32),.sl (qak x33),.sl (qab.rows x34),.str x35,.sl (qbf.rows x36),.bool x37,.sl (qaq.rows x38),.sl (qab.rows x39),.sl (qab.rows x40),.sl (qaf.rows x41),.sl (qak x42),.bool x43]),[.box 24 [.p (.nilsl)],.box 85 [pK x2,pI x44,pB x45],.box 24 [.tsl 3 (qac.rows x16)],.tail 55 22 (qac.rows x16).length],rfl,rfl,?_⟩
     conv=>whnf
     refine⟨Codec.one qds [qac.mk x22 x23 x24 (qab.mk x25 x26 (Val.mk x27 x28 x29 x30 x31 x32) x33 x34) x35 x36 x37 x38 x39 x40 x41 x42 x43],qac.rows [qac.mk x22 x23 x24 (qab.mk x25 x26 (Val.mk x27 x28 x29 x30 x31 x32) x33 x34) x35 x36 x37 x38 x39 x40 x41 x42 x43],.inl rfl,?_⟩
     conv=>whnf
     rw[show qac.rows x16++qac.rows [qac.mk x22 x23 x24 (qab.mk x25 x26 (Val.mk x27 x28 x29 x30 x31 x32) x33 x34) x35 x36 x37 x38 x39 x40 x41 x42 x43]=qac.rows (x16++[qac.mk x22 x23 x24 (qab.mk x25 x26 (Val.mk x27 x28 x29 x30 x31 x32) x33 x34) x35 x36 x37 x38 x39 x40 x41 x42 x43])from Codec.append qds x16 [qac.mk x22 x23 x24 (qab.mk x25 x26 (Val.mk x27 x28 x29 x30 x31 x32) x33 x34) x35 x36 x37 x38 x39 x40 x41 x42 x43]]
     conv=>whnf
     obtain⟨h4,h⟩:=qaz h
     refine⟨⟨Codec.wide qds (x16++[qac.mk x22 x23 x24 (qab.mk x25 x26 (Val.mk x27 x28 x29 x30 x31 x32) x33 x34) x35 x36 x37 x38 x39 x40 x41 x42 x43]),of_decide_eq_true h4,qd6 h4 (by decide)⟩,?_⟩
     conv=>whnf
     refine⟨⟨rfl,rfl,rfl⟩,?_⟩
     conv=>whnf
     exact⟨(x22,x44,x45,(x16++[qac.mk x22 x23 x24 (qab.mk x25 x26 (Val.mk x27 x28 x29 x30 x31 x32) x33 x34) x35 x36 x37 x38 x39 x40 x41 x42 x43])),h,wk [0,1,2,5] []⟩
   ·conv=>whnf
    exact⟨(x14,x15,x16),h,wk [0,1,2,3] []⟩
abbrev q1n (r:Bool):PV:=PV.bool r
def qol (n:Nat) (x1:Int):Option (Bool):=
 some (bif(decide (x1≥4))then(decide (x1≤8))else false)
theorem qzy (n:Nat):∀ (x1:Int) (r:Bool),qol n x1=some r→qae Tryz.prog 34 [PV.int .i64 x1] (q1n r):=by
 intro x1 r h
 unfold qol at h
 refine qae.of_vcN qa6 (fun _ _=>Tryz.call34 _ _) Tryz.func34 (by kernel_rfl) (inl:=[1000000]) ?_
 conv=>whnf
 refine⟨id,id,?_⟩
 obtain rfl:=sj h
 conv=>whnf
 try exact fin
abbrev qyc (r:qbg):PV:=(PV.ifc (qbg.tid r) (qbg.val r))
def qls (n:Nat) (a0z:qa8):Option (qbg):=
 match a0z with
 | ⟨x1,x2⟩=>
 some (qbg.path (qa8.mk x1 x2))
theorem qw8 (n:Nat):∀ (a0z:qa8) (r:qbg),qls n a0z=some r→qae Tryz.prog 67 [PV.agg (qnf.cells a0z)] (qyc r):=by
 intro a0z r h
 obtain⟨x1,x2⟩:=a0z
 unfold qls at h
 refine qae.of_vcN qa6 (fun _ _=>Tryz.call67 _ _) Tryz.func67 (by kernel_rfl) (inl:=[1000000]) ?_
 obtain rfl:=sj h
 conv=>whnf
 try exact fin
abbrev qly (r:List qbg):PV:=PV.sl (qbg.rows r)
def qbq (n:Nat) (x1:List qa8):(List qbg×Int→Option (List qbg))→List qbg×Int→Option (List qbg):=fun nx1 (x2,x3)=>
bif(decide (x3<((qa8.rows x1).length:Int)))then(
bnd (idx x1 x3) fun⟨x4,x5⟩=>
bnd (qls n (qa8.mk x4 x5)) fun x6=>
chk (decide ((qbg.rows (x2++[x6])).length * 16≤140737488355328)) (
nx1 ((x2++[x6]),(IntKind.i64.wrap (x3+1)))))
else(
some x2)
def qc8 (n:Nat) (x1:List qa8):Option (List qbg):=
 qas (qbq n x1) n (([]:List _),(0:Int))
theorem qk1 (n:Nat):∀ (x1:List qa8) (r:List qbg),qc8 n x1=some r→qae Tryz.prog 66 [PV.sl (qa8.rows x1),PV.fn 67] (qly r):=by
 intro x1 r h
 unfold qc8 at h
 refine qae.of_vcN qa6 (fun _ _=>Tryz.call66 _ _) Tryz.func66 (by kernel_rfl) (inl:=[1000000]) ?_
 conv=>whnf
 refine qb4.fn [1000000] (S:=List qbg×Int) (fun(x2,x3)=>[(1,.p (.fn 67)),(5,.tsl 0 (qbg.rows x2)),(8,pP x1),(9,.p (.int .i64 ((qa8.rows x1).length:Int))),(10,pI x3)]) (fun(x2,x3)=>[.tail 103 1 (qbg.rows x2).length]) (B:=qbq n x1) h (wk [0] [0]) ?_
 intro nx1 st h
 obtain⟨x2,x3⟩:=st
 unfold qbq at h
 conv=>whnf
 refine ifc h (fun hc h=>?_) (fun hc h=>?_)
 ·conv=>whnf
  replace h:=qaa h
  obtain⟨⟨x4,x5⟩,h3,h⟩:=h
  refine⟨_,Codec.at_ qnf h3,?_⟩
  conv=>whnf
  replace h:=qaa h
  obtain⟨x6,h2,h⟩:=h
  refine⟨_,(qw8 n _ _ h2),?_⟩
  conv=>whnf
  refine⟨Codec.one qod [x6],qbg.rows [x6],.inl rfl,?_⟩
  conv=>whnf
  rw[show qbg.rows x2++qbg.rows [x6]=qbg.rows (x2++[x6])from Codec.append qod x2 [x6]]
  conv=>whnf
  obtain⟨h1,h⟩:=qaz h
  refine⟨⟨Codec.wide qod (x2++[x6]),of_decide_eq_true h1,qd6 h1 (by decide)⟩,?_⟩
  conv=>whnf
  refine⟨⟨rfl,rfl,rfl⟩,?_⟩
  conv=>whnf
  exact⟨((x2++[x6]),(IntKind.i64.wrap (x3+1))),h,wk [2] []⟩
 ·obtain rfl:=sj h
  conv=>whnf
  try exact fin
abbrev qx1 (r:qbg):PV:=(PV.ifc (qbg.tid r) (qbg.val r))
def qlz (n:Nat) (a0z:qab):Option (qbg):=
 match a0z with
 | ⟨x1,x2,⟨x3,x4,x5,x6,x7,x8⟩,x9,x10⟩=>
 some (qbg.expr (qab.mk x1 x2 (Val.mk x3 x4 x5 x6 x7 x8) x9 x10))
theorem qww (n:Nat):∀ (a0z:qab) (r:qbg),qlz n a0z=some r→qae Tryz.prog 69 [PV.agg (qcc.cells a0z)] (qx1 r):=by
 intro a0z r h
 obtain⟨x1,x2,⟨x3,x4,x5,x6,x7,x8⟩,x9,x10⟩:=a0z
 unfold qlz at h
 refine qae.of_vcN qa6 (fun _ _=>Tryz.call69 _ _) Tryz.func69 (by kernel_rfl) (inl:=[1000000]) ?_
 obtain rfl:=sj h
 conv=>whnf
 try exact fin
abbrev qle (r:List qbg):PV:=PV.sl (qbg.rows r)
def qbr (n:Nat) (x1:List qab):(List qbg×Int→Option (List qbg))→List qbg×Int→Option (List qbg):=fun nx1 (x2,x3)=>
bif(decide (x3<((qab.rows x1).length:Int)))then(
bnd (idx x1 x3) fun⟨x4,x5,⟨x6,x7,x8,x9,x10,x11⟩,x12,x13⟩=>
bnd (qlz n (qab.mk x4 x5 (Val.mk x6 x7 x8 x9 x10 x11) x12 x13)) fun x14=>
chk (decide ((qbg.rows (x2++[x14])).length * 16≤140737488355328)) (
nx1 ((x2++[x14]),(IntKind.i64.wrap (x3+1)))))
else(
some x2)
def qc9 (n:Nat) (x1:List qab):Option (List qbg):=
 qas (qbr n x1) n (([]:List _),(0:Int))
theorem qkz (n:Nat):∀ (x1:List qab) (r:List qbg),qc9 n x1=some r→qae Tryz.prog 68 [PV.sl (qab.rows x1),PV.fn 69] (qle r):=by
 intro x1 r h
 unfold qc9 at h
 refine qae.of_vcN qa6 (fun _ _=>Tryz.call68 _ _) Tryz.func68 (by kernel_rfl) (inl:=[1000000]) ?_
 conv=>whnf
 refine qb4.fn [1000000] (S:=List qbg×Int) (fun(x2,x3)=>[(1,.p (.fn 69)),(5,.tsl 0 (qbg.rows x2)),(8,pE x1),(9,.p (.int .i64 ((qab.rows x1).length:Int))),(10,pI x3)]) (fun(x2,x3)=>[.tail 103 1 (qbg.rows x2).length]) (B:=qbr n x1) h (wk [0] [0]) ?_
 intro nx1 st h
 obtain⟨x2,x3⟩:=st
 unfold qbr at h
 conv=>whnf
 refine ifc h (fun hc h=>?_) (fun hc h=>?_)
 ·conv=>whnf
  replace h:=qaa h
  obtain⟨⟨x4,x5,⟨x6,x7,x8,x9,x10,x11⟩,x12,x13⟩,h3,h⟩:=h
  refine⟨_,Codec.at_ qcc h3,?_⟩
  conv=>whnf
  replace h:=qaa h
  obtain⟨x14,h2,h⟩:=h
  refine⟨_,(qww n _ _ h2),?_⟩
  conv=>whnf
  refine⟨Codec.one qod [x14],qbg.rows [x14],.inl rfl,?_⟩
  conv=>whnf
  rw[show qbg.rows x2++qbg.rows [x14]=qbg.rows (x2++[x14])from Codec.append qod x2 [x14]]
  conv=>whnf
  obtain⟨h1,h⟩:=qaz h
  refine⟨⟨Codec.wide qod (x2++[x14]),of_decide_eq_true h1,qd6 h1 (by decide)⟩,?_⟩
  conv=>whnf
  refine⟨⟨rfl,rfl,rfl⟩,?_⟩
  conv=>whnf
  exact⟨((x2++[x14]),(IntKind.i64.wrap (x3+1))),h,wk [2] []⟩
 ·obtain rfl:=sj h
  conv=>whnf
  try exact fin
abbrev qxq (r:qbg):PV:=(PV.ifc (qbg.tid r) (qbg.val r))
def qk9 (n:Nat) (a0z:qbf):Option (qbg):=
 match a0z with
 | ⟨⟨x1,x2,⟨x3,x4,x5,x6,x7,x8⟩,x9,x10⟩,x11⟩=>
 some (qbg.item (qbf.mk (qab.mk x1 x2 (Val.mk x3 x4 x5 x6 x7 x8) x9 x10) x11))
theorem qw5 (n:Nat):∀ (a0z:qbf) (r:qbg),qk9 n a0z=some r→qae Tryz.prog 71 [PV.agg (qsq.cells a0z)] (qxq r):=by
 intro a0z r h
 obtain⟨⟨x1,x2,⟨x3,x4,x5,x6,x7,x8⟩,x9,x10⟩,x11⟩:=a0z
 unfold qk9 at h
 refine qae.of_vcN qa6 (fun _ _=>Tryz.call71 _ _) Tryz.func71 (by kernel_rfl) (inl:=[1000000]) ?_
 obtain rfl:=sj h
 conv=>whnf
 try exact fin
abbrev qlq (r:List qbg):PV:=PV.sl (qbg.rows r)
def qbp (n:Nat) (x1:List qbf):(List qbg×Int→Option (List qbg))→List qbg×Int→Option (List qbg):=fun nx1 (x2,x3)=>
bif(decide (x3<((qbf.rows x1).length:Int)))then(
bnd (idx x1 x3) fun⟨⟨x4,x5,⟨x6,x7,x8,x9,x10,x11⟩,x12,x13⟩,x14⟩=>
bnd (qk9 n (qbf.mk (qab.mk x4 x5 (Val.mk x6 x7 x8 x9 x10 x11) x12 x13) x14)) fun x15=>
chk (decide ((qbg.rows (x2++[x15])).length * 16≤140737488355328)) (
nx1 ((x2++[x15]),(IntKind.i64.wrap (x3+1)))))
else(
some x2)
def qc5 (n:Nat) (x1:List qbf):Option (List qbg):=
 qas (qbp n x1) n (([]:List _),(0:Int))
theorem qk8 (n:Nat):∀ (x1:List qbf) (r:List qbg),qc5 n x1=some r→qae Tryz.prog 70 [PV.sl (qbf.rows x1),PV.fn 71] (qlq r):=by
 intro x1 r h
 unfold qc5 at h
 refine qae.of_vcN qa6 (fun _ _=>Tryz.call70 _ _) Tryz.func70 (by kernel_rfl) (inl:=[1000000]) ?_
 conv=>whnf
 refine qb4.fn [1000000] (S:=List qbg×Int) (fun(x2,x3)=>[(1,.p (.fn 71)),(5,.tsl 0 (qbg.rows x2)),(8,pA x1),(9,.p (.int .i64 ((qbf.rows x1).length:Int))),(10,pI x3)]) (fun(x2,x3)=>[.tail 103 1 (qbg.rows x2).length]) (B:=qbp n x1) h (wk [0] [0]) ?_
 intro nx1 st h
 obtain⟨x2,x3⟩:=st
 unfold qbp at h
 conv=>whnf
 refine ifc h (fun hc h=>?_) (fun hc h=>?_)
 ·conv=>whnf
  replace h:=qaa h
  obtain⟨⟨⟨x4,x5,⟨x6,x7,x8,x9,x10,x11⟩,x12,x13⟩,x14⟩,h3,h⟩:=h
  refine⟨_,Codec.at_ qsq h3,?_⟩
  conv=>whnf
  replace h:=qaa h
  obtain⟨x15,h2,h⟩:=h
  refine⟨_,(qw5 n _ _ h2),?_⟩
  conv=>whnf
  refine⟨Codec.one qod [x15],qbg.rows [x15],.inl rfl,?_⟩
  conv=>whnf
  rw[show qbg.rows x2++qbg.rows [x15]=qbg.rows (x2++[x15])from Codec.append qod x2 [x15]]
  conv=>whnf
  obtain⟨h1,h⟩:=qaz h
  refine⟨⟨Codec.wide qod (x2++[x15]),of_decide_eq_true h1,qd6 h1 (by decide)⟩,?_⟩
  conv=>whnf
  refine⟨⟨rfl,rfl,rfl⟩,?_⟩
  conv=>whnf
  exact⟨((x2++[x15]),(IntKind.i64.wrap (x3+1))),h,wk [2] []⟩
 ·obtain rfl:=sj h
  conv=>whnf
  try exact fin
abbrev qyf (r:qbg):PV:=(PV.ifc (qbg.tid r) (qbg.val r))
def ql0 (n:Nat) (a0z:qaq):Option (qbg):=
 match a0z with
 | ⟨⟨x1,x2,⟨x3,x4,x5,x6,x7,x8⟩,x9,x10⟩,x11⟩=>
 some (qbg.sorted (qaq.mk (qab.mk x1 x2 (Val.mk x3 x4 x5 x6 x7 x8) x9 x10) x11))
theorem qwx (n:Nat):∀ (a0z:qaq) (r:qbg),ql0 n a0z=some r→qae Tryz.prog 73 [PV.agg (qnn.cells a0z)] (qyf r):=by
 intro a0z r h
 obtain⟨⟨x1,x2,⟨x3,x4,x5,x6,x7,x8⟩,x9,x10⟩,x11⟩:=a0z
 unfold ql0 at h
 refine qae.of_vcN qa6 (fun _ _=>Tryz.call73 _ _) Tryz.func73 (by kernel_rfl) (inl:=[1000000]) ?_
 obtain rfl:=sj h
 conv=>whnf
 try exact fin
abbrev qlg (r:List qbg):PV:=PV.sl (qbg.rows r)
def qbs (n:Nat) (x1:List qaq):(List qbg×Int→Option (List qbg))→List qbg×Int→Option (List qbg):=fun nx1 (x2,x3)=>
bif(decide (x3<((qaq.rows x1).length:Int)))then(
bnd (idx x1 x3) fun⟨⟨x4,x5,⟨x6,x7,x8,x9,x10,x11⟩,x12,x13⟩,x14⟩=>
bnd (ql0 n (qaq.mk (qab.mk x4 x5 (Val.mk x6 x7 x8 x9 x10 x11) x12 x13) x14)) fun x15=>
chk (decide ((qbg.rows (x2++[x15])).length * 16≤140737488355328)) (
nx1 ((x2++[x15]),(IntKind.i64.wrap (x3+1)))))
else(
some x2)
def qc4 (n:Nat) (x1:List qaq):Option (List qbg):=
 qas (qbs n x1) n (([]:List _),(0:Int))
theorem qku (n:Nat):∀ (x1:List qaq) (r:List qbg),qc4 n x1=some r→qae Tryz.prog 72 [PV.sl (qaq.rows x1),PV.fn 73] (qlg r):=by
 intro x1 r h
 unfold qc4 at h
 refine qae.of_vcN qa6 (fun _ _=>Tryz.call72 _ _) Tryz.func72 (by kernel_rfl) (inl:=[1000000]) ?_
 conv=>whnf
 refine qb4.fn [1000000] (S:=List qbg×Int) (fun(x2,x3)=>[(1,.p (.fn 73)),(5,.tsl 0 (qbg.rows x2)),(8,pO x1),(9,.p (.int .i64 ((qaq.rows x1).length:Int))),(10,pI x3)]) (fun(x2,x3)=>[.tail 103 1 (qbg.rows x2).length]) (B:=qbs n x1) h (wk [0] [0]) ?_
 intro nx1 st h
 obtain⟨x2,x3⟩:=st
 unfold qbs at h
 conv=>whnf
 refine ifc h (fun hc h=>?_) (fun hc h=>?_)
 ·conv=>whnf
  replace h:=qaa h
  obtain⟨⟨⟨x4,x5,⟨x6,x7,x8,x9,x10,x11⟩,x12,x13⟩,x14⟩,h3,h⟩:=h
  refine⟨_,Codec.at_ qnn h3,?_⟩
  conv=>whnf
  replace h:=qaa h
  obtain⟨x15,h2,h⟩:=h
  refine⟨_,(qwx n _ _ h2),?_⟩
  conv=>whnf
  refine⟨Codec.one qod [x15],qbg.rows [x15],.inl rfl,?_⟩
  conv=>whnf
  rw[show qbg.rows x2++qbg.rows [x15]=qbg.rows (x2++[x15])from Codec.append qod x2 [x15]]
  conv=>whnf
  obtain⟨h1,h⟩:=qaz h
  refine⟨⟨Codec.wide qod (x2++[x15]),of_decide_eq_true h1,qd6 h1 (by decide)⟩,?_⟩
  conv=>whnf
  refine⟨⟨rfl,rfl,rfl⟩,?_⟩
  conv=>whnf
  exact⟨((x2++[x15]),(IntKind.i64.wrap (x3+1))),h,wk [2] []⟩
 ·obtain rfl:=sj h
  conv=>whnf
  try exact fin
abbrev qym (r:qbg):PV:=(PV.ifc (qbg.tid r) (qbg.val r))
def qln (n:Nat) (a0z:qab):Option (qbg):=
 match a0z with
 | ⟨x1,x2,⟨x3,x4,x5,x6,x7,x8⟩,x9,x10⟩=>
 some (qbg.expr (qab.mk x1 x2 (Val.mk x3 x4 x5 x6 x7 x8) x9 x10))
theorem qw3 (n:Nat):∀ (a0z:qab) (r:qbg),qln n a0z=some r→qae Tryz.prog 74 [PV.agg (qcc.cells a0z)] (qym r):=by
 intro a0z r h
 obtain⟨x1,x2,⟨x3,x4,x5,x6,x7,x8⟩,x9,x10⟩:=a0z
 unfold qln at h
 refine qae.of_vcN qa6 (fun _ _=>Tryz.call74 _ _) Tryz.func74 (by kernel_rfl) (inl:=[1000000]) ?_
 obtain rfl:=sj h
 conv=>whnf
 try exact fin
abbrev qli (r:List qbg):PV:=PV.sl (qbg.rows r)
def qbo (n:Nat) (x1:List qab):(List qbg×Int→Option (List qbg))→List qbg×Int→Option (List qbg):=fun nx1 (x2,x3)=>
bif(decide (x3<((qab.rows x1).length:Int)))then(
bnd (idx x1 x3) fun⟨x4,x5,⟨x6,x7,x8,x9,x10,x11⟩,x12,x13⟩=>
bnd (qln n (qab.mk x4 x5 (Val.mk x6 x7 x8 x9 x10 x11) x12 x13)) fun x14=>
chk (decide ((qbg.rows (x2++[x14])).length * 16≤140737488355328)) (
nx1 ((x2++[x14]),(IntKind.i64.wrap (x3+1)))))
else(
some x2)
def qc7 (n:Nat) (x1:List qab):Option (List qbg):=
 qas (qbo n x1) n (([]:List _),(0:Int))
theorem qk5 (n:Nat):∀ (x1:List qab) (r:List qbg),qc7 n x1=some r→qae Tryz.prog 68 [PV.sl (qab.rows x1),PV.fn 74] (qli r):=by
 intro x1 r h
 unfold qc7 at h
 refine qae.of_vcN qa6 (fun _ _=>Tryz.call68 _ _) Tryz.func68 (by kernel_rfl) (inl:=[1000000]) ?_
 conv=>whnf
 refine qb4.fn [1000000] (S:=List qbg×Int) (fun(x2,x3)=>[(1,.p (.fn 74)),(5,.tsl 0 (qbg.rows x2)),(8,pE x1),(9,.p (.int .i64 ((qab.rows x1).length:Int))),(10,pI x3)]) (fun(x2,x3)=>[.tail 103 1 (qbg.rows x2).length]) (B:=qbo n x1) h (wk [0] [0]) ?_
 intro nx1 st h
 obtain⟨x2,x3⟩:=st
 unfold qbo at h
 conv=>whnf
 refine ifc h (fun hc h=>?_) (fun hc h=>?_)
 ·conv=>whnf
  replace h:=qaa h
  obtain⟨⟨x4,x5,⟨x6,x7,x8,x9,x10,x11⟩,x12,x13⟩,h3,h⟩:=h
  refine⟨_,Codec.at_ qcc h3,?_⟩
  conv=>whnf
  replace h:=qaa h
  obtain⟨x14,h2,h⟩:=h
  refine⟨_,(qw3 n _ _ h2),?_⟩
  conv=>whnf
  refine⟨Codec.one qod [x14],qbg.rows [x14],.inl rfl,?_⟩
  conv=>whnf
  rw[show qbg.rows x2++qbg.rows [x14]=qbg.rows (x2++[x14])from Codec.append qod x2 [x14]]
  conv=>whnf
  obtain⟨h1,h⟩:=qaz h
  refine⟨⟨Codec.wide qod (x2++[x14]),of_decide_eq_true h1,qd6 h1 (by decide)⟩,?_⟩
  conv=>whnf
  refine⟨⟨rfl,rfl,rfl⟩,?_⟩
  conv=>whnf
  exact⟨((x2++[x14]),(IntKind.i64.wrap (x3+1))),h,wk [2] []⟩
 ·obtain rfl:=sj h
  conv=>whnf
  try exact fin
abbrev qyl (r:qbg):PV:=(PV.ifc (qbg.tid r) (qbg.val r))
def qlh (n:Nat) (a0z:qab):Option (qbg):=
 match a0z with
 | ⟨x1,x2,⟨x3,x4,x5,x6,x7,x8⟩,x9,x10⟩=>
 some (qbg.expr (qab.mk x1 x2 (Val.mk x3 x4 x5 x6 x7 x8) x9 x10))
theorem qwl (n:Nat):∀ (a0z:qab) (r:qbg),qlh n a0z=some r→qae Tryz.prog 75 [PV.agg (qcc.cells a0z)] (qyl r):=by
 intro a0z r h
 obtain⟨x1,x2,⟨x3,x4,x5,x6,x7,x8⟩,x9,x10⟩:=a0z
 unfold qlh at h
 refine qae.of_vcN qa6 (fun _ _=>Tryz.call75 _ _) Tryz.func75 (by kernel_rfl) (inl:=[1000000]) ?_
 obtain rfl:=sj h
 conv=>whnf
 try exact fin
abbrev qlm (r:List qbg):PV:=PV.sl (qbg.rows r)
def qbn (n:Nat) (x1:List qab):(List qbg×Int→Option (List qbg))→List qbg×Int→Option (List qbg):=fun nx1 (x2,x3)=>
bif(decide (x3<((qab.rows x1).length:Int)))then(
bnd (idx x1 x3) fun⟨x4,x5,⟨x6,x7,x8,x9,x10,x11⟩,x12,x13⟩=>
bnd (qlh n (qab.mk x4 x5 (Val.mk x6 x7 x8 x9 x10 x11) x12 x13)) fun x14=>
chk (decide ((qbg.rows (x2++[x14])).length * 16≤140737488355328)) (
nx1 ((x2++[x14]),(IntKind.i64.wrap (x3+1)))))
else(
some x2)
def qc6 (n:Nat) (x1:List qab):Option (List qbg):=
 qas (qbn n x1) n (([]:List _),(0:Int))
theorem qkr (n:Nat):∀ (x1:List qab) (r:List qbg),qc6 n x1=some r→qae Tryz.prog 68 [PV.sl (qab.rows x1),PV.fn 75] (qlm r):=by
 intro x1 r h
 unfold qc6 at h
 refine qae.of_vcN qa6 (fun _ _=>Tryz.call68 _ _) Tryz.func68 (by kernel_rfl) (inl:=[1000000]) ?_
 conv=>whnf
 refine qb4.fn [1000000] (S:=List qbg×Int) (fun(x2,x3)=>[(1,.p (.fn 75)),(5,.tsl 0 (qbg.rows x2)),(8,pE x1),(9,.p (.int .i64 ((qab.rows x1).length:Int))),(10,pI x3)]) (fun(x2,x3)=>[.tail 103 1 (qbg.rows x2).length]) (B:=qbn n x1) h (wk [0] [0]) ?_
 intro nx1 st h
 obtain⟨x2,x3⟩:=st
 unfold qbn at h
 conv=>whnf
 refine ifc h (fun hc h=>?_) (fun hc h=>?_)
 ·conv=>whnf
  replace h:=qaa h
  obtain⟨⟨x4,x5,⟨x6,x7,x8,x9,x10,x11⟩,x12,x13⟩,h3,h⟩:=h
  refine⟨_,Codec.at_ qcc h3,?_⟩
  conv=>whnf
  replace h:=qaa h
  obtain⟨x14,h2,h⟩:=h
  refine⟨_,(qwl n _ _ h2),?_⟩
  conv=>whnf
  refine⟨Codec.one qod [x14],qbg.rows [x14],.inl rfl,?_⟩
  conv=>whnf
  rw[show qbg.rows x2++qbg.rows [x14]=qbg.rows (x2++[x14])from Codec.append qod x2 [x14]]
  conv=>whnf
  obtain⟨h1,h⟩:=qaz h
  refine⟨⟨Codec.wide qod (x2++[x14]),of_decide_eq_true h1,qd6 h1 (by decide)⟩,?_⟩
  conv=>whnf
  refine⟨⟨rfl,rfl,rfl⟩,?_⟩
  conv=>whnf
  exact⟨((x2++[x14]),(IntKind.i64.wrap (x3+1))),h,wk [2] []⟩
 ·obtain rfl:=sj h
  conv=>whnf
  try exact fin
abbrev qye (r:qbg):PV:=(PV.ifc (qbg.tid r) (qbg.val r))
def qlw (n:Nat) (x1:SS):Option (qbg):=
 some (qbg.name x1)
theorem qxc (n:Nat):∀ (x1:SS) (r:qbg),qlw n x1=some r→qae Tryz.prog 77 [PV.str x1] (qye r):=by
 intro x1 r h
 unfold qlw at h
 refine qae.of_vcN qa6 (fun _ _=>Tryz.call77 _ _) Tryz.func77 (by kernel_rfl) (inl:=[1000000]) ?_
 obtain rfl:=sj h
 conv=>whnf
 try exact fin
abbrev qmi (r:List qbg):PV:=PV.sl (qbg.rows r)
def qbw (n:Nat) (x1:List SS):(List qbg×Int→Option (List qbg))→List qbg×Int→Option (List qbg):=fun nx1 (x2,x3)=>
bif(decide (x3<((qak x1).length:Int)))then(
bnd (idx x1 x3) fun x4=>
bnd (qlw n x4) fun x5=>
chk (decide ((qbg.rows (x2++[x5])).length * 16≤140737488355328)) (
nx1 ((x2++[x5]),(IntKind.i64.wrap (x3+1)))))
else(
some x2)
def qdh (n:Nat) (x1:List SS):Option (List qbg):=
 qas (qbw n x1) n (([]:List _),(0:Int))
theorem ql5 (n:Nat):∀ (x1:List SS) (r:List qbg),qdh n x1=some r→qae Tryz.prog 76 [PV.sl (qak x1),PV.fn 77] (qmi r):=by
 intro x1 r h
 unfold qdh at h
 refine qae.of_vcN qa6 (fun _ _=>Tryz.call76 _ _) Tryz.func76 (by kernel_rfl) (inl:=[1000000]) ?_
 conv=>whnf
 refine qb4.fn [1000000] (S:=List qbg×Int) (fun(x2,x3)=>[(1,.p (.fn 77)),(5,.tsl 0 (qbg.rows x2)),(8,pT x1),(9,.p (.int .i64 ((qak x1).length:Int))),(10,pI x3)]) (fun(x2,x3)=>[.tail 103 1 (qbg.rows x2).length]) (B:=qbw n x1) h (wk [0] [0]) ?_
 intro nx1 st h
 obtain⟨x2,x3⟩:=st
 unfold qbw at h
 conv=>whnf
 refine ifc h (fun hc h=>?_) (fun hc h=>?_)
 ·conv=>whnf
  replace h:=qaa h
  obtain⟨x4,h3,h⟩:=h
  refine⟨_,Codec.at_ qp6 h3,?_⟩
  conv=>whnf
  replace h:=qaa h
  obtain⟨x5,h2,h⟩:=h
  refine⟨_,(qxc n _ _ h2),?_⟩
  conv=>whnf
  refine⟨Codec.one qod [x5],qbg.rows [x5],.inl rfl,?_⟩
  conv=>whnf
  rw[show qbg.rows x2++qbg.rows [x5]=qbg.rows (x2++[x5])from Codec.append qod x2 [x5]]
  conv=>whnf
  obtain⟨h1,h⟩:=qaz h
  refine⟨⟨Codec.wide qod (x2++[x5]),of_decide_eq_true h1,qd6 h1 (by decide)⟩,?_⟩
  conv=>whnf
  refine⟨⟨rfl,rfl,rfl⟩,?_⟩
  conv=>whnf
  exact⟨((x2++[x5]),(IntKind.i64.wrap (x3+1))),h,wk [1] []⟩
 ·obtain rfl:=sj h
  conv=>whnf
  try exact fin
abbrev qxr (x14:Int) (x15:List qa8) (x16:List qab) (x17:Int) (x18:SS) (x19:Int) (x20:Bool) (x21:Int) (x22:SS) (x23:List Val) (x24 x25:List SS) (x26:List qab) (x27:SS) (x28:List qbf) (x29:Bool) (x30:List qaq) (x31 x32:List qab) (x33:List qaf) (x34:List SS) (x35:Bool) (r:qbg):FV:=.p ((PV.ifc (qbg.tid r) (qbg.val r)))
abbrev qxy (x14:Int) (x15:List qa8) (x16:List qab) (x17:Int) (x18:SS) (x19:Int) (x20:Bool) (x21:Int) (x22:SS) (x23:List Val) (x24 x25:List SS) (x26:List qab) (x27:SS) (x28:List qbf) (x29:Bool) (x30:List qaq) (x31 x32:List qab) (x33:List qaf) (x34:List SS) (x35:Bool) (r:qbg):List AObj:=[.box 55 [pI x14,pP x15,pE x16,pI x17,pS x18,pI x19,pB x20,pI x21,pS x22,pV x23,pT x24,pT x25,pE x26,pS x27,pA x28,pB x29,pO x30,pE x31,pE x32,pU x33,pT x34,pB x35]]
def qlv (n:Nat) (a0z:qaf) (x14:Int) (x15:List qa8) (x16:List qab) (x17:Int) (x18:SS) (x19:Int) (x20:Bool) (x21:Int) (x22:SS) (x23:List Val) (x24 x25:List SS) (x26:List qab) (x27:SS) (x28:List qbf) (x29:Bool) (x30:List qaq) (x31 x32:List qab) (x33:List qaf) (x34:List SS) (x35:Bool):Option (qbg):=
 match a0z with
 | ⟨x1,x2,x3,⟨x4,x5,⟨x6,x7,x8,x9,x10,x11⟩,x12,x13⟩⟩=>
 some (qbg.change (qre.mk (qaf.mk x1 x2 x3 (qab.mk x4 x5 (Val.mk x6 x7 x8 x9 x10 x11) x12 x13)) (x14==6)))
theorem qw1 (n:Nat):∀ (a0z:qaf) (x14:Int) (x15:List qa8) (x16:List qab) (x17:Int) (x18:SS) (x19:Int) (x20:Bool) (x21:Int) (x22:SS) (x23:List Val) (x24 x25:List SS) (x26:List qab) (x27:SS) (x28:List qbf) (x29:Bool) (x30:List qaq) (x31 x32:List qab) (x33:List qaf) (x34:List SS) (x35:Bool) (r:qbg),qlv n a0z x14 x15 x16 x17 x18 x19 x20 x21 x22 x23 x24 x25 x26 x27 x28 x29 x30 x31 x32 x33 x34 x35=some r→qau Tryz.prog 79 [.p (PV.agg (qid.cells a0z)),.ptr 0 0] [.box 55 [pI x14,pP x15,pE x16,pI x17,pS x18,pI x19,pB x20,pI x21,pS x22,pV x23,pT x24,pT x25,pE x26,pS x27,pA x28,pB x29,pO x30,pE x31,pE x32,pU x33,pT x34,pB x35]] 1 (fun v lo=>v=qxr x14 x15 x16 x17 x18 x19 x20 x21 x22 x23 x24 x25 x26 x27 x28 x29 x30 x31 x32 x33 x34 x35 r∧lo=qxy x14 x15 x16 x17 x18 x19 x20 x21 x22 x23 x24 x25 x26 x27 x28 x29 x30 x31 x32 x33 x34 x35 r):=by
 intro a0z x14 x15 x16 x17 x18 x19 x20 x21 x22 x23 x24 x25 x26 x27 x28 x29 x30 x31 x32 x33 x34 x35 r h
 obtain⟨x1,x2,x3,⟨x4,x5,⟨x6,x7,x8,x9,x10,x11⟩,x12,x13⟩⟩:=a0z
 unfold qlv at h
 refine qau.of_vc qa6 (fun _ _=>Tryz.call79 _ _) Tryz.func79 (by kernel_rfl) (inl:=[1000000]) (Nat.le_of_ble_eq_true rfl) ?_
 obtain rfl:=sj h
 conv=>whnf
 refine⟨_,_,⟨rfl,rfl⟩,wk [0] []⟩
abbrev qkb (x2:Int) (x3:List qa8) (x4:List qab) (x5:Int) (x6:SS) (x7:Int) (x8:Bool) (x9:Int) (x10:SS) (x11:List Val) (x12 x13:List SS) (x14:List qab) (x15:SS) (x16:List qbf) (x17:Bool) (x18:List qaq) (x19 x20:List qab) (x21:List qaf) (x22:List SS) (x23:Bool) (r:(List qbg)):FV:=.p (.sl (qbg.rows r))
abbrev qkc (x2:Int) (x3:List qa8) (x4:List qab) (x5:Int) (x6:SS) (x7:Int) (x8:Bool) (x9:Int) (x10:SS) (x11:List Val) (x12 x13:List SS) (x14:List qab) (x15:SS) (x16:List qbf) (x17:Bool) (x18:List qaq) (x19 x20:List qab) (x21:List qaf) (x22:List SS) (x23:Bool) (r:(List qbg)):List AObj:=[.box 55 [pI x2,pP x3,pE x4,pI x5,pS x6,pI x7,pB x8,pI x9,pS x10,pV x11,pT x12,pT x13,pE x14,pS x15,pA x16,pB x17,pO x18,pE x19,pE x20,pU x21,pT x22,pB x23]]
def qbd (n:Nat) (x1:List qaf) (x2:Int) (x3:List qa8) (x4:List qab) (x5:Int) (x6:SS) (x7:Int) (x8:Bool) (x9:Int) (x10:SS) (x11:List Val) (x12 x13:List SS) (x14:List qab) (x15:SS) (x16:List qbf) (x17:Bool) (x18:List qaq) (x19 x20:List qab) (x21:List qaf) (x22:List SS) (x23:Bool):(List qbg×Int→Option ((List qbg)))→List qbg×Int→Option ((List qbg)):=fun nx1 (x24,x25)=>
bif(decide (x25<((qaf.rows x1).length:Int)))then(
bnd (idx x1 x25) fun⟨x26,x27,x28,⟨x29,x30,⟨x31,x32,x33,x34,x35,x36⟩,x37,x38⟩⟩=>
bnd (qlv n (qaf.mk x26 x27 x28 (qab.mk x29 x30 (Val.mk x31 x32 x33 x34 x35 x36) x37 x38)) x2 x3 x4 x5 x6 x7 x8 x9 x10 x11 x12 x13 x14 x15 x16 x17 x18 x19 x20 x21 x22 x23) fun x39=>
chk (decide ((qbg.rows (x24++[x39])).length * 16≤140737488355328)) (
nx1 ((x24++[x39]),(IntKind.i64.wrap (x25+1)))))
else(
some x24)
def qcw (n:Nat) (x1:List qaf) (x2:Int) (x3:List qa8) (x4:List qab) (x5:Int) (x6:SS) (x7:Int) (x8:Bool) (x9:Int) (x10:SS) (x11:List Val) (x12 x13:List SS) (x14:List qab) (x15:SS) (x16:List qbf) (x17:Bool) (x18:List qaq) (x19 x20:List qab) (x21:List qaf) (x22:List SS) (x23:Bool):Option ((List qbg)):=
 qas (qbd n x1 x2 x3 x4 x5 x6 x7 x8 x9 x10 x11 x12 x13 x14 x15 x16 x17 x18 x19 x20 x21 x22 x23) n (([]:List _),(0:Int))
theorem qjp (n:Nat):∀ (x1:List qaf) (x2:Int) (x3:List qa8) (x4:List qab) (x5:Int) (x6:SS) (x7:Int) (x8:Bool) (x9:Int) (x10:SS) (x11:List Val) (x12 x13:List SS) (x14:List qab) (x15:SS) (x16:List qbf) (x17:Bool) (x18:List qaq) (x19 x20:List qab) (x21:List qaf) (x22:List SS) (x23:Bool) (r:(List qbg)),qcw n x1 x2 x3 x4 x5 x6 x7 x8 x9 x10 x11 x12 x13 x14 x15 x16 x17 x18 x19 x20 x21 x22 x23=some r→qau Tryz.prog 78 [.p (PV.sl (qaf.rows x1)),.clo 79 (.cap (.ptr 0 0) (.cap0))] [.box 55 [pI x2,pP x3,pE x4,pI x5,pS x6,pI x7,pB x8,pI x9,pS x10,pV x11,pT x12,pT x13,pE x14,pS x15,pA x16,pB x17,pO x18,pE x19,pE x20,pU x21,pT x22,pB x23]] 1 (fun v lo=>v=qkb x2 x3 x4 x5 x6 x7 x8 x9 x10 x11 x12 x13 x14 x15 x16 x17 x18 x19 x20 x21 x22 x23 r∧lo=qkc x2 x3 x4 x5 x6 x7 x8 x9 x10 x11 x12 x13 x14 x15 x16 x17 x18 x19 x20 x21 x22 x23 r):=by
 intro x1 x2 x3 x4 x5 x6 x7 x8 x9 x10 x11 x12 x13 x14 x15 x16 x17 x18 x19 x20 x21 x22 x23 r h
 unfold qcw at h
 refine qau.of_vc qa6 (fun _ _=>Tryz.call78 _ _) Tryz.func78 (by kernel_rfl) (inl:=[20000015,1000000]) (Nat.le_of_ble_eq_true rfl) ?_
 conv=>whnf
 refine qb4.fn [20000015,1000000] (S:=List qbg×Int) (fun(x24,x25)=>[(1,.clo 79 (.cap (.ptr 0 0) (.cap0))),(5,.tsl 1 (qbg.rows x24)),(8,pU x1),(9,.p (.int .i64 ((qaf.rows x1).length:Int))),(10,pI x25)]) (fun(x24,x25)=>[.box 55 [pI x2,pP x3,pE x4,pI x5,pS x6,pI x7,pB x8,pI x9,pS x10,pV x11,pT x12,pT x13,pE x14,pS x15,pA x16,pB x17,pO x18,pE x19,pE x20,pU x21,pT x22,pB x23],.tail 103 1 (qbg.rows x24).length]) (B:=qbd n x1 x2 x3 x4 x5 x6 x7 x8 x9 x10 x11 x12 x13 x14 x15 x16 x17 x18 x19 x20 x21 x22 x23) h (wk [0,0] [1]) ?_
 intro nx1 st h
 obtain⟨x24,x25⟩:=st
 unfold qbd at h
 conv=>whnf
 refine ifc h (fun hc h=>?_) (fun hc h=>?_)
 ·conv=>whnf
  replace h:=qaa h
  obtain⟨⟨x26,x27,x28,⟨x29,x30,⟨x31,x32,x33,x34,x35,x36⟩,x37,x38⟩⟩,h3,h⟩:=h
  refine⟨_,Codec.at_ qid h3,?_⟩
  conv=>whnf
  replace h:=qaa h
  obtain⟨x39,h1,h⟩:=h
  refine qb9 (qw1 n _ _ _ _ _ _ _ _ _ _ _ _ _ _ _ _ _ _ _ _ _ _ _ _ h1) [0] [] ?_
  rintro _ _ ⟨rfl,rfl⟩
  refine⟨.p ((PV.ifc (qbg.tid x39) (qbg.val x39))),[.box 55 [pI x2,pP x3,pE x4,pI x5,pS x6,pI x7,pB x8,pI x9,pS x10,pV x11,pT x12,pT x13,pE x14,pS x15,pA x16,pB x17,pO x18,pE x19,pE x20,pU x21,pT x22,pB x23],.tail 103 1 (qbg.rows x24).length,.box 69 [pS x26,pS x27,pS x28,pI x29,pS x30,pI x31,pB x32,pI x33,pS x34,pV x35,pT x36,pT x37,pE x38]],rfl,rfl,?_⟩
  conv=>whnf
  refine⟨Codec.one qod [x39],qbg.rows [x39],.inl rfl,?_⟩
  conv=>whnf
  rw[show qbg.rows x24++qbg.rows [x39]=qbg.rows (x24++[x39])from Codec.append qod x24 [x39]]
  conv=>whnf
  obtain⟨h2,h⟩:=qaz h
  refine⟨⟨Codec.wide qod (x24++[x39]),of_decide_eq_true h2,qd6 h2 (by decide)⟩,?_⟩
  conv=>whnf
  refine⟨⟨rfl,rfl,rfl⟩,?_⟩
  conv=>whnf
  exact⟨((x24++[x39]),(IntKind.i64.wrap (x25+1))),h,wk [0,3] []⟩
 ·obtain rfl:=sj h
  conv=>whnf
  refine⟨_,_,⟨rfl,rfl⟩,wk [0] []⟩
abbrev qo0 (r:Bool):PV:=PV.bool r
def qc2 (n:Nat) (x1 x2:List SS):(Int→Option (Bool))→Int→Option (Bool):=fun nx1 x3=>
bif(decide (x3<((qak x1).length:Int)))then(
bnd (idx x1 x3) fun x4=>
bnd (idx x2 x3) fun x5=>
bif(!(x4==x5))then(
some false)
else(
nx1 (IntKind.i64.wrap (x3+1))))
else(
some true)
def qdp (n:Nat) (x1 x2:List SS):Option (Bool):=
 bif(((qak x1).length:Int) != ((qak x2).length:Int))then(
 some false)
 else(
 qas (qc2 n x1 x2) n (0:Int))
theorem qof (n:Nat):∀ (x1 x2:List SS) (r:Bool),qdp n x1 x2=some r→qae Tryz.prog 133 [PV.sl (qak x1),PV.sl (qak x2)] (qo0 r):=by
 intro x1 x2 r h
 unfold qdp at h
 refine qae.of_vcN qa6 (fun _ _=>Tryz.call133 _ _) Tryz.func133 (by kernel_rfl) (inl:=[1000000]) ?_
 conv=>whnf
 refine ifc h (fun hc h=>?_) (fun hc h=>?_)
 ·obtain rfl:=sj h
  conv=>whnf
  try exact fin
 ·conv=>whnf
  refine qb4.fn [1000000] (S:=Int) (fun x3=>[(0,pT x1),(1,pT x2),(12,.p (.int .i64 ((qak x1).length:Int))),(13,pI x3)]) (fun x3=>[]) (B:=qc2 n x1 x2) h (wk [] []) ?_
  intro nx1 x3 h
  unfold qc2 at h
  conv=>whnf
  refine ifc h (fun hc h=>?_) (fun hc h=>?_)
  ·conv=>whnf
   replace h:=qaa h
   obtain⟨x4,h2,h⟩:=h
   refine⟨_,Codec.at_ qp6 h2,?_⟩
   conv=>whnf
   replace h:=qaa h
   obtain⟨x5,h1,h⟩:=h
   refine⟨_,Codec.at_ qp6 h1,?_⟩
   conv=>whnf
   refine ifc h (fun hc h=>?_) (fun hc h=>?_)
   ·obtain rfl:=sj h
    conv=>whnf
    try exact fin
   ·conv=>whnf
    exact⟨(IntKind.i64.wrap (x3+1)),h,wk [] []⟩
  ·obtain rfl:=sj h
   conv=>whnf
   try exact fin
abbrev ql7 (r:Bool):PV:=PV.bool r
abbrev zl0:Type:=Val→Val→Option (Bool)
def qp4 (n:Nat) (g126:zl0) (g134z126:(List Val)→(List Val)→Option (Bool)) (a0z a1z:Val):Option (Bool):=
 match a0z,a1z with
 | ⟨x1,x2,x3,x4,x5,x6⟩,⟨x7,x8,x9,x10,x11,x12⟩=>
 bnd (qa2 (bif(bif(bif(x1==x7)then(x2==x8)else false)then(x3==x9)else false)then(x4==x10)else false) (qdp n x6 x12)) fun x13=>
 bnd (qa2 (bif(bif(bif(bif(x1==x7)then(x2==x8)else false)then(x3==x9)else false)then(x4==x10)else false)then x13 else false) (g134z126 x5 x11)) fun x14=>
 some (bif(bif(bif(bif(bif(x1==x7)then(x2==x8)else false)then(x3==x9)else false)then(x4==x10)else false)then x13 else false)then x14 else false)
abbrev qay (r:Bool):PV:=PV.bool r
def qar (n:Nat) (x1 x2:List Val) (g126:zl0):(Int→Option (Bool))→Int→Option (Bool):=fun nx1 x3=>
bif(decide (x3<((Val.rows x1).length:Int)))then(
bnd (idx x1 x3) fun⟨x4,x5,x6,x7,x8,x9⟩=>
bnd (idx x2 x3) fun⟨x10,x11,x12,x13,x14,x15⟩=>
bnd (g126 (Val.mk x4 x5 x6 x7 x8 x9) (Val.mk x10 x11 x12 x13 x14 x15)) fun x16=>
bif(!x16)then(
some false)
else(
nx1 (IntKind.i64.wrap (x3+1))))
else(
some true)
def qa0 (n:Nat) (g126:zl0) (g134z126:(List Val)→(List Val)→Option (Bool)) (x1 x2:List Val):Option (Bool):=
 bif(((Val.rows x1).length:Int) != ((Val.rows x2).length:Int))then(
 some false)
 else(
 qas (qar n x1 x2 g126) n (0:Int))
theorem q1v (n:Nat) (g126:zl0) (g134z126:(List Val)→(List Val)→Option (Bool)) (g126_ok:∀ (a0z a1z:Val) (r:Bool),g126 a0z a1z=some r→qae Tryz.prog 126 [PV.agg (qrx.cells a0z),PV.agg (qrx.cells a1z)] (ql7 r)) (g134_126_ok:∀ (x1 x2:List Val) (r:Bool),g134z126 x1 x2=some r→qae Tryz.prog 134 [PV.sl (Val.rows x1),PV.sl (Val.rows x2),PV.fn 126] (qay r)):∀ (a0z a1z:Val) (r:Bool),qp4 n g126 g134z126 a0z a1z=some r→qae Tryz.prog 126 [PV.agg (qrx.cells a0z),PV.agg (qrx.cells a1z)] (ql7 r):=by
 intro a0z a1z r h
 obtain⟨x1,x2,x3,x4,x5,x6⟩:=a0z
 obtain⟨x7,x8,x9,x10,x11,x12⟩:=a1z
 unfold qp4 at h
 refine qae.of_vcN qa6 (fun _ _=>Tryz.call126 _ _) Tryz.func126 (by kernel_rfl) (inl:=[1000000]) ?_
 conv=>whnf
 refine⟨id,id,id,id,id,id,id,id,id,id,id,id,id,id,id,id,id,id,id,?_⟩
 conv=>whnf
 replace h:=qaa h
 obtain⟨x13,h2,h⟩:=h
 refine⟨_,fun hg=>(qof n _ _ _ (qah h2 hg)),?_⟩
 conv=>whnf
 refine⟨id,id,id,id,id,?_⟩
 conv=>whnf
 replace h:=qaa h
 obtain⟨x14,h1,h⟩:=h
 refine⟨_,fun hg=>(g134_126_ok _ _ _ (qah h1 hg)),?_⟩
 conv=>whnf
 refine⟨id,?_⟩
 obtain rfl:=sj h
 conv=>whnf
 try exact fin
theorem qd4 (n:Nat) (g126:zl0) (g134z126:(List Val)→(List Val)→Option (Bool)) (g126_ok:∀ (a0z a1z:Val) (r:Bool),g126 a0z a1z=some r→qae Tryz.prog 126 [PV.agg (qrx.cells a0z),PV.agg (qrx.cells a1z)] (ql7 r)) (g134_126_ok:∀ (x1 x2:List Val) (r:Bool),g134z126 x1 x2=some r→qae Tryz.prog 134 [PV.sl (Val.rows x1),PV.sl (Val.rows x2),PV.fn 126] (qay r)):∀ (x1 x2:List Val) (r:Bool),qa0 n g126 g134z126 x1 x2=some r→qae Tryz.prog 134 [PV.sl (Val.rows x1),PV.sl (Val.rows x2),PV.fn 126] (qay r):=by
 intro x1 x2 r h
 unfold qa0 at h
 refine qae.of_vcN qa6 (fun _ _=>Tryz.call134 _ _) Tryz.func134 (by kernel_rfl) (inl:=[1000000]) ?_
 conv=>whnf
 refine ifc h (fun hc h=>?_) (fun hc h=>?_)
 ·obtain rfl:=sj h
  conv=>whnf
  try exact fin
 ·conv=>whnf
  refine qb4.fn [1000000] (S:=Int) (fun x3=>[(1,pV x2),(2,.p (.fn 126)),(15,pV x1),(16,.p (.int .i64 ((Val.rows x1).length:Int))),(17,pI x3)]) (fun x3=>[]) (B:=qar n x1 x2 g126) h (wk [] []) ?_
  intro nx1 x3 h
  unfold qar at h
  conv=>whnf
  refine ifc h (fun hc h=>?_) (fun hc h=>?_)
  ·conv=>whnf
   replace h:=qaa h
   obtain⟨⟨x4,x5,x6,x7,x8,x9⟩,h3,h⟩:=h
   refine⟨_,Codec.at_ qrx h3,?_⟩
   conv=>whnf
   replace h:=qaa h
   obtain⟨⟨x10,x11,x12,x13,x14,x15⟩,h2,h⟩:=h
   refine⟨_,Codec.at_ qrx h2,?_⟩
   conv=>whnf
   replace h:=qaa h
   obtain⟨x16,h1,h⟩:=h
   refine⟨_,(g126_ok _ _ _ h1),?_⟩
   conv=>whnf
   refine ifc h (fun hc h=>?_) (fun hc h=>?_)
   ·obtain rfl:=sj h
    conv=>whnf
    try exact fin
   ·conv=>whnf
    exact⟨(IntKind.i64.wrap (x3+1)),h,wk [] []⟩
  ·obtain rfl:=sj h
   conv=>whnf
   try exact fin
mutual
def qgs:Nat→Val→Val→Option (Bool)
 | 0=>fun _ _=>none
 | n+1=>qp4 n (qgs n) (qal n)
def qal:Nat→(List Val)→(List Val)→Option (Bool)
 | 0=>fun _ _=>none
 | n+1=>qa0 n (qgs n) (qal n)
end
theorem q2e (n:Nat):(∀ (a0z a1z:Val) (r:Bool),qgs n a0z a1z=some r→qae Tryz.prog 126 [PV.agg (qrx.cells a0z),PV.agg (qrx.cells a1z)] (ql7 r))∧(∀ (x1 x2:List Val) (r:Bool),qal n x1 x2=some r→qae Tryz.prog 134 [PV.sl (Val.rows x1),PV.sl (Val.rows x2),PV.fn 126] (qay r)):=by
 induction n with
 | zero=>exact⟨(by intros; rename_i h; cases h),(by intros; rename_i h; cases h)⟩
 | succ n ih=>
  obtain⟨hg126,hg134_126⟩:=ih
  exact⟨q1v n (qgs n) (qal n) hg126 hg134_126,qd4 n (qgs n) (qal n) hg126 hg134_126⟩
theorem qv4 (n:Nat):∀ (a0z a1z:Val) (r:Bool),qgs n a0z a1z=some r→qae Tryz.prog 126 [PV.agg (qrx.cells a0z),PV.agg (qrx.cells a1z)] (ql7 r):=(q2e n).1
abbrev q4x (r:Bool):PV:=PV.bool r
def qhx (n:Nat) (a0z:qab):Option (Bool):=
 match a0z with
 | ⟨x1,x2,⟨x3,x4,x5,x6,x7,x8⟩,x9,x10⟩=>
 bnd (qa2 (bif(x1==0)then(x2==([]:SS))else false) (qgs n (Val.mk x3 x4 x5 x6 x7 x8) (Val.mk (0:Int) false (0:Int) ([]:SS) ([]:List Val) ([]:List SS)))) fun x11=>
 some (bif(bif(bif(bif(x1==0)then(x2==([]:SS))else false)then x11 else false)then(((qak x9).length:Int)==0)else false)then(((qab.rows x10).length:Int)==0)else false)
theorem qt9 (n:Nat):∀ (a0z:qab) (r:Bool),qhx n a0z=some r→qae Tryz.prog 107 [PV.agg (qcc.cells a0z)] (q4x r):=by
 intro a0z r h
 obtain⟨x1,x2,⟨x3,x4,x5,x6,x7,x8⟩,x9,x10⟩:=a0z
 unfold qhx at h
 refine qae.of_vcN qa6 (fun _ _=>Tryz.call107 _ _) Tryz.func107 (by kernel_rfl) (inl:=[1000000]) ?_
 conv=>whnf
 refine⟨id,id,id,id,id,id,?_⟩
 conv=>whnf
 replace h:=qaa h
 obtain⟨x11,h1,h⟩:=h
 refine⟨_,fun hg=>(qae.leArgs (qv4 n _ _ _ (qah h1 hg)) (by try exact fin)),?_⟩
 conv=>whnf
 refine⟨id,id,id,id,id,id,id,id,id,?_⟩
 obtain rfl:=sj h
 conv=>whnf
 try exact fin
abbrev q3k (r:Bool):PV:=PV.bool r
def qdo (n:Nat) (a0z a1z:qac):Option (Bool):=
 match a0z,a1z with
 | ⟨x1,x2,x3,⟨x4,x5,⟨x6,x7,x8,x9,x10,x11⟩,x12,x13⟩,x14,x15,x16,x17,x18,x19,x20,x21,x22⟩,⟨x23,x24,x25,⟨x26,x27,⟨x28,x29,x30,x31,x32,x33⟩,x34,x35⟩,x36,x37,x38,x39,x40,x41,x42,x43,x44⟩=>
 bnd (qa2 ((bif(((qa8.rows x2).length:Int)==((qa8.rows x24).length:Int))then(((qab.rows x3).length:Int)==((qab.rows x25).length:Int))else false)&&(!(x26 != 0))) (qhx n (qab.mk x4 x5 (Val.mk x6 x7 x8 x9 x10 x11) x12 x13))) fun x45=>
 some (bif(bif(bif(bif(bif(bif(bif(bif(bif(bif(bif(((qa8.rows x2).length:Int)==((qa8.rows x24).length:Int))then(((qab.rows x3).length:Int)==((qab.rows x25).length:Int))else false)then(bif(x26 != 0)then true else x45)else false)then(x14==x36)else false)then(((qbf.rows x15).length:Int)==((qbf.rows x37).length:Int))else false)then(x16==x38)else false)then(((qaq.rows x17).length:Int)==((qaq.rows x39).length:Int))else false)then(((qab.rows x18).length:Int)==((qab.rows x40).length:Int))else false)then(((qab.rows x19).length:Int)==((qab.rows x41).length:Int))else false)then(((qaf.rows x20).length:Int)==((qaf.rows x42).length:Int))else false)then(((qak x21).length:Int)==((qak x43).length:Int))else false)then(x22==x44)else false)
set_option maxHeartbeats 4000000 in
theorem qe9 (n:Nat):∀ (a0z a1z:qac) (r:Bool),qdo n a0z a1z=some r→qae Tryz.prog 80 [PV.agg (qds.cells a0z),PV.agg (qds.cells a1z)] (q3k r):=by
 intro a0z a1z r h
 obtain⟨x1,x2,x3,⟨x4,x5,⟨x6,x7,x8,x9,x10,x11⟩,x12,x13⟩,x14,x15,x16,x17,x18,x19,x20,x21,x22⟩:=a0z
 obtain⟨x23,x24,x25,⟨x26,x27,⟨x28,x29,x30,x31,x32,x33⟩,x34,x35⟩,x36,x37,x38,x39,x40,x41,x42,x43,x44⟩:=a1z
 unfold qdo at h
 refine qae.of_vcN qa6 (fun _ _=>Tryz.call80 _ _) Tryz.func80 (by kernel_rfl) (inl:=[1000000]) ?_
 conv=>whnf
 refine⟨id,id,id,id,id,id,id,id,id,id,id,id,id,?_⟩
 conv=>whnf
 replace h:=qaa h
 obtain⟨x45,h1,h⟩:=h
 refine⟨_,fun hg=>(qt9 n _ _ (qah h1 hg)),?_⟩
 conv=>whnf
 refine⟨id,id,id,id,id,id,id,id,id,id,id,id,id,id,id,id,id,id,id,id,id,id,id,id,id,id,id,id,id,id,id,id,id,id,id,id,id,id,id,id,id,id,id,id,id,id,id,id,id,id,id,id,id,id,id,id,id,id,id,id,?_⟩
 obtain rfl:=sj h
 conv=>whnf
 try exact fin
abbrev q1m (r:List qa4×Bool):PV:=PV.tup [PV.sl (qa4.rows r.1),PV.bool r.2]
def qgw (n:Nat) (x1:Int) (x2:List qa8) (x3:List qab) (x4:Int) (x5:SS) (x6:Int) (x7:Bool) (x8:Int) (x9:SS) (x10:List Val) (x11 x12:List SS) (x13:List qab) (x14:SS) (x15:List qbf) (x16:Bool) (x17:List qaq) (x18 x19:List qab) (x20:List qaf) (x21:List SS) (x22:Bool):List qa4×List qab→Option (List qa4×Bool):=fun(x35,x36)=>
bnd (qdo n (qac.mk x1 x2 x3 (qab.mk x4 x5 (Val.mk x6 x7 x8 x9 x10 x11) x12 x13) x14 x15 x16 x17 x18 x19 x20 x21 x22) (qac.mk x1 ([]:List qa8) x36 (qab.mk (0:Int) ([]:SS) (Val.mk (0:Int) false (0:Int) ([]:SS) ([]:List Val) ([]:List SS)) ([]:List SS) ([]:List qab)) ([]:SS) x15 x16 x17 x18 x19 ([]:List qaf) ([]:List SS) false)) fun x37=>
some (x35,x37)
def qhr (n:Nat) (x1:Int) (x2:List qa8) (x3:List qab) (x4:Int) (x5:SS) (x6:Int) (x7:Bool) (x8:Int) (x9:SS) (x10:List Val) (x11 x12:List SS) (x13:List qab) (x14:SS) (x15:List qbf) (x16:Bool) (x17:List qaq) (x18 x19:List qab) (x20:List qaf) (x21:List SS) (x22:Bool) (x30:List qbg):SS→Option (List qa4×Bool):=fun x47=>
bnd (qdo n (qac.mk x1 x2 x3 (qab.mk x4 x5 (Val.mk x6 x7 x8 x9 x10 x11) x12 x13) x14 x15 x16 x17 x18 x19 x20 x21 x22) (qac.mk x1 ([]:List qa8) ([]:List qab) (qab.mk (0:Int) ([]:SS) (Val.mk (0:Int) false (0:Int) ([]:SS) ([]:List Val) ([]:List SS)) ([]:List SS) ([]:List qab)) ([]:SS) ([]:List qbf) false ([]:List qaq) ([]:List qab) ([]:List qab) x20 ([]:List SS) false)) fun x48=>
some ([qa4.mk x47 x30 (1:Int) (1048576:Int)],x48)
def qhh (n:Nat) (x1:Int) (x2:List qa8) (x3:List qab) (x4:Int) (x5:SS) (x6:Int) (x7:Bool) (x8:Int) (x9:SS) (x10:List Val) (x11 x12:List SS) (x13:List qab) (x14:SS) (x15:List qbf) (x16:Bool) (x17:List qaq) (x18 x19:List qab) (x20:List qaf) (x21:List SS) (x22:Bool) (x29:List qbg):SS→Option (List qa4×Bool):=fun x49=>
bnd (qdo n (qac.mk x1 x2 x3 (qab.mk x4 x5 (Val.mk x6 x7 x8 x9 x10 x11) x12 x13) x14 x15 x16 x17 x18 x19 x20 x21 x22) (qac.mk x1 ([]:List qa8) ([]:List qab) (qab.mk (0:Int) ([]:SS) (Val.mk (0:Int) false (0:Int) ([]:SS) ([]:List Val) ([]:List SS)) ([]:List SS) ([]:List qab)) ([]:SS) ([]:List qbf) false ([]:List qaq) ([]:List qab) ([]:List qab) ([]:List qaf) x21 x22)) fun x50=>
some ([qa4.mk x49 x29 (1:Int) (1048576:Int)],x50)
def qin (n:Nat) (x1:Int) (x2:List qa8) (x3:List qab) (x4:Int) (x5:SS) (x6:Int) (x7:Bool) (x8:Int) (x9:SS) (x10:List Val) (x11 x12:List SS) (x13:List qab) (x14:SS) (x15:List qbf) (x16:Bool) (x17:List qaq) (x18 x19:List qab) (x20:List qaf) (x21:List SS) (x22:Bool) (x30 x29:List qbg):Bool→Option (List qa4×Bool):=fun x46=>
bif x46 then(
bif(x1==7)then(
qhr n x1 x2 x3 x4 x5 x6 x7 x8 x9 x10 x11 x12 x13 x14 x15 x16 x17 x18 x19 x20 x21 x22 x30 ([82,69,77,79,86,69,32]:SS))
else(
qhr n x1 x2 x3 x4 x5 x6 x7 x8 x9 x10 x11 x12 x13 x14 x15 x16 x17 x18 x19 x20 x21 x22 x30 ([83,69,84,32]:SS)))
else(
bif(x1==8)then(
bif x22 then(
qhh n x1 x2 x3 x4 x5 x6 x7 x8 x9 x10 x11 x12 x13 x14 x15 x16 x17 x18 x19 x20 x21 x22 x29 ([68,69,84,65,67,72,32,68,69,76,69,84,69,32]:SS))
else(
qhh n x1 x2 x3 x4 x5 x6 x7 x8 x9 x10 x11 x12 x13 x14 x15 x16 x17 x18 x19 x20 x21 x22 x29 ([68,69,76,69,84,69,32]:SS)))
else(
bnd (qdo n (qac.mk x1 x2 x3 (qab.mk x4 x5 (Val.mk x6 x7 x8 x9 x10 x11) x12 x13) x14 x15 x16 x17 x18 x19 x20 x21 x22) (qac.mk x1 ([]:List qa8) ([]:List qab) (qab.mk (0:Int) ([]:SS) (Val.mk (0:Int) false (0:Int) ([]:SS) ([]:List Val) ([]:List SS)) ([]:List SS) ([]:List qab)) ([]:SS) ([]:List qbf) false ([]:List qaq) ([]:List qab) ([]:List qab) ([]:List qaf) ([]:List SS) false)) fun x51=>
some (([]:List qa4),x51)))
def qg2 (n:Nat) (x31:SS) (x25 x26:List qbg) (x27 x28:List qbg) (x1:Int) (x24:List qbg) (x2:List qa8) (x3:List qab) (x4:Int) (x5:SS) (x6:Int) (x7:Bool) (x8:Int) (x9:SS) (x10:List Val) (x11 x12:List SS) (x13:List qab) (x14:SS) (x15:List qbf) (x16:Bool) (x17:List qaq) (x18 x19:List qab) (x20:List qaf) (x21:List SS) (x22:Bool) (x23 x30 x29:List qbg):Bool→Option (List qa4×Bool):=fun x34=>
bif x34 then(
chk (decide (((([82,69,84,85,82,78,32]:SS).length+x31.length:Nat):Int)≤qy3)) (
chk (decide ((qa4.rows ([qa4.mk (([82,69,84,85,82,78,32]:SS)++x31) x25 (1:Int) (1048576:Int)]++[qa4.mk ([32,79,82,68,69,82,32,66,89,32]:SS) x26 (0:Int) (1048576:Int),qa4.mk ([32,83,75,73,80,32]:SS) x27 (0:Int) (1:Int),qa4.mk ([32,76,73,77,73,84,32]:SS) x28 (0:Int) (1:Int)])).length * 56≤140737488355328)) (
bif(x1==3)then(
chk (decide (((([87,73,84,72,32]:SS).length+x31.length:Nat):Int)≤qy3)) (
chk (decide (0<(qa4.rows ([qa4.mk (([82,69,84,85,82,78,32]:SS)++x31) x25 (1:Int) (1048576:Int)]++[qa4.mk ([32,79,82,68,69,82,32,66,89,32]:SS) x26 (0:Int) (1048576:Int),qa4.mk ([32,83,75,73,80,32]:SS) x27 (0:Int) (1:Int),qa4.mk ([32,76,73,77,73,84,32]:SS) x28 (0:Int) (1:Int)])).length)) (
bnd (([qa4.mk (([82,69,84,85,82,78,32]:SS)++x31) x25 (1:Int) (1048576:Int)]++[qa4.mk ([32,79,82,68,69,82,32,66,89,32]:SS) x26 (0:Int) (1048576:Int),qa4.mk ([32,83,75,73,80,32]:SS) x27 (0:Int) (1:Int),qa4.mk ([32,76,73,77,73,84,32]:SS) x28 (0:Int) (1:Int)])[0]?) fun⟨x38,x39,x40,x41⟩=>
chk (decide ((qa4.rows ((([qa4.mk (([82,69,84,85,82,78,32]:SS)++x31) x25 (1:Int) (1048576:Int)]++[qa4.mk ([32,79,82,68,69,82,32,66,89,32]:SS) x26 (0:Int) (1048576:Int),qa4.mk ([32,83,75,73,80,32]:SS) x27 (0:Int) (1:Int),qa4.mk ([32,76,73,77,73,84,32]:SS) x28 (0:Int) (1:Int)]).set 0 (qa4.mk (([87,73,84,72,32]:SS)++x31) x39 x40 x41))++[qa4.mk ([32,87,72,69,82,69,32]:SS) x24 (0:Int) (1:Int)])).length * 56≤140737488355328)) (
qgw n x1 x2 x3 x4 x5 x6 x7 x8 x9 x10 x11 x12 x13 x14 x15 x16 x17 x18 x19 x20 x21 x22 (((([qa4.mk (([82,69,84,85,82,78,32]:SS)++x31) x25 (1:Int) (1048576:Int)]++[qa4.mk ([32,79,82,68,69,82,32,66,89,32]:SS) x26 (0:Int) (1048576:Int),qa4.mk ([32,83,75,73,80,32]:SS) x27 (0:Int) (1:Int),qa4.mk ([32,76,73,77,73,84,32]:SS) x28 (0:Int) (1:Int)]).set 0 (qa4.mk (([87,73,84,72,32]:SS)++x31) x39 x40 x41))++[qa4.mk ([32,87,72,69,82,69,32]:SS) x24 (0:Int) (1:Int)]),x3)))))
else(
qgw n x1 x2 x3 x4 x5 x6 x7 x8 x9 x10 x11 x12 x13 x14 x15 x16 x17 x18 x19 x20 x21 x22 (([qa4.mk (([82,69,84,85,82,78,32]:SS)++x31) x25 (1:Int) (1048576:Int)]++[qa4.mk ([32,79,82,68,69,82,32,66,89,32]:SS) x26 (0:Int) (1048576:Int),qa4.mk ([32,83,75,73,80,32]:SS) x27 (0:Int) (1:Int),qa4.mk ([32,76,73,77,73,84,32]:SS) x28 (0:Int) (1:Int)]),([]:List _))))))
else(
bif(x1==4)then(
bnd (qdo n (qac.mk x1 x2 x3 (qab.mk x4 x5 (Val.mk x6 x7 x8 x9 x10 x11) x12 x13) x14 x15 x16 x17 x18 x19 x20 x21 x22) (qac.mk x1 x2 ([]:List qab) (qab.mk (0:Int) ([]:SS) (Val.mk (0:Int) false (0:Int) ([]:SS) ([]:List Val) ([]:List SS)) ([]:List SS) ([]:List qab)) ([]:SS) ([]:List qbf) false ([]:List qaq) ([]:List qab) ([]:List qab) ([]:List qaf) ([]:List SS) false)) fun x42=>
some ([qa4.mk ([67,82,69,65,84,69,32]:SS) x23 (1:Int) (1048576:Int)],x42))
else(
bif(x1==5)then(
bnd (qa2 (((qa8.rows x2).length:Int)==1) (idx x2 (0:Int))) fun⟨x43,x44⟩=>
bif(bif(((qa8.rows x2).length:Int)==1)then(decide (((qag.rows x44).length:Int)>0))else false)then(
some (([]:List qa4),false))
else(
bnd (qdo n (qac.mk x1 x2 x3 (qab.mk x4 x5 (Val.mk x6 x7 x8 x9 x10 x11) x12 x13) x14 x15 x16 x17 x18 x19 x20 x21 x22) (qac.mk x1 x2 ([]:List qab) (qab.mk (0:Int) ([]:SS) (Val.mk (0:Int) false (0:Int) ([]:SS) ([]:List Val) ([]:List SS)) ([]:List SS) ([]:List qab)) ([]:SS) ([]:List qbf) false ([]:List qaq) ([]:List qab) ([]:List qab) ([]:List qaf) ([]:List SS) false)) fun x45=>
some ([qa4.mk ([77,69,82,71,69,32]:SS) x23 (1:Int) (1:Int)],x45)))
else(
bif(x1==6)then(
qin n x1 x2 x3 x4 x5 x6 x7 x8 x9 x10 x11 x12 x13 x14 x15 x16 x17 x18 x19 x20 x21 x22 x30 x29 (x1==6))
else(
qin n x1 x2 x3 x4 x5 x6 x7 x8 x9 x10 x11 x12 x13 x14 x15 x16 x17 x18 x19 x20 x21 x22 x30 x29 (x1==7)))))
def qgz (n:Nat) (x1:Int) (x2:List qa8) (x3:List qab) (x4:Int) (x5:SS) (x6:Int) (x7:Bool) (x8:Int) (x9:SS) (x10:List Val) (x11 x12:List SS) (x13:List qab) (x14:SS) (x15:List qbf) (x16:Bool) (x17:List qaq) (x18 x19:List qab) (x20:List qaf) (x21:List SS) (x22:Bool) (x23 x24:List qbg) (x25 x26:List qbg) (x27 x28:List qbg) (x30 x29:List qbg):SS→Option (List qa4×Bool):=fun x31=>
bif(x1==1)then(
bnd (qdo n (qac.mk x1 x2 x3 (qab.mk x4 x5 (Val.mk x6 x7 x8 x9 x10 x11) x12 x13) x14 x15 x16 x17 x18 x19 x20 x21 x22) (qac.mk x1 x2 x3 (qab.mk (0:Int) ([]:SS) (Val.mk (0:Int) false (0:Int) ([]:SS) ([]:List Val) ([]:List SS)) ([]:List SS) ([]:List qab)) ([]:SS) ([]:List qbf) false ([]:List qaq) ([]:List qab) ([]:List qab) ([]:List qaf) ([]:List SS) false)) fun x32=>
some ([qa4.mk ([77,65,84,67,72,32]:SS) x23 (1:Int) (1048576:Int),qa4.mk ([32,87,72,69,82,69,32]:SS) x24 (0:Int) (1:Int)],x32))
else(
bif(x1==2)then(
bnd (qdo n (qac.mk x1 x2 x3 (qab.mk x4 x5 (Val.mk x6 x7 x8 x9 x10 x11) x12 x13) x14 x15 x16 x17 x18 x19 x20 x21 x22) (qac.mk x1 ([]:List qa8) ([]:List qab) (qab.mk x4 x5 (Val.mk x6 x7 x8 x9 x10 x11) x12 x13) x14 ([]:List qbf) false ([]:List qaq) ([]:List qab) ([]:List qab) ([]:List qaf) ([]:List SS) false)) fun x33=>
some ([qa4.mk ([85,78,87,73,78,68,32]:SS) [(qbg.expr (qab.mk x4 x5 (Val.mk x6 x7 x8 x9 x10 x11) x12 x13))] (1:Int) (1:Int),qa4.mk ([32,65,83,32]:SS) [(qbg.name x14)] (1:Int) (1:Int)],x33))
else(
bif(x1==3)then(
qg2 n x31 x25 x26 x27 x28 x1 x24 x2 x3 x4 x5 x6 x7 x8 x9 x10 x11 x12 x13 x14 x15 x16 x17 x18 x19 x20 x21 x22 x23 x30 x29 (x1==3))
else(
qg2 n x31 x25 x26 x27 x28 x1 x24 x2 x3 x4 x5 x6 x7 x8 x9 x10 x11 x12 x13 x14 x15 x16 x17 x18 x19 x20 x21 x22 x23 x30 x29 (x1==9))))
def qjx (n:Nat) (a0z:qac):Option (List qa4×Bool):=
 match a0z with
 | ⟨x1,x2,x3,⟨x4,x5,⟨x6,x7,x8,x9,x10,x11⟩,x12,x13⟩,x14,x15,x16,x17,x18,x19,x20,x21,x22⟩=>
 bnd (qc8 n x2) fun x23=>
 bnd (qc9 n x3) fun x24=>
 bnd (qc5 n x15) fun x25=>
 bnd (qc4 n x17) fun x26=>
 bnd (qc7 n x18) fun x27=>
 bnd (qc6 n x19) fun x28=>
 bnd (qdh n x21) fun x29=>
 bnd (qcw n x20 x1 x2 x3 x4 x5 x6 x7 x8 x9 x10 x11 x12 x13 x14 x15 x16 x17 x18 x19 x20 x21 x22) fun x30=>
 bif x16 then(
 qgz n x1 x2 x3 x4 x5 x6 x7 x8 x9 x10 x11 x12 x13 x14 x15 x16 x17 x18 x19 x20 x21 x22 x23 x24 x25 x26 x27 x28 x30 x29 ([68,73,83,84,73,78,67,84,32]:SS))
 else(
 qgz n x1 x2 x3 x4 x5 x6 x7 x8 x9 x10 x11 x12 x13 x14 x15 x16 x17 x18 x19 x20 x21 x22 x23 x24 x25 x26 x27 x28 x30 x29 ([]:SS))
set_option maxHeartbeats 4000000 in
theorem q0j (n:Nat):∀ (a0z:qac) (r:List qa4×Bool),qjx n a0z=some r→qae Tryz.prog 35 [PV.agg (qds.cells a0z)] (q1m r):=by
 intro a0z r h
 obtain⟨x1,x2,x3,⟨x4,x5,⟨x6,x7,x8,x9,x10,x11⟩,x12,x13⟩,x14,x15,x16,x17,x18,x19,x20,x21,x22⟩:=a0z
 unfold qjx at h
 refine qae.of_vcN qa6 (fun _ _=>Tryz.call35 _ _) Tryz.func35 (by kernel_rfl) (inl:=[78,10000092,40000015,40000017,40000024,40000025,40000043,50000064,50000083,50000120,50000121,50000122,50000123,50000179,60003002,60007006,1000000]) ?_
 conv=>whnf
 replace h:=qaa h
 obtain⟨x23,h23,h⟩:=h
 refine⟨_,(qk1 n _ _ h23),?_⟩
 conv=>whnf
 replace h:=qaa h
 obtain⟨x24,h22,h⟩:=h
 refine⟨_,(qkz n _ _ h22),?_⟩
 conv=>whnf
 replace h:=qaa h
 obtain⟨x25,h21,h⟩:=h
 refine⟨_,(qk8 n _ _ h21),?_⟩
 conv=>whnf
 replace h:=qaa h
 obtain⟨x26,h20,h⟩:=h
 refine⟨_,(qku n _ _ h20),?_⟩
 conv=>whnf
 replace h:=qaa h
 obtain⟨x27,h19,h⟩:=h
 refine⟨_,(qk5 n _ _ h19),?_⟩
 conv=>whnf
 replace h:=qaa h
 obtain⟨x28,h18,h⟩:=h
 refine⟨_,(qkr n _ _ h18),?_⟩
 conv=>whnf
 refine⟨Codec.one qpt [qa4.mk ([32,79,82,68,69,82,32,66,89,32]:SS) x26 (0:Int) (1048576:Int),qa4.mk ([32,83,75,73,80,32]:SS) x27 (0:Int) (1:Int),qa4.mk ([32,76,73,77,73,84,32]:SS) x28 (0:Int) (1:Int)],qa4.rows [qa4.mk ([32,79,82,68,69,82,32,66,89,32]:SS) x26 (0:Int) (1048576:Int),qa4.mk ([32,83,75,73,80,32]:SS) x27 (0:Int) (1:Int),qa4.mk ([32,76,73,77,73,84,32]:SS) x28 (0:Int) (1:Int)],.inl rfl,?_⟩
 conv=>whnf
 replace h:=qaa h
 obtain⟨x29,h17,h⟩:=h
 refine⟨_,(ql5 n _ _ h17),?_⟩
 conv=>whnf
 replace h:=qaa h
 obtain⟨x30,h1,h⟩:=h
 refine qb9 (qjp n _ _ _ _ _ _ _ _ _ _ _ _ _ _ _ _ _ _ _ _ _ _ _ _ h1) [0] [] ?_
 rintro _ _ ⟨rfl,rfl⟩
 refine⟨.p (.sl (qbg.rows x30)),[.box 55 [pI x1,pP x2,pE x3,pI x4,pS x5,pI x6,pB x7,pI x8,pS x9,pV x10,pT x11,pT x12,pE x13,pS x14,pA x15,pB x16,pO x17,pE x18,pE x19,pU x20,pT x21,pB x22],.box 101 [.p (.str ([]:SS)),.p (.sl (qbg.rows x23)),.p (.int .i64 (1:Int)),.p (.int .i64 (1048576:Int))],.box 101 [.p (.str ([32,87,72,69,82,69,32]:SS)),.p (.sl (qbg.rows x24)),.p (.int .i64 (0:Int)),.p (.int .i64 (1:Int))],.box 101 [.p (.str ([]:SS)),.p (.sl (qbg.rows x25)),.p (.int .i64 (1:Int)),.p (.int .i64 (1048576:Int))],.box 101 [.p (.str ([68,69,76,69,84,69,32]:SS)),.p (.sl (qbg.rows x29)),.p (.int .i64 (1:Int)),.p (.int .i64 (1048576:Int))]],rfl,rfl,?_⟩
 conv=>whnf
 refine qme.cut (S:=SS) (fun x31=>[(1,.ptr 0 0),(4,.ptr 1 0),(5,.ptr 2 0),(6,.ptr 3 0),(7,.p (.sl (qa4.rows [qa4.mk ([32,79,82,68,69,82,32,66,89,32]:SS) x26 (0:Int) (1048576:Int),qa4.mk ([32,83,75,73,80,32]:SS) x27 (0:Int) (1:Int),qa4.mk ([32,76,73,77,73,84,32]:SS) x28 (0:Int) (1:Int)]))),(8,.ptr 4 0),(9,.ptr 5 0),(10,pS x31)]) (fun x31=>[.box 55 [pI x1,pP x2,pE x3,pI x4,pS x5,pI x6,pB x7,pI x8,pS x9,pV x10,pT x11,pT x12,pE x13,pS x14,pA x15,pB x16,pO x17,pE x18,pE x19,pU x20,pT x21,pB x22],.box 101 [.p (.str ([]:SS)),.p (.sl (qbg.rows x23)),.p (.int .i64 (1:Int)),.p (.int .i64 (1048576:Int))],.box 101 [.p (.str ([32,87,72,69,82,69,32]:SS)),.p (.sl (qbg.rows x24)),.p (.int .i64 (0:Int)),.p (.int .i64 (1:Int))],.box 101 [.p (.str ([]:SS)),.p (.sl (qbg.rows x25)),.p (.int .i64 (1:Int)),.p (.int .i64 (1048576:Int))],.box 101 [.p (.str ([68,69,76,69,84,69,32]:SS)),.p (.sl (qbg.rows x29)),.p (.int .i64 (1:Int)),.p (.int .i64 (1048576:Int))],.box 101 [.p (.str ([]:SS)),.p (.sl (qbg.rows x30)),.p (.int .i64 (1:Int)),.p (.int .i64 (1048576:Int))]]) (qgz n x1 x2 x3 x4 x5 x6 x7 x8 x9 x10 x11 x12 x13 x14 x15 x16 x17 x18 x19 x20 x21 x22 x23 x24 x25 x26 x27 x28 x30 x29) (r:=r) ?_ ?_
 ·intro x31 h
  unfold qgz at h
  conv=>whnf
  refine qme.go ?_
  conv=>whnf
  refine ifc h (fun hc h=>?_) (fun hc h=>?_)
  ·conv=>whnf
   refine⟨Codec.one qpt [qa4.mk ([77,65,84,67,72,32]:SS) x23 (1:Int) (1048576:Int),qa4.mk ([32,87,72,69,82,69,32]:SS) x24 (0:Int) (1:Int)],qa4.rows [qa4.mk ([77,65,84,67,72,32]:SS) x23 (1:Int) (1048576:Int),qa4.mk ([32,87,72,69,82,69,32]:SS) x24 (0:Int) (1:Int)],.inl rfl,?_⟩
   conv=>whnf
   replace h:=qaa h
   obtain⟨x32,h2,h⟩:=h
   refine⟨_,(qae.leArgs (qe9 n _ _ _ h2) (by try exact fin)),?_⟩
   obtain rfl:=sj h
   conv=>whnf
   try exact fin
  ·conv=>whnf
   refine ifc h (fun hc h=>?_) (fun hc h=>?_)
   ·conv=>whnf
    refine⟨Codec.one qod [(qbg.expr (qab.mk x4 x5 (Val.mk x6 x7 x8 x9 x10 x11) x12 x13))],qbg.rows [(qbg.expr (qab.mk x4 x5 (Val.mk x6 x7 x8 x9 x10 x11) x12 x13))],.inl rfl,?_⟩
    conv=>whnf
    refine⟨Codec.one qod [(qbg.name x14)],qbg.rows [(qbg.name x14)],.inl rfl,?_⟩
    conv=>whnf
    refine⟨Codec.one qpt [qa4.mk ([85,78,87,73,78,68,32]:SS) [(qbg.expr (qab.mk x4 x5 (Val.mk x6 x7 x8 x9 x10 x11) x12 x13))] (1:Int) (1:Int),qa4.mk ([32,65,83,32]:SS) [(qbg.name x14)] (1:Int) (1:Int)],qa4.rows [qa4.mk ([85,78,87,73,78,68,32]:SS) [(qbg.expr (qab.mk x4 x5 (Val.mk x6 x7 x8 x9 x10 x11) x12 x13))] (1:Int) (1:Int),qa4.mk ([32,65,83,32]:SS) [(qbg.name x14)] (1:Int) (1:Int)],.inl rfl,?_⟩
    conv=>whnf
    replace h:=qaa h
    obtain⟨x33,h3,h⟩:=h
    refine⟨_,(qae.leArgs (qe9 n _ _ _ h3) (by try exact fin)),?_⟩
    obtain rfl:=sj h
    conv=>whnf
    try exact fin
   ·conv=>whnf
    refine qme.cut (S:=Bool) (fun x34=>[(1,.ptr 0 0),(4,.ptr 1 0),(5,.ptr 2 0),(6,.ptr 3 0),(7,.p (.sl (qa4.rows [qa4.mk ([32,79,82,68,69,82,32,66,89,32]:SS) x26 (0:Int) (1048576:Int),qa4.mk ([32,83,75,73,80,32]:SS) x27 (0:Int) (1:Int),qa4.mk ([32,76,73,77,73,84,32]:SS) x28 (0:Int) (1:Int)]))),(8,.ptr 4 0),(9,.ptr 5 0),(10,pS x31),(11,.p (.nilsl)),(12,.ptr 6 0),(53,pI x1),(85,pB x34)]) (fun x34=>[.box 55 [pI x1,pP x2,pE x3,pI x4,pS x5,pI x6,pB x7,pI x8,pS x9,pV x10,pT x11,pT x12,pE x13,pS x14,pA x15,pB x16,pO x17,pE x18,pE x19,pU x20,pT x21,pB x22],.box 101 [.p (.str ([]:SS)),.p (.sl (qbg.rows x23)),.p (.int .i64 (1:Int)),.p (.int .i64 (1048576:Int))],.box 101 [.p (.str ([32,87,72,69,82,69,32]:SS)),.p (.sl (qbg.rows x24)),.p (.int .i64 (0:Int)),.p (.int .i64 (1:Int))],.box 101 [.p (.str ([]:SS)),.p (.sl (qbg.rows x25)),.p (.int .i64 (1:Int)),.p (.int .i64 (1048576:Int))],.box 101 [.p (.str ([68,69,76,69,84,69,32]:SS)),.p (.sl (qbg.rows x29)),.p (.int .i64 (1:Int)),.p (.int .i64 (1048576:Int))],.box 101 [.p (.str ([]:SS)),.p (.sl (qbg.rows x30)),.p (.int .i64 (1:Int)),.p (.int .i64 (1048576:Int))],.box 55 [pI x1,.p (.nilsl),.p (.nilsl),.p (.int .i64 (0:Int)),.p (.str ([]:SS)),.p (.int .i64 (0:Int)),pB false,.p (.int .i64 (0:Int)),.p (.str ([]:SS)),.p (.nilsl),.p (.nilsl),.p (.nilsl),.p (.nilsl),.p (.str ([]:SS)),.p (.nilsl),pB false,.p (.nilsl),.p (.nilsl),.p (.nilsl),.p (.nilsl),.p (.nilsl),pB false]]) (qg2 n x31 x25 x26 x27 x28 x1 x24 x2 x3 x4 x5 x6 x7 x8 x9 x10 x11 x12 x13 x14 x15 x16 x17 x18 x19 x20 x21 x22 x23 x30 x29) (r:=r) ?_ ?_
    ·intro x34 h
     unfold qg2 at h
     conv=>whnf
     refine ifc h (fun hc h=>?_) (fun hc h=>?_)
     ·conv=>whnf
      obtain⟨h10,h⟩:=qaz h
      refine⟨(of_decide_eq_true h10:((([82,69,84,85,82,78,32]:SS).length+x31.length:Nat):Int)≤qy3),?_⟩
      conv=>whnf
      refine⟨Codec.one qpt [qa4.mk (([82,69,84,85,82,78,32]:SS)++x31) x25 (1:Int) (1048576:Int)],qa4.rows [qa4.mk (([82,69,84,85,82,78,32]:SS)++x31) x25 (1:Int) (1048576:Int)],.inl rfl,?_⟩
      conv=>whnf
      obtain⟨h9,h⟩:=qaz h
      refine⟨_,⟨Codec.append qpt [qa4.mk (([82,69,84,85,82,78,32]:SS)++x31) x25 (1:Int) (1048576:Int)] [qa4.mk ([32,79,82,68,69,82,32,66,89,32]:SS) x26 (0:Int) (1048576:Int),qa4.mk ([32,83,75,73,80,32]:SS) x27 (0:Int) (1:Int),qa4.mk ([32,76,73,77,73,84,32]:SS) x28 (0:Int) (1:Int)],rfl,rfl,Codec.wide qpt [qa4.mk ([32,79,82,68,69,82,32,66,89,32]:SS) x26 (0:Int) (1048576:Int),qa4.mk ([32,83,75,73,80,32]:SS) x27 (0:Int) (1:Int),qa4.mk ([32,76,73,77,73,84,32]:SS) x28 (0:Int) (1:Int)],of_decide_eq_true h9,qd6 h9 (by decide)⟩,?_⟩
      conv=>whnf
      refine qme.cut (S:=List qa4×List qab) (fun(x35,x36)=>[(1,.ptr 0 0),(11,.vsl 1 ((qa4.rows x35).length)),(12,.ptr 2 0)]) (fun(x35,x36)=>[.box 55 [pI x1,pP x2,pE x3,pI x4,pS x5,pI x6,pB x7,pI x8,pS x9,pV x10,pT x11,pT x12,pE x13,pS x14,pA x15,pB x16,pO x17,pE x18,pE x19,pU x20,pT x21,pB x22],.vec 101 4 (qa4.rows x35),.box 55 [pI x1,.p (.nilsl),pE x36,.p (.int .i64 (0:Int)),.p (.str ([]:SS)),.p (.int .i64 (0:Int)),pB false,.p (.int .i64 (0:Int)),.p (.str ([]:SS)),.p (.nilsl),.p (.nilsl),.p (.nilsl),.p (.nilsl),.p (.str ([]:SS)),.p (.nilsl),pB false,.p (.nilsl),.p (.nilsl),.p (.nilsl),.p (.nilsl),.p (.nilsl),pB false]]) (qgw n x1 x2 x3 x4 x5 x6 x7 x8 x9 x10 x11 x12 x13 x14 x15 x16 x17 x18 x19 x20 x21 x22) (r:=r) ?_ ?_
      ·intro st h
       obtain⟨x35,x36⟩:=st
       unfold qgw at h
       conv=>whnf
       replace h:=qaa h
       obtain⟨x37,h4,h⟩:=h
       refine⟨_,(qae.leArgs (qe9 n _ _ _ h4) (by try exact fin)),?_⟩
       obtain rfl:=sj h
       conv=>whnf
       try exact fin
      ·conv=>whnf
       refine ifc h (fun hc h=>?_) (fun hc h=>?_)
       ·conv=>whnf
        obtain⟨h8,h⟩:=qaz h
        refine⟨(of_decide_eq_true h8:((([87,73,84,72,32]:SS).length+x31.length:Nat):Int)≤qy3),?_⟩
        conv=>whnf
        obtain⟨h7,h⟩:=qaz h
        refine⟨0,⟨rfl,of_decide_eq_true h7⟩,?_⟩
        conv=>whnf
        replace h:=qaa h
        obtain⟨⟨x38,x39,x40,x41⟩,h6,h⟩:=h
        refine⟨_,⟨rfl,Codec.getN qpt h6,rfl⟩,?_⟩
        conv=>whnf
        refine⟨_,Codec.setN qpt ([qa4.mk (([82,69,84,85,82,78,32]:SS)++x31) x25 (1:Int) (1048576:Int)]++[qa4.mk ([32,79,82,68,69,82,32,66,89,32]:SS) x26 (0:Int) (1048576:Int),qa4.mk ([32,83,75,73,80,32]:SS) x27 (0:Int) (1:Int),qa4.mk ([32,76,73,77,73,84,32]:SS) x28 (0:Int) (1:Int)]) 0 (qa4.mk (([87,73,84,72,32]:SS)++x31) x39 x40 x41),?_⟩
        conv=>whnf
        refine⟨Codec.one qpt [qa4.mk ([32,87,72,69,82,69,32]:SS) x24 (0:Int) (1:Int)],qa4.rows [qa4.mk ([32,87,72,69,82,69,32]:SS) x24 (0:Int) (1:Int)],.inl rfl,?_⟩
        conv=>whnf
        obtain⟨h5,h⟩:=qaz h
        refine⟨_,⟨Codec.append qpt (([qa4.mk (([82,69,84,85,82,78,32]:SS)++x31) x25 (1:Int) (1048576:Int)]++[qa4.mk ([32,79,82,68,69,82,32,66,89,32]:SS) x26 (0:Int) (1048576:Int),qa4.mk ([32,83,75,73,80,32]:SS) x27 (0:Int) (1:Int),qa4.mk ([32,76,73,77,73,84,32]:SS) x28 (0:Int) (1:Int)]).set 0 (qa4.mk (([87,73,84,72,32]:SS)++x31) x39 x40 x41)) [qa4.mk ([32,87,72,69,82,69,32]:SS) x24 (0:Int) (1:Int)],rfl,rfl,Codec.wide qpt [qa4.mk ([32,87,72,69,82,69,32]:SS) x24 (0:Int) (1:Int)],of_decide_eq_true h5,qd6 h5 (by decide)⟩,?_⟩
        conv=>whnf
        exact⟨(((([qa4.mk (([82,69,84,85,82,78,32]:SS)++x31) x25 (1:Int) (1048576:Int)]++[qa4.mk ([32,79,82,68,69,82,32,66,89,32]:SS) x26 (0:Int) (1048576:Int),qa4.mk ([32,83,75,73,80,32]:SS) x27 (0:Int) (1:Int),qa4.mk ([32,76,73,77,73,84,32]:SS) x28 (0:Int) (1:Int)]).set 0 (qa4.mk (([87,73,84,72,32]:SS)++x31) x39 x40 x41))++[qa4.mk ([32,87,72,69,82,69,32]:SS) x24 (0:Int) (1:Int)]),x3),h,wk [0,9,6] []⟩
       ·conv=>whnf
        exact⟨(([qa4.mk (([82,69,84,85,82,78,32]:SS)++x31) x25 (1:Int) (1048576:Int)]++[qa4.mk ([32,79,82,68,69,82,32,66,89,32]:SS) x26 (0:Int) (1048576:Int),qa4.mk ([32,83,75,73,80,32]:SS) x27 (0:Int) (1:Int),qa4.mk ([32,76,73,77,73,84,32]:SS) x28 (0:Int) (1:Int)]),([]:List _)),h,wk [0,8,6] []⟩
     ·conv=>whnf
      refine ifc h (fun hc h=>?_) (fun hc h=>?_)
      ·conv=>whnf
       refine⟨Codec.one qpt [qa4.mk ([67,82,69,65,84,69,32]:SS) x23 (1:Int) (1048576:Int)],qa4.rows [qa4.mk ([67,82,69,65,84,69,32]:SS) x23 (1:Int) (1048576:Int)],.inl rfl,?_⟩
       conv=>whnf
       replace h:=qaa h
       obtain⟨x42,h11,h⟩:=h
       refine⟨_,(qae.leArgs (qe9 n _ _ _ h11) (by try exact fin)),?_⟩
       obtain rfl:=sj h
       conv=>whnf
       try exact fin
      ·conv=>whnf
       refine ifc h (fun hc h=>?_) (fun hc h=>?_)
       ·conv=>whnf
        refine⟨id,id,?_⟩
        conv=>whnf
        replace h:=qaa h
        obtain⟨⟨x43,x44⟩,h13,h⟩:=h
        refine⟨_,fun hg=>Codec.at_ qnf (qah h13 hg),?_⟩
        conv=>whnf
        refine⟨id,id,id,id,id,?_⟩
        conv=>whnf
        refine ifc h (fun hc h=>?_) (fun hc h=>?_)
        ·obtain rfl:=sj h
         conv=>whnf
         try exact fin
        ·conv=>whnf
         refine⟨Codec.one qpt [qa4.mk ([77,69,82,71,69,32]:SS) x23 (1:Int) (1:Int)],qa4.rows [qa4.mk ([77,69,82,71,69,32]:SS) x23 (1:Int) (1:Int)],.inl rfl,?_⟩
         conv=>whnf
         replace h:=qaa h
         obtain⟨x45,h12,h⟩:=h
         refine⟨_,(qae.leArgs (qe9 n _ _ _ h12) (by try exact fin)),?_⟩
         obtain rfl:=sj h
         conv=>whnf
         try exact fin
       ·conv=>whnf
        refine qme.cut (S:=Bool) (fun x46=>[(1,.ptr 0 0),(8,.ptr 1 0),(9,.ptr 2 0),(11,.p (.nilsl)),(12,.ptr 3 0),(53,pI x1),(155,pB x46)]) (fun x46=>[.box 55 [pI x1,pP x2,pE x3,pI x4,pS x5,pI x6,pB x7,pI x8,pS x9,pV x10,pT x11,pT x12,pE x13,pS x14,pA x15,pB x16,pO x17,pE x18,pE x19,pU x20,pT x21,pB x22],.box 101 [.p (.str ([68,69,76,69,84,69,32]:SS)),.p (.sl (qbg.rows x29)),.p (.int .i64 (1:Int)),.p (.int .i64 (1048576:Int))],.box 101 [.p (.str ([]:SS)),.p (.sl (qbg.rows x30)),.p (.int .i64 (1:Int)),.p (.int .i64 (1048576:Int))],.box 55 [pI x1,.p (.nilsl),.p (.nilsl),.p (.int .i64 (0:Int)),.p (.str ([]:SS)),.p (.int .i64 (0:Int)),pB false,.p (.int .i64 (0:Int)),.p (.str ([]:SS)),.p (.nilsl),.p (.nilsl),.p (.nilsl),.p (.nilsl),.p (.str ([]:SS)),.p (.nilsl),pB false,.p (.nilsl),.p (.nilsl),.p (.nilsl),.p (.nilsl),.p (.nilsl),pB false]]) (qin n x1 x2 x3 x4 x5 x6 x7 x8 x9 x10 x11 x12 x13 x14 x15 x16 x17 x18 x19 x20 x21 x22 x30 x29) (r:=r) ?_ ?_
        ·intro x46 h
         unfold qin at h
         conv=>whnf
         refine ifc h (fun hc h=>?_) (fun hc h=>?_)
         ·conv=>whnf
          refine qme.cut (S:=SS) (fun x47=>[(1,.ptr 0 0),(9,.ptr 1 0),(12,.ptr 2 0)]) (fun x47=>[.box 55 [pI x1,pP x2,pE x3,pI x4,pS x5,pI x6,pB x7,pI x8,pS x9,pV x10,pT x11,pT x12,pE x13,pS x14,pA x15,pB x16,pO x17,pE x18,pE x19,pU x20,pT x21,pB x22],.box 101 [pS x47,.p (.sl (qbg.rows x30)),.p (.int .i64 (1:Int)),.p (.int .i64 (1048576:Int))],.box 55 [pI x1,.p (.nilsl),.p (.nilsl),.p (.int .i64 (0:Int)),.p (.str ([]:SS)),.p (.int .i64 (0:Int)),pB false,.p (.int .i64 (0:Int)),.p (.str ([]:SS)),.p (.nilsl),.p (.nilsl),.p (.nilsl),.p (.nilsl),.p (.str ([]:SS)),.p (.nilsl),pB false,.p (.nilsl),.p (.nilsl),.p (.nilsl),.p (.nilsl),.p (.nilsl),pB false]]) (qhr n x1 x2 x3 x4 x5 x6 x7 x8 x9 x10 x11 x12 x13 x14 x15 x16 x17 x18 x19 x20 x21 x22 x30) (r:=r) ?_ ?_
          ·intro x47 h
           unfold qhr at h
           conv=>whnf
           refine⟨Codec.one qpt [qa4.mk x47 x30 (1:Int) (1048576:Int)],qa4.rows [qa4.mk x47 x30 (1:Int) (1048576:Int)],.inl rfl,?_⟩
           conv=>whnf
           replace h:=qaa h
           obtain⟨x48,h14,h⟩:=h
           refine⟨_,(qae.leArgs (qe9 n _ _ _ h14) (by try exact fin)),?_⟩
           obtain rfl:=sj h
           conv=>whnf
           try exact fin
          ·conv=>whnf
           refine ifc h (fun hc h=>?_) (fun hc h=>?_)
           ·conv=>whnf
            exact⟨([82,69,77,79,86,69,32]:SS),h,wk [0,2,3] []⟩
           ·conv=>whnf
            exact⟨([83,69,84,32]:SS),h,wk [0,2,3] []⟩
         ·conv=>whnf
          refine ifc h (fun hc h=>?_) (fun hc h=>?_)
          ·conv=>whnf
           refine qme.cut (S:=SS) (fun x49=>[(1,.ptr 0 0),(8,.ptr 1 0),(12,.ptr 2 0)]) (fun x49=>[.box 55 [pI x1,pP x2,pE x3,pI x4,pS x5,pI x6,pB x7,pI x8,pS x9,pV x10,pT x11,pT x12,pE x13,pS x14,pA x15,pB x16,pO x17,pE x18,pE x19,pU x20,pT x21,pB x22],.box 101 [pS x49,.p (.sl (qbg.rows x29)),.p (.int .i64 (1:Int)),.p (.int .i64 (1048576:Int))],.box 55 [pI x1,.p (.nilsl),.p (.nilsl),.p (.int .i64 (0:Int)),.p (.str ([]:SS)),.p (.int .i64 (0:Int)),pB false,.p (.int .i64 (0:Int)),.p (.str ([]:SS)),.p (.nilsl),.p (.nilsl),.p (.nilsl),.p (.nilsl),.p (.str ([]:SS)),.p (.nilsl),pB false,.p (.nilsl),.p (.nilsl),.p (.nilsl),.p (.nilsl),.p (.nilsl),pB false]]) (qhh n x1 x2 x3 x4 x5 x6 x7 x8 x9 x10 x11 x12 x13 x14 x15 x16 x17 x18 x19 x20 x21 x22 x29) (r:=r) ?_ ?_
           ·intro x49 h
            unfold qhh at h
            conv=>whnf
            refine⟨Codec.one qpt [qa4.mk x49 x29 (1:Int) (1048576:Int)],qa4.rows [qa4.mk x49 x29 (1:Int) (1048576:Int)],.inl rfl,?_⟩
            conv=>whnf
            replace h:=qaa h
            obtain⟨x50,h15,h⟩:=h
            refine⟨_,(qae.leArgs (qe9 n _ _ _ h15) (by try exact fin)),?_⟩
            obtain rfl:=sj h
            conv=>whnf
            try exact fin
           ·conv=>whnf
            refine ifc h (fun hc h=>?_) (fun hc h=>?_)
            ·conv=>whnf
             exact⟨([68,69,84,65,67,72,32,68,69,76,69,84,69,32]:SS),h,wk [0,1,3] []⟩
            ·conv=>whnf
             exact⟨([68,69,76,69,84,69,32]:SS),h,wk [0,1,3] []⟩
          ·conv=>whnf
           replace h:=qaa h
           obtain⟨x51,h16,h⟩:=h
           refine⟨_,(qae.leArgs (qe9 n _ _ _ h16) (by try exact fin)),?_⟩
           obtain rfl:=sj h
           conv=>whnf
           try exact fin
        ·conv=>whnf
         refine ifc h (fun hc h=>?_) (fun hc h=>?_)
         ·conv=>whnf
          exact⟨(x1==6),h,wk [0,4,5,6] []⟩
         ·conv=>whnf
          exact⟨(x1==7),h,wk [0,4,5,6] []⟩
    ·conv=>whnf
     refine ifc h (fun hc h=>?_) (fun hc h=>?_)
     ·conv=>whnf
      exact⟨(x1==3),h,wk [0,1,2,3,4,5,6] []⟩
     ·conv=>whnf
      exact⟨(x1==9),h,wk [0,1,2,3,4,5,6] []⟩
 ·conv=>whnf
  refine ifc h (fun hc h=>?_) (fun hc h=>?_)
  ·conv=>whnf
   exact⟨([68,73,83,84,73,78,67,84,32]:SS),h,wk [0,1,2,3,4,5] []⟩
  ·conv=>whnf
   exact⟨([]:SS),h,wk [0,1,2,3,4,5] []⟩
abbrev q63 (r:Bool):PV:=PV.bool r
def qjg (n:Nat) (x1:SS):Option (Bool):=
 some (bif(!(x1==([]:SS)))then(decide (((x1.length:Nat):Int)≤64))else false)
theorem qjv (n:Nat):∀ (x1:SS) (r:Bool),qjg n x1=some r→qae Tryz.prog 165 [PV.str x1] (q63 r):=by
 intro x1 r h
 unfold qjg at h
 refine qae.of_vcN qa6 (fun _ _=>Tryz.call165 _ _) Tryz.func165 (by kernel_rfl) (inl:=[1000000]) ?_
 conv=>whnf
 refine⟨id,id,id,?_⟩
 obtain rfl:=sj h
 conv=>whnf
 try exact fin
abbrev q7k (r:SS):PV:=PV.str r
def qj3 (n:Nat) (nx1:Int×SS→Option SS) (x2:Int):SS→Option SS:=fun x4=>
nx1 ((IntKind.i64.wrap (x2+1)),x4)
def qj9 (n:Nat) (x1:SS):(Int×SS→Option SS)→Int×SS→Option SS:=fun nx1 (x2,x3)=>
bif(decide (x2<((x1.length:Nat):Int)))then(
bnd (q3x x2) fun x5=>
chk (decide (x5<x3.length)) (
bnd (x3[x5]?) fun x6=>
bif(bif(decide (((x6.toNat:Nat):Int)≥97))then(decide (((x6.toNat:Nat):Int)≤122))else false)then(
bnd (q3x x2) fun x7=>
chk (decide (x7<x3.length)) (
bnd (u8I (IntKind.u8.wrap (((x6.toNat:Nat):Int) - 32))) fun x8=>
chk (decide (x7<x3.length)) (
qj3 n nx1 x2 (x3.set x7 x8))))
else(
qj3 n nx1 x2 x3)))
else(
some x3)
def qoc (n:Nat) (x1:SS):Option SS:=
 qas (qj9 n x1) n ((0:Int),x1)
theorem q43 (n:Nat):∀ (x1 r:SS),qoc n x1=some r→qae Tryz.prog 171 [PV.str x1] (q7k r):=by
 intro x1 r h
 unfold qoc at h
 refine qae.of_vcN qa6 (fun _ _=>Tryz.call171 _ _) Tryz.func171 (by kernel_rfl) (inl:=[10000007,1000000]) ?_
 conv=>whnf
 refine qb4.fn [10000007,1000000] (S:=Int×SS) (fun(x2,x3)=>[(3,.vsl 0 x3.length),(8,.vsl 0 x3.length),(9,.p (.int .i64 ((x1.length:Nat):Int))),(10,pI x2)]) (fun(x2,x3)=>[.bv x3]) (B:=qj9 n x1) h (wk [0] []) ?_
 intro nx1 st h
 obtain⟨x2,x3⟩:=st
 unfold qj9 at h
 conv=>whnf
 refine ifc h (fun hc h=>?_) (fun hc h=>?_)
 ·conv=>whnf
  refine qme.cut (S:=SS) (fun x4=>[(3,.vsl 0 x4.length),(8,.vsl 0 x4.length),(9,.p (.int .i64 ((x1.length:Nat):Int))),(10,pI x2)]) (fun x4=>[.bv x4]) (qj3 n nx1 x2) (r:=r) ?_ ?_
  ·intro x4 h
   unfold qj3 at h
   conv=>whnf
   exact⟨((IntKind.i64.wrap (x2+1)),x4),h,wk [0] []⟩
  ·conv=>whnf
   replace h:=qaa h
   obtain⟨x5,h7,h⟩:=h
   have hj:=qfx h7
   conv=>whnf
   obtain⟨h6,h⟩:=qaz h
   refine⟨x5,⟨hj,of_decide_eq_true h6⟩,?_⟩
   conv=>whnf
   replace h:=qaa h
   obtain⟨x6,h5,h⟩:=h
   refine⟨_,⟨rfl,rfl,h5⟩,?_⟩
   conv=>whnf
   refine⟨id,id,?_⟩
   conv=>whnf
   refine ifc h (fun hc h=>?_) (fun hc h=>?_)
   ·conv=>whnf
    replace h:=qaa h
    obtain⟨x7,h4,h⟩:=h
    have hj:=qfx h4
    conv=>whnf
    obtain⟨h3,h⟩:=qaz h
    refine⟨x7,⟨hj,of_decide_eq_true h3⟩,?_⟩
    conv=>whnf
    replace h:=qaa h
    obtain⟨x8,h2,h⟩:=h
    have hb:=q7g h2
    conv=>whnf
    obtain⟨h1,h⟩:=qaz h
    refine⟨_,_,⟨rfl,rfl,of_decide_eq_true h1,hb,rfl⟩,?_⟩
    conv=>whnf
    exact⟨(x3.set x7 x8),h,wk [0] []⟩
   ·conv=>whnf
    exact⟨x3,h,wk [0] []⟩
 ·conv=>whnf
  refine⟨by first|rfl|simp only[List.length_set]|(simp only[List.length_set]; assumption)|assumption,?_⟩
  obtain rfl:=sj h
  conv=>whnf
  try exact fin
abbrev q77 (r:Bool):PV:=PV.bool r
def qjs (n:Nat) (x1:SS):(Nat→Option (Bool))→Nat→Option (Bool):=fun nx1 x2=>
bif(decide (x2<x1.length))then(
bif(bif(!(bif(bif(bif(decide (((qmh x1 x2:Nat):Int)≥97))then(decide (((qmh x1 x2:Nat):Int)≤122))else false)then true else(bif(decide (((qmh x1 x2:Nat):Int)≥65))then(decide (((qmh x1 x2:Nat):Int)≤90))else false))then true else(((qmh x1 x2:Nat):Int)==95)))then(bif(bif(((x2:Nat):Int)==0)then true else(decide (((qmh x1 x2:Nat):Int)<48)))then true else(decide (((qmh x1 x2:Nat):Int)>57)))else false)then(
some false)
else(
nx1 (bif(decide (x2<x1.length))then qyq x1 x2 else x2)))
else(
some (bif(!(x1==([]:SS)))then(decide (((x1.length:Nat):Int)≤64))else false))
def qmx (n:Nat) (x1:SS):Option (Bool):=
 qas (qjs n x1) n 0
theorem qxi (n:Nat):∀ (x1:SS) (r:Bool),qmx n x1=some r→qae Tryz.prog 169 [PV.str x1] (q77 r):=by
 intro x1 r h
 unfold qmx at h
 refine qae.of_vcN qa6 (fun _ _=>Tryz.call169 _ _) Tryz.func169 (by kernel_rfl) (inl:=[1000000]) ?_
 conv=>whnf
 refine qb4.fn [1000000] (S:=Nat) (fun x2=>[(0,pS x1),(7,.ptr 0 0)]) (fun x2=>[.sit x1 x2]) (B:=qjs n x1) h (wk [0] []) ?_
 intro nx1 x2 h
 unfold qjs at h
 conv=>whnf
 refine⟨(decide (x2<x1.length)),(bif(decide (x2<x1.length))then qyq x1 x2 else x2),⟨rfl,rfl⟩,?_⟩
 conv=>whnf
 refine ifc h (fun hc h=>?_) (fun hc h=>?_)
 ·conv=>whnf
  refine⟨by assumption,?_⟩
  conv=>whnf
  refine⟨by assumption,?_⟩
  conv=>whnf
  refine⟨id,id,id,id,id,id,id,id,id,id,id,id,id,id,id,id,id,id,id,id,?_⟩
  conv=>whnf
  refine ifc h (fun hc h=>?_) (fun hc h=>?_)
  ·obtain rfl:=sj h
   conv=>whnf
   try exact fin
  ·conv=>whnf
   exact⟨(bif(decide (x2<x1.length))then qyq x1 x2 else x2),h,wk [0] []⟩
 ·conv=>whnf
  refine⟨id,id,id,?_⟩
  obtain rfl:=sj h
  conv=>whnf
  try exact fin
abbrev zae (r:SS×Bool):PV:=PV.tup [PV.str r.1,PV.bool r.2]
def qwa (n:Nat) (x1:SS):Option (SS×Bool):=
 bnd (qoc n x1) fun x2=>
 bnd (qmx n x1) fun x3=>
 chk (bif(!(!x3))then decide (((([32]:SS).length+x2.length:Nat):Int)≤qy3)else true) (
 chk (bif(!(!x3))then decide ((((([32]:SS)++x2).length+([32]:SS).length:Nat):Int)≤qy3)else true) (
 bnd (qa2 (!(!x3)) (qki n ([32,77,65,84,67,72,32,87,72,69,82,69,32,85,78,87,73,78,68,32,65,83,32,87,73,84,72,32,67,82,69,65,84,69,32,77,69,82,71,69,32,83,69,84,32,82,69,77,79,86,69,32,68,69,76,69,84,69,32,68,69,84,65,67,72,32,82,69,84,85,82,78,32,68,73,83,84,73,78,67,84,32,79,82,68,69,82,32,66,89,32,65,83,67,32,68,69,83,67,32,83,75,73,80,32,76,73,77,73,84,32,65,78,68,32,79,82,32,88,79,82,32,78,79,84,32,73,78,32,73,83,32,78,85,76,76,32,84,82,85,69,32,70,65,76,83,69,32]:SS) ((([32]:SS)++x2)++([32]:SS)))) fun x4=>
 bif(bif(!x3)then true else(!x4))then(
 some (([]:SS),false))
 else(
 some (x2,true))))
theorem q7r (n:Nat):∀ (x1:SS) (r:SS×Bool),qwa n x1=some r→qae Tryz.prog 168 [PV.str x1] (zae r):=by
 intro x1 r h
 unfold qwa at h
 refine qae.of_vcN qa6 (fun _ _=>Tryz.call168 _ _) Tryz.func168 (by kernel_rfl) (inl:=[1000000]) ?_
 conv=>whnf
 replace h:=qaa h
 obtain⟨x2,h5,h⟩:=h
 refine⟨_,(q43 n _ _ h5),?_⟩
 conv=>whnf
 replace h:=qaa h
 obtain⟨x3,h4,h⟩:=h
 refine⟨_,(qxi n _ _ h4),?_⟩
 conv=>whnf
 refine⟨id,?_⟩
 conv=>whnf
 obtain⟨h3,h⟩:=qaz h
 refine⟨fun hg=>(of_decide_eq_true (gd h3 hg):((([32]:SS).length+x2.length:Nat):Int)≤qy3),?_⟩
 conv=>whnf
 refine⟨id,?_⟩
 conv=>whnf
 obtain⟨h2,h⟩:=qaz h
 refine⟨fun hg=>(of_decide_eq_true (gd h2 hg):(((([32]:SS)++x2).length+([32]:SS).length:Nat):Int)≤qy3),?_⟩
 conv=>whnf
 refine⟨id,?_⟩
 conv=>whnf
 replace h:=qaa h
 obtain⟨x4,h1,h⟩:=h
 refine⟨_,fun hg=>(qvw n _ _ _ (qah h1 hg)),?_⟩
 conv=>whnf
 refine⟨id,id,?_⟩
 conv=>whnf
 refine ifc h (fun hc h=>?_) (fun hc h=>?_)
 ·obtain rfl:=sj h
  conv=>whnf
  try exact fin
 ·obtain rfl:=sj h
  conv=>whnf
  try exact fin
abbrev q4j (r:Bool):PV:=PV.bool r
def qew (n:Nat) (x1:SS):Option (Bool):=
 bnd (qwa n x1) fun⟨x2,x3⟩=>
 bnd (qmx n x1) fun x4=>
 some (bif x4 then(!x3)else false)
theorem qf4 (n:Nat):∀ (x1:SS) (r:Bool),qew n x1=some r→qae Tryz.prog 166 [PV.str x1] (q4j r):=by
 intro x1 r h
 unfold qew at h
 refine qae.of_vcN qa6 (fun _ _=>Tryz.call166 _ _) Tryz.func166 (by kernel_rfl) (inl:=[1000000]) ?_
 conv=>whnf
 replace h:=qaa h
 obtain⟨⟨x2,x3⟩,h2,h⟩:=h
 refine⟨_,(q7r n _ _ h2),?_⟩
 conv=>whnf
 replace h:=qaa h
 obtain⟨x4,h1,h⟩:=h
 refine⟨_,(qxi n _ _ h1),?_⟩
 conv=>whnf
 refine⟨id,id,?_⟩
 obtain rfl:=sj h
 conv=>whnf
 try exact fin
abbrev q56 (r:Bool):PV:=PV.bool r
def qm1 (n:Nat) (a0z:Val):Option (Bool):=
 match a0z with
 | ⟨x1,x2,x3,x4,x5,x6⟩=>
 some (bif(bif(bif(bif(bif(x1==1)then true else(!x2))then(bif(bif(x1==2)then true else(decide (x1≥6)))then true else(x3==0))else false)then(bif(x1==3)then true else(x4==([]:SS)))else false)then(bif(bif(x1==4)then true else(x1==5))then true else(((Val.rows x5).length:Int)==0))else false)then(bif(x1==5)then true else(((qak x6).length:Int)==0))else false)
theorem q3g (n:Nat):∀ (a0z:Val) (r:Bool),qm1 n a0z=some r→qae Tryz.prog 187 [PV.agg (qrx.cells a0z)] (q56 r):=by
 intro a0z r h
 obtain⟨x1,x2,x3,x4,x5,x6⟩:=a0z
 unfold qm1 at h
 refine qae.of_vcN qa6 (fun _ _=>Tryz.call187 _ _) Tryz.func187 (by kernel_rfl) (inl:=[1000000]) ?_
 conv=>whnf
 refine⟨id,id,id,id,id,id,id,id,id,id,id,id,id,id,id,id,id,id,id,id,id,id,id,id,id,id,id,id,id,id,id,id,id,id,id,id,id,id,id,id,id,id,id,id,id,id,id,?_⟩
 obtain rfl:=sj h
 conv=>whnf
 try exact fin
abbrev q5h (r:Bool):PV:=PV.bool r
def qg5 (n:Nat) (x1:List SS):(Int→Option (Bool))→Int→Option (Bool):=fun nx1 x2=>
bif(decide (x2<((qak x1).length:Int)))then(
bnd (idx x1 x2) fun x3=>
bnd (qa2 ((!(bif(x3==([]:SS))then true else(decide (((x3.length:Nat):Int)>64))))&&(decide (x2>0))) (idx x1 (IntKind.i64.wrap (x2 - 1)))) fun x4=>
bif(bif(bif(x3==([]:SS))then true else(decide (((x3.length:Nat):Int)>64)))then true else(bif(decide (x2>0))then(!(Op.bytesLess x4 x3))else false))then(
some false)
else(
nx1 (IntKind.i64.wrap (x2+1))))
else(
some true)
def qrs (n:Nat) (x1:List SS):Option (Bool):=
 qas (qg5 n x1) n (0:Int)
theorem q3r (n:Nat):∀ (x1:List SS) (r:Bool),qrs n x1=some r→qae Tryz.prog 188 [PV.sl (qak x1)] (q5h r):=by
 intro x1 r h
 unfold qrs at h
 refine qae.of_vcN qa6 (fun _ _=>Tryz.call188 _ _) Tryz.func188 (by kernel_rfl) (inl:=[1000000]) ?_
 conv=>whnf
 refine qb4.fn [1000000] (S:=Int) (fun x2=>[(0,pT x1),(5,pT x1),(6,.p (.int .i64 ((qak x1).length:Int))),(7,pI x2)]) (fun x2=>[]) (B:=qg5 n x1) h (wk [] []) ?_
 intro nx1 x2 h
 unfold qg5 at h
 conv=>whnf
 refine ifc h (fun hc h=>?_) (fun hc h=>?_)
 ·conv=>whnf
  replace h:=qaa h
  obtain⟨x3,h2,h⟩:=h
  refine⟨_,Codec.at_ qp6 h2,?_⟩
  conv=>whnf
  refine⟨id,id,id,id,id,id,id,id,?_⟩
  conv=>whnf
  replace h:=qaa h
  obtain⟨x4,h1,h⟩:=h
  refine⟨_,fun hg=>Codec.at_ qp6 (qah h1 hg),?_⟩
  conv=>whnf
  refine⟨id,id,id,id,id,id,?_⟩
  conv=>whnf
  refine ifc h (fun hc h=>?_) (fun hc h=>?_)
  ·obtain rfl:=sj h
   conv=>whnf
   try exact fin
  ·conv=>whnf
   exact⟨(IntKind.i64.wrap (x2+1)),h,wk [] []⟩
 ·obtain rfl:=sj h
  conv=>whnf
  try exact fin
abbrev qot (r:Int×Bool):PV:=PV.tup [PV.int .i64 r.1,PV.bool r.2]
def qft (n:Nat) (x5:List Val) (g184:Val→Int→Int→Option (Int×Bool)) (x7:Int):(Int×Bool×Int→Option (Int×Bool))→Int×Bool×Int→Option (Int×Bool):=fun nx1 (x11,x12,x13)=>
bif(bif(decide (x13<((Val.rows x5).length:Int)))then x12 else false)then(
bnd (idx x5 x13) fun⟨x14,x15,x16,x17,x18,x19⟩=>
bnd (g184 (Val.mk x14 x15 x16 x17 x18 x19) (IntKind.i64.wrap (x7 - 1)) x11) fun⟨x20,x21⟩=>
nx1 (x20,x21,(IntKind.i64.wrap (x13+1))))
else(
some (x11,x12))
def qpv (n:Nat) (g184:Val→Int→Int→Option (Int×Bool)) (a0z:Val) (x7 x8:Int):Option (Int×Bool):=
 match a0z with
 | ⟨x1,x2,x3,x4,x5,x6⟩=>
 bnd (qa2 (!(bif(bif(bif(decide (x7<1))then true else(decide ((IntKind.i64.wrap (x8+1))>4096)))then true else(decide (x1<0)))then true else(decide (x1>7)))) (qm1 n (Val.mk x1 x2 x3 x4 x5 x6))) fun x9=>
 bnd (qa2 (((!(bif(bif(bif(bif(bif(decide (x7<1))then true else(decide ((IntKind.i64.wrap (x8+1))>4096)))then true else(decide (x1<0)))then true else(decide (x1>7)))then true else(!x9))then true else(bif(decide (x1≥6))then(decide (x3<1))else false)))&&(x1==5))&&(!(((qak x6).length:Int) != ((Val.rows x5).length:Int)))) (qrs n x6)) fun x10=>
 bif(bif(bif(bif(bif(bif(bif(decide (x7<1))then true else(decide ((IntKind.i64.wrap (x8+1))>4096)))then true else(decide (x1<0)))then true else(decide (x1>7)))then true else(!x9))then true else(bif(decide (x1≥6))then(decide (x3<1))else false))then true else(bif(x1==5)then(bif(((qak x6).length:Int) != ((Val.rows x5).length:Int))then true else(!x10))else false))then(
 some ((IntKind.i64.wrap (x8+1)),false))
 else(
 qas (qft n x5 g184 x7) n ((IntKind.i64.wrap (x8+1)),true,(0:Int)))
theorem q1i (n:Nat) (g184:Val→Int→Int→Option (Int×Bool)) (g184_ok:∀ (a0z:Val) (x7 x8:Int) (r:Int×Bool),g184 a0z x7 x8=some r→qae Tryz.prog 184 [PV.agg (qrx.cells a0z),PV.int .i64 x7,PV.int .i64 x8] (qot r)):∀ (a0z:Val) (x7 x8:Int) (r:Int×Bool),qpv n g184 a0z x7 x8=some r→qae Tryz.prog 184 [PV.agg (qrx.cells a0z),PV.int .i64 x7,PV.int .i64 x8] (qot r):=by
 intro a0z x7 x8 r h
 obtain⟨x1,x2,x3,x4,x5,x6⟩:=a0z
 unfold qpv at h
 refine qae.of_vcN qa6 (fun _ _=>Tryz.call184 _ _) Tryz.func184 (by kernel_rfl) (inl:=[1000000]) ?_
 conv=>whnf
 refine⟨id,id,id,id,id,id,id,id,id,?_⟩
 conv=>whnf
 replace h:=qaa h
 obtain⟨x9,h4,h⟩:=h
 refine⟨_,fun hg=>(q3g n _ _ (qah h4 hg)),?_⟩
 conv=>whnf
 refine⟨id,id,id,id,id,id,id,id,id,id,id,id,id,id,id,id,id,id,id,id,id,id,?_⟩
 conv=>whnf
 replace h:=qaa h
 obtain⟨x10,h3,h⟩:=h
 refine⟨_,fun hg=>(q3r n _ _ (qah h3 hg)),?_⟩
 conv=>whnf
 refine⟨id,id,id,id,id,id,?_⟩
 conv=>whnf
 refine ifc h (fun hc h=>?_) (fun hc h=>?_)
 ·obtain rfl:=sj h
  conv=>whnf
  try exact fin
 ·conv=>whnf
  refine qb4.fn [1000000] (S:=Int×Bool×Int) (fun(x11,x12,x13)=>[(1,pI x7),(2,pI x11),(3,.ptr 0 0),(8,pB x12),(9,pI x13)]) (fun(x11,x12,x13)=>[.box 44 [pI x1,pB x2,pI x3,pS x4,pV x5,pT x6]]) (B:=qft n x5 g184 x7) h (wk [0] []) ?_
  intro nx1 st h
  obtain⟨x11,x12,x13⟩:=st
  unfold qft at h
  conv=>whnf
  refine⟨id,?_⟩
  conv=>whnf
  refine ifc h (fun hc h=>?_) (fun hc h=>?_)
  ·conv=>whnf
   replace h:=qaa h
   obtain⟨⟨x14,x15,x16,x17,x18,x19⟩,h2,h⟩:=h
   refine⟨_,Codec.at_ qrx h2,?_⟩
   conv=>whnf
   replace h:=qaa h
   obtain⟨⟨x20,x21⟩,h1,h⟩:=h
   refine⟨_,(g184_ok _ _ _ _ h1),?_⟩
   conv=>whnf
   exact⟨(x20,x21,(IntKind.i64.wrap (x13+1))),h,wk [0] []⟩
  ·obtain rfl:=sj h
   conv=>whnf
   try exact fin
def qhs:Nat→Val→Int→Int→Option (Int×Bool)
 | 0=>fun _ _ _=>none
 | n+1=>qpv n (qhs n)
theorem q1u (n:Nat):(∀ (a0z:Val) (x7 x8:Int) (r:Int×Bool),qhs n a0z x7 x8=some r→qae Tryz.prog 184 [PV.agg (qrx.cells a0z),PV.int .i64 x7,PV.int .i64 x8] (qot r)):=by
 induction n with
 | zero=>exact(by intros; rename_i h; cases h)
 | succ n ih=>
  have hg184:=ih
  exact q1i n (qhs n) hg184
theorem q3t (n:Nat):∀ (a0z:Val) (x7 x8:Int) (r:Int×Bool),qhs n a0z x7 x8=some r→qae Tryz.prog 184 [PV.agg (qrx.cells a0z),PV.int .i64 x7,PV.int .i64 x8] (qot r):=(q1u n)
abbrev q4a (r:Int):PV:=PV.int .i64 r
def qn0 (n:Nat) (a0z:Val):Option (Int):=
 match a0z with
 | ⟨x1,x2,x3,x4,x5,x6⟩=>
 bnd (qhs n (Val.mk x1 x2 x3 x4 x5 x6) (32:Int) (0:Int)) fun⟨x7,x8⟩=>
 bif(!x8)then(
 some (20:Int))
 else(
 some (0:Int))
theorem q13 (n:Nat):∀ (a0z:Val) (r:Int),qn0 n a0z=some r→qae Tryz.prog 179 [PV.agg (qrx.cells a0z)] (q4a r):=by
 intro a0z r h
 obtain⟨x1,x2,x3,x4,x5,x6⟩:=a0z
 unfold qn0 at h
 refine qae.of_vcN qa6 (fun _ _=>Tryz.call179 _ _) Tryz.func179 (by kernel_rfl) (inl:=[1000000]) ?_
 conv=>whnf
 replace h:=qaa h
 obtain⟨⟨x7,x8⟩,h1,h⟩:=h
 refine⟨_,(q3t n _ _ _ _ h1),?_⟩
 conv=>whnf
 refine ifc h (fun hc h=>?_) (fun hc h=>?_)
 ·obtain rfl:=sj h
  conv=>whnf
  try exact fin
 ·obtain rfl:=sj h
  conv=>whnf
  try exact fin
abbrev q0f (r:Bool):PV:=PV.bool r
def qk2 (n:Nat) (a0z:Val):Option (Bool):=
 match a0z with
 | ⟨x1,x2,x3,x4,x5,x6⟩=>
 bnd (qn0 n (Val.mk x1 x2 x3 x4 x5 x6)) fun x7=>
 some (bif(x7==0)then(bif(bif(decide (x1≤1))then true else(bif(x1==2)then(decide (x3≥0))else false))then true else(x1==3))else false)
theorem qzr (n:Nat):∀ (a0z:Val) (r:Bool),qk2 n a0z=some r→qae Tryz.prog 175 [PV.agg (qrx.cells a0z)] (q0f r):=by
 intro a0z r h
 obtain⟨x1,x2,x3,x4,x5,x6⟩:=a0z
 unfold qk2 at h
 refine qae.of_vcN qa6 (fun _ _=>Tryz.call175 _ _) Tryz.func175 (by kernel_rfl) (inl:=[1000000]) ?_
 conv=>whnf
 replace h:=qaa h
 obtain⟨x7,h1,h⟩:=h
 refine⟨_,(q13 n _ _ h1),?_⟩
 conv=>whnf
 refine⟨id,id,id,id,id,id,id,id,id,id,id,id,id,id,id,id,id,id,?_⟩
 obtain rfl:=sj h
 conv=>whnf
 try exact fin
abbrev q34 (r:Int):PV:=PV.int .i64 r
def qlk (n:Nat) (x1:SS):Option (Int):=
 some (qdj (qch ([37]:SS) (7:Int) (qch ([47]:SS) (7:Int) (qch ([42]:SS) (7:Int) (qch ([45]:SS) (6:Int) (qch ([43]:SS) (6:Int) (qch ([73,78]:SS) (5:Int) (qch ([62,61]:SS) (5:Int) (qch ([62]:SS) (5:Int) (qch ([60,61]:SS) (5:Int) (qch ([60]:SS) (5:Int) (qch ([60,62]:SS) (5:Int) (qch ([61]:SS) (5:Int) (qch ([65,78,68]:SS) (3:Int) (qch ([88,79,82]:SS) (2:Int) (qch ([79,82]:SS) (1:Int) ([]:List (SS×Int))))))))))))))))) x1 (0:Int))
theorem q2d (n:Nat):∀ (x1:SS) (r:Int),qlk n x1=some r→qae Tryz.prog 176 [PV.str x1] (q34 r):=by
 intro x1 r h
 unfold qlk at h
 refine qae.of_vcN qa6 (fun _ _=>Tryz.call176 _ _) Tryz.func176 (by kernel_rfl) (inl:=[1000000]) ?_
 conv=>whnf
 refine⟨_,qg7 qd7 (PV.int .i64) ([79,82]:SS) (1:Int) ([]:List (SS×Int)),?_⟩
 conv=>whnf
 refine⟨_,qg7 qd7 (PV.int .i64) ([88,79,82]:SS) (2:Int) (qch ([79,82]:SS) (1:Int) ([]:List (SS×Int))),?_⟩
 conv=>whnf
 refine⟨_,qg7 qd7 (PV.int .i64) ([65,78,68]:SS) (3:Int) (qch ([88,79,82]:SS) (2:Int) (qch ([79,82]:SS) (1:Int) ([]:List (SS×Int)))),?_⟩
 conv=>whnf
 refine⟨_,qg7 qd7 (PV.int .i64) ([61]:SS) (5:Int) (qch ([65,78,68]:SS) (3:Int) (qch ([88,79,82]:SS) (2:Int) (qch ([79,82]:SS) (1:Int) ([]:List (SS×Int))))),?_⟩
 conv=>whnf
 refine⟨_,qg7 qd7 (PV.int .i64) ([60,62]:SS) (5:Int) (qch ([61]:SS) (5:Int) (qch ([65,78,68]:SS) (3:Int) (qch ([88,79,82]:SS) (2:Int) (qch ([79,82]:SS) (1:Int) ([]:List (SS×Int)))))),?_⟩
 conv=>whnf
 refine⟨_,qg7 qd7 (PV.int .i64) ([60]:SS) (5:Int) (qch ([60,62]:SS) (5:Int) (qch ([61]:SS) (5:Int) (qch ([65,78,68]:SS) (3:Int) (qch ([88,79,82]:SS) (2:Int) (qch ([79,82]:SS) (1:Int) ([]:List (SS×Int))))))),?_⟩
 conv=>whnf
 refine⟨_,qg7 qd7 (PV.int .i64) ([60,61]:SS) (5:Int) (qch ([60]:SS) (5:Int) (qch ([60,62]:SS) (5:Int) (qch ([61]:SS) (5:Int) (qch ([65,78,68]:SS) (3:Int) (qch ([88,79,82]:SS) (2:Int) (qch ([79,82]:SS) (1:Int) ([]:List (SS×Int)))))))),?_⟩
 conv=>whnf
 refine⟨_,qg7 qd7 (PV.int .i64) ([62]:SS) (5:Int) (qch ([60,61]:SS) (5:Int) (qch ([60]:SS) (5:Int) (qch ([60,62]:SS) (5:Int) (qch ([61]:SS) (5:Int) (qch ([65,78,68]:SS) (3:Int) (qch ([88,79,82]:SS) (2:Int) (qch ([79,82]:SS) (1:Int) ([]:List (SS×Int))))))))),?_⟩
 conv=>whnf
 refine⟨_,qg7 qd7 (PV.int .i64) ([62,61]:SS) (5:Int) (qch ([62]:SS) (5:Int) (qch ([60,61]:SS) (5:Int) (qch ([60]:SS) (5:Int) (qch ([60,62]:SS) (5:Int) (qch ([61]:SS) (5:Int) (qch ([65,78,68]:SS) (3:Int) (qch ([88,79,82]:SS) (2:Int) (qch ([79,82]:SS) (1:Int) ([]:List (SS×Int)))))))))),?_⟩
 conv=>whnf
 refine⟨_,qg7 qd7 (PV.int .i64) ([73,78]:SS) (5:Int) (qch ([62,61]:SS) (5:Int) (qch ([62]:SS) (5:Int) (qch ([60,61]:SS) (5:Int) (qch ([60]:SS) (5:Int) (qch ([60,62]:SS) (5:Int) (qch ([61]:SS) (5:Int) (qch ([65,78,68]:SS) (3:Int) (qch ([88,79,82]:SS) (2:Int) (qch ([79,82]:SS) (1:Int) ([]:List (SS×Int))))))))))),?_⟩
 conv=>whnf
 refine⟨_,qg7 qd7 (PV.int .i64) ([43]:SS) (6:Int) (qch ([73,78]:SS) (5:Int) (qch ([62,61]:SS) (5:Int) (qch ([62]:SS) (5:Int) (qch ([60,61]:SS) (5:Int) (qch ([60]:SS) (5:Int) (qch ([60,62]:SS) (5:Int) (qch ([61]:SS) (5:Int) (qch ([65,78,68]:SS) (3:Int) (qch ([88,79,82]:SS) (2:Int) (qch ([79,82]:SS) (1:Int) ([]:List (SS×Int)))))))))))),?_⟩
 conv=>whnf
 refine⟨_,qg7 qd7 (PV.int .i64) ([45]:SS) (6:Int) (qch ([43]:SS) (6:Int) (qch ([73,78]:SS) (5:Int) (qch ([62,61]:SS) (5:Int) (qch ([62]:SS) (5:Int) (qch ([60,61]:SS) (5:Int) (qch ([60]:SS) (5:Int) (qch ([60,62]:SS) (5:Int) (qch ([61]:SS) (5:Int) (qch ([65,78,68]:SS) (3:Int) (qch ([88,79,82]:SS) (2:Int) (qch ([79,82]:SS) (1:Int) ([]:List (SS×Int))))))))))))),?_⟩
 conv=>whnf
 refine⟨_,qg7 qd7 (PV.int .i64) ([42]:SS) (7:Int) (qch ([45]:SS) (6:Int) (qch ([43]:SS) (6:Int) (qch ([73,78]:SS) (5:Int) (qch ([62,61]:SS) (5:Int) (qch ([62]:SS) (5:Int) (qch ([60,61]:SS) (5:Int) (qch ([60]:SS) (5:Int) (qch ([60,62]:SS) (5:Int) (qch ([61]:SS) (5:Int) (qch ([65,78,68]:SS) (3:Int) (qch ([88,79,82]:SS) (2:Int) (qch ([79,82]:SS) (1:Int) ([]:List (SS×Int)))))))))))))),?_⟩
 conv=>whnf
 refine⟨_,qg7 qd7 (PV.int .i64) ([47]:SS) (7:Int) (qch ([42]:SS) (7:Int) (qch ([45]:SS) (6:Int) (qch ([43]:SS) (6:Int) (qch ([73,78]:SS) (5:Int) (qch ([62,61]:SS) (5:Int) (qch ([62]:SS) (5:Int) (qch ([60,61]:SS) (5:Int) (qch ([60]:SS) (5:Int) (qch ([60,62]:SS) (5:Int) (qch ([61]:SS) (5:Int) (qch ([65,78,68]:SS) (3:Int) (qch ([88,79,82]:SS) (2:Int) (qch ([79,82]:SS) (1:Int) ([]:List (SS×Int))))))))))))))),?_⟩
 conv=>whnf
 refine⟨_,qg7 qd7 (PV.int .i64) ([37]:SS) (7:Int) (qch ([47]:SS) (7:Int) (qch ([42]:SS) (7:Int) (qch ([45]:SS) (6:Int) (qch ([43]:SS) (6:Int) (qch ([73,78]:SS) (5:Int) (qch ([62,61]:SS) (5:Int) (qch ([62]:SS) (5:Int) (qch ([60,61]:SS) (5:Int) (qch ([60]:SS) (5:Int) (qch ([60,62]:SS) (5:Int) (qch ([61]:SS) (5:Int) (qch ([65,78,68]:SS) (3:Int) (qch ([88,79,82]:SS) (2:Int) (qch ([79,82]:SS) (1:Int) ([]:List (SS×Int)))))))))))))))),?_⟩
 conv=>whnf
 refine⟨PV.int .i64 (qdj (qch ([37]:SS) (7:Int) (qch ([47]:SS) (7:Int) (qch ([42]:SS) (7:Int) (qch ([45]:SS) (6:Int) (qch ([43]:SS) (6:Int) (qch ([73,78]:SS) (5:Int) (qch ([62,61]:SS) (5:Int) (qch ([62]:SS) (5:Int) (qch ([60,61]:SS) (5:Int) (qch ([60]:SS) (5:Int) (qch ([60,62]:SS) (5:Int) (qch ([61]:SS) (5:Int) (qch ([65,78,68]:SS) (3:Int) (qch ([88,79,82]:SS) (2:Int) (qch ([79,82]:SS) (1:Int) ([]:List (SS×Int))))))))))))))))) x1 (0:Int)),(q2n (qch ([37]:SS) (7:Int) (qch ([47]:SS) (7:Int) (qch ([42]:SS) (7:Int) (qch ([45]:SS) (6:Int) (qch ([43]:SS) (6:Int) (qch ([73,78]:SS) (5:Int) (qch ([62,61]:SS) (5:Int) (qch ([62]:SS) (5:Int) (qch ([60,61]:SS) (5:Int) (qch ([60]:SS) (5:Int) (qch ([60,62]:SS) (5:Int) (qch ([61]:SS) (5:Int) (qch ([65,78,68]:SS) (3:Int) (qch ([88,79,82]:SS) (2:Int) (qch ([79,82]:SS) (1:Int) ([]:List (SS×Int))))))))))))))))) x1),⟨qrk qd7 (PV.int .i64) (qch ([37]:SS) (7:Int) (qch ([47]:SS) (7:Int) (qch ([42]:SS) (7:Int) (qch ([45]:SS) (6:Int) (qch ([43]:SS) (6:Int) (qch ([73,78]:SS) (5:Int) (qch ([62,61]:SS) (5:Int) (qch ([62]:SS) (5:Int) (qch ([60,61]:SS) (5:Int) (qch ([60]:SS) (5:Int) (qch ([60,62]:SS) (5:Int) (qch ([61]:SS) (5:Int) (qch ([65,78,68]:SS) (3:Int) (qch ([88,79,82]:SS) (2:Int) (qch ([79,82]:SS) (1:Int) ([]:List (SS×Int))))))))))))))))) x1 (0:Int),qrh qd7 (PV.int .i64) (qch ([37]:SS) (7:Int) (qch ([47]:SS) (7:Int) (qch ([42]:SS) (7:Int) (qch ([45]:SS) (6:Int) (qch ([43]:SS) (6:Int) (qch ([73,78]:SS) (5:Int) (qch ([62,61]:SS) (5:Int) (qch ([62]:SS) (5:Int) (qch ([60,61]:SS) (5:Int) (qch ([60]:SS) (5:Int) (qch ([60,62]:SS) (5:Int) (qch ([61]:SS) (5:Int) (qch ([65,78,68]:SS) (3:Int) (qch ([88,79,82]:SS) (2:Int) (qch ([79,82]:SS) (1:Int) ([]:List (SS×Int))))))))))))))))) x1⟩,?_⟩
 obtain rfl:=sj h
 conv=>whnf
 try exact fin
abbrev qx3 (r:Bool):PV:=PV.bool r
def qdl (n:Nat):Bool→Option (Bool):=fun x2=>
bif x2 then(
some true)
else(
some false)
def qg0 (n:Nat) (x1:SS):Option (Bool):=
 bif(x1==([99,111,117,110,116]:SS))then(
 qdl n (x1==([99,111,117,110,116]:SS)))
 else(
 bif(x1==([115,117,109]:SS))then(
 qdl n (x1==([115,117,109]:SS)))
 else(
 bif(x1==([109,105,110]:SS))then(
 qdl n (x1==([109,105,110]:SS)))
 else(
 bif(x1==([109,97,120]:SS))then(
 qdl n (x1==([109,97,120]:SS)))
 else(
 qdl n (x1==([99,111,108,108,101,99,116]:SS))))))
theorem qps (n:Nat):∀ (x1:SS) (r:Bool),qg0 n x1=some r→qae Tryz.prog 177 [PV.str x1] (qx3 r):=by
 intro x1 r h
 unfold qg0 at h
 refine qae.of_vcN qa6 (fun _ _=>Tryz.call177 _ _) Tryz.func177 (by kernel_rfl) (inl:=[1000000]) ?_
 conv=>whnf
 refine qme.cut (S:=Bool) (fun x2=>[(4,pB x2)]) (fun x2=>[]) (qdl n) (r:=r) ?_ ?_
 ·intro x2 h
  unfold qdl at h
  conv=>whnf
  refine ifc h (fun hc h=>?_) (fun hc h=>?_)
  ·obtain rfl:=sj h
   conv=>whnf
   try exact fin
  ·obtain rfl:=sj h
   conv=>whnf
   try exact fin
 ·conv=>whnf
  refine ifc h (fun hc h=>?_) (fun hc h=>?_)
  ·conv=>whnf
   exact⟨(x1==([99,111,117,110,116]:SS)),h,wk [] []⟩
  ·conv=>whnf
   refine ifc h (fun hc h=>?_) (fun hc h=>?_)
   ·conv=>whnf
    exact⟨(x1==([115,117,109]:SS)),h,wk [] []⟩
   ·conv=>whnf
    refine ifc h (fun hc h=>?_) (fun hc h=>?_)
    ·conv=>whnf
     exact⟨(x1==([109,105,110]:SS)),h,wk [] []⟩
    ·conv=>whnf
     refine ifc h (fun hc h=>?_) (fun hc h=>?_)
     ·conv=>whnf
      exact⟨(x1==([109,97,120]:SS)),h,wk [] []⟩
     ·conv=>whnf
      exact⟨(x1==([99,111,108,108,101,99,116]:SS)),h,wk [] []⟩
abbrev q4l (r:Int×Bool):PV:=PV.tup [PV.int .i64 r.1,PV.bool r.2]
def qbb (n:Nat) (x2:SS) (x1:Int) (x10:List qab):Bool→Option (Int×Bool):=fun x15=>
bif x15 then(
some ((1:Int),(x2==([]:SS))))
else(
bif(x1==10)then(
bnd (qlk n x2) fun x16=>
some ((2:Int),(decide (x16>0))))
else(
bif(x1==13)then(
bnd (qew n x2) fun x17=>
bnd (qa2 x17 (qg0 n x2)) fun x18=>
some ((-1:Int),(bif x17 then(!x18)else false)))
else(
bif(x1==14)then(
bif(((qab.rows x10).length:Int)==0)then(
some ((0:Int),(x2==([99,111,117,110,116]:SS))))
else(
bnd (qg0 n x2) fun x19=>
some ((1:Int),x19)))
else(
bif(x1==15)then(
bnd (qjg n x2) fun x20=>
bnd (qa2 (bif x20 then(((qab.rows x10).length:Int)==1)else false) (idx x10 (0:Int))) fun⟨x21,x22,⟨x23,x24,x25,x26,x27,x28⟩,x29,x30⟩=>
some ((1:Int),(bif(bif x20 then(((qab.rows x10).length:Int)==1)else false)then(x21==2)else false)))
else(
some ((0:Int),false))))))
def qbl (n:Nat) (x2:SS) (x1:Int) (x9:List SS) (x10:List qab):Bool→Option (Int×Bool):=fun x12=>
bif x12 then(
bnd (qew n x2) fun x13=>
some ((0:Int),x13))
else(
bif(x1==4)then(
bnd (qjg n x2) fun x14=>
some ((1:Int),x14))
else(
bif(x1==5)then(
some ((-1:Int),(x2==([]:SS))))
else(
bif(x1==6)then(
some (((qak x9).length:Int),(x2==([]:SS))))
else(
bif(x1==7)then(
some ((2:Int),(x2==([]:SS))))
else(
bif(x1==8)then(
qbb n x2 x1 x10 (x1==8))
else(
bif(x1==9)then(
qbb n x2 x1 x10 (x1==9))
else(
bif(x1==11)then(
qbb n x2 x1 x10 (x1==11))
else(
qbb n x2 x1 x10 (x1==12)))))))))
def qb2 (n:Nat) (a0z:qab):Option (Int×Bool):=
 match a0z with
 | ⟨x1,x2,⟨x3,x4,x5,x6,x7,x8⟩,x9,x10⟩=>
 bif(x1==1)then(
 bnd (qa2 (x2==([]:SS)) (qk2 n (Val.mk x3 x4 x5 x6 x7 x8))) fun x11=>
 some ((0:Int),(bif(x2==([]:SS))then x11 else false)))
 else(
 bif(x1==2)then(
 qbl n x2 x1 x9 x10 (x1==2))
 else(
 qbl n x2 x1 x9 x10 (x1==3)))
set_option maxHeartbeats 4000000 in
theorem q1o (n:Nat):∀ (a0z:qab) (r:Int×Bool),qb2 n a0z=some r→qae Tryz.prog 173 [PV.agg (qcc.cells a0z)] (q4l r):=by
 intro a0z r h
 obtain⟨x1,x2,⟨x3,x4,x5,x6,x7,x8⟩,x9,x10⟩:=a0z
 unfold qb2 at h
 refine qae.of_vcN qa6 (fun _ _=>Tryz.call173 _ _) Tryz.func173 (by kernel_rfl) (inl:=[1000000]) ?_
 conv=>whnf
 refine ifc h (fun hc h=>?_) (fun hc h=>?_)
 ·conv=>whnf
  refine⟨id,id,?_⟩
  conv=>whnf
  replace h:=qaa h
  obtain⟨x11,h1,h⟩:=h
  refine⟨_,fun hg=>(qzr n _ _ (qah h1 hg)),?_⟩
  conv=>whnf
  refine⟨id,?_⟩
  obtain rfl:=sj h
  conv=>whnf
  try exact fin
 ·conv=>whnf
  refine qme.cut (S:=Bool) (fun x12=>[(1,.ptr 0 0),(5,pI x1),(16,pB x12)]) (fun x12=>[.box 47 [pI x1,pS x2,pI x3,pB x4,pI x5,pS x6,pV x7,pT x8,pT x9,pE x10]]) (qbl n x2 x1 x9 x10) (r:=r) ?_ ?_
  ·intro x12 h
   unfold qbl at h
   conv=>whnf
   refine ifc h (fun hc h=>?_) (fun hc h=>?_)
   ·conv=>whnf
    replace h:=qaa h
    obtain⟨x13,h2,h⟩:=h
    refine⟨_,(qf4 n _ _ h2),?_⟩
    obtain rfl:=sj h
    conv=>whnf
    try exact fin
   ·conv=>whnf
    refine ifc h (fun hc h=>?_) (fun hc h=>?_)
    ·conv=>whnf
     replace h:=qaa h
     obtain⟨x14,h3,h⟩:=h
     refine⟨_,(qjv n _ _ h3),?_⟩
     obtain rfl:=sj h
     conv=>whnf
     try exact fin
    ·conv=>whnf
     refine ifc h (fun hc h=>?_) (fun hc h=>?_)
     ·obtain rfl:=sj h
      conv=>whnf
      try exact fin
     ·conv=>whnf
      refine ifc h (fun hc h=>?_) (fun hc h=>?_)
      ·obtain rfl:=sj h
       conv=>whnf
       try exact fin
      ·conv=>whnf
       refine ifc h (fun hc h=>?_) (fun hc h=>?_)
       ·obtain rfl:=sj h
        conv=>whnf
        try exact fin
       ·conv=>whnf
        refine qme.cut (S:=Bool) (fun x15=>[(1,.ptr 0 0),(5,pI x1),(45,pB x15)]) (fun x15=>[.box 47 [pI x1,pS x2,pI x3,pB x4,pI x5,pS x6,pV x7,pT x8,pT x9,pE x10]]) (qbb n x2 x1 x10) (r:=r) ?_ ?_
        ·intro x15 h
         unfold qbb at h
         conv=>whnf
         refine ifc h (fun hc h=>?_) (fun hc h=>?_)
         ·obtain rfl:=sj h
          conv=>whnf
          try exact fin
         ·conv=>whnf
          refine ifc h (fun hc h=>?_) (fun hc h=>?_)
          ·conv=>whnf
           replace h:=qaa h
           obtain⟨x16,h4,h⟩:=h
           refine⟨_,(q2d n _ _ h4),?_⟩
           obtain rfl:=sj h
           conv=>whnf
           try exact fin
          ·conv=>whnf
           refine ifc h (fun hc h=>?_) (fun hc h=>?_)
           ·conv=>whnf
            replace h:=qaa h
            obtain⟨x17,h6,h⟩:=h
            refine⟨_,(qf4 n _ _ h6),?_⟩
            conv=>whnf
            refine⟨id,id,?_⟩
            conv=>whnf
            replace h:=qaa h
            obtain⟨x18,h5,h⟩:=h
            refine⟨_,fun hg=>(qps n _ _ (qah h5 hg)),?_⟩
            conv=>whnf
            refine⟨id,id,?_⟩
            obtain rfl:=sj h
            conv=>whnf
            try exact fin
           ·conv=>whnf
            refine ifc h (fun hc h=>?_) (fun hc h=>?_)
            ·conv=>whnf
             refine ifc h (fun hc h=>?_) (fun hc h=>?_)
             ·obtain rfl:=sj h
              conv=>whnf
              try exact fin
             ·conv=>whnf
              replace h:=qaa h
              obtain⟨x19,h7,h⟩:=h
              refine⟨_,(qps n _ _ h7),?_⟩
              obtain rfl:=sj h
              conv=>whnf
              try exact fin
            ·conv=>whnf
             refine ifc h (fun hc h=>?_) (fun hc h=>?_)
             ·conv=>whnf
              replace h:=qaa h
              obtain⟨x20,h9,h⟩:=h
              refine⟨_,(qjv n _ _ h9),?_⟩
              conv=>whnf
              refine⟨id,id,id,id,id,id,?_⟩
              conv=>whnf
              replace h:=qaa h
              obtain⟨⟨x21,x22,⟨x23,x24,x25,x26,x27,x28⟩,x29,x30⟩,h8,h⟩:=h
              refine⟨_,fun hg=>Codec.at_ qcc (qah h8 hg),?_⟩
              conv=>whnf
              refine⟨id,id,id,id,?_⟩
              obtain rfl:=sj h
              conv=>whnf
              try exact fin
             ·obtain rfl:=sj h
              conv=>whnf
              try exact fin
        ·conv=>whnf
         refine ifc h (fun hc h=>?_) (fun hc h=>?_)
         ·conv=>whnf
          exact⟨(x1==8),h,wk [0] []⟩
         ·conv=>whnf
          refine ifc h (fun hc h=>?_) (fun hc h=>?_)
          ·conv=>whnf
           exact⟨(x1==9),h,wk [0] []⟩
          ·conv=>whnf
           refine ifc h (fun hc h=>?_) (fun hc h=>?_)
           ·conv=>whnf
            exact⟨(x1==11),h,wk [0] []⟩
           ·conv=>whnf
            exact⟨(x1==12),h,wk [0] []⟩
  ·conv=>whnf
   refine ifc h (fun hc h=>?_) (fun hc h=>?_)
   ·conv=>whnf
    exact⟨(x1==2),h,wk [0] []⟩
   ·conv=>whnf
    exact⟨(x1==3),h,wk [0] []⟩
abbrev qnk (r:Bool):PV:=PV.bool r
abbrev zl1:Type:=qab→Int→Option (Bool)
def qf8 (n:Nat) (x10:List qab) (g170:zl1) (x11:Int):(Int→Option (Bool))→Int→Option (Bool):=fun nx2 x18=>
bif(decide (x18<((qab.rows x10).length:Int)))then(
bnd (idx x10 x18) fun⟨x19,x20,⟨x21,x22,x23,x24,x25,x26⟩,x27,x28⟩=>
bnd (g170 (qab.mk x19 x20 (Val.mk x21 x22 x23 x24 x25 x26) x27 x28) (IntKind.i64.wrap (x11 - 1))) fun x29=>
bif(!x29)then(
some false)
else(
nx2 (IntKind.i64.wrap (x18+1))))
else(
some true)
def qf0 (n:Nat) (x9:List SS) (x10:List qab) (g170:zl1) (x11:Int):(Int→Option (Bool))→Int→Option (Bool):=fun nx1 x15=>
bif(decide (x15<((qak x9).length:Int)))then(
bnd (idx x9 x15) fun x16=>
bnd (qjg n x16) fun x17=>
bif(!x17)then(
some false)
else(
nx1 (IntKind.i64.wrap (x15+1))))
else(
qas (qf8 n x10 g170 x11) n (0:Int))
def qmf (n:Nat) (g170:zl1) (a0z:qab) (x11:Int):Option (Bool):=
 match a0z with
 | ⟨x1,x2,⟨x3,x4,x5,x6,x7,x8⟩,x9,x10⟩=>
 bnd (qb2 n (qab.mk x1 x2 (Val.mk x3 x4 x5 x6 x7 x8) x9 x10)) fun⟨x12,x13⟩=>
 bnd (qa2 ((!(bif(bif(!x13)then true else(decide (x11<1)))then true else(bif(decide (x12≥0))then(((qab.rows x10).length:Int) != x12)else false)))&&(x1 != 1)) (qgs n (Val.mk x3 x4 x5 x6 x7 x8) (Val.mk (0:Int) false (0:Int) ([]:SS) ([]:List Val) ([]:List SS)))) fun x14=>
 bif(bif(bif(bif(bif(!x13)then true else(decide (x11<1)))then true else(bif(decide (x12≥0))then(((qab.rows x10).length:Int) != x12)else false))then true else(bif(x1 != 1)then(!x14)else false))then true else(bif(x1 != 6)then(decide (((qak x9).length:Int)>0))else false))then(
 some false)
 else(
 qas (qf0 n x9 x10 g170 x11) n (0:Int))
set_option maxHeartbeats 4000000 in
theorem q0p (n:Nat) (g170:zl1) (g170_ok:∀ (a0z:qab) (x11:Int) (r:Bool),g170 a0z x11=some r→qae Tryz.prog 170 [PV.agg (qcc.cells a0z),PV.int .i64 x11] (qnk r)):∀ (a0z:qab) (x11:Int) (r:Bool),qmf n g170 a0z x11=some r→qae Tryz.prog 170 [PV.agg (qcc.cells a0z),PV.int .i64 x11] (qnk r):=by
 intro a0z x11 r h
 obtain⟨x1,x2,⟨x3,x4,x5,x6,x7,x8⟩,x9,x10⟩:=a0z
 unfold qmf at h
 refine qae.of_vcN qa6 (fun _ _=>Tryz.call170 _ _) Tryz.func170 (by kernel_rfl) (inl:=[1000000]) ?_
 conv=>whnf
 replace h:=qaa h
 obtain⟨⟨x12,x13⟩,h6,h⟩:=h
 refine⟨_,(q1o n _ _ h6),?_⟩
 conv=>whnf
 refine⟨id,id,id,id,id,id,id,id,id,id,id,id,id,id,id,id,id,?_⟩
 conv=>whnf
 replace h:=qaa h
 obtain⟨x14,h5,h⟩:=h
 refine⟨_,fun hg=>(qae.leArgs (qv4 n _ _ _ (qah h5 hg)) (by try exact fin)),?_⟩
 conv=>whnf
 refine⟨id,id,id,id,id,id,id,id,id,id,id,id,id,?_⟩
 conv=>whnf
 refine ifc h (fun hc h=>?_) (fun hc h=>?_)
 ·obtain rfl:=sj h
  conv=>whnf
  try exact fin
 ·conv=>whnf
  refine qb4.fn [1000000] (S:=Int) (fun x15=>[(1,pI x11),(2,.ptr 0 0),(57,pT x9),(58,.p (.int .i64 ((qak x9).length:Int))),(59,pI x15)]) (fun x15=>[.box 47 [pI x1,pS x2,pI x3,pB x4,pI x5,pS x6,pV x7,pT x8,pT x9,pE x10]]) (B:=qf0 n x9 x10 g170 x11) h (wk [0] []) ?_
  intro nx1 x15 h
  unfold qf0 at h
  conv=>whnf
  refine ifc h (fun hc h=>?_) (fun hc h=>?_)
  ·conv=>whnf
   replace h:=qaa h
   obtain⟨x16,h2,h⟩:=h
   refine⟨_,Codec.at_ qp6 h2,?_⟩
   conv=>whnf
   replace h:=qaa h
   obtain⟨x17,h1,h⟩:=h
   refine⟨_,(qjv n _ _ h1),?_⟩
   conv=>whnf
   refine ifc h (fun hc h=>?_) (fun hc h=>?_)
   ·obtain rfl:=sj h
    conv=>whnf
    try exact fin
   ·conv=>whnf
    exact⟨(IntKind.i64.wrap (x15+1)),h,wk [0] []⟩
  ·conv=>whnf
   refine qb4.fn [1000000] (S:=Int) (fun x18=>[(1,pI x11),(68,pE x10),(69,.p (.int .i64 ((qab.rows x10).length:Int))),(70,pI x18)]) (fun x18=>[]) (B:=qf8 n x10 g170 x11) h (wk [] []) ?_
   intro nx2 x18 h
   unfold qf8 at h
   conv=>whnf
   refine ifc h (fun hc h=>?_) (fun hc h=>?_)
   ·conv=>whnf
    replace h:=qaa h
    obtain⟨⟨x19,x20,⟨x21,x22,x23,x24,x25,x26⟩,x27,x28⟩,h4,h⟩:=h
    refine⟨_,Codec.at_ qcc h4,?_⟩
    conv=>whnf
    replace h:=qaa h
    obtain⟨x29,h3,h⟩:=h
    refine⟨_,(g170_ok _ _ _ h3),?_⟩
    conv=>whnf
    refine ifc h (fun hc h=>?_) (fun hc h=>?_)
    ·obtain rfl:=sj h
     conv=>whnf
     try exact fin
    ·conv=>whnf
     exact⟨(IntKind.i64.wrap (x18+1)),h,wk [] []⟩
   ·obtain rfl:=sj h
    conv=>whnf
    try exact fin
def qco:Nat→qab→Int→Option (Bool)
 | 0=>fun _ _=>none
 | n+1=>qmf n (qco n)
theorem q0z (n:Nat):(∀ (a0z:qab) (x11:Int) (r:Bool),qco n a0z x11=some r→qae Tryz.prog 170 [PV.agg (qcc.cells a0z),PV.int .i64 x11] (qnk r)):=by
 induction n with
 | zero=>exact(by intros; rename_i h; cases h)
 | succ n ih=>
  have hg170:=ih
  exact q0p n (qco n) hg170
theorem qpn (n:Nat):∀ (a0z:qab) (x11:Int) (r:Bool),qco n a0z x11=some r→qae Tryz.prog 170 [PV.agg (qcc.cells a0z),PV.int .i64 x11] (qnk r):=(q0z n)
abbrev qx4 (r:Bool):PV:=PV.bool r
def qe4 (n:Nat) (x1:List SS) (x2:List qab):(Int→Option (Bool))→Int→Option (Bool):=fun nx1 x3=>
bif(decide (x3<((qak x1).length:Int)))then(
bnd (idx x1 x3) fun x4=>
bnd (qjg n x4) fun x5=>
bnd (qa2 (!(!x5)) (idx x2 x3)) fun⟨x6,x7,⟨x8,x9,x10,x11,x12,x13⟩,x14,x15⟩=>
bnd (qa2 (!(!x5)) (qco n (qab.mk x6 x7 (Val.mk x8 x9 x10 x11 x12 x13) x14 x15) (32:Int))) fun x16=>
bif(bif(!x5)then true else(!x16))then(
some false)
else(
nx1 (IntKind.i64.wrap (x3+1))))
else(
some true)
def qgu (n:Nat) (a0z:q0e):Option (Bool):=
 match a0z with
 | ⟨x1,x2⟩=>
 bif(((qak x1).length:Int) != ((qab.rows x2).length:Int))then(
 some false)
 else(
 qas (qe4 n x1 x2) n (0:Int))
theorem qpr (n:Nat):∀ (a0z:q0e) (r:Bool),qgu n a0z=some r→qae Tryz.prog 167 [PV.agg (zlb.cells a0z)] (qx4 r):=by
 intro a0z r h
 obtain⟨x1,x2⟩:=a0z
 unfold qgu at h
 refine qae.of_vcN qa6 (fun _ _=>Tryz.call167 _ _) Tryz.func167 (by kernel_rfl) (inl:=[1000000]) ?_
 conv=>whnf
 refine ifc h (fun hc h=>?_) (fun hc h=>?_)
 ·obtain rfl:=sj h
  conv=>whnf
  try exact fin
 ·conv=>whnf
  refine qb4.fn [1000000] (S:=Int) (fun x3=>[(1,.ptr 0 0),(13,pT x1),(14,.p (.int .i64 ((qak x1).length:Int))),(15,pI x3)]) (fun x3=>[.box 215 [pT x1,pE x2]]) (B:=qe4 n x1 x2) h (wk [0] []) ?_
  intro nx1 x3 h
  unfold qe4 at h
  conv=>whnf
  refine ifc h (fun hc h=>?_) (fun hc h=>?_)
  ·conv=>whnf
   replace h:=qaa h
   obtain⟨x4,h4,h⟩:=h
   refine⟨_,Codec.at_ qp6 h4,?_⟩
   conv=>whnf
   replace h:=qaa h
   obtain⟨x5,h3,h⟩:=h
   refine⟨_,(qjv n _ _ h3),?_⟩
   conv=>whnf
   refine⟨id,id,id,?_⟩
   conv=>whnf
   replace h:=qaa h
   obtain⟨⟨x6,x7,⟨x8,x9,x10,x11,x12,x13⟩,x14,x15⟩,h2,h⟩:=h
   refine⟨_,fun hg=>Codec.at_ qcc (qah h2 hg),?_⟩
   conv=>whnf
   refine⟨id,id,?_⟩
   conv=>whnf
   replace h:=qaa h
   obtain⟨x16,h1,h⟩:=h
   refine⟨_,fun hg=>(qpn n _ _ _ (qah h1 hg)),?_⟩
   conv=>whnf
   refine⟨id,id,?_⟩
   conv=>whnf
   refine ifc h (fun hc h=>?_) (fun hc h=>?_)
   ·obtain rfl:=sj h
    conv=>whnf
    try exact fin
   ·conv=>whnf
    exact⟨(IntKind.i64.wrap (x3+1)),h,wk [0] []⟩
  ·obtain rfl:=sj h
   conv=>whnf
   try exact fin
abbrev qyt (r:Bool):PV:=PV.bool r
def qfj (n:Nat) (x2:List SS) (x1:SS) (x3:List SS) (x4:List qab):(Int→Option (Bool))→Int→Option (Bool):=fun nx1 x5=>
bif(decide (x5<((qak x2).length:Int)))then(
bnd (idx x2 x5) fun x6=>
bnd (qjg n x6) fun x7=>
bif(!x7)then(
some false)
else(
nx1 (IntKind.i64.wrap (x5+1))))
else(
bnd (qa2 (!(x1==([]:SS))) (qew n x1)) fun x8=>
bnd (qa2 (bif(x1==([]:SS))then true else x8) (qgu n (q0e.mk x3 x4))) fun x9=>
some (bif(bif(x1==([]:SS))then true else x8)then x9 else false))
def qed (n:Nat) (a0z:qad):Option (Bool):=
 match a0z with
 | ⟨x1,x2,x3,x4⟩=>
 qas (qfj n x2 x1 x3 x4) n (0:Int)
theorem qyd (n:Nat):∀ (a0z:qad) (r:Bool),qed n a0z=some r→qae Tryz.prog 163 [PV.agg (qeq.cells a0z)] (qyt r):=by
 intro a0z r h
 obtain⟨x1,x2,x3,x4⟩:=a0z
 unfold qed at h
 refine qae.of_vcN qa6 (fun _ _=>Tryz.call163 _ _) Tryz.func163 (by kernel_rfl) (inl:=[1000000]) ?_
 conv=>whnf
 refine qb4.fn [1000000] (S:=Int) (fun x5=>[(1,.ptr 0 0),(6,pT x2),(7,.p (.int .i64 ((qak x2).length:Int))),(8,pI x5)]) (fun x5=>[.box 212 [pS x1,pT x2,pT x3,pE x4]]) (B:=qfj n x2 x1 x3 x4) h (wk [0] []) ?_
 intro nx1 x5 h
 unfold qfj at h
 conv=>whnf
 refine ifc h (fun hc h=>?_) (fun hc h=>?_)
 ·conv=>whnf
  replace h:=qaa h
  obtain⟨x6,h2,h⟩:=h
  refine⟨_,Codec.at_ qp6 h2,?_⟩
  conv=>whnf
  replace h:=qaa h
  obtain⟨x7,h1,h⟩:=h
  refine⟨_,(qjv n _ _ h1),?_⟩
  conv=>whnf
  refine ifc h (fun hc h=>?_) (fun hc h=>?_)
  ·obtain rfl:=sj h
   conv=>whnf
   try exact fin
  ·conv=>whnf
   exact⟨(IntKind.i64.wrap (x5+1)),h,wk [0] []⟩
 ·conv=>whnf
  refine⟨id,id,?_⟩
  conv=>whnf
  replace h:=qaa h
  obtain⟨x8,h4,h⟩:=h
  refine⟨_,fun hg=>(qf4 n _ _ (qah h4 hg)),?_⟩
  conv=>whnf
  refine⟨id,id,id,id,id,id,?_⟩
  conv=>whnf
  replace h:=qaa h
  obtain⟨x9,h3,h⟩:=h
  refine⟨_,fun hg=>(qpr n _ _ (qah h3 hg)),?_⟩
  conv=>whnf
  refine⟨id,?_⟩
  obtain rfl:=sj h
  conv=>whnf
  try exact fin
abbrev qza (r:Bool):PV:=PV.bool r
def qd3 (n:Nat) (a0z:qag):Option (Bool):=
 match a0z with
 | ⟨x1,x2,x3,x4,x5⟩=>
 bnd (qa2 (!(x1==([]:SS))) (qew n x1)) fun x6=>
 bnd (qa2 ((bif(x1==([]:SS))then true else x6)&&(!(x2==([]:SS)))) (qjg n x2)) fun x7=>
 bnd (qa2 (bif(bif(bif(bif(x1==([]:SS))then true else x6)then(bif(x2==([]:SS))then true else x7)else false)then(decide (x3≥0))else false)then(decide (x3≤2))else false) (qgu n (q0e.mk x4 x5))) fun x8=>
 some (bif(bif(bif(bif(bif(x1==([]:SS))then true else x6)then(bif(x2==([]:SS))then true else x7)else false)then(decide (x3≥0))else false)then(decide (x3≤2))else false)then x8 else false)
theorem qx8 (n:Nat):∀ (a0z:qag) (r:Bool),qd3 n a0z=some r→qae Tryz.prog 164 [PV.agg (qgj.cells a0z)] (qza r):=by
 intro a0z r h
 obtain⟨x1,x2,x3,x4,x5⟩:=a0z
 unfold qd3 at h
 refine qae.of_vcN qa6 (fun _ _=>Tryz.call164 _ _) Tryz.func164 (by kernel_rfl) (inl:=[1000000]) ?_
 conv=>whnf
 refine⟨id,id,?_⟩
 conv=>whnf
 replace h:=qaa h
 obtain⟨x6,h3,h⟩:=h
 refine⟨_,fun hg=>(qf4 n _ _ (qah h3 hg)),?_⟩
 conv=>whnf
 refine⟨id,id,id,id,id,id,?_⟩
 conv=>whnf
 replace h:=qaa h
 obtain⟨x7,h2,h⟩:=h
 refine⟨_,fun hg=>(qjv n _ _ (qah h2 hg)),?_⟩
 conv=>whnf
 refine⟨id,id,id,id,id,id,id,id,id,id,id,id,id,id,?_⟩
 conv=>whnf
 replace h:=qaa h
 obtain⟨x8,h1,h⟩:=h
 refine⟨_,fun hg=>(qpr n _ _ (qah h1 hg)),?_⟩
 conv=>whnf
 refine⟨id,?_⟩
 obtain rfl:=sj h
 conv=>whnf
 try exact fin
abbrev qrn (r:Bool):PV:=PV.bool r
def qdx (n:Nat) (x1:List qad) (x2:List qag):(Int→Option (Bool))→Int→Option (Bool):=fun nx1 x3=>
bif(decide (x3<((qad.rows x1).length:Int)))then(
bnd (idx x1 x3) fun⟨x4,x5,x6,x7⟩=>
bnd (qed n (qad.mk x4 x5 x6 x7)) fun x8=>
bnd (qa2 ((!(!x8))&&(decide (x3>0))) (idx x2 (IntKind.i64.wrap (x3 - 1)))) fun⟨x9,x10,x11,x12,x13⟩=>
bnd (qa2 ((!(!x8))&&(decide (x3>0))) (qd3 n (qag.mk x9 x10 x11 x12 x13))) fun x14=>
bif(bif(!x8)then true else(bif(decide (x3>0))then(!x14)else false))then(
some false)
else(
nx1 (IntKind.i64.wrap (x3+1))))
else(
some true)
def qhf (n:Nat) (a0z:qa8):Option (Bool):=
 match a0z with
 | ⟨x1,x2⟩=>
 bif(((qad.rows x1).length:Int) != (IntKind.i64.wrap (((qag.rows x2).length:Int)+1)))then(
 some false)
 else(
 qas (qdx n x1 x2) n (0:Int))
theorem qx5 (n:Nat):∀ (a0z:qa8) (r:Bool),qhf n a0z=some r→qae Tryz.prog 161 [PV.agg (qnf.cells a0z)] (qrn r):=by
 intro a0z r h
 obtain⟨x1,x2⟩:=a0z
 unfold qhf at h
 refine qae.of_vcN qa6 (fun _ _=>Tryz.call161 _ _) Tryz.func161 (by kernel_rfl) (inl:=[1000000]) ?_
 conv=>whnf
 refine ifc h (fun hc h=>?_) (fun hc h=>?_)
 ·obtain rfl:=sj h
  conv=>whnf
  try exact fin
 ·conv=>whnf
  refine qb4.fn [1000000] (S:=Int) (fun x3=>[(1,.ptr 0 0),(14,.p (.int .i64 ((qad.rows x1).length:Int))),(15,pI x3)]) (fun x3=>[.box 128 [pN x1,pG x2]]) (B:=qdx n x1 x2) h (wk [0] []) ?_
  intro nx1 x3 h
  unfold qdx at h
  conv=>whnf
  refine ifc h (fun hc h=>?_) (fun hc h=>?_)
  ·conv=>whnf
   replace h:=qaa h
   obtain⟨⟨x4,x5,x6,x7⟩,h4,h⟩:=h
   refine⟨_,Codec.at_ qeq h4,?_⟩
   conv=>whnf
   replace h:=qaa h
   obtain⟨x8,h3,h⟩:=h
   refine⟨_,(qyd n _ _ h3),?_⟩
   conv=>whnf
   refine⟨id,id,id,id,id,id,?_⟩
   conv=>whnf
   replace h:=qaa h
   obtain⟨⟨x9,x10,x11,x12,x13⟩,h2,h⟩:=h
   refine⟨_,fun hg=>Codec.at_ qgj (qah h2 hg),?_⟩
   conv=>whnf
   refine⟨id,id,?_⟩
   conv=>whnf
   replace h:=qaa h
   obtain⟨x14,h1,h⟩:=h
   refine⟨_,fun hg=>(qx8 n _ _ (qah h1 hg)),?_⟩
   conv=>whnf
   refine⟨id,id,id,id,?_⟩
   conv=>whnf
   refine ifc h (fun hc h=>?_) (fun hc h=>?_)
   ·obtain rfl:=sj h
    conv=>whnf
    try exact fin
   ·conv=>whnf
    exact⟨(IntKind.i64.wrap (x3+1)),h,wk [0] []⟩
  ·obtain rfl:=sj h
   conv=>whnf
   try exact fin
abbrev qzl (r:Bool):PV:=PV.bool r
def qf6 (n:Nat) (a0z:qab):Option (Bool):=
 match a0z with
 | ⟨x1,x2,⟨x3,x4,x5,x6,x7,x8⟩,x9,x10⟩=>
 bnd (qco n (qab.mk x1 x2 (Val.mk x3 x4 x5 x6 x7 x8) x9 x10) (32:Int)) fun x11=>
 some x11
theorem qmy (n:Nat):∀ (a0z:qab) (r:Bool),qf6 n a0z=some r→qae Tryz.prog 189 [PV.agg (qcc.cells a0z)] (qzl r):=by
 intro a0z r h
 obtain⟨x1,x2,⟨x3,x4,x5,x6,x7,x8⟩,x9,x10⟩:=a0z
 unfold qf6 at h
 refine qae.of_vcN qa6 (fun _ _=>Tryz.call189 _ _) Tryz.func189 (by kernel_rfl) (inl:=[1000000]) ?_
 conv=>whnf
 replace h:=qaa h
 obtain⟨x11,h1,h⟩:=h
 refine⟨_,(qpn n _ _ _ h1),?_⟩
 obtain rfl:=sj h
 conv=>whnf
 try exact fin
abbrev qzu (r:Bool):PV:=PV.bool r
def qmr (n:Nat) (a0z:qbf):Option (Bool):=
 match a0z with
 | ⟨⟨x1,x2,⟨x3,x4,x5,x6,x7,x8⟩,x9,x10⟩,x11⟩=>
 bnd (qew n x11) fun x12=>
 bnd (qa2 x12 (qf6 n (qab.mk x1 x2 (Val.mk x3 x4 x5 x6 x7 x8) x9 x10))) fun x13=>
 some (bif x12 then x13 else false)
theorem qyh (n:Nat):∀ (a0z:qbf) (r:Bool),qmr n a0z=some r→qae Tryz.prog 191 [PV.agg (qsq.cells a0z)] (qzu r):=by
 intro a0z r h
 obtain⟨⟨x1,x2,⟨x3,x4,x5,x6,x7,x8⟩,x9,x10⟩,x11⟩:=a0z
 unfold qmr at h
 refine qae.of_vcN qa6 (fun _ _=>Tryz.call191 _ _) Tryz.func191 (by kernel_rfl) (inl:=[1000000]) ?_
 conv=>whnf
 replace h:=qaa h
 obtain⟨x12,h2,h⟩:=h
 refine⟨_,(qf4 n _ _ h2),?_⟩
 conv=>whnf
 refine⟨id,id,?_⟩
 conv=>whnf
 replace h:=qaa h
 obtain⟨x13,h1,h⟩:=h
 refine⟨_,fun hg=>(qmy n _ _ (qah h1 hg)),?_⟩
 conv=>whnf
 refine⟨id,?_⟩
 obtain rfl:=sj h
 conv=>whnf
 try exact fin
abbrev qxb (r:Bool):PV:=PV.bool r
def qkh (n:Nat) (a0z:qaq):Option (Bool):=
 match a0z with
 | ⟨⟨x1,x2,⟨x3,x4,x5,x6,x7,x8⟩,x9,x10⟩,x11⟩=>
 bnd (qf6 n (qab.mk x1 x2 (Val.mk x3 x4 x5 x6 x7 x8) x9 x10)) fun x12=>
 some x12
theorem qvp (n:Nat):∀ (a0z:qaq) (r:Bool),qkh n a0z=some r→qae Tryz.prog 193 [PV.agg (qnn.cells a0z)] (qxb r):=by
 intro a0z r h
 obtain⟨⟨x1,x2,⟨x3,x4,x5,x6,x7,x8⟩,x9,x10⟩,x11⟩:=a0z
 unfold qkh at h
 refine qae.of_vcN qa6 (fun _ _=>Tryz.call193 _ _) Tryz.func193 (by kernel_rfl) (inl:=[1000000]) ?_
 conv=>whnf
 replace h:=qaa h
 obtain⟨x12,h1,h⟩:=h
 refine⟨_,(qmy n _ _ h1),?_⟩
 obtain rfl:=sj h
 conv=>whnf
 try exact fin
abbrev qyz (r:Bool):PV:=PV.bool r
def qmn (n:Nat) (x1:SS):Option (Bool):=
 bnd (qew n x1) fun x2=>
 some x2
theorem qx6 (n:Nat):∀ (x1:SS) (r:Bool),qmn n x1=some r→qae Tryz.prog 195 [PV.str x1] (qyz r):=by
 intro x1 r h
 unfold qmn at h
 refine qae.of_vcN qa6 (fun _ _=>Tryz.call195 _ _) Tryz.func195 (by kernel_rfl) (inl:=[1000000]) ?_
 conv=>whnf
 replace h:=qaa h
 obtain⟨x2,h1,h⟩:=h
 refine⟨_,(qf4 n _ _ h1),?_⟩
 obtain rfl:=sj h
 conv=>whnf
 try exact fin
abbrev qwm (r:Bool):PV:=PV.bool r
def qfy (n:Nat) (a0z:qre):Option (Bool):=
 match a0z with
 | ⟨⟨x1,x2,x3,⟨x4,x5,⟨x6,x7,x8,x9,x10,x11⟩,x12,x13⟩⟩,x14⟩=>
 bnd (qew n x1) fun x15=>
 bif(bif(bif(!x15)then true else((x2==([]:SS))==(x3==([]:SS))))then true else(decide ((IntKind.i64.wrap (((x2.length:Nat):Int)+((x3.length:Nat):Int)))>64)))then(
 some false)
 else(
 bif(bif x14 then(!(x2==([]:SS)))else false)then(
 bnd (qco n (qab.mk x4 x5 (Val.mk x6 x7 x8 x9 x10 x11) x12 x13) (32:Int)) fun x16=>
 some x16)
 else(
 bnd (qhx n (qab.mk x4 x5 (Val.mk x6 x7 x8 x9 x10 x11) x12 x13)) fun x17=>
 some x17))
theorem qv0 (n:Nat):∀ (a0z:qre) (r:Bool),qfy n a0z=some r→qae Tryz.prog 197 [PV.agg (zj7.cells a0z)] (qwm r):=by
 intro a0z r h
 obtain⟨⟨x1,x2,x3,⟨x4,x5,⟨x6,x7,x8,x9,x10,x11⟩,x12,x13⟩⟩,x14⟩:=a0z
 unfold qfy at h
 refine qae.of_vcN qa6 (fun _ _=>Tryz.call197 _ _) Tryz.func197 (by kernel_rfl) (inl:=[1000000]) ?_
 conv=>whnf
 replace h:=qaa h
 obtain⟨x15,h3,h⟩:=h
 refine⟨_,(qf4 n _ _ h3),?_⟩
 conv=>whnf
 refine⟨id,id,id,id,id,id,id,id,id,id,id,id,id,id,id,id,id,id,id,?_⟩
 conv=>whnf
 refine ifc h (fun hc h=>?_) (fun hc h=>?_)
 ·obtain rfl:=sj h
  conv=>whnf
  try exact fin
 ·conv=>whnf
  refine⟨id,id,id,id,?_⟩
  conv=>whnf
  refine ifc h (fun hc h=>?_) (fun hc h=>?_)
  ·conv=>whnf
   replace h:=qaa h
   obtain⟨x16,h1,h⟩:=h
   refine⟨_,(qpn n _ _ _ h1),?_⟩
   obtain rfl:=sj h
   conv=>whnf
   try exact fin
  ·conv=>whnf
   replace h:=qaa h
   obtain⟨x17,h2,h⟩:=h
   refine⟨_,(qt9 n _ _ h2),?_⟩
   obtain rfl:=sj h
   conv=>whnf
   try exact fin
def qnb (n:Nat):qbg→Option (Bool)
 | .path x=>qhf n x
 | .expr x=>qf6 n x
 | .item x=>qmr n x
 | .sorted x=>qkh n x
 | .name x=>qmn n x
 | .change x=>qfy n x
def q1c:qbg→FuncId
 | .path _=>161
 | .expr _=>189
 | .item _=>191
 | .sorted _=>193
 | .name _=>195
 | .change _=>197
theorem q7l (n:Nat):∀ (x:qbg) (r:Bool),qnb n x=some r→zcv Tryz.prog x.tid "wattle/spell.may" (q1c x)∧qae Tryz.prog (q1c x) [x.val] (qrn r)
 | .path x,r,h=>⟨fun _ _=>rfl,qx5 n x r h⟩
 | .expr x,r,h=>⟨fun _ _=>rfl,qmy n x r h⟩
 | .item x,r,h=>⟨fun _ _=>rfl,qyh n x r h⟩
 | .sorted x,r,h=>⟨fun _ _=>rfl,qvp n x r h⟩
 | .name x,r,h=>⟨fun _ _=>rfl,qx6 n x r h⟩
 | .change x,r,h=>⟨fun _ _=>rfl,qv0 n x r h⟩
end W
end
