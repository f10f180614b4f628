/- A part of the proof: contracts, printed by program. -/
import Derived.Test.YtneaemdbncgcdaaGreatB
import Derived.Test.YtneaemdbncgcdaaGreatC
import Derived.Test.YtneaemdbncgcdaaGreatD
import Derived.Test.YtneaemdbncgcdaaGreatE
set_option linter.unusedVariables false
set_option linter.unusedSimpArgs false
set_option linter.unnecessarySimpa false
set_option linter.deprecated false
set_option linter.unusedSectionVars false
set_option linter.constructorNameAsVariable false
section
set_option maxRecDepth 100000
open Go Go.Proofs Ax
namespace W
abbrev q4a (x1:List qaj) (x2:Int) (x3:Bool) (r:qad×Int×Bool):FV:=.p ((PV.agg (qcw.cells r.1)))
abbrev q3z (x1:List qaj) (x2:Int) (x3:Bool) (r:qad×Int×Bool):List AObj:=[.box 85 [pK x1,.p (.int .i64 r.2.1),.p (.bool r.2.2)]]
def qbq (n:Nat):Int×Bool×Int×List qa9×List qab×Int×SS×Int×Bool×Int×SS×List Val×List SS×List SS×List qab×SS×List qbh×Bool×List qar×List qab×List qab×List qag×List SS×Bool->Option (qad×Int×Bool):=fun(x4,x5,x6,x7,x8,x9,x10,x11,x12,x13,x14,x15,x16,x17,x18,x19,x20,x21,x22,x23,x24,x25,x26,x27)=>
 some (qad.mk x6 x7 x8 (qab.mk x9 x10 (Val.mk x11 x12 x13 x14 x15 x16) x17 x18) x19 x20 x21 x22 x23 x24 x25 x26 x27,x4,x5)
def qf3 (n:Nat) (x1:List qaj) (x177:Bool):(Int×Bool×List SS->Option (qad×Int×Bool))->Int×Bool×List SS->Option (qad×Int×Bool):=fun nx1 (x181,x182,x183)=>
 bnd (qd3 n x1 x181 x182) fun⟨x184,x185,x186⟩=>
 chk (decide ((qam (x183++[x184])).length * 16<=140737488355328)) (
 bnd (qan n ([44]:SS) x1 x185 x186) fun⟨x187,x188⟩=>
 bif(!x187)then(
 some (qad.mk (8:Int) ([]:List qa9) ([]:List qab) (qab.mk (0:Int) ([]:SS) (Val.mk (0:Int) false (0:Int) ([]:SS) ([]:List Val) ([]:List SS)) ([]:List SS) ([]:List qab)) ([]:SS) ([]:List qbh) false ([]:List qar) ([]:List qab) ([]:List qab) ([]:List qag) (x183++[x184]) x177,x188,x186))
 else(
 nx1 (x188,x186,(x183++[x184]))))
def qno (n:Nat) (x1:List qaj) (x189:Bool):(Int×Bool×List SS->Option (qad×Int×Bool))->Int×Bool×List SS->Option (qad×Int×Bool):=fun nx2 (x193,x194,x195)=>
 bnd (qd3 n x1 x193 x194) fun⟨x196,x197,x198⟩=>
 chk (decide ((qam (x195++[x196])).length * 16<=140737488355328)) (
 bnd (qan n ([44]:SS) x1 x197 x198) fun⟨x199,x200⟩=>
 bif(!x199)then(
 some (qad.mk (8:Int) ([]:List qa9) ([]:List qab) (qab.mk (0:Int) ([]:SS) (Val.mk (0:Int) false (0:Int) ([]:SS) ([]:List Val) ([]:List SS)) ([]:List SS) ([]:List qab)) ([]:SS) ([]:List qbh) false ([]:List qar) ([]:List qab) ([]:List qab) ([]:List qag) (x195++[x196]) x189,x200,x198))
 else(
 nx2 (x200,x198,(x195++[x196]))))
def qlt (n:Nat) (x1:List qaj) (x2:Int) (x3:Bool):Option (qad×Int×Bool):=
 bnd (qan n ([77,65,84,67,72]:SS) x1 x2 x3) fun⟨x28,x29⟩=>
 bif x28 then(
 bnd (qnp n x1 x29 x3) fun⟨x30,x31,x32⟩=>
 bnd (qhg n ([87,72,69,82,69]:SS) x1 x31 x32) fun⟨x33,x34,x35⟩=>
 qbq n (x34,x35,(1:Int),x30,x33,(0:Int),([]:SS),(0:Int),false,(0:Int),([]:SS),([]:List _),([]:List _),([]:List _),([]:List _),([]:SS),([]:List _),false,([]:List _),([]:List _),([]:List _),([]:List _),([]:List _),false))
 else(
 bnd (qan n ([85,78,87,73,78,68]:SS) x1 x29 x3) fun⟨x36,x37⟩=>
 bif x36 then(
 bnd (qbb n x1 x37 x3) fun⟨⟨x38,x39,⟨x40,x41,x42,x43,x44,x45⟩,x46,x47⟩,x48,x49⟩=>
 bnd (qax n ([65,83]:SS) x1 x48 x49) fun⟨x50,x51⟩=>
 bnd (qd3 n x1 x50 x51) fun⟨x52,x53,x54⟩=>
 qbq n (x53,x54,(2:Int),([]:List _),([]:List _),x38,x39,x40,x41,x42,x43,x44,x45,x46,x47,x52,([]:List _),false,([]:List _),([]:List _),([]:List _),([]:List _),([]:List _),false))
 else(
 bnd (qan n ([87,73,84,72]:SS) x1 x37 x3) fun⟨x55,x56⟩=>
 bif x55 then(
 bnd (qpl n (3:Int) ([]:List qa9) ([]:List qab) (0:Int) ([]:SS) (0:Int) false (0:Int) ([]:SS) ([]:List Val) ([]:List SS) ([]:List SS) ([]:List qab) ([]:SS) false ([]:List qab) ([]:List qab) ([]:List qag) ([]:List SS) false x1 x56 x3) fun⟨⟨x57,x58,x59,⟨x60,x61,⟨x62,x63,x64,x65,x66,x67⟩,x68,x69⟩,x70,x71,x72,x73,x74,x75,x76,x77,x78⟩,x79,x80⟩=>
 bnd (qhg n ([87,72,69,82,69]:SS) x1 x79 x80) fun⟨x81,x82,x83⟩=>
 qbq n (x82,x83,x57,x58,x81,x60,x61,x62,x63,x64,x65,x66,x67,x68,x69,x70,x71,x72,x73,x74,x75,x76,x77,x78))
 else(
 bnd (qan n ([82,69,84,85,82,78]:SS) x1 x56 x3) fun⟨x84,x85⟩=>
 bif x84 then(
 bnd (qpl n (9:Int) ([]:List qa9) ([]:List qab) (0:Int) ([]:SS) (0:Int) false (0:Int) ([]:SS) ([]:List Val) ([]:List SS) ([]:List SS) ([]:List qab) ([]:SS) false ([]:List qab) ([]:List qab) ([]:List qag) ([]:List SS) false x1 x85 x3) fun⟨⟨x86,x87,x88,⟨x89,x90,⟨x91,x92,x93,x94,x95,x96⟩,x97,x98⟩,x99,x100,x101,x102,x103,x104,x105,x106,x107⟩,x108,x109⟩=>
 qbq n (x108,x109,x86,x87,x88,x89,x90,x91,x92,x93,x94,x95,x96,x97,x98,x99,x100,x101,x102,x103,x104,x105,x106,x107))
 else(
 bnd (qan n ([67,82,69,65,84,69]:SS) x1 x85 x3) fun⟨x110,x111⟩=>
 bif x110 then(
 bnd (qnp n x1 x111 x3) fun⟨x112,x113,x114⟩=>
 qbq n (x113,x114,(4:Int),x112,([]:List _),(0:Int),([]:SS),(0:Int),false,(0:Int),([]:SS),([]:List _),([]:List _),([]:List _),([]:List _),([]:SS),([]:List _),false,([]:List _),([]:List _),([]:List _),([]:List _),([]:List _),false))
 else(
 bnd (qan n ([77,69,82,71,69]:SS) x1 x111 x3) fun⟨x115,x116⟩=>
 bif x115 then(
 bnd (qkl n x1 x116 x3) fun⟨⟨x117,x118,x119,x120⟩,x121,x122⟩=>
 qbq n (x121,x122,(5:Int),[qa9.mk [qaf.mk x117 x118 x119 x120] ([]:List qai)],([]:List _),(0:Int),([]:SS),(0:Int),false,(0:Int),([]:SS),([]:List _),([]:List _),([]:List _),([]:List _),([]:SS),([]:List _),false,([]:List _),([]:List _),([]:List _),([]:List _),([]:List _),false))
 else(
 bnd (qan n ([83,69,84]:SS) x1 x116 x3) fun⟨x123,x124⟩=>
 bif x123 then(
 bnd (qpm n (6:Int) ([]:List qa9) ([]:List qab) (0:Int) ([]:SS) (0:Int) false (0:Int) ([]:SS) ([]:List Val) ([]:List SS) ([]:List SS) ([]:List qab) ([]:SS) ([]:List qbh) false ([]:List qar) ([]:List qab) ([]:List qab) ([]:List SS) false x1 x124 x3) fun⟨⟨x125,x126,x127,⟨x128,x129,⟨x130,x131,x132,x133,x134,x135⟩,x136,x137⟩,x138,x139,x140,x141,x142,x143,x144,x145,x146⟩,x147,x148⟩=>
 some (qad.mk x125 x126 x127 (qab.mk x128 x129 (Val.mk x130 x131 x132 x133 x134 x135) x136 x137) x138 x139 x140 x141 x142 x143 x144 x145 x146,x147,x148))
 else(
 bnd (qan n ([82,69,77,79,86,69]:SS) x1 x124 x3) fun⟨x149,x150⟩=>
 bif x149 then(
 bnd (qpm n (7:Int) ([]:List qa9) ([]:List qab) (0:Int) ([]:SS) (0:Int) false (0:Int) ([]:SS) ([]:List Val) ([]:List SS) ([]:List SS) ([]:List qab) ([]:SS) ([]:List qbh) false ([]:List qar) ([]:List qab) ([]:List qab) ([]:List SS) false x1 x150 x3) fun⟨⟨x151,x152,x153,⟨x154,x155,⟨x156,x157,x158,x159,x160,x161⟩,x162,x163⟩,x164,x165,x166,x167,x168,x169,x170,x171,x172⟩,x173,x174⟩=>
 some (qad.mk x151 x152 x153 (qab.mk x154 x155 (Val.mk x156 x157 x158 x159 x160 x161) x162 x163) x164 x165 x166 x167 x168 x169 x170 x171 x172,x173,x174))
 else(
 bnd (qcx n ([68,69,84,65,67,72]:SS) x1 x150 x3) fun x175=>
 bif(!x175)then(
 bnd (qcx n ([68,69,76,69,84,69]:SS) x1 x150 x3) fun x176=>
 bif(bif x175 then true else x176)then(
 bnd (qan n ([68,69,84,65,67,72]:SS) x1 x150 x3) fun⟨x177,x178⟩=>
 bnd (qax n ([68,69,76,69,84,69]:SS) x1 x178 x3) fun⟨x179,x180⟩=>
 qap (qf3 n x1 x177) n (x179,x180,([]:List _)))
 else(
 qbq n (x150,true,(0:Int),([]:List _),([]:List _),(0:Int),([]:SS),(0:Int),false,(0:Int),([]:SS),([]:List _),([]:List _),([]:List _),([]:List _),([]:SS),([]:List _),false,([]:List _),([]:List _),([]:List _),([]:List _),([]:List _),false)))
 else(
 bif(bif x175 then true else false)then(
 bnd (qan n ([68,69,84,65,67,72]:SS) x1 x150 x3) fun⟨x189,x190⟩=>
 bnd (qax n ([68,69,76,69,84,69]:SS) x1 x190 x3) fun⟨x191,x192⟩=>
 qap (qno n x1 x189) n (x191,x192,([]:List _)))
 else(
 qbq n (x150,true,(0:Int),([]:List _),([]:List _),(0:Int),([]:SS),(0:Int),false,(0:Int),([]:SS),([]:List _),([]:List _),([]:List _),([]:List _),([]:SS),([]:List _),false,([]:List _),([]:List _),([]:List _),([]:List _),([]:List _),false)))))))))))
set_option maxHeartbeats 4000000 in
theorem q1y (n:Nat):∀ (x1:List qaj) (x2:Int) (x3:Bool) (r:qad×Int×Bool),qlt n x1 x2 x3=some r->qau Tryz.prog 27 [.ptr 0 0] [.box 85 [pK x1,pI x2,pB x3]] 1 (fun v lo=>v=q4a x1 x2 x3 r/\lo=q3z x1 x2 x3 r):=by
 intro x1 x2 x3 r h;unfold qlt at h;refine qau.of_vc qa3 (fun _ _=>Tryz.call27 _ _) Tryz.func27 (by kernel_rfl) (inl:=[48,49,50,51,52,53,54,55,56,57,1000000]) (Nat.le_of_ble_eq_true rfl) ?_;conv=>whnf
 refine qje.cut (S:=Int×Bool×Int×List qa9×List qab×Int×SS×Int×Bool×Int×SS×List Val×List SS×List SS×List qab×SS×List qbh×Bool×List qar×List qab×List qab×List qag×List SS×Bool) (fun(x4,x5,x6,x7,x8,x9,x10,x11,x12,x13,x14,x15,x16,x17,x18,x19,x20,x21,x22,x23,x24,x25,x26,x27)=>[(2,.ptr 1 0),(3,.ptr 2 0)]) (fun(x4,x5,x6,x7,x8,x9,x10,x11,x12,x13,x14,x15,x16,x17,x18,x19,x20,x21,x22,x23,x24,x25,x26,x27)=>[.box 85 [pK x1,pI x4,pB x5],.box 55 [.p (.int .i64 (0:Int)),.p (.nilsl),.p (.nilsl),.p (.int .i64 (0:Int)),.p (.str ([]:SS)),.p (.int .i64 (0:Int)),pB false,.p (.int .i64 (0:Int)),.p (.str ([]:SS)),.p (.nilsl),.p (.nilsl),.p (.nilsl),.p (.nilsl),.p (.str ([]:SS)),.p (.nilsl),pB false,.p (.nilsl),.p (.nilsl),.p (.nilsl),.p (.nilsl),.p (.nilsl),pB false],.box 55 [pI x6,pP x7,pE x8,pI x9,pS x10,pI x11,pB x12,pI x13,pS x14,pV x15,pT x16,pT x17,pE x18,pS x19,pA x20,pB x21,pO x22,pE x23,pE x24,pU x25,pT x26,pB x27]]) (qbq n) (r:=r) ?_ ?_
 ·intro st h
  obtain⟨x4,x5,x6,x7,x8,x9,x10,x11,x12,x13,x14,x15,x16,x17,x18,x19,x20,x21,x22,x23,x24,x25,x26,x27⟩:=st;unfold qbq at h;obtain rfl:=sj h;conv=>whnf
  refine⟨_,_,⟨rfl,rfl⟩,wk [0] []⟩
 ·conv=>whnf
  replace h:=qaa h;obtain⟨⟨x28,x29⟩,h1,h⟩:=h;refine qcl (qak n _ _ _ _ _ h1) [0] [] ?_;rintro _ _ ⟨rfl,rfl⟩;refine⟨pB x28,[.box 85 [pK x1,pI x29,pB x3],.box 55 [.p (.int .i64 (0:Int)),.p (.nilsl),.p (.nilsl),.p (.int .i64 (0:Int)),.p (.str ([]:SS)),.p (.int .i64 (0:Int)),pB false,.p (.int .i64 (0:Int)),.p (.str ([]:SS)),.p (.nilsl),.p (.nilsl),.p (.nilsl),.p (.nilsl),.p (.str ([]:SS)),.p (.nilsl),pB false,.p (.nilsl),.p (.nilsl),.p (.nilsl),.p (.nilsl),.p (.nilsl),pB false],.box 55 [.p (.int .i64 (0:Int)),.p (.nilsl),.p (.nilsl),.p (.int .i64 (0:Int)),.p (.str ([]:SS)),.p (.int .i64 (0:Int)),pB false,.p (.int .i64 (0:Int)),.p (.str ([]:SS)),.p (.nilsl),.p (.nilsl),.p (.nilsl),.p (.nilsl),.p (.str ([]:SS)),.p (.nilsl),pB false,.p (.nilsl),.p (.nilsl),.p (.nilsl),.p (.nilsl),.p (.nilsl),pB false]],rfl,rfl,?_⟩;conv=>whnf
  refine ifc h (fun hc h=>?_) (fun hc h=>?_)
  ·conv=>whnf
   replace h:=qaa h;obtain⟨⟨x30,x31,x32⟩,h2,h⟩:=h;refine qcl (qvy n _ _ _ _ h2) [0] [] ?_;rintro _ _ ⟨rfl,rfl⟩;refine⟨pP x30,[.box 85 [pK x1,pI x31,pB x32],.box 55 [.p (.int .i64 (0:Int)),.p (.nilsl),.p (.nilsl),.p (.int .i64 (0:Int)),.p (.str ([]:SS)),.p (.int .i64 (0:Int)),pB false,.p (.int .i64 (0:Int)),.p (.str ([]:SS)),.p (.nilsl),.p (.nilsl),.p (.nilsl),.p (.nilsl),.p (.str ([]:SS)),.p (.nilsl),pB false,.p (.nilsl),.p (.nilsl),.p (.nilsl),.p (.nilsl),.p (.nilsl),pB false],.box 55 [.p (.int .i64 (1:Int)),.p (.nilsl),.p (.nilsl),.p (.int .i64 (0:Int)),.p (.str ([]:SS)),.p (.int .i64 (0:Int)),pB false,.p (.int .i64 (0:Int)),.p (.str ([]:SS)),.p (.nilsl),.p (.nilsl),.p (.nilsl),.p (.nilsl),.p (.str ([]:SS)),.p (.nilsl),pB false,.p (.nilsl),.p (.nilsl),.p (.nilsl),.p (.nilsl),.p (.nilsl),pB false]],rfl,rfl,?_⟩;conv=>whnf
   replace h:=qaa h;obtain⟨⟨x33,x34,x35⟩,h3,h⟩:=h;refine qcl (qnn n _ _ _ _ _ h3) [0] [] ?_;rintro _ _ ⟨rfl,rfl⟩;refine⟨pE x33,[.box 85 [pK x1,pI x34,pB x35],.box 55 [.p (.int .i64 (0:Int)),.p (.nilsl),.p (.nilsl),.p (.int .i64 (0:Int)),.p (.str ([]:SS)),.p (.int .i64 (0:Int)),pB false,.p (.int .i64 (0:Int)),.p (.str ([]:SS)),.p (.nilsl),.p (.nilsl),.p (.nilsl),.p (.nilsl),.p (.str ([]:SS)),.p (.nilsl),pB false,.p (.nilsl),.p (.nilsl),.p (.nilsl),.p (.nilsl),.p (.nilsl),pB false],.box 55 [.p (.int .i64 (1:Int)),pP x30,.p (.nilsl),.p (.int .i64 (0:Int)),.p (.str ([]:SS)),.p (.int .i64 (0:Int)),pB false,.p (.int .i64 (0:Int)),.p (.str ([]:SS)),.p (.nilsl),.p (.nilsl),.p (.nilsl),.p (.nilsl),.p (.str ([]:SS)),.p (.nilsl),pB false,.p (.nilsl),.p (.nilsl),.p (.nilsl),.p (.nilsl),.p (.nilsl),pB false]],rfl,rfl,?_⟩;conv=>whnf
   exact⟨(x34,x35,(1:Int),x30,x33,(0:Int),([]:SS),(0:Int),false,(0:Int),([]:SS),([]:List _),([]:List _),([]:List _),([]:List _),([]:SS),([]:List _),false,([]:List _),([]:List _),([]:List _),([]:List _),([]:List _),false),h,wk [0,1,2] []⟩
  ·conv=>whnf
   replace h:=qaa h;obtain⟨⟨x36,x37⟩,h4,h⟩:=h;refine qcl (qak n _ _ _ _ _ h4) [0] [] ?_;rintro _ _ ⟨rfl,rfl⟩;refine⟨pB x36,[.box 85 [pK x1,pI x37,pB x3],.box 55 [.p (.int .i64 (0:Int)),.p (.nilsl),.p (.nilsl),.p (.int .i64 (0:Int)),.p (.str ([]:SS)),.p (.int .i64 (0:Int)),pB false,.p (.int .i64 (0:Int)),.p (.str ([]:SS)),.p (.nilsl),.p (.nilsl),.p (.nilsl),.p (.nilsl),.p (.str ([]:SS)),.p (.nilsl),pB false,.p (.nilsl),.p (.nilsl),.p (.nilsl),.p (.nilsl),.p (.nilsl),pB false],.box 55 [.p (.int .i64 (0:Int)),.p (.nilsl),.p (.nilsl),.p (.int .i64 (0:Int)),.p (.str ([]:SS)),.p (.int .i64 (0:Int)),pB false,.p (.int .i64 (0:Int)),.p (.str ([]:SS)),.p (.nilsl),.p (.nilsl),.p (.nilsl),.p (.nilsl),.p (.str ([]:SS)),.p (.nilsl),pB false,.p (.nilsl),.p (.nilsl),.p (.nilsl),.p (.nilsl),.p (.nilsl),pB false]],rfl,rfl,?_⟩;conv=>whnf
   refine ifc h (fun hc h=>?_) (fun hc h=>?_)
   ·conv=>whnf
    replace h:=qaa h;obtain⟨⟨⟨x38,x39,⟨x40,x41,x42,x43,x44,x45⟩,x46,x47⟩,x48,x49⟩,h5,h⟩:=h;refine qcl (qmt n _ _ _ _ h5) [0] [] ?_;rintro _ _ ⟨rfl,rfl⟩;refine⟨.p (.agg [.int .i64 x38,.str x39,.int .i64 x40,.bool x41,.int .i64 x42,.str x43,.sl (Val.rows x44),.sl (qam x45),.sl (qam x46),.sl (qab.rows x47)]),[.box 85 [pK x1,pI x48,pB x49],.box 55 [.p (.int .i64 (0:Int)),.p (.nilsl),.p (.nilsl),.p (.int .i64 (0:Int)),.p (.str ([]:SS)),.p (.int .i64 (0:Int)),pB false,.p (.int .i64 (0:Int)),.p (.str ([]:SS)),.p (.nilsl),.p (.nilsl),.p (.nilsl),.p (.nilsl),.p (.str ([]:SS)),.p (.nilsl),pB false,.p (.nilsl),.p (.nilsl),.p (.nilsl),.p (.nilsl),.p (.nilsl),pB false],.box 55 [.p (.int .i64 (2:Int)),.p (.nilsl),.p (.nilsl),.p (.int .i64 (0:Int)),.p (.str ([]:SS)),.p (.int .i64 (0:Int)),pB false,.p (.int .i64 (0:Int)),.p (.str ([]:SS)),.p (.nilsl),.p (.nilsl),.p (.nilsl),.p (.nilsl),.p (.str ([]:SS)),.p (.nilsl),pB false,.p (.nilsl),.p (.nilsl),.p (.nilsl),.p (.nilsl),.p (.nilsl),pB false]],rfl,rfl,?_⟩;conv=>whnf
    replace h:=qaa h;obtain⟨⟨x50,x51⟩,h6,h⟩:=h;refine qcl (qa7 n _ _ _ _ _ h6) [0] [] ?_;rintro _ _ ⟨rfl,rfl⟩;refine⟨.p (.tup []),[.box 85 [pK x1,pI x50,pB x51],.box 55 [.p (.int .i64 (0:Int)),.p (.nilsl),.p (.nilsl),.p (.int .i64 (0:Int)),.p (.str ([]:SS)),.p (.int .i64 (0:Int)),pB false,.p (.int .i64 (0:Int)),.p (.str ([]:SS)),.p (.nilsl),.p (.nilsl),.p (.nilsl),.p (.nilsl),.p (.str ([]:SS)),.p (.nilsl),pB false,.p (.nilsl),.p (.nilsl),.p (.nilsl),.p (.nilsl),.p (.nilsl),pB false],.box 55 [.p (.int .i64 (2:Int)),.p (.nilsl),.p (.nilsl),pI x38,pS x39,pI x40,pB x41,pI x42,pS x43,pV x44,pT x45,pT x46,pE x47,.p (.str ([]:SS)),.p (.nilsl),pB false,.p (.nilsl),.p (.nilsl),.p (.nilsl),.p (.nilsl),.p (.nilsl),pB false]],rfl,rfl,?_⟩;conv=>whnf
    replace h:=qaa h;obtain⟨⟨x52,x53,x54⟩,h7,h⟩:=h;refine qcl (qgb n _ _ _ _ h7) [0] [] ?_;rintro _ _ ⟨rfl,rfl⟩;refine⟨pS x52,[.box 85 [pK x1,pI x53,pB x54],.box 55 [.p (.int .i64 (0:Int)),.p (.nilsl),.p (.nilsl),.p (.int .i64 (0:Int)),.p (.str ([]:SS)),.p (.int .i64 (0:Int)),pB false,.p (.int .i64 (0:Int)),.p (.str ([]:SS)),.p (.nilsl),.p (.nilsl),.p (.nilsl),.p (.nilsl),.p (.str ([]:SS)),.p (.nilsl),pB false,.p (.nilsl),.p (.nilsl),.p (.nilsl),.p (.nilsl),.p (.nilsl),pB false],.box 55 [.p (.int .i64 (2:Int)),.p (.nilsl),.p (.nilsl),pI x38,pS x39,pI x40,pB x41,pI x42,pS x43,pV x44,pT x45,pT x46,pE x47,.p (.str ([]:SS)),.p (.nilsl),pB false,.p (.nilsl),.p (.nilsl),.p (.nilsl),.p (.nilsl),.p (.nilsl),pB false]],rfl,rfl,?_⟩;conv=>whnf
    exact⟨(x53,x54,(2:Int),([]:List _),([]:List _),x38,x39,x40,x41,x42,x43,x44,x45,x46,x47,x52,([]:List _),false,([]:List _),([]:List _),([]:List _),([]:List _),([]:List _),false),h,wk [0,1,2] []⟩
   ·conv=>whnf
    replace h:=qaa h;obtain⟨⟨x55,x56⟩,h8,h⟩:=h;refine qcl (qak n _ _ _ _ _ h8) [0] [] ?_;rintro _ _ ⟨rfl,rfl⟩;refine⟨pB x55,[.box 85 [pK x1,pI x56,pB x3],.box 55 [.p (.int .i64 (0:Int)),.p (.nilsl),.p (.nilsl),.p (.int .i64 (0:Int)),.p (.str ([]:SS)),.p (.int .i64 (0:Int)),pB false,.p (.int .i64 (0:Int)),.p (.str ([]:SS)),.p (.nilsl),.p (.nilsl),.p (.nilsl),.p (.nilsl),.p (.str ([]:SS)),.p (.nilsl),pB false,.p (.nilsl),.p (.nilsl),.p (.nilsl),.p (.nilsl),.p (.nilsl),pB false],.box 55 [.p (.int .i64 (0:Int)),.p (.nilsl),.p (.nilsl),.p (.int .i64 (0:Int)),.p (.str ([]:SS)),.p (.int .i64 (0:Int)),pB false,.p (.int .i64 (0:Int)),.p (.str ([]:SS)),.p (.nilsl),.p (.nilsl),.p (.nilsl),.p (.nilsl),.p (.str ([]:SS)),.p (.nilsl),pB false,.p (.nilsl),.p (.nilsl),.p (.nilsl),.p (.nilsl),.p (.nilsl),pB false]],rfl,rfl,?_⟩;conv=>whnf
    refine ifc h (fun hc h=>?_) (fun hc h=>?_)
    ·conv=>whnf
     replace h:=qaa h;obtain⟨⟨⟨x57,x58,x59,⟨x60,x61,⟨x62,x63,x64,x65,x66,x67⟩,x68,x69⟩,x70,x71,x72,x73,x74,x75,x76,x77,x78⟩,x79,x80⟩,h9,h⟩:=h;refine qcl (qwi n _ _ _ _ _ _ _ _ _ _ _ _ _ _ _ _ _ _ _ _ _ _ _ _ h9) [0] [] ?_;rintro _ _ ⟨rfl,rfl⟩;refine⟨.p (.agg [.int .i64 x57,.sl (qa9.rows x58),.sl (qab.rows x59),.int .i64 x60,.str x61,.int .i64 x62,.bool x63,.int .i64 x64,.str x65,.sl (Val.rows x66),.sl (qam x67),.sl (qam x68),.sl (qab.rows x69),.str x70,.sl (qbh.rows x71),.bool x72,.sl (qar.rows x73),.sl (qab.rows x74),.sl (qab.rows x75),.sl (qag.rows x76),.sl (qam x77),.bool x78]),[.box 85 [pK x1,pI x79,pB x80],.box 55 [.p (.int .i64 (0:Int)),.p (.nilsl),.p (.nilsl),.p (.int .i64 (0:Int)),.p (.str ([]:SS)),.p (.int .i64 (0:Int)),pB false,.p (.int .i64 (0:Int)),.p (.str ([]:SS)),.p (.nilsl),.p (.nilsl),.p (.nilsl),.p (.nilsl),.p (.str ([]:SS)),.p (.nilsl),pB false,.p (.nilsl),.p (.nilsl),.p (.nilsl),.p (.nilsl),.p (.nilsl),pB false],.box 55 [.p (.int .i64 (3:Int)),.p (.nilsl),.p (.nilsl),.p (.int .i64 (0:Int)),.p (.str ([]:SS)),.p (.int .i64 (0:Int)),pB false,.p (.int .i64 (0:Int)),.p (.str ([]:SS)),.p (.nilsl),.p (.nilsl),.p (.nilsl),.p (.nilsl),.p (.str ([]:SS)),.p (.nilsl),pB false,.p (.nilsl),.p (.nilsl),.p (.nilsl),.p (.nilsl),.p (.nilsl),pB false]],rfl,rfl,?_⟩;conv=>whnf
     replace h:=qaa h;obtain⟨⟨x81,x82,x83⟩,h10,h⟩:=h;refine qcl (qnn n _ _ _ _ _ h10) [0] [] ?_;rintro _ _ ⟨rfl,rfl⟩;refine⟨pE x81,[.box 85 [pK x1,pI x82,pB x83],.box 55 [.p (.int .i64 (0:Int)),.p (.nilsl),.p (.nilsl),.p (.int .i64 (0:Int)),.p (.str ([]:SS)),.p (.int .i64 (0:Int)),pB false,.p (.int .i64 (0:Int)),.p (.str ([]:SS)),.p (.nilsl),.p (.nilsl),.p (.nilsl),.p (.nilsl),.p (.str ([]:SS)),.p (.nilsl),pB false,.p (.nilsl),.p (.nilsl),.p (.nilsl),.p (.nilsl),.p (.nilsl),pB false],.box 55 [pI x57,pP x58,pE x59,pI x60,pS x61,pI x62,pB x63,pI x64,pS x65,pV x66,pT x67,pT x68,pE x69,pS x70,pA x71,pB x72,pO x73,pE x74,pE x75,pU x76,pT x77,pB x78]],rfl,rfl,?_⟩;conv=>whnf
     exact⟨(x82,x83,x57,x58,x81,x60,x61,x62,x63,x64,x65,x66,x67,x68,x69,x70,x71,x72,x73,x74,x75,x76,x77,x78),h,wk [0,1,2] []⟩
    ·conv=>whnf
     replace h:=qaa h;obtain⟨⟨x84,x85⟩,h11,h⟩:=h;refine qcl (qak n _ _ _ _ _ h11) [0] [] ?_;rintro _ _ ⟨rfl,rfl⟩;refine⟨pB x84,[.box 85 [pK x1,pI x85,pB x3],.box 55 [.p (.int .i64 (0:Int)),.p (.nilsl),.p (.nilsl),.p (.int .i64 (0:Int)),.p (.str ([]:SS)),.p (.int .i64 (0:Int)),pB false,.p (.int .i64 (0:Int)),.p (.str ([]:SS)),.p (.nilsl),.p (.nilsl),.p (.nilsl),.p (.nilsl),.p (.str ([]:SS)),.p (.nilsl),pB false,.p (.nilsl),.p (.nilsl),.p (.nilsl),.p (.nilsl),.p (.nilsl),pB false],.box 55 [.p (.int .i64 (0:Int)),.p (.nilsl),.p (.nilsl),.p (.int .i64 (0:Int)),.p (.str ([]:SS)),.p (.int .i64 (0:Int)),pB false,.p (.int .i64 (0:Int)),.p (.str ([]:SS)),.p (.nilsl),.p (.nilsl),.p (.nilsl),.p (.nilsl),.p (.str ([]:SS)),.p (.nilsl),pB false,.p (.nilsl),.p (.nilsl),.p (.nilsl),.p (.nilsl),.p (.nilsl),pB false]],rfl,rfl,?_⟩;conv=>whnf
     refine ifc h (fun hc h=>?_) (fun hc h=>?_)
     ·conv=>whnf
      replace h:=qaa h;obtain⟨⟨⟨x86,x87,x88,⟨x89,x90,⟨x91,x92,x93,x94,x95,x96⟩,x97,x98⟩,x99,x100,x101,x102,x103,x104,x105,x106,x107⟩,x108,x109⟩,h12,h⟩:=h;refine qcl (qwi n _ _ _ _ _ _ _ _ _ _ _ _ _ _ _ _ _ _ _ _ _ _ _ _ h12) [0] [] ?_;rintro _ _ ⟨rfl,rfl⟩;refine⟨.p (.agg [.int .i64 x86,.sl (qa9.rows x87),.sl (qab.rows x88),.int .i64 x89,.str x90,.int .i64 x91,.bool x92,.int .i64 x93,.str x94,.sl (Val.rows x95),.sl (qam x96),.sl (qam x97),.sl (qab.rows x98),.str x99,.sl (qbh.rows x100),.bool x101,.sl (qar.rows x102),.sl (qab.rows x103),.sl (qab.rows x104),.sl (qag.rows x105),.sl (qam x106),.bool x107]),[.box 85 [pK x1,pI x108,pB x109],.box 55 [.p (.int .i64 (0:Int)),.p (.nilsl),.p (.nilsl),.p (.int .i64 (0:Int)),.p (.str ([]:SS)),.p (.int .i64 (0:Int)),pB false,.p (.int .i64 (0:Int)),.p (.str ([]:SS)),.p (.nilsl),.p (.nilsl),.p (.nilsl),.p (.nilsl),.p (.str ([]:SS)),.p (.nilsl),pB false,.p (.nilsl),.p (.nilsl),.p (.nilsl),.p (.nilsl),.p (.nilsl),pB false],.box 55 [.p (.int .i64 (9:Int)),.p (.nilsl),.p (.nilsl),.p (.int .i64 (0:Int)),.p (.str ([]:SS)),.p (.int .i64 (0:Int)),pB false,.p (.int .i64 (0:Int)),.p (.str ([]:SS)),.p (.nilsl),.p (.nilsl),.p (.nilsl),.p (.nilsl),.p (.str ([]:SS)),.p (.nilsl),pB false,.p (.nilsl),.p (.nilsl),.p (.nilsl),.p (.nilsl),.p (.nilsl),pB false]],rfl,rfl,?_⟩;conv=>whnf
      exact⟨(x108,x109,x86,x87,x88,x89,x90,x91,x92,x93,x94,x95,x96,x97,x98,x99,x100,x101,x102,x103,x104,x105,x106,x107),h,wk [0,1,2] []⟩
     ·conv=>whnf
      replace h:=qaa h;obtain⟨⟨x110,x111⟩,h13,h⟩:=h;refine qcl (qak n _ _ _ _ _ h13) [0] [] ?_;rintro _ _ ⟨rfl,rfl⟩;refine⟨pB x110,[.box 85 [pK x1,pI x111,pB x3],.box 55 [.p (.int .i64 (0:Int)),.p (.nilsl),.p (.nilsl),.p (.int .i64 (0:Int)),.p (.str ([]:SS)),.p (.int .i64 (0:Int)),pB false,.p (.int .i64 (0:Int)),.p (.str ([]:SS)),.p (.nilsl),.p (.nilsl),.p (.nilsl),.p (.nilsl),.p (.str ([]:SS)),.p (.nilsl),pB false,.p (.nilsl),.p (.nilsl),.p (.nilsl),.p (.nilsl),.p (.nilsl),pB false],.box 55 [.p (.int .i64 (0:Int)),.p (.nilsl),.p (.nilsl),.p (.int .i64 (0:Int)),.p (.str ([]:SS)),.p (.int .i64 (0:Int)),pB false,.p (.int .i64 (0:Int)),.p (.str ([]:SS)),.p (.nilsl),.p (.nilsl),.p (.nilsl),.p (.nilsl),.p (.str ([]:SS)),.p (.nilsl),pB false,.p (.nilsl),.p (.nilsl),.p (.nilsl),.p (.nilsl),.p (.nilsl),pB false]],rfl,rfl,?_⟩;conv=>whnf
      refine ifc h (fun hc h=>?_) (fun hc h=>?_)
      ·conv=>whnf
       replace h:=qaa h;obtain⟨⟨x112,x113,x114⟩,h14,h⟩:=h;refine qcl (qvy n _ _ _ _ h14) [0] [] ?_;rintro _ _ ⟨rfl,rfl⟩;refine⟨pP x112,[.box 85 [pK x1,pI x113,pB x114],.box 55 [.p (.int .i64 (0:Int)),.p (.nilsl),.p (.nilsl),.p (.int .i64 (0:Int)),.p (.str ([]:SS)),.p (.int .i64 (0:Int)),pB false,.p (.int .i64 (0:Int)),.p (.str ([]:SS)),.p (.nilsl),.p (.nilsl),.p (.nilsl),.p (.nilsl),.p (.str ([]:SS)),.p (.nilsl),pB false,.p (.nilsl),.p (.nilsl),.p (.nilsl),.p (.nilsl),.p (.nilsl),pB false],.box 55 [.p (.int .i64 (4:Int)),.p (.nilsl),.p (.nilsl),.p (.int .i64 (0:Int)),.p (.str ([]:SS)),.p (.int .i64 (0:Int)),pB false,.p (.int .i64 (0:Int)),.p (.str ([]:SS)),.p (.nilsl),.p (.nilsl),.p (.nilsl),.p (.nilsl),.p (.str ([]:SS)),.p (.nilsl),pB false,.p (.nilsl),.p (.nilsl),.p (.nilsl),.p (.nilsl),.p (.nilsl),pB false]],rfl,rfl,?_⟩;conv=>whnf
       exact⟨(x113,x114,(4:Int),x112,([]:List _),(0:Int),([]:SS),(0:Int),false,(0:Int),([]:SS),([]:List _),([]:List _),([]:List _),([]:List _),([]:SS),([]:List _),false,([]:List _),([]:List _),([]:List _),([]:List _),([]:List _),false),h,wk [0,1,2] []⟩
      ·conv=>whnf
       replace h:=qaa h;obtain⟨⟨x115,x116⟩,h15,h⟩:=h;refine qcl (qak n _ _ _ _ _ h15) [0] [] ?_;rintro _ _ ⟨rfl,rfl⟩;refine⟨pB x115,[.box 85 [pK x1,pI x116,pB x3],.box 55 [.p (.int .i64 (0:Int)),.p (.nilsl),.p (.nilsl),.p (.int .i64 (0:Int)),.p (.str ([]:SS)),.p (.int .i64 (0:Int)),pB false,.p (.int .i64 (0:Int)),.p (.str ([]:SS)),.p (.nilsl),.p (.nilsl),.p (.nilsl),.p (.nilsl),.p (.str ([]:SS)),.p (.nilsl),pB false,.p (.nilsl),.p (.nilsl),.p (.nilsl),.p (.nilsl),.p (.nilsl),pB false],.box 55 [.p (.int .i64 (0:Int)),.p (.nilsl),.p (.nilsl),.p (.int .i64 (0:Int)),.p (.str ([]:SS)),.p (.int .i64 (0:Int)),pB false,.p (.int .i64 (0:Int)),.p (.str ([]:SS)),.p (.nilsl),.p (.nilsl),.p (.nilsl),.p (.nilsl),.p (.str ([]:SS)),.p (.nilsl),pB false,.p (.nilsl),.p (.nilsl),.p (.nilsl),.p (.nilsl),.p (.nilsl),pB false]],rfl,rfl,?_⟩;conv=>whnf
       refine ifc h (fun hc h=>?_) (fun hc h=>?_)
       ·conv=>whnf
        replace h:=qaa h;obtain⟨⟨⟨x117,x118,x119,x120⟩,x121,x122⟩,h16,h⟩:=h;refine qcl (qp9 n _ _ _ _ h16) [0] [] ?_;rintro _ _ ⟨rfl,rfl⟩;refine⟨.p (.agg [.str x117,.sl (qam x118),.sl (qam x119),.sl (qab.rows x120)]),[.box 85 [pK x1,pI x121,pB x122],.box 55 [.p (.int .i64 (0:Int)),.p (.nilsl),.p (.nilsl),.p (.int .i64 (0:Int)),.p (.str ([]:SS)),.p (.int .i64 (0:Int)),pB false,.p (.int .i64 (0:Int)),.p (.str ([]:SS)),.p (.nilsl),.p (.nilsl),.p (.nilsl),.p (.nilsl),.p (.str ([]:SS)),.p (.nilsl),pB false,.p (.nilsl),.p (.nilsl),.p (.nilsl),.p (.nilsl),.p (.nilsl),pB false],.box 55 [.p (.int .i64 (5:Int)),.p (.nilsl),.p (.nilsl),.p (.int .i64 (0:Int)),.p (.str ([]:SS)),.p (.int .i64 (0:Int)),pB false,.p (.int .i64 (0:Int)),.p (.str ([]:SS)),.p (.nilsl),.p (.nilsl),.p (.nilsl),.p (.nilsl),.p (.str ([]:SS)),.p (.nilsl),pB false,.p (.nilsl),.p (.nilsl),.p (.nilsl),.p (.nilsl),.p (.nilsl),pB false]],rfl,rfl,?_⟩;conv=>whnf
        refine⟨Codec.one qeq [qaf.mk x117 x118 x119 x120],qaf.rows [qaf.mk x117 x118 x119 x120],.inl rfl,?_⟩;conv=>whnf
        refine⟨by repeat (first|exact List.forall_mem_nil _|refine List.forall_mem_cons.2 ⟨⟨rfl,rfl⟩,?_⟩),qa9.rows [qa9.mk [qaf.mk x117 x118 x119 x120] ([]:List qai)],.inr (by try exact fin),?_⟩;conv=>whnf
        exact⟨(x121,x122,(5:Int),[qa9.mk [qaf.mk x117 x118 x119 x120] ([]:List qai)],([]:List _),(0:Int),([]:SS),(0:Int),false,(0:Int),([]:SS),([]:List _),([]:List _),([]:List _),([]:List _),([]:SS),([]:List _),false,([]:List _),([]:List _),([]:List _),([]:List _),([]:List _),false),h,wk [0,1,2] []⟩
       ·conv=>whnf
        replace h:=qaa h;obtain⟨⟨x123,x124⟩,h17,h⟩:=h;refine qcl (qak n _ _ _ _ _ h17) [0] [] ?_;rintro _ _ ⟨rfl,rfl⟩;refine⟨pB x123,[.box 85 [pK x1,pI x124,pB x3],.box 55 [.p (.int .i64 (0:Int)),.p (.nilsl),.p (.nilsl),.p (.int .i64 (0:Int)),.p (.str ([]:SS)),.p (.int .i64 (0:Int)),pB false,.p (.int .i64 (0:Int)),.p (.str ([]:SS)),.p (.nilsl),.p (.nilsl),.p (.nilsl),.p (.nilsl),.p (.str ([]:SS)),.p (.nilsl),pB false,.p (.nilsl),.p (.nilsl),.p (.nilsl),.p (.nilsl),.p (.nilsl),pB false],.box 55 [.p (.int .i64 (0:Int)),.p (.nilsl),.p (.nilsl),.p (.int .i64 (0:Int)),.p (.str ([]:SS)),.p (.int .i64 (0:Int)),pB false,.p (.int .i64 (0:Int)),.p (.str ([]:SS)),.p (.nilsl),.p (.nilsl),.p (.nilsl),.p (.nilsl),.p (.str ([]:SS)),.p (.nilsl),pB false,.p (.nilsl),.p (.nilsl),.p (.nilsl),.p (.nilsl),.p (.nilsl),pB false]],rfl,rfl,?_⟩;conv=>whnf
        refine ifc h (fun hc h=>?_) (fun hc h=>?_)
        ·conv=>whnf
         replace h:=qaa h;obtain⟨⟨⟨x125,x126,x127,⟨x128,x129,⟨x130,x131,x132,x133,x134,x135⟩,x136,x137⟩,x138,x139,x140,x141,x142,x143,x144,x145,x146⟩,x147,x148⟩,h18,h⟩:=h;refine qcl (qwj n _ _ _ _ _ _ _ _ _ _ _ _ _ _ _ _ _ _ _ _ _ _ _ _ _ h18) [0] [] ?_;rintro _ _ ⟨rfl,rfl⟩;refine⟨.p (.agg [.int .i64 x125,.sl (qa9.rows x126),.sl (qab.rows x127),.int .i64 x128,.str x129,.int .i64 x130,.bool x131,.int .i64 x132,.str x133,.sl (Val.rows x134),.sl (qam x135),.sl (qam x136),.sl (qab.rows x137),.str x138,.sl (qbh.rows x139),.bool x140,.sl (qar.rows x141),.sl (qab.rows x142),.sl (qab.rows x143),.sl (qag.rows x144),.sl (qam x145),.bool x146]),[.box 85 [pK x1,pI x147,pB x148],.box 55 [.p (.int .i64 (0:Int)),.p (.nilsl),.p (.nilsl),.p (.int .i64 (0:Int)),.p (.str ([]:SS)),.p (.int .i64 (0:Int)),pB false,.p (.int .i64 (0:Int)),.p (.str ([]:SS)),.p (.nilsl),.p (.nilsl),.p (.nilsl),.p (.nilsl),.p (.str ([]:SS)),.p (.nilsl),pB false,.p (.nilsl),.p (.nilsl),.p (.nilsl),.p (.nilsl),.p (.nilsl),pB false],.box 55 [.p (.int .i64 (6:Int)),.p (.nilsl),.p (.nilsl),.p (.int .i64 (0:Int)),.p (.str ([]:SS)),.p (.int .i64 (0:Int)),pB false,.p (.int .i64 (0:Int)),.p (.str ([]:SS)),.p (.nilsl),.p (.nilsl),.p (.nilsl),.p (.nilsl),.p (.str ([]:SS)),.p (.nilsl),pB false,.p (.nilsl),.p (.nilsl),.p (.nilsl),.p (.nilsl),.p (.nilsl),pB false]],rfl,rfl,?_⟩;obtain rfl:=sj h;conv=>whnf
         refine⟨_,_,⟨rfl,rfl⟩,wk [0] []⟩
        ·conv=>whnf
         replace h:=qaa h;obtain⟨⟨x149,x150⟩,h19,h⟩:=h;refine qcl (qak n _ _ _ _ _ h19) [0] [] ?_;rintro _ _ ⟨rfl,rfl⟩;refine⟨pB x149,[.box 85 [pK x1,pI x150,pB x3],.box 55 [.p (.int .i64 (0:Int)),.p (.nilsl),.p (.nilsl),.p (.int .i64 (0:Int)),.p (.str ([]:SS)),.p (.int .i64 (0:Int)),pB false,.p (.int .i64 (0:Int)),.p (.str ([]:SS)),.p (.nilsl),.p (.nilsl),.p (.nilsl),.p (.nilsl),.p (.str ([]:SS)),.p (.nilsl),pB false,.p (.nilsl),.p (.nilsl),.p (.nilsl),.p (.nilsl),.p (.nilsl),pB false],.box 55 [.p (.int .i64 (0:Int)),.p (.nilsl),.p (.nilsl),.p (.int .i64 (0:Int)),.p (.str ([]:SS)),.p (.int .i64 (0:Int)),pB false,.p (.int .i64 (0:Int)),.p (.str ([]:SS)),.p (.nilsl),.p (.nilsl),.p (.nilsl),.p (.nilsl),.p (.str ([]:SS)),.p (.nilsl),pB false,.p (.nilsl),.p (.nilsl),.p (.nilsl),.p (.nilsl),.p (.nilsl),pB false]],rfl,rfl,?_⟩;conv=>whnf
         refine ifc h (fun hc h=>?_) (fun hc h=>?_)
         ·conv=>whnf
          replace h:=qaa h;obtain⟨⟨⟨x151,x152,x153,⟨x154,x155,⟨x156,x157,x158,x159,x160,x161⟩,x162,x163⟩,x164,x165,x166,x167,x168,x169,x170,x171,x172⟩,x173,x174⟩,h20,h⟩:=h;refine qcl (qwj n _ _ _ _ _ _ _ _ _ _ _ _ _ _ _ _ _ _ _ _ _ _ _ _ _ h20) [0] [] ?_;rintro _ _ ⟨rfl,rfl⟩;refine⟨.p (.agg [.int .i64 x151,.sl (qa9.rows x152),.sl (qab.rows x153),.int .i64 x154,.str x155,.int .i64 x156,.bool x157,.int .i64 x158,.str x159,.sl (Val.rows x160),.sl (qam x161),.sl (qam x162),.sl (qab.rows x163),.str x164,.sl (qbh.rows x165),.bool x166,.sl (qar.rows x167),.sl (qab.rows x168),.sl (qab.rows x169),.sl (qag.rows x170),.sl (qam x171),.bool x172]),[.box 85 [pK x1,pI x173,pB x174],.box 55 [.p (.int .i64 (0:Int)),.p (.nilsl),.p (.nilsl),.p (.int .i64 (0:Int)),.p (.str ([]:SS)),.p (.int .i64 (0:Int)),pB false,.p (.int .i64 (0:Int)),.p (.str ([]:SS)),.p (.nilsl),.p (.nilsl),.p (.nilsl),.p (.nilsl),.p (.str ([]:SS)),.p (.nilsl),pB false,.p (.nilsl),.p (.nilsl),.p (.nilsl),.p (.nilsl),.p (.nilsl),pB false],.box 55 [.p (.int .i64 (7:Int)),.p (.nilsl),.p (.nilsl),.p (.int .i64 (0:Int)),.p (.str ([]:SS)),.p (.int .i64 (0:Int)),pB false,.p (.int .i64 (0:Int)),.p (.str ([]:SS)),.p (.nilsl),.p (.nilsl),.p (.nilsl),.p (.nilsl),.p (.str ([]:SS)),.p (.nilsl),pB false,.p (.nilsl),.p (.nilsl),.p (.nilsl),.p (.nilsl),.p (.nilsl),pB false]],rfl,rfl,?_⟩;obtain rfl:=sj h;conv=>whnf
          refine⟨_,_,⟨rfl,rfl⟩,wk [0] []⟩
         ·conv=>whnf
          replace h:=qaa h;obtain⟨x175,h21,h⟩:=h;refine qcl (qdc n _ _ _ _ _ h21) [0] [] ?_;rintro _ _ ⟨rfl,rfl⟩;refine⟨pB x175,[.box 85 [pK x1,pI x150,pB x3],.box 55 [.p (.int .i64 (0:Int)),.p (.nilsl),.p (.nilsl),.p (.int .i64 (0:Int)),.p (.str ([]:SS)),.p (.int .i64 (0:Int)),pB false,.p (.int .i64 (0:Int)),.p (.str ([]:SS)),.p (.nilsl),.p (.nilsl),.p (.nilsl),.p (.nilsl),.p (.str ([]:SS)),.p (.nilsl),pB false,.p (.nilsl),.p (.nilsl),.p (.nilsl),.p (.nilsl),.p (.nilsl),pB false],.box 55 [.p (.int .i64 (0:Int)),.p (.nilsl),.p (.nilsl),.p (.int .i64 (0:Int)),.p (.str ([]:SS)),.p (.int .i64 (0:Int)),pB false,.p (.int .i64 (0:Int)),.p (.str ([]:SS)),.p (.nilsl),.p (.nilsl),.p (.nilsl),.p (.nilsl),.p (.str ([]:SS)),.p (.nilsl),pB false,.p (.nilsl),.p (.nilsl),.p (.nilsl),.p (.nilsl),.p (.nilsl),pB false]],rfl,rfl,?_⟩;conv=>whnf
          refine⟨fun hg=>?_,fun hg=>?_⟩
          ·have h:=qy4 h hg
           conv=>whnf
           refine⟨id,?_⟩;conv=>whnf
           replace h:=qaa h;obtain⟨x176,h22,h⟩:=h;refine qcl (qdc n _ _ _ _ _ h22) [0] [] ?_;rintro _ _ ⟨rfl,rfl⟩;refine⟨pB x176,[.box 85 [pK x1,pI x150,pB x3],.box 55 [.p (.int .i64 (0:Int)),.p (.nilsl),.p (.nilsl),.p (.int .i64 (0:Int)),.p (.str ([]:SS)),.p (.int .i64 (0:Int)),pB false,.p (.int .i64 (0:Int)),.p (.str ([]:SS)),.p (.nilsl),.p (.nilsl),.p (.nilsl),.p (.nilsl),.p (.str ([]:SS)),.p (.nilsl),pB false,.p (.nilsl),.p (.nilsl),.p (.nilsl),.p (.nilsl),.p (.nilsl),pB false],.box 55 [.p (.int .i64 (0:Int)),.p (.nilsl),.p (.nilsl),.p (.int .i64 (0:Int)),.p (.str ([]:SS)),.p (.int .i64 (0:Int)),pB false,.p (.int .i64 (0:Int)),.p (.str ([]:SS)),.p (.nilsl),.p (.nilsl),.p (.nilsl),.p (.nilsl),.p (.str ([]:SS)),.p (.nilsl),pB false,.p (.nilsl),.p (.nilsl),.p (.nilsl),.p (.nilsl),.p (.nilsl),pB false]],rfl,rfl,?_⟩;conv=>whnf
           refine⟨id,?_⟩;conv=>whnf
           refine ifc h (fun hc h=>?_) (fun hc h=>?_)
           ·conv=>whnf
            replace h:=qaa h;obtain⟨⟨x177,x178⟩,h23,h⟩:=h;refine qcl (qak n _ _ _ _ _ h23) [0] [] ?_;rintro _ _ ⟨rfl,rfl⟩;refine⟨pB x177,[.box 85 [pK x1,pI x178,pB x3],.box 55 [.p (.int .i64 (0:Int)),.p (.nilsl),.p (.nilsl),.p (.int .i64 (0:Int)),.p (.str ([]:SS)),.p (.int .i64 (0:Int)),pB false,.p (.int .i64 (0:Int)),.p (.str ([]:SS)),.p (.nilsl),.p (.nilsl),.p (.nilsl),.p (.nilsl),.p (.str ([]:SS)),.p (.nilsl),pB false,.p (.nilsl),.p (.nilsl),.p (.nilsl),.p (.nilsl),.p (.nilsl),pB false],.box 55 [.p (.int .i64 (8:Int)),.p (.nilsl),.p (.nilsl),.p (.int .i64 (0:Int)),.p (.str ([]:SS)),.p (.int .i64 (0:Int)),pB false,.p (.int .i64 (0:Int)),.p (.str ([]:SS)),.p (.nilsl),.p (.nilsl),.p (.nilsl),.p (.nilsl),.p (.str ([]:SS)),.p (.nilsl),pB false,.p (.nilsl),.p (.nilsl),.p (.nilsl),.p (.nilsl),.p (.nilsl),pB false]],rfl,rfl,?_⟩;conv=>whnf
            replace h:=qaa h;obtain⟨⟨x179,x180⟩,h24,h⟩:=h;refine qcl (qa7 n _ _ _ _ _ h24) [0] [] ?_;rintro _ _ ⟨rfl,rfl⟩;refine⟨.p (.tup []),[.box 85 [pK x1,pI x179,pB x180],.box 55 [.p (.int .i64 (0:Int)),.p (.nilsl),.p (.nilsl),.p (.int .i64 (0:Int)),.p (.str ([]:SS)),.p (.int .i64 (0:Int)),pB false,.p (.int .i64 (0:Int)),.p (.str ([]:SS)),.p (.nilsl),.p (.nilsl),.p (.nilsl),.p (.nilsl),.p (.str ([]:SS)),.p (.nilsl),pB false,.p (.nilsl),.p (.nilsl),.p (.nilsl),.p (.nilsl),.p (.nilsl),pB false],.box 55 [.p (.int .i64 (8:Int)),.p (.nilsl),.p (.nilsl),.p (.int .i64 (0:Int)),.p (.str ([]:SS)),.p (.int .i64 (0:Int)),pB false,.p (.int .i64 (0:Int)),.p (.str ([]:SS)),.p (.nilsl),.p (.nilsl),.p (.nilsl),.p (.nilsl),.p (.str ([]:SS)),.p (.nilsl),pB false,.p (.nilsl),.p (.nilsl),.p (.nilsl),.p (.nilsl),.p (.nilsl),pB x177]],rfl,rfl,?_⟩;conv=>whnf
            refine qby.fn [48,49,50,51,52,53,54,55,56,57,1000000] (S:=Int×Bool×List SS) (fun(x181,x182,x183)=>[(0,.ptr 0 0),(2,.ptr 1 0),(3,.ptr 2 0)]) (fun(x181,x182,x183)=>[.box 85 [pK x1,pI x181,pB x182],.box 55 [.p (.int .i64 (0:Int)),.p (.nilsl),.p (.nilsl),.p (.int .i64 (0:Int)),.p (.str ([]:SS)),.p (.int .i64 (0:Int)),pB false,.p (.int .i64 (0:Int)),.p (.str ([]:SS)),.p (.nilsl),.p (.nilsl),.p (.nilsl),.p (.nilsl),.p (.str ([]:SS)),.p (.nilsl),pB false,.p (.nilsl),.p (.nilsl),.p (.nilsl),.p (.nilsl),.p (.nilsl),pB false],.box 55 [.p (.int .i64 (8:Int)),.p (.nilsl),.p (.nilsl),.p (.int .i64 (0:Int)),.p (.str ([]:SS)),.p (.int .i64 (0:Int)),pB false,.p (.int .i64 (0:Int)),.p (.str ([]:SS)),.p (.nilsl),.p (.nilsl),.p (.nilsl),.p (.nilsl),.p (.str ([]:SS)),.p (.nilsl),pB false,.p (.nilsl),.p (.nilsl),.p (.nilsl),.p (.nilsl),.tsl 3 (qam x183),pB x177],.tail 9 1 (qam x183).length]) (B:=qf3 n x1 x177) h (wk [0,1,2,0] [3]) ?_;intro nx1 st h;obtain⟨x181,x182,x183⟩:=st;unfold qf3 at h;conv=>whnf
            replace h:=qaa h;obtain⟨⟨x184,x185,x186⟩,h25,h⟩:=h;refine qcl (qgb n _ _ _ _ h25) [0] [] ?_;rintro _ _ ⟨rfl,rfl⟩;refine⟨pS x184,[.box 85 [pK x1,pI x185,pB x186],.box 55 [.p (.int .i64 (0:Int)),.p (.nilsl),.p (.nilsl),.p (.int .i64 (0:Int)),.p (.str ([]:SS)),.p (.int .i64 (0:Int)),pB false,.p (.int .i64 (0:Int)),.p (.str ([]:SS)),.p (.nilsl),.p (.nilsl),.p (.nilsl),.p (.nilsl),.p (.str ([]:SS)),.p (.nilsl),pB false,.p (.nilsl),.p (.nilsl),.p (.nilsl),.p (.nilsl),.p (.nilsl),pB false],.box 55 [.p (.int .i64 (8:Int)),.p (.nilsl),.p (.nilsl),.p (.int .i64 (0:Int)),.p (.str ([]:SS)),.p (.int .i64 (0:Int)),pB false,.p (.int .i64 (0:Int)),.p (.str ([]:SS)),.p (.nilsl),.p (.nilsl),.p (.nilsl),.p (.nilsl),.p (.str ([]:SS)),.p (.nilsl),pB false,.p (.nilsl),.p (.nilsl),.p (.nilsl),.p (.nilsl),.tsl 3 (qam x183),pB x177],.tail 9 1 (qam x183).length],rfl,rfl,?_⟩;conv=>whnf
            refine⟨Codec.one qqt [x184],qam [x184],.inl rfl,?_⟩;conv=>whnf
            rw[show qam x183++qam [x184]=qam (x183++[x184])from Codec.append qqt x183 [x184]];conv=>whnf
            obtain⟨h27,h⟩:=qaw h;refine⟨⟨Codec.wide qqt (x183++[x184]),of_decide_eq_true h27,qdx h27 (by decide)⟩,?_⟩;conv=>whnf
            refine⟨⟨rfl,rfl,rfl⟩,?_⟩;conv=>whnf
            replace h:=qaa h;obtain⟨⟨x187,x188⟩,h26,h⟩:=h;refine qcl (qak n _ _ _ _ _ h26) [0] [] ?_;rintro _ _ ⟨rfl,rfl⟩;refine⟨pB x187,[.box 85 [pK x1,pI x188,pB x186],.box 55 [.p (.int .i64 (0:Int)),.p (.nilsl),.p (.nilsl),.p (.int .i64 (0:Int)),.p (.str ([]:SS)),.p (.int .i64 (0:Int)),pB false,.p (.int .i64 (0:Int)),.p (.str ([]:SS)),.p (.nilsl),.p (.nilsl),.p (.nilsl),.p (.nilsl),.p (.str ([]:SS)),.p (.nilsl),pB false,.p (.nilsl),.p (.nilsl),.p (.nilsl),.p (.nilsl),.p (.nilsl),pB false],.box 55 [.p (.int .i64 (8:Int)),.p (.nilsl),.p (.nilsl),.p (.int .i64 (0:Int)),.p (.str ([]:SS)),.p (.int .i64 (0:Int)),pB false,.p (.int .i64 (0:Int)),.p (.str ([]:SS)),.p (.nilsl),.p (.nilsl),.p (.nilsl),.p (.nilsl),.p (.str ([]:SS)),.p (.nilsl),pB false,.p (.nilsl),.p (.nilsl),.p (.nilsl),.p (.nilsl),.tsl 4 (qam (x183++[x184])),pB x177],.dead,.tail 9 1 (qam (x183++[x184])).length],rfl,rfl,?_⟩;conv=>whnf
            refine ifc h (fun hc h=>?_) (fun hc h=>?_)
            ·obtain rfl:=sj h
             conv=>whnf
             refine⟨_,_,⟨rfl,rfl⟩,wk [0] []⟩
            ·conv=>whnf
             exact⟨(x188,x186,(x183++[x184])),h,wk [0,1,2,4] []⟩
           ·conv=>whnf
            exact⟨(x150,true,(0:Int),([]:List _),([]:List _),(0:Int),([]:SS),(0:Int),false,(0:Int),([]:SS),([]:List _),([]:List _),([]:List _),([]:List _),([]:SS),([]:List _),false,([]:List _),([]:List _),([]:List _),([]:List _),([]:List _),false),h,wk [0,1,2] []⟩
          ·have h:=qy3 h hg
           refine⟨pB false,?_⟩;conv=>whnf
           refine⟨id,?_⟩;conv=>whnf
           refine ifc h (fun hc h=>?_) (fun hc h=>?_)
           ·conv=>whnf
            replace h:=qaa h;obtain⟨⟨x189,x190⟩,h28,h⟩:=h;refine qcl (qak n _ _ _ _ _ h28) [0] [] ?_;rintro _ _ ⟨rfl,rfl⟩;refine⟨pB x189,[.box 85 [pK x1,pI x190,pB x3],.box 55 [.p (.int .i64 (0:Int)),.p (.nilsl),.p (.nilsl),.p (.int .i64 (0:Int)),.p (.str ([]:SS)),.p (.int .i64 (0:Int)),pB false,.p (.int .i64 (0:Int)),.p (.str ([]:SS)),.p (.nilsl),.p (.nilsl),.p (.nilsl),.p (.nilsl),.p (.str ([]:SS)),.p (.nilsl),pB false,.p (.nilsl),.p (.nilsl),.p (.nilsl),.p (.nilsl),.p (.nilsl),pB false],.box 55 [.p (.int .i64 (8:Int)),.p (.nilsl),.p (.nilsl),.p (.int .i64 (0:Int)),.p (.str ([]:SS)),.p (.int .i64 (0:Int)),pB false,.p (.int .i64 (0:Int)),.p (.str ([]:SS)),.p (.nilsl),.p (.nilsl),.p (.nilsl),.p (.nilsl),.p (.str ([]:SS)),.p (.nilsl),pB false,.p (.nilsl),.p (.nilsl),.p (.nilsl),.p (.nilsl),.p (.nilsl),pB false]],rfl,rfl,?_⟩;conv=>whnf
            replace h:=qaa h;obtain⟨⟨x191,x192⟩,h29,h⟩:=h;refine qcl (qa7 n _ _ _ _ _ h29) [0] [] ?_;rintro _ _ ⟨rfl,rfl⟩;refine⟨.p (.tup []),[.box 85 [pK x1,pI x191,pB x192],.box 55 [.p (.int .i64 (0:Int)),.p (.nilsl),.p (.nilsl),.p (.int .i64 (0:Int)),.p (.str ([]:SS)),.p (.int .i64 (0:Int)),pB false,.p (.int .i64 (0:Int)),.p (.str ([]:SS)),.p (.nilsl),.p (.nilsl),.p (.nilsl),.p (.nilsl),.p (.str ([]:SS)),.p (.nilsl),pB false,.p (.nilsl),.p (.nilsl),.p (.nilsl),.p (.nilsl),.p (.nilsl),pB false],.box 55 [.p (.int .i64 (8:Int)),.p (.nilsl),.p (.nilsl),.p (.int .i64 (0:Int)),.p (.str ([]:SS)),.p (.int .i64 (0:Int)),pB false,.p (.int .i64 (0:Int)),.p (.str ([]:SS)),.p (.nilsl),.p (.nilsl),.p (.nilsl),.p (.nilsl),.p (.str ([]:SS)),.p (.nilsl),pB false,.p (.nilsl),.p (.nilsl),.p (.nilsl),.p (.nilsl),.p (.nilsl),pB x189]],rfl,rfl,?_⟩;conv=>whnf
            refine qby.fn [48,49,50,51,52,53,54,55,56,57,1000000] (S:=Int×Bool×List SS) (fun(x193,x194,x195)=>[(0,.ptr 0 0),(2,.ptr 1 0),(3,.ptr 2 0)]) (fun(x193,x194,x195)=>[.box 85 [pK x1,pI x193,pB x194],.box 55 [.p (.int .i64 (0:Int)),.p (.nilsl),.p (.nilsl),.p (.int .i64 (0:Int)),.p (.str ([]:SS)),.p (.int .i64 (0:Int)),pB false,.p (.int .i64 (0:Int)),.p (.str ([]:SS)),.p (.nilsl),.p (.nilsl),.p (.nilsl),.p (.nilsl),.p (.str ([]:SS)),.p (.nilsl),pB false,.p (.nilsl),.p (.nilsl),.p (.nilsl),.p (.nilsl),.p (.nilsl),pB false],.box 55 [.p (.int .i64 (8:Int)),.p (.nilsl),.p (.nilsl),.p (.int .i64 (0:Int)),.p (.str ([]:SS)),.p (.int .i64 (0:Int)),pB false,.p (.int .i64 (0:Int)),.p (.str ([]:SS)),.p (.nilsl),.p (.nilsl),.p (.nilsl),.p (.nilsl),.p (.str ([]:SS)),.p (.nilsl),pB false,.p (.nilsl),.p (.nilsl),.p (.nilsl),.p (.nilsl),.tsl 3 (qam x195),pB x189],.tail 9 1 (qam x195).length]) (B:=qno n x1 x189) h (wk [0,1,2,0] [3]) ?_;intro nx2 st h;obtain⟨x193,x194,x195⟩:=st;unfold qno at h;conv=>whnf
            replace h:=qaa h;obtain⟨⟨x196,x197,x198⟩,h30,h⟩:=h;refine qcl (qgb n _ _ _ _ h30) [0] [] ?_;rintro _ _ ⟨rfl,rfl⟩;refine⟨pS x196,[.box 85 [pK x1,pI x197,pB x198],.box 55 [.p (.int .i64 (0:Int)),.p (.nilsl),.p (.nilsl),.p (.int .i64 (0:Int)),.p (.str ([]:SS)),.p (.int .i64 (0:Int)),pB false,.p (.int .i64 (0:Int)),.p (.str ([]:SS)),.p (.nilsl),.p (.nilsl),.p (.nilsl),.p (.nilsl),.p (.str ([]:SS)),.p (.nilsl),pB false,.p (.nilsl),.p (.nilsl),.p (.nilsl),.p (.nilsl),.p (.nilsl),pB false],.box 55 [.p (.int .i64 (8:Int)),.p (.nilsl),.p (.nilsl),.p (.int .i64 (0:Int)),.p (.str ([]:SS)),.p (.int .i64 (0:Int)),pB false,.p (.int .i64 (0:Int)),.p (.str ([]:SS)),.p (.nilsl),.p (.nilsl),.p (.nilsl),.p (.nilsl),.p (.str ([]:SS)),.p (.nilsl),pB false,.p (.nilsl),.p (.nilsl),.p (.nilsl),.p (.nilsl),.tsl 3 (qam x195),pB x189],.tail 9 1 (qam x195).length],rfl,rfl,?_⟩;conv=>whnf
            refine⟨Codec.one qqt [x196],qam [x196],.inl rfl,?_⟩;conv=>whnf
            rw[show qam x195++qam [x196]=qam (x195++[x196])from Codec.append qqt x195 [x196]];conv=>whnf
            obtain⟨h32,h⟩:=qaw h;refine⟨⟨Codec.wide qqt (x195++[x196]),of_decide_eq_true h32,qdx h32 (by decide)⟩,?_⟩;conv=>whnf
            refine⟨⟨rfl,rfl,rfl⟩,?_⟩;conv=>whnf
            replace h:=qaa h;obtain⟨⟨x199,x200⟩,h31,h⟩:=h;refine qcl (qak n _ _ _ _ _ h31) [0] [] ?_;rintro _ _ ⟨rfl,rfl⟩;refine⟨pB x199,[.box 85 [pK x1,pI x200,pB x198],.box 55 [.p (.int .i64 (0:Int)),.p (.nilsl),.p (.nilsl),.p (.int .i64 (0:Int)),.p (.str ([]:SS)),.p (.int .i64 (0:Int)),pB false,.p (.int .i64 (0:Int)),.p (.str ([]:SS)),.p (.nilsl),.p (.nilsl),.p (.nilsl),.p (.nilsl),.p (.str ([]:SS)),.p (.nilsl),pB false,.p (.nilsl),.p (.nilsl),.p (.nilsl),.p (.nilsl),.p (.nilsl),pB false],.box 55 [.p (.int .i64 (8:Int)),.p (.nilsl),.p (.nilsl),.p (.int .i64 (0:Int)),.p (.str ([]:SS)),.p (.int .i64 (0:Int)),pB false,.p (.int .i64 (0:Int)),.p (.str ([]:SS)),.p (.nilsl),.p (.nilsl),.p (.nilsl),.p (.nilsl),.p (.str ([]:SS)),.p (.nilsl),pB false,.p (.nilsl),.p (.nilsl),.p (.nilsl),.p (.nilsl),.tsl 4 (qam (x195++[x196])),pB x189],.dead,.tail 9 1 (qam (x195++[x196])).length],rfl,rfl,?_⟩;conv=>whnf
            refine ifc h (fun hc h=>?_) (fun hc h=>?_)
            ·obtain rfl:=sj h
             conv=>whnf
             refine⟨_,_,⟨rfl,rfl⟩,wk [0] []⟩
            ·conv=>whnf
             exact⟨(x200,x198,(x195++[x196])),h,wk [0,1,2,4] []⟩
           ·conv=>whnf
            exact⟨(x150,true,(0:Int),([]:List _),([]:List _),(0:Int),([]:SS),(0:Int),false,(0:Int),([]:SS),([]:List _),([]:List _),([]:List _),([]:List _),([]:SS),([]:List _),false,([]:List _),([]:List _),([]:List _),([]:List _),([]:List _),false),h,wk [0,1,2] []⟩
abbrev zdz (r:qad):PV:=PV.agg (qcw.cells r)
def qfo (n:Nat) (x1:Int):List qa9×List qab×Int×SS×Int×Bool×Int×SS×List Val×List SS×List SS×List qab×SS×List qbh×Bool×List qar×List qab×List qab×List qag×List SS×Bool->Option (qad):=fun(x23,x24,x25,x26,x27,x28,x29,x30,x31,x32,x33,x34,x35,x36,x37,x38,x39,x40,x41,x42,x43)=>
 some (qad.mk x1 x23 x24 (qab.mk x25 x26 (Val.mk x27 x28 x29 x30 x31 x32) x33 x34) x35 x36 x37 x38 x39 x40 x41 x42 x43)
def qpk (n:Nat) (x1:Int) (x20:List qag) (x21:List SS) (x22:Bool):Bool->Option (qad):=fun x46=>
 bif x46 then(
 qfo n x1 (([]:List _),([]:List _),(0:Int),([]:SS),(0:Int),false,(0:Int),([]:SS),([]:List _),([]:List _),([]:List _),([]:List _),([]:SS),([]:List _),false,([]:List _),([]:List _),([]:List _),x20,([]:List _),false))
 else(
 bif(x1==8)then(
 qfo n x1 (([]:List _),([]:List _),(0:Int),([]:SS),(0:Int),false,(0:Int),([]:SS),([]:List _),([]:List _),([]:List _),([]:List _),([]:SS),([]:List _),false,([]:List _),([]:List _),([]:List _),([]:List _),x21,x22))
 else(
 qfo n x1 (([]:List _),([]:List _),(0:Int),([]:SS),(0:Int),false,(0:Int),([]:SS),([]:List _),([]:List _),([]:List _),([]:List _),([]:SS),([]:List _),false,([]:List _),([]:List _),([]:List _),([]:List _),([]:List _),false)))
def qpj (n:Nat) (x1:Int) (x2:List qa9) (x20:List qag) (x21:List SS) (x22:Bool):Bool->Option (qad):=fun x45=>
 bif x45 then(
 qfo n x1 (x2,([]:List _),(0:Int),([]:SS),(0:Int),false,(0:Int),([]:SS),([]:List _),([]:List _),([]:List _),([]:List _),([]:SS),([]:List _),false,([]:List _),([]:List _),([]:List _),([]:List _),([]:List _),false))
 else(
 bif(x1==6)then(
 qpk n x1 x20 x21 x22 (x1==6))
 else(
 qpk n x1 x20 x21 x22 (x1==7)))
def qpi (n:Nat) (x1:Int) (x3:List qab) (x15:List qbh) (x16:Bool) (x17:List qar) (x18 x19:List qab) (x2:List qa9) (x20:List qag) (x21:List SS) (x22:Bool):Bool->Option (qad):=fun x44=>
 bif x44 then(
 bif(x1==3)then(
 qfo n x1 (([]:List _),x3,(0:Int),([]:SS),(0:Int),false,(0:Int),([]:SS),([]:List _),([]:List _),([]:List _),([]:List _),([]:SS),x15,x16,x17,x18,x19,([]:List _),([]:List _),false))
 else(
 qfo n x1 (([]:List _),([]:List _),(0:Int),([]:SS),(0:Int),false,(0:Int),([]:SS),([]:List _),([]:List _),([]:List _),([]:List _),([]:SS),x15,x16,x17,x18,x19,([]:List _),([]:List _),false)))
 else(
 bif(x1==4)then(
 qpj n x1 x2 x20 x21 x22 (x1==4))
 else(
 qpj n x1 x2 x20 x21 x22 (x1==5)))
def qs3 (n:Nat) (a0z:qad):Option (qad):=
 match a0z with
 | ⟨x1,x2,x3,⟨x4,x5,⟨x6,x7,x8,x9,x10,x11⟩,x12,x13⟩,x14,x15,x16,x17,x18,x19,x20,x21,x22⟩=>
 bif(x1==1)then(
 qfo n x1 (x2,x3,(0:Int),([]:SS),(0:Int),false,(0:Int),([]:SS),([]:List _),([]:List _),([]:List _),([]:List _),([]:SS),([]:List _),false,([]:List _),([]:List _),([]:List _),([]:List _),([]:List _),false))
 else(
 bif(x1==2)then(
 qfo n x1 (([]:List _),([]:List _),x4,x5,x6,x7,x8,x9,x10,x11,x12,x13,x14,([]:List _),false,([]:List _),([]:List _),([]:List _),([]:List _),([]:List _),false))
 else(
 bif(x1==3)then(
 qpi n x1 x3 x15 x16 x17 x18 x19 x2 x20 x21 x22 (x1==3))
 else(
 qpi n x1 x3 x15 x16 x17 x18 x19 x2 x20 x21 x22 (x1==9))))
theorem zbj (n:Nat):∀ (a0z r:qad),qs3 n a0z=some r->qae Tryz.prog 59 [PV.agg (qcw.cells a0z)] (zdz r):=by
 intro a0z r h;obtain⟨x1,x2,x3,⟨x4,x5,⟨x6,x7,x8,x9,x10,x11⟩,x12,x13⟩,x14,x15,x16,x17,x18,x19,x20,x21,x22⟩:=a0z;unfold qs3 at h;refine qae.of_vcN qa3 (fun _ _=>Tryz.call59 _ _) Tryz.func59 (by kernel_rfl) (inl:=[1000000]) ?_;conv=>whnf
 refine qje.cut (S:=List qa9×List qab×Int×SS×Int×Bool×Int×SS×List Val×List SS×List SS×List qab×SS×List qbh×Bool×List qar×List qab×List qab×List qag×List SS×Bool) (fun(x23,x24,x25,x26,x27,x28,x29,x30,x31,x32,x33,x34,x35,x36,x37,x38,x39,x40,x41,x42,x43)=>[(2,.ptr 0 0),(3,.ptr 1 0)]) (fun(x23,x24,x25,x26,x27,x28,x29,x30,x31,x32,x33,x34,x35,x36,x37,x38,x39,x40,x41,x42,x43)=>[.box 55 [.p (.int .i64 (0:Int)),.p (.nilsl),.p (.nilsl),.p (.int .i64 (0:Int)),.p (.str ([]:SS)),.p (.int .i64 (0:Int)),pB false,.p (.int .i64 (0:Int)),.p (.str ([]:SS)),.p (.nilsl),.p (.nilsl),.p (.nilsl),.p (.nilsl),.p (.str ([]:SS)),.p (.nilsl),pB false,.p (.nilsl),.p (.nilsl),.p (.nilsl),.p (.nilsl),.p (.nilsl),pB false],.box 55 [pI x1,pP x23,pE x24,pI x25,pS x26,pI x27,pB x28,pI x29,pS x30,pV x31,pT x32,pT x33,pE x34,pS x35,pA x36,pB x37,pO x38,pE x39,pE x40,pU x41,pT x42,pB x43]]) (qfo n x1) (r:=r) ?_ ?_
 ·intro st h
  obtain⟨x23,x24,x25,x26,x27,x28,x29,x30,x31,x32,x33,x34,x35,x36,x37,x38,x39,x40,x41,x42,x43⟩:=st;unfold qfo at h;obtain rfl:=sj h;conv=>whnf
  try exact fin
 ·conv=>whnf
  refine ifc h (fun hc h=>?_) (fun hc h=>?_)
  ·conv=>whnf
   exact⟨(x2,x3,(0:Int),([]:SS),(0:Int),false,(0:Int),([]:SS),([]:List _),([]:List _),([]:List _),([]:List _),([]:SS),([]:List _),false,([]:List _),([]:List _),([]:List _),([]:List _),([]:List _),false),h,wk [1,2] []⟩
  ·conv=>whnf
   refine ifc h (fun hc h=>?_) (fun hc h=>?_)
   ·conv=>whnf
    exact⟨(([]:List _),([]:List _),x4,x5,x6,x7,x8,x9,x10,x11,x12,x13,x14,([]:List _),false,([]:List _),([]:List _),([]:List _),([]:List _),([]:List _),false),h,wk [1,2] []⟩
   ·conv=>whnf
    refine qje.cut (S:=Bool) (fun x44=>[(1,.ptr 0 0),(2,.ptr 1 0),(3,.ptr 2 0),(8,pI x1),(25,pB x44)]) (fun x44=>[.box 55 [pI x1,pP x2,pE x3,pI x4,pS x5,pI x6,pB x7,pI x8,pS x9,pV x10,pT x11,pT x12,pE x13,pS x14,pA x15,pB x16,pO x17,pE x18,pE x19,pU x20,pT x21,pB x22],.box 55 [.p (.int .i64 (0:Int)),.p (.nilsl),.p (.nilsl),.p (.int .i64 (0:Int)),.p (.str ([]:SS)),.p (.int .i64 (0:Int)),pB false,.p (.int .i64 (0:Int)),.p (.str ([]:SS)),.p (.nilsl),.p (.nilsl),.p (.nilsl),.p (.nilsl),.p (.str ([]:SS)),.p (.nilsl),pB false,.p (.nilsl),.p (.nilsl),.p (.nilsl),.p (.nilsl),.p (.nilsl),pB false],.box 55 [pI x1,.p (.nilsl),.p (.nilsl),.p (.int .i64 (0:Int)),.p (.str ([]:SS)),.p (.int .i64 (0:Int)),pB false,.p (.int .i64 (0:Int)),.p (.str ([]:SS)),.p (.nilsl),.p (.nilsl),.p (.nilsl),.p (.nilsl),.p (.str ([]:SS)),.p (.nilsl),pB false,.p (.nilsl),.p (.nilsl),.p (.nilsl),.p (.nilsl),.p (.nilsl),pB false]]) (qpi n x1 x3 x15 x16 x17 x18 x19 x2 x20 x21 x22) (r:=r) ?_ ?_
    ·intro x44 h
     unfold qpi at h;conv=>whnf
     refine ifc h (fun hc h=>?_) (fun hc h=>?_)
     ·conv=>whnf
      refine ifc h (fun hc h=>?_) (fun hc h=>?_)
      ·conv=>whnf
       exact⟨(([]:List _),x3,(0:Int),([]:SS),(0:Int),false,(0:Int),([]:SS),([]:List _),([]:List _),([]:List _),([]:List _),([]:SS),x15,x16,x17,x18,x19,([]:List _),([]:List _),false),h,wk [1,2] []⟩
      ·conv=>whnf
       exact⟨(([]:List _),([]:List _),(0:Int),([]:SS),(0:Int),false,(0:Int),([]:SS),([]:List _),([]:List _),([]:List _),([]:List _),([]:SS),x15,x16,x17,x18,x19,([]:List _),([]:List _),false),h,wk [1,2] []⟩
     ·conv=>whnf
      refine qje.cut (S:=Bool) (fun x45=>[(1,.ptr 0 0),(2,.ptr 1 0),(3,.ptr 2 0),(8,pI x1),(49,pB x45)]) (fun x45=>[.box 55 [pI x1,pP x2,pE x3,pI x4,pS x5,pI x6,pB x7,pI x8,pS x9,pV x10,pT x11,pT x12,pE x13,pS x14,pA x15,pB x16,pO x17,pE x18,pE x19,pU x20,pT x21,pB x22],.box 55 [.p (.int .i64 (0:Int)),.p (.nilsl),.p (.nilsl),.p (.int .i64 (0:Int)),.p (.str ([]:SS)),.p (.int .i64 (0:Int)),pB false,.p (.int .i64 (0:Int)),.p (.str ([]:SS)),.p (.nilsl),.p (.nilsl),.p (.nilsl),.p (.nilsl),.p (.str ([]:SS)),.p (.nilsl),pB false,.p (.nilsl),.p (.nilsl),.p (.nilsl),.p (.nilsl),.p (.nilsl),pB false],.box 55 [pI x1,.p (.nilsl),.p (.nilsl),.p (.int .i64 (0:Int)),.p (.str ([]:SS)),.p (.int .i64 (0:Int)),pB false,.p (.int .i64 (0:Int)),.p (.str ([]:SS)),.p (.nilsl),.p (.nilsl),.p (.nilsl),.p (.nilsl),.p (.str ([]:SS)),.p (.nilsl),pB false,.p (.nilsl),.p (.nilsl),.p (.nilsl),.p (.nilsl),.p (.nilsl),pB false]]) (qpj n x1 x2 x20 x21 x22) (r:=r) ?_ ?_
      ·intro x45 h
       unfold qpj at h;conv=>whnf
       refine ifc h (fun hc h=>?_) (fun hc h=>?_)
       ·conv=>whnf
        exact⟨(x2,([]:List _),(0:Int),([]:SS),(0:Int),false,(0:Int),([]:SS),([]:List _),([]:List _),([]:List _),([]:List _),([]:SS),([]:List _),false,([]:List _),([]:List _),([]:List _),([]:List _),([]:List _),false),h,wk [1,2] []⟩
       ·conv=>whnf
        refine qje.cut (S:=Bool) (fun x46=>[(1,.ptr 0 0),(2,.ptr 1 0),(3,.ptr 2 0),(8,pI x1),(55,pB x46)]) (fun x46=>[.box 55 [pI x1,pP x2,pE x3,pI x4,pS x5,pI x6,pB x7,pI x8,pS x9,pV x10,pT x11,pT x12,pE x13,pS x14,pA x15,pB x16,pO x17,pE x18,pE x19,pU x20,pT x21,pB x22],.box 55 [.p (.int .i64 (0:Int)),.p (.nilsl),.p (.nilsl),.p (.int .i64 (0:Int)),.p (.str ([]:SS)),.p (.int .i64 (0:Int)),pB false,.p (.int .i64 (0:Int)),.p (.str ([]:SS)),.p (.nilsl),.p (.nilsl),.p (.nilsl),.p (.nilsl),.p (.str ([]:SS)),.p (.nilsl),pB false,.p (.nilsl),.p (.nilsl),.p (.nilsl),.p (.nilsl),.p (.nilsl),pB false],.box 55 [pI x1,.p (.nilsl),.p (.nilsl),.p (.int .i64 (0:Int)),.p (.str ([]:SS)),.p (.int .i64 (0:Int)),pB false,.p (.int .i64 (0:Int)),.p (.str ([]:SS)),.p (.nilsl),.p (.nilsl),.p (.nilsl),.p (.nilsl),.p (.str ([]:SS)),.p (.nilsl),pB false,.p (.nilsl),.p (.nilsl),.p (.nilsl),.p (.nilsl),.p (.nilsl),pB false]]) (qpk n x1 x20 x21 x22) (r:=r) ?_ ?_
        ·intro x46 h
         unfold qpk at h;conv=>whnf
         refine ifc h (fun hc h=>?_) (fun hc h=>?_)
         ·conv=>whnf
          exact⟨(([]:List _),([]:List _),(0:Int),([]:SS),(0:Int),false,(0:Int),([]:SS),([]:List _),([]:List _),([]:List _),([]:List _),([]:SS),([]:List _),false,([]:List _),([]:List _),([]:List _),x20,([]:List _),false),h,wk [1,2] []⟩
         ·conv=>whnf
          refine ifc h (fun hc h=>?_) (fun hc h=>?_)
          ·conv=>whnf
           exact⟨(([]:List _),([]:List _),(0:Int),([]:SS),(0:Int),false,(0:Int),([]:SS),([]:List _),([]:List _),([]:List _),([]:List _),([]:SS),([]:List _),false,([]:List _),([]:List _),([]:List _),([]:List _),x21,x22),h,wk [1,2] []⟩
          ·conv=>whnf
           exact⟨(([]:List _),([]:List _),(0:Int),([]:SS),(0:Int),false,(0:Int),([]:SS),([]:List _),([]:List _),([]:List _),([]:List _),([]:SS),([]:List _),false,([]:List _),([]:List _),([]:List _),([]:List _),([]:List _),false),h,wk [1,2] []⟩
        ·conv=>whnf
         refine ifc h (fun hc h=>?_) (fun hc h=>?_)
         ·conv=>whnf
          exact⟨(x1==6),h,wk [0,1,2] []⟩
         ·conv=>whnf
          exact⟨(x1==7),h,wk [0,1,2] []⟩
      ·conv=>whnf
       refine ifc h (fun hc h=>?_) (fun hc h=>?_)
       ·conv=>whnf
        exact⟨(x1==4),h,wk [0,1,2] []⟩
       ·conv=>whnf
        exact⟨(x1==5),h,wk [0,1,2] []⟩
    ·conv=>whnf
     refine ifc h (fun hc h=>?_) (fun hc h=>?_)
     ·conv=>whnf
      exact⟨(x1==3),h,wk [0,1,2] []⟩
     ·conv=>whnf
      exact⟨(x1==9),h,wk [0,1,2] []⟩
abbrev q18 (r:Bool):PV:=PV.bool r
def qif (n:Nat) (x1 x2:List SS):(Int->Option (Bool))->Int->Option (Bool):=fun nx1 x3=>
 bif(decide (x3<((qam x1).length:Int)))then(
 bnd (idx x1 x3) fun x4=>
 bnd (idx x2 x3) fun x5=>
 bif(!(x4==x5))then(
 some false)
 else(
 nx1 (IntKind.i64.wrap (x3+1))))
 else(
 some true)
def qcu (n:Nat) (x1 x2:List SS):Option (Bool):=
 bif(((qam x1).length:Int) != ((qam x2).length:Int))then(
 some false)
 else(
 qap (qif n x1 x2) n (0:Int))
theorem qdh (n:Nat):∀ (x1 x2:List SS) (r:Bool),qcu n x1 x2=some r->qae Tryz.prog 13 [PV.sl (qam x1),PV.sl (qam x2)] (q18 r):=by
 intro x1 x2 r h;unfold qcu at h;refine qae.of_vcN qa3 (fun _ _=>Tryz.call13 _ _) Tryz.func13 (by kernel_rfl) (inl:=[1000000]) ?_;conv=>whnf
 refine ifc h (fun hc h=>?_) (fun hc h=>?_)
 ·obtain rfl:=sj h
  conv=>whnf
  try exact fin
 ·conv=>whnf
  refine qby.fn [1000000] (S:=Int) (fun x3=>[(0,pT x1),(1,pT x2),(5,pI x3)]) (fun x3=>[]) (B:=qif n x1 x2) h (wk [] []) ?_;intro nx1 x3 h;unfold qif at h;conv=>whnf
  refine ifc h (fun hc h=>?_) (fun hc h=>?_)
  ·conv=>whnf
   replace h:=qaa h;obtain⟨x4,h2,h⟩:=h;refine⟨_,Codec.at_ qqt h2,?_⟩;conv=>whnf
   replace h:=qaa h;obtain⟨x5,h1,h⟩:=h;refine⟨_,Codec.at_ qqt h1,?_⟩;conv=>whnf
   refine ifc h (fun hc h=>?_) (fun hc h=>?_)
   ·obtain rfl:=sj h
    conv=>whnf
    try exact fin
   ·conv=>whnf
    exact⟨(IntKind.i64.wrap (x3+1)),h,wk [] []⟩
  ·obtain rfl:=sj h
   conv=>whnf
   try exact fin
abbrev qrw (r:Bool):PV:=PV.bool r
abbrev zo2:Type:=Val->Val->Option (Bool)
abbrev zqg:Type:=(List Val)->(List Val)->Option (Bool)
def qu0 (n:Nat) (g124:zo2) (g129:zqg) (a0z a1z:Val):Option (Bool):=
 match a0z,a1z with
 | ⟨x1,x2,x3,x4,x5,x6⟩,⟨x7,x8,x9,x10,x11,x12⟩=>
 bnd (qa5 (bif(bif(bif(x1==x7)then(x2==x8)else false)then(x3==x9)else false)then(x4==x10)else false) (qcu n x6 x12)) fun x13=>
 bnd (qa5 (bif(bif(bif(bif(x1==x7)then(x2==x8)else false)then(x3==x9)else false)then(x4==x10)else false)then x13 else false) (g129 x5 x11)) fun x14=>
 some (bif(bif(bif(bif(bif(x1==x7)then(x2==x8)else false)then(x3==x9)else false)then(x4==x10)else false)then x13 else false)then x14 else false)
abbrev qo4 (r:Bool):PV:=PV.bool r
def qjm (n:Nat) (x1 x2:List Val) (g124:zo2):(Int->Option (Bool))->Int->Option (Bool):=fun nx1 x3=>
 bif(decide (x3<((Val.rows x1).length:Int)))then(
 bnd (idx x1 x3) fun⟨x4,x5,x6,x7,x8,x9⟩=>
 bnd (idx x2 x3) fun⟨x10,x11,x12,x13,x14,x15⟩=>
 bnd (g124 (Val.mk x4 x5 x6 x7 x8 x9) (Val.mk x10 x11 x12 x13 x14 x15)) fun x16=>
 bif(!x16)then(
 some false)
 else(
 nx1 (IntKind.i64.wrap (x3+1))))
 else(
 some true)
def qp1 (n:Nat) (g124:zo2) (g129:zqg) (x1 x2:List Val):Option (Bool):=
 bif(((Val.rows x1).length:Int) != ((Val.rows x2).length:Int))then(
 some false)
 else(
 qap (qjm n x1 x2 g124) n (0:Int))
theorem q62 (n:Nat) (g124:zo2) (g129:zqg) (g124_ok:∀ (a0z a1z:Val) (r:Bool),g124 a0z a1z=some r->qae Tryz.prog 124 [PV.agg (qtz.cells a0z),PV.agg (qtz.cells a1z)] (qrw r)) (g129_ok:∀ (x1 x2:List Val) (r:Bool),g129 x1 x2=some r->qae Tryz.prog 129 [PV.sl (Val.rows x1),PV.sl (Val.rows x2)] (qo4 r)):∀ (a0z a1z:Val) (r:Bool),qu0 n g124 g129 a0z a1z=some r->qae Tryz.prog 124 [PV.agg (qtz.cells a0z),PV.agg (qtz.cells a1z)] (qrw r):=by
 intro a0z a1z r h;obtain⟨x1,x2,x3,x4,x5,x6⟩:=a0z;obtain⟨x7,x8,x9,x10,x11,x12⟩:=a1z;unfold qu0 at h;refine qae.of_vcN qa3 (fun _ _=>Tryz.call124 _ _) Tryz.func124 (by kernel_rfl) (inl:=[1000000]) ?_;conv=>whnf
 refine⟨id,id,id,id,id,id,id,id,id,id,id,id,id,id,id,id,id,id,id,?_⟩;conv=>whnf
 replace h:=qaa h;obtain⟨x13,h2,h⟩:=h;refine⟨_,fun hg=>(qdh n _ _ _ (qah h2 hg)),?_⟩;conv=>whnf
 refine⟨id,id,id,id,id,?_⟩;conv=>whnf
 replace h:=qaa h;obtain⟨x14,h1,h⟩:=h;refine⟨_,fun hg=>(g129_ok _ _ _ (qah h1 hg)),?_⟩;conv=>whnf
 refine⟨id,?_⟩;obtain rfl:=sj h;conv=>whnf
 try exact fin
theorem q0f (n:Nat) (g124:zo2) (g129:zqg) (g124_ok:∀ (a0z a1z:Val) (r:Bool),g124 a0z a1z=some r->qae Tryz.prog 124 [PV.agg (qtz.cells a0z),PV.agg (qtz.cells a1z)] (qrw r)) (g129_ok:∀ (x1 x2:List Val) (r:Bool),g129 x1 x2=some r->qae Tryz.prog 129 [PV.sl (Val.rows x1),PV.sl (Val.rows x2)] (qo4 r)):∀ (x1 x2:List Val) (r:Bool),qp1 n g124 g129 x1 x2=some r->qae Tryz.prog 129 [PV.sl (Val.rows x1),PV.sl (Val.rows x2)] (qo4 r):=by
 intro x1 x2 r h;unfold qp1 at h;refine qae.of_vcN qa3 (fun _ _=>Tryz.call129 _ _) Tryz.func129 (by kernel_rfl) (inl:=[1000000]) ?_;conv=>whnf
 refine ifc h (fun hc h=>?_) (fun hc h=>?_)
 ·obtain rfl:=sj h
  conv=>whnf
  try exact fin
 ·conv=>whnf
  refine qby.fn [1000000] (S:=Int) (fun x3=>[(0,pV x1),(1,pV x2),(5,pI x3)]) (fun x3=>[]) (B:=qjm n x1 x2 g124) h (wk [] []) ?_;intro nx1 x3 h;unfold qjm at h;conv=>whnf
  refine ifc h (fun hc h=>?_) (fun hc h=>?_)
  ·conv=>whnf
   replace h:=qaa h;obtain⟨⟨x4,x5,x6,x7,x8,x9⟩,h3,h⟩:=h;refine⟨_,Codec.at_ qtz h3,?_⟩;conv=>whnf
   replace h:=qaa h;obtain⟨⟨x10,x11,x12,x13,x14,x15⟩,h2,h⟩:=h;refine⟨_,Codec.at_ qtz h2,?_⟩;conv=>whnf
   replace h:=qaa h;obtain⟨x16,h1,h⟩:=h;refine⟨_,(g124_ok _ _ _ h1),?_⟩;conv=>whnf
   refine ifc h (fun hc h=>?_) (fun hc h=>?_)
   ·obtain rfl:=sj h
    conv=>whnf
    try exact fin
   ·conv=>whnf
    exact⟨(IntKind.i64.wrap (x3+1)),h,wk [] []⟩
  ·obtain rfl:=sj h
   conv=>whnf
   try exact fin
mutual
def qjl:Nat->Val->Val->Option (Bool)
 | 0=>fun _ _=>none
 | n+1=>qu0 n (qjl n) (qi5 n)
def qi5:Nat->(List Val)->(List Val)->Option (Bool)
 | 0=>fun _ _=>none
 | n+1=>qp1 n (qjl n) (qi5 n)
end
theorem q67 (n:Nat):(∀ (a0z a1z:Val) (r:Bool),qjl n a0z a1z=some r->qae Tryz.prog 124 [PV.agg (qtz.cells a0z),PV.agg (qtz.cells a1z)] (qrw r))/\(∀ (x1 x2:List Val) (r:Bool),qi5 n x1 x2=some r->qae Tryz.prog 129 [PV.sl (Val.rows x1),PV.sl (Val.rows x2)] (qo4 r)):=by
 induction n with
 | zero=>exact⟨(by intros; rename_i h; cases h),(by intros; rename_i h; cases h)⟩
 | succ n ih=>
  obtain⟨hg124,hg129⟩:=ih;exact⟨q62 n (qjl n) (qi5 n) hg124 hg129,q0f n (qjl n) (qi5 n) hg124 hg129⟩
theorem qu3 (n:Nat):∀ (a0z a1z:Val) (r:Bool),qjl n a0z a1z=some r->qae Tryz.prog 124 [PV.agg (qtz.cells a0z),PV.agg (qtz.cells a1z)] (qrw r):=(q67 n).1
abbrev qkg (r:Bool):PV:=PV.bool r
abbrev zo3:Type:=qab->qab->Option (Bool)
def qih (n:Nat) (x1 x2:List qab) (g100:zo3):(Int->Option (Bool))->Int->Option (Bool):=fun nx1 x3=>
 bif(decide (x3<((qab.rows x1).length:Int)))then(
 bnd (idx x1 x3) fun⟨x4,x5,⟨x6,x7,x8,x9,x10,x11⟩,x12,x13⟩=>
 bnd (idx x2 x3) fun⟨x14,x15,⟨x16,x17,x18,x19,x20,x21⟩,x22,x23⟩=>
 bnd (g100 (qab.mk x4 x5 (Val.mk x6 x7 x8 x9 x10 x11) x12 x13) (qab.mk x14 x15 (Val.mk x16 x17 x18 x19 x20 x21) x22 x23)) fun x24=>
 bif(!x24)then(
 some false)
 else(
 nx1 (IntKind.i64.wrap (x3+1))))
 else(
 some true)
abbrev zqh:Type:=(List qab)->(List qab)->Option (Bool)
def qos (n:Nat) (g99:zqh) (g100:zo3) (x1 x2:List qab):Option (Bool):=
 bif(((qab.rows x1).length:Int) != ((qab.rows x2).length:Int))then(
 some false)
 else(
 qap (qih n x1 x2 g100) n (0:Int))
abbrev qld (r:Bool):PV:=PV.bool r
def qp2 (n:Nat) (g99:zqh) (g100:zo3) (a0z a1z:qab):Option (Bool):=
 match a0z,a1z with
 | ⟨x1,x2,⟨x3,x4,x5,x6,x7,x8⟩,x9,x10⟩,⟨x11,x12,⟨x13,x14,x15,x16,x17,x18⟩,x19,x20⟩=>
 bnd (qa5 (bif(x1==x11)then(x2==x12)else false) (qjl n (Val.mk x3 x4 x5 x6 x7 x8) (Val.mk x13 x14 x15 x16 x17 x18))) fun x21=>
 bnd (qa5 (bif(bif(x1==x11)then(x2==x12)else false)then x21 else false) (qcu n x9 x19)) fun x22=>
 bnd (qa5 (bif(bif(bif(x1==x11)then(x2==x12)else false)then x21 else false)then x22 else false) (g99 x10 x20)) fun x23=>
 some (bif(bif(bif(bif(x1==x11)then(x2==x12)else false)then x21 else false)then x22 else false)then x23 else false)
theorem qza (n:Nat) (g99:zqh) (g100:zo3) (g99_ok:∀ (x1 x2:List qab) (r:Bool),g99 x1 x2=some r->qae Tryz.prog 99 [PV.sl (qab.rows x1),PV.sl (qab.rows x2)] (qkg r)) (g100_ok:∀ (a0z a1z:qab) (r:Bool),g100 a0z a1z=some r->qae Tryz.prog 100 [PV.agg (qca.cells a0z),PV.agg (qca.cells a1z)] (qld r)):∀ (x1 x2:List qab) (r:Bool),qos n g99 g100 x1 x2=some r->qae Tryz.prog 99 [PV.sl (qab.rows x1),PV.sl (qab.rows x2)] (qkg r):=by
 intro x1 x2 r h;unfold qos at h;refine qae.of_vcN qa3 (fun _ _=>Tryz.call99 _ _) Tryz.func99 (by kernel_rfl) (inl:=[1000000]) ?_;conv=>whnf
 refine ifc h (fun hc h=>?_) (fun hc h=>?_)
 ·obtain rfl:=sj h
  conv=>whnf
  try exact fin
 ·conv=>whnf
  refine qby.fn [1000000] (S:=Int) (fun x3=>[(0,pE x1),(1,pE x2),(5,pI x3)]) (fun x3=>[]) (B:=qih n x1 x2 g100) h (wk [] []) ?_;intro nx1 x3 h;unfold qih at h;conv=>whnf
  refine ifc h (fun hc h=>?_) (fun hc h=>?_)
  ·conv=>whnf
   replace h:=qaa h;obtain⟨⟨x4,x5,⟨x6,x7,x8,x9,x10,x11⟩,x12,x13⟩,h3,h⟩:=h;refine⟨_,Codec.at_ qca h3,?_⟩;conv=>whnf
   replace h:=qaa h;obtain⟨⟨x14,x15,⟨x16,x17,x18,x19,x20,x21⟩,x22,x23⟩,h2,h⟩:=h;refine⟨_,Codec.at_ qca h2,?_⟩;conv=>whnf
   replace h:=qaa h;obtain⟨x24,h1,h⟩:=h;refine⟨_,(g100_ok _ _ _ h1),?_⟩;conv=>whnf
   refine ifc h (fun hc h=>?_) (fun hc h=>?_)
   ·obtain rfl:=sj h
    conv=>whnf
    try exact fin
   ·conv=>whnf
    exact⟨(IntKind.i64.wrap (x3+1)),h,wk [] []⟩
  ·obtain rfl:=sj h
   conv=>whnf
   try exact fin
theorem q0g (n:Nat) (g99:zqh) (g100:zo3) (g99_ok:∀ (x1 x2:List qab) (r:Bool),g99 x1 x2=some r->qae Tryz.prog 99 [PV.sl (qab.rows x1),PV.sl (qab.rows x2)] (qkg r)) (g100_ok:∀ (a0z a1z:qab) (r:Bool),g100 a0z a1z=some r->qae Tryz.prog 100 [PV.agg (qca.cells a0z),PV.agg (qca.cells a1z)] (qld r)):∀ (a0z a1z:qab) (r:Bool),qp2 n g99 g100 a0z a1z=some r->qae Tryz.prog 100 [PV.agg (qca.cells a0z),PV.agg (qca.cells a1z)] (qld r):=by
 intro a0z a1z r h;obtain⟨x1,x2,⟨x3,x4,x5,x6,x7,x8⟩,x9,x10⟩:=a0z;obtain⟨x11,x12,⟨x13,x14,x15,x16,x17,x18⟩,x19,x20⟩:=a1z;unfold qp2 at h;refine qae.of_vcN qa3 (fun _ _=>Tryz.call100 _ _) Tryz.func100 (by kernel_rfl) (inl:=[1000000]) ?_;conv=>whnf
 refine⟨id,id,id,id,id,id,id,id,id,?_⟩;conv=>whnf
 replace h:=qaa h;obtain⟨x21,h3,h⟩:=h;refine⟨_,fun hg=>(qu3 n _ _ _ (qah h3 hg)),?_⟩;conv=>whnf
 refine⟨id,id,id,id,id,?_⟩;conv=>whnf
 replace h:=qaa h;obtain⟨x22,h2,h⟩:=h;refine⟨_,fun hg=>(qdh n _ _ _ (qah h2 hg)),?_⟩;conv=>whnf
 refine⟨id,id,id,id,id,?_⟩;conv=>whnf
 replace h:=qaa h;obtain⟨x23,h1,h⟩:=h;refine⟨_,fun hg=>(g99_ok _ _ _ (qah h1 hg)),?_⟩;conv=>whnf
 refine⟨id,?_⟩;obtain rfl:=sj h;conv=>whnf
 try exact fin
mutual
def qde:Nat->(List qab)->(List qab)->Option (Bool)
 | 0=>fun _ _=>none
 | n+1=>qos n (qde n) (qeh n)
def qeh:Nat->qab->qab->Option (Bool)
 | 0=>fun _ _=>none
 | n+1=>qp2 n (qde n) (qeh n)
end
theorem qs2 (n:Nat):(∀ (x1 x2:List qab) (r:Bool),qde n x1 x2=some r->qae Tryz.prog 99 [PV.sl (qab.rows x1),PV.sl (qab.rows x2)] (qkg r))/\(∀ (a0z a1z:qab) (r:Bool),qeh n a0z a1z=some r->qae Tryz.prog 100 [PV.agg (qca.cells a0z),PV.agg (qca.cells a1z)] (qld r)):=by
 induction n with
 | zero=>exact⟨(by intros; rename_i h; cases h),(by intros; rename_i h; cases h)⟩
 | succ n ih=>
  obtain⟨hg99,hg100⟩:=ih;exact⟨qza n (qde n) (qeh n) hg99 hg100,q0g n (qde n) (qeh n) hg99 hg100⟩
theorem qii (n:Nat):∀ (x1 x2:List qab) (r:Bool),qde n x1 x2=some r->qae Tryz.prog 99 [PV.sl (qab.rows x1),PV.sl (qab.rows x2)] (qkg r):=(qs2 n).1
theorem qnk (n:Nat):∀ (a0z a1z:qab) (r:Bool),qeh n a0z a1z=some r->qae Tryz.prog 100 [PV.agg (qca.cells a0z),PV.agg (qca.cells a1z)] (qld r):=(qs2 n).2
abbrev q37 (r:Bool):PV:=PV.bool r
def qhm (n:Nat) (x2 x4:List qai):(Int->Option (Bool))->Int->Option (Bool):=fun nx2 x17=>
 bif(decide (x17<((qai.rows x2).length:Int)))then(
 bnd (idx x2 x17) fun⟨x18,x19,x20,x21,x22⟩=>
 bnd (idx x4 x17) fun⟨x23,x24,x25,x26,x27⟩=>
 bnd (qa5 (!(bif(bif(!(x18==x23))then true else(!(x19==x24)))then true else(x20 != x25))) (qcu n x21 x26)) fun x28=>
 bnd (qa5 (!(bif(bif(bif(!(x18==x23))then true else(!(x19==x24)))then true else(x20 != x25))then true else(!x28))) (qde n x22 x27)) fun x29=>
 bif(bif(bif(bif(bif(!(x18==x23))then true else(!(x19==x24)))then true else(x20 != x25))then true else(!x28))then true else(!x29))then(
 some false)
 else(
 nx2 (IntKind.i64.wrap (x17+1))))
 else(
 some true)
def qjr (n:Nat) (x1 x3:List qaf) (x2 x4:List qai):(Int->Option (Bool))->Int->Option (Bool):=fun nx1 x5=>
 bif(decide (x5<((qaf.rows x1).length:Int)))then(
 bnd (idx x1 x5) fun⟨x6,x7,x8,x9⟩=>
 bnd (idx x3 x5) fun⟨x10,x11,x12,x13⟩=>
 bnd (qa5 (!(!(x6==x10))) (qcu n x7 x11)) fun x14=>
 bnd (qa5 (!(bif(!(x6==x10))then true else(!x14))) (qcu n x8 x12)) fun x15=>
 bnd (qa5 (!(bif(bif(!(x6==x10))then true else(!x14))then true else(!x15))) (qde n x9 x13)) fun x16=>
 bif(bif(bif(bif(!(x6==x10))then true else(!x14))then true else(!x15))then true else(!x16))then(
 some false)
 else(
 nx1 (IntKind.i64.wrap (x5+1))))
 else(
 qap (qhm n x2 x4) n (0:Int))
def qoj (n:Nat) (a0z a1z:qa9):Option (Bool):=
 match a0z,a1z with
 | ⟨x1,x2⟩,⟨x3,x4⟩=>
 bif(bif(((qaf.rows x1).length:Int) != ((qaf.rows x3).length:Int))then true else(((qai.rows x2).length:Int) != ((qai.rows x4).length:Int)))then(
 some false)
 else(
 qap (qjr n x1 x3 x2 x4) n (0:Int))
set_option maxHeartbeats 4000000 in
theorem q1x (n:Nat):∀ (a0z a1z:qa9) (r:Bool),qoj n a0z a1z=some r->qae Tryz.prog 101 [PV.agg (qoa.cells a0z),PV.agg (qoa.cells a1z)] (q37 r):=by
 intro a0z a1z r h;obtain⟨x1,x2⟩:=a0z;obtain⟨x3,x4⟩:=a1z;unfold qoj at h;refine qae.of_vcN qa3 (fun _ _=>Tryz.call101 _ _) Tryz.func101 (by kernel_rfl) (inl:=[1000000]) ?_;conv=>whnf
 refine⟨id,id,id,id,id,id,id,?_⟩;conv=>whnf
 refine ifc h (fun hc h=>?_) (fun hc h=>?_)
 ·obtain rfl:=sj h
  conv=>whnf
  try exact fin
 ·conv=>whnf
  refine qby.fn [1000000] (S:=Int) (fun x5=>[(2,.ptr 0 0),(3,.ptr 1 0),(5,pI x5)]) (fun x5=>[.box 61 [pN x1,pG x2],.box 61 [pN x3,pG x4]]) (B:=qjr n x1 x3 x2 x4) h (wk [0,1] []) ?_;intro nx1 x5 h;unfold qjr at h;conv=>whnf
  refine ifc h (fun hc h=>?_) (fun hc h=>?_)
  ·conv=>whnf
   replace h:=qaa h;obtain⟨⟨x6,x7,x8,x9⟩,h5,h⟩:=h;refine⟨_,Codec.at_ qeq h5,?_⟩;conv=>whnf
   replace h:=qaa h;obtain⟨⟨x10,x11,x12,x13⟩,h4,h⟩:=h;refine⟨_,Codec.at_ qeq h4,?_⟩;conv=>whnf
   refine⟨id,id,id,id,?_⟩;conv=>whnf
   replace h:=qaa h;obtain⟨x14,h3,h⟩:=h;refine⟨_,fun hg=>(qdh n _ _ _ (qah h3 hg)),?_⟩;conv=>whnf
   refine⟨id,id,id,id,id,id,?_⟩;conv=>whnf
   replace h:=qaa h;obtain⟨x15,h2,h⟩:=h;refine⟨_,fun hg=>(qdh n _ _ _ (qah h2 hg)),?_⟩;conv=>whnf
   refine⟨id,id,id,id,id,id,?_⟩;conv=>whnf
   replace h:=qaa h;obtain⟨x16,h1,h⟩:=h;refine⟨_,fun hg=>(qii n _ _ _ (qah h1 hg)),?_⟩;conv=>whnf
   refine⟨id,id,?_⟩;conv=>whnf
   refine ifc h (fun hc h=>?_) (fun hc h=>?_)
   ·obtain rfl:=sj h
    conv=>whnf
    try exact fin
   ·conv=>whnf
    exact⟨(IntKind.i64.wrap (x5+1)),h,wk [0,1] []⟩
  ·conv=>whnf
   refine qby.fn [1000000] (S:=Int) (fun x17=>[(2,.ptr 0 0),(3,.ptr 1 0),(8,pI x17)]) (fun x17=>[.box 61 [pN x1,pG x2],.box 61 [pN x3,pG x4]]) (B:=qhm n x2 x4) h (wk [0,1] []) ?_;intro nx2 x17 h;unfold qhm at h;conv=>whnf
   refine ifc h (fun hc h=>?_) (fun hc h=>?_)
   ·conv=>whnf
    replace h:=qaa h;obtain⟨⟨x18,x19,x20,x21,x22⟩,h9,h⟩:=h;refine⟨_,Codec.at_ qgn h9,?_⟩;conv=>whnf
    replace h:=qaa h;obtain⟨⟨x23,x24,x25,x26,x27⟩,h8,h⟩:=h;refine⟨_,Codec.at_ qgn h8,?_⟩;conv=>whnf
    refine⟨id,id,id,id,id,id,id,id,id,id,id,id,id,id,?_⟩;conv=>whnf
    replace h:=qaa h;obtain⟨x28,h7,h⟩:=h;refine⟨_,fun hg=>(qdh n _ _ _ (qah h7 hg)),?_⟩;conv=>whnf
    refine⟨id,id,id,id,id,id,?_⟩;conv=>whnf
    replace h:=qaa h;obtain⟨x29,h6,h⟩:=h;refine⟨_,fun hg=>(qii n _ _ _ (qah h6 hg)),?_⟩;conv=>whnf
    refine⟨id,id,?_⟩;conv=>whnf
    refine ifc h (fun hc h=>?_) (fun hc h=>?_)
    ·obtain rfl:=sj h
     conv=>whnf
     try exact fin
    ·conv=>whnf
     exact⟨(IntKind.i64.wrap (x17+1)),h,wk [0,1] []⟩
   ·obtain rfl:=sj h
    conv=>whnf
    try exact fin
abbrev q0t (r:Bool):PV:=PV.bool r
def qe0 (n:Nat) (x20 x42:List qag):(Int->Option (Bool))->Int->Option (Bool):=fun nx4 x148=>
 bif(decide (x148<((qag.rows x20).length:Int)))then(
 bnd (idx x20 x148) fun⟨x149,x150,x151,⟨x152,x153,⟨x154,x155,x156,x157,x158,x159⟩,x160,x161⟩⟩=>
 bnd (idx x42 x148) fun⟨x162,x163,x164,⟨x165,x166,⟨x167,x168,x169,x170,x171,x172⟩,x173,x174⟩⟩=>
 bnd (qa5 (!(bif(bif(!(x149==x162))then true else(!(x150==x163)))then true else(!(x151==x164)))) (qeh n (qab.mk x152 x153 (Val.mk x154 x155 x156 x157 x158 x159) x160 x161) (qab.mk x165 x166 (Val.mk x167 x168 x169 x170 x171 x172) x173 x174))) fun x175=>
 bif(bif(bif(bif(!(x149==x162))then true else(!(x150==x163)))then true else(!(x151==x164)))then true else(!x175))then(
 some false)
 else(
 nx4 (IntKind.i64.wrap (x148+1))))
 else(
 some true)
def qez (n:Nat) (x17 x39:List qar) (x20 x42:List qag):(Int->Option (Bool))->Int->Option (Bool):=fun nx3 x102=>
 bif(decide (x102<((qar.rows x17).length:Int)))then(
 bnd (idx x17 x102) fun⟨⟨x103,x104,⟨x105,x106,x107,x108,x109,x110⟩,x111,x112⟩,x113⟩=>
 bnd (idx x39 x102) fun⟨⟨x114,x115,⟨x116,x117,x118,x119,x120,x121⟩,x122,x123⟩,x124⟩=>
 bnd (qa5 (!(!(x113==x124))) (idx x17 x102)) fun⟨⟨x125,x126,⟨x127,x128,x129,x130,x131,x132⟩,x133,x134⟩,x135⟩=>
 bnd (qa5 (!(!(x113==x124))) (idx x39 x102)) fun⟨⟨x136,x137,⟨x138,x139,x140,x141,x142,x143⟩,x144,x145⟩,x146⟩=>
 bnd (qa5 (!(!(x113==x124))) (qeh n (qab.mk x125 x126 (Val.mk x127 x128 x129 x130 x131 x132) x133 x134) (qab.mk x136 x137 (Val.mk x138 x139 x140 x141 x142 x143) x144 x145))) fun x147=>
 bif(bif(!(x113==x124))then true else(!x147))then(
 some false)
 else(
 nx3 (IntKind.i64.wrap (x102+1))))
 else(
 qap (qe0 n x20 x42) n (0:Int))
def qey (n:Nat) (x15 x37:List qbh) (x17 x39:List qar) (x20 x42:List qag):(Int->Option (Bool))->Int->Option (Bool):=fun nx2 x56=>
 bif(decide (x56<((qbh.rows x15).length:Int)))then(
 bnd (idx x15 x56) fun⟨⟨x57,x58,⟨x59,x60,x61,x62,x63,x64⟩,x65,x66⟩,x67⟩=>
 bnd (idx x37 x56) fun⟨⟨x68,x69,⟨x70,x71,x72,x73,x74,x75⟩,x76,x77⟩,x78⟩=>
 bnd (qa5 (!(!(x67==x78))) (idx x15 x56)) fun⟨⟨x79,x80,⟨x81,x82,x83,x84,x85,x86⟩,x87,x88⟩,x89⟩=>
 bnd (qa5 (!(!(x67==x78))) (idx x37 x56)) fun⟨⟨x90,x91,⟨x92,x93,x94,x95,x96,x97⟩,x98,x99⟩,x100⟩=>
 bnd (qa5 (!(!(x67==x78))) (qeh n (qab.mk x79 x80 (Val.mk x81 x82 x83 x84 x85 x86) x87 x88) (qab.mk x90 x91 (Val.mk x92 x93 x94 x95 x96 x97) x98 x99))) fun x101=>
 bif(bif(!(x67==x78))then true else(!x101))then(
 some false)
 else(
 nx2 (IntKind.i64.wrap (x56+1))))
 else(
 qap (qez n x17 x39 x20 x42) n (0:Int))
def qf2 (n:Nat) (x2 x24:List qa9) (x15 x37:List qbh) (x17 x39:List qar) (x20 x42:List qag):(Int->Option (Bool))->Int->Option (Bool):=fun nx1 x50=>
 bif(decide (x50<((qa9.rows x2).length:Int)))then(
 bnd (idx x2 x50) fun⟨x51,x52⟩=>
 bnd (idx x24 x50) fun⟨x53,x54⟩=>
 bnd (qoj n (qa9.mk x51 x52) (qa9.mk x53 x54)) fun x55=>
 bif(!x55)then(
 some false)
 else(
 nx1 (IntKind.i64.wrap (x50+1))))
 else(
 qap (qey n x15 x37 x17 x39 x20 x42) n (0:Int))
def qgr (n:Nat) (a0z a1z:qad):Option (Bool):=
 match a0z,a1z with
 | ⟨x1,x2,x3,⟨x4,x5,⟨x6,x7,x8,x9,x10,x11⟩,x12,x13⟩,x14,x15,x16,x17,x18,x19,x20,x21,x22⟩,⟨x23,x24,x25,⟨x26,x27,⟨x28,x29,x30,x31,x32,x33⟩,x34,x35⟩,x36,x37,x38,x39,x40,x41,x42,x43,x44⟩=>
 bnd (qa5 (!(bif(x1 != x23)then true else(((qa9.rows x2).length:Int) != ((qa9.rows x24).length:Int)))) (qde n x3 x25)) fun x45=>
 bnd (qa5 (!(bif(bif(x1 != x23)then true else(((qa9.rows x2).length:Int) != ((qa9.rows x24).length:Int)))then true else(!x45))) (qeh n (qab.mk x4 x5 (Val.mk x6 x7 x8 x9 x10 x11) x12 x13) (qab.mk x26 x27 (Val.mk x28 x29 x30 x31 x32 x33) x34 x35))) fun x46=>
 bnd (qa5 (!(bif(bif(bif(bif(bif(bif(bif(x1 != x23)then true else(((qa9.rows x2).length:Int) != ((qa9.rows x24).length:Int)))then true else(!x45))then true else(!x46))then true else(!(x14==x36)))then true else(((qbh.rows x15).length:Int) != ((qbh.rows x37).length:Int)))then true else(!(x16==x38)))then true else(((qar.rows x17).length:Int) != ((qar.rows x39).length:Int)))) (qde n x18 x40)) fun x47=>
 bnd (qa5 (!(bif(bif(bif(bif(bif(bif(bif(bif(x1 != x23)then true else(((qa9.rows x2).length:Int) != ((qa9.rows x24).length:Int)))then true else(!x45))then true else(!x46))then true else(!(x14==x36)))then true else(((qbh.rows x15).length:Int) != ((qbh.rows x37).length:Int)))then true else(!(x16==x38)))then true else(((qar.rows x17).length:Int) != ((qar.rows x39).length:Int)))then true else(!x47))) (qde n x19 x41)) fun x48=>
 bnd (qa5 (!(bif(bif(bif(bif(bif(bif(bif(bif(bif(bif(x1 != x23)then true else(((qa9.rows x2).length:Int) != ((qa9.rows x24).length:Int)))then true else(!x45))then true else(!x46))then true else(!(x14==x36)))then true else(((qbh.rows x15).length:Int) != ((qbh.rows x37).length:Int)))then true else(!(x16==x38)))then true else(((qar.rows x17).length:Int) != ((qar.rows x39).length:Int)))then true else(!x47))then true else(!x48))then true else(((qag.rows x20).length:Int) != ((qag.rows x42).length:Int)))) (qcu n x21 x43)) fun x49=>
 bif(bif(bif(bif(bif(bif(bif(bif(bif(bif(bif(bif(bif(x1 != x23)then true else(((qa9.rows x2).length:Int) != ((qa9.rows x24).length:Int)))then true else(!x45))then true else(!x46))then true else(!(x14==x36)))then true else(((qbh.rows x15).length:Int) != ((qbh.rows x37).length:Int)))then true else(!(x16==x38)))then true else(((qar.rows x17).length:Int) != ((qar.rows x39).length:Int)))then true else(!x47))then true else(!x48))then true else(((qag.rows x20).length:Int) != ((qag.rows x42).length:Int)))then true else(!x49))then true else(!(x22==x44)))then(
 some false)
 else(
 qap (qf2 n x2 x24 x15 x37 x17 x39 x20 x42) n (0:Int))
set_option maxHeartbeats 4000000 in
theorem qzf (n:Nat):∀ (a0z a1z:qad) (r:Bool),qgr n a0z a1z=some r->qae Tryz.prog 58 [PV.agg (qcw.cells a0z),PV.agg (qcw.cells a1z)] (q0t r):=by
 intro a0z a1z r h;obtain⟨x1,x2,x3,⟨x4,x5,⟨x6,x7,x8,x9,x10,x11⟩,x12,x13⟩,x14,x15,x16,x17,x18,x19,x20,x21,x22⟩:=a0z;obtain⟨x23,x24,x25,⟨x26,x27,⟨x28,x29,x30,x31,x32,x33⟩,x34,x35⟩,x36,x37,x38,x39,x40,x41,x42,x43,x44⟩:=a1z;unfold qgr at h;refine qae.of_vcN qa3 (fun _ _=>Tryz.call58 _ _) Tryz.func58 (by kernel_rfl) (inl:=[1000000]) ?_;conv=>whnf
 refine⟨id,id,id,id,id,id,id,id,id,id,id,?_⟩;conv=>whnf
 replace h:=qaa h;obtain⟨x45,h21,h⟩:=h;refine⟨_,fun hg=>(qii n _ _ _ (qah h21 hg)),?_⟩;conv=>whnf
 refine⟨id,id,id,id,id,id,?_⟩;conv=>whnf
 replace h:=qaa h;obtain⟨x46,h20,h⟩:=h;refine⟨_,fun hg=>(qnk n _ _ _ (qah h20 hg)),?_⟩;conv=>whnf
 refine⟨id,id,id,id,id,id,id,id,id,id,id,id,id,id,id,id,id,id,id,id,id,id,id,id,id,id,id,id,id,id,?_⟩;conv=>whnf
 replace h:=qaa h;obtain⟨x47,h19,h⟩:=h;refine⟨_,fun hg=>(qii n _ _ _ (qah h19 hg)),?_⟩;conv=>whnf
 refine⟨id,id,id,id,id,id,?_⟩;conv=>whnf
 replace h:=qaa h;obtain⟨x48,h18,h⟩:=h;refine⟨_,fun hg=>(qii n _ _ _ (qah h18 hg)),?_⟩;conv=>whnf
 refine⟨id,id,id,id,id,id,id,id,id,id,id,id,id,?_⟩;conv=>whnf
 replace h:=qaa h;obtain⟨x49,h17,h⟩:=h;refine⟨_,fun hg=>(qdh n _ _ _ (qah h17 hg)),?_⟩;conv=>whnf
 refine⟨id,id,id,id,id,id,id,?_⟩;conv=>whnf
 refine ifc h (fun hc h=>?_) (fun hc h=>?_)
 ·obtain rfl:=sj h
  conv=>whnf
  try exact fin
 ·conv=>whnf
  refine qby.fn [1000000] (S:=Int) (fun x50=>[(2,.ptr 0 0),(3,.ptr 1 0),(5,pI x50)]) (fun x50=>[.box 55 [pI x1,pP x2,pE x3,pI x4,pS x5,pI x6,pB x7,pI x8,pS x9,pV x10,pT x11,pT x12,pE x13,pS x14,pA x15,pB x16,pO x17,pE x18,pE x19,pU x20,pT x21,pB x22],.box 55 [pI x23,pP x24,pE x25,pI x26,pS x27,pI x28,pB x29,pI x30,pS x31,pV x32,pT x33,pT x34,pE x35,pS x36,pA x37,pB x38,pO x39,pE x40,pE x41,pU x42,pT x43,pB x44]]) (B:=qf2 n x2 x24 x15 x37 x17 x39 x20 x42) h (wk [0,1] []) ?_;intro nx1 x50 h;unfold qf2 at h;conv=>whnf
  refine ifc h (fun hc h=>?_) (fun hc h=>?_)
  ·conv=>whnf
   replace h:=qaa h;obtain⟨⟨x51,x52⟩,h3,h⟩:=h;refine⟨_,Codec.at_ qoa h3,?_⟩;conv=>whnf
   replace h:=qaa h;obtain⟨⟨x53,x54⟩,h2,h⟩:=h;refine⟨_,Codec.at_ qoa h2,?_⟩;conv=>whnf
   replace h:=qaa h;obtain⟨x55,h1,h⟩:=h;refine⟨_,(q1x n _ _ _ h1),?_⟩;conv=>whnf
   refine ifc h (fun hc h=>?_) (fun hc h=>?_)
   ·obtain rfl:=sj h
    conv=>whnf
    try exact fin
   ·conv=>whnf
    exact⟨(IntKind.i64.wrap (x50+1)),h,wk [0,1] []⟩
  ·conv=>whnf
   refine qby.fn [1000000] (S:=Int) (fun x56=>[(2,.ptr 0 0),(3,.ptr 1 0),(6,pI x56)]) (fun x56=>[.box 55 [pI x1,pP x2,pE x3,pI x4,pS x5,pI x6,pB x7,pI x8,pS x9,pV x10,pT x11,pT x12,pE x13,pS x14,pA x15,pB x16,pO x17,pE x18,pE x19,pU x20,pT x21,pB x22],.box 55 [pI x23,pP x24,pE x25,pI x26,pS x27,pI x28,pB x29,pI x30,pS x31,pV x32,pT x33,pT x34,pE x35,pS x36,pA x37,pB x38,pO x39,pE x40,pE x41,pU x42,pT x43,pB x44]]) (B:=qey n x15 x37 x17 x39 x20 x42) h (wk [0,1] []) ?_;intro nx2 x56 h;unfold qey at h;conv=>whnf
   refine ifc h (fun hc h=>?_) (fun hc h=>?_)
   ·conv=>whnf
    replace h:=qaa h;obtain⟨⟨⟨x57,x58,⟨x59,x60,x61,x62,x63,x64⟩,x65,x66⟩,x67⟩,h8,h⟩:=h;refine⟨_,Codec.at_ qtc h8,?_⟩;conv=>whnf
    replace h:=qaa h;obtain⟨⟨⟨x68,x69,⟨x70,x71,x72,x73,x74,x75⟩,x76,x77⟩,x78⟩,h7,h⟩:=h;refine⟨_,Codec.at_ qtc h7,?_⟩;conv=>whnf
    refine⟨id,id,id,?_⟩;conv=>whnf
    replace h:=qaa h;obtain⟨⟨⟨x79,x80,⟨x81,x82,x83,x84,x85,x86⟩,x87,x88⟩,x89⟩,h6,h⟩:=h;refine⟨_,fun hg=>Codec.at_ qtc (qah h6 hg),?_⟩;conv=>whnf
    refine⟨id,id,id,id,id,?_⟩;conv=>whnf
    replace h:=qaa h;obtain⟨⟨⟨x90,x91,⟨x92,x93,x94,x95,x96,x97⟩,x98,x99⟩,x100⟩,h5,h⟩:=h;refine⟨_,fun hg=>Codec.at_ qtc (qah h5 hg),?_⟩;conv=>whnf
    refine⟨id,id,id,id,?_⟩;conv=>whnf
    replace h:=qaa h;obtain⟨x101,h4,h⟩:=h;refine⟨_,fun hg=>(qnk n _ _ _ (qah h4 hg)),?_⟩;conv=>whnf
    refine⟨id,id,?_⟩;conv=>whnf
    refine ifc h (fun hc h=>?_) (fun hc h=>?_)
    ·obtain rfl:=sj h
     conv=>whnf
     try exact fin
    ·conv=>whnf
     exact⟨(IntKind.i64.wrap (x56+1)),h,wk [0,1] []⟩
   ·conv=>whnf
    refine qby.fn [1000000] (S:=Int) (fun x102=>[(2,.ptr 0 0),(3,.ptr 1 0),(7,pI x102)]) (fun x102=>[.box 55 [pI x1,pP x2,pE x3,pI x4,pS x5,pI x6,pB x7,pI x8,pS x9,pV x10,pT x11,pT x12,pE x13,pS x14,pA x15,pB x16,pO x17,pE x18,pE x19,pU x20,pT x21,pB x22],.box 55 [pI x23,pP x24,pE x25,pI x26,pS x27,pI x28,pB x29,pI x30,pS x31,pV x32,pT x33,pT x34,pE x35,pS x36,pA x37,pB x38,pO x39,pE x40,pE x41,pU x42,pT x43,pB x44]]) (B:=qez n x17 x39 x20 x42) h (wk [0,1] []) ?_;intro nx3 x102 h;unfold qez at h;conv=>whnf
    refine ifc h (fun hc h=>?_) (fun hc h=>?_)
    ·conv=>whnf
     replace h:=qaa h;obtain⟨⟨⟨x103,x104,⟨x105,x106,x107,x108,x109,x110⟩,x111,x112⟩,x113⟩,h13,h⟩:=h;refine⟨_,Codec.at_ qpz h13,?_⟩;conv=>whnf
     replace h:=qaa h;obtain⟨⟨⟨x114,x115,⟨x116,x117,x118,x119,x120,x121⟩,x122,x123⟩,x124⟩,h12,h⟩:=h;refine⟨_,Codec.at_ qpz h12,?_⟩;conv=>whnf
     refine⟨id,id,id,?_⟩;conv=>whnf
     replace h:=qaa h;obtain⟨⟨⟨x125,x126,⟨x127,x128,x129,x130,x131,x132⟩,x133,x134⟩,x135⟩,h11,h⟩:=h;refine⟨_,fun hg=>Codec.at_ qpz (qah h11 hg),?_⟩;conv=>whnf
     refine⟨id,id,id,id,id,?_⟩;conv=>whnf
     replace h:=qaa h;obtain⟨⟨⟨x136,x137,⟨x138,x139,x140,x141,x142,x143⟩,x144,x145⟩,x146⟩,h10,h⟩:=h;refine⟨_,fun hg=>Codec.at_ qpz (qah h10 hg),?_⟩;conv=>whnf
     refine⟨id,id,id,id,?_⟩;conv=>whnf
     replace h:=qaa h;obtain⟨x147,h9,h⟩:=h;refine⟨_,fun hg=>(qnk n _ _ _ (qah h9 hg)),?_⟩;conv=>whnf
     refine⟨id,id,?_⟩;conv=>whnf
     refine ifc h (fun hc h=>?_) (fun hc h=>?_)
     ·obtain rfl:=sj h
      conv=>whnf
      try exact fin
     ·conv=>whnf
      exact⟨(IntKind.i64.wrap (x102+1)),h,wk [0,1] []⟩
    ·conv=>whnf
     refine qby.fn [1000000] (S:=Int) (fun x148=>[(2,.ptr 0 0),(3,.ptr 1 0),(8,pI x148)]) (fun x148=>[.box 55 [pI x1,pP x2,pE x3,pI x4,pS x5,pI x6,pB x7,pI x8,pS x9,pV x10,pT x11,pT x12,pE x13,pS x14,pA x15,pB x16,pO x17,pE x18,pE x19,pU x20,pT x21,pB x22],.box 55 [pI x23,pP x24,pE x25,pI x26,pS x27,pI x28,pB x29,pI x30,pS x31,pV x32,pT x33,pT x34,pE x35,pS x36,pA x37,pB x38,pO x39,pE x40,pE x41,pU x42,pT x43,pB x44]]) (B:=qe0 n x20 x42) h (wk [0,1] []) ?_;intro nx4 x148 h;unfold qe0 at h;conv=>whnf
     refine ifc h (fun hc h=>?_) (fun hc h=>?_)
     ·conv=>whnf
      replace h:=qaa h;obtain⟨⟨x149,x150,x151,⟨x152,x153,⟨x154,x155,x156,x157,x158,x159⟩,x160,x161⟩⟩,h16,h⟩:=h;refine⟨_,Codec.at_ qi2 h16,?_⟩;conv=>whnf
      replace h:=qaa h;obtain⟨⟨x162,x163,x164,⟨x165,x166,⟨x167,x168,x169,x170,x171,x172⟩,x173,x174⟩⟩,h15,h⟩:=h;refine⟨_,Codec.at_ qi2 h15,?_⟩;conv=>whnf
      refine⟨id,id,id,id,id,id,id,id,id,id,id,id,id,id,?_⟩;conv=>whnf
      replace h:=qaa h;obtain⟨x175,h14,h⟩:=h;refine⟨_,fun hg=>(qnk n _ _ _ (qah h14 hg)),?_⟩;conv=>whnf
      refine⟨id,id,?_⟩;conv=>whnf
      refine ifc h (fun hc h=>?_) (fun hc h=>?_)
      ·obtain rfl:=sj h
       conv=>whnf
       try exact fin
      ·conv=>whnf
       exact⟨(IntKind.i64.wrap (x148+1)),h,wk [0,1] []⟩
     ·obtain rfl:=sj h
      conv=>whnf
      try exact fin
abbrev zbm (r:Bool):PV:=PV.bool r
def qnc (n:Nat) (x1:SS):(Int->Option (Bool))->Int->Option (Bool):=fun nx1 x4=>
 bif(decide (x4<((x1.length:Nat):Int)))then(
 bnd (idx x1 x4) fun x5=>
 bnd (qga n ((x5.toNat:Nat):Int)) fun x6=>
 bnd (qa5 (!x6) (idx x1 x4)) fun x7=>
 bnd (qa5 (!x6) (qf1 n ((x7.toNat:Nat):Int))) fun x8=>
 bif(bif(!x6)then(!x8)else false)then(
 some false)
 else(
 nx1 (IntKind.i64.wrap (x4+1))))
 else(
 some true)
def qug (n:Nat) (x1:SS):Option (Bool):=
 bnd (qa5 (!(bif(decide (((x1.length:Nat):Int)<1))then true else(decide (((x1.length:Nat):Int)>64)))) (idx x1 (0:Int))) fun x2=>
 bnd (qa5 (!(bif(decide (((x1.length:Nat):Int)<1))then true else(decide (((x1.length:Nat):Int)>64)))) (qga n ((x2.toNat:Nat):Int))) fun x3=>
 bif(bif(bif(decide (((x1.length:Nat):Int)<1))then true else(decide (((x1.length:Nat):Int)>64)))then true else(!x3))then(
 some false)
 else(
 qap (qnc n x1) n (0:Int))
theorem q9b (n:Nat):∀ (x1:SS) (r:Bool),qug n x1=some r->qae Tryz.prog 105 [PV.str x1] (zbm r):=by
 intro x1 r h;unfold qug at h;refine qae.of_vcN qa3 (fun _ _=>Tryz.call105 _ _) Tryz.func105 (by kernel_rfl) (inl:=[1000000]) ?_;conv=>whnf
 refine⟨id,id,id,id,?_⟩;conv=>whnf
 replace h:=qaa h;obtain⟨x2,h6,h⟩:=h;refine⟨_,fun hg=>qeb (qah h6 hg),?_⟩;conv=>whnf
 refine⟨id,?_⟩;conv=>whnf
 replace h:=qaa h;obtain⟨x3,h5,h⟩:=h;refine⟨_,fun hg=>(qp7 n _ _ (qah h5 hg)),?_⟩;conv=>whnf
 refine⟨id,id,?_⟩;conv=>whnf
 refine ifc h (fun hc h=>?_) (fun hc h=>?_)
 ·obtain rfl:=sj h
  conv=>whnf
  try exact fin
 ·conv=>whnf
  refine qby.fn [1000000] (S:=Int) (fun x4=>[(0,pS x1),(3,pI x4)]) (fun x4=>[]) (B:=qnc n x1) h (wk [] []) ?_;intro nx1 x4 h;unfold qnc at h;conv=>whnf
  refine ifc h (fun hc h=>?_) (fun hc h=>?_)
  ·conv=>whnf
   replace h:=qaa h;obtain⟨x5,h4,h⟩:=h;refine⟨_,qeb h4,?_⟩;conv=>whnf
   replace h:=qaa h;obtain⟨x6,h3,h⟩:=h;refine⟨_,(qp7 n _ _ h3),?_⟩;conv=>whnf
   refine⟨id,id,?_⟩;conv=>whnf
   replace h:=qaa h;obtain⟨x7,h2,h⟩:=h;refine⟨_,fun hg=>qeb (qah h2 hg),?_⟩;conv=>whnf
   refine⟨id,?_⟩;conv=>whnf
   replace h:=qaa h;obtain⟨x8,h1,h⟩:=h;refine⟨_,fun hg=>(qog n _ _ (qah h1 hg)),?_⟩;conv=>whnf
   refine⟨id,id,?_⟩;conv=>whnf
   refine ifc h (fun hc h=>?_) (fun hc h=>?_)
   ·obtain rfl:=sj h
    conv=>whnf
    try exact fin
   ·conv=>whnf
    exact⟨(IntKind.i64.wrap (x4+1)),h,wk [] []⟩
  ·obtain rfl:=sj h
   conv=>whnf
   try exact fin
abbrev q9z (r:Bool):PV:=PV.bool r
def qgo (n:Nat) (x1:SS):Option (Bool):=
 bnd (qqz n x1) fun⟨x2,x3⟩=>
 bnd (qug n x1) fun x4=>
 some (bif x4 then(!x3)else false)
theorem qhc (n:Nat):∀ (x1:SS) (r:Bool),qgo n x1=some r->qae Tryz.prog 63 [PV.str x1] (q9z r):=by
 intro x1 r h;unfold qgo at h;refine qae.of_vcN qa3 (fun _ _=>Tryz.call63 _ _) Tryz.func63 (by kernel_rfl) (inl:=[1000000]) ?_;conv=>whnf
 replace h:=qaa h;obtain⟨⟨x2,x3⟩,h2,h⟩:=h;refine⟨_,(q0k n _ _ h2),?_⟩;conv=>whnf
 replace h:=qaa h;obtain⟨x4,h1,h⟩:=h;refine⟨_,(q9b n _ _ h1),?_⟩;conv=>whnf
 refine⟨id,id,?_⟩;obtain rfl:=sj h;conv=>whnf
 try exact fin
abbrev q7r (r:Bool):PV:=PV.bool r
def qro (n:Nat) (a0z:Val):Option (Bool):=
 match a0z with
 | ⟨x1,x2,x3,x4,x5,x6⟩=>
 bif(bif(x1 != 1)then x2 else false)then(
 some false)
 else(
 bif(bif(bif(bif(x1 != 2)then(x1 != 6)else false)then(x1 != 7)else false)then(x3 != 0)else false)then(
 some false)
 else(
 bif(bif(x1 != 3)then(!(x4==([]:SS)))else false)then(
 some false)
 else(
 bif(bif(bif(x1 != 4)then(x1 != 5)else false)then(decide (((Val.rows x5).length:Int)>0))else false)then(
 some false)
 else(
 some (bif(x1==5)then true else(((qam x6).length:Int)==0))))))
theorem q43 (n:Nat):∀ (a0z:Val) (r:Bool),qro n a0z=some r->qae Tryz.prog 139 [PV.agg (qtz.cells a0z)] (q7r r):=by
 intro a0z r h;obtain⟨x1,x2,x3,x4,x5,x6⟩:=a0z;unfold qro at h;refine qae.of_vcN qa3 (fun _ _=>Tryz.call139 _ _) Tryz.func139 (by kernel_rfl) (inl:=[1000000]) ?_;conv=>whnf
 refine⟨id,id,?_⟩;conv=>whnf
 refine ifc h (fun hc h=>?_) (fun hc h=>?_)
 ·obtain rfl:=sj h
  conv=>whnf
  try exact fin
 ·conv=>whnf
  refine⟨id,id,id,id,id,id,id,id,id,?_⟩;conv=>whnf
  refine ifc h (fun hc h=>?_) (fun hc h=>?_)
  ·obtain rfl:=sj h
   conv=>whnf
   try exact fin
  ·conv=>whnf
   refine⟨id,id,id,?_⟩;conv=>whnf
   refine ifc h (fun hc h=>?_) (fun hc h=>?_)
   ·obtain rfl:=sj h
    conv=>whnf
    try exact fin
   ·conv=>whnf
    refine⟨id,id,id,id,id,id,id,?_⟩;conv=>whnf
    refine ifc h (fun hc h=>?_) (fun hc h=>?_)
    ·obtain rfl:=sj h
     conv=>whnf
     try exact fin
    ·conv=>whnf
     refine⟨id,id,id,id,?_⟩;obtain rfl:=sj h;conv=>whnf
     try exact fin
abbrev qva (r:Int×Bool):PV:=PV.tup [PV.int .i64 r.1,PV.bool r.2]
abbrev zo4:Type:=Val->Int->Int->Option (Int×Bool)
def qmm (n:Nat) (x5:List Val) (g137:zo4) (x7:Int):(Int×Int->Option (Int×Bool))->Int×Int->Option (Int×Bool):=fun nx1 (x10,x11)=>
 bif(decide (x11<((Val.rows x5).length:Int)))then(
 bnd (idx x5 x11) fun⟨x12,x13,x14,x15,x16,x17⟩=>
 bnd (g137 (Val.mk x12 x13 x14 x15 x16 x17) (IntKind.i64.wrap (x7 - 1)) x10) fun⟨x18,x19⟩=>
 bif(!x19)then(
 some (x18,false))
 else(
 nx1 (x18,(IntKind.i64.wrap (x11+1)))))
 else(
 some (x10,true))
def qml (n:Nat) (x5:List Val) (g137:zo4) (x7 x8:Int):Unit->Option (Int×Bool):=fun _=>
 qap (qmm n x5 g137 x7) n ((IntKind.i64.wrap (x8+1)),(0:Int))
def qmn (n:Nat) (x6:List SS) (x8:Int) (x5:List Val) (g137:zo4) (x7:Int):(Int->Option (Int×Bool))->Int->Option (Int×Bool):=fun nx2 x20=>
 bif(decide (x20<((qam x6).length:Int)))then(
 bnd (idx x6 x20) fun x21=>
 bnd (qa5 (!(decide (((x21.length:Nat):Int)<1))) (idx x6 x20)) fun x22=>
 bnd (qa5 ((!(bif(decide (((x21.length:Nat):Int)<1))then true else(decide (((x22.length:Nat):Int)>64))))&&(decide (x20>0))) (idx x6 x20)) fun x23=>
 bnd (qa5 ((!(bif(decide (((x21.length:Nat):Int)<1))then true else(decide (((x22.length:Nat):Int)>64))))&&(decide (x20>0))) (idx x6 (IntKind.i64.wrap (x20 - 1)))) fun x24=>
 bif(bif(bif(decide (((x21.length:Nat):Int)<1))then true else(decide (((x22.length:Nat):Int)>64)))then true else(bif(decide (x20>0))then(Op.bytesLess x23 x24||x23==x24)else false))then(
 some ((IntKind.i64.wrap (x8+1)),false))
 else(
 nx2 (IntKind.i64.wrap (x20+1))))
 else(
 qml n x5 g137 x7 x8 ())
def quf (n:Nat) (g137:zo4) (a0z:Val) (x7 x8:Int):Option (Int×Bool):=
 match a0z with
 | ⟨x1,x2,x3,x4,x5,x6⟩=>
 bnd (qa5 (!(bif(bif(bif(decide ((IntKind.i64.wrap (x8+1))>4096))then true else(decide (x7<1)))then true else(decide (x1<0)))then true else(decide (x1>7)))) (qro n (Val.mk x1 x2 x3 x4 x5 x6))) fun x9=>
 bif(bif(bif(bif(bif(decide ((IntKind.i64.wrap (x8+1))>4096))then true else(decide (x7<1)))then true else(decide (x1<0)))then true else(decide (x1>7)))then true else(!x9))then(
 some ((IntKind.i64.wrap (x8+1)),false))
 else(
 bif(bif(bif(x1==6)then true else(x1==7))then(decide (x3<1))else false)then(
 some ((IntKind.i64.wrap (x8+1)),false))
 else(
 bif(x1==5)then(
 bif(((qam x6).length:Int) != ((Val.rows x5).length:Int))then(
 some ((IntKind.i64.wrap (x8+1)),false))
 else(
 qap (qmn n x6 x8 x5 g137 x7) n (0:Int)))
 else(
 qml n x5 g137 x7 x8 ())))
set_option maxHeartbeats 4000000 in
theorem q86 (n:Nat) (g137:zo4) (g137_ok:∀ (a0z:Val) (x7 x8:Int) (r:Int×Bool),g137 a0z x7 x8=some r->qae Tryz.prog 137 [PV.agg (qtz.cells a0z),PV.int .i64 x7,PV.int .i64 x8] (qva r)):∀ (a0z:Val) (x7 x8:Int) (r:Int×Bool),quf n g137 a0z x7 x8=some r->qae Tryz.prog 137 [PV.agg (qtz.cells a0z),PV.int .i64 x7,PV.int .i64 x8] (qva r):=by
 intro a0z x7 x8 r h;obtain⟨x1,x2,x3,x4,x5,x6⟩:=a0z;unfold quf at h;refine qae.of_vcN qa3 (fun _ _=>Tryz.call137 _ _) Tryz.func137 (by kernel_rfl) (inl:=[1000000]) ?_;conv=>whnf
 refine⟨id,id,id,id,id,id,id,id,id,?_⟩;conv=>whnf
 replace h:=qaa h;obtain⟨x9,h7,h⟩:=h;refine⟨_,fun hg=>(q43 n _ _ (qah h7 hg)),?_⟩;conv=>whnf
 refine⟨id,id,?_⟩;conv=>whnf
 refine ifc h (fun hc h=>?_) (fun hc h=>?_)
 ·obtain rfl:=sj h
  conv=>whnf
  try exact fin
 ·conv=>whnf
  refine⟨id,id,id,id,id,id,?_⟩;conv=>whnf
  refine ifc h (fun hc h=>?_) (fun hc h=>?_)
  ·obtain rfl:=sj h
   conv=>whnf
   try exact fin
  ·conv=>whnf
   refine qje.cut (S:=Unit) (fun _=>[(1,pI x7),(2,.p (.int .i64 (IntKind.i64.wrap (x8+1)))),(3,.ptr 0 0)]) (fun _=>[.box 44 [pI x1,pB x2,pI x3,pS x4,pV x5,pT x6]]) (qml n x5 g137 x7 x8) (r:=r) ?_ ?_
   ·intro _ h
    unfold qml at h;conv=>whnf
    refine qby.fn [1000000] (S:=Int×Int) (fun(x10,x11)=>[(1,pI x7),(2,pI x10),(3,.ptr 0 0),(9,pI x11)]) (fun(x10,x11)=>[.box 44 [pI x1,pB x2,pI x3,pS x4,pV x5,pT x6]]) (B:=qmm n x5 g137 x7) h (wk [0] []) ?_;intro nx1 st h;obtain⟨x10,x11⟩:=st;unfold qmm at h;conv=>whnf
    refine ifc h (fun hc h=>?_) (fun hc h=>?_)
    ·conv=>whnf
     replace h:=qaa h;obtain⟨⟨x12,x13,x14,x15,x16,x17⟩,h2,h⟩:=h;refine⟨_,Codec.at_ qtz h2,?_⟩;conv=>whnf
     replace h:=qaa h;obtain⟨⟨x18,x19⟩,h1,h⟩:=h;refine⟨_,(g137_ok _ _ _ _ h1),?_⟩;conv=>whnf
     refine ifc h (fun hc h=>?_) (fun hc h=>?_)
     ·obtain rfl:=sj h
      conv=>whnf
      try exact fin
     ·conv=>whnf
      exact⟨(x18,(IntKind.i64.wrap (x11+1))),h,wk [0] []⟩
    ·obtain rfl:=sj h
     conv=>whnf
     try exact fin
   ·conv=>whnf
    refine ifc h (fun hc h=>?_) (fun hc h=>?_)
    ·conv=>whnf
     refine ifc h (fun hc h=>?_) (fun hc h=>?_)
     ·obtain rfl:=sj h
      conv=>whnf
      try exact fin
     ·conv=>whnf
      refine qby.fn [1000000] (S:=Int) (fun x20=>[(1,pI x7),(2,.p (.int .i64 (IntKind.i64.wrap (x8+1)))),(3,.ptr 0 0),(8,pI x20)]) (fun x20=>[.box 44 [pI x1,pB x2,pI x3,pS x4,pV x5,pT x6]]) (B:=qmn n x6 x8 x5 g137 x7) h (wk [0] []) ?_;intro nx2 x20 h;unfold qmn at h;conv=>whnf
      refine ifc h (fun hc h=>?_) (fun hc h=>?_)
      ·conv=>whnf
       replace h:=qaa h;obtain⟨x21,h6,h⟩:=h;refine⟨_,Codec.at_ qqt h6,?_⟩;conv=>whnf
       refine⟨id,id,id,?_⟩;conv=>whnf
       replace h:=qaa h;obtain⟨x22,h5,h⟩:=h;refine⟨_,fun hg=>Codec.at_ qqt (qah h5 hg),?_⟩;conv=>whnf
       refine⟨id,id,id,id,id,id,id,id,id,?_⟩;conv=>whnf
       replace h:=qaa h;obtain⟨x23,h4,h⟩:=h;refine⟨_,fun hg=>Codec.at_ qqt (qah h4 hg),?_⟩;conv=>whnf
       refine⟨id,id,id,id,id,?_⟩;conv=>whnf
       replace h:=qaa h;obtain⟨x24,h3,h⟩:=h;refine⟨_,fun hg=>Codec.at_ qqt (qah h3 hg),?_⟩;conv=>whnf
       refine⟨id,id,id,id,id,id,?_⟩;conv=>whnf
       refine ifc h (fun hc h=>?_) (fun hc h=>?_)
       ·obtain rfl:=sj h
        conv=>whnf
        try exact fin
       ·conv=>whnf
        exact⟨(IntKind.i64.wrap (x20+1)),h,wk [0] []⟩
      ·conv=>whnf
       exact⟨(),h,wk [0] []⟩
    ·conv=>whnf
     exact⟨(),h,wk [0] []⟩
def qjn:Nat->Val->Int->Int->Option (Int×Bool)
 | 0=>fun _ _ _=>none
 | n+1=>quf n (qjn n)
theorem q89 (n:Nat):(∀ (a0z:Val) (x7 x8:Int) (r:Int×Bool),qjn n a0z x7 x8=some r->qae Tryz.prog 137 [PV.agg (qtz.cells a0z),PV.int .i64 x7,PV.int .i64 x8] (qva r)):=by
 induction n with
 | zero=>exact(by intros; rename_i h; cases h)
 | succ n ih=>
  have hg137:=ih;exact q86 n (qjn n) hg137
theorem zbh (n:Nat):∀ (a0z:Val) (x7 x8:Int) (r:Int×Bool),qjn n a0z x7 x8=some r->qae Tryz.prog 137 [PV.agg (qtz.cells a0z),PV.int .i64 x7,PV.int .i64 x8] (qva r):=(q89 n)
abbrev zdu (r:Bool):PV:=PV.bool r
def qsy (n:Nat) (a0z:Val):Option (Bool):=
 match a0z with
 | ⟨x1,x2,x3,x4,x5,x6⟩=>
 bnd (qjn n (Val.mk x1 x2 x3 x4 x5 x6) (32:Int) (0:Int)) fun⟨x7,x8⟩=>
 some x8
theorem zbg (n:Nat):∀ (a0z:Val) (r:Bool),qsy n a0z=some r->qae Tryz.prog 130 [PV.agg (qtz.cells a0z)] (zdu r):=by
 intro a0z r h;obtain⟨x1,x2,x3,x4,x5,x6⟩:=a0z;unfold qsy at h;refine qae.of_vcN qa3 (fun _ _=>Tryz.call130 _ _) Tryz.func130 (by kernel_rfl) (inl:=[1000000]) ?_;conv=>whnf
 replace h:=qaa h;obtain⟨⟨x7,x8⟩,h1,h⟩:=h;refine⟨_,(zbh n _ _ _ _ h1),?_⟩;obtain rfl:=sj h;conv=>whnf
 try exact fin
abbrev q92 (r:Int):PV:=PV.int .i64 r
def qlo (n:Nat):Bool->Option (Int):=fun x4=>
 bif x4 then(
 some (7:Int))
 else(
 some (0:Int))
def qoi (n:Nat) (x1:SS):Bool->Option (Int):=fun x3=>
 bif x3 then(
 some (6:Int))
 else(
 bif(x1==([42]:SS))then(
 qlo n (x1==([42]:SS)))
 else(
 bif(x1==([47]:SS))then(
 qlo n (x1==([47]:SS)))
 else(
 qlo n (x1==([37]:SS)))))
def qfb (n:Nat) (x1:SS):Bool->Option (Int):=fun x2=>
 bif x2 then(
 some (5:Int))
 else(
 bif(x1==([43]:SS))then(
 qoi n x1 (x1==([43]:SS)))
 else(
 qoi n x1 (x1==([45]:SS))))
def qs1 (n:Nat) (x1:SS):Option (Int):=
 bif(x1==([79,82]:SS))then(
 some (1:Int))
 else(
 bif(x1==([88,79,82]:SS))then(
 some (2:Int))
 else(
 bif(x1==([65,78,68]:SS))then(
 some (3:Int))
 else(
 bif(x1==([61]:SS))then(
 qfb n x1 (x1==([61]:SS)))
 else(
 bif(x1==([60,62]:SS))then(
 qfb n x1 (x1==([60,62]:SS)))
 else(
 bif(x1==([60]:SS))then(
 qfb n x1 (x1==([60]:SS)))
 else(
 bif(x1==([60,61]:SS))then(
 qfb n x1 (x1==([60,61]:SS)))
 else(
 bif(x1==([62]:SS))then(
 qfb n x1 (x1==([62]:SS)))
 else(
 bif(x1==([62,61]:SS))then(
 qfb n x1 (x1==([62,61]:SS)))
 else(
 qfb n x1 (x1==([73,78]:SS)))))))))))
theorem q7d (n:Nat):∀ (x1:SS) (r:Int),qs1 n x1=some r->qae Tryz.prog 131 [PV.str x1] (q92 r):=by
 intro x1 r h;unfold qs1 at h;refine qae.of_vcN qa3 (fun _ _=>Tryz.call131 _ _) Tryz.func131 (by kernel_rfl) (inl:=[1000000]) ?_;conv=>whnf
 refine ifc h (fun hc h=>?_) (fun hc h=>?_)
 ·obtain rfl:=sj h
  conv=>whnf
  try exact fin
 ·conv=>whnf
  refine ifc h (fun hc h=>?_) (fun hc h=>?_)
  ·obtain rfl:=sj h
   conv=>whnf
   try exact fin
  ·conv=>whnf
   refine ifc h (fun hc h=>?_) (fun hc h=>?_)
   ·obtain rfl:=sj h
    conv=>whnf
    try exact fin
   ·conv=>whnf
    refine qje.cut (S:=Bool) (fun x2=>[(3,pS x1),(10,pB x2)]) (fun x2=>[]) (qfb n x1) (r:=r) ?_ ?_
    ·intro x2 h
     unfold qfb at h;conv=>whnf
     refine ifc h (fun hc h=>?_) (fun hc h=>?_)
     ·obtain rfl:=sj h
      conv=>whnf
      try exact fin
     ·conv=>whnf
      refine qje.cut (S:=Bool) (fun x3=>[(3,pS x1),(18,pB x3)]) (fun x3=>[]) (qoi n x1) (r:=r) ?_ ?_
      ·intro x3 h
       unfold qoi at h;conv=>whnf
       refine ifc h (fun hc h=>?_) (fun hc h=>?_)
       ·obtain rfl:=sj h
        conv=>whnf
        try exact fin
       ·conv=>whnf
        refine qje.cut (S:=Bool) (fun x4=>[(21,pB x4)]) (fun x4=>[]) (qlo n) (r:=r) ?_ ?_
        ·intro x4 h
         unfold qlo at h;conv=>whnf
         refine ifc h (fun hc h=>?_) (fun hc h=>?_)
         ·obtain rfl:=sj h
          conv=>whnf
          try exact fin
         ·obtain rfl:=sj h
          conv=>whnf
          try exact fin
        ·conv=>whnf
         refine ifc h (fun hc h=>?_) (fun hc h=>?_)
         ·conv=>whnf
          exact⟨(x1==([42]:SS)),h,wk [] []⟩
         ·conv=>whnf
          refine ifc h (fun hc h=>?_) (fun hc h=>?_)
          ·conv=>whnf
           exact⟨(x1==([47]:SS)),h,wk [] []⟩
          ·conv=>whnf
           exact⟨(x1==([37]:SS)),h,wk [] []⟩
      ·conv=>whnf
       refine ifc h (fun hc h=>?_) (fun hc h=>?_)
       ·conv=>whnf
        exact⟨(x1==([43]:SS)),h,wk [] []⟩
       ·conv=>whnf
        exact⟨(x1==([45]:SS)),h,wk [] []⟩
    ·conv=>whnf
     refine ifc h (fun hc h=>?_) (fun hc h=>?_)
     ·conv=>whnf
      exact⟨(x1==([61]:SS)),h,wk [] []⟩
     ·conv=>whnf
      refine ifc h (fun hc h=>?_) (fun hc h=>?_)
      ·conv=>whnf
       exact⟨(x1==([60,62]:SS)),h,wk [] []⟩
      ·conv=>whnf
       refine ifc h (fun hc h=>?_) (fun hc h=>?_)
       ·conv=>whnf
        exact⟨(x1==([60]:SS)),h,wk [] []⟩
       ·conv=>whnf
        refine ifc h (fun hc h=>?_) (fun hc h=>?_)
        ·conv=>whnf
         exact⟨(x1==([60,61]:SS)),h,wk [] []⟩
        ·conv=>whnf
         refine ifc h (fun hc h=>?_) (fun hc h=>?_)
         ·conv=>whnf
          exact⟨(x1==([62]:SS)),h,wk [] []⟩
         ·conv=>whnf
          refine ifc h (fun hc h=>?_) (fun hc h=>?_)
          ·conv=>whnf
           exact⟨(x1==([62,61]:SS)),h,wk [] []⟩
          ·conv=>whnf
           exact⟨(x1==([73,78]:SS)),h,wk [] []⟩
abbrev q94 (r:Bool):PV:=PV.bool r
def qi9 (n:Nat) (x9:List SS) (x2:SS) (x10:List qab):(Int->Option (Bool))->Int->Option (Bool):=fun nx1 x26=>
 bif(decide (x26<((qam x9).length:Int)))then(
 bnd (idx x9 x26) fun x27=>
 bnd (qjq n x27) fun x28=>
 bif(!x28)then(
 some false)
 else(
 nx1 (IntKind.i64.wrap (x26+1))))
 else(
 some (bif(x2==([]:SS))then(((qab.rows x10).length:Int)==((qam x9).length:Int))else false))
def qb4 (n:Nat) (x2:SS) (x10:List qab) (x1:Int):Bool->Option (Bool):=fun x29=>
 bif x29 then(
 some (bif(x2==([]:SS))then(((qab.rows x10).length:Int)==1)else false))
 else(
 bif(x1==10)then(
 bnd (qa5 (((qab.rows x10).length:Int)==2) (qs1 n x2)) fun x30=>
 some (bif(((qab.rows x10).length:Int)==2)then(decide (x30>0))else false))
 else(
 bif(x1==13)then(
 bnd (qgo n x2) fun x31=>
 bnd (qa5 x31 (qhw n x2)) fun x32=>
 some (bif x31 then(!x32)else false))
 else(
 bif(x1==14)then(
 bnd (qa5 (((qab.rows x10).length:Int)==1) (qhw n x2)) fun x33=>
 some (bif(bif(((qab.rows x10).length:Int)==1)then x33 else false)then true else(bif(((qab.rows x10).length:Int)==0)then(x2==([99,111,117,110,116]:SS))else false)))
 else(
 some false))))
def qcd (n:Nat) (x10:List qab) (x2:SS) (x1:Int) (x9:List SS):Bool->Option (Bool):=fun x12=>
 bif x12 then(
 bnd (qa5 (((qab.rows x10).length:Int)==0) (qgo n x2)) fun x13=>
 some (bif(((qab.rows x10).length:Int)==0)then x13 else false))
 else(
 bif(x1==4)then(
 bnd (qa5 (((qab.rows x10).length:Int)==1) (qjq n x2)) fun x14=>
 some (bif(((qab.rows x10).length:Int)==1)then x14 else false))
 else(
 bif(x1==15)then(
 bnd (qa5 (((qab.rows x10).length:Int)==1) (qjq n x2)) fun x15=>
 bnd (qa5 (bif(((qab.rows x10).length:Int)==1)then x15 else false) (idx x10 (0:Int))) fun⟨x16,x17,⟨x18,x19,x20,x21,x22,x23⟩,x24,x25⟩=>
 some (bif(bif(((qab.rows x10).length:Int)==1)then x15 else false)then(x16==2)else false))
 else(
 bif(x1==5)then(
 some (x2==([]:SS)))
 else(
 bif(x1==6)then(
 qap (qi9 n x9 x2 x10) n (0:Int))
 else(
 bif(x1==7)then(
 some (bif(x2==([]:SS))then(((qab.rows x10).length:Int)==2)else false))
 else(
 bif(x1==8)then(
 qb4 n x2 x10 x1 (x1==8))
 else(
 bif(x1==9)then(
 qb4 n x2 x10 x1 (x1==9))
 else(
 bif(x1==11)then(
 qb4 n x2 x10 x1 (x1==11))
 else(
 qb4 n x2 x10 x1 (x1==12))))))))))
def qdf (n:Nat) (a0z:qab):Option (Bool):=
 match a0z with
 | ⟨x1,x2,⟨x3,x4,x5,x6,x7,x8⟩,x9,x10⟩=>
 bif(x1==1)then(
 bnd (qa5 (bif(x2==([]:SS))then(((qab.rows x10).length:Int)==0)else false) (qsy n (Val.mk x3 x4 x5 x6 x7 x8))) fun x11=>
 some (bif(bif(bif(x2==([]:SS))then(((qab.rows x10).length:Int)==0)else false)then x11 else false)then(bif(bif(bif(x3==0)then true else(x3==1))then true else(bif(x3==2)then(decide (x5≥0))else false))then true else(x3==3))else false))
 else(
 bif(x1==2)then(
 qcd n x10 x2 x1 x9 (x1==2))
 else(
 qcd n x10 x2 x1 x9 (x1==3)))
set_option maxHeartbeats 4000000 in
theorem q7e (n:Nat):∀ (a0z:qab) (r:Bool),qdf n a0z=some r->qae Tryz.prog 125 [PV.agg (qca.cells a0z)] (q94 r):=by
 intro a0z r h;obtain⟨x1,x2,⟨x3,x4,x5,x6,x7,x8⟩,x9,x10⟩:=a0z;unfold qdf at h;refine qae.of_vcN qa3 (fun _ _=>Tryz.call125 _ _) Tryz.func125 (by kernel_rfl) (inl:=[1000000]) ?_;conv=>whnf
 refine ifc h (fun hc h=>?_) (fun hc h=>?_)
 ·conv=>whnf
  refine⟨id,id,id,?_⟩;conv=>whnf
  replace h:=qaa h;obtain⟨x11,h1,h⟩:=h;refine⟨_,fun hg=>(zbg n _ _ (qah h1 hg)),?_⟩;conv=>whnf
  refine⟨id,id,id,id,id,id,id,id,id,id,id,id,id,id,id,id,id,id,id,id,id,id,id,id,?_⟩;obtain rfl:=sj h;conv=>whnf
  try exact fin
 ·conv=>whnf
  refine qje.cut (S:=Bool) (fun x12=>[(1,.ptr 0 0),(3,.p (.int .i64 ((qab.rows x10).length:Int))),(4,.p (.bool (x2==([]:SS)))),(14,pI x1),(53,pB x12)]) (fun x12=>[.box 47 [pI x1,pS x2,pI x3,pB x4,pI x5,pS x6,pV x7,pT x8,pT x9,pE x10]]) (qcd n x10 x2 x1 x9) (r:=r) ?_ ?_
  ·intro x12 h
   unfold qcd at h;conv=>whnf
   refine ifc h (fun hc h=>?_) (fun hc h=>?_)
   ·conv=>whnf
    refine⟨id,id,?_⟩;conv=>whnf
    replace h:=qaa h;obtain⟨x13,h2,h⟩:=h;refine⟨_,fun hg=>(qhc n _ _ (qah h2 hg)),?_⟩;conv=>whnf
    refine⟨id,?_⟩;obtain rfl:=sj h;conv=>whnf
    try exact fin
   ·conv=>whnf
    refine ifc h (fun hc h=>?_) (fun hc h=>?_)
    ·conv=>whnf
     refine⟨id,id,?_⟩;conv=>whnf
     replace h:=qaa h;obtain⟨x14,h3,h⟩:=h;refine⟨_,fun hg=>(qig n _ _ (qah h3 hg)),?_⟩;conv=>whnf
     refine⟨id,?_⟩;obtain rfl:=sj h;conv=>whnf
     try exact fin
    ·conv=>whnf
     refine ifc h (fun hc h=>?_) (fun hc h=>?_)
     ·conv=>whnf
      refine⟨id,id,?_⟩;conv=>whnf
      replace h:=qaa h;obtain⟨x15,h5,h⟩:=h;refine⟨_,fun hg=>(qig n _ _ (qah h5 hg)),?_⟩;conv=>whnf
      refine⟨id,id,id,?_⟩;conv=>whnf
      replace h:=qaa h;obtain⟨⟨x16,x17,⟨x18,x19,x20,x21,x22,x23⟩,x24,x25⟩,h4,h⟩:=h;refine⟨_,fun hg=>Codec.at_ qca (qah h4 hg),?_⟩;conv=>whnf
      refine⟨id,id,id,id,?_⟩;obtain rfl:=sj h;conv=>whnf
      try exact fin
     ·conv=>whnf
      refine ifc h (fun hc h=>?_) (fun hc h=>?_)
      ·obtain rfl:=sj h
       conv=>whnf
       try exact fin
      ·conv=>whnf
       refine ifc h (fun hc h=>?_) (fun hc h=>?_)
       ·conv=>whnf
        refine qby.fn [1000000] (S:=Int) (fun x26=>[(1,.ptr 0 0),(3,.p (.int .i64 ((qab.rows x10).length:Int))),(4,.p (.bool (x2==([]:SS)))),(6,pI x26)]) (fun x26=>[.box 47 [pI x1,pS x2,pI x3,pB x4,pI x5,pS x6,pV x7,pT x8,pT x9,pE x10]]) (B:=qi9 n x9 x2 x10) h (wk [0] []) ?_;intro nx1 x26 h;unfold qi9 at h;conv=>whnf
        refine ifc h (fun hc h=>?_) (fun hc h=>?_)
        ·conv=>whnf
         replace h:=qaa h;obtain⟨x27,h7,h⟩:=h;refine⟨_,Codec.at_ qqt h7,?_⟩;conv=>whnf
         replace h:=qaa h;obtain⟨x28,h6,h⟩:=h;refine⟨_,(qig n _ _ h6),?_⟩;conv=>whnf
         refine ifc h (fun hc h=>?_) (fun hc h=>?_)
         ·obtain rfl:=sj h
          conv=>whnf
          try exact fin
         ·conv=>whnf
          exact⟨(IntKind.i64.wrap (x26+1)),h,wk [0] []⟩
        ·conv=>whnf
         refine⟨id,id,id,id,id,?_⟩;obtain rfl:=sj h;conv=>whnf
         try exact fin
       ·conv=>whnf
        refine ifc h (fun hc h=>?_) (fun hc h=>?_)
        ·conv=>whnf
         refine⟨id,id,?_⟩;obtain rfl:=sj h;conv=>whnf
         try exact fin
        ·conv=>whnf
         refine qje.cut (S:=Bool) (fun x29=>[(1,.ptr 0 0),(3,.p (.int .i64 ((qab.rows x10).length:Int))),(4,.p (.bool (x2==([]:SS)))),(14,pI x1),(123,pB x29)]) (fun x29=>[.box 47 [pI x1,pS x2,pI x3,pB x4,pI x5,pS x6,pV x7,pT x8,pT x9,pE x10]]) (qb4 n x2 x10 x1) (r:=r) ?_ ?_
         ·intro x29 h
          unfold qb4 at h;conv=>whnf
          refine ifc h (fun hc h=>?_) (fun hc h=>?_)
          ·conv=>whnf
           refine⟨id,id,?_⟩;obtain rfl:=sj h;conv=>whnf
           try exact fin
          ·conv=>whnf
           refine ifc h (fun hc h=>?_) (fun hc h=>?_)
           ·conv=>whnf
            refine⟨id,id,?_⟩;conv=>whnf
            replace h:=qaa h;obtain⟨x30,h8,h⟩:=h;refine⟨_,fun hg=>(q7d n _ _ (qah h8 hg)),?_⟩;conv=>whnf
            refine⟨id,id,?_⟩;obtain rfl:=sj h;conv=>whnf
            try exact fin
           ·conv=>whnf
            refine ifc h (fun hc h=>?_) (fun hc h=>?_)
            ·conv=>whnf
             replace h:=qaa h;obtain⟨x31,h10,h⟩:=h;refine⟨_,(qhc n _ _ h10),?_⟩;conv=>whnf
             refine⟨id,id,?_⟩;conv=>whnf
             replace h:=qaa h;obtain⟨x32,h9,h⟩:=h;refine⟨_,fun hg=>(qp8 n _ _ (qah h9 hg)),?_⟩;conv=>whnf
             refine⟨id,id,?_⟩;obtain rfl:=sj h;conv=>whnf
             try exact fin
            ·conv=>whnf
             refine ifc h (fun hc h=>?_) (fun hc h=>?_)
             ·conv=>whnf
              refine⟨id,id,?_⟩;conv=>whnf
              replace h:=qaa h;obtain⟨x33,h11,h⟩:=h;refine⟨_,fun hg=>(qp8 n _ _ (qah h11 hg)),?_⟩;conv=>whnf
              refine⟨id,id,id,id,id,id,id,id,?_⟩;obtain rfl:=sj h;conv=>whnf
              try exact fin
             ·obtain rfl:=sj h
              conv=>whnf
              try exact fin
         ·conv=>whnf
          refine ifc h (fun hc h=>?_) (fun hc h=>?_)
          ·conv=>whnf
           exact⟨(x1==8),h,wk [0] []⟩
          ·conv=>whnf
           refine ifc h (fun hc h=>?_) (fun hc h=>?_)
           ·conv=>whnf
            exact⟨(x1==9),h,wk [0] []⟩
           ·conv=>whnf
            refine ifc h (fun hc h=>?_) (fun hc h=>?_)
            ·conv=>whnf
             exact⟨(x1==11),h,wk [0] []⟩
            ·conv=>whnf
             exact⟨(x1==12),h,wk [0] []⟩
  ·conv=>whnf
   refine ifc h (fun hc h=>?_) (fun hc h=>?_)
   ·conv=>whnf
    exact⟨(x1==2),h,wk [0] []⟩
   ·conv=>whnf
    exact⟨(x1==3),h,wk [0] []⟩
abbrev qto (r:Bool):PV:=PV.bool r
def qks (n:Nat) (x10:List qab) (g104:qab->Int->Option (Bool)) (x11:Int):(Int->Option (Bool))->Int->Option (Bool):=fun nx1 x14=>
 bif(decide (x14<((qab.rows x10).length:Int)))then(
 bnd (idx x10 x14) fun⟨x15,x16,⟨x17,x18,x19,x20,x21,x22⟩,x23,x24⟩=>
 bnd (g104 (qab.mk x15 x16 (Val.mk x17 x18 x19 x20 x21 x22) x23 x24) (IntKind.i64.wrap (x11 - 1))) fun x25=>
 bif(!x25)then(
 some false)
 else(
 nx1 (IntKind.i64.wrap (x14+1))))
 else(
 some true)
def qu1 (n:Nat) (g104:qab->Int->Option (Bool)) (a0z:qab) (x11:Int):Option (Bool):=
 match a0z with
 | ⟨x1,x2,⟨x3,x4,x5,x6,x7,x8⟩,x9,x10⟩=>
 bnd (qa5 (!(decide (x11<1))) (qdf n (qab.mk x1 x2 (Val.mk x3 x4 x5 x6 x7 x8) x9 x10))) fun x12=>
 bnd (qa5 ((!(bif(decide (x11<1))then true else(!x12)))&&(x1 != 1)) (qjl n (Val.mk x3 x4 x5 x6 x7 x8) (Val.mk (0:Int) false (0:Int) ([]:SS) ([]:List Val) ([]:List SS)))) fun x13=>
 bif(bif(bif(bif(decide (x11<1))then true else(!x12))then true else(bif(x1 != 1)then(!x13)else false))then true else(bif(x1 != 6)then(decide (((qam x9).length:Int)>0))else false))then(
 some false)
 else(
 qap (qks n x10 g104 x11) n (0:Int))
theorem q63 (n:Nat) (g104:qab->Int->Option (Bool)) (g104_ok:∀ (a0z:qab) (x11:Int) (r:Bool),g104 a0z x11=some r->qae Tryz.prog 104 [PV.agg (qca.cells a0z),PV.int .i64 x11] (qto r)):∀ (a0z:qab) (x11:Int) (r:Bool),qu1 n g104 a0z x11=some r->qae Tryz.prog 104 [PV.agg (qca.cells a0z),PV.int .i64 x11] (qto r):=by
 intro a0z x11 r h;obtain⟨x1,x2,⟨x3,x4,x5,x6,x7,x8⟩,x9,x10⟩:=a0z;unfold qu1 at h;refine qae.of_vcN qa3 (fun _ _=>Tryz.call104 _ _) Tryz.func104 (by kernel_rfl) (inl:=[1000000]) ?_;conv=>whnf
 refine⟨id,?_⟩;conv=>whnf
 replace h:=qaa h;obtain⟨x12,h4,h⟩:=h;refine⟨_,fun hg=>(q7e n _ _ (qah h4 hg)),?_⟩;conv=>whnf
 refine⟨id,id,id,id,id,id,id,id,?_⟩;conv=>whnf
 replace h:=qaa h;obtain⟨x13,h3,h⟩:=h;refine⟨_,fun hg=>(qae.leArgs (qu3 n _ _ _ (qah h3 hg)) (by try exact fin)),?_⟩;conv=>whnf
 refine⟨id,id,id,id,id,id,id,id,id,id,id,id,id,?_⟩;conv=>whnf
 refine ifc h (fun hc h=>?_) (fun hc h=>?_)
 ·obtain rfl:=sj h
  conv=>whnf
  try exact fin
 ·conv=>whnf
  refine qby.fn [1000000] (S:=Int) (fun x14=>[(1,pI x11),(2,.ptr 0 0),(5,pI x14)]) (fun x14=>[.box 47 [pI x1,pS x2,pI x3,pB x4,pI x5,pS x6,pV x7,pT x8,pT x9,pE x10]]) (B:=qks n x10 g104 x11) h (wk [0] []) ?_;intro nx1 x14 h;unfold qks at h;conv=>whnf
  refine ifc h (fun hc h=>?_) (fun hc h=>?_)
  ·conv=>whnf
   replace h:=qaa h;obtain⟨⟨x15,x16,⟨x17,x18,x19,x20,x21,x22⟩,x23,x24⟩,h2,h⟩:=h;refine⟨_,Codec.at_ qca h2,?_⟩;conv=>whnf
   replace h:=qaa h;obtain⟨x25,h1,h⟩:=h;refine⟨_,(g104_ok _ _ _ h1),?_⟩;conv=>whnf
   refine ifc h (fun hc h=>?_) (fun hc h=>?_)
   ·obtain rfl:=sj h
    conv=>whnf
    try exact fin
   ·conv=>whnf
    exact⟨(IntKind.i64.wrap (x14+1)),h,wk [0] []⟩
  ·obtain rfl:=sj h
   conv=>whnf
   try exact fin
def qni:Nat->qab->Int->Option (Bool)
 | 0=>fun _ _=>none
 | n+1=>qu1 n (qni n)
theorem q7c (n:Nat):(∀ (a0z:qab) (x11:Int) (r:Bool),qni n a0z x11=some r->qae Tryz.prog 104 [PV.agg (qca.cells a0z),PV.int .i64 x11] (qto r)):=by
 induction n with
 | zero=>exact(by intros; rename_i h; cases h)
 | succ n ih=>
  have hg104:=ih;exact q63 n (qni n) hg104
theorem q9f (n:Nat):∀ (a0z:qab) (x11:Int) (r:Bool),qni n a0z x11=some r->qae Tryz.prog 104 [PV.agg (qca.cells a0z),PV.int .i64 x11] (qto r):=(q7c n)
abbrev q5o (r:Bool):PV:=PV.bool r
def qfd (n:Nat) (a0z:qab):Option (Bool):=
 match a0z with
 | ⟨x1,x2,⟨x3,x4,x5,x6,x7,x8⟩,x9,x10⟩=>
 bnd (qni n (qab.mk x1 x2 (Val.mk x3 x4 x5 x6 x7 x8) x9 x10) (32:Int)) fun x11=>
 some x11
theorem qh5 (n:Nat):∀ (a0z:qab) (r:Bool),qfd n a0z=some r->qae Tryz.prog 62 [PV.agg (qca.cells a0z)] (q5o r):=by
 intro a0z r h;obtain⟨x1,x2,⟨x3,x4,x5,x6,x7,x8⟩,x9,x10⟩:=a0z;unfold qfd at h;refine qae.of_vcN qa3 (fun _ _=>Tryz.call62 _ _) Tryz.func62 (by kernel_rfl) (inl:=[1000000]) ?_;conv=>whnf
 replace h:=qaa h;obtain⟨x11,h1,h⟩:=h;refine⟨_,(q9f n _ _ _ h1),?_⟩;obtain rfl:=sj h;conv=>whnf
 try exact fin
abbrev q36 (r:Bool):PV:=PV.bool r
def qhl (n:Nat) (x1:List SS) (x2:List qab):(Int->Option (Bool))->Int->Option (Bool):=fun nx1 x3=>
 bif(decide (x3<((qam x1).length:Int)))then(
 bnd (idx x1 x3) fun x4=>
 bnd (qjq n x4) fun x5=>
 bnd (qa5 (!(!x5)) (idx x2 x3)) fun⟨x6,x7,⟨x8,x9,x10,x11,x12,x13⟩,x14,x15⟩=>
 bnd (qa5 (!(!x5)) (qfd n (qab.mk x6 x7 (Val.mk x8 x9 x10 x11 x12 x13) x14 x15))) fun x16=>
 bif(bif(!x5)then true else(!x16))then(
 some false)
 else(
 nx1 (IntKind.i64.wrap (x3+1))))
 else(
 some true)
def qlq (n:Nat) (x1:List SS) (x2:List qab):Option (Bool):=
 bif(((qam x1).length:Int) != ((qab.rows x2).length:Int))then(
 some false)
 else(
 qap (qhl n x1 x2) n (0:Int))
theorem quj (n:Nat):∀ (x1:List SS) (x2:List qab) (r:Bool),qlq n x1 x2=some r->qae Tryz.prog 103 [PV.sl (qam x1),PV.sl (qab.rows x2)] (q36 r):=by
 intro x1 x2 r h;unfold qlq at h;refine qae.of_vcN qa3 (fun _ _=>Tryz.call103 _ _) Tryz.func103 (by kernel_rfl) (inl:=[1000000]) ?_;conv=>whnf
 refine ifc h (fun hc h=>?_) (fun hc h=>?_)
 ·obtain rfl:=sj h
  conv=>whnf
  try exact fin
 ·conv=>whnf
  refine qby.fn [1000000] (S:=Int) (fun x3=>[(0,pT x1),(1,pE x2),(5,pI x3)]) (fun x3=>[]) (B:=qhl n x1 x2) h (wk [] []) ?_;intro nx1 x3 h;unfold qhl at h;conv=>whnf
  refine ifc h (fun hc h=>?_) (fun hc h=>?_)
  ·conv=>whnf
   replace h:=qaa h;obtain⟨x4,h4,h⟩:=h;refine⟨_,Codec.at_ qqt h4,?_⟩;conv=>whnf
   replace h:=qaa h;obtain⟨x5,h3,h⟩:=h;refine⟨_,(qig n _ _ h3),?_⟩;conv=>whnf
   refine⟨id,id,?_⟩;conv=>whnf
   replace h:=qaa h;obtain⟨⟨x6,x7,⟨x8,x9,x10,x11,x12,x13⟩,x14,x15⟩,h2,h⟩:=h;refine⟨_,fun hg=>Codec.at_ qca (qah h2 hg),?_⟩;conv=>whnf
   refine⟨id,id,?_⟩;conv=>whnf
   replace h:=qaa h;obtain⟨x16,h1,h⟩:=h;refine⟨_,fun hg=>(qh5 n _ _ (qah h1 hg)),?_⟩;conv=>whnf
   refine⟨id,id,?_⟩;conv=>whnf
   refine ifc h (fun hc h=>?_) (fun hc h=>?_)
   ·obtain rfl:=sj h
    conv=>whnf
    try exact fin
   ·conv=>whnf
    exact⟨(IntKind.i64.wrap (x3+1)),h,wk [] []⟩
  ·obtain rfl:=sj h
   conv=>whnf
   try exact fin
abbrev q5p (r:Bool):PV:=PV.bool r
def qgp (n:Nat) (x5:List SS) (x4:SS) (x6:List SS) (x7:List qab) (nx1:Int->Option (Bool)) (x3:Int):(Int->Option (Bool))->Int->Option (Bool):=fun nx2 x8=>
 bif(decide (x8<((qam x5).length:Int)))then(
 bnd (idx x5 x8) fun x9=>
 bnd (qjq n x9) fun x10=>
 bif(!x10)then(
 some false)
 else(
 nx2 (IntKind.i64.wrap (x8+1))))
 else(
 bnd (qa5 (!(x4==([]:SS))) (qgo n x4)) fun x11=>
 bnd (qa5 (!(bif(!(x4==([]:SS)))then(!x11)else false)) (qlq n x6 x7)) fun x12=>
 bif(bif(bif(!(x4==([]:SS)))then(!x11)else false)then true else(!x12))then(
 some false)
 else(
 nx1 (IntKind.i64.wrap (x3+1))))
def qgq (n:Nat) (x2:List qai):(Int->Option (Bool))->Int->Option (Bool):=fun nx3 x13=>
 bif(decide (x13<((qai.rows x2).length:Int)))then(
 bnd (idx x2 x13) fun⟨x14,x15,x16,x17,x18⟩=>
 bnd (qa5 (!(x14==([]:SS))) (qgo n x14)) fun x19=>
 bnd (qa5 ((!(bif(!(x14==([]:SS)))then(!x19)else false))&&(!(x15==([]:SS)))) (qjq n x15)) fun x20=>
 bnd (qa5 (!(bif(bif(bif(bif(!(x14==([]:SS)))then(!x19)else false)then true else(bif(!(x15==([]:SS)))then(!x20)else false))then true else(decide (x16<0)))then true else(decide (x16>2)))) (qlq n x17 x18)) fun x21=>
 bif(bif(bif(bif(bif(bif(!(x14==([]:SS)))then(!x19)else false)then true else(bif(!(x15==([]:SS)))then(!x20)else false))then true else(decide (x16<0)))then true else(decide (x16>2)))then true else(!x21))then(
 some false)
 else(
 nx3 (IntKind.i64.wrap (x13+1))))
 else(
 some true)
def qh6 (n:Nat) (x1:List qaf) (x2:List qai):(Int->Option (Bool))->Int->Option (Bool):=fun nx1 x3=>
 bif(decide (x3<((qaf.rows x1).length:Int)))then(
 bnd (idx x1 x3) fun⟨x4,x5,x6,x7⟩=>
 qap (qgp n x5 x4 x6 x7 nx1 x3) n (0:Int))
 else(
 qap (qgq n x2) n (0:Int))
def qnj (n:Nat) (a0z:qa9):Option (Bool):=
 match a0z with
 | ⟨x1,x2⟩=>
 bif(((qaf.rows x1).length:Int) != (IntKind.i64.wrap (((qai.rows x2).length:Int)+1)))then(
 some false)
 else(
 qap (qh6 n x1 x2) n (0:Int))
set_option maxHeartbeats 4000000 in
theorem q3n (n:Nat):∀ (a0z:qa9) (r:Bool),qnj n a0z=some r->qae Tryz.prog 60 [PV.agg (qoa.cells a0z)] (q5p r):=by
 intro a0z r h;obtain⟨x1,x2⟩:=a0z;unfold qnj at h;refine qae.of_vcN qa3 (fun _ _=>Tryz.call60 _ _) Tryz.func60 (by kernel_rfl) (inl:=[1000000]) ?_;conv=>whnf
 refine ifc h (fun hc h=>?_) (fun hc h=>?_)
 ·obtain rfl:=sj h
  conv=>whnf
  try exact fin
 ·conv=>whnf
  refine qby.fn [1000000] (S:=Int) (fun x3=>[(1,.ptr 0 0),(3,pI x3)]) (fun x3=>[.box 61 [pN x1,pG x2]]) (B:=qh6 n x1 x2) h (wk [0] []) ?_;intro nx1 x3 h;unfold qh6 at h;conv=>whnf
  refine ifc h (fun hc h=>?_) (fun hc h=>?_)
  ·conv=>whnf
   replace h:=qaa h;obtain⟨⟨x4,x5,x6,x7⟩,h5,h⟩:=h;refine⟨_,Codec.at_ qeq h5,?_⟩;conv=>whnf
   refine qby.fn [1000000] (S:=Int) (fun x8=>[(1,.ptr 0 0),(3,pI x3),(4,.ptr 1 0),(5,pI x8)]) (fun x8=>[.box 61 [pN x1,pG x2],.box 63 [pS x4,pT x5,pT x6,pE x7]]) (B:=qgp n x5 x4 x6 x7 nx1 x3) h (wk [0,1] []) ?_;intro nx2 x8 h;unfold qgp at h;conv=>whnf
   refine ifc h (fun hc h=>?_) (fun hc h=>?_)
   ·conv=>whnf
    replace h:=qaa h;obtain⟨x9,h2,h⟩:=h;refine⟨_,Codec.at_ qqt h2,?_⟩;conv=>whnf
    replace h:=qaa h;obtain⟨x10,h1,h⟩:=h;refine⟨_,(qig n _ _ h1),?_⟩;conv=>whnf
    refine ifc h (fun hc h=>?_) (fun hc h=>?_)
    ·obtain rfl:=sj h
     conv=>whnf
     try exact fin
    ·conv=>whnf
     exact⟨(IntKind.i64.wrap (x8+1)),h,wk [0,1] []⟩
   ·conv=>whnf
    refine⟨id,id,?_⟩;conv=>whnf
    replace h:=qaa h;obtain⟨x11,h4,h⟩:=h;refine⟨_,fun hg=>(qhc n _ _ (qah h4 hg)),?_⟩;conv=>whnf
    refine⟨id,id,id,id,id,id,?_⟩;conv=>whnf
    replace h:=qaa h;obtain⟨x12,h3,h⟩:=h;refine⟨_,fun hg=>(quj n _ _ _ (qah h3 hg)),?_⟩;conv=>whnf
    refine⟨id,id,?_⟩;conv=>whnf
    refine ifc h (fun hc h=>?_) (fun hc h=>?_)
    ·obtain rfl:=sj h
     conv=>whnf
     try exact fin
    ·conv=>whnf
     exact⟨(IntKind.i64.wrap (x3+1)),h,wk [0] []⟩
  ·conv=>whnf
   refine qby.fn [1000000] (S:=Int) (fun x13=>[(1,.ptr 0 0),(6,pI x13)]) (fun x13=>[.box 61 [pN x1,pG x2]]) (B:=qgq n x2) h (wk [0] []) ?_;intro nx3 x13 h;unfold qgq at h;conv=>whnf
   refine ifc h (fun hc h=>?_) (fun hc h=>?_)
   ·conv=>whnf
    replace h:=qaa h;obtain⟨⟨x14,x15,x16,x17,x18⟩,h9,h⟩:=h;refine⟨_,Codec.at_ qgn h9,?_⟩;conv=>whnf
    refine⟨id,id,?_⟩;conv=>whnf
    replace h:=qaa h;obtain⟨x19,h8,h⟩:=h;refine⟨_,fun hg=>(qhc n _ _ (qah h8 hg)),?_⟩;conv=>whnf
    refine⟨id,id,id,id,id,id,id,?_⟩;conv=>whnf
    replace h:=qaa h;obtain⟨x20,h7,h⟩:=h;refine⟨_,fun hg=>(qig n _ _ (qah h7 hg)),?_⟩;conv=>whnf
    refine⟨id,id,id,id,id,id,id,id,id,id,id,id,id,id,?_⟩;conv=>whnf
    replace h:=qaa h;obtain⟨x21,h6,h⟩:=h;refine⟨_,fun hg=>(quj n _ _ _ (qah h6 hg)),?_⟩;conv=>whnf
    refine⟨id,id,?_⟩;conv=>whnf
    refine ifc h (fun hc h=>?_) (fun hc h=>?_)
    ·obtain rfl:=sj h
     conv=>whnf
     try exact fin
    ·conv=>whnf
     exact⟨(IntKind.i64.wrap (x13+1)),h,wk [0] []⟩
   ·obtain rfl:=sj h
    conv=>whnf
    try exact fin
abbrev q93 (r:Bool):PV:=PV.bool r
def qlp (n:Nat) (x1:List qab) (x2:Int):(Int->Option (Bool))->Int->Option (Bool):=fun nx1 x3=>
 bif(decide (x3<((qab.rows x1).length:Int)))then(
 bnd (idx x1 x3) fun⟨x4,x5,⟨x6,x7,x8,x9,x10,x11⟩,x12,x13⟩=>
 bnd (qfd n (qab.mk x4 x5 (Val.mk x6 x7 x8 x9 x10 x11) x12 x13)) fun x14=>
 bif(!x14)then(
 some false)
 else(
 nx1 (IntKind.i64.wrap (x3+1))))
 else(
 some (decide (((qab.rows x1).length:Int)<=x2)))
def qms (n:Nat) (x1:List qab) (x2:Int):Option (Bool):=
 qap (qlp n x1 x2) n (0:Int)
theorem qrb (n:Nat):∀ (x1:List qab) (x2:Int) (r:Bool),qms n x1 x2=some r->qae Tryz.prog 61 [PV.sl (qab.rows x1),PV.int .i64 x2] (q93 r):=by
 intro x1 x2 r h;unfold qms at h;refine qae.of_vcN qa3 (fun _ _=>Tryz.call61 _ _) Tryz.func61 (by kernel_rfl) (inl:=[1000000]) ?_;conv=>whnf
 refine qby.fn [1000000] (S:=Int) (fun x3=>[(0,pE x1),(1,pI x2),(5,pI x3)]) (fun x3=>[]) (B:=qlp n x1 x2) h (wk [] []) ?_;intro nx1 x3 h;unfold qlp at h;conv=>whnf
 refine ifc h (fun hc h=>?_) (fun hc h=>?_)
 ·conv=>whnf
  replace h:=qaa h;obtain⟨⟨x4,x5,⟨x6,x7,x8,x9,x10,x11⟩,x12,x13⟩,h2,h⟩:=h;refine⟨_,Codec.at_ qca h2,?_⟩;conv=>whnf
  replace h:=qaa h;obtain⟨x14,h1,h⟩:=h;refine⟨_,(qh5 n _ _ h1),?_⟩;conv=>whnf
  refine ifc h (fun hc h=>?_) (fun hc h=>?_)
  ·obtain rfl:=sj h
   conv=>whnf
   try exact fin
  ·conv=>whnf
   exact⟨(IntKind.i64.wrap (x3+1)),h,wk [] []⟩
 ·obtain rfl:=sj h
  conv=>whnf
  try exact fin
abbrev zbt (r:Bool):PV:=PV.bool r
def qnm (n:Nat) (x17:List qar) (x15:List qbh) (x18 x19:List qab):(Int->Option (Bool))->Int->Option (Bool):=fun nx2 x48=>
 bif(decide (x48<((qar.rows x17).length:Int)))then(
 bnd (idx x17 x48) fun⟨⟨x49,x50,⟨x51,x52,x53,x54,x55,x56⟩,x57,x58⟩,x59⟩=>
 bnd (qfd n (qab.mk x49 x50 (Val.mk x51 x52 x53 x54 x55 x56) x57 x58)) fun x60=>
 bif(!x60)then(
 some false)
 else(
 nx2 (IntKind.i64.wrap (x48+1))))
 else(
 bnd (qa5 (decide (((qbh.rows x15).length:Int)>0)) (qms n x18 (1:Int))) fun x61=>
 bnd (qa5 (bif(decide (((qbh.rows x15).length:Int)>0))then x61 else false) (qms n x19 (1:Int))) fun x62=>
 some (bif(bif(decide (((qbh.rows x15).length:Int)>0))then x61 else false)then x62 else false))
def qnl (n:Nat) (x15:List qbh) (x17:List qar) (x18 x19:List qab):(Int->Option (Bool))->Int->Option (Bool):=fun nx1 x23=>
 bif(decide (x23<((qbh.rows x15).length:Int)))then(
 bnd (idx x15 x23) fun⟨⟨x24,x25,⟨x26,x27,x28,x29,x30,x31⟩,x32,x33⟩,x34⟩=>
 bnd (qgo n x34) fun x35=>
 bnd (qa5 (!(!x35)) (idx x15 x23)) fun⟨⟨x36,x37,⟨x38,x39,x40,x41,x42,x43⟩,x44,x45⟩,x46⟩=>
 bnd (qa5 (!(!x35)) (qfd n (qab.mk x36 x37 (Val.mk x38 x39 x40 x41 x42 x43) x44 x45))) fun x47=>
 bif(bif(!x35)then true else(!x47))then(
 some false)
 else(
 nx1 (IntKind.i64.wrap (x23+1))))
 else(
 qap (qnm n x17 x15 x18 x19) n (0:Int))
def quk (n:Nat) (a0z:qad):Option (Bool):=
 match a0z with
 | ⟨x1,x2,x3,⟨x4,x5,⟨x6,x7,x8,x9,x10,x11⟩,x12,x13⟩,x14,x15,x16,x17,x18,x19,x20,x21,x22⟩=>
 qap (qnl n x15 x17 x18 x19) n (0:Int)
theorem q9g (n:Nat):∀ (a0z:qad) (r:Bool),quk n a0z=some r->qae Tryz.prog 64 [PV.agg (qcw.cells a0z)] (zbt r):=by
 intro a0z r h;obtain⟨x1,x2,x3,⟨x4,x5,⟨x6,x7,x8,x9,x10,x11⟩,x12,x13⟩,x14,x15,x16,x17,x18,x19,x20,x21,x22⟩:=a0z;unfold quk at h;refine qae.of_vcN qa3 (fun _ _=>Tryz.call64 _ _) Tryz.func64 (by kernel_rfl) (inl:=[1000000]) ?_;conv=>whnf
 refine qby.fn [1000000] (S:=Int) (fun x23=>[(1,.ptr 0 0),(3,pI x23)]) (fun x23=>[.box 55 [pI x1,pP x2,pE x3,pI x4,pS x5,pI x6,pB x7,pI x8,pS x9,pV x10,pT x11,pT x12,pE x13,pS x14,pA x15,pB x16,pO x17,pE x18,pE x19,pU x20,pT x21,pB x22]]) (B:=qnl n x15 x17 x18 x19) h (wk [0] []) ?_;intro nx1 x23 h;unfold qnl at h;conv=>whnf
 refine ifc h (fun hc h=>?_) (fun hc h=>?_)
 ·conv=>whnf
  replace h:=qaa h;obtain⟨⟨⟨x24,x25,⟨x26,x27,x28,x29,x30,x31⟩,x32,x33⟩,x34⟩,h4,h⟩:=h;refine⟨_,Codec.at_ qtc h4,?_⟩;conv=>whnf
  replace h:=qaa h;obtain⟨x35,h3,h⟩:=h;refine⟨_,(qhc n _ _ h3),?_⟩;conv=>whnf
  refine⟨id,id,id,?_⟩;conv=>whnf
  replace h:=qaa h;obtain⟨⟨⟨x36,x37,⟨x38,x39,x40,x41,x42,x43⟩,x44,x45⟩,x46⟩,h2,h⟩:=h;refine⟨_,fun hg=>Codec.at_ qtc (qah h2 hg),?_⟩;conv=>whnf
  refine⟨id,id,id,?_⟩;conv=>whnf
  replace h:=qaa h;obtain⟨x47,h1,h⟩:=h;refine⟨_,fun hg=>(qh5 n _ _ (qah h1 hg)),?_⟩;conv=>whnf
  refine⟨id,id,?_⟩;conv=>whnf
  refine ifc h (fun hc h=>?_) (fun hc h=>?_)
  ·obtain rfl:=sj h
   conv=>whnf
   try exact fin
  ·conv=>whnf
   exact⟨(IntKind.i64.wrap (x23+1)),h,wk [0] []⟩
 ·conv=>whnf
  refine qby.fn [1000000] (S:=Int) (fun x48=>[(1,.ptr 0 0),(4,pI x48)]) (fun x48=>[.box 55 [pI x1,pP x2,pE x3,pI x4,pS x5,pI x6,pB x7,pI x8,pS x9,pV x10,pT x11,pT x12,pE x13,pS x14,pA x15,pB x16,pO x17,pE x18,pE x19,pU x20,pT x21,pB x22]]) (B:=qnm n x17 x15 x18 x19) h (wk [0] []) ?_;intro nx2 x48 h;unfold qnm at h;conv=>whnf
  refine ifc h (fun hc h=>?_) (fun hc h=>?_)
  ·conv=>whnf
   replace h:=qaa h;obtain⟨⟨⟨x49,x50,⟨x51,x52,x53,x54,x55,x56⟩,x57,x58⟩,x59⟩,h6,h⟩:=h;refine⟨_,Codec.at_ qpz h6,?_⟩;conv=>whnf
   replace h:=qaa h;obtain⟨x60,h5,h⟩:=h;refine⟨_,(qh5 n _ _ h5),?_⟩;conv=>whnf
   refine ifc h (fun hc h=>?_) (fun hc h=>?_)
   ·obtain rfl:=sj h
    conv=>whnf
    try exact fin
   ·conv=>whnf
    exact⟨(IntKind.i64.wrap (x48+1)),h,wk [0] []⟩
  ·conv=>whnf
   refine⟨id,id,?_⟩;conv=>whnf
   replace h:=qaa h;obtain⟨x61,h8,h⟩:=h;refine⟨_,fun hg=>(qrb n _ _ _ (qah h8 hg)),?_⟩;conv=>whnf
   refine⟨id,id,id,?_⟩;conv=>whnf
   replace h:=qaa h;obtain⟨x62,h7,h⟩:=h;refine⟨_,fun hg=>(qrb n _ _ _ (qah h7 hg)),?_⟩;conv=>whnf
   refine⟨id,?_⟩;obtain rfl:=sj h;conv=>whnf
   try exact fin
abbrev zbs (r:Bool):PV:=PV.bool r
def qsq (n:Nat) (a0z:qab):Option (Bool):=
 match a0z with
 | ⟨x1,x2,⟨x3,x4,x5,x6,x7,x8⟩,x9,x10⟩=>
 bnd (qa5 (bif(x1==0)then(x2==([]:SS))else false) (qjl n (Val.mk x3 x4 x5 x6 x7 x8) (Val.mk (0:Int) false (0:Int) ([]:SS) ([]:List Val) ([]:List SS)))) fun x11=>
 some (bif(bif(bif(bif(x1==0)then(x2==([]:SS))else false)then x11 else false)then(((qam x9).length:Int)==0)else false)then(((qab.rows x10).length:Int)==0)else false)
theorem q0l (n:Nat):∀ (a0z:qab) (r:Bool),qsq n a0z=some r->qae Tryz.prog 106 [PV.agg (qca.cells a0z)] (zbs r):=by
 intro a0z r h;obtain⟨x1,x2,⟨x3,x4,x5,x6,x7,x8⟩,x9,x10⟩:=a0z;unfold qsq at h;refine qae.of_vcN qa3 (fun _ _=>Tryz.call106 _ _) Tryz.func106 (by kernel_rfl) (inl:=[1000000]) ?_;conv=>whnf
 refine⟨id,id,id,id,id,id,?_⟩;conv=>whnf
 replace h:=qaa h;obtain⟨x11,h1,h⟩:=h;refine⟨_,fun hg=>(qae.leArgs (qu3 n _ _ _ (qah h1 hg)) (by try exact fin)),?_⟩;conv=>whnf
 refine⟨id,id,id,id,id,id,id,id,id,?_⟩;obtain rfl:=sj h;conv=>whnf
 try exact fin
end W
end
