/- A part of the proof: contracts, printed by program. -/
import Derived.Test.YtneaemdbncgcdaaGreatB
import Derived.Test.YtneaemdbncgcdaaGreatC
import Derived.Test.YtneaemdbncgcdaaGreatD
set_option linter.unusedVariables false
set_option linter.unusedSimpArgs false
set_option linter.unnecessarySimpa false
set_option linter.deprecated false
set_option linter.unusedSectionVars false
set_option linter.constructorNameAsVariable false
section
set_option maxRecDepth 100000
open Go Go.Proofs Ax
namespace W
abbrev q7y (x1:List qaj) (x2:Int) (x3:Bool) (r:qaf×Int×Bool):FV:=.p ((PV.agg (qeq.cells r.1)))
abbrev q7m (x1:List qaj) (x2:Int) (x3:Bool) (r:qaf×Int×Bool):List AObj:=[.box 85 [pK x1,.p (.int .i64 r.2.1),.p (.bool r.2.2)]]
def qjv (n:Nat) (x1:List qaj) (x6:SS) (x11:List SS):Int×Bool×List SS×List qab->Option (qaf×Int×Bool):=fun(x17,x18,x19,x20)=>
 bnd (qax n ([41]:SS) x1 x17 x18) fun⟨x21,x22⟩=>
 some (qaf.mk x6 x11 x19 x20,x21,x22)
def qjw (n:Nat) (x1:List qaj) (x6:SS):(Int×Bool×List SS->Option (qaf×Int×Bool))->Int×Bool×List SS->Option (qaf×Int×Bool):=fun nx1 (x9,x10,x11)=>
 bnd (qan n ([58]:SS) x1 x9 x10) fun⟨x12,x13⟩=>
 bif x12 then(
 bnd (qeo n x1 x13 x10) fun⟨x14,x15,x16⟩=>
 chk (decide ((qam (x11++[x14])).length * 16<=140737488355328)) (
 nx1 (x15,x16,(x11++[x14]))))
 else(
 bnd (qcx n ([123]:SS) x1 x13 x10) fun x23=>
 bif x23 then(
 bnd (qa4 n x1 x13 x10) fun⟨x24,x25,x26,x27⟩=>
 qjv n x1 x6 x11 (x26,x27,x24,x25))
 else(
 qjv n x1 x6 x11 (x13,x10,([]:List _),([]:List _))))
def qkl (n:Nat) (x1:List qaj) (x2:Int) (x3:Bool):Option (qaf×Int×Bool):=
 bnd (qax n ([40]:SS) x1 x2 x3) fun⟨x4,x5⟩=>
 bnd (qei n x1 x4 x5) fun⟨x6,x7,x8⟩=>
 qap (qjw n x1 x6) n (x7,x8,([]:List _))
theorem qp9 (n:Nat):∀ (x1:List qaj) (x2:Int) (x3:Bool) (r:qaf×Int×Bool),qkl n x1 x2 x3=some r->qau Tryz.prog 55 [.ptr 0 0] [.box 85 [pK x1,pI x2,pB x3]] 1 (fun v lo=>v=q7y x1 x2 x3 r/\lo=q7m x1 x2 x3 r):=by
 intro x1 x2 x3 r h;unfold qkl at h;refine qau.of_vc qa3 (fun _ _=>Tryz.call55 _ _) Tryz.func55 (by kernel_rfl) (inl:=[48,52,57,96,97,98,1000000]) (Nat.le_of_ble_eq_true rfl) ?_;conv=>whnf
 replace h:=qaa h;obtain⟨⟨x4,x5⟩,h1,h⟩:=h;refine qcl (qa7 n _ _ _ _ _ h1) [0] [] ?_;rintro _ _ ⟨rfl,rfl⟩;refine⟨.p (.tup []),[.box 85 [pK x1,pI x4,pB x5],.box 63 [.p (.str ([]:SS)),.p (.nilsl),.p (.nilsl),.p (.nilsl)]],rfl,rfl,?_⟩;conv=>whnf
 replace h:=qaa h;obtain⟨⟨x6,x7,x8⟩,h2,h⟩:=h;refine qcl (qo7 n _ _ _ _ h2) [0] [] ?_;rintro _ _ ⟨rfl,rfl⟩;refine⟨pS x6,[.box 85 [pK x1,pI x7,pB x8],.box 63 [.p (.str ([]:SS)),.p (.nilsl),.p (.nilsl),.p (.nilsl)],.box 63 [.p (.str ([]:SS)),.p (.nilsl),.p (.nilsl),.p (.nilsl)]],rfl,rfl,?_⟩;conv=>whnf
 refine qby.fn [48,52,57,96,97,98,1000000] (S:=Int×Bool×List SS) (fun(x9,x10,x11)=>[(0,.ptr 0 0),(2,.ptr 1 0),(3,.ptr 2 0)]) (fun(x9,x10,x11)=>[.box 85 [pK x1,pI x9,pB x10],.box 63 [.p (.str ([]:SS)),.p (.nilsl),.p (.nilsl),.p (.nilsl)],.box 63 [pS x6,.tsl 3 (qam x11),.p (.nilsl),.p (.nilsl)],.tail 9 1 (qam x11).length]) (B:=qjw n x1 x6) h (wk [0,1,2,0] [3]) ?_;intro nx1 st h;obtain⟨x9,x10,x11⟩:=st;unfold qjw at h;conv=>whnf
 replace h:=qaa h;obtain⟨⟨x12,x13⟩,h3,h⟩:=h;refine qcl (qak n _ _ _ _ _ h3) [0] [] ?_;rintro _ _ ⟨rfl,rfl⟩;refine⟨pB x12,[.box 85 [pK x1,pI x13,pB x10],.box 63 [.p (.str ([]:SS)),.p (.nilsl),.p (.nilsl),.p (.nilsl)],.box 63 [pS x6,.tsl 3 (qam x11),.p (.nilsl),.p (.nilsl)],.tail 9 1 (qam x11).length],rfl,rfl,?_⟩;conv=>whnf
 refine ifc h (fun hc h=>?_) (fun hc h=>?_)
 ·conv=>whnf
  replace h:=qaa h;obtain⟨⟨x14,x15,x16⟩,h4,h⟩:=h;refine qcl (qhh n _ _ _ _ h4) [0] [] ?_;rintro _ _ ⟨rfl,rfl⟩;refine⟨pS x14,[.box 85 [pK x1,pI x15,pB x16],.box 63 [.p (.str ([]:SS)),.p (.nilsl),.p (.nilsl),.p (.nilsl)],.box 63 [pS x6,.tsl 3 (qam x11),.p (.nilsl),.p (.nilsl)],.tail 9 1 (qam x11).length],rfl,rfl,?_⟩;conv=>whnf
  refine⟨Codec.one qqt [x14],qam [x14],.inl rfl,?_⟩;conv=>whnf
  rw[show qam x11++qam [x14]=qam (x11++[x14])from Codec.append qqt x11 [x14]];conv=>whnf
  obtain⟨h5,h⟩:=qaw h;refine⟨⟨Codec.wide qqt (x11++[x14]),of_decide_eq_true h5,qdx h5 (by decide)⟩,?_⟩;conv=>whnf
  refine⟨⟨rfl,rfl,rfl⟩,?_⟩;conv=>whnf
  exact⟨(x15,x16,(x11++[x14])),h,wk [0,1,2,4] []⟩
 ·conv=>whnf
  refine qje.cut (S:=Int×Bool×List SS×List qab) (fun(x17,x18,x19,x20)=>[(0,.ptr 0 0),(2,.ptr 1 0),(3,.ptr 2 0)]) (fun(x17,x18,x19,x20)=>[.box 85 [pK x1,pI x17,pB x18],.box 63 [.p (.str ([]:SS)),.p (.nilsl),.p (.nilsl),.p (.nilsl)],.box 63 [pS x6,.tsl 3 (qam x11),pT x19,pE x20],.tail 9 1 (qam x11).length]) (qjv n x1 x6 x11) (r:=r) ?_ ?_
  ·intro st h
   obtain⟨x17,x18,x19,x20⟩:=st;unfold qjv at h;conv=>whnf
   replace h:=qaa h;obtain⟨⟨x21,x22⟩,h6,h⟩:=h;refine qcl (qa7 n _ _ _ _ _ h6) [0] [] ?_;rintro _ _ ⟨rfl,rfl⟩;refine⟨.p (.tup []),[.box 85 [pK x1,pI x21,pB x22],.box 63 [.p (.str ([]:SS)),.p (.nilsl),.p (.nilsl),.p (.nilsl)],.box 63 [pS x6,.tsl 3 (qam x11),pT x19,pE x20],.tail 9 1 (qam x11).length],rfl,rfl,?_⟩;obtain rfl:=sj h;conv=>whnf
   refine⟨_,_,⟨rfl,rfl⟩,wk [0] []⟩
  ·conv=>whnf
   replace h:=qaa h;obtain⟨x23,h7,h⟩:=h;refine qcl (qdc n _ _ _ _ _ h7) [0] [] ?_;rintro _ _ ⟨rfl,rfl⟩;refine⟨pB x23,[.box 85 [pK x1,pI x13,pB x10],.box 63 [.p (.str ([]:SS)),.p (.nilsl),.p (.nilsl),.p (.nilsl)],.box 63 [pS x6,.tsl 3 (qam x11),.p (.nilsl),.p (.nilsl)],.tail 9 1 (qam x11).length],rfl,rfl,?_⟩;conv=>whnf
   refine ifc h (fun hc h=>?_) (fun hc h=>?_)
   ·conv=>whnf
    replace h:=qaa h;obtain⟨⟨x24,x25,x26,x27⟩,h8,h⟩:=h;refine qcl (qr6 n _ _ _ _ h8) [0] [] ?_;rintro _ _ ⟨rfl,rfl⟩;refine⟨.p (.tup [.sl (qam x24),.sl (qab.rows x25)]),[.box 85 [pK x1,pI x26,pB x27],.box 63 [.p (.str ([]:SS)),.p (.nilsl),.p (.nilsl),.p (.nilsl)],.box 63 [pS x6,.tsl 3 (qam x11),.p (.nilsl),.p (.nilsl)],.tail 9 1 (qam x11).length],rfl,rfl,?_⟩;conv=>whnf
    exact⟨(x26,x27,x24,x25),h,wk [0,1,2,3] []⟩
   ·conv=>whnf
    exact⟨(x13,x10,([]:List _),([]:List _)),h,wk [0,1,2,3] []⟩
abbrev q7z (x1:List qaj) (x2:Int) (x3:Bool) (r:qa9×Int×Bool):FV:=.p ((PV.agg (qoa.cells r.1)))
abbrev q7n (x1:List qaj) (x2:Int) (x3:Bool) (r:qa9×Int×Bool):List AObj:=[.box 85 [pK x1,.p (.int .i64 r.2.1),.p (.bool r.2.2)]]
def qgt (n:Nat) (x1:List qaj) (x27:Bool) (x13:List qai) (x22 x23:SS) (x24:List SS) (x25:List qab) (x12:List qaf) (nx1:Int×Bool×List qaf×List qai->Option (qa9×Int×Bool)):Int×Int->Option (qa9×Int×Bool):=fun(x28,x29)=>
 bnd (qkl n x1 x28 x27) fun⟨⟨x30,x31,x32,x33⟩,x34,x35⟩=>
 chk (decide ((qai.rows (x13++[qai.mk x22 x23 x29 x24 x25])).length * 88<=140737488355328)) (
 chk (decide ((qaf.rows (x12++[qaf.mk x30 x31 x32 x33])).length * 88<=140737488355328)) (
 nx1 (x34,x35,(x12++[qaf.mk x30 x31 x32 x33]),(x13++[qai.mk x22 x23 x29 x24 x25]))))
def qfp (n:Nat) (x1:List qaj) (x16:Bool) (x13:List qai) (x12:List qaf) (nx1:Int×Bool×List qaf×List qai->Option (qa9×Int×Bool)):Int×Bool×SS×SS×List SS×List qab->Option (qa9×Int×Bool):=fun(x20,x21,x22,x23,x24,x25)=>
 bnd (qax n ([45]:SS) x1 x20 x21) fun⟨x26,x27⟩=>
 bif x16 then(
 qgt n x1 x27 x13 x22 x23 x24 x25 x12 nx1 (x26,(1:Int)))
 else(
 bnd (qan n ([62]:SS) x1 x26 x27) fun⟨x36,x37⟩=>
 bif x36 then(
 qgt n x1 x27 x13 x22 x23 x24 x25 x12 nx1 (x37,(0:Int)))
 else(
 qgt n x1 x27 x13 x22 x23 x24 x25 x12 nx1 (x37,(2:Int))))
def qh7 (n:Nat) (x1:List qaj) (x16:Bool) (x13:List qai) (x12:List qaf) (nx1:Int×Bool×List qaf×List qai->Option (qa9×Int×Bool)) (x40 x45:SS):Int×Bool×List SS×List qab->Option (qa9×Int×Bool):=fun(x46,x47,x48,x49)=>
 bnd (qax n ([93]:SS) x1 x46 x47) fun⟨x50,x51⟩=>
 qfp n x1 x16 x13 x12 nx1 (x50,x51,x40,x45,x48,x49)
def qfq (n:Nat) (x1:List qaj) (x16:Bool) (x13:List qai) (x12:List qaf) (nx1:Int×Bool×List qaf×List qai->Option (qa9×Int×Bool)) (x40:SS):Int×Bool×SS->Option (qa9×Int×Bool):=fun(x43,x44,x45)=>
 bnd (qcx n ([123]:SS) x1 x43 x44) fun x52=>
 bif x52 then(
 bnd (qa4 n x1 x43 x44) fun⟨x53,x54,x55,x56⟩=>
 qh7 n x1 x16 x13 x12 nx1 x40 x45 (x55,x56,x53,x54))
 else(
 qh7 n x1 x16 x13 x12 nx1 x40 x45 (x43,x44,([]:List _),([]:List _)))
def qk8 (n:Nat) (x1:List qaj) (x73:Bool) (x13:List qai) (x68 x69:SS) (x70:List SS) (x71:List qab) (x12:List qaf) (nx1:Int×Bool×List qaf×List qai->Option (qa9×Int×Bool)):Int×Int->Option (qa9×Int×Bool):=fun(x74,x75)=>
 bnd (qkl n x1 x74 x73) fun⟨⟨x76,x77,x78,x79⟩,x80,x81⟩=>
 chk (decide ((qai.rows (x13++[qai.mk x68 x69 x75 x70 x71])).length * 88<=140737488355328)) (
 chk (decide ((qaf.rows (x12++[qaf.mk x76 x77 x78 x79])).length * 88<=140737488355328)) (
 nx1 (x80,x81,(x12++[qaf.mk x76 x77 x78 x79]),(x13++[qai.mk x68 x69 x75 x70 x71]))))
def qk7 (n:Nat) (x1:List qaj) (x62:Bool) (x13:List qai) (x12:List qaf) (nx1:Int×Bool×List qaf×List qai->Option (qa9×Int×Bool)):Int×Bool×SS×SS×List SS×List qab->Option (qa9×Int×Bool):=fun(x66,x67,x68,x69,x70,x71)=>
 bnd (qax n ([45]:SS) x1 x66 x67) fun⟨x72,x73⟩=>
 bif x62 then(
 qk8 n x1 x73 x13 x68 x69 x70 x71 x12 nx1 (x72,(1:Int)))
 else(
 bnd (qan n ([62]:SS) x1 x72 x73) fun⟨x82,x83⟩=>
 bif x82 then(
 qk8 n x1 x73 x13 x68 x69 x70 x71 x12 nx1 (x83,(0:Int)))
 else(
 qk8 n x1 x73 x13 x68 x69 x70 x71 x12 nx1 (x83,(2:Int))))
def qow (n:Nat) (x1:List qaj) (x62:Bool) (x13:List qai) (x12:List qaf) (nx1:Int×Bool×List qaf×List qai->Option (qa9×Int×Bool)) (x86 x91:SS):Int×Bool×List SS×List qab->Option (qa9×Int×Bool):=fun(x92,x93,x94,x95)=>
 bnd (qax n ([93]:SS) x1 x92 x93) fun⟨x96,x97⟩=>
 qk7 n x1 x62 x13 x12 nx1 (x96,x97,x86,x91,x94,x95)
def qk9 (n:Nat) (x1:List qaj) (x62:Bool) (x13:List qai) (x12:List qaf) (nx1:Int×Bool×List qaf×List qai->Option (qa9×Int×Bool)) (x86:SS):Int×Bool×SS->Option (qa9×Int×Bool):=fun(x89,x90,x91)=>
 bnd (qcx n ([123]:SS) x1 x89 x90) fun x98=>
 bif x98 then(
 bnd (qa4 n x1 x89 x90) fun⟨x99,x100,x101,x102⟩=>
 qow n x1 x62 x13 x12 nx1 x86 x91 (x101,x102,x99,x100))
 else(
 qow n x1 x62 x13 x12 nx1 x86 x91 (x89,x90,([]:List _),([]:List _)))
def qjx (n:Nat) (x1:List qaj):(Int×Bool×List qaf×List qai->Option (qa9×Int×Bool))->Int×Bool×List qaf×List qai->Option (qa9×Int×Bool):=fun nx1 (x10,x11,x12,x13)=>
 bnd (qcx n ([45]:SS) x1 x10 x11) fun x14=>
 bif(!x14)then(
 bnd (qcx n ([60]:SS) x1 x10 x11) fun x15=>
 bif(bif x14 then true else x15)then(
 bnd (qan n ([60]:SS) x1 x10 x11) fun⟨x16,x17⟩=>
 bnd (qax n ([45]:SS) x1 x17 x11) fun⟨x18,x19⟩=>
 bnd (qan n ([91]:SS) x1 x18 x19) fun⟨x38,x39⟩=>
 bif x38 then(
 bnd (qei n x1 x39 x19) fun⟨x40,x41,x42⟩=>
 bnd (qan n ([58]:SS) x1 x41 x42) fun⟨x57,x58⟩=>
 bif x57 then(
 bnd (qeo n x1 x58 x42) fun⟨x59,x60,x61⟩=>
 qfq n x1 x16 x13 x12 nx1 x40 (x60,x61,x59))
 else(
 qfq n x1 x16 x13 x12 nx1 x40 (x58,x42,([]:SS))))
 else(
 qfp n x1 x16 x13 x12 nx1 (x39,x19,([]:SS),([]:SS),([]:List _),([]:List _))))
 else(
 some (qa9.mk x12 x13,x10,x11)))
 else(
 bif(bif x14 then true else false)then(
 bnd (qan n ([60]:SS) x1 x10 x11) fun⟨x62,x63⟩=>
 bnd (qax n ([45]:SS) x1 x63 x11) fun⟨x64,x65⟩=>
 bnd (qan n ([91]:SS) x1 x64 x65) fun⟨x84,x85⟩=>
 bif x84 then(
 bnd (qei n x1 x85 x65) fun⟨x86,x87,x88⟩=>
 bnd (qan n ([58]:SS) x1 x87 x88) fun⟨x103,x104⟩=>
 bif x103 then(
 bnd (qeo n x1 x104 x88) fun⟨x105,x106,x107⟩=>
 qk9 n x1 x62 x13 x12 nx1 x86 (x106,x107,x105))
 else(
 qk9 n x1 x62 x13 x12 nx1 x86 (x104,x88,([]:SS))))
 else(
 qk7 n x1 x62 x13 x12 nx1 (x85,x65,([]:SS),([]:SS),([]:List _),([]:List _))))
 else(
 some (qa9.mk x12 x13,x10,x11)))
def qrr (n:Nat) (x1:List qaj) (x2:Int) (x3:Bool):Option (qa9×Int×Bool):=
 bnd (qkl n x1 x2 x3) fun⟨⟨x4,x5,x6,x7⟩,x8,x9⟩=>
 chk (decide ((qaf.rows [qaf.mk x4 x5 x6 x7]).length * 88<=140737488355328)) (
 qap (qjx n x1) n (x8,x9,[qaf.mk x4 x5 x6 x7],([]:List _)))
set_option maxHeartbeats 4000000 in
theorem q47 (n:Nat):∀ (x1:List qaj) (x2:Int) (x3:Bool) (r:qa9×Int×Bool),qrr n x1 x2 x3=some r->qau Tryz.prog 93 [.ptr 0 0] [.box 85 [pK x1,pI x2,pB x3]] 1 (fun v lo=>v=q7z x1 x2 x3 r/\lo=q7n x1 x2 x3 r):=by
 intro x1 x2 x3 r h;unfold qrr at h;refine qau.of_vc qa3 (fun _ _=>Tryz.call93 _ _) Tryz.func93 (by kernel_rfl) (inl:=[48,52,55,57,96,97,98,1000000]) (Nat.le_of_ble_eq_true rfl) ?_;conv=>whnf
 replace h:=qaa h;obtain⟨⟨⟨x4,x5,x6,x7⟩,x8,x9⟩,h1,h⟩:=h;refine qcl (qp9 n _ _ _ _ h1) [0] [] ?_;rintro _ _ ⟨rfl,rfl⟩;refine⟨.p (.agg [.str x4,.sl (qam x5),.sl (qam x6),.sl (qab.rows x7)]),[.box 85 [pK x1,pI x8,pB x9],.box 61 [.p (.nilsl),.p (.nilsl)],.box 61 [.p (.nilsl),.p (.nilsl)]],rfl,rfl,?_⟩;conv=>whnf
 refine⟨Codec.one qeq [qaf.mk x4 x5 x6 x7],qaf.rows [qaf.mk x4 x5 x6 x7],.inl rfl,?_⟩;conv=>whnf
 obtain⟨h32,h⟩:=qaw h;refine⟨⟨Codec.wide qeq [qaf.mk x4 x5 x6 x7],of_decide_eq_true h32,qdx h32 (by decide)⟩,?_⟩;conv=>whnf
 refine qby.fn [48,52,55,57,96,97,98,1000000] (S:=Int×Bool×List qaf×List qai) (fun(x10,x11,x12,x13)=>[(0,.ptr 0 0),(2,.ptr 1 0),(3,.ptr 2 0)]) (fun(x10,x11,x12,x13)=>[.box 85 [pK x1,pI x10,pB x11],.box 61 [.p (.nilsl),.p (.nilsl)],.box 61 [.tsl 3 (qaf.rows x12),.tsl 4 (qai.rows x13)],.tail 63 4 (qaf.rows x12).length,.tail 65 5 (qai.rows x13).length]) (B:=qjx n x1) h (wk [0,1,2,4,0] [4]) ?_;intro nx1 st h;obtain⟨x10,x11,x12,x13⟩:=st;unfold qjx at h;conv=>whnf
 replace h:=qaa h;obtain⟨x14,h2,h⟩:=h;refine qcl (qdc n _ _ _ _ _ h2) [0] [] ?_;rintro _ _ ⟨rfl,rfl⟩;refine⟨pB x14,[.box 85 [pK x1,pI x10,pB x11],.box 61 [.p (.nilsl),.p (.nilsl)],.box 61 [.tsl 3 (qaf.rows x12),.tsl 4 (qai.rows x13)],.tail 63 4 (qaf.rows x12).length,.tail 65 5 (qai.rows x13).length],rfl,rfl,?_⟩;conv=>whnf
 refine⟨fun hg=>?_,fun hg=>?_⟩
 ·have h:=qy4 h hg
  conv=>whnf
  refine⟨id,?_⟩;conv=>whnf
  replace h:=qaa h;obtain⟨x15,h3,h⟩:=h;refine qcl (qdc n _ _ _ _ _ h3) [0] [] ?_;rintro _ _ ⟨rfl,rfl⟩;refine⟨pB x15,[.box 85 [pK x1,pI x10,pB x11],.box 61 [.p (.nilsl),.p (.nilsl)],.box 61 [.tsl 3 (qaf.rows x12),.tsl 4 (qai.rows x13)],.tail 63 4 (qaf.rows x12).length,.tail 65 5 (qai.rows x13).length],rfl,rfl,?_⟩;conv=>whnf
  refine⟨id,?_⟩;conv=>whnf
  refine ifc h (fun hc h=>?_) (fun hc h=>?_)
  ·conv=>whnf
   replace h:=qaa h;obtain⟨⟨x16,x17⟩,h4,h⟩:=h;refine qcl (qak n _ _ _ _ _ h4) [0] [] ?_;rintro _ _ ⟨rfl,rfl⟩;refine⟨pB x16,[.box 85 [pK x1,pI x17,pB x11],.box 61 [.p (.nilsl),.p (.nilsl)],.box 61 [.tsl 3 (qaf.rows x12),.tsl 4 (qai.rows x13)],.tail 63 4 (qaf.rows x12).length,.tail 65 5 (qai.rows x13).length,.box 65 [.p (.str ([]:SS)),.p (.str ([]:SS)),.p (.int .i64 (0:Int)),.p (.nilsl),.p (.nilsl)]],rfl,rfl,?_⟩;conv=>whnf
   replace h:=qaa h;obtain⟨⟨x18,x19⟩,h5,h⟩:=h;refine qcl (qa7 n _ _ _ _ _ h5) [0] [] ?_;rintro _ _ ⟨rfl,rfl⟩;refine⟨.p (.tup []),[.box 85 [pK x1,pI x18,pB x19],.box 61 [.p (.nilsl),.p (.nilsl)],.box 61 [.tsl 3 (qaf.rows x12),.tsl 4 (qai.rows x13)],.tail 63 4 (qaf.rows x12).length,.tail 65 5 (qai.rows x13).length,.box 65 [.p (.str ([]:SS)),.p (.str ([]:SS)),.p (.int .i64 (0:Int)),.p (.nilsl),.p (.nilsl)]],rfl,rfl,?_⟩;conv=>whnf
   refine qje.cut (S:=Int×Bool×SS×SS×List SS×List qab) (fun(x20,x21,x22,x23,x24,x25)=>[(0,.ptr 0 0),(2,.ptr 1 0),(3,.ptr 2 0),(5,.ptr 3 0),(6,pB x16)]) (fun(x20,x21,x22,x23,x24,x25)=>[.box 85 [pK x1,pI x20,pB x21],.box 61 [.p (.nilsl),.p (.nilsl)],.box 61 [.tsl 4 (qaf.rows x12),.tsl 5 (qai.rows x13)],.box 65 [pS x22,pS x23,.p (.int .i64 (0:Int)),pT x24,pE x25],.tail 63 4 (qaf.rows x12).length,.tail 65 5 (qai.rows x13).length]) (qfp n x1 x16 x13 x12 nx1) (r:=r) ?_ ?_
   ·intro st h
    obtain⟨x20,x21,x22,x23,x24,x25⟩:=st;unfold qfp at h;conv=>whnf
    replace h:=qaa h;obtain⟨⟨x26,x27⟩,h6,h⟩:=h;refine qcl (qa7 n _ _ _ _ _ h6) [0] [] ?_;rintro _ _ ⟨rfl,rfl⟩;refine⟨.p (.tup []),[.box 85 [pK x1,pI x26,pB x27],.box 61 [.p (.nilsl),.p (.nilsl)],.box 61 [.tsl 4 (qaf.rows x12),.tsl 5 (qai.rows x13)],.box 65 [pS x22,pS x23,.p (.int .i64 (0:Int)),pT x24,pE x25],.tail 63 4 (qaf.rows x12).length,.tail 65 5 (qai.rows x13).length],rfl,rfl,?_⟩;conv=>whnf
    refine qje.cut (S:=Int×Int) (fun(x28,x29)=>[(0,.ptr 0 0),(2,.ptr 1 0),(3,.ptr 2 0),(5,.ptr 3 0)]) (fun(x28,x29)=>[.box 85 [pK x1,pI x28,pB x27],.box 61 [.p (.nilsl),.p (.nilsl)],.box 61 [.tsl 4 (qaf.rows x12),.tsl 5 (qai.rows x13)],.box 65 [pS x22,pS x23,pI x29,pT x24,pE x25],.tail 63 4 (qaf.rows x12).length,.tail 65 5 (qai.rows x13).length]) (qgt n x1 x27 x13 x22 x23 x24 x25 x12 nx1) (r:=r) ?_ ?_
    ·intro st h
     obtain⟨x28,x29⟩:=st;unfold qgt at h;conv=>whnf
     replace h:=qaa h;obtain⟨⟨⟨x30,x31,x32,x33⟩,x34,x35⟩,h7,h⟩:=h;refine qcl (qp9 n _ _ _ _ h7) [0] [] ?_;rintro _ _ ⟨rfl,rfl⟩;refine⟨.p (.agg [.str x30,.sl (qam x31),.sl (qam x32),.sl (qab.rows x33)]),[.box 85 [pK x1,pI x34,pB x35],.box 61 [.p (.nilsl),.p (.nilsl)],.box 61 [.tsl 4 (qaf.rows x12),.tsl 5 (qai.rows x13)],.box 65 [pS x22,pS x23,pI x29,pT x24,pE x25],.tail 63 4 (qaf.rows x12).length,.tail 65 5 (qai.rows x13).length],rfl,rfl,?_⟩;conv=>whnf
     refine⟨Codec.one qgn [qai.mk x22 x23 x29 x24 x25],qai.rows [qai.mk x22 x23 x29 x24 x25],.inl rfl,?_⟩;conv=>whnf
     rw[show qai.rows x13++qai.rows [qai.mk x22 x23 x29 x24 x25]=qai.rows (x13++[qai.mk x22 x23 x29 x24 x25])from Codec.append qgn x13 [qai.mk x22 x23 x29 x24 x25]];conv=>whnf
     obtain⟨h9,h⟩:=qaw h;refine⟨⟨Codec.wide qgn (x13++[qai.mk x22 x23 x29 x24 x25]),of_decide_eq_true h9,qdx h9 (by decide)⟩,?_⟩;conv=>whnf
     refine⟨⟨rfl,rfl,rfl⟩,?_⟩;conv=>whnf
     refine⟨Codec.one qeq [qaf.mk x30 x31 x32 x33],qaf.rows [qaf.mk x30 x31 x32 x33],.inl rfl,?_⟩;conv=>whnf
     rw[show qaf.rows x12++qaf.rows [qaf.mk x30 x31 x32 x33]=qaf.rows (x12++[qaf.mk x30 x31 x32 x33])from Codec.append qeq x12 [qaf.mk x30 x31 x32 x33]];conv=>whnf
     obtain⟨h8,h⟩:=qaw h;refine⟨⟨Codec.wide qeq (x12++[qaf.mk x30 x31 x32 x33]),of_decide_eq_true h8,qdx h8 (by decide)⟩,?_⟩;conv=>whnf
     refine⟨⟨rfl,rfl,rfl⟩,?_⟩;conv=>whnf
     exact⟨(x34,x35,(x12++[qaf.mk x30 x31 x32 x33]),(x13++[qai.mk x22 x23 x29 x24 x25])),h,wk [0,1,2,8,7] []⟩
    ·conv=>whnf
     refine ifc h (fun hc h=>?_) (fun hc h=>?_)
     ·conv=>whnf
      exact⟨(x26,(1:Int)),h,wk [0,1,2,3,4,5] []⟩
     ·conv=>whnf
      replace h:=qaa h;obtain⟨⟨x36,x37⟩,h10,h⟩:=h;refine qcl (qak n _ _ _ _ _ h10) [0] [] ?_;rintro _ _ ⟨rfl,rfl⟩;refine⟨pB x36,[.box 85 [pK x1,pI x37,pB x27],.box 61 [.p (.nilsl),.p (.nilsl)],.box 61 [.tsl 4 (qaf.rows x12),.tsl 5 (qai.rows x13)],.box 65 [pS x22,pS x23,.p (.int .i64 (2:Int)),pT x24,pE x25],.tail 63 4 (qaf.rows x12).length,.tail 65 5 (qai.rows x13).length],rfl,rfl,?_⟩;conv=>whnf
      refine ifc h (fun hc h=>?_) (fun hc h=>?_)
      ·conv=>whnf
       exact⟨(x37,(0:Int)),h,wk [0,1,2,3,4,5] []⟩
      ·conv=>whnf
       exact⟨(x37,(2:Int)),h,wk [0,1,2,3,4,5] []⟩
   ·conv=>whnf
    replace h:=qaa h;obtain⟨⟨x38,x39⟩,h11,h⟩:=h;refine qcl (qak n _ _ _ _ _ h11) [0] [] ?_;rintro _ _ ⟨rfl,rfl⟩;refine⟨pB x38,[.box 85 [pK x1,pI x39,pB x19],.box 61 [.p (.nilsl),.p (.nilsl)],.box 61 [.tsl 3 (qaf.rows x12),.tsl 4 (qai.rows x13)],.tail 63 4 (qaf.rows x12).length,.tail 65 5 (qai.rows x13).length,.box 65 [.p (.str ([]:SS)),.p (.str ([]:SS)),.p (.int .i64 (0:Int)),.p (.nilsl),.p (.nilsl)]],rfl,rfl,?_⟩;conv=>whnf
    refine ifc h (fun hc h=>?_) (fun hc h=>?_)
    ·conv=>whnf
     replace h:=qaa h;obtain⟨⟨x40,x41,x42⟩,h12,h⟩:=h;refine qcl (qo7 n _ _ _ _ h12) [0] [] ?_;rintro _ _ ⟨rfl,rfl⟩;refine⟨pS x40,[.box 85 [pK x1,pI x41,pB x42],.box 61 [.p (.nilsl),.p (.nilsl)],.box 61 [.tsl 3 (qaf.rows x12),.tsl 4 (qai.rows x13)],.tail 63 4 (qaf.rows x12).length,.tail 65 5 (qai.rows x13).length,.box 65 [.p (.str ([]:SS)),.p (.str ([]:SS)),.p (.int .i64 (0:Int)),.p (.nilsl),.p (.nilsl)]],rfl,rfl,?_⟩;conv=>whnf
     refine qje.cut (S:=Int×Bool×SS) (fun(x43,x44,x45)=>[(0,.ptr 0 0),(2,.ptr 1 0),(3,.ptr 2 0),(5,.ptr 3 0),(6,pB x16)]) (fun(x43,x44,x45)=>[.box 85 [pK x1,pI x43,pB x44],.box 61 [.p (.nilsl),.p (.nilsl)],.box 61 [.tsl 4 (qaf.rows x12),.tsl 5 (qai.rows x13)],.box 65 [pS x40,pS x45,.p (.int .i64 (0:Int)),.p (.nilsl),.p (.nilsl)],.tail 63 4 (qaf.rows x12).length,.tail 65 5 (qai.rows x13).length]) (qfq n x1 x16 x13 x12 nx1 x40) (r:=r) ?_ ?_
     ·intro st h
      obtain⟨x43,x44,x45⟩:=st;unfold qfq at h;conv=>whnf
      refine qje.cut (S:=Int×Bool×List SS×List qab) (fun(x46,x47,x48,x49)=>[(0,.ptr 0 0),(2,.ptr 1 0),(3,.ptr 2 0),(5,.ptr 3 0),(6,pB x16)]) (fun(x46,x47,x48,x49)=>[.box 85 [pK x1,pI x46,pB x47],.box 61 [.p (.nilsl),.p (.nilsl)],.box 61 [.tsl 4 (qaf.rows x12),.tsl 5 (qai.rows x13)],.box 65 [pS x40,pS x45,.p (.int .i64 (0:Int)),pT x48,pE x49],.tail 63 4 (qaf.rows x12).length,.tail 65 5 (qai.rows x13).length]) (qh7 n x1 x16 x13 x12 nx1 x40 x45) (r:=r) ?_ ?_
      ·intro st h
       obtain⟨x46,x47,x48,x49⟩:=st;unfold qh7 at h;conv=>whnf
       replace h:=qaa h;obtain⟨⟨x50,x51⟩,h13,h⟩:=h;refine qcl (qa7 n _ _ _ _ _ h13) [0] [] ?_;rintro _ _ ⟨rfl,rfl⟩;refine⟨.p (.tup []),[.box 85 [pK x1,pI x50,pB x51],.box 61 [.p (.nilsl),.p (.nilsl)],.box 61 [.tsl 4 (qaf.rows x12),.tsl 5 (qai.rows x13)],.box 65 [pS x40,pS x45,.p (.int .i64 (0:Int)),pT x48,pE x49],.tail 63 4 (qaf.rows x12).length,.tail 65 5 (qai.rows x13).length],rfl,rfl,?_⟩;conv=>whnf
       exact⟨(x50,x51,x40,x45,x48,x49),h,wk [0,1,2,3,4,5] []⟩
      ·conv=>whnf
       replace h:=qaa h;obtain⟨x52,h14,h⟩:=h;refine qcl (qdc n _ _ _ _ _ h14) [0] [] ?_;rintro _ _ ⟨rfl,rfl⟩;refine⟨pB x52,[.box 85 [pK x1,pI x43,pB x44],.box 61 [.p (.nilsl),.p (.nilsl)],.box 61 [.tsl 4 (qaf.rows x12),.tsl 5 (qai.rows x13)],.box 65 [pS x40,pS x45,.p (.int .i64 (0:Int)),.p (.nilsl),.p (.nilsl)],.tail 63 4 (qaf.rows x12).length,.tail 65 5 (qai.rows x13).length],rfl,rfl,?_⟩;conv=>whnf
       refine ifc h (fun hc h=>?_) (fun hc h=>?_)
       ·conv=>whnf
        replace h:=qaa h;obtain⟨⟨x53,x54,x55,x56⟩,h15,h⟩:=h;refine qcl (qr6 n _ _ _ _ h15) [0] [] ?_;rintro _ _ ⟨rfl,rfl⟩;refine⟨.p (.tup [.sl (qam x53),.sl (qab.rows x54)]),[.box 85 [pK x1,pI x55,pB x56],.box 61 [.p (.nilsl),.p (.nilsl)],.box 61 [.tsl 4 (qaf.rows x12),.tsl 5 (qai.rows x13)],.box 65 [pS x40,pS x45,.p (.int .i64 (0:Int)),.p (.nilsl),.p (.nilsl)],.tail 63 4 (qaf.rows x12).length,.tail 65 5 (qai.rows x13).length],rfl,rfl,?_⟩;conv=>whnf
        exact⟨(x55,x56,x53,x54),h,wk [0,1,2,3,4,5] []⟩
       ·conv=>whnf
        exact⟨(x43,x44,([]:List _),([]:List _)),h,wk [0,1,2,3,4,5] []⟩
     ·conv=>whnf
      replace h:=qaa h;obtain⟨⟨x57,x58⟩,h16,h⟩:=h;refine qcl (qak n _ _ _ _ _ h16) [0] [] ?_;rintro _ _ ⟨rfl,rfl⟩;refine⟨pB x57,[.box 85 [pK x1,pI x58,pB x42],.box 61 [.p (.nilsl),.p (.nilsl)],.box 61 [.tsl 3 (qaf.rows x12),.tsl 4 (qai.rows x13)],.tail 63 4 (qaf.rows x12).length,.tail 65 5 (qai.rows x13).length,.box 65 [pS x40,.p (.str ([]:SS)),.p (.int .i64 (0:Int)),.p (.nilsl),.p (.nilsl)]],rfl,rfl,?_⟩;conv=>whnf
      refine ifc h (fun hc h=>?_) (fun hc h=>?_)
      ·conv=>whnf
       replace h:=qaa h;obtain⟨⟨x59,x60,x61⟩,h17,h⟩:=h;refine qcl (qhh n _ _ _ _ h17) [0] [] ?_;rintro _ _ ⟨rfl,rfl⟩;refine⟨pS x59,[.box 85 [pK x1,pI x60,pB x61],.box 61 [.p (.nilsl),.p (.nilsl)],.box 61 [.tsl 3 (qaf.rows x12),.tsl 4 (qai.rows x13)],.tail 63 4 (qaf.rows x12).length,.tail 65 5 (qai.rows x13).length,.box 65 [pS x40,.p (.str ([]:SS)),.p (.int .i64 (0:Int)),.p (.nilsl),.p (.nilsl)]],rfl,rfl,?_⟩;conv=>whnf
       exact⟨(x60,x61,x59),h,wk [0,1,2,5,3,4] []⟩
      ·conv=>whnf
       exact⟨(x58,x42,([]:SS)),h,wk [0,1,2,5,3,4] []⟩
    ·conv=>whnf
     exact⟨(x39,x19,([]:SS),([]:SS),([]:List _),([]:List _)),h,wk [0,1,2,5,3,4] []⟩
  ·obtain rfl:=sj h
   conv=>whnf
   refine⟨_,_,⟨rfl,rfl⟩,wk [0] []⟩
 ·have h:=qy3 h hg
  refine⟨pB false,?_⟩;conv=>whnf
  refine⟨id,?_⟩;conv=>whnf
  refine ifc h (fun hc h=>?_) (fun hc h=>?_)
  ·conv=>whnf
   replace h:=qaa h;obtain⟨⟨x62,x63⟩,h18,h⟩:=h;refine qcl (qak n _ _ _ _ _ h18) [0] [] ?_;rintro _ _ ⟨rfl,rfl⟩;refine⟨pB x62,[.box 85 [pK x1,pI x63,pB x11],.box 61 [.p (.nilsl),.p (.nilsl)],.box 61 [.tsl 3 (qaf.rows x12),.tsl 4 (qai.rows x13)],.tail 63 4 (qaf.rows x12).length,.tail 65 5 (qai.rows x13).length,.box 65 [.p (.str ([]:SS)),.p (.str ([]:SS)),.p (.int .i64 (0:Int)),.p (.nilsl),.p (.nilsl)]],rfl,rfl,?_⟩;conv=>whnf
   replace h:=qaa h;obtain⟨⟨x64,x65⟩,h19,h⟩:=h;refine qcl (qa7 n _ _ _ _ _ h19) [0] [] ?_;rintro _ _ ⟨rfl,rfl⟩;refine⟨.p (.tup []),[.box 85 [pK x1,pI x64,pB x65],.box 61 [.p (.nilsl),.p (.nilsl)],.box 61 [.tsl 3 (qaf.rows x12),.tsl 4 (qai.rows x13)],.tail 63 4 (qaf.rows x12).length,.tail 65 5 (qai.rows x13).length,.box 65 [.p (.str ([]:SS)),.p (.str ([]:SS)),.p (.int .i64 (0:Int)),.p (.nilsl),.p (.nilsl)]],rfl,rfl,?_⟩;conv=>whnf
   refine qje.cut (S:=Int×Bool×SS×SS×List SS×List qab) (fun(x66,x67,x68,x69,x70,x71)=>[(0,.ptr 0 0),(2,.ptr 1 0),(3,.ptr 2 0),(5,.ptr 3 0),(6,pB x62)]) (fun(x66,x67,x68,x69,x70,x71)=>[.box 85 [pK x1,pI x66,pB x67],.box 61 [.p (.nilsl),.p (.nilsl)],.box 61 [.tsl 4 (qaf.rows x12),.tsl 5 (qai.rows x13)],.box 65 [pS x68,pS x69,.p (.int .i64 (0:Int)),pT x70,pE x71],.tail 63 4 (qaf.rows x12).length,.tail 65 5 (qai.rows x13).length]) (qk7 n x1 x62 x13 x12 nx1) (r:=r) ?_ ?_
   ·intro st h
    obtain⟨x66,x67,x68,x69,x70,x71⟩:=st;unfold qk7 at h;conv=>whnf
    replace h:=qaa h;obtain⟨⟨x72,x73⟩,h20,h⟩:=h;refine qcl (qa7 n _ _ _ _ _ h20) [0] [] ?_;rintro _ _ ⟨rfl,rfl⟩;refine⟨.p (.tup []),[.box 85 [pK x1,pI x72,pB x73],.box 61 [.p (.nilsl),.p (.nilsl)],.box 61 [.tsl 4 (qaf.rows x12),.tsl 5 (qai.rows x13)],.box 65 [pS x68,pS x69,.p (.int .i64 (0:Int)),pT x70,pE x71],.tail 63 4 (qaf.rows x12).length,.tail 65 5 (qai.rows x13).length],rfl,rfl,?_⟩;conv=>whnf
    refine qje.cut (S:=Int×Int) (fun(x74,x75)=>[(0,.ptr 0 0),(2,.ptr 1 0),(3,.ptr 2 0),(5,.ptr 3 0)]) (fun(x74,x75)=>[.box 85 [pK x1,pI x74,pB x73],.box 61 [.p (.nilsl),.p (.nilsl)],.box 61 [.tsl 4 (qaf.rows x12),.tsl 5 (qai.rows x13)],.box 65 [pS x68,pS x69,pI x75,pT x70,pE x71],.tail 63 4 (qaf.rows x12).length,.tail 65 5 (qai.rows x13).length]) (qk8 n x1 x73 x13 x68 x69 x70 x71 x12 nx1) (r:=r) ?_ ?_
    ·intro st h
     obtain⟨x74,x75⟩:=st;unfold qk8 at h;conv=>whnf
     replace h:=qaa h;obtain⟨⟨⟨x76,x77,x78,x79⟩,x80,x81⟩,h21,h⟩:=h;refine qcl (qp9 n _ _ _ _ h21) [0] [] ?_;rintro _ _ ⟨rfl,rfl⟩;refine⟨.p (.agg [.str x76,.sl (qam x77),.sl (qam x78),.sl (qab.rows x79)]),[.box 85 [pK x1,pI x80,pB x81],.box 61 [.p (.nilsl),.p (.nilsl)],.box 61 [.tsl 4 (qaf.rows x12),.tsl 5 (qai.rows x13)],.box 65 [pS x68,pS x69,pI x75,pT x70,pE x71],.tail 63 4 (qaf.rows x12).length,.tail 65 5 (qai.rows x13).length],rfl,rfl,?_⟩;conv=>whnf
     refine⟨Codec.one qgn [qai.mk x68 x69 x75 x70 x71],qai.rows [qai.mk x68 x69 x75 x70 x71],.inl rfl,?_⟩;conv=>whnf
     rw[show qai.rows x13++qai.rows [qai.mk x68 x69 x75 x70 x71]=qai.rows (x13++[qai.mk x68 x69 x75 x70 x71])from Codec.append qgn x13 [qai.mk x68 x69 x75 x70 x71]];conv=>whnf
     obtain⟨h23,h⟩:=qaw h;refine⟨⟨Codec.wide qgn (x13++[qai.mk x68 x69 x75 x70 x71]),of_decide_eq_true h23,qdx h23 (by decide)⟩,?_⟩;conv=>whnf
     refine⟨⟨rfl,rfl,rfl⟩,?_⟩;conv=>whnf
     refine⟨Codec.one qeq [qaf.mk x76 x77 x78 x79],qaf.rows [qaf.mk x76 x77 x78 x79],.inl rfl,?_⟩;conv=>whnf
     rw[show qaf.rows x12++qaf.rows [qaf.mk x76 x77 x78 x79]=qaf.rows (x12++[qaf.mk x76 x77 x78 x79])from Codec.append qeq x12 [qaf.mk x76 x77 x78 x79]];conv=>whnf
     obtain⟨h22,h⟩:=qaw h;refine⟨⟨Codec.wide qeq (x12++[qaf.mk x76 x77 x78 x79]),of_decide_eq_true h22,qdx h22 (by decide)⟩,?_⟩;conv=>whnf
     refine⟨⟨rfl,rfl,rfl⟩,?_⟩;conv=>whnf
     exact⟨(x80,x81,(x12++[qaf.mk x76 x77 x78 x79]),(x13++[qai.mk x68 x69 x75 x70 x71])),h,wk [0,1,2,8,7] []⟩
    ·conv=>whnf
     refine ifc h (fun hc h=>?_) (fun hc h=>?_)
     ·conv=>whnf
      exact⟨(x72,(1:Int)),h,wk [0,1,2,3,4,5] []⟩
     ·conv=>whnf
      replace h:=qaa h;obtain⟨⟨x82,x83⟩,h24,h⟩:=h;refine qcl (qak n _ _ _ _ _ h24) [0] [] ?_;rintro _ _ ⟨rfl,rfl⟩;refine⟨pB x82,[.box 85 [pK x1,pI x83,pB x73],.box 61 [.p (.nilsl),.p (.nilsl)],.box 61 [.tsl 4 (qaf.rows x12),.tsl 5 (qai.rows x13)],.box 65 [pS x68,pS x69,.p (.int .i64 (2:Int)),pT x70,pE x71],.tail 63 4 (qaf.rows x12).length,.tail 65 5 (qai.rows x13).length],rfl,rfl,?_⟩;conv=>whnf
      refine ifc h (fun hc h=>?_) (fun hc h=>?_)
      ·conv=>whnf
       exact⟨(x83,(0:Int)),h,wk [0,1,2,3,4,5] []⟩
      ·conv=>whnf
       exact⟨(x83,(2:Int)),h,wk [0,1,2,3,4,5] []⟩
   ·conv=>whnf
    replace h:=qaa h;obtain⟨⟨x84,x85⟩,h25,h⟩:=h;refine qcl (qak n _ _ _ _ _ h25) [0] [] ?_;rintro _ _ ⟨rfl,rfl⟩;refine⟨pB x84,[.box 85 [pK x1,pI x85,pB x65],.box 61 [.p (.nilsl),.p (.nilsl)],.box 61 [.tsl 3 (qaf.rows x12),.tsl 4 (qai.rows x13)],.tail 63 4 (qaf.rows x12).length,.tail 65 5 (qai.rows x13).length,.box 65 [.p (.str ([]:SS)),.p (.str ([]:SS)),.p (.int .i64 (0:Int)),.p (.nilsl),.p (.nilsl)]],rfl,rfl,?_⟩;conv=>whnf
    refine ifc h (fun hc h=>?_) (fun hc h=>?_)
    ·conv=>whnf
     replace h:=qaa h;obtain⟨⟨x86,x87,x88⟩,h26,h⟩:=h;refine qcl (qo7 n _ _ _ _ h26) [0] [] ?_;rintro _ _ ⟨rfl,rfl⟩;refine⟨pS x86,[.box 85 [pK x1,pI x87,pB x88],.box 61 [.p (.nilsl),.p (.nilsl)],.box 61 [.tsl 3 (qaf.rows x12),.tsl 4 (qai.rows x13)],.tail 63 4 (qaf.rows x12).length,.tail 65 5 (qai.rows x13).length,.box 65 [.p (.str ([]:SS)),.p (.str ([]:SS)),.p (.int .i64 (0:Int)),.p (.nilsl),.p (.nilsl)]],rfl,rfl,?_⟩;conv=>whnf
     refine qje.cut (S:=Int×Bool×SS) (fun(x89,x90,x91)=>[(0,.ptr 0 0),(2,.ptr 1 0),(3,.ptr 2 0),(5,.ptr 3 0),(6,pB x62)]) (fun(x89,x90,x91)=>[.box 85 [pK x1,pI x89,pB x90],.box 61 [.p (.nilsl),.p (.nilsl)],.box 61 [.tsl 4 (qaf.rows x12),.tsl 5 (qai.rows x13)],.box 65 [pS x86,pS x91,.p (.int .i64 (0:Int)),.p (.nilsl),.p (.nilsl)],.tail 63 4 (qaf.rows x12).length,.tail 65 5 (qai.rows x13).length]) (qk9 n x1 x62 x13 x12 nx1 x86) (r:=r) ?_ ?_
     ·intro st h
      obtain⟨x89,x90,x91⟩:=st;unfold qk9 at h;conv=>whnf
      refine qje.cut (S:=Int×Bool×List SS×List qab) (fun(x92,x93,x94,x95)=>[(0,.ptr 0 0),(2,.ptr 1 0),(3,.ptr 2 0),(5,.ptr 3 0),(6,pB x62)]) (fun(x92,x93,x94,x95)=>[.box 85 [pK x1,pI x92,pB x93],.box 61 [.p (.nilsl),.p (.nilsl)],.box 61 [.tsl 4 (qaf.rows x12),.tsl 5 (qai.rows x13)],.box 65 [pS x86,pS x91,.p (.int .i64 (0:Int)),pT x94,pE x95],.tail 63 4 (qaf.rows x12).length,.tail 65 5 (qai.rows x13).length]) (qow n x1 x62 x13 x12 nx1 x86 x91) (r:=r) ?_ ?_
      ·intro st h
       obtain⟨x92,x93,x94,x95⟩:=st;unfold qow at h;conv=>whnf
       replace h:=qaa h;obtain⟨⟨x96,x97⟩,h27,h⟩:=h;refine qcl (qa7 n _ _ _ _ _ h27) [0] [] ?_;rintro _ _ ⟨rfl,rfl⟩;refine⟨.p (.tup []),[.box 85 [pK x1,pI x96,pB x97],.box 61 [.p (.nilsl),.p (.nilsl)],.box 61 [.tsl 4 (qaf.rows x12),.tsl 5 (qai.rows x13)],.box 65 [pS x86,pS x91,.p (.int .i64 (0:Int)),pT x94,pE x95],.tail 63 4 (qaf.rows x12).length,.tail 65 5 (qai.rows x13).length],rfl,rfl,?_⟩;conv=>whnf
       exact⟨(x96,x97,x86,x91,x94,x95),h,wk [0,1,2,3,4,5] []⟩
      ·conv=>whnf
       replace h:=qaa h;obtain⟨x98,h28,h⟩:=h;refine qcl (qdc n _ _ _ _ _ h28) [0] [] ?_;rintro _ _ ⟨rfl,rfl⟩;refine⟨pB x98,[.box 85 [pK x1,pI x89,pB x90],.box 61 [.p (.nilsl),.p (.nilsl)],.box 61 [.tsl 4 (qaf.rows x12),.tsl 5 (qai.rows x13)],.box 65 [pS x86,pS x91,.p (.int .i64 (0:Int)),.p (.nilsl),.p (.nilsl)],.tail 63 4 (qaf.rows x12).length,.tail 65 5 (qai.rows x13).length],rfl,rfl,?_⟩;conv=>whnf
       refine ifc h (fun hc h=>?_) (fun hc h=>?_)
       ·conv=>whnf
        replace h:=qaa h;obtain⟨⟨x99,x100,x101,x102⟩,h29,h⟩:=h;refine qcl (qr6 n _ _ _ _ h29) [0] [] ?_;rintro _ _ ⟨rfl,rfl⟩;refine⟨.p (.tup [.sl (qam x99),.sl (qab.rows x100)]),[.box 85 [pK x1,pI x101,pB x102],.box 61 [.p (.nilsl),.p (.nilsl)],.box 61 [.tsl 4 (qaf.rows x12),.tsl 5 (qai.rows x13)],.box 65 [pS x86,pS x91,.p (.int .i64 (0:Int)),.p (.nilsl),.p (.nilsl)],.tail 63 4 (qaf.rows x12).length,.tail 65 5 (qai.rows x13).length],rfl,rfl,?_⟩;conv=>whnf
        exact⟨(x101,x102,x99,x100),h,wk [0,1,2,3,4,5] []⟩
       ·conv=>whnf
        exact⟨(x89,x90,([]:List _),([]:List _)),h,wk [0,1,2,3,4,5] []⟩
     ·conv=>whnf
      replace h:=qaa h;obtain⟨⟨x103,x104⟩,h30,h⟩:=h;refine qcl (qak n _ _ _ _ _ h30) [0] [] ?_;rintro _ _ ⟨rfl,rfl⟩;refine⟨pB x103,[.box 85 [pK x1,pI x104,pB x88],.box 61 [.p (.nilsl),.p (.nilsl)],.box 61 [.tsl 3 (qaf.rows x12),.tsl 4 (qai.rows x13)],.tail 63 4 (qaf.rows x12).length,.tail 65 5 (qai.rows x13).length,.box 65 [pS x86,.p (.str ([]:SS)),.p (.int .i64 (0:Int)),.p (.nilsl),.p (.nilsl)]],rfl,rfl,?_⟩;conv=>whnf
      refine ifc h (fun hc h=>?_) (fun hc h=>?_)
      ·conv=>whnf
       replace h:=qaa h;obtain⟨⟨x105,x106,x107⟩,h31,h⟩:=h;refine qcl (qhh n _ _ _ _ h31) [0] [] ?_;rintro _ _ ⟨rfl,rfl⟩;refine⟨pS x105,[.box 85 [pK x1,pI x106,pB x107],.box 61 [.p (.nilsl),.p (.nilsl)],.box 61 [.tsl 3 (qaf.rows x12),.tsl 4 (qai.rows x13)],.tail 63 4 (qaf.rows x12).length,.tail 65 5 (qai.rows x13).length,.box 65 [pS x86,.p (.str ([]:SS)),.p (.int .i64 (0:Int)),.p (.nilsl),.p (.nilsl)]],rfl,rfl,?_⟩;conv=>whnf
       exact⟨(x106,x107,x105),h,wk [0,1,2,5,3,4] []⟩
      ·conv=>whnf
       exact⟨(x104,x88,([]:SS)),h,wk [0,1,2,5,3,4] []⟩
    ·conv=>whnf
     exact⟨(x85,x65,([]:SS),([]:SS),([]:List _),([]:List _)),h,wk [0,1,2,5,3,4] []⟩
  ·obtain rfl:=sj h
   conv=>whnf
   refine⟨_,_,⟨rfl,rfl⟩,wk [0] []⟩
abbrev q5q (x1:List qaj) (x2:Int) (x3:Bool) (r:(List qa9)×Int×Bool):FV:=.p (.sl (qa9.rows r.1))
abbrev q5m (x1:List qaj) (x2:Int) (x3:Bool) (r:(List qa9)×Int×Bool):List AObj:=[.box 85 [pK x1,.p (.int .i64 r.2.1),.p (.bool r.2.2)]]
def qh8 (n:Nat) (x1:List qaj):(List qa9×Int×Bool->Option ((List qa9)×Int×Bool))->List qa9×Int×Bool->Option ((List qa9)×Int×Bool):=fun nx1 (x4,x5,x6)=>
 bnd (qrr n x1 x5 x6) fun⟨⟨x7,x8⟩,x9,x10⟩=>
 chk (decide ((qa9.rows (x4++[qa9.mk x7 x8])).length * 48<=140737488355328)) (
 bnd (qan n ([44]:SS) x1 x9 x10) fun⟨x11,x12⟩=>
 bif(!x11)then(
 some ((x4++[qa9.mk x7 x8]),x12,x10))
 else(
 nx1 ((x4++[qa9.mk x7 x8]),x12,x10)))
def qnp (n:Nat) (x1:List qaj) (x2:Int) (x3:Bool):Option ((List qa9)×Int×Bool):=
 qap (qh8 n x1) n (([]:List _),x2,x3)
theorem qvy (n:Nat):∀ (x1:List qaj) (x2:Int) (x3:Bool) (r:(List qa9)×Int×Bool),qnp n x1 x2 x3=some r->qau Tryz.prog 49 [.ptr 0 0] [.box 85 [pK x1,pI x2,pB x3]] 1 (fun v lo=>v=q5q x1 x2 x3 r/\lo=q5m x1 x2 x3 r):=by
 intro x1 x2 x3 r h;unfold qnp at h;refine qau.of_vc qa3 (fun _ _=>Tryz.call49 _ _) Tryz.func49 (by kernel_rfl) (inl:=[48,93,1000000]) (Nat.le_of_ble_eq_true rfl) ?_;conv=>whnf
 refine qby.fn [48,93,1000000] (S:=List qa9×Int×Bool) (fun(x4,x5,x6)=>[(0,.ptr 0 0),(3,.tsl 1 (qa9.rows x4))]) (fun(x4,x5,x6)=>[.box 85 [pK x1,pI x5,pB x6],.tail 61 2 (qa9.rows x4).length]) (B:=qh8 n x1) h (wk [0,0] [1]) ?_;intro nx1 st h;obtain⟨x4,x5,x6⟩:=st;unfold qh8 at h;conv=>whnf
 replace h:=qaa h;obtain⟨⟨⟨x7,x8⟩,x9,x10⟩,h1,h⟩:=h;refine qcl (q47 n _ _ _ _ h1) [0] [] ?_;rintro _ _ ⟨rfl,rfl⟩;refine⟨.p (.agg [.sl (qaf.rows x7),.sl (qai.rows x8)]),[.box 85 [pK x1,pI x9,pB x10],.tail 61 2 (qa9.rows x4).length],rfl,rfl,?_⟩;conv=>whnf
 refine⟨Codec.one qoa [qa9.mk x7 x8],qa9.rows [qa9.mk x7 x8],.inl rfl,?_⟩;conv=>whnf
 rw[show qa9.rows x4++qa9.rows [qa9.mk x7 x8]=qa9.rows (x4++[qa9.mk x7 x8])from Codec.append qoa x4 [qa9.mk x7 x8]];conv=>whnf
 obtain⟨h3,h⟩:=qaw h;refine⟨⟨Codec.wide qoa (x4++[qa9.mk x7 x8]),of_decide_eq_true h3,qdx h3 (by decide)⟩,?_⟩;conv=>whnf
 refine⟨⟨rfl,rfl,rfl⟩,?_⟩;conv=>whnf
 replace h:=qaa h;obtain⟨⟨x11,x12⟩,h2,h⟩:=h;refine qcl (qak n _ _ _ _ _ h2) [0] [] ?_;rintro _ _ ⟨rfl,rfl⟩;refine⟨pB x11,[.box 85 [pK x1,pI x12,pB x10],.dead,.box 61 [pN x7,pG x8],.tail 61 2 (qa9.rows (x4++[qa9.mk x7 x8])).length],rfl,rfl,?_⟩;conv=>whnf
 refine ifc h (fun hc h=>?_) (fun hc h=>?_)
 ·obtain rfl:=sj h
  conv=>whnf
  refine⟨_,_,⟨rfl,rfl⟩,wk [0] []⟩
 ·conv=>whnf
  exact⟨((x4++[qa9.mk x7 x8]),x12,x10),h,wk [0,3] []⟩
abbrev q39 (x2:List qaj) (x3:Int) (x4:Bool) (r:(List qab)×Int×Bool):FV:=.p (.sl (qab.rows r.1))
abbrev q3y (x2:List qaj) (x3:Int) (x4:Bool) (r:(List qab)×Int×Bool):List AObj:=[.box 85 [pK x2,.p (.int .i64 r.2.1),.p (.bool r.2.2)]]
def qhg (n:Nat) (x1:SS) (x2:List qaj) (x3:Int) (x4:Bool):Option ((List qab)×Int×Bool):=
 bnd (qan n x1 x2 x3 x4) fun⟨x5,x6⟩=>
 bif(!x5)then(
 some (([]:List qab),x6,x4))
 else(
 bnd (qbb n x2 x6 x4) fun⟨⟨x7,x8,⟨x9,x10,x11,x12,x13,x14⟩,x15,x16⟩,x17,x18⟩=>
 some ([qab.mk x7 x8 (Val.mk x9 x10 x11 x12 x13 x14) x15 x16],x17,x18))
theorem qnn (n:Nat):∀ (x1:SS) (x2:List qaj) (x3:Int) (x4:Bool) (r:(List qab)×Int×Bool),qhg n x1 x2 x3 x4=some r->qau Tryz.prog 50 [.ptr 0 0,.p (PV.str x1)] [.box 85 [pK x2,pI x3,pB x4]] 1 (fun v lo=>v=q39 x2 x3 x4 r/\lo=q3y x2 x3 x4 r):=by
 intro x1 x2 x3 x4 r h;unfold qhg at h;refine qau.of_vc qa3 (fun _ _=>Tryz.call50 _ _) Tryz.func50 (by kernel_rfl) (inl:=[48,51,1000000]) (Nat.le_of_ble_eq_true rfl) ?_;conv=>whnf
 replace h:=qaa h;obtain⟨⟨x5,x6⟩,h1,h⟩:=h;refine qcl (qak n _ _ _ _ _ h1) [0] [] ?_;rintro _ _ ⟨rfl,rfl⟩;refine⟨pB x5,[.box 85 [pK x2,pI x6,pB x4]],rfl,rfl,?_⟩;conv=>whnf
 refine ifc h (fun hc h=>?_) (fun hc h=>?_)
 ·obtain rfl:=sj h
  conv=>whnf
  refine⟨_,_,⟨rfl,rfl⟩,wk [0] []⟩
 ·conv=>whnf
  replace h:=qaa h;obtain⟨⟨⟨x7,x8,⟨x9,x10,x11,x12,x13,x14⟩,x15,x16⟩,x17,x18⟩,h2,h⟩:=h;refine qcl (qmt n _ _ _ _ h2) [0] [] ?_;rintro _ _ ⟨rfl,rfl⟩;refine⟨.p (.agg [.int .i64 x7,.str x8,.int .i64 x9,.bool x10,.int .i64 x11,.str x12,.sl (Val.rows x13),.sl (qam x14),.sl (qam x15),.sl (qab.rows x16)]),[.box 85 [pK x2,pI x17,pB x18]],rfl,rfl,?_⟩;conv=>whnf
  refine⟨Codec.one qca [qab.mk x7 x8 (Val.mk x9 x10 x11 x12 x13 x14) x15 x16],qab.rows [qab.mk x7 x8 (Val.mk x9 x10 x11 x12 x13 x14) x15 x16],.inl rfl,?_⟩;obtain rfl:=sj h;conv=>whnf
  refine⟨_,_,⟨rfl,rfl⟩,wk [0] []⟩
abbrev q70 (x21:List qaj) (x22:Int) (x23:Bool) (r:qad×Int×Bool):FV:=.p ((PV.agg (qcw.cells r.1)))
abbrev q7o (x21:List qaj) (x22:Int) (x23:Bool) (r:qad×Int×Bool):List AObj:=[.box 85 [pK x21,.p (.int .i64 r.2.1),.p (.bool r.2.2)]]
def qjy (n:Nat) (x21:List qaj) (x1:Int) (x2:List qa9) (x3:List qab) (x4:Int) (x5:SS) (x6:Int) (x7:Bool) (x8:Int) (x9:SS) (x10:List Val) (x11 x12:List SS) (x13:List qab) (x14:SS) (x28:List qbh) (x29:Int) (x30:SS) (x31:Int) (x32:Bool) (x33:Int) (x34:SS) (x35:List Val) (x36 x37:List SS) (x38:List qab) (x43:SS) (x24:Bool) (x18:List qag) (x19:List SS) (x20:Bool):Int×Bool×List qar->Option (qad×Int×Bool):=fun(x46,x47,x48)=>
 bnd (qhg n ([83,75,73,80]:SS) x21 x46 x47) fun⟨x49,x50,x51⟩=>
 bnd (qhg n ([76,73,77,73,84]:SS) x21 x50 x51) fun⟨x52,x53,x54⟩=>
 some (qad.mk x1 x2 x3 (qab.mk x4 x5 (Val.mk x6 x7 x8 x9 x10 x11) x12 x13) x14 (x28++[qbh.mk (qab.mk x29 x30 (Val.mk x31 x32 x33 x34 x35 x36) x37 x38) x43]) x24 x48 x49 x52 x18 x19 x20,x53,x54)
def qh9 (n:Nat) (x61:List qar) (x62:Int) (x63:SS) (x64:Int) (x65:Bool) (x66:Int) (x67:SS) (x68:List Val) (x69 x70:List SS) (x71:List qab) (x21:List qaj) (x73:Bool) (x1:Int) (x2:List qa9) (x3:List qab) (x4:Int) (x5:SS) (x6:Int) (x7:Bool) (x8:Int) (x9:SS) (x10:List Val) (x11 x12:List SS) (x13:List qab) (x14:SS) (x28:List qbh) (x29:Int) (x30:SS) (x31:Int) (x32:Bool) (x33:Int) (x34:SS) (x35:List Val) (x36 x37:List SS) (x38:List qab) (x43:SS) (x24:Bool) (x18:List qag) (x19:List SS) (x20:Bool) (nx2:Int×Bool×List qar->Option (qad×Int×Bool)):Int×Bool->Option (qad×Int×Bool):=fun(x74,x75)=>
 chk (decide ((qar.rows (x61++[qar.mk (qab.mk x62 x63 (Val.mk x64 x65 x66 x67 x68 x69) x70 x71) x75])).length * 168<=140737488355328)) (
 bnd (qan n ([44]:SS) x21 x74 x73) fun⟨x76,x77⟩=>
 bif(!x76)then(
 qjy n x21 x1 x2 x3 x4 x5 x6 x7 x8 x9 x10 x11 x12 x13 x14 x28 x29 x30 x31 x32 x33 x34 x35 x36 x37 x38 x43 x24 x18 x19 x20 (x77,x73,(x61++[qar.mk (qab.mk x62 x63 (Val.mk x64 x65 x66 x67 x68 x69) x70 x71) x75])))
 else(
 nx2 (x77,x73,(x61++[qar.mk (qab.mk x62 x63 (Val.mk x64 x65 x66 x67 x68 x69) x70 x71) x75]))))
def qj0 (n:Nat) (x21:List qaj) (x1:Int) (x2:List qa9) (x3:List qab) (x4:Int) (x5:SS) (x6:Int) (x7:Bool) (x8:Int) (x9:SS) (x10:List Val) (x11 x12:List SS) (x13:List qab) (x14:SS) (x28:List qbh) (x29:Int) (x30:SS) (x31:Int) (x32:Bool) (x33:Int) (x34:SS) (x35:List Val) (x36 x37:List SS) (x38:List qab) (x43:SS) (x24:Bool) (x18:List qag) (x19:List SS) (x20:Bool):(Int×Bool×List qar->Option (qad×Int×Bool))->Int×Bool×List qar->Option (qad×Int×Bool):=fun nx2 (x59,x60,x61)=>
 bnd (qbb n x21 x59 x60) fun⟨⟨x62,x63,⟨x64,x65,x66,x67,x68,x69⟩,x70,x71⟩,x72,x73⟩=>
 bnd (qan n ([65,83,67]:SS) x21 x72 x73) fun⟨x78,x79⟩=>
 bif(!x78)then(
 bnd (qan n ([68,69,83,67]:SS) x21 x79 x73) fun⟨x80,x81⟩=>
 qh9 n x61 x62 x63 x64 x65 x66 x67 x68 x69 x70 x71 x21 x73 x1 x2 x3 x4 x5 x6 x7 x8 x9 x10 x11 x12 x13 x14 x28 x29 x30 x31 x32 x33 x34 x35 x36 x37 x38 x43 x24 x18 x19 x20 nx2 (x81,x80))
 else(
 qh9 n x61 x62 x63 x64 x65 x66 x67 x68 x69 x70 x71 x21 x73 x1 x2 x3 x4 x5 x6 x7 x8 x9 x10 x11 x12 x13 x14 x28 x29 x30 x31 x32 x33 x34 x35 x36 x37 x38 x43 x24 x18 x19 x20 nx2 (x79,false))
def qgc (n:Nat) (x28:List qbh) (x29:Int) (x30:SS) (x31:Int) (x32:Bool) (x33:Int) (x34:SS) (x35:List Val) (x36 x37:List SS) (x38:List qab) (x21:List qaj) (x1:Int) (x2:List qa9) (x3:List qab) (x4:Int) (x5:SS) (x6:Int) (x7:Bool) (x8:Int) (x9:SS) (x10:List Val) (x11 x12:List SS) (x13:List qab) (x14:SS) (x24:Bool) (x18:List qag) (x19:List SS) (x20:Bool) (nx1:Int×Bool×List qbh->Option (qad×Int×Bool)):Int×Bool×SS->Option (qad×Int×Bool):=fun(x41,x42,x43)=>
 chk (decide ((qbh.rows (x28++[qbh.mk (qab.mk x29 x30 (Val.mk x31 x32 x33 x34 x35 x36) x37 x38) x43])).length * 176<=140737488355328)) (
 bnd (qan n ([44]:SS) x21 x41 x42) fun⟨x44,x45⟩=>
 bif(!x44)then(
 bnd (qan n ([79,82,68,69,82]:SS) x21 x45 x42) fun⟨x55,x56⟩=>
 bif x55 then(
 bnd (qax n ([66,89]:SS) x21 x56 x42) fun⟨x57,x58⟩=>
 qap (qj0 n x21 x1 x2 x3 x4 x5 x6 x7 x8 x9 x10 x11 x12 x13 x14 x28 x29 x30 x31 x32 x33 x34 x35 x36 x37 x38 x43 x24 x18 x19 x20) n (x57,x58,([]:List _)))
 else(
 qjy n x21 x1 x2 x3 x4 x5 x6 x7 x8 x9 x10 x11 x12 x13 x14 x28 x29 x30 x31 x32 x33 x34 x35 x36 x37 x38 x43 x24 x18 x19 x20 (x56,x42,([]:List _))))
 else(
 nx1 (x45,x42,(x28++[qbh.mk (qab.mk x29 x30 (Val.mk x31 x32 x33 x34 x35 x36) x37 x38) x43]))))
def qjz (n:Nat) (x21:List qaj) (x1:Int) (x2:List qa9) (x3:List qab) (x4:Int) (x5:SS) (x6:Int) (x7:Bool) (x8:Int) (x9:SS) (x10:List Val) (x11 x12:List SS) (x13:List qab) (x14:SS) (x24:Bool) (x18:List qag) (x19:List SS) (x20:Bool):(Int×Bool×List qbh->Option (qad×Int×Bool))->Int×Bool×List qbh->Option (qad×Int×Bool):=fun nx1 (x26,x27,x28)=>
 bnd (qbb n x21 x26 x27) fun⟨⟨x29,x30,⟨x31,x32,x33,x34,x35,x36⟩,x37,x38⟩,x39,x40⟩=>
 bif(!(x29 != 2))then(
 bnd (qcx n ([65,83]:SS) x21 x39 x40) fun x82=>
 bif(bif(x29 != 2)then true else x82)then(
 bnd (qax n ([65,83]:SS) x21 x39 x40) fun⟨x83,x84⟩=>
 bnd (qd3 n x21 x83 x84) fun⟨x85,x86,x87⟩=>
 qgc n x28 x29 x30 x31 x32 x33 x34 x35 x36 x37 x38 x21 x1 x2 x3 x4 x5 x6 x7 x8 x9 x10 x11 x12 x13 x14 x24 x18 x19 x20 nx1 (x86,x87,x85))
 else(
 qgc n x28 x29 x30 x31 x32 x33 x34 x35 x36 x37 x38 x21 x1 x2 x3 x4 x5 x6 x7 x8 x9 x10 x11 x12 x13 x14 x24 x18 x19 x20 nx1 (x39,x40,x30)))
 else(
 bif(bif(x29 != 2)then true else false)then(
 bnd (qax n ([65,83]:SS) x21 x39 x40) fun⟨x88,x89⟩=>
 bnd (qd3 n x21 x88 x89) fun⟨x90,x91,x92⟩=>
 qgc n x28 x29 x30 x31 x32 x33 x34 x35 x36 x37 x38 x21 x1 x2 x3 x4 x5 x6 x7 x8 x9 x10 x11 x12 x13 x14 x24 x18 x19 x20 nx1 (x91,x92,x90))
 else(
 qgc n x28 x29 x30 x31 x32 x33 x34 x35 x36 x37 x38 x21 x1 x2 x3 x4 x5 x6 x7 x8 x9 x10 x11 x12 x13 x14 x24 x18 x19 x20 nx1 (x39,x40,x30)))
def qpl (n:Nat) (x1:Int) (x2:List qa9) (x3:List qab) (x4:Int) (x5:SS) (x6:Int) (x7:Bool) (x8:Int) (x9:SS) (x10:List Val) (x11 x12:List SS) (x13:List qab) (x14:SS) (x15:Bool) (x16 x17:List qab) (x18:List qag) (x19:List SS) (x20:Bool) (x21:List qaj) (x22:Int) (x23:Bool):Option (qad×Int×Bool):=
 bnd (qan n ([68,73,83,84,73,78,67,84]:SS) x21 x22 x23) fun⟨x24,x25⟩=>
 qap (qjz n x21 x1 x2 x3 x4 x5 x6 x7 x8 x9 x10 x11 x12 x13 x14 x24 x18 x19 x20) n (x25,x23,([]:List _))
set_option maxHeartbeats 4000000 in
theorem qwi (n:Nat):∀ (x1:Int) (x2:List qa9) (x3:List qab) (x4:Int) (x5:SS) (x6:Int) (x7:Bool) (x8:Int) (x9:SS) (x10:List Val) (x11 x12:List SS) (x13:List qab) (x14:SS) (x15:Bool) (x16 x17:List qab) (x18:List qag) (x19:List SS) (x20:Bool) (x21:List qaj) (x22:Int) (x23:Bool) (r:qad×Int×Bool),qpl n x1 x2 x3 x4 x5 x6 x7 x8 x9 x10 x11 x12 x13 x14 x15 x16 x17 x18 x19 x20 x21 x22 x23=some r->qau Tryz.prog 54 [.ptr 0 0,.p (.agg [.int .i64 x1,.sl (qa9.rows x2),.sl (qab.rows x3),.int .i64 x4,.str x5,.int .i64 x6,.bool x7,.int .i64 x8,.str x9,.sl (Val.rows x10),.sl (qam x11),.sl (qam x12),.sl (qab.rows x13),.str x14,.nilsl,.bool x15,.nilsl,.sl (qab.rows x16),.sl (qab.rows x17),.sl (qag.rows x18),.sl (qam x19),.bool x20])] [.box 85 [pK x21,pI x22,pB x23]] 1 (fun v lo=>v=q70 x21 x22 x23 r/\lo=q7o x21 x22 x23 r):=by
 intro x1 x2 x3 x4 x5 x6 x7 x8 x9 x10 x11 x12 x13 x14 x15 x16 x17 x18 x19 x20 x21 x22 x23 r h;unfold qpl at h;refine qau.of_vc qa3 (fun _ _=>Tryz.call54 _ _) Tryz.func54 (by kernel_rfl) (inl:=[48,50,51,52,53,57,1000000]) (Nat.le_of_ble_eq_true rfl) ?_;conv=>whnf
 replace h:=qaa h;obtain⟨⟨x24,x25⟩,h1,h⟩:=h;refine qcl (qak n _ _ _ _ _ h1) [0] [] ?_;rintro _ _ ⟨rfl,rfl⟩;refine⟨pB x24,[.box 85 [pK x21,pI x25,pB x23],.box 55 [pI x1,pP x2,pE x3,pI x4,pS x5,pI x6,pB x7,pI x8,pS x9,pV x10,pT x11,pT x12,pE x13,pS x14,.p (.nilsl),pB x15,.p (.nilsl),pE x16,pE x17,pU x18,pT x19,pB x20],.box 55 [.p (.int .i64 (0:Int)),.p (.nilsl),.p (.nilsl),.p (.int .i64 (0:Int)),.p (.str ([]:SS)),.p (.int .i64 (0:Int)),pB false,.p (.int .i64 (0:Int)),.p (.str ([]:SS)),.p (.nilsl),.p (.nilsl),.p (.nilsl),.p (.nilsl),.p (.str ([]:SS)),.p (.nilsl),pB false,.p (.nilsl),.p (.nilsl),.p (.nilsl),.p (.nilsl),.p (.nilsl),pB false]],rfl,rfl,?_⟩;conv=>whnf
 refine qby.fn [48,50,51,52,53,57,1000000] (S:=Int×Bool×List qbh) (fun(x26,x27,x28)=>[(0,.ptr 0 0),(3,.ptr 1 0),(4,.ptr 2 0)]) (fun(x26,x27,x28)=>[.box 85 [pK x21,pI x26,pB x27],.box 55 [pI x1,pP x2,pE x3,pI x4,pS x5,pI x6,pB x7,pI x8,pS x9,pV x10,pT x11,pT x12,pE x13,pS x14,.tsl 3 (qbh.rows x28),pB x24,.p (.nilsl),pE x16,pE x17,pU x18,pT x19,pB x20],.box 55 [.p (.int .i64 (0:Int)),.p (.nilsl),.p (.nilsl),.p (.int .i64 (0:Int)),.p (.str ([]:SS)),.p (.int .i64 (0:Int)),pB false,.p (.int .i64 (0:Int)),.p (.str ([]:SS)),.p (.nilsl),.p (.nilsl),.p (.nilsl),.p (.nilsl),.p (.str ([]:SS)),.p (.nilsl),pB false,.p (.nilsl),.p (.nilsl),.p (.nilsl),.p (.nilsl),.p (.nilsl),pB false],.tail 49 11 (qbh.rows x28).length]) (B:=qjz n x21 x1 x2 x3 x4 x5 x6 x7 x8 x9 x10 x11 x12 x13 x14 x24 x18 x19 x20) h (wk [0,1,2,0] [3]) ?_;intro nx1 st h;obtain⟨x26,x27,x28⟩:=st;unfold qjz at h;conv=>whnf
 replace h:=qaa h;obtain⟨⟨⟨x29,x30,⟨x31,x32,x33,x34,x35,x36⟩,x37,x38⟩,x39,x40⟩,h2,h⟩:=h;refine qcl (qmt n _ _ _ _ h2) [0] [] ?_;rintro _ _ ⟨rfl,rfl⟩;refine⟨.p (.agg [.int .i64 x29,.str x30,.int .i64 x31,.bool x32,.int .i64 x33,.str x34,.sl (Val.rows x35),.sl (qam x36),.sl (qam x37),.sl (qab.rows x38)]),[.box 85 [pK x21,pI x39,pB x40],.box 55 [pI x1,pP x2,pE x3,pI x4,pS x5,pI x6,pB x7,pI x8,pS x9,pV x10,pT x11,pT x12,pE x13,pS x14,.tsl 3 (qbh.rows x28),pB x24,.p (.nilsl),pE x16,pE x17,pU x18,pT x19,pB x20],.box 55 [.p (.int .i64 (0:Int)),.p (.nilsl),.p (.nilsl),.p (.int .i64 (0:Int)),.p (.str ([]:SS)),.p (.int .i64 (0:Int)),pB false,.p (.int .i64 (0:Int)),.p (.str ([]:SS)),.p (.nilsl),.p (.nilsl),.p (.nilsl),.p (.nilsl),.p (.str ([]:SS)),.p (.nilsl),pB false,.p (.nilsl),.p (.nilsl),.p (.nilsl),.p (.nilsl),.p (.nilsl),pB false],.tail 49 11 (qbh.rows x28).length,.box 49 [.p (.int .i64 (0:Int)),.p (.str ([]:SS)),.p (.int .i64 (0:Int)),pB false,.p (.int .i64 (0:Int)),.p (.str ([]:SS)),.p (.nilsl),.p (.nilsl),.p (.nilsl),.p (.nilsl),.p (.str ([]:SS))]],rfl,rfl,?_⟩;conv=>whnf
 refine qje.cut (S:=Int×Bool×SS) (fun(x41,x42,x43)=>[(0,.ptr 0 0),(3,.ptr 1 0),(4,.ptr 2 0),(5,.ptr 3 0)]) (fun(x41,x42,x43)=>[.box 85 [pK x21,pI x41,pB x42],.box 55 [pI x1,pP x2,pE x3,pI x4,pS x5,pI x6,pB x7,pI x8,pS x9,pV x10,pT x11,pT x12,pE x13,pS x14,.tsl 4 (qbh.rows x28),pB x24,.p (.nilsl),pE x16,pE x17,pU x18,pT x19,pB x20],.box 55 [.p (.int .i64 (0:Int)),.p (.nilsl),.p (.nilsl),.p (.int .i64 (0:Int)),.p (.str ([]:SS)),.p (.int .i64 (0:Int)),pB false,.p (.int .i64 (0:Int)),.p (.str ([]:SS)),.p (.nilsl),.p (.nilsl),.p (.nilsl),.p (.nilsl),.p (.str ([]:SS)),.p (.nilsl),pB false,.p (.nilsl),.p (.nilsl),.p (.nilsl),.p (.nilsl),.p (.nilsl),pB false],.box 49 [pI x29,pS x30,pI x31,pB x32,pI x33,pS x34,pV x35,pT x36,pT x37,pE x38,pS x43],.tail 49 11 (qbh.rows x28).length]) (qgc n x28 x29 x30 x31 x32 x33 x34 x35 x36 x37 x38 x21 x1 x2 x3 x4 x5 x6 x7 x8 x9 x10 x11 x12 x13 x14 x24 x18 x19 x20 nx1) (r:=r) ?_ ?_
 ·intro st h
  obtain⟨x41,x42,x43⟩:=st;unfold qgc at h;conv=>whnf
  refine⟨Codec.one qtc [qbh.mk (qab.mk x29 x30 (Val.mk x31 x32 x33 x34 x35 x36) x37 x38) x43],qbh.rows [qbh.mk (qab.mk x29 x30 (Val.mk x31 x32 x33 x34 x35 x36) x37 x38) x43],.inl rfl,?_⟩;conv=>whnf
  rw[show qbh.rows x28++qbh.rows [qbh.mk (qab.mk x29 x30 (Val.mk x31 x32 x33 x34 x35 x36) x37 x38) x43]=qbh.rows (x28++[qbh.mk (qab.mk x29 x30 (Val.mk x31 x32 x33 x34 x35 x36) x37 x38) x43])from Codec.append qtc x28 [qbh.mk (qab.mk x29 x30 (Val.mk x31 x32 x33 x34 x35 x36) x37 x38) x43]];conv=>whnf
  obtain⟨h13,h⟩:=qaw h;refine⟨⟨Codec.wide qtc (x28++[qbh.mk (qab.mk x29 x30 (Val.mk x31 x32 x33 x34 x35 x36) x37 x38) x43]),of_decide_eq_true h13,qdx h13 (by decide)⟩,?_⟩;conv=>whnf
  refine⟨⟨rfl,rfl,rfl⟩,?_⟩;conv=>whnf
  replace h:=qaa h;obtain⟨⟨x44,x45⟩,h3,h⟩:=h;refine qcl (qak n _ _ _ _ _ h3) [0] [] ?_;rintro _ _ ⟨rfl,rfl⟩;refine⟨pB x44,[.box 85 [pK x21,pI x45,pB x42],.box 55 [pI x1,pP x2,pE x3,pI x4,pS x5,pI x6,pB x7,pI x8,pS x9,pV x10,pT x11,pT x12,pE x13,pS x14,.tsl 5 (qbh.rows (x28++[qbh.mk (qab.mk x29 x30 (Val.mk x31 x32 x33 x34 x35 x36) x37 x38) x43])),pB x24,.p (.nilsl),pE x16,pE x17,pU x18,pT x19,pB x20],.box 55 [.p (.int .i64 (0:Int)),.p (.nilsl),.p (.nilsl),.p (.int .i64 (0:Int)),.p (.str ([]:SS)),.p (.int .i64 (0:Int)),pB false,.p (.int .i64 (0:Int)),.p (.str ([]:SS)),.p (.nilsl),.p (.nilsl),.p (.nilsl),.p (.nilsl),.p (.str ([]:SS)),.p (.nilsl),pB false,.p (.nilsl),.p (.nilsl),.p (.nilsl),.p (.nilsl),.p (.nilsl),pB false],.box 49 [pI x29,pS x30,pI x31,pB x32,pI x33,pS x34,pV x35,pT x36,pT x37,pE x38,pS x43],.dead,.tail 49 11 (qbh.rows (x28++[qbh.mk (qab.mk x29 x30 (Val.mk x31 x32 x33 x34 x35 x36) x37 x38) x43])).length],rfl,rfl,?_⟩;conv=>whnf
  refine ifc h (fun hc h=>?_) (fun hc h=>?_)
  ·conv=>whnf
   refine qje.cut (S:=Int×Bool×List qar) (fun(x46,x47,x48)=>[(0,.ptr 0 0),(3,.ptr 1 0),(4,.ptr 2 0)]) (fun(x46,x47,x48)=>[.box 85 [pK x21,pI x46,pB x47],.box 55 [pI x1,pP x2,pE x3,pI x4,pS x5,pI x6,pB x7,pI x8,pS x9,pV x10,pT x11,pT x12,pE x13,pS x14,.tsl 3 (qbh.rows (x28++[qbh.mk (qab.mk x29 x30 (Val.mk x31 x32 x33 x34 x35 x36) x37 x38) x43])),pB x24,.tsl 4 (qar.rows x48),pE x16,pE x17,pU x18,pT x19,pB x20],.box 55 [.p (.int .i64 (0:Int)),.p (.nilsl),.p (.nilsl),.p (.int .i64 (0:Int)),.p (.str ([]:SS)),.p (.int .i64 (0:Int)),pB false,.p (.int .i64 (0:Int)),.p (.str ([]:SS)),.p (.nilsl),.p (.nilsl),.p (.nilsl),.p (.nilsl),.p (.str ([]:SS)),.p (.nilsl),pB false,.p (.nilsl),.p (.nilsl),.p (.nilsl),.p (.nilsl),.p (.nilsl),pB false],.tail 49 11 (qbh.rows (x28++[qbh.mk (qab.mk x29 x30 (Val.mk x31 x32 x33 x34 x35 x36) x37 x38) x43])).length,.tail 67 11 (qar.rows x48).length]) (qjy n x21 x1 x2 x3 x4 x5 x6 x7 x8 x9 x10 x11 x12 x13 x14 x28 x29 x30 x31 x32 x33 x34 x35 x36 x37 x38 x43 x24 x18 x19 x20) (r:=r) ?_ ?_
   ·intro st h
    obtain⟨x46,x47,x48⟩:=st;unfold qjy at h;conv=>whnf
    replace h:=qaa h;obtain⟨⟨x49,x50,x51⟩,h4,h⟩:=h;refine qcl (qnn n _ _ _ _ _ h4) [0] [] ?_;rintro _ _ ⟨rfl,rfl⟩;refine⟨pE x49,[.box 85 [pK x21,pI x50,pB x51],.box 55 [pI x1,pP x2,pE x3,pI x4,pS x5,pI x6,pB x7,pI x8,pS x9,pV x10,pT x11,pT x12,pE x13,pS x14,.tsl 3 (qbh.rows (x28++[qbh.mk (qab.mk x29 x30 (Val.mk x31 x32 x33 x34 x35 x36) x37 x38) x43])),pB x24,.tsl 4 (qar.rows x48),pE x16,pE x17,pU x18,pT x19,pB x20],.box 55 [.p (.int .i64 (0:Int)),.p (.nilsl),.p (.nilsl),.p (.int .i64 (0:Int)),.p (.str ([]:SS)),.p (.int .i64 (0:Int)),pB false,.p (.int .i64 (0:Int)),.p (.str ([]:SS)),.p (.nilsl),.p (.nilsl),.p (.nilsl),.p (.nilsl),.p (.str ([]:SS)),.p (.nilsl),pB false,.p (.nilsl),.p (.nilsl),.p (.nilsl),.p (.nilsl),.p (.nilsl),pB false],.tail 49 11 (qbh.rows (x28++[qbh.mk (qab.mk x29 x30 (Val.mk x31 x32 x33 x34 x35 x36) x37 x38) x43])).length,.tail 67 11 (qar.rows x48).length],rfl,rfl,?_⟩;conv=>whnf
    replace h:=qaa h;obtain⟨⟨x52,x53,x54⟩,h5,h⟩:=h;refine qcl (qnn n _ _ _ _ _ h5) [0] [] ?_;rintro _ _ ⟨rfl,rfl⟩;refine⟨pE x52,[.box 85 [pK x21,pI x53,pB x54],.box 55 [pI x1,pP x2,pE x3,pI x4,pS x5,pI x6,pB x7,pI x8,pS x9,pV x10,pT x11,pT x12,pE x13,pS x14,.tsl 3 (qbh.rows (x28++[qbh.mk (qab.mk x29 x30 (Val.mk x31 x32 x33 x34 x35 x36) x37 x38) x43])),pB x24,.tsl 4 (qar.rows x48),pE x49,pE x17,pU x18,pT x19,pB x20],.box 55 [.p (.int .i64 (0:Int)),.p (.nilsl),.p (.nilsl),.p (.int .i64 (0:Int)),.p (.str ([]:SS)),.p (.int .i64 (0:Int)),pB false,.p (.int .i64 (0:Int)),.p (.str ([]:SS)),.p (.nilsl),.p (.nilsl),.p (.nilsl),.p (.nilsl),.p (.str ([]:SS)),.p (.nilsl),pB false,.p (.nilsl),.p (.nilsl),.p (.nilsl),.p (.nilsl),.p (.nilsl),pB false],.tail 49 11 (qbh.rows (x28++[qbh.mk (qab.mk x29 x30 (Val.mk x31 x32 x33 x34 x35 x36) x37 x38) x43])).length,.tail 67 11 (qar.rows x48).length],rfl,rfl,?_⟩;obtain rfl:=sj h;conv=>whnf
    refine⟨_,_,⟨rfl,rfl⟩,wk [0] []⟩
   ·conv=>whnf
    replace h:=qaa h;obtain⟨⟨x55,x56⟩,h6,h⟩:=h;refine qcl (qak n _ _ _ _ _ h6) [0] [] ?_;rintro _ _ ⟨rfl,rfl⟩;refine⟨pB x55,[.box 85 [pK x21,pI x56,pB x42],.box 55 [pI x1,pP x2,pE x3,pI x4,pS x5,pI x6,pB x7,pI x8,pS x9,pV x10,pT x11,pT x12,pE x13,pS x14,.tsl 5 (qbh.rows (x28++[qbh.mk (qab.mk x29 x30 (Val.mk x31 x32 x33 x34 x35 x36) x37 x38) x43])),pB x24,.p (.nilsl),pE x16,pE x17,pU x18,pT x19,pB x20],.box 55 [.p (.int .i64 (0:Int)),.p (.nilsl),.p (.nilsl),.p (.int .i64 (0:Int)),.p (.str ([]:SS)),.p (.int .i64 (0:Int)),pB false,.p (.int .i64 (0:Int)),.p (.str ([]:SS)),.p (.nilsl),.p (.nilsl),.p (.nilsl),.p (.nilsl),.p (.str ([]:SS)),.p (.nilsl),pB false,.p (.nilsl),.p (.nilsl),.p (.nilsl),.p (.nilsl),.p (.nilsl),pB false],.box 49 [pI x29,pS x30,pI x31,pB x32,pI x33,pS x34,pV x35,pT x36,pT x37,pE x38,pS x43],.dead,.tail 49 11 (qbh.rows (x28++[qbh.mk (qab.mk x29 x30 (Val.mk x31 x32 x33 x34 x35 x36) x37 x38) x43])).length],rfl,rfl,?_⟩;conv=>whnf
    refine ifc h (fun hc h=>?_) (fun hc h=>?_)
    ·conv=>whnf
     replace h:=qaa h;obtain⟨⟨x57,x58⟩,h7,h⟩:=h;refine qcl (qa7 n _ _ _ _ _ h7) [0] [] ?_;rintro _ _ ⟨rfl,rfl⟩;refine⟨.p (.tup []),[.box 85 [pK x21,pI x57,pB x58],.box 55 [pI x1,pP x2,pE x3,pI x4,pS x5,pI x6,pB x7,pI x8,pS x9,pV x10,pT x11,pT x12,pE x13,pS x14,.tsl 5 (qbh.rows (x28++[qbh.mk (qab.mk x29 x30 (Val.mk x31 x32 x33 x34 x35 x36) x37 x38) x43])),pB x24,.p (.nilsl),pE x16,pE x17,pU x18,pT x19,pB x20],.box 55 [.p (.int .i64 (0:Int)),.p (.nilsl),.p (.nilsl),.p (.int .i64 (0:Int)),.p (.str ([]:SS)),.p (.int .i64 (0:Int)),pB false,.p (.int .i64 (0:Int)),.p (.str ([]:SS)),.p (.nilsl),.p (.nilsl),.p (.nilsl),.p (.nilsl),.p (.str ([]:SS)),.p (.nilsl),pB false,.p (.nilsl),.p (.nilsl),.p (.nilsl),.p (.nilsl),.p (.nilsl),pB false],.box 49 [pI x29,pS x30,pI x31,pB x32,pI x33,pS x34,pV x35,pT x36,pT x37,pE x38,pS x43],.dead,.tail 49 11 (qbh.rows (x28++[qbh.mk (qab.mk x29 x30 (Val.mk x31 x32 x33 x34 x35 x36) x37 x38) x43])).length],rfl,rfl,?_⟩;conv=>whnf
     refine qby.fn [48,50,51,52,53,57,1000000] (S:=Int×Bool×List qar) (fun(x59,x60,x61)=>[(0,.ptr 0 0),(3,.ptr 1 0),(4,.ptr 2 0)]) (fun(x59,x60,x61)=>[.box 85 [pK x21,pI x59,pB x60],.box 55 [pI x1,pP x2,pE x3,pI x4,pS x5,pI x6,pB x7,pI x8,pS x9,pV x10,pT x11,pT x12,pE x13,pS x14,.tsl 3 (qbh.rows (x28++[qbh.mk (qab.mk x29 x30 (Val.mk x31 x32 x33 x34 x35 x36) x37 x38) x43])),pB x24,.tsl 4 (qar.rows x61),pE x16,pE x17,pU x18,pT x19,pB x20],.box 55 [.p (.int .i64 (0:Int)),.p (.nilsl),.p (.nilsl),.p (.int .i64 (0:Int)),.p (.str ([]:SS)),.p (.int .i64 (0:Int)),pB false,.p (.int .i64 (0:Int)),.p (.str ([]:SS)),.p (.nilsl),.p (.nilsl),.p (.nilsl),.p (.nilsl),.p (.str ([]:SS)),.p (.nilsl),pB false,.p (.nilsl),.p (.nilsl),.p (.nilsl),.p (.nilsl),.p (.nilsl),pB false],.tail 49 11 (qbh.rows (x28++[qbh.mk (qab.mk x29 x30 (Val.mk x31 x32 x33 x34 x35 x36) x37 x38) x43])).length,.tail 67 11 (qar.rows x61).length]) (B:=qj0 n x21 x1 x2 x3 x4 x5 x6 x7 x8 x9 x10 x11 x12 x13 x14 x28 x29 x30 x31 x32 x33 x34 x35 x36 x37 x38 x43 x24 x18 x19 x20) h (wk [0,1,2,5,0] [4]) ?_;intro nx2 st h;obtain⟨x59,x60,x61⟩:=st;unfold qj0 at h;conv=>whnf
     replace h:=qaa h;obtain⟨⟨⟨x62,x63,⟨x64,x65,x66,x67,x68,x69⟩,x70,x71⟩,x72,x73⟩,h8,h⟩:=h;refine qcl (qmt n _ _ _ _ h8) [0] [] ?_;rintro _ _ ⟨rfl,rfl⟩;refine⟨.p (.agg [.int .i64 x62,.str x63,.int .i64 x64,.bool x65,.int .i64 x66,.str x67,.sl (Val.rows x68),.sl (qam x69),.sl (qam x70),.sl (qab.rows x71)]),[.box 85 [pK x21,pI x72,pB x73],.box 55 [pI x1,pP x2,pE x3,pI x4,pS x5,pI x6,pB x7,pI x8,pS x9,pV x10,pT x11,pT x12,pE x13,pS x14,.tsl 3 (qbh.rows (x28++[qbh.mk (qab.mk x29 x30 (Val.mk x31 x32 x33 x34 x35 x36) x37 x38) x43])),pB x24,.tsl 4 (qar.rows x61),pE x16,pE x17,pU x18,pT x19,pB x20],.box 55 [.p (.int .i64 (0:Int)),.p (.nilsl),.p (.nilsl),.p (.int .i64 (0:Int)),.p (.str ([]:SS)),.p (.int .i64 (0:Int)),pB false,.p (.int .i64 (0:Int)),.p (.str ([]:SS)),.p (.nilsl),.p (.nilsl),.p (.nilsl),.p (.nilsl),.p (.str ([]:SS)),.p (.nilsl),pB false,.p (.nilsl),.p (.nilsl),.p (.nilsl),.p (.nilsl),.p (.nilsl),pB false],.tail 49 11 (qbh.rows (x28++[qbh.mk (qab.mk x29 x30 (Val.mk x31 x32 x33 x34 x35 x36) x37 x38) x43])).length,.tail 67 11 (qar.rows x61).length,.box 67 [.p (.int .i64 (0:Int)),.p (.str ([]:SS)),.p (.int .i64 (0:Int)),pB false,.p (.int .i64 (0:Int)),.p (.str ([]:SS)),.p (.nilsl),.p (.nilsl),.p (.nilsl),.p (.nilsl),pB false]],rfl,rfl,?_⟩;conv=>whnf
     refine qje.cut (S:=Int×Bool) (fun(x74,x75)=>[(0,.ptr 0 0),(3,.ptr 1 0),(4,.ptr 2 0),(6,.ptr 3 0)]) (fun(x74,x75)=>[.box 85 [pK x21,pI x74,pB x73],.box 55 [pI x1,pP x2,pE x3,pI x4,pS x5,pI x6,pB x7,pI x8,pS x9,pV x10,pT x11,pT x12,pE x13,pS x14,.tsl 4 (qbh.rows (x28++[qbh.mk (qab.mk x29 x30 (Val.mk x31 x32 x33 x34 x35 x36) x37 x38) x43])),pB x24,.tsl 5 (qar.rows x61),pE x16,pE x17,pU x18,pT x19,pB x20],.box 55 [.p (.int .i64 (0:Int)),.p (.nilsl),.p (.nilsl),.p (.int .i64 (0:Int)),.p (.str ([]:SS)),.p (.int .i64 (0:Int)),pB false,.p (.int .i64 (0:Int)),.p (.str ([]:SS)),.p (.nilsl),.p (.nilsl),.p (.nilsl),.p (.nilsl),.p (.str ([]:SS)),.p (.nilsl),pB false,.p (.nilsl),.p (.nilsl),.p (.nilsl),.p (.nilsl),.p (.nilsl),pB false],.box 67 [pI x62,pS x63,pI x64,pB x65,pI x66,pS x67,pV x68,pT x69,pT x70,pE x71,pB x75],.tail 49 11 (qbh.rows (x28++[qbh.mk (qab.mk x29 x30 (Val.mk x31 x32 x33 x34 x35 x36) x37 x38) x43])).length,.tail 67 11 (qar.rows x61).length]) (qh9 n x61 x62 x63 x64 x65 x66 x67 x68 x69 x70 x71 x21 x73 x1 x2 x3 x4 x5 x6 x7 x8 x9 x10 x11 x12 x13 x14 x28 x29 x30 x31 x32 x33 x34 x35 x36 x37 x38 x43 x24 x18 x19 x20 nx2) (r:=r) ?_ ?_
     ·intro st h
      obtain⟨x74,x75⟩:=st;unfold qh9 at h;conv=>whnf
      refine⟨Codec.one qpz [qar.mk (qab.mk x62 x63 (Val.mk x64 x65 x66 x67 x68 x69) x70 x71) x75],qar.rows [qar.mk (qab.mk x62 x63 (Val.mk x64 x65 x66 x67 x68 x69) x70 x71) x75],.inl rfl,?_⟩;conv=>whnf
      rw[show qar.rows x61++qar.rows [qar.mk (qab.mk x62 x63 (Val.mk x64 x65 x66 x67 x68 x69) x70 x71) x75]=qar.rows (x61++[qar.mk (qab.mk x62 x63 (Val.mk x64 x65 x66 x67 x68 x69) x70 x71) x75])from Codec.append qpz x61 [qar.mk (qab.mk x62 x63 (Val.mk x64 x65 x66 x67 x68 x69) x70 x71) x75]];conv=>whnf
      obtain⟨h10,h⟩:=qaw h;refine⟨⟨Codec.wide qpz (x61++[qar.mk (qab.mk x62 x63 (Val.mk x64 x65 x66 x67 x68 x69) x70 x71) x75]),of_decide_eq_true h10,qdx h10 (by decide)⟩,?_⟩;conv=>whnf
      refine⟨⟨rfl,rfl,rfl⟩,?_⟩;conv=>whnf
      replace h:=qaa h;obtain⟨⟨x76,x77⟩,h9,h⟩:=h;refine qcl (qak n _ _ _ _ _ h9) [0] [] ?_;rintro _ _ ⟨rfl,rfl⟩;refine⟨pB x76,[.box 85 [pK x21,pI x77,pB x73],.box 55 [pI x1,pP x2,pE x3,pI x4,pS x5,pI x6,pB x7,pI x8,pS x9,pV x10,pT x11,pT x12,pE x13,pS x14,.tsl 4 (qbh.rows (x28++[qbh.mk (qab.mk x29 x30 (Val.mk x31 x32 x33 x34 x35 x36) x37 x38) x43])),pB x24,.tsl 6 (qar.rows (x61++[qar.mk (qab.mk x62 x63 (Val.mk x64 x65 x66 x67 x68 x69) x70 x71) x75])),pE x16,pE x17,pU x18,pT x19,pB x20],.box 55 [.p (.int .i64 (0:Int)),.p (.nilsl),.p (.nilsl),.p (.int .i64 (0:Int)),.p (.str ([]:SS)),.p (.int .i64 (0:Int)),pB false,.p (.int .i64 (0:Int)),.p (.str ([]:SS)),.p (.nilsl),.p (.nilsl),.p (.nilsl),.p (.nilsl),.p (.str ([]:SS)),.p (.nilsl),pB false,.p (.nilsl),.p (.nilsl),.p (.nilsl),.p (.nilsl),.p (.nilsl),pB false],.box 67 [pI x62,pS x63,pI x64,pB x65,pI x66,pS x67,pV x68,pT x69,pT x70,pE x71,pB x75],.tail 49 11 (qbh.rows (x28++[qbh.mk (qab.mk x29 x30 (Val.mk x31 x32 x33 x34 x35 x36) x37 x38) x43])).length,.dead,.tail 67 11 (qar.rows (x61++[qar.mk (qab.mk x62 x63 (Val.mk x64 x65 x66 x67 x68 x69) x70 x71) x75])).length],rfl,rfl,?_⟩;conv=>whnf
      refine ifc h (fun hc h=>?_) (fun hc h=>?_)
      ·conv=>whnf
       exact⟨(x77,x73,(x61++[qar.mk (qab.mk x62 x63 (Val.mk x64 x65 x66 x67 x68 x69) x70 x71) x75])),h,wk [0,1,2,4,6] []⟩
      ·conv=>whnf
       exact⟨(x77,x73,(x61++[qar.mk (qab.mk x62 x63 (Val.mk x64 x65 x66 x67 x68 x69) x70 x71) x75])),h,wk [0,1,2,4,6] []⟩
     ·conv=>whnf
      replace h:=qaa h;obtain⟨⟨x78,x79⟩,h11,h⟩:=h;refine qcl (qak n _ _ _ _ _ h11) [0] [] ?_;rintro _ _ ⟨rfl,rfl⟩;refine⟨pB x78,[.box 85 [pK x21,pI x79,pB x73],.box 55 [pI x1,pP x2,pE x3,pI x4,pS x5,pI x6,pB x7,pI x8,pS x9,pV x10,pT x11,pT x12,pE x13,pS x14,.tsl 3 (qbh.rows (x28++[qbh.mk (qab.mk x29 x30 (Val.mk x31 x32 x33 x34 x35 x36) x37 x38) x43])),pB x24,.tsl 4 (qar.rows x61),pE x16,pE x17,pU x18,pT x19,pB x20],.box 55 [.p (.int .i64 (0:Int)),.p (.nilsl),.p (.nilsl),.p (.int .i64 (0:Int)),.p (.str ([]:SS)),.p (.int .i64 (0:Int)),pB false,.p (.int .i64 (0:Int)),.p (.str ([]:SS)),.p (.nilsl),.p (.nilsl),.p (.nilsl),.p (.nilsl),.p (.str ([]:SS)),.p (.nilsl),pB false,.p (.nilsl),.p (.nilsl),.p (.nilsl),.p (.nilsl),.p (.nilsl),pB false],.tail 49 11 (qbh.rows (x28++[qbh.mk (qab.mk x29 x30 (Val.mk x31 x32 x33 x34 x35 x36) x37 x38) x43])).length,.tail 67 11 (qar.rows x61).length,.box 67 [pI x62,pS x63,pI x64,pB x65,pI x66,pS x67,pV x68,pT x69,pT x70,pE x71,pB false]],rfl,rfl,?_⟩;conv=>whnf
      refine ifc h (fun hc h=>?_) (fun hc h=>?_)
      ·conv=>whnf
       replace h:=qaa h;obtain⟨⟨x80,x81⟩,h12,h⟩:=h;refine qcl (qak n _ _ _ _ _ h12) [0] [] ?_;rintro _ _ ⟨rfl,rfl⟩;refine⟨pB x80,[.box 85 [pK x21,pI x81,pB x73],.box 55 [pI x1,pP x2,pE x3,pI x4,pS x5,pI x6,pB x7,pI x8,pS x9,pV x10,pT x11,pT x12,pE x13,pS x14,.tsl 3 (qbh.rows (x28++[qbh.mk (qab.mk x29 x30 (Val.mk x31 x32 x33 x34 x35 x36) x37 x38) x43])),pB x24,.tsl 4 (qar.rows x61),pE x16,pE x17,pU x18,pT x19,pB x20],.box 55 [.p (.int .i64 (0:Int)),.p (.nilsl),.p (.nilsl),.p (.int .i64 (0:Int)),.p (.str ([]:SS)),.p (.int .i64 (0:Int)),pB false,.p (.int .i64 (0:Int)),.p (.str ([]:SS)),.p (.nilsl),.p (.nilsl),.p (.nilsl),.p (.nilsl),.p (.str ([]:SS)),.p (.nilsl),pB false,.p (.nilsl),.p (.nilsl),.p (.nilsl),.p (.nilsl),.p (.nilsl),pB false],.tail 49 11 (qbh.rows (x28++[qbh.mk (qab.mk x29 x30 (Val.mk x31 x32 x33 x34 x35 x36) x37 x38) x43])).length,.tail 67 11 (qar.rows x61).length,.box 67 [pI x62,pS x63,pI x64,pB x65,pI x66,pS x67,pV x68,pT x69,pT x70,pE x71,pB false]],rfl,rfl,?_⟩;conv=>whnf
       exact⟨(x81,x80),h,wk [0,1,2,5,3,4] []⟩
      ·conv=>whnf
       exact⟨(x79,false),h,wk [0,1,2,5,3,4] []⟩
    ·conv=>whnf
     exact⟨(x56,x42,([]:List _)),h,wk [0,1,2,5,0] [4]⟩
  ·conv=>whnf
   exact⟨(x45,x42,(x28++[qbh.mk (qab.mk x29 x30 (Val.mk x31 x32 x33 x34 x35 x36) x37 x38) x43])),h,wk [0,1,2,5] []⟩
 ·conv=>whnf
  refine⟨fun hg=>?_,fun hg=>?_⟩
  ·have h:=qy4 h hg
   conv=>whnf
   refine⟨id,?_⟩;conv=>whnf
   replace h:=qaa h;obtain⟨x82,h14,h⟩:=h;refine qcl (qdc n _ _ _ _ _ h14) [0] [] ?_;rintro _ _ ⟨rfl,rfl⟩;refine⟨pB x82,[.box 85 [pK x21,pI x39,pB x40],.box 55 [pI x1,pP x2,pE x3,pI x4,pS x5,pI x6,pB x7,pI x8,pS x9,pV x10,pT x11,pT x12,pE x13,pS x14,.tsl 3 (qbh.rows x28),pB x24,.p (.nilsl),pE x16,pE x17,pU x18,pT x19,pB x20],.box 55 [.p (.int .i64 (0:Int)),.p (.nilsl),.p (.nilsl),.p (.int .i64 (0:Int)),.p (.str ([]:SS)),.p (.int .i64 (0:Int)),pB false,.p (.int .i64 (0:Int)),.p (.str ([]:SS)),.p (.nilsl),.p (.nilsl),.p (.nilsl),.p (.nilsl),.p (.str ([]:SS)),.p (.nilsl),pB false,.p (.nilsl),.p (.nilsl),.p (.nilsl),.p (.nilsl),.p (.nilsl),pB false],.tail 49 11 (qbh.rows x28).length,.box 49 [pI x29,pS x30,pI x31,pB x32,pI x33,pS x34,pV x35,pT x36,pT x37,pE x38,pS x30]],rfl,rfl,?_⟩;conv=>whnf
   refine⟨id,?_⟩;conv=>whnf
   refine ifc h (fun hc h=>?_) (fun hc h=>?_)
   ·conv=>whnf
    replace h:=qaa h;obtain⟨⟨x83,x84⟩,h15,h⟩:=h;refine qcl (qa7 n _ _ _ _ _ h15) [0] [] ?_;rintro _ _ ⟨rfl,rfl⟩;refine⟨.p (.tup []),[.box 85 [pK x21,pI x83,pB x84],.box 55 [pI x1,pP x2,pE x3,pI x4,pS x5,pI x6,pB x7,pI x8,pS x9,pV x10,pT x11,pT x12,pE x13,pS x14,.tsl 3 (qbh.rows x28),pB x24,.p (.nilsl),pE x16,pE x17,pU x18,pT x19,pB x20],.box 55 [.p (.int .i64 (0:Int)),.p (.nilsl),.p (.nilsl),.p (.int .i64 (0:Int)),.p (.str ([]:SS)),.p (.int .i64 (0:Int)),pB false,.p (.int .i64 (0:Int)),.p (.str ([]:SS)),.p (.nilsl),.p (.nilsl),.p (.nilsl),.p (.nilsl),.p (.str ([]:SS)),.p (.nilsl),pB false,.p (.nilsl),.p (.nilsl),.p (.nilsl),.p (.nilsl),.p (.nilsl),pB false],.tail 49 11 (qbh.rows x28).length,.box 49 [pI x29,pS x30,pI x31,pB x32,pI x33,pS x34,pV x35,pT x36,pT x37,pE x38,pS x30]],rfl,rfl,?_⟩;conv=>whnf
    replace h:=qaa h;obtain⟨⟨x85,x86,x87⟩,h16,h⟩:=h;refine qcl (qgb n _ _ _ _ h16) [0] [] ?_;rintro _ _ ⟨rfl,rfl⟩;refine⟨pS x85,[.box 85 [pK x21,pI x86,pB x87],.box 55 [pI x1,pP x2,pE x3,pI x4,pS x5,pI x6,pB x7,pI x8,pS x9,pV x10,pT x11,pT x12,pE x13,pS x14,.tsl 3 (qbh.rows x28),pB x24,.p (.nilsl),pE x16,pE x17,pU x18,pT x19,pB x20],.box 55 [.p (.int .i64 (0:Int)),.p (.nilsl),.p (.nilsl),.p (.int .i64 (0:Int)),.p (.str ([]:SS)),.p (.int .i64 (0:Int)),pB false,.p (.int .i64 (0:Int)),.p (.str ([]:SS)),.p (.nilsl),.p (.nilsl),.p (.nilsl),.p (.nilsl),.p (.str ([]:SS)),.p (.nilsl),pB false,.p (.nilsl),.p (.nilsl),.p (.nilsl),.p (.nilsl),.p (.nilsl),pB false],.tail 49 11 (qbh.rows x28).length,.box 49 [pI x29,pS x30,pI x31,pB x32,pI x33,pS x34,pV x35,pT x36,pT x37,pE x38,pS x30]],rfl,rfl,?_⟩;conv=>whnf
    exact⟨(x86,x87,x85),h,wk [0,1,2,4,3] []⟩
   ·conv=>whnf
    exact⟨(x39,x40,x30),h,wk [0,1,2,4,3] []⟩
  ·have h:=qy3 h hg
   refine⟨pB false,?_⟩;conv=>whnf
   refine⟨id,?_⟩;conv=>whnf
   refine ifc h (fun hc h=>?_) (fun hc h=>?_)
   ·conv=>whnf
    replace h:=qaa h;obtain⟨⟨x88,x89⟩,h17,h⟩:=h;refine qcl (qa7 n _ _ _ _ _ h17) [0] [] ?_;rintro _ _ ⟨rfl,rfl⟩;refine⟨.p (.tup []),[.box 85 [pK x21,pI x88,pB x89],.box 55 [pI x1,pP x2,pE x3,pI x4,pS x5,pI x6,pB x7,pI x8,pS x9,pV x10,pT x11,pT x12,pE x13,pS x14,.tsl 3 (qbh.rows x28),pB x24,.p (.nilsl),pE x16,pE x17,pU x18,pT x19,pB x20],.box 55 [.p (.int .i64 (0:Int)),.p (.nilsl),.p (.nilsl),.p (.int .i64 (0:Int)),.p (.str ([]:SS)),.p (.int .i64 (0:Int)),pB false,.p (.int .i64 (0:Int)),.p (.str ([]:SS)),.p (.nilsl),.p (.nilsl),.p (.nilsl),.p (.nilsl),.p (.str ([]:SS)),.p (.nilsl),pB false,.p (.nilsl),.p (.nilsl),.p (.nilsl),.p (.nilsl),.p (.nilsl),pB false],.tail 49 11 (qbh.rows x28).length,.box 49 [pI x29,pS x30,pI x31,pB x32,pI x33,pS x34,pV x35,pT x36,pT x37,pE x38,pS x30]],rfl,rfl,?_⟩;conv=>whnf
    replace h:=qaa h;obtain⟨⟨x90,x91,x92⟩,h18,h⟩:=h;refine qcl (qgb n _ _ _ _ h18) [0] [] ?_;rintro _ _ ⟨rfl,rfl⟩;refine⟨pS x90,[.box 85 [pK x21,pI x91,pB x92],.box 55 [pI x1,pP x2,pE x3,pI x4,pS x5,pI x6,pB x7,pI x8,pS x9,pV x10,pT x11,pT x12,pE x13,pS x14,.tsl 3 (qbh.rows x28),pB x24,.p (.nilsl),pE x16,pE x17,pU x18,pT x19,pB x20],.box 55 [.p (.int .i64 (0:Int)),.p (.nilsl),.p (.nilsl),.p (.int .i64 (0:Int)),.p (.str ([]:SS)),.p (.int .i64 (0:Int)),pB false,.p (.int .i64 (0:Int)),.p (.str ([]:SS)),.p (.nilsl),.p (.nilsl),.p (.nilsl),.p (.nilsl),.p (.str ([]:SS)),.p (.nilsl),pB false,.p (.nilsl),.p (.nilsl),.p (.nilsl),.p (.nilsl),.p (.nilsl),pB false],.tail 49 11 (qbh.rows x28).length,.box 49 [pI x29,pS x30,pI x31,pB x32,pI x33,pS x34,pV x35,pT x36,pT x37,pE x38,pS x30]],rfl,rfl,?_⟩;conv=>whnf
    exact⟨(x91,x92,x90),h,wk [0,1,2,4,3] []⟩
   ·conv=>whnf
    exact⟨(x39,x40,x30),h,wk [0,1,2,4,3] []⟩
abbrev q71 (x22:List qaj) (x23:Int) (x24:Bool) (r:qad×Int×Bool):FV:=.p ((PV.agg (qcw.cells r.1)))
abbrev q7p (x22:List qaj) (x23:Int) (x24:Bool) (r:qad×Int×Bool):List AObj:=[.box 85 [pK x22,.p (.int .i64 r.2.1),.p (.bool r.2.2)]]
def qhx (n:Nat) (x27:List qag) (x28:SS) (x22:List qaj) (x1:Int) (x2:List qa9) (x3:List qab) (x4:Int) (x5:SS) (x6:Int) (x7:Bool) (x8:Int) (x9:SS) (x10:List Val) (x11 x12:List SS) (x13:List qab) (x14:SS) (x15:List qbh) (x16:Bool) (x17:List qar) (x18 x19:List qab) (x20:List SS) (x21:Bool) (nx1:Int×Bool×List qag->Option (qad×Int×Bool)):Int×Bool×SS×SS×Int×SS×Int×Bool×Int×SS×List Val×List SS×List SS×List qab->Option (qad×Int×Bool):=fun(x31,x32,x33,x34,x35,x36,x37,x38,x39,x40,x41,x42,x43,x44)=>
 chk (decide ((qag.rows (x27++[qag.mk x28 x33 x34 (qab.mk x35 x36 (Val.mk x37 x38 x39 x40 x41 x42) x43 x44)])).length * 208<=140737488355328)) (
 bnd (qan n ([44]:SS) x22 x31 x32) fun⟨x45,x46⟩=>
 bif(!x45)then(
 some (qad.mk x1 x2 x3 (qab.mk x4 x5 (Val.mk x6 x7 x8 x9 x10 x11) x12 x13) x14 x15 x16 x17 x18 x19 (x27++[qag.mk x28 x33 x34 (qab.mk x35 x36 (Val.mk x37 x38 x39 x40 x41 x42) x43 x44)]) x20 x21,x46,x32))
 else(
 nx1 (x46,x32,(x27++[qag.mk x28 x33 x34 (qab.mk x35 x36 (Val.mk x37 x38 x39 x40 x41 x42) x43 x44)]))))
def qj2 (n:Nat) (x22:List qaj) (x1:Int) (x2:List qa9) (x3:List qab) (x4:Int) (x5:SS) (x6:Int) (x7:Bool) (x8:Int) (x9:SS) (x10:List Val) (x11 x12:List SS) (x13:List qab) (x14:SS) (x15:List qbh) (x16:Bool) (x17:List qar) (x18 x19:List qab) (x20:List SS) (x21:Bool):(Int×Bool×List qag->Option (qad×Int×Bool))->Int×Bool×List qag->Option (qad×Int×Bool):=fun nx1 (x25,x26,x27)=>
 bnd (qd3 n x22 x25 x26) fun⟨x28,x29,x30⟩=>
 bnd (qan n ([58]:SS) x22 x29 x30) fun⟨x47,x48⟩=>
 bif x47 then(
 bnd (qeo n x22 x48 x30) fun⟨x49,x50,x51⟩=>
 qhx n x27 x28 x22 x1 x2 x3 x4 x5 x6 x7 x8 x9 x10 x11 x12 x13 x14 x15 x16 x17 x18 x19 x20 x21 nx1 (x50,x51,([]:SS),x49,(0:Int),([]:SS),(0:Int),false,(0:Int),([]:SS),([]:List _),([]:List _),([]:List _),([]:List _)))
 else(
 bnd (qax n ([46]:SS) x22 x48 x30) fun⟨x52,x53⟩=>
 bnd (qeo n x22 x52 x53) fun⟨x54,x55,x56⟩=>
 bif(x1==6)then(
 bnd (qax n ([61]:SS) x22 x55 x56) fun⟨x57,x58⟩=>
 bnd (qbb n x22 x57 x58) fun⟨⟨x59,x60,⟨x61,x62,x63,x64,x65,x66⟩,x67,x68⟩,x69,x70⟩=>
 qhx n x27 x28 x22 x1 x2 x3 x4 x5 x6 x7 x8 x9 x10 x11 x12 x13 x14 x15 x16 x17 x18 x19 x20 x21 nx1 (x69,x70,x54,([]:SS),x59,x60,x61,x62,x63,x64,x65,x66,x67,x68))
 else(
 qhx n x27 x28 x22 x1 x2 x3 x4 x5 x6 x7 x8 x9 x10 x11 x12 x13 x14 x15 x16 x17 x18 x19 x20 x21 nx1 (x55,x56,x54,([]:SS),(0:Int),([]:SS),(0:Int),false,(0:Int),([]:SS),([]:List _),([]:List _),([]:List _),([]:List _))))
def qpm (n:Nat) (x1:Int) (x2:List qa9) (x3:List qab) (x4:Int) (x5:SS) (x6:Int) (x7:Bool) (x8:Int) (x9:SS) (x10:List Val) (x11 x12:List SS) (x13:List qab) (x14:SS) (x15:List qbh) (x16:Bool) (x17:List qar) (x18 x19:List qab) (x20:List SS) (x21:Bool) (x22:List qaj) (x23:Int) (x24:Bool):Option (qad×Int×Bool):=
 qap (qj2 n x22 x1 x2 x3 x4 x5 x6 x7 x8 x9 x10 x11 x12 x13 x14 x15 x16 x17 x18 x19 x20 x21) n (x23,x24,([]:List _))
theorem qwj (n:Nat):∀ (x1:Int) (x2:List qa9) (x3:List qab) (x4:Int) (x5:SS) (x6:Int) (x7:Bool) (x8:Int) (x9:SS) (x10:List Val) (x11 x12:List SS) (x13:List qab) (x14:SS) (x15:List qbh) (x16:Bool) (x17:List qar) (x18 x19:List qab) (x20:List SS) (x21:Bool) (x22:List qaj) (x23:Int) (x24:Bool) (r:qad×Int×Bool),qpm n x1 x2 x3 x4 x5 x6 x7 x8 x9 x10 x11 x12 x13 x14 x15 x16 x17 x18 x19 x20 x21 x22 x23 x24=some r->qau Tryz.prog 56 [.ptr 0 0,.p (.agg [.int .i64 x1,.sl (qa9.rows x2),.sl (qab.rows x3),.int .i64 x4,.str x5,.int .i64 x6,.bool x7,.int .i64 x8,.str x9,.sl (Val.rows x10),.sl (qam x11),.sl (qam x12),.sl (qab.rows x13),.str x14,.sl (qbh.rows x15),.bool x16,.sl (qar.rows x17),.sl (qab.rows x18),.sl (qab.rows x19),.nilsl,.sl (qam x20),.bool x21])] [.box 85 [pK x22,pI x23,pB x24]] 1 (fun v lo=>v=q71 x22 x23 x24 r/\lo=q7p x22 x23 x24 r):=by
 intro x1 x2 x3 x4 x5 x6 x7 x8 x9 x10 x11 x12 x13 x14 x15 x16 x17 x18 x19 x20 x21 x22 x23 x24 r h;unfold qpm at h;refine qau.of_vc qa3 (fun _ _=>Tryz.call56 _ _) Tryz.func56 (by kernel_rfl) (inl:=[48,51,52,53,97,1000000]) (Nat.le_of_ble_eq_true rfl) ?_;conv=>whnf
 refine qby.fn [48,51,52,53,97,1000000] (S:=Int×Bool×List qag) (fun(x25,x26,x27)=>[(0,.ptr 0 0),(3,.ptr 1 0),(4,.ptr 2 0)]) (fun(x25,x26,x27)=>[.box 85 [pK x22,pI x25,pB x26],.box 55 [pI x1,pP x2,pE x3,pI x4,pS x5,pI x6,pB x7,pI x8,pS x9,pV x10,pT x11,pT x12,pE x13,pS x14,pA x15,pB x16,pO x17,pE x18,pE x19,.tsl 3 (qag.rows x27),pT x20,pB x21],.box 55 [.p (.int .i64 (0:Int)),.p (.nilsl),.p (.nilsl),.p (.int .i64 (0:Int)),.p (.str ([]:SS)),.p (.int .i64 (0:Int)),pB false,.p (.int .i64 (0:Int)),.p (.str ([]:SS)),.p (.nilsl),.p (.nilsl),.p (.nilsl),.p (.nilsl),.p (.str ([]:SS)),.p (.nilsl),pB false,.p (.nilsl),.p (.nilsl),.p (.nilsl),.p (.nilsl),.p (.nilsl),pB false],.tail 69 13 (qag.rows x27).length]) (B:=qj2 n x22 x1 x2 x3 x4 x5 x6 x7 x8 x9 x10 x11 x12 x13 x14 x15 x16 x17 x18 x19 x20 x21) h (wk [0,1,2,0] [3]) ?_;intro nx1 st h;obtain⟨x25,x26,x27⟩:=st;unfold qj2 at h;conv=>whnf
 replace h:=qaa h;obtain⟨⟨x28,x29,x30⟩,h1,h⟩:=h;refine qcl (qgb n _ _ _ _ h1) [0] [] ?_;rintro _ _ ⟨rfl,rfl⟩;refine⟨pS x28,[.box 85 [pK x22,pI x29,pB x30],.box 55 [pI x1,pP x2,pE x3,pI x4,pS x5,pI x6,pB x7,pI x8,pS x9,pV x10,pT x11,pT x12,pE x13,pS x14,pA x15,pB x16,pO x17,pE x18,pE x19,.tsl 3 (qag.rows x27),pT x20,pB x21],.box 55 [.p (.int .i64 (0:Int)),.p (.nilsl),.p (.nilsl),.p (.int .i64 (0:Int)),.p (.str ([]:SS)),.p (.int .i64 (0:Int)),pB false,.p (.int .i64 (0:Int)),.p (.str ([]:SS)),.p (.nilsl),.p (.nilsl),.p (.nilsl),.p (.nilsl),.p (.str ([]:SS)),.p (.nilsl),pB false,.p (.nilsl),.p (.nilsl),.p (.nilsl),.p (.nilsl),.p (.nilsl),pB false],.tail 69 13 (qag.rows x27).length,.box 69 [.p (.str ([]:SS)),.p (.str ([]:SS)),.p (.str ([]:SS)),.p (.int .i64 (0:Int)),.p (.str ([]:SS)),.p (.int .i64 (0:Int)),pB false,.p (.int .i64 (0:Int)),.p (.str ([]:SS)),.p (.nilsl),.p (.nilsl),.p (.nilsl),.p (.nilsl)]],rfl,rfl,?_⟩;conv=>whnf
 refine qje.cut (S:=Int×Bool×SS×SS×Int×SS×Int×Bool×Int×SS×List Val×List SS×List SS×List qab) (fun(x31,x32,x33,x34,x35,x36,x37,x38,x39,x40,x41,x42,x43,x44)=>[(0,.ptr 0 0),(3,.ptr 1 0),(4,.ptr 2 0),(5,.ptr 3 0)]) (fun(x31,x32,x33,x34,x35,x36,x37,x38,x39,x40,x41,x42,x43,x44)=>[.box 85 [pK x22,pI x31,pB x32],.box 55 [pI x1,pP x2,pE x3,pI x4,pS x5,pI x6,pB x7,pI x8,pS x9,pV x10,pT x11,pT x12,pE x13,pS x14,pA x15,pB x16,pO x17,pE x18,pE x19,.tsl 4 (qag.rows x27),pT x20,pB x21],.box 55 [.p (.int .i64 (0:Int)),.p (.nilsl),.p (.nilsl),.p (.int .i64 (0:Int)),.p (.str ([]:SS)),.p (.int .i64 (0:Int)),pB false,.p (.int .i64 (0:Int)),.p (.str ([]:SS)),.p (.nilsl),.p (.nilsl),.p (.nilsl),.p (.nilsl),.p (.str ([]:SS)),.p (.nilsl),pB false,.p (.nilsl),.p (.nilsl),.p (.nilsl),.p (.nilsl),.p (.nilsl),pB false],.box 69 [pS x28,pS x33,pS x34,pI x35,pS x36,pI x37,pB x38,pI x39,pS x40,pV x41,pT x42,pT x43,pE x44],.tail 69 13 (qag.rows x27).length]) (qhx n x27 x28 x22 x1 x2 x3 x4 x5 x6 x7 x8 x9 x10 x11 x12 x13 x14 x15 x16 x17 x18 x19 x20 x21 nx1) (r:=r) ?_ ?_
 ·intro st h
  obtain⟨x31,x32,x33,x34,x35,x36,x37,x38,x39,x40,x41,x42,x43,x44⟩:=st;unfold qhx at h;conv=>whnf
  refine⟨Codec.one qi2 [qag.mk x28 x33 x34 (qab.mk x35 x36 (Val.mk x37 x38 x39 x40 x41 x42) x43 x44)],qag.rows [qag.mk x28 x33 x34 (qab.mk x35 x36 (Val.mk x37 x38 x39 x40 x41 x42) x43 x44)],.inl rfl,?_⟩;conv=>whnf
  rw[show qag.rows x27++qag.rows [qag.mk x28 x33 x34 (qab.mk x35 x36 (Val.mk x37 x38 x39 x40 x41 x42) x43 x44)]=qag.rows (x27++[qag.mk x28 x33 x34 (qab.mk x35 x36 (Val.mk x37 x38 x39 x40 x41 x42) x43 x44)])from Codec.append qi2 x27 [qag.mk x28 x33 x34 (qab.mk x35 x36 (Val.mk x37 x38 x39 x40 x41 x42) x43 x44)]];conv=>whnf
  obtain⟨h3,h⟩:=qaw h;refine⟨⟨Codec.wide qi2 (x27++[qag.mk x28 x33 x34 (qab.mk x35 x36 (Val.mk x37 x38 x39 x40 x41 x42) x43 x44)]),of_decide_eq_true h3,qdx h3 (by decide)⟩,?_⟩;conv=>whnf
  refine⟨⟨rfl,rfl,rfl⟩,?_⟩;conv=>whnf
  replace h:=qaa h;obtain⟨⟨x45,x46⟩,h2,h⟩:=h;refine qcl (qak n _ _ _ _ _ h2) [0] [] ?_;rintro _ _ ⟨rfl,rfl⟩;refine⟨pB x45,[.box 85 [pK x22,pI x46,pB x32],.box 55 [pI x1,pP x2,pE x3,pI x4,pS x5,pI x6,pB x7,pI x8,pS x9,pV x10,pT x11,pT x12,pE x13,pS x14,pA x15,pB x16,pO x17,pE x18,pE x19,.tsl 5 (qag.rows (x27++[qag.mk x28 x33 x34 (qab.mk x35 x36 (Val.mk x37 x38 x39 x40 x41 x42) x43 x44)])),pT x20,pB x21],.box 55 [.p (.int .i64 (0:Int)),.p (.nilsl),.p (.nilsl),.p (.int .i64 (0:Int)),.p (.str ([]:SS)),.p (.int .i64 (0:Int)),pB false,.p (.int .i64 (0:Int)),.p (.str ([]:SS)),.p (.nilsl),.p (.nilsl),.p (.nilsl),.p (.nilsl),.p (.str ([]:SS)),.p (.nilsl),pB false,.p (.nilsl),.p (.nilsl),.p (.nilsl),.p (.nilsl),.p (.nilsl),pB false],.box 69 [pS x28,pS x33,pS x34,pI x35,pS x36,pI x37,pB x38,pI x39,pS x40,pV x41,pT x42,pT x43,pE x44],.dead,.tail 69 13 (qag.rows (x27++[qag.mk x28 x33 x34 (qab.mk x35 x36 (Val.mk x37 x38 x39 x40 x41 x42) x43 x44)])).length],rfl,rfl,?_⟩;conv=>whnf
  refine ifc h (fun hc h=>?_) (fun hc h=>?_)
  ·obtain rfl:=sj h
   conv=>whnf
   refine⟨_,_,⟨rfl,rfl⟩,wk [0] []⟩
  ·conv=>whnf
   exact⟨(x46,x32,(x27++[qag.mk x28 x33 x34 (qab.mk x35 x36 (Val.mk x37 x38 x39 x40 x41 x42) x43 x44)])),h,wk [0,1,2,5] []⟩
 ·conv=>whnf
  replace h:=qaa h;obtain⟨⟨x47,x48⟩,h4,h⟩:=h;refine qcl (qak n _ _ _ _ _ h4) [0] [] ?_;rintro _ _ ⟨rfl,rfl⟩;refine⟨pB x47,[.box 85 [pK x22,pI x48,pB x30],.box 55 [pI x1,pP x2,pE x3,pI x4,pS x5,pI x6,pB x7,pI x8,pS x9,pV x10,pT x11,pT x12,pE x13,pS x14,pA x15,pB x16,pO x17,pE x18,pE x19,.tsl 3 (qag.rows x27),pT x20,pB x21],.box 55 [.p (.int .i64 (0:Int)),.p (.nilsl),.p (.nilsl),.p (.int .i64 (0:Int)),.p (.str ([]:SS)),.p (.int .i64 (0:Int)),pB false,.p (.int .i64 (0:Int)),.p (.str ([]:SS)),.p (.nilsl),.p (.nilsl),.p (.nilsl),.p (.nilsl),.p (.str ([]:SS)),.p (.nilsl),pB false,.p (.nilsl),.p (.nilsl),.p (.nilsl),.p (.nilsl),.p (.nilsl),pB false],.tail 69 13 (qag.rows x27).length,.box 69 [pS x28,.p (.str ([]:SS)),.p (.str ([]:SS)),.p (.int .i64 (0:Int)),.p (.str ([]:SS)),.p (.int .i64 (0:Int)),pB false,.p (.int .i64 (0:Int)),.p (.str ([]:SS)),.p (.nilsl),.p (.nilsl),.p (.nilsl),.p (.nilsl)]],rfl,rfl,?_⟩;conv=>whnf
  refine ifc h (fun hc h=>?_) (fun hc h=>?_)
  ·conv=>whnf
   replace h:=qaa h;obtain⟨⟨x49,x50,x51⟩,h5,h⟩:=h;refine qcl (qhh n _ _ _ _ h5) [0] [] ?_;rintro _ _ ⟨rfl,rfl⟩;refine⟨pS x49,[.box 85 [pK x22,pI x50,pB x51],.box 55 [pI x1,pP x2,pE x3,pI x4,pS x5,pI x6,pB x7,pI x8,pS x9,pV x10,pT x11,pT x12,pE x13,pS x14,pA x15,pB x16,pO x17,pE x18,pE x19,.tsl 3 (qag.rows x27),pT x20,pB x21],.box 55 [.p (.int .i64 (0:Int)),.p (.nilsl),.p (.nilsl),.p (.int .i64 (0:Int)),.p (.str ([]:SS)),.p (.int .i64 (0:Int)),pB false,.p (.int .i64 (0:Int)),.p (.str ([]:SS)),.p (.nilsl),.p (.nilsl),.p (.nilsl),.p (.nilsl),.p (.str ([]:SS)),.p (.nilsl),pB false,.p (.nilsl),.p (.nilsl),.p (.nilsl),.p (.nilsl),.p (.nilsl),pB false],.tail 69 13 (qag.rows x27).length,.box 69 [pS x28,.p (.str ([]:SS)),.p (.str ([]:SS)),.p (.int .i64 (0:Int)),.p (.str ([]:SS)),.p (.int .i64 (0:Int)),pB false,.p (.int .i64 (0:Int)),.p (.str ([]:SS)),.p (.nilsl),.p (.nilsl),.p (.nilsl),.p (.nilsl)]],rfl,rfl,?_⟩;conv=>whnf
   exact⟨(x50,x51,([]:SS),x49,(0:Int),([]:SS),(0:Int),false,(0:Int),([]:SS),([]:List _),([]:List _),([]:List _),([]:List _)),h,wk [0,1,2,4,3] []⟩
  ·conv=>whnf
   replace h:=qaa h;obtain⟨⟨x52,x53⟩,h6,h⟩:=h;refine qcl (qa7 n _ _ _ _ _ h6) [0] [] ?_;rintro _ _ ⟨rfl,rfl⟩;refine⟨.p (.tup []),[.box 85 [pK x22,pI x52,pB x53],.box 55 [pI x1,pP x2,pE x3,pI x4,pS x5,pI x6,pB x7,pI x8,pS x9,pV x10,pT x11,pT x12,pE x13,pS x14,pA x15,pB x16,pO x17,pE x18,pE x19,.tsl 3 (qag.rows x27),pT x20,pB x21],.box 55 [.p (.int .i64 (0:Int)),.p (.nilsl),.p (.nilsl),.p (.int .i64 (0:Int)),.p (.str ([]:SS)),.p (.int .i64 (0:Int)),pB false,.p (.int .i64 (0:Int)),.p (.str ([]:SS)),.p (.nilsl),.p (.nilsl),.p (.nilsl),.p (.nilsl),.p (.str ([]:SS)),.p (.nilsl),pB false,.p (.nilsl),.p (.nilsl),.p (.nilsl),.p (.nilsl),.p (.nilsl),pB false],.tail 69 13 (qag.rows x27).length,.box 69 [pS x28,.p (.str ([]:SS)),.p (.str ([]:SS)),.p (.int .i64 (0:Int)),.p (.str ([]:SS)),.p (.int .i64 (0:Int)),pB false,.p (.int .i64 (0:Int)),.p (.str ([]:SS)),.p (.nilsl),.p (.nilsl),.p (.nilsl),.p (.nilsl)]],rfl,rfl,?_⟩;conv=>whnf
   replace h:=qaa h;obtain⟨⟨x54,x55,x56⟩,h7,h⟩:=h;refine qcl (qhh n _ _ _ _ h7) [0] [] ?_;rintro _ _ ⟨rfl,rfl⟩;refine⟨pS x54,[.box 85 [pK x22,pI x55,pB x56],.box 55 [pI x1,pP x2,pE x3,pI x4,pS x5,pI x6,pB x7,pI x8,pS x9,pV x10,pT x11,pT x12,pE x13,pS x14,pA x15,pB x16,pO x17,pE x18,pE x19,.tsl 3 (qag.rows x27),pT x20,pB x21],.box 55 [.p (.int .i64 (0:Int)),.p (.nilsl),.p (.nilsl),.p (.int .i64 (0:Int)),.p (.str ([]:SS)),.p (.int .i64 (0:Int)),pB false,.p (.int .i64 (0:Int)),.p (.str ([]:SS)),.p (.nilsl),.p (.nilsl),.p (.nilsl),.p (.nilsl),.p (.str ([]:SS)),.p (.nilsl),pB false,.p (.nilsl),.p (.nilsl),.p (.nilsl),.p (.nilsl),.p (.nilsl),pB false],.tail 69 13 (qag.rows x27).length,.box 69 [pS x28,.p (.str ([]:SS)),.p (.str ([]:SS)),.p (.int .i64 (0:Int)),.p (.str ([]:SS)),.p (.int .i64 (0:Int)),pB false,.p (.int .i64 (0:Int)),.p (.str ([]:SS)),.p (.nilsl),.p (.nilsl),.p (.nilsl),.p (.nilsl)]],rfl,rfl,?_⟩;conv=>whnf
   refine ifc h (fun hc h=>?_) (fun hc h=>?_)
   ·conv=>whnf
    replace h:=qaa h;obtain⟨⟨x57,x58⟩,h8,h⟩:=h;refine qcl (qa7 n _ _ _ _ _ h8) [0] [] ?_;rintro _ _ ⟨rfl,rfl⟩;refine⟨.p (.tup []),[.box 85 [pK x22,pI x57,pB x58],.box 55 [pI x1,pP x2,pE x3,pI x4,pS x5,pI x6,pB x7,pI x8,pS x9,pV x10,pT x11,pT x12,pE x13,pS x14,pA x15,pB x16,pO x17,pE x18,pE x19,.tsl 3 (qag.rows x27),pT x20,pB x21],.box 55 [.p (.int .i64 (0:Int)),.p (.nilsl),.p (.nilsl),.p (.int .i64 (0:Int)),.p (.str ([]:SS)),.p (.int .i64 (0:Int)),pB false,.p (.int .i64 (0:Int)),.p (.str ([]:SS)),.p (.nilsl),.p (.nilsl),.p (.nilsl),.p (.nilsl),.p (.str ([]:SS)),.p (.nilsl),pB false,.p (.nilsl),.p (.nilsl),.p (.nilsl),.p (.nilsl),.p (.nilsl),pB false],.tail 69 13 (qag.rows x27).length,.box 69 [pS x28,pS x54,.p (.str ([]:SS)),.p (.int .i64 (0:Int)),.p (.str ([]:SS)),.p (.int .i64 (0:Int)),pB false,.p (.int .i64 (0:Int)),.p (.str ([]:SS)),.p (.nilsl),.p (.nilsl),.p (.nilsl),.p (.nilsl)]],rfl,rfl,?_⟩;conv=>whnf
    replace h:=qaa h;obtain⟨⟨⟨x59,x60,⟨x61,x62,x63,x64,x65,x66⟩,x67,x68⟩,x69,x70⟩,h9,h⟩:=h;refine qcl (qmt n _ _ _ _ h9) [0] [] ?_;rintro _ _ ⟨rfl,rfl⟩;refine⟨.p (.agg [.int .i64 x59,.str x60,.int .i64 x61,.bool x62,.int .i64 x63,.str x64,.sl (Val.rows x65),.sl (qam x66),.sl (qam x67),.sl (qab.rows x68)]),[.box 85 [pK x22,pI x69,pB x70],.box 55 [pI x1,pP x2,pE x3,pI x4,pS x5,pI x6,pB x7,pI x8,pS x9,pV x10,pT x11,pT x12,pE x13,pS x14,pA x15,pB x16,pO x17,pE x18,pE x19,.tsl 3 (qag.rows x27),pT x20,pB x21],.box 55 [.p (.int .i64 (0:Int)),.p (.nilsl),.p (.nilsl),.p (.int .i64 (0:Int)),.p (.str ([]:SS)),.p (.int .i64 (0:Int)),pB false,.p (.int .i64 (0:Int)),.p (.str ([]:SS)),.p (.nilsl),.p (.nilsl),.p (.nilsl),.p (.nilsl),.p (.str ([]:SS)),.p (.nilsl),pB false,.p (.nilsl),.p (.nilsl),.p (.nilsl),.p (.nilsl),.p (.nilsl),pB false],.tail 69 13 (qag.rows x27).length,.box 69 [pS x28,pS x54,.p (.str ([]:SS)),.p (.int .i64 (0:Int)),.p (.str ([]:SS)),.p (.int .i64 (0:Int)),pB false,.p (.int .i64 (0:Int)),.p (.str ([]:SS)),.p (.nilsl),.p (.nilsl),.p (.nilsl),.p (.nilsl)]],rfl,rfl,?_⟩;conv=>whnf
    exact⟨(x69,x70,x54,([]:SS),x59,x60,x61,x62,x63,x64,x65,x66,x67,x68),h,wk [0,1,2,4,3] []⟩
   ·conv=>whnf
    exact⟨(x55,x56,x54,([]:SS),(0:Int),([]:SS),(0:Int),false,(0:Int),([]:SS),([]:List _),([]:List _),([]:List _),([]:List _)),h,wk [0,1,2,4,3] []⟩
end W
end
