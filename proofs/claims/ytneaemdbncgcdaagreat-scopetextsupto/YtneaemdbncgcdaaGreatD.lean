/- A part of the proof: contracts, printed by program. -/
import Derived.Test.YtneaemdbncgcdaaGreatB
import Derived.Test.YtneaemdbncgcdaaGreatC
set_option linter.unusedVariables false
set_option linter.unusedSimpArgs false
set_option linter.unnecessarySimpa false
set_option linter.deprecated false
set_option linter.unusedSectionVars false
set_option linter.constructorNameAsVariable false
section
set_option maxRecDepth 100000
open Go Go.Proofs Ax
namespace W
abbrev qqf (x1:List qaj) (x2:Int) (x3:Bool) (r:(List SS)×(List qab)×Int×Bool):FV:=.p (.tup [.sl (qam r.1),.sl (qab.rows r.2.1)])
abbrev qqe (x1:List qaj) (x2:Int) (x3:Bool) (r:(List SS)×(List qab)×Int×Bool):List AObj:=[.box 85 [pK x1,.p (.int .i64 r.2.2.1),.p (.bool r.2.2.2)]]
abbrev qfu:Type:=(List qaj)->Int->Bool->Option (qab×Int×Bool)
def qfr (n:Nat) (x1:List qaj) (g51:qfu):(List SS×List qab×Int×Bool->Option ((List SS)×(List qab)×Int×Bool))->List SS×List qab×Int×Bool->Option ((List SS)×(List qab)×Int×Bool):=fun nx1 (x8,x9,x10,x11)=>
 bif(!x11)then(
 bnd (qeo n x1 x10 x11) fun⟨x12,x13,x14⟩=>
 bnd (qax n ([58]:SS) x1 x13 x14) fun⟨x15,x16⟩=>
 bnd (g51 x1 x15 x16) fun⟨⟨x17,x18,⟨x19,x20,x21,x22,x23,x24⟩,x25,x26⟩,x27,x28⟩=>
 chk (decide ((qam (x8++[x12])).length * 16<=140737488355328)) (
 chk (decide ((qab.rows (x9++[qab.mk x17 x18 (Val.mk x19 x20 x21 x22 x23 x24) x25 x26])).length * 160<=140737488355328)) (
 bnd (qan n ([44]:SS) x1 x27 x28) fun⟨x29,x30⟩=>
 bif(!x29)then(
 bnd (qax n ([125]:SS) x1 x30 x28) fun⟨x31,x32⟩=>
 some ((x8++[x12]),(x9++[qab.mk x17 x18 (Val.mk x19 x20 x21 x22 x23 x24) x25 x26]),x31,x32))
 else(
 nx1 ((x8++[x12]),(x9++[qab.mk x17 x18 (Val.mk x19 x20 x21 x22 x23 x24) x25 x26]),x30,x28)))))
 else(
 some (x8,x9,x10,x11))
abbrev q33:Type:=(List qaj)->Int->Bool->Option ((List SS)×(List qab)×Int×Bool)
abbrev q34:Type:=SS->(List qaj)->Int->Bool->Option (qab×Int×Bool)
abbrev q35:Type:=SS->(List qaj)->Int->Bool->Option ((List qab)×Int×Bool)
def qoe (n:Nat) (g98:q33) (g51 g94:qfu) (g123 g128:qfu) (g136 g138:qfu) (g140 g141 g142:qfu) (g143:q34) (g144:q35) (x1:List qaj) (x2:Int) (x3:Bool):Option ((List SS)×(List qab)×Int×Bool):=
 bnd (qax n ([123]:SS) x1 x2 x3) fun⟨x4,x5⟩=>
 bnd (qan n ([125]:SS) x1 x4 x5) fun⟨x6,x7⟩=>
 bif x6 then(
 some (([]:List SS),([]:List qab),x7,x5))
 else(
 qap (qfr n x1 g51) n (([]:List _),([]:List _),x7,x5))
abbrev qrf (x1:List qaj) (x2:Int) (x3:Bool) (r:qab×Int×Bool):FV:=.p ((PV.agg (qca.cells r.1)))
abbrev qre (x1:List qaj) (x2:Int) (x3:Bool) (r:qab×Int×Bool):List AObj:=[.box 85 [pK x1,.p (.int .i64 r.2.1),.p (.bool r.2.2)]]
def qjt (n:Nat) (x1:List qaj) (g94:qfu):(Int×Bool×Int×SS×Int×Bool×Int×SS×List Val×List SS×List SS×List qab->Option (qab×Int×Bool))->Int×Bool×Int×SS×Int×Bool×Int×SS×List Val×List SS×List SS×List qab->Option (qab×Int×Bool):=fun nx1 (x16,x17,x18,x19,x20,x21,x22,x23,x24,x25,x26,x27)=>
 bnd (qan n ([79,82]:SS) x1 x16 x17) fun⟨x28,x29⟩=>
 bif x28 then(
 bnd (g94 x1 x29 x17) fun⟨⟨x30,x31,⟨x32,x33,x34,x35,x36,x37⟩,x38,x39⟩,x40,x41⟩=>
 bnd (qj3 n ([79,82]:SS) (qab.mk x18 x19 (Val.mk x20 x21 x22 x23 x24 x25) x26 x27) (qab.mk x30 x31 (Val.mk x32 x33 x34 x35 x36 x37) x38 x39)) fun⟨x42,x43,⟨x44,x45,x46,x47,x48,x49⟩,x50,x51⟩=>
 nx1 (x40,x41,x42,x43,x44,x45,x46,x47,x48,x49,x50,x51))
 else(
 some (qab.mk x18 x19 (Val.mk x20 x21 x22 x23 x24 x25) x26 x27,x29,x17))
def qp3 (n:Nat) (g98:q33) (g51 g94:qfu) (g123 g128:qfu) (g136 g138:qfu) (g140 g141 g142:qfu) (g143:q34) (g144:q35) (x1:List qaj) (x2:Int) (x3:Bool):Option (qab×Int×Bool):=
 bnd (g94 x1 x2 x3) fun⟨⟨x4,x5,⟨x6,x7,x8,x9,x10,x11⟩,x12,x13⟩,x14,x15⟩=>
 qap (qjt n x1 g94) n (x14,x15,x4,x5,x6,x7,x8,x9,x10,x11,x12,x13)
abbrev qve (x1:List qaj) (x2:Int) (x3:Bool) (r:qab×Int×Bool):FV:=.p ((PV.agg (qca.cells r.1)))
abbrev qu9 (x1:List qaj) (x2:Int) (x3:Bool) (r:qab×Int×Bool):List AObj:=[.box 85 [pK x1,.p (.int .i64 r.2.1),.p (.bool r.2.2)]]
def qlv (n:Nat) (x1:List qaj) (g123:qfu):(Int×Bool×Int×SS×Int×Bool×Int×SS×List Val×List SS×List SS×List qab->Option (qab×Int×Bool))->Int×Bool×Int×SS×Int×Bool×Int×SS×List Val×List SS×List SS×List qab->Option (qab×Int×Bool):=fun nx1 (x16,x17,x18,x19,x20,x21,x22,x23,x24,x25,x26,x27)=>
 bnd (qan n ([88,79,82]:SS) x1 x16 x17) fun⟨x28,x29⟩=>
 bif x28 then(
 bnd (g123 x1 x29 x17) fun⟨⟨x30,x31,⟨x32,x33,x34,x35,x36,x37⟩,x38,x39⟩,x40,x41⟩=>
 bnd (qj3 n ([88,79,82]:SS) (qab.mk x18 x19 (Val.mk x20 x21 x22 x23 x24 x25) x26 x27) (qab.mk x30 x31 (Val.mk x32 x33 x34 x35 x36 x37) x38 x39)) fun⟨x42,x43,⟨x44,x45,x46,x47,x48,x49⟩,x50,x51⟩=>
 nx1 (x40,x41,x42,x43,x44,x45,x46,x47,x48,x49,x50,x51))
 else(
 some (qab.mk x18 x19 (Val.mk x20 x21 x22 x23 x24 x25) x26 x27,x29,x17))
def qrn (n:Nat) (g98:q33) (g51 g94:qfu) (g123 g128:qfu) (g136 g138:qfu) (g140 g141 g142:qfu) (g143:q34) (g144:q35) (x1:List qaj) (x2:Int) (x3:Bool):Option (qab×Int×Bool):=
 bnd (g123 x1 x2 x3) fun⟨⟨x4,x5,⟨x6,x7,x8,x9,x10,x11⟩,x12,x13⟩,x14,x15⟩=>
 qap (qlv n x1 g123) n (x14,x15,x4,x5,x6,x7,x8,x9,x10,x11,x12,x13)
abbrev qvb (x1:List qaj) (x2:Int) (x3:Bool) (r:qab×Int×Bool):FV:=.p ((PV.agg (qca.cells r.1)))
abbrev qu6 (x1:List qaj) (x2:Int) (x3:Bool) (r:qab×Int×Bool):List AObj:=[.box 85 [pK x1,.p (.int .i64 r.2.1),.p (.bool r.2.2)]]
def qls (n:Nat) (x1:List qaj) (g128:qfu):(Int×Bool×Int×SS×Int×Bool×Int×SS×List Val×List SS×List SS×List qab->Option (qab×Int×Bool))->Int×Bool×Int×SS×Int×Bool×Int×SS×List Val×List SS×List SS×List qab->Option (qab×Int×Bool):=fun nx1 (x16,x17,x18,x19,x20,x21,x22,x23,x24,x25,x26,x27)=>
 bnd (qan n ([65,78,68]:SS) x1 x16 x17) fun⟨x28,x29⟩=>
 bif x28 then(
 bnd (g128 x1 x29 x17) fun⟨⟨x30,x31,⟨x32,x33,x34,x35,x36,x37⟩,x38,x39⟩,x40,x41⟩=>
 bnd (qj3 n ([65,78,68]:SS) (qab.mk x18 x19 (Val.mk x20 x21 x22 x23 x24 x25) x26 x27) (qab.mk x30 x31 (Val.mk x32 x33 x34 x35 x36 x37) x38 x39)) fun⟨x42,x43,⟨x44,x45,x46,x47,x48,x49⟩,x50,x51⟩=>
 nx1 (x40,x41,x42,x43,x44,x45,x46,x47,x48,x49,x50,x51))
 else(
 some (qab.mk x18 x19 (Val.mk x20 x21 x22 x23 x24 x25) x26 x27,x29,x17))
def qrl (n:Nat) (g98:q33) (g51 g94:qfu) (g123 g128:qfu) (g136 g138:qfu) (g140 g141 g142:qfu) (g143:q34) (g144:q35) (x1:List qaj) (x2:Int) (x3:Bool):Option (qab×Int×Bool):=
 bnd (g128 x1 x2 x3) fun⟨⟨x4,x5,⟨x6,x7,x8,x9,x10,x11⟩,x12,x13⟩,x14,x15⟩=>
 qap (qls n x1 g128) n (x14,x15,x4,x5,x6,x7,x8,x9,x10,x11,x12,x13)
abbrev qvc (x1:List qaj) (x2:Int) (x3:Bool) (r:qab×Int×Bool):FV:=.p ((PV.agg (qca.cells r.1)))
abbrev qu7 (x1:List qaj) (x2:Int) (x3:Bool) (r:qab×Int×Bool):List AObj:=[.box 85 [pK x1,.p (.int .i64 r.2.1),.p (.bool r.2.2)]]
def qpe (n:Nat) (g98:q33) (g51 g94:qfu) (g123 g128:qfu) (g136 g138:qfu) (g140 g141 g142:qfu) (g143:q34) (g144:q35) (x1:List qaj) (x2:Int) (x3:Bool):Option (qab×Int×Bool):=
 bnd (qan n ([78,79,84]:SS) x1 x2 x3) fun⟨x4,x5⟩=>
 bif x4 then(
 bnd (g128 x1 x5 x3) fun⟨⟨x6,x7,⟨x8,x9,x10,x11,x12,x13⟩,x14,x15⟩,x16,x17⟩=>
 bnd (qqa n (9:Int) (qab.mk x6 x7 (Val.mk x8 x9 x10 x11 x12 x13) x14 x15)) fun⟨x18,x19,⟨x20,x21,x22,x23,x24,x25⟩,x26,x27⟩=>
 some (qab.mk x18 x19 (Val.mk x20 x21 x22 x23 x24 x25) x26 x27,x16,x17))
 else(
 bnd (g136 x1 x5 x3) fun⟨⟨x28,x29,⟨x30,x31,x32,x33,x34,x35⟩,x36,x37⟩,x38,x39⟩=>
 some (qab.mk x28 x29 (Val.mk x30 x31 x32 x33 x34 x35) x36 x37,x38,x39))
abbrev qt9 (x1:List qaj) (x2:Int) (x3:Bool) (r:qab×Int×Bool):FV:=.p ((PV.agg (qca.cells r.1)))
abbrev qt5 (x1:List qaj) (x2:Int) (x3:Bool) (r:qab×Int×Bool):List AObj:=[.box 85 [pK x1,.p (.int .i64 r.2.1),.p (.bool r.2.2)]]
def qj1 (n:Nat) (x1:List qaj) (x15:Bool) (g138:qfu) (x4:Int) (x5:SS) (x6:Int) (x7:Bool) (x8:Int) (x9:SS) (x10:List Val) (x11 x12:List SS) (x13:List qab):(Int×Int->Option (qab×Int×Bool))->Int×Int->Option (qab×Int×Bool):=fun nx1 (x42,x43)=>
 bif(decide (x42<(((qam [([61]:SS),([60,62]:SS),([60,61]:SS),([60]:SS),([62,61]:SS),([62]:SS),([73,78]:SS)]).length:Nat):Int)))then(
 bnd (idx [([61]:SS),([60,62]:SS),([60,61]:SS),([60]:SS),([62,61]:SS),([62]:SS),([73,78]:SS)] x42) fun x44=>
 bnd (qan n x44 x1 x43 x15) fun⟨x45,x46⟩=>
 bif x45 then(
 bnd (g138 x1 x46 x15) fun⟨⟨x47,x48,⟨x49,x50,x51,x52,x53,x54⟩,x55,x56⟩,x57,x58⟩=>
 bnd (idx [([61]:SS),([60,62]:SS),([60,61]:SS),([60]:SS),([62,61]:SS),([62]:SS),([73,78]:SS)] x42) fun x59=>
 bnd (qj3 n x59 (qab.mk x4 x5 (Val.mk x6 x7 x8 x9 x10 x11) x12 x13) (qab.mk x47 x48 (Val.mk x49 x50 x51 x52 x53 x54) x55 x56)) fun⟨x60,x61,⟨x62,x63,x64,x65,x66,x67⟩,x68,x69⟩=>
 some (qab.mk x60 x61 (Val.mk x62 x63 x64 x65 x66 x67) x68 x69,x57,x58))
 else(
 nx1 ((IntKind.i64.wrap (x42+1)),x46)))
 else(
 some (qab.mk x4 x5 (Val.mk x6 x7 x8 x9 x10 x11) x12 x13,x43,x15))
def qko (n:Nat) (g98:q33) (g51 g94:qfu) (g123 g128:qfu) (g136 g138:qfu) (g140 g141 g142:qfu) (g143:q34) (g144:q35) (x1:List qaj) (x2:Int) (x3:Bool):Option (qab×Int×Bool):=
 bnd (g138 x1 x2 x3) fun⟨⟨x4,x5,⟨x6,x7,x8,x9,x10,x11⟩,x12,x13⟩,x14,x15⟩=>
 bnd (qan n ([73,83]:SS) x1 x14 x15) fun⟨x16,x17⟩=>
 bif x16 then(
 bnd (qan n ([78,79,84]:SS) x1 x17 x15) fun⟨x18,x19⟩=>
 bnd (qax n ([78,85,76,76]:SS) x1 x19 x15) fun⟨x20,x21⟩=>
 bif x18 then(
 bnd (qqa n (12:Int) (qab.mk x4 x5 (Val.mk x6 x7 x8 x9 x10 x11) x12 x13)) fun⟨x22,x23,⟨x24,x25,x26,x27,x28,x29⟩,x30,x31⟩=>
 some (qab.mk x22 x23 (Val.mk x24 x25 x26 x27 x28 x29) x30 x31,x20,x21))
 else(
 bnd (qqa n (11:Int) (qab.mk x4 x5 (Val.mk x6 x7 x8 x9 x10 x11) x12 x13)) fun⟨x32,x33,⟨x34,x35,x36,x37,x38,x39⟩,x40,x41⟩=>
 some (qab.mk x32 x33 (Val.mk x34 x35 x36 x37 x38 x39) x40 x41,x20,x21)))
 else(
 qap (qj1 n x1 x15 g138 x4 x5 x6 x7 x8 x9 x10 x11 x12 x13) n ((0:Int),x17))
abbrev qvd (x1:List qaj) (x2:Int) (x3:Bool) (r:qab×Int×Bool):FV:=.p ((PV.agg (qca.cells r.1)))
abbrev qu8 (x1:List qaj) (x2:Int) (x3:Bool) (r:qab×Int×Bool):List AObj:=[.box 85 [pK x1,.p (.int .i64 r.2.1),.p (.bool r.2.2)]]
def qlu (n:Nat) (x1:List qaj) (g140:qfu):(Int×Bool×Int×SS×Int×Bool×Int×SS×List Val×List SS×List SS×List qab->Option (qab×Int×Bool))->Int×Bool×Int×SS×Int×Bool×Int×SS×List Val×List SS×List SS×List qab->Option (qab×Int×Bool):=fun nx1 (x16,x17,x18,x19,x20,x21,x22,x23,x24,x25,x26,x27)=>
 bnd (qcx n ([43]:SS) x1 x16 x17) fun x28=>
 bif(!x28)then(
 bnd (qcx n ([45]:SS) x1 x16 x17) fun x29=>
 bif(bif x28 then true else x29)then(
 bnd (idx x1 x16) fun⟨x30,x31,x32,x33⟩=>
 bnd (g140 x1 (IntKind.i64.wrap (x16+1)) x17) fun⟨⟨x34,x35,⟨x36,x37,x38,x39,x40,x41⟩,x42,x43⟩,x44,x45⟩=>
 bnd (qj3 n x31 (qab.mk x18 x19 (Val.mk x20 x21 x22 x23 x24 x25) x26 x27) (qab.mk x34 x35 (Val.mk x36 x37 x38 x39 x40 x41) x42 x43)) fun⟨x46,x47,⟨x48,x49,x50,x51,x52,x53⟩,x54,x55⟩=>
 nx1 (x44,x45,x46,x47,x48,x49,x50,x51,x52,x53,x54,x55))
 else(
 some (qab.mk x18 x19 (Val.mk x20 x21 x22 x23 x24 x25) x26 x27,x16,x17)))
 else(
 bif(bif x28 then true else false)then(
 bnd (idx x1 x16) fun⟨x56,x57,x58,x59⟩=>
 bnd (g140 x1 (IntKind.i64.wrap (x16+1)) x17) fun⟨⟨x60,x61,⟨x62,x63,x64,x65,x66,x67⟩,x68,x69⟩,x70,x71⟩=>
 bnd (qj3 n x57 (qab.mk x18 x19 (Val.mk x20 x21 x22 x23 x24 x25) x26 x27) (qab.mk x60 x61 (Val.mk x62 x63 x64 x65 x66 x67) x68 x69)) fun⟨x72,x73,⟨x74,x75,x76,x77,x78,x79⟩,x80,x81⟩=>
 nx1 (x70,x71,x72,x73,x74,x75,x76,x77,x78,x79,x80,x81))
 else(
 some (qab.mk x18 x19 (Val.mk x20 x21 x22 x23 x24 x25) x26 x27,x16,x17)))
def qrm (n:Nat) (g98:q33) (g51 g94:qfu) (g123 g128:qfu) (g136 g138:qfu) (g140 g141 g142:qfu) (g143:q34) (g144:q35) (x1:List qaj) (x2:Int) (x3:Bool):Option (qab×Int×Bool):=
 bnd (g140 x1 x2 x3) fun⟨⟨x4,x5,⟨x6,x7,x8,x9,x10,x11⟩,x12,x13⟩,x14,x15⟩=>
 qap (qlu n x1 g140) n (x14,x15,x4,x5,x6,x7,x8,x9,x10,x11,x12,x13)
abbrev qq6 (x1:List qaj) (x2:Int) (x3:Bool) (r:qab×Int×Bool):FV:=.p ((PV.agg (qca.cells r.1)))
abbrev qq5 (x1:List qaj) (x2:Int) (x3:Bool) (r:qab×Int×Bool):List AObj:=[.box 85 [pK x1,.p (.int .i64 r.2.1),.p (.bool r.2.2)]]
def qgl (n:Nat) (x1:List qaj) (g141:qfu):(Int×Bool×Int×SS×Int×Bool×Int×SS×List Val×List SS×List SS×List qab->Option (qab×Int×Bool))->Int×Bool×Int×SS×Int×Bool×Int×SS×List Val×List SS×List SS×List qab->Option (qab×Int×Bool):=fun nx1 (x16,x17,x18,x19,x20,x21,x22,x23,x24,x25,x26,x27)=>
 bnd (qcx n ([42]:SS) x1 x16 x17) fun x28=>
 bif(!x28)then(
 bnd (qcx n ([47]:SS) x1 x16 x17) fun x29=>
 bif(!(bif x28 then true else x29))then(
 bnd (qcx n ([37]:SS) x1 x16 x17) fun x30=>
 bif(bif(bif x28 then true else x29)then true else x30)then(
 bnd (idx x1 x16) fun⟨x31,x32,x33,x34⟩=>
 bnd (g141 x1 (IntKind.i64.wrap (x16+1)) x17) fun⟨⟨x35,x36,⟨x37,x38,x39,x40,x41,x42⟩,x43,x44⟩,x45,x46⟩=>
 bnd (qj3 n x32 (qab.mk x18 x19 (Val.mk x20 x21 x22 x23 x24 x25) x26 x27) (qab.mk x35 x36 (Val.mk x37 x38 x39 x40 x41 x42) x43 x44)) fun⟨x47,x48,⟨x49,x50,x51,x52,x53,x54⟩,x55,x56⟩=>
 nx1 (x45,x46,x47,x48,x49,x50,x51,x52,x53,x54,x55,x56))
 else(
 some (qab.mk x18 x19 (Val.mk x20 x21 x22 x23 x24 x25) x26 x27,x16,x17)))
 else(
 bif(bif(bif x28 then true else x29)then true else false)then(
 bnd (idx x1 x16) fun⟨x57,x58,x59,x60⟩=>
 bnd (g141 x1 (IntKind.i64.wrap (x16+1)) x17) fun⟨⟨x61,x62,⟨x63,x64,x65,x66,x67,x68⟩,x69,x70⟩,x71,x72⟩=>
 bnd (qj3 n x58 (qab.mk x18 x19 (Val.mk x20 x21 x22 x23 x24 x25) x26 x27) (qab.mk x61 x62 (Val.mk x63 x64 x65 x66 x67 x68) x69 x70)) fun⟨x73,x74,⟨x75,x76,x77,x78,x79,x80⟩,x81,x82⟩=>
 nx1 (x71,x72,x73,x74,x75,x76,x77,x78,x79,x80,x81,x82))
 else(
 some (qab.mk x18 x19 (Val.mk x20 x21 x22 x23 x24 x25) x26 x27,x16,x17))))
 else(
 bif(!(bif x28 then true else false))then(
 bnd (qcx n ([37]:SS) x1 x16 x17) fun x83=>
 bif(bif(bif x28 then true else false)then true else x83)then(
 bnd (idx x1 x16) fun⟨x84,x85,x86,x87⟩=>
 bnd (g141 x1 (IntKind.i64.wrap (x16+1)) x17) fun⟨⟨x88,x89,⟨x90,x91,x92,x93,x94,x95⟩,x96,x97⟩,x98,x99⟩=>
 bnd (qj3 n x85 (qab.mk x18 x19 (Val.mk x20 x21 x22 x23 x24 x25) x26 x27) (qab.mk x88 x89 (Val.mk x90 x91 x92 x93 x94 x95) x96 x97)) fun⟨x100,x101,⟨x102,x103,x104,x105,x106,x107⟩,x108,x109⟩=>
 nx1 (x98,x99,x100,x101,x102,x103,x104,x105,x106,x107,x108,x109))
 else(
 some (qab.mk x18 x19 (Val.mk x20 x21 x22 x23 x24 x25) x26 x27,x16,x17)))
 else(
 bif(bif(bif x28 then true else false)then true else false)then(
 bnd (idx x1 x16) fun⟨x110,x111,x112,x113⟩=>
 bnd (g141 x1 (IntKind.i64.wrap (x16+1)) x17) fun⟨⟨x114,x115,⟨x116,x117,x118,x119,x120,x121⟩,x122,x123⟩,x124,x125⟩=>
 bnd (qj3 n x111 (qab.mk x18 x19 (Val.mk x20 x21 x22 x23 x24 x25) x26 x27) (qab.mk x114 x115 (Val.mk x116 x117 x118 x119 x120 x121) x122 x123)) fun⟨x126,x127,⟨x128,x129,x130,x131,x132,x133⟩,x134,x135⟩=>
 nx1 (x124,x125,x126,x127,x128,x129,x130,x131,x132,x133,x134,x135))
 else(
 some (qab.mk x18 x19 (Val.mk x20 x21 x22 x23 x24 x25) x26 x27,x16,x17))))
def qk6 (n:Nat) (g98:q33) (g51 g94:qfu) (g123 g128:qfu) (g136 g138:qfu) (g140 g141 g142:qfu) (g143:q34) (g144:q35) (x1:List qaj) (x2:Int) (x3:Bool):Option (qab×Int×Bool):=
 bnd (g141 x1 x2 x3) fun⟨⟨x4,x5,⟨x6,x7,x8,x9,x10,x11⟩,x12,x13⟩,x14,x15⟩=>
 qap (qgl n x1 g141) n (x14,x15,x4,x5,x6,x7,x8,x9,x10,x11,x12,x13)
abbrev qs5 (x1:List qaj) (x2:Int) (x3:Bool) (r:qab×Int×Bool):FV:=.p ((PV.agg (qca.cells r.1)))
abbrev qs4 (x1:List qaj) (x2:Int) (x3:Bool) (r:qab×Int×Bool):List AObj:=[.box 85 [pK x1,.p (.int .i64 r.2.1),.p (.bool r.2.2)]]
def qdd (n:Nat) (x1:List qaj) (g51:qfu):(Int×Bool×Int×SS×Int×Bool×Int×SS×List Val×List SS×List SS×List qab->Option (qab×Int×Bool))->Int×Bool×Int×SS×Int×Bool×Int×SS×List Val×List SS×List SS×List qab->Option (qab×Int×Bool):=fun nx1 (x40,x41,x42,x43,x44,x45,x46,x47,x48,x49,x50,x51)=>
 bnd (qan n ([46]:SS) x1 x40 x41) fun⟨x52,x53⟩=>
 bif x52 then(
 bnd (qqa n (4:Int) (qab.mk x42 x43 (Val.mk x44 x45 x46 x47 x48 x49) x50 x51)) fun⟨x54,x55,⟨x56,x57,x58,x59,x60,x61⟩,x62,x63⟩=>
 bnd (qeo n x1 x53 x41) fun⟨x64,x65,x66⟩=>
 nx1 (x65,x66,x54,x64,x56,x57,x58,x59,x60,x61,x62,x63))
 else(
 bnd (qan n ([91]:SS) x1 x53 x41) fun⟨x67,x68⟩=>
 bif x67 then(
 bnd (g51 x1 x68 x41) fun⟨⟨x69,x70,⟨x71,x72,x73,x74,x75,x76⟩,x77,x78⟩,x79,x80⟩=>
 bnd (qax n ([93]:SS) x1 x79 x80) fun⟨x81,x82⟩=>
 nx1 (x81,x82,(7:Int),([]:SS),(0:Int),false,(0:Int),([]:SS),([]:List _),([]:List _),([]:List _),[qab.mk x42 x43 (Val.mk x44 x45 x46 x47 x48 x49) x50 x51,qab.mk x69 x70 (Val.mk x71 x72 x73 x74 x75 x76) x77 x78]))
 else(
 bif(x42==2)then(
 bnd (qan n ([58]:SS) x1 x68 x41) fun⟨x83,x84⟩=>
 bif(bif(x42==2)then x83 else false)then(
 bnd (qqa n (15:Int) (qab.mk x42 x43 (Val.mk x44 x45 x46 x47 x48 x49) x50 x51)) fun⟨x85,x86,⟨x87,x88,x89,x90,x91,x92⟩,x93,x94⟩=>
 bnd (qeo n x1 x84 x41) fun⟨x95,x96,x97⟩=>
 nx1 (x96,x97,x85,x95,x87,x88,x89,x90,x91,x92,x93,x94))
 else(
 some (qab.mk x42 x43 (Val.mk x44 x45 x46 x47 x48 x49) x50 x51,x84,x41)))
 else(
 some (qab.mk x42 x43 (Val.mk x44 x45 x46 x47 x48 x49) x50 x51,x68,x41))))
def qlf (n:Nat) (g98:q33) (g51 g94:qfu) (g123 g128:qfu) (g136 g138:qfu) (g140 g141 g142:qfu) (g143:q34) (g144:q35) (x1:List qaj) (x2:Int) (x3:Bool):Option (qab×Int×Bool):=
 bnd (qan n ([45]:SS) x1 x2 x3) fun⟨x4,x5⟩=>
 bif x4 then(
 bnd (g141 x1 x5 x3) fun⟨⟨x6,x7,⟨x8,x9,x10,x11,x12,x13⟩,x14,x15⟩,x16,x17⟩=>
 bnd (qqa n (8:Int) (qab.mk x6 x7 (Val.mk x8 x9 x10 x11 x12 x13) x14 x15)) fun⟨x18,x19,⟨x20,x21,x22,x23,x24,x25⟩,x26,x27⟩=>
 some (qab.mk x18 x19 (Val.mk x20 x21 x22 x23 x24 x25) x26 x27,x16,x17))
 else(
 bnd (g142 x1 x5 x3) fun⟨⟨x28,x29,⟨x30,x31,x32,x33,x34,x35⟩,x36,x37⟩,x38,x39⟩=>
 qap (qdd n x1 g51) n (x38,x39,x28,x29,x30,x31,x32,x33,x34,x35,x36,x37))
abbrev qt6 (x1:List qaj) (x2:Int) (x3:Bool) (r:qab×Int×Bool):FV:=.p ((PV.agg (qca.cells r.1)))
abbrev qt2 (x1:List qaj) (x2:Int) (x3:Bool) (r:qab×Int×Bool):List AObj:=[.box 85 [pK x1,.p (.int .i64 r.2.1),.p (.bool r.2.2)]]
def qm9 (n:Nat) (g98:q33) (g51 g94:qfu) (g123 g128:qfu) (g136 g138:qfu) (g140 g141 g142:qfu) (g143:q34) (g144:q35) (x1:List qaj) (x2:Int) (x3:Bool):Option (qab×Int×Bool):=
 bif x3 then(
 some (qab.mk (0:Int) ([]:SS) (Val.mk (0:Int) false (0:Int) ([]:SS) ([]:List Val) ([]:List SS)) ([]:List SS) ([]:List qab),x2,x3))
 else(
 bnd (idx x1 x2) fun⟨x4,x5,x6,x7⟩=>
 bif(x4==3)then(
 some (qab.mk (1:Int) ([]:SS) (Val.mk (2:Int) false x6 ([]:SS) ([]:List Val) ([]:List SS)) ([]:List SS) ([]:List qab),(IntKind.i64.wrap (x2+1)),x3))
 else(
 bif(x4==4)then(
 some (qab.mk (1:Int) ([]:SS) (Val.mk (3:Int) false (0:Int) x5 ([]:List Val) ([]:List SS)) ([]:List SS) ([]:List qab),(IntKind.i64.wrap (x2+1)),x3))
 else(
 bif(x4==1)then(
 bnd (qan n ([40]:SS) x1 (IntKind.i64.wrap (x2+1)) x3) fun⟨x8,x9⟩=>
 bif x8 then(
 bnd (g143 x5 x1 x9 x3) fun⟨⟨x10,x11,⟨x12,x13,x14,x15,x16,x17⟩,x18,x19⟩,x20,x21⟩=>
 some (qab.mk x10 x11 (Val.mk x12 x13 x14 x15 x16 x17) x18 x19,x20,x21))
 else(
 some (qab.mk (2:Int) x5 (Val.mk (0:Int) false (0:Int) ([]:SS) ([]:List Val) ([]:List SS)) ([]:List SS) ([]:List qab),x9,x3)))
 else(
 bnd (qan n ([78,85,76,76]:SS) x1 x2 x3) fun⟨x22,x23⟩=>
 bif x22 then(
 some (qab.mk (1:Int) ([]:SS) (Val.mk (0:Int) false (0:Int) ([]:SS) ([]:List Val) ([]:List SS)) ([]:List SS) ([]:List qab),x23,x3))
 else(
 bnd (qan n ([84,82,85,69]:SS) x1 x23 x3) fun⟨x24,x25⟩=>
 bif x24 then(
 some (qab.mk (1:Int) ([]:SS) (Val.mk (1:Int) true (0:Int) ([]:SS) ([]:List Val) ([]:List SS)) ([]:List SS) ([]:List qab),x25,x3))
 else(
 bnd (qan n ([70,65,76,83,69]:SS) x1 x25 x3) fun⟨x26,x27⟩=>
 bif x26 then(
 some (qab.mk (1:Int) ([]:SS) (Val.mk (1:Int) false (0:Int) ([]:SS) ([]:List Val) ([]:List SS)) ([]:List SS) ([]:List qab),x27,x3))
 else(
 bnd (qan n ([36]:SS) x1 x27 x3) fun⟨x28,x29⟩=>
 bif x28 then(
 bnd (qd3 n x1 x29 x3) fun⟨x30,x31,x32⟩=>
 some (qab.mk (3:Int) x30 (Val.mk (0:Int) false (0:Int) ([]:SS) ([]:List Val) ([]:List SS)) ([]:List SS) ([]:List qab),x31,x32))
 else(
 bnd (qan n ([40]:SS) x1 x29 x3) fun⟨x33,x34⟩=>
 bif x33 then(
 bnd (g51 x1 x34 x3) fun⟨⟨x35,x36,⟨x37,x38,x39,x40,x41,x42⟩,x43,x44⟩,x45,x46⟩=>
 bnd (qax n ([41]:SS) x1 x45 x46) fun⟨x47,x48⟩=>
 some (qab.mk x35 x36 (Val.mk x37 x38 x39 x40 x41 x42) x43 x44,x47,x48))
 else(
 bnd (qan n ([91]:SS) x1 x34 x3) fun⟨x49,x50⟩=>
 bif x49 then(
 bnd (g144 ([93]:SS) x1 x50 x3) fun⟨x51,x52,x53⟩=>
 some (qab.mk (5:Int) ([]:SS) (Val.mk (0:Int) false (0:Int) ([]:SS) ([]:List Val) ([]:List SS)) ([]:List SS) x51,x52,x53))
 else(
 bnd (qcx n ([123]:SS) x1 x50 x3) fun x54=>
 bif x54 then(
 bnd (g98 x1 x50 x3) fun⟨x55,x56,x57,x58⟩=>
 some (qab.mk (6:Int) ([]:SS) (Val.mk (0:Int) false (0:Int) ([]:SS) ([]:List Val) ([]:List SS)) x55 x56,x57,x58))
 else(
 some (qab.mk (0:Int) ([]:SS) (Val.mk (0:Int) false (0:Int) ([]:SS) ([]:List Val) ([]:List SS)) ([]:List SS) ([]:List qab),x50,true))))))))))))
abbrev qt7 (x2:List qaj) (x3:Int) (x4:Bool) (r:qab×Int×Bool):FV:=.p ((PV.agg (qca.cells r.1)))
abbrev qt3 (x2:List qaj) (x3:Int) (x4:Bool) (r:qab×Int×Bool):List AObj:=[.box 85 [pK x2,.p (.int .i64 r.2.1),.p (.bool r.2.2)]]
def qp4 (n:Nat) (g98:q33) (g51 g94:qfu) (g123 g128:qfu) (g136 g138:qfu) (g140 g141 g142:qfu) (g143:q34) (g144:q35) (x1:SS) (x2:List qaj) (x3:Int) (x4:Bool):Option (qab×Int×Bool):=
 bnd (qhw n x1) fun x5=>
 bif(!x5)then(
 bnd (g144 ([41]:SS) x2 x3 x4) fun⟨x6,x7,x8⟩=>
 some (qab.mk (13:Int) x1 (Val.mk (0:Int) false (0:Int) ([]:SS) ([]:List Val) ([]:List SS)) ([]:List SS) x6,x7,x8))
 else(
 bif(x1==([99,111,117,110,116]:SS))then(
 bnd (qan n ([42]:SS) x2 x3 x4) fun⟨x9,x10⟩=>
 bif(bif(x1==([99,111,117,110,116]:SS))then x9 else false)then(
 bnd (qax n ([41]:SS) x2 x10 x4) fun⟨x11,x12⟩=>
 some (qab.mk (14:Int) x1 (Val.mk (0:Int) false (0:Int) ([]:SS) ([]:List Val) ([]:List SS)) ([]:List SS) ([]:List qab),x11,x12))
 else(
 bnd (g51 x2 x10 x4) fun⟨⟨x13,x14,⟨x15,x16,x17,x18,x19,x20⟩,x21,x22⟩,x23,x24⟩=>
 bnd (qax n ([41]:SS) x2 x23 x24) fun⟨x25,x26⟩=>
 some (qab.mk (14:Int) x1 (Val.mk (0:Int) false (0:Int) ([]:SS) ([]:List Val) ([]:List SS)) ([]:List SS) [qab.mk x13 x14 (Val.mk x15 x16 x17 x18 x19 x20) x21 x22],x25,x26)))
 else(
 bnd (g51 x2 x3 x4) fun⟨⟨x27,x28,⟨x29,x30,x31,x32,x33,x34⟩,x35,x36⟩,x37,x38⟩=>
 bnd (qax n ([41]:SS) x2 x37 x38) fun⟨x39,x40⟩=>
 some (qab.mk (14:Int) x1 (Val.mk (0:Int) false (0:Int) ([]:SS) ([]:List Val) ([]:List SS)) ([]:List SS) [qab.mk x27 x28 (Val.mk x29 x30 x31 x32 x33 x34) x35 x36],x39,x40)))
abbrev qt8 (x2:List qaj) (x3:Int) (x4:Bool) (r:(List qab)×Int×Bool):FV:=.p (.sl (qab.rows r.1))
abbrev qt4 (x2:List qaj) (x3:Int) (x4:Bool) (r:(List qab)×Int×Bool):List AObj:=[.box 85 [pK x2,.p (.int .i64 r.2.1),.p (.bool r.2.2)]]
def qju (n:Nat) (g51:qfu) (x2:List qaj) (x1:SS):(List qab×Int×Bool->Option ((List qab)×Int×Bool))->List qab×Int×Bool->Option ((List qab)×Int×Bool):=fun nx1 (x7,x8,x9)=>
 bnd (g51 x2 x8 x9) fun⟨⟨x10,x11,⟨x12,x13,x14,x15,x16,x17⟩,x18,x19⟩,x20,x21⟩=>
 chk (decide ((qab.rows (x7++[qab.mk x10 x11 (Val.mk x12 x13 x14 x15 x16 x17) x18 x19])).length * 160<=140737488355328)) (
 bnd (qan n ([44]:SS) x2 x20 x21) fun⟨x22,x23⟩=>
 bif(!x22)then(
 bnd (qax n x1 x2 x23 x21) fun⟨x24,x25⟩=>
 some ((x7++[qab.mk x10 x11 (Val.mk x12 x13 x14 x15 x16 x17) x18 x19]),x24,x25))
 else(
 nx1 ((x7++[qab.mk x10 x11 (Val.mk x12 x13 x14 x15 x16 x17) x18 x19]),x23,x21)))
def qp5 (n:Nat) (g98:q33) (g51 g94:qfu) (g123 g128:qfu) (g136 g138:qfu) (g140 g141 g142:qfu) (g143:q34) (g144:q35) (x1:SS) (x2:List qaj) (x3:Int) (x4:Bool):Option ((List qab)×Int×Bool):=
 bnd (qan n x1 x2 x3 x4) fun⟨x5,x6⟩=>
 bif x5 then(
 some (([]:List qab),x6,x4))
 else(
 qap (qju n g51 x2 x1) n (([]:List _),x6,x4))
abbrev zhd (g98:q33):Prop:=∀ (x1:List qaj) (x2:Int) (x3:Bool) (r:(List SS)×(List qab)×Int×Bool),g98 x1 x2 x3=some r->qau Tryz.prog 98 [.ptr 0 0] [.box 85 [pK x1,pI x2,pB x3]] 1 (fun v lo=>v=qqf x1 x2 x3 r/\lo=qqe x1 x2 x3 r)
abbrev zhe (g51:qfu):Prop:=∀ (x1:List qaj) (x2:Int) (x3:Bool) (r:qab×Int×Bool),g51 x1 x2 x3=some r->qau Tryz.prog 51 [.ptr 0 0] [.box 85 [pK x1,pI x2,pB x3]] 1 (fun v lo=>v=qrf x1 x2 x3 r/\lo=qre x1 x2 x3 r)
abbrev zhf (g94:qfu):Prop:=∀ (x1:List qaj) (x2:Int) (x3:Bool) (r:qab×Int×Bool),g94 x1 x2 x3=some r->qau Tryz.prog 94 [.ptr 0 0] [.box 85 [pK x1,pI x2,pB x3]] 1 (fun v lo=>v=qve x1 x2 x3 r/\lo=qu9 x1 x2 x3 r)
abbrev zhg (g123:qfu):Prop:=∀ (x1:List qaj) (x2:Int) (x3:Bool) (r:qab×Int×Bool),g123 x1 x2 x3=some r->qau Tryz.prog 123 [.ptr 0 0] [.box 85 [pK x1,pI x2,pB x3]] 1 (fun v lo=>v=qvb x1 x2 x3 r/\lo=qu6 x1 x2 x3 r)
abbrev zhh (g128:qfu):Prop:=∀ (x1:List qaj) (x2:Int) (x3:Bool) (r:qab×Int×Bool),g128 x1 x2 x3=some r->qau Tryz.prog 128 [.ptr 0 0] [.box 85 [pK x1,pI x2,pB x3]] 1 (fun v lo=>v=qvc x1 x2 x3 r/\lo=qu7 x1 x2 x3 r)
abbrev zhi (g136:qfu):Prop:=∀ (x1:List qaj) (x2:Int) (x3:Bool) (r:qab×Int×Bool),g136 x1 x2 x3=some r->qau Tryz.prog 136 [.ptr 0 0] [.box 85 [pK x1,pI x2,pB x3]] 1 (fun v lo=>v=qt9 x1 x2 x3 r/\lo=qt5 x1 x2 x3 r)
abbrev zhj (g138:qfu):Prop:=∀ (x1:List qaj) (x2:Int) (x3:Bool) (r:qab×Int×Bool),g138 x1 x2 x3=some r->qau Tryz.prog 138 [.ptr 0 0] [.box 85 [pK x1,pI x2,pB x3]] 1 (fun v lo=>v=qvd x1 x2 x3 r/\lo=qu8 x1 x2 x3 r)
abbrev zhk (g140:qfu):Prop:=∀ (x1:List qaj) (x2:Int) (x3:Bool) (r:qab×Int×Bool),g140 x1 x2 x3=some r->qau Tryz.prog 140 [.ptr 0 0] [.box 85 [pK x1,pI x2,pB x3]] 1 (fun v lo=>v=qq6 x1 x2 x3 r/\lo=qq5 x1 x2 x3 r)
abbrev zhl (g141:qfu):Prop:=∀ (x1:List qaj) (x2:Int) (x3:Bool) (r:qab×Int×Bool),g141 x1 x2 x3=some r->qau Tryz.prog 141 [.ptr 0 0] [.box 85 [pK x1,pI x2,pB x3]] 1 (fun v lo=>v=qs5 x1 x2 x3 r/\lo=qs4 x1 x2 x3 r)
abbrev zhm (g142:qfu):Prop:=∀ (x1:List qaj) (x2:Int) (x3:Bool) (r:qab×Int×Bool),g142 x1 x2 x3=some r->qau Tryz.prog 142 [.ptr 0 0] [.box 85 [pK x1,pI x2,pB x3]] 1 (fun v lo=>v=qt6 x1 x2 x3 r/\lo=qt2 x1 x2 x3 r)
abbrev q31 (g143:q34):Prop:=∀ (x1:SS) (x2:List qaj) (x3:Int) (x4:Bool) (r:qab×Int×Bool),g143 x1 x2 x3 x4=some r->qau Tryz.prog 143 [.ptr 0 0,.p (PV.str x1)] [.box 85 [pK x2,pI x3,pB x4]] 1 (fun v lo=>v=qt7 x2 x3 x4 r/\lo=qt3 x2 x3 x4 r)
abbrev q32 (g144:q35):Prop:=∀ (x1:SS) (x2:List qaj) (x3:Int) (x4:Bool) (r:(List qab)×Int×Bool),g144 x1 x2 x3 x4=some r->qau Tryz.prog 144 [.ptr 0 0,.p (PV.str x1)] [.box 85 [pK x2,pI x3,pB x4]] 1 (fun v lo=>v=qt8 x2 x3 x4 r/\lo=qt4 x2 x3 x4 r)
theorem q1v (n:Nat) (g98:q33) (g51 g94:qfu) (g123 g128:qfu) (g136 g138:qfu) (g140 g141 g142:qfu) (g143:q34) (g144:q35) (g98_ok:zhd g98) (g51_ok:zhe g51) (g94_ok:zhf g94) (g123_ok:zhg g123) (g128_ok:zhh g128) (g136_ok:zhi g136) (g138_ok:zhj g138) (g140_ok:zhk g140) (g141_ok:zhl g141) (g142_ok:zhm g142) (g143_ok:q31 g143) (g144_ok:q32 g144):∀ (x1:List qaj) (x2:Int) (x3:Bool) (r:(List SS)×(List qab)×Int×Bool),qoe n g98 g51 g94 g123 g128 g136 g138 g140 g141 g142 g143 g144 x1 x2 x3=some r->qau Tryz.prog 98 [.ptr 0 0] [.box 85 [pK x1,pI x2,pB x3]] 1 (fun v lo=>v=qqf x1 x2 x3 r/\lo=qqe x1 x2 x3 r):=by
 intro x1 x2 x3 r h;unfold qoe at h;refine qau.of_vc qa3 (fun _ _=>Tryz.call98 _ _) Tryz.func98 (by kernel_rfl) (inl:=[48,51,52,97,1000000]) (Nat.le_of_ble_eq_true rfl) ?_;conv=>whnf
 replace h:=qaa h;obtain⟨⟨x4,x5⟩,h1,h⟩:=h;refine qcl (qa7 n _ _ _ _ _ h1) [0] [] ?_;rintro _ _ ⟨rfl,rfl⟩;refine⟨.p (.tup []),[.box 85 [pK x1,pI x4,pB x5]],rfl,rfl,?_⟩;conv=>whnf
 replace h:=qaa h;obtain⟨⟨x6,x7⟩,h2,h⟩:=h;refine qcl (qak n _ _ _ _ _ h2) [0] [] ?_;rintro _ _ ⟨rfl,rfl⟩;refine⟨pB x6,[.box 85 [pK x1,pI x7,pB x5]],rfl,rfl,?_⟩;conv=>whnf
 refine ifc h (fun hc h=>?_) (fun hc h=>?_)
 ·obtain rfl:=sj h
  conv=>whnf
  refine⟨_,_,⟨rfl,rfl⟩,wk [0] []⟩
 ·conv=>whnf
  refine qby.fn [48,51,52,97,1000000] (S:=List SS×List qab×Int×Bool) (fun(x8,x9,x10,x11)=>[(0,.ptr 0 0),(4,.tsl 1 (qam x8)),(5,.tsl 2 (qab.rows x9))]) (fun(x8,x9,x10,x11)=>[.box 85 [pK x1,pI x10,pB x11],.tail 9 1 (qam x8).length,.tail 47 10 (qab.rows x9).length]) (B:=qfr n x1 g51) h (wk [0,0,0] [1,2]) ?_;intro nx1 st h;obtain⟨x8,x9,x10,x11⟩:=st;unfold qfr at h;conv=>whnf
  refine ifc h (fun hc h=>?_) (fun hc h=>?_)
  ·conv=>whnf
   replace h:=qaa h;obtain⟨⟨x12,x13,x14⟩,h3,h⟩:=h;refine qcl (qhh n _ _ _ _ h3) [0] [] ?_;rintro _ _ ⟨rfl,rfl⟩;refine⟨pS x12,[.box 85 [pK x1,pI x13,pB x14],.tail 9 1 (qam x8).length,.tail 47 10 (qab.rows x9).length],rfl,rfl,?_⟩;conv=>whnf
   replace h:=qaa h;obtain⟨⟨x15,x16⟩,h4,h⟩:=h;refine qcl (qa7 n _ _ _ _ _ h4) [0] [] ?_;rintro _ _ ⟨rfl,rfl⟩;refine⟨.p (.tup []),[.box 85 [pK x1,pI x15,pB x16],.tail 9 1 (qam x8).length,.tail 47 10 (qab.rows x9).length],rfl,rfl,?_⟩;conv=>whnf
   replace h:=qaa h;obtain⟨⟨⟨x17,x18,⟨x19,x20,x21,x22,x23,x24⟩,x25,x26⟩,x27,x28⟩,h5,h⟩:=h;refine qcl (g51_ok _ _ _ _ h5) [0] [] ?_;rintro _ _ ⟨rfl,rfl⟩;refine⟨.p (.agg [.int .i64 x17,.str x18,.int .i64 x19,.bool x20,.int .i64 x21,.str x22,.sl (Val.rows x23),.sl (qam x24),.sl (qam x25),.sl (qab.rows x26)]),[.box 85 [pK x1,pI x27,pB x28],.tail 9 1 (qam x8).length,.tail 47 10 (qab.rows x9).length],rfl,rfl,?_⟩;conv=>whnf
   refine⟨Codec.one qqt [x12],qam [x12],.inl rfl,?_⟩;conv=>whnf
   rw[show qam x8++qam [x12]=qam (x8++[x12])from Codec.append qqt x8 [x12]];conv=>whnf
   obtain⟨h9,h⟩:=qaw h;refine⟨⟨Codec.wide qqt (x8++[x12]),of_decide_eq_true h9,qdx h9 (by decide)⟩,?_⟩;conv=>whnf
   refine⟨⟨rfl,rfl,rfl⟩,?_⟩;conv=>whnf
   refine⟨Codec.one qca [qab.mk x17 x18 (Val.mk x19 x20 x21 x22 x23 x24) x25 x26],qab.rows [qab.mk x17 x18 (Val.mk x19 x20 x21 x22 x23 x24) x25 x26],.inl rfl,?_⟩;conv=>whnf
   rw[show qab.rows x9++qab.rows [qab.mk x17 x18 (Val.mk x19 x20 x21 x22 x23 x24) x25 x26]=qab.rows (x9++[qab.mk x17 x18 (Val.mk x19 x20 x21 x22 x23 x24) x25 x26])from Codec.append qca x9 [qab.mk x17 x18 (Val.mk x19 x20 x21 x22 x23 x24) x25 x26]];conv=>whnf
   obtain⟨h8,h⟩:=qaw h;refine⟨⟨Codec.wide qca (x9++[qab.mk x17 x18 (Val.mk x19 x20 x21 x22 x23 x24) x25 x26]),of_decide_eq_true h8,qdx h8 (by decide)⟩,?_⟩;conv=>whnf
   refine⟨⟨rfl,rfl,rfl⟩,?_⟩;conv=>whnf
   replace h:=qaa h;obtain⟨⟨x29,x30⟩,h6,h⟩:=h;refine qcl (qak n _ _ _ _ _ h6) [0] [] ?_;rintro _ _ ⟨rfl,rfl⟩;refine⟨pB x29,[.box 85 [pK x1,pI x30,pB x28],.dead,.dead,.box 47 [pI x17,pS x18,pI x19,pB x20,pI x21,pS x22,pV x23,pT x24,pT x25,pE x26],.tail 9 1 (qam (x8++[x12])).length,.tail 47 10 (qab.rows (x9++[qab.mk x17 x18 (Val.mk x19 x20 x21 x22 x23 x24) x25 x26])).length],rfl,rfl,?_⟩;conv=>whnf
   refine ifc h (fun hc h=>?_) (fun hc h=>?_)
   ·conv=>whnf
    replace h:=qaa h;obtain⟨⟨x31,x32⟩,h7,h⟩:=h;refine qcl (qa7 n _ _ _ _ _ h7) [0] [] ?_;rintro _ _ ⟨rfl,rfl⟩;refine⟨.p (.tup []),[.box 85 [pK x1,pI x31,pB x32],.dead,.dead,.box 47 [pI x17,pS x18,pI x19,pB x20,pI x21,pS x22,pV x23,pT x24,pT x25,pE x26],.tail 9 1 (qam (x8++[x12])).length,.tail 47 10 (qab.rows (x9++[qab.mk x17 x18 (Val.mk x19 x20 x21 x22 x23 x24) x25 x26])).length],rfl,rfl,?_⟩;obtain rfl:=sj h;conv=>whnf
    refine⟨_,_,⟨rfl,rfl⟩,wk [0] []⟩
   ·conv=>whnf
    exact⟨((x8++[x12]),(x9++[qab.mk x17 x18 (Val.mk x19 x20 x21 x22 x23 x24) x25 x26]),x30,x28),h,wk [0,4,5] []⟩
  ·obtain rfl:=sj h
   conv=>whnf
   refine⟨_,_,⟨rfl,rfl⟩,wk [0] []⟩
theorem q3g (n:Nat) (g98:q33) (g51 g94:qfu) (g123 g128:qfu) (g136 g138:qfu) (g140 g141 g142:qfu) (g143:q34) (g144:q35) (g98_ok:zhd g98) (g51_ok:zhe g51) (g94_ok:zhf g94) (g123_ok:zhg g123) (g128_ok:zhh g128) (g136_ok:zhi g136) (g138_ok:zhj g138) (g140_ok:zhk g140) (g141_ok:zhl g141) (g142_ok:zhm g142) (g143_ok:q31 g143) (g144_ok:q32 g144):∀ (x1:List qaj) (x2:Int) (x3:Bool) (r:qab×Int×Bool),qp3 n g98 g51 g94 g123 g128 g136 g138 g140 g141 g142 g143 g144 x1 x2 x3=some r->qau Tryz.prog 51 [.ptr 0 0] [.box 85 [pK x1,pI x2,pB x3]] 1 (fun v lo=>v=qrf x1 x2 x3 r/\lo=qre x1 x2 x3 r):=by
 intro x1 x2 x3 r h;unfold qp3 at h;refine qau.of_vc qa3 (fun _ _=>Tryz.call51 _ _) Tryz.func51 (by kernel_rfl) (inl:=[48,94,1000000]) (Nat.le_of_ble_eq_true rfl) ?_;conv=>whnf
 replace h:=qaa h;obtain⟨⟨⟨x4,x5,⟨x6,x7,x8,x9,x10,x11⟩,x12,x13⟩,x14,x15⟩,h1,h⟩:=h;refine qcl (g94_ok _ _ _ _ h1) [0] [] ?_;rintro _ _ ⟨rfl,rfl⟩;refine⟨.p (.agg [.int .i64 x4,.str x5,.int .i64 x6,.bool x7,.int .i64 x8,.str x9,.sl (Val.rows x10),.sl (qam x11),.sl (qam x12),.sl (qab.rows x13)]),[.box 85 [pK x1,pI x14,pB x15],.box 47 [.p (.int .i64 (0:Int)),.p (.str ([]:SS)),.p (.int .i64 (0:Int)),pB false,.p (.int .i64 (0:Int)),.p (.str ([]:SS)),.p (.nilsl),.p (.nilsl),.p (.nilsl),.p (.nilsl)]],rfl,rfl,?_⟩;conv=>whnf
 refine qby.fn [48,94,1000000] (S:=Int×Bool×Int×SS×Int×Bool×Int×SS×List Val×List SS×List SS×List qab) (fun(x16,x17,x18,x19,x20,x21,x22,x23,x24,x25,x26,x27)=>[(0,.ptr 0 0),(2,.ptr 1 0),(3,.ptr 2 0)]) (fun(x16,x17,x18,x19,x20,x21,x22,x23,x24,x25,x26,x27)=>[.box 85 [pK x1,pI x16,pB x17],.box 47 [.p (.int .i64 (0:Int)),.p (.str ([]:SS)),.p (.int .i64 (0:Int)),pB false,.p (.int .i64 (0:Int)),.p (.str ([]:SS)),.p (.nilsl),.p (.nilsl),.p (.nilsl),.p (.nilsl)],.box 47 [pI x18,pS x19,pI x20,pB x21,pI x22,pS x23,pV x24,pT x25,pT x26,pE x27]]) (B:=qjt n x1 g94) h (wk [0,1,2] []) ?_;intro nx1 st h;obtain⟨x16,x17,x18,x19,x20,x21,x22,x23,x24,x25,x26,x27⟩:=st;unfold qjt at h;conv=>whnf
 replace h:=qaa h;obtain⟨⟨x28,x29⟩,h2,h⟩:=h;refine qcl (qak n _ _ _ _ _ h2) [0] [] ?_;rintro _ _ ⟨rfl,rfl⟩;refine⟨pB x28,[.box 85 [pK x1,pI x29,pB x17],.box 47 [.p (.int .i64 (0:Int)),.p (.str ([]:SS)),.p (.int .i64 (0:Int)),pB false,.p (.int .i64 (0:Int)),.p (.str ([]:SS)),.p (.nilsl),.p (.nilsl),.p (.nilsl),.p (.nilsl)],.box 47 [pI x18,pS x19,pI x20,pB x21,pI x22,pS x23,pV x24,pT x25,pT x26,pE x27]],rfl,rfl,?_⟩;conv=>whnf
 refine ifc h (fun hc h=>?_) (fun hc h=>?_)
 ·conv=>whnf
  replace h:=qaa h;obtain⟨⟨⟨x30,x31,⟨x32,x33,x34,x35,x36,x37⟩,x38,x39⟩,x40,x41⟩,h3,h⟩:=h;refine qcl (g94_ok _ _ _ _ h3) [0] [] ?_;rintro _ _ ⟨rfl,rfl⟩;refine⟨.p (.agg [.int .i64 x30,.str x31,.int .i64 x32,.bool x33,.int .i64 x34,.str x35,.sl (Val.rows x36),.sl (qam x37),.sl (qam x38),.sl (qab.rows x39)]),[.box 85 [pK x1,pI x40,pB x41],.box 47 [.p (.int .i64 (0:Int)),.p (.str ([]:SS)),.p (.int .i64 (0:Int)),pB false,.p (.int .i64 (0:Int)),.p (.str ([]:SS)),.p (.nilsl),.p (.nilsl),.p (.nilsl),.p (.nilsl)],.box 47 [pI x18,pS x19,pI x20,pB x21,pI x22,pS x23,pV x24,pT x25,pT x26,pE x27]],rfl,rfl,?_⟩;conv=>whnf
  replace h:=qaa h;obtain⟨⟨x42,x43,⟨x44,x45,x46,x47,x48,x49⟩,x50,x51⟩,h4,h⟩:=h;refine⟨_,(qhi n _ _ _ _ h4),?_⟩;conv=>whnf
  exact⟨(x40,x41,x42,x43,x44,x45,x46,x47,x48,x49,x50,x51),h,wk [0,1,2] []⟩
 ·obtain rfl:=sj h
  conv=>whnf
  refine⟨_,_,⟨rfl,rfl⟩,wk [0] []⟩
theorem q40 (n:Nat) (g98:q33) (g51 g94:qfu) (g123 g128:qfu) (g136 g138:qfu) (g140 g141 g142:qfu) (g143:q34) (g144:q35) (g98_ok:zhd g98) (g51_ok:zhe g51) (g94_ok:zhf g94) (g123_ok:zhg g123) (g128_ok:zhh g128) (g136_ok:zhi g136) (g138_ok:zhj g138) (g140_ok:zhk g140) (g141_ok:zhl g141) (g142_ok:zhm g142) (g143_ok:q31 g143) (g144_ok:q32 g144):∀ (x1:List qaj) (x2:Int) (x3:Bool) (r:qab×Int×Bool),qrn n g98 g51 g94 g123 g128 g136 g138 g140 g141 g142 g143 g144 x1 x2 x3=some r->qau Tryz.prog 94 [.ptr 0 0] [.box 85 [pK x1,pI x2,pB x3]] 1 (fun v lo=>v=qve x1 x2 x3 r/\lo=qu9 x1 x2 x3 r):=by
 intro x1 x2 x3 r h;unfold qrn at h;refine qau.of_vc qa3 (fun _ _=>Tryz.call94 _ _) Tryz.func94 (by kernel_rfl) (inl:=[48,123,1000000]) (Nat.le_of_ble_eq_true rfl) ?_;conv=>whnf
 replace h:=qaa h;obtain⟨⟨⟨x4,x5,⟨x6,x7,x8,x9,x10,x11⟩,x12,x13⟩,x14,x15⟩,h1,h⟩:=h;refine qcl (g123_ok _ _ _ _ h1) [0] [] ?_;rintro _ _ ⟨rfl,rfl⟩;refine⟨.p (.agg [.int .i64 x4,.str x5,.int .i64 x6,.bool x7,.int .i64 x8,.str x9,.sl (Val.rows x10),.sl (qam x11),.sl (qam x12),.sl (qab.rows x13)]),[.box 85 [pK x1,pI x14,pB x15],.box 47 [.p (.int .i64 (0:Int)),.p (.str ([]:SS)),.p (.int .i64 (0:Int)),pB false,.p (.int .i64 (0:Int)),.p (.str ([]:SS)),.p (.nilsl),.p (.nilsl),.p (.nilsl),.p (.nilsl)]],rfl,rfl,?_⟩;conv=>whnf
 refine qby.fn [48,123,1000000] (S:=Int×Bool×Int×SS×Int×Bool×Int×SS×List Val×List SS×List SS×List qab) (fun(x16,x17,x18,x19,x20,x21,x22,x23,x24,x25,x26,x27)=>[(0,.ptr 0 0),(2,.ptr 1 0),(3,.ptr 2 0)]) (fun(x16,x17,x18,x19,x20,x21,x22,x23,x24,x25,x26,x27)=>[.box 85 [pK x1,pI x16,pB x17],.box 47 [.p (.int .i64 (0:Int)),.p (.str ([]:SS)),.p (.int .i64 (0:Int)),pB false,.p (.int .i64 (0:Int)),.p (.str ([]:SS)),.p (.nilsl),.p (.nilsl),.p (.nilsl),.p (.nilsl)],.box 47 [pI x18,pS x19,pI x20,pB x21,pI x22,pS x23,pV x24,pT x25,pT x26,pE x27]]) (B:=qlv n x1 g123) h (wk [0,1,2] []) ?_;intro nx1 st h;obtain⟨x16,x17,x18,x19,x20,x21,x22,x23,x24,x25,x26,x27⟩:=st;unfold qlv at h;conv=>whnf
 replace h:=qaa h;obtain⟨⟨x28,x29⟩,h2,h⟩:=h;refine qcl (qak n _ _ _ _ _ h2) [0] [] ?_;rintro _ _ ⟨rfl,rfl⟩;refine⟨pB x28,[.box 85 [pK x1,pI x29,pB x17],.box 47 [.p (.int .i64 (0:Int)),.p (.str ([]:SS)),.p (.int .i64 (0:Int)),pB false,.p (.int .i64 (0:Int)),.p (.str ([]:SS)),.p (.nilsl),.p (.nilsl),.p (.nilsl),.p (.nilsl)],.box 47 [pI x18,pS x19,pI x20,pB x21,pI x22,pS x23,pV x24,pT x25,pT x26,pE x27]],rfl,rfl,?_⟩;conv=>whnf
 refine ifc h (fun hc h=>?_) (fun hc h=>?_)
 ·conv=>whnf
  replace h:=qaa h;obtain⟨⟨⟨x30,x31,⟨x32,x33,x34,x35,x36,x37⟩,x38,x39⟩,x40,x41⟩,h3,h⟩:=h;refine qcl (g123_ok _ _ _ _ h3) [0] [] ?_;rintro _ _ ⟨rfl,rfl⟩;refine⟨.p (.agg [.int .i64 x30,.str x31,.int .i64 x32,.bool x33,.int .i64 x34,.str x35,.sl (Val.rows x36),.sl (qam x37),.sl (qam x38),.sl (qab.rows x39)]),[.box 85 [pK x1,pI x40,pB x41],.box 47 [.p (.int .i64 (0:Int)),.p (.str ([]:SS)),.p (.int .i64 (0:Int)),pB false,.p (.int .i64 (0:Int)),.p (.str ([]:SS)),.p (.nilsl),.p (.nilsl),.p (.nilsl),.p (.nilsl)],.box 47 [pI x18,pS x19,pI x20,pB x21,pI x22,pS x23,pV x24,pT x25,pT x26,pE x27]],rfl,rfl,?_⟩;conv=>whnf
  replace h:=qaa h;obtain⟨⟨x42,x43,⟨x44,x45,x46,x47,x48,x49⟩,x50,x51⟩,h4,h⟩:=h;refine⟨_,(qhi n _ _ _ _ h4),?_⟩;conv=>whnf
  exact⟨(x40,x41,x42,x43,x44,x45,x46,x47,x48,x49,x50,x51),h,wk [0,1,2] []⟩
 ·obtain rfl:=sj h
  conv=>whnf
  refine⟨_,_,⟨rfl,rfl⟩,wk [0] []⟩
theorem q4x (n:Nat) (g98:q33) (g51 g94:qfu) (g123 g128:qfu) (g136 g138:qfu) (g140 g141 g142:qfu) (g143:q34) (g144:q35) (g98_ok:zhd g98) (g51_ok:zhe g51) (g94_ok:zhf g94) (g123_ok:zhg g123) (g128_ok:zhh g128) (g136_ok:zhi g136) (g138_ok:zhj g138) (g140_ok:zhk g140) (g141_ok:zhl g141) (g142_ok:zhm g142) (g143_ok:q31 g143) (g144_ok:q32 g144):∀ (x1:List qaj) (x2:Int) (x3:Bool) (r:qab×Int×Bool),qrl n g98 g51 g94 g123 g128 g136 g138 g140 g141 g142 g143 g144 x1 x2 x3=some r->qau Tryz.prog 123 [.ptr 0 0] [.box 85 [pK x1,pI x2,pB x3]] 1 (fun v lo=>v=qvb x1 x2 x3 r/\lo=qu6 x1 x2 x3 r):=by
 intro x1 x2 x3 r h;unfold qrl at h;refine qau.of_vc qa3 (fun _ _=>Tryz.call123 _ _) Tryz.func123 (by kernel_rfl) (inl:=[48,128,1000000]) (Nat.le_of_ble_eq_true rfl) ?_;conv=>whnf
 replace h:=qaa h;obtain⟨⟨⟨x4,x5,⟨x6,x7,x8,x9,x10,x11⟩,x12,x13⟩,x14,x15⟩,h1,h⟩:=h;refine qcl (g128_ok _ _ _ _ h1) [0] [] ?_;rintro _ _ ⟨rfl,rfl⟩;refine⟨.p (.agg [.int .i64 x4,.str x5,.int .i64 x6,.bool x7,.int .i64 x8,.str x9,.sl (Val.rows x10),.sl (qam x11),.sl (qam x12),.sl (qab.rows x13)]),[.box 85 [pK x1,pI x14,pB x15],.box 47 [.p (.int .i64 (0:Int)),.p (.str ([]:SS)),.p (.int .i64 (0:Int)),pB false,.p (.int .i64 (0:Int)),.p (.str ([]:SS)),.p (.nilsl),.p (.nilsl),.p (.nilsl),.p (.nilsl)]],rfl,rfl,?_⟩;conv=>whnf
 refine qby.fn [48,128,1000000] (S:=Int×Bool×Int×SS×Int×Bool×Int×SS×List Val×List SS×List SS×List qab) (fun(x16,x17,x18,x19,x20,x21,x22,x23,x24,x25,x26,x27)=>[(0,.ptr 0 0),(2,.ptr 1 0),(3,.ptr 2 0)]) (fun(x16,x17,x18,x19,x20,x21,x22,x23,x24,x25,x26,x27)=>[.box 85 [pK x1,pI x16,pB x17],.box 47 [.p (.int .i64 (0:Int)),.p (.str ([]:SS)),.p (.int .i64 (0:Int)),pB false,.p (.int .i64 (0:Int)),.p (.str ([]:SS)),.p (.nilsl),.p (.nilsl),.p (.nilsl),.p (.nilsl)],.box 47 [pI x18,pS x19,pI x20,pB x21,pI x22,pS x23,pV x24,pT x25,pT x26,pE x27]]) (B:=qls n x1 g128) h (wk [0,1,2] []) ?_;intro nx1 st h;obtain⟨x16,x17,x18,x19,x20,x21,x22,x23,x24,x25,x26,x27⟩:=st;unfold qls at h;conv=>whnf
 replace h:=qaa h;obtain⟨⟨x28,x29⟩,h2,h⟩:=h;refine qcl (qak n _ _ _ _ _ h2) [0] [] ?_;rintro _ _ ⟨rfl,rfl⟩;refine⟨pB x28,[.box 85 [pK x1,pI x29,pB x17],.box 47 [.p (.int .i64 (0:Int)),.p (.str ([]:SS)),.p (.int .i64 (0:Int)),pB false,.p (.int .i64 (0:Int)),.p (.str ([]:SS)),.p (.nilsl),.p (.nilsl),.p (.nilsl),.p (.nilsl)],.box 47 [pI x18,pS x19,pI x20,pB x21,pI x22,pS x23,pV x24,pT x25,pT x26,pE x27]],rfl,rfl,?_⟩;conv=>whnf
 refine ifc h (fun hc h=>?_) (fun hc h=>?_)
 ·conv=>whnf
  replace h:=qaa h;obtain⟨⟨⟨x30,x31,⟨x32,x33,x34,x35,x36,x37⟩,x38,x39⟩,x40,x41⟩,h3,h⟩:=h;refine qcl (g128_ok _ _ _ _ h3) [0] [] ?_;rintro _ _ ⟨rfl,rfl⟩;refine⟨.p (.agg [.int .i64 x30,.str x31,.int .i64 x32,.bool x33,.int .i64 x34,.str x35,.sl (Val.rows x36),.sl (qam x37),.sl (qam x38),.sl (qab.rows x39)]),[.box 85 [pK x1,pI x40,pB x41],.box 47 [.p (.int .i64 (0:Int)),.p (.str ([]:SS)),.p (.int .i64 (0:Int)),pB false,.p (.int .i64 (0:Int)),.p (.str ([]:SS)),.p (.nilsl),.p (.nilsl),.p (.nilsl),.p (.nilsl)],.box 47 [pI x18,pS x19,pI x20,pB x21,pI x22,pS x23,pV x24,pT x25,pT x26,pE x27]],rfl,rfl,?_⟩;conv=>whnf
  replace h:=qaa h;obtain⟨⟨x42,x43,⟨x44,x45,x46,x47,x48,x49⟩,x50,x51⟩,h4,h⟩:=h;refine⟨_,(qhi n _ _ _ _ h4),?_⟩;conv=>whnf
  exact⟨(x40,x41,x42,x43,x44,x45,x46,x47,x48,x49,x50,x51),h,wk [0,1,2] []⟩
 ·obtain rfl:=sj h
  conv=>whnf
  refine⟨_,_,⟨rfl,rfl⟩,wk [0] []⟩
theorem q4y (n:Nat) (g98:q33) (g51 g94:qfu) (g123 g128:qfu) (g136 g138:qfu) (g140 g141 g142:qfu) (g143:q34) (g144:q35) (g98_ok:zhd g98) (g51_ok:zhe g51) (g94_ok:zhf g94) (g123_ok:zhg g123) (g128_ok:zhh g128) (g136_ok:zhi g136) (g138_ok:zhj g138) (g140_ok:zhk g140) (g141_ok:zhl g141) (g142_ok:zhm g142) (g143_ok:q31 g143) (g144_ok:q32 g144):∀ (x1:List qaj) (x2:Int) (x3:Bool) (r:qab×Int×Bool),qpe n g98 g51 g94 g123 g128 g136 g138 g140 g141 g142 g143 g144 x1 x2 x3=some r->qau Tryz.prog 128 [.ptr 0 0] [.box 85 [pK x1,pI x2,pB x3]] 1 (fun v lo=>v=qvc x1 x2 x3 r/\lo=qu7 x1 x2 x3 r):=by
 intro x1 x2 x3 r h;unfold qpe at h;refine qau.of_vc qa3 (fun _ _=>Tryz.call128 _ _) Tryz.func128 (by kernel_rfl) (inl:=[48,128,136,1000000]) (Nat.le_of_ble_eq_true rfl) ?_;conv=>whnf
 replace h:=qaa h;obtain⟨⟨x4,x5⟩,h1,h⟩:=h;refine qcl (qak n _ _ _ _ _ h1) [0] [] ?_;rintro _ _ ⟨rfl,rfl⟩;refine⟨pB x4,[.box 85 [pK x1,pI x5,pB x3],.box 47 [.p (.int .i64 (0:Int)),.p (.str ([]:SS)),.p (.int .i64 (0:Int)),pB false,.p (.int .i64 (0:Int)),.p (.str ([]:SS)),.p (.nilsl),.p (.nilsl),.p (.nilsl),.p (.nilsl)]],rfl,rfl,?_⟩;conv=>whnf
 refine ifc h (fun hc h=>?_) (fun hc h=>?_)
 ·conv=>whnf
  replace h:=qaa h;obtain⟨⟨⟨x6,x7,⟨x8,x9,x10,x11,x12,x13⟩,x14,x15⟩,x16,x17⟩,h2,h⟩:=h;refine qcl (g128_ok _ _ _ _ h2) [0] [] ?_;rintro _ _ ⟨rfl,rfl⟩;refine⟨.p (.agg [.int .i64 x6,.str x7,.int .i64 x8,.bool x9,.int .i64 x10,.str x11,.sl (Val.rows x12),.sl (qam x13),.sl (qam x14),.sl (qab.rows x15)]),[.box 85 [pK x1,pI x16,pB x17],.box 47 [.p (.int .i64 (0:Int)),.p (.str ([]:SS)),.p (.int .i64 (0:Int)),pB false,.p (.int .i64 (0:Int)),.p (.str ([]:SS)),.p (.nilsl),.p (.nilsl),.p (.nilsl),.p (.nilsl)]],rfl,rfl,?_⟩;conv=>whnf
  replace h:=qaa h;obtain⟨⟨x18,x19,⟨x20,x21,x22,x23,x24,x25⟩,x26,x27⟩,h3,h⟩:=h;refine⟨_,(qpn n _ _ _ h3),?_⟩;obtain rfl:=sj h;conv=>whnf
  refine⟨_,_,⟨rfl,rfl⟩,wk [0] []⟩
 ·conv=>whnf
  replace h:=qaa h;obtain⟨⟨⟨x28,x29,⟨x30,x31,x32,x33,x34,x35⟩,x36,x37⟩,x38,x39⟩,h4,h⟩:=h;refine qcl (g136_ok _ _ _ _ h4) [0] [] ?_;rintro _ _ ⟨rfl,rfl⟩;refine⟨.p (.agg [.int .i64 x28,.str x29,.int .i64 x30,.bool x31,.int .i64 x32,.str x33,.sl (Val.rows x34),.sl (qam x35),.sl (qam x36),.sl (qab.rows x37)]),[.box 85 [pK x1,pI x38,pB x39],.box 47 [.p (.int .i64 (0:Int)),.p (.str ([]:SS)),.p (.int .i64 (0:Int)),pB false,.p (.int .i64 (0:Int)),.p (.str ([]:SS)),.p (.nilsl),.p (.nilsl),.p (.nilsl),.p (.nilsl)]],rfl,rfl,?_⟩;obtain rfl:=sj h;conv=>whnf
  refine⟨_,_,⟨rfl,rfl⟩,wk [0] []⟩
theorem q3k (n:Nat) (g98:q33) (g51 g94:qfu) (g123 g128:qfu) (g136 g138:qfu) (g140 g141 g142:qfu) (g143:q34) (g144:q35) (g98_ok:zhd g98) (g51_ok:zhe g51) (g94_ok:zhf g94) (g123_ok:zhg g123) (g128_ok:zhh g128) (g136_ok:zhi g136) (g138_ok:zhj g138) (g140_ok:zhk g140) (g141_ok:zhl g141) (g142_ok:zhm g142) (g143_ok:q31 g143) (g144_ok:q32 g144):∀ (x1:List qaj) (x2:Int) (x3:Bool) (r:qab×Int×Bool),qko n g98 g51 g94 g123 g128 g136 g138 g140 g141 g142 g143 g144 x1 x2 x3=some r->qau Tryz.prog 136 [.ptr 0 0] [.box 85 [pK x1,pI x2,pB x3]] 1 (fun v lo=>v=qt9 x1 x2 x3 r/\lo=qt5 x1 x2 x3 r):=by
 intro x1 x2 x3 r h;unfold qko at h;refine qau.of_vc qa3 (fun _ _=>Tryz.call136 _ _) Tryz.func136 (by kernel_rfl) (inl:=[48,52,138,1000000]) (Nat.le_of_ble_eq_true rfl) ?_;conv=>whnf
 replace h:=qaa h;obtain⟨⟨⟨x4,x5,⟨x6,x7,x8,x9,x10,x11⟩,x12,x13⟩,x14,x15⟩,h1,h⟩:=h;refine qcl (g138_ok _ _ _ _ h1) [0] [] ?_;rintro _ _ ⟨rfl,rfl⟩;refine⟨.p (.agg [.int .i64 x4,.str x5,.int .i64 x6,.bool x7,.int .i64 x8,.str x9,.sl (Val.rows x10),.sl (qam x11),.sl (qam x12),.sl (qab.rows x13)]),[.box 85 [pK x1,pI x14,pB x15],.box 47 [.p (.int .i64 (0:Int)),.p (.str ([]:SS)),.p (.int .i64 (0:Int)),pB false,.p (.int .i64 (0:Int)),.p (.str ([]:SS)),.p (.nilsl),.p (.nilsl),.p (.nilsl),.p (.nilsl)]],rfl,rfl,?_⟩;conv=>whnf
 replace h:=qaa h;obtain⟨⟨x16,x17⟩,h2,h⟩:=h;refine qcl (qak n _ _ _ _ _ h2) [0] [] ?_;rintro _ _ ⟨rfl,rfl⟩;refine⟨pB x16,[.box 85 [pK x1,pI x17,pB x15],.box 47 [.p (.int .i64 (0:Int)),.p (.str ([]:SS)),.p (.int .i64 (0:Int)),pB false,.p (.int .i64 (0:Int)),.p (.str ([]:SS)),.p (.nilsl),.p (.nilsl),.p (.nilsl),.p (.nilsl)],.box 47 [pI x4,pS x5,pI x6,pB x7,pI x8,pS x9,pV x10,pT x11,pT x12,pE x13]],rfl,rfl,?_⟩;conv=>whnf
 refine ifc h (fun hc h=>?_) (fun hc h=>?_)
 ·conv=>whnf
  replace h:=qaa h;obtain⟨⟨x18,x19⟩,h3,h⟩:=h;refine qcl (qak n _ _ _ _ _ h3) [0] [] ?_;rintro _ _ ⟨rfl,rfl⟩;refine⟨pB x18,[.box 85 [pK x1,pI x19,pB x15],.box 47 [.p (.int .i64 (0:Int)),.p (.str ([]:SS)),.p (.int .i64 (0:Int)),pB false,.p (.int .i64 (0:Int)),.p (.str ([]:SS)),.p (.nilsl),.p (.nilsl),.p (.nilsl),.p (.nilsl)],.box 47 [pI x4,pS x5,pI x6,pB x7,pI x8,pS x9,pV x10,pT x11,pT x12,pE x13]],rfl,rfl,?_⟩;conv=>whnf
  replace h:=qaa h;obtain⟨⟨x20,x21⟩,h4,h⟩:=h;refine qcl (qa7 n _ _ _ _ _ h4) [0] [] ?_;rintro _ _ ⟨rfl,rfl⟩;refine⟨.p (.tup []),[.box 85 [pK x1,pI x20,pB x21],.box 47 [.p (.int .i64 (0:Int)),.p (.str ([]:SS)),.p (.int .i64 (0:Int)),pB false,.p (.int .i64 (0:Int)),.p (.str ([]:SS)),.p (.nilsl),.p (.nilsl),.p (.nilsl),.p (.nilsl)],.box 47 [pI x4,pS x5,pI x6,pB x7,pI x8,pS x9,pV x10,pT x11,pT x12,pE x13]],rfl,rfl,?_⟩;conv=>whnf
  refine ifc h (fun hc h=>?_) (fun hc h=>?_)
  ·conv=>whnf
   replace h:=qaa h;obtain⟨⟨x22,x23,⟨x24,x25,x26,x27,x28,x29⟩,x30,x31⟩,h5,h⟩:=h;refine⟨_,(qpn n _ _ _ h5),?_⟩;obtain rfl:=sj h;conv=>whnf
   refine⟨_,_,⟨rfl,rfl⟩,wk [0] []⟩
  ·conv=>whnf
   replace h:=qaa h;obtain⟨⟨x32,x33,⟨x34,x35,x36,x37,x38,x39⟩,x40,x41⟩,h6,h⟩:=h;refine⟨_,(qpn n _ _ _ h6),?_⟩;obtain rfl:=sj h;conv=>whnf
   refine⟨_,_,⟨rfl,rfl⟩,wk [0] []⟩
 ·conv=>whnf
  refine⟨Codec.one qqt [([61]:SS),([60,62]:SS),([60,61]:SS),([60]:SS),([62,61]:SS),([62]:SS),([73,78]:SS)],qam [([61]:SS),([60,62]:SS),([60,61]:SS),([60]:SS),([62,61]:SS),([62]:SS),([73,78]:SS)],.inl rfl,?_⟩;conv=>whnf
  refine qby.fn [48,52,138,1000000] (S:=Int×Int) (fun(x42,x43)=>[(0,.ptr 0 0),(2,.ptr 1 0),(3,.ptr 2 0),(5,.p (.sl (qam [([61]:SS),([60,62]:SS),([60,61]:SS),([60]:SS),([62,61]:SS),([62]:SS),([73,78]:SS)]))),(6,pI x42)]) (fun(x42,x43)=>[.box 85 [pK x1,pI x43,pB x15],.box 47 [.p (.int .i64 (0:Int)),.p (.str ([]:SS)),.p (.int .i64 (0:Int)),pB false,.p (.int .i64 (0:Int)),.p (.str ([]:SS)),.p (.nilsl),.p (.nilsl),.p (.nilsl),.p (.nilsl)],.box 47 [pI x4,pS x5,pI x6,pB x7,pI x8,pS x9,pV x10,pT x11,pT x12,pE x13]]) (B:=qj1 n x1 x15 g138 x4 x5 x6 x7 x8 x9 x10 x11 x12 x13) h (wk [0,1,2] []) ?_;intro nx1 st h;obtain⟨x42,x43⟩:=st;unfold qj1 at h;conv=>whnf
  refine ifc h (fun hc h=>?_) (fun hc h=>?_)
  ·conv=>whnf
   replace h:=qaa h;obtain⟨x44,h11,h⟩:=h;refine⟨_,Codec.at_ qqt h11,?_⟩;conv=>whnf
   replace h:=qaa h;obtain⟨⟨x45,x46⟩,h7,h⟩:=h;refine qcl (qak n _ _ _ _ _ h7) [0] [] ?_;rintro _ _ ⟨rfl,rfl⟩;refine⟨pB x45,[.box 85 [pK x1,pI x46,pB x15],.box 47 [.p (.int .i64 (0:Int)),.p (.str ([]:SS)),.p (.int .i64 (0:Int)),pB false,.p (.int .i64 (0:Int)),.p (.str ([]:SS)),.p (.nilsl),.p (.nilsl),.p (.nilsl),.p (.nilsl)],.box 47 [pI x4,pS x5,pI x6,pB x7,pI x8,pS x9,pV x10,pT x11,pT x12,pE x13]],rfl,rfl,?_⟩;conv=>whnf
   refine ifc h (fun hc h=>?_) (fun hc h=>?_)
   ·conv=>whnf
    replace h:=qaa h;obtain⟨⟨⟨x47,x48,⟨x49,x50,x51,x52,x53,x54⟩,x55,x56⟩,x57,x58⟩,h8,h⟩:=h;refine qcl (g138_ok _ _ _ _ h8) [0] [] ?_;rintro _ _ ⟨rfl,rfl⟩;refine⟨.p (.agg [.int .i64 x47,.str x48,.int .i64 x49,.bool x50,.int .i64 x51,.str x52,.sl (Val.rows x53),.sl (qam x54),.sl (qam x55),.sl (qab.rows x56)]),[.box 85 [pK x1,pI x57,pB x58],.box 47 [.p (.int .i64 (0:Int)),.p (.str ([]:SS)),.p (.int .i64 (0:Int)),pB false,.p (.int .i64 (0:Int)),.p (.str ([]:SS)),.p (.nilsl),.p (.nilsl),.p (.nilsl),.p (.nilsl)],.box 47 [pI x4,pS x5,pI x6,pB x7,pI x8,pS x9,pV x10,pT x11,pT x12,pE x13]],rfl,rfl,?_⟩;conv=>whnf
    replace h:=qaa h;obtain⟨x59,h10,h⟩:=h;refine⟨_,Codec.at_ qqt h10,?_⟩;conv=>whnf
    replace h:=qaa h;obtain⟨⟨x60,x61,⟨x62,x63,x64,x65,x66,x67⟩,x68,x69⟩,h9,h⟩:=h;refine⟨_,(qhi n _ _ _ _ h9),?_⟩;obtain rfl:=sj h;conv=>whnf
    refine⟨_,_,⟨rfl,rfl⟩,wk [0] []⟩
   ·conv=>whnf
    exact⟨((IntKind.i64.wrap (x42+1)),x46),h,wk [0,1,2] []⟩
  ·obtain rfl:=sj h
   conv=>whnf
   refine⟨_,_,⟨rfl,rfl⟩,wk [0] []⟩
theorem q4z (n:Nat) (g98:q33) (g51 g94:qfu) (g123 g128:qfu) (g136 g138:qfu) (g140 g141 g142:qfu) (g143:q34) (g144:q35) (g98_ok:zhd g98) (g51_ok:zhe g51) (g94_ok:zhf g94) (g123_ok:zhg g123) (g128_ok:zhh g128) (g136_ok:zhi g136) (g138_ok:zhj g138) (g140_ok:zhk g140) (g141_ok:zhl g141) (g142_ok:zhm g142) (g143_ok:q31 g143) (g144_ok:q32 g144):∀ (x1:List qaj) (x2:Int) (x3:Bool) (r:qab×Int×Bool),qrm n g98 g51 g94 g123 g128 g136 g138 g140 g141 g142 g143 g144 x1 x2 x3=some r->qau Tryz.prog 138 [.ptr 0 0] [.box 85 [pK x1,pI x2,pB x3]] 1 (fun v lo=>v=qvd x1 x2 x3 r/\lo=qu8 x1 x2 x3 r):=by
 intro x1 x2 x3 r h;unfold qrm at h;refine qau.of_vc qa3 (fun _ _=>Tryz.call138 _ _) Tryz.func138 (by kernel_rfl) (inl:=[57,140,1000000]) (Nat.le_of_ble_eq_true rfl) ?_;conv=>whnf
 replace h:=qaa h;obtain⟨⟨⟨x4,x5,⟨x6,x7,x8,x9,x10,x11⟩,x12,x13⟩,x14,x15⟩,h1,h⟩:=h;refine qcl (g140_ok _ _ _ _ h1) [0] [] ?_;rintro _ _ ⟨rfl,rfl⟩;refine⟨.p (.agg [.int .i64 x4,.str x5,.int .i64 x6,.bool x7,.int .i64 x8,.str x9,.sl (Val.rows x10),.sl (qam x11),.sl (qam x12),.sl (qab.rows x13)]),[.box 85 [pK x1,pI x14,pB x15],.box 47 [.p (.int .i64 (0:Int)),.p (.str ([]:SS)),.p (.int .i64 (0:Int)),pB false,.p (.int .i64 (0:Int)),.p (.str ([]:SS)),.p (.nilsl),.p (.nilsl),.p (.nilsl),.p (.nilsl)]],rfl,rfl,?_⟩;conv=>whnf
 refine qby.fn [57,140,1000000] (S:=Int×Bool×Int×SS×Int×Bool×Int×SS×List Val×List SS×List SS×List qab) (fun(x16,x17,x18,x19,x20,x21,x22,x23,x24,x25,x26,x27)=>[(0,.ptr 0 0),(2,.ptr 1 0),(3,.ptr 2 0)]) (fun(x16,x17,x18,x19,x20,x21,x22,x23,x24,x25,x26,x27)=>[.box 85 [pK x1,pI x16,pB x17],.box 47 [.p (.int .i64 (0:Int)),.p (.str ([]:SS)),.p (.int .i64 (0:Int)),pB false,.p (.int .i64 (0:Int)),.p (.str ([]:SS)),.p (.nilsl),.p (.nilsl),.p (.nilsl),.p (.nilsl)],.box 47 [pI x18,pS x19,pI x20,pB x21,pI x22,pS x23,pV x24,pT x25,pT x26,pE x27]]) (B:=qlu n x1 g140) h (wk [0,1,2] []) ?_;intro nx1 st h;obtain⟨x16,x17,x18,x19,x20,x21,x22,x23,x24,x25,x26,x27⟩:=st;unfold qlu at h;conv=>whnf
 replace h:=qaa h;obtain⟨x28,h2,h⟩:=h;refine qcl (qdc n _ _ _ _ _ h2) [0] [] ?_;rintro _ _ ⟨rfl,rfl⟩;refine⟨pB x28,[.box 85 [pK x1,pI x16,pB x17],.box 47 [.p (.int .i64 (0:Int)),.p (.str ([]:SS)),.p (.int .i64 (0:Int)),pB false,.p (.int .i64 (0:Int)),.p (.str ([]:SS)),.p (.nilsl),.p (.nilsl),.p (.nilsl),.p (.nilsl)],.box 47 [pI x18,pS x19,pI x20,pB x21,pI x22,pS x23,pV x24,pT x25,pT x26,pE x27]],rfl,rfl,?_⟩;conv=>whnf
 refine⟨fun hg=>?_,fun hg=>?_⟩
 ·have h:=qy4 h hg
  conv=>whnf
  refine⟨id,?_⟩;conv=>whnf
  replace h:=qaa h;obtain⟨x29,h3,h⟩:=h;refine qcl (qdc n _ _ _ _ _ h3) [0] [] ?_;rintro _ _ ⟨rfl,rfl⟩;refine⟨pB x29,[.box 85 [pK x1,pI x16,pB x17],.box 47 [.p (.int .i64 (0:Int)),.p (.str ([]:SS)),.p (.int .i64 (0:Int)),pB false,.p (.int .i64 (0:Int)),.p (.str ([]:SS)),.p (.nilsl),.p (.nilsl),.p (.nilsl),.p (.nilsl)],.box 47 [pI x18,pS x19,pI x20,pB x21,pI x22,pS x23,pV x24,pT x25,pT x26,pE x27]],rfl,rfl,?_⟩;conv=>whnf
  refine⟨id,?_⟩;conv=>whnf
  refine ifc h (fun hc h=>?_) (fun hc h=>?_)
  ·conv=>whnf
   replace h:=qaa h;obtain⟨⟨x30,x31,x32,x33⟩,h6,h⟩:=h;refine⟨_,Codec.at_ qr3 h6,?_⟩;conv=>whnf
   replace h:=qaa h;obtain⟨⟨⟨x34,x35,⟨x36,x37,x38,x39,x40,x41⟩,x42,x43⟩,x44,x45⟩,h4,h⟩:=h;refine qcl (g140_ok _ _ _ _ h4) [0] [] ?_;rintro _ _ ⟨rfl,rfl⟩;refine⟨.p (.agg [.int .i64 x34,.str x35,.int .i64 x36,.bool x37,.int .i64 x38,.str x39,.sl (Val.rows x40),.sl (qam x41),.sl (qam x42),.sl (qab.rows x43)]),[.box 85 [pK x1,pI x44,pB x45],.box 47 [.p (.int .i64 (0:Int)),.p (.str ([]:SS)),.p (.int .i64 (0:Int)),pB false,.p (.int .i64 (0:Int)),.p (.str ([]:SS)),.p (.nilsl),.p (.nilsl),.p (.nilsl),.p (.nilsl)],.box 47 [pI x18,pS x19,pI x20,pB x21,pI x22,pS x23,pV x24,pT x25,pT x26,pE x27]],rfl,rfl,?_⟩;conv=>whnf
   replace h:=qaa h;obtain⟨⟨x46,x47,⟨x48,x49,x50,x51,x52,x53⟩,x54,x55⟩,h5,h⟩:=h;refine⟨_,(qhi n _ _ _ _ h5),?_⟩;conv=>whnf
   exact⟨(x44,x45,x46,x47,x48,x49,x50,x51,x52,x53,x54,x55),h,wk [0,1,2] []⟩
  ·obtain rfl:=sj h
   conv=>whnf
   refine⟨_,_,⟨rfl,rfl⟩,wk [0] []⟩
 ·have h:=qy3 h hg
  refine⟨pB false,?_⟩;conv=>whnf
  refine⟨id,?_⟩;conv=>whnf
  refine ifc h (fun hc h=>?_) (fun hc h=>?_)
  ·conv=>whnf
   replace h:=qaa h;obtain⟨⟨x56,x57,x58,x59⟩,h9,h⟩:=h;refine⟨_,Codec.at_ qr3 h9,?_⟩;conv=>whnf
   replace h:=qaa h;obtain⟨⟨⟨x60,x61,⟨x62,x63,x64,x65,x66,x67⟩,x68,x69⟩,x70,x71⟩,h7,h⟩:=h;refine qcl (g140_ok _ _ _ _ h7) [0] [] ?_;rintro _ _ ⟨rfl,rfl⟩;refine⟨.p (.agg [.int .i64 x60,.str x61,.int .i64 x62,.bool x63,.int .i64 x64,.str x65,.sl (Val.rows x66),.sl (qam x67),.sl (qam x68),.sl (qab.rows x69)]),[.box 85 [pK x1,pI x70,pB x71],.box 47 [.p (.int .i64 (0:Int)),.p (.str ([]:SS)),.p (.int .i64 (0:Int)),pB false,.p (.int .i64 (0:Int)),.p (.str ([]:SS)),.p (.nilsl),.p (.nilsl),.p (.nilsl),.p (.nilsl)],.box 47 [pI x18,pS x19,pI x20,pB x21,pI x22,pS x23,pV x24,pT x25,pT x26,pE x27]],rfl,rfl,?_⟩;conv=>whnf
   replace h:=qaa h;obtain⟨⟨x72,x73,⟨x74,x75,x76,x77,x78,x79⟩,x80,x81⟩,h8,h⟩:=h;refine⟨_,(qhi n _ _ _ _ h8),?_⟩;conv=>whnf
   exact⟨(x70,x71,x72,x73,x74,x75,x76,x77,x78,x79,x80,x81),h,wk [0,1,2] []⟩
  ·obtain rfl:=sj h
   conv=>whnf
   refine⟨_,_,⟨rfl,rfl⟩,wk [0] []⟩
set_option maxHeartbeats 4000000 in
theorem qzb (n:Nat) (g98:q33) (g51 g94:qfu) (g123 g128:qfu) (g136 g138:qfu) (g140 g141 g142:qfu) (g143:q34) (g144:q35) (g98_ok:zhd g98) (g51_ok:zhe g51) (g94_ok:zhf g94) (g123_ok:zhg g123) (g128_ok:zhh g128) (g136_ok:zhi g136) (g138_ok:zhj g138) (g140_ok:zhk g140) (g141_ok:zhl g141) (g142_ok:zhm g142) (g143_ok:q31 g143) (g144_ok:q32 g144):∀ (x1:List qaj) (x2:Int) (x3:Bool) (r:qab×Int×Bool),qk6 n g98 g51 g94 g123 g128 g136 g138 g140 g141 g142 g143 g144 x1 x2 x3=some r->qau Tryz.prog 140 [.ptr 0 0] [.box 85 [pK x1,pI x2,pB x3]] 1 (fun v lo=>v=qq6 x1 x2 x3 r/\lo=qq5 x1 x2 x3 r):=by
 intro x1 x2 x3 r h;unfold qk6 at h;refine qau.of_vc qa3 (fun _ _=>Tryz.call140 _ _) Tryz.func140 (by kernel_rfl) (inl:=[57,141,1000000]) (Nat.le_of_ble_eq_true rfl) ?_;conv=>whnf
 replace h:=qaa h;obtain⟨⟨⟨x4,x5,⟨x6,x7,x8,x9,x10,x11⟩,x12,x13⟩,x14,x15⟩,h1,h⟩:=h;refine qcl (g141_ok _ _ _ _ h1) [0] [] ?_;rintro _ _ ⟨rfl,rfl⟩;refine⟨.p (.agg [.int .i64 x4,.str x5,.int .i64 x6,.bool x7,.int .i64 x8,.str x9,.sl (Val.rows x10),.sl (qam x11),.sl (qam x12),.sl (qab.rows x13)]),[.box 85 [pK x1,pI x14,pB x15],.box 47 [.p (.int .i64 (0:Int)),.p (.str ([]:SS)),.p (.int .i64 (0:Int)),pB false,.p (.int .i64 (0:Int)),.p (.str ([]:SS)),.p (.nilsl),.p (.nilsl),.p (.nilsl),.p (.nilsl)]],rfl,rfl,?_⟩;conv=>whnf
 refine qby.fn [57,141,1000000] (S:=Int×Bool×Int×SS×Int×Bool×Int×SS×List Val×List SS×List SS×List qab) (fun(x16,x17,x18,x19,x20,x21,x22,x23,x24,x25,x26,x27)=>[(0,.ptr 0 0),(2,.ptr 1 0),(3,.ptr 2 0)]) (fun(x16,x17,x18,x19,x20,x21,x22,x23,x24,x25,x26,x27)=>[.box 85 [pK x1,pI x16,pB x17],.box 47 [.p (.int .i64 (0:Int)),.p (.str ([]:SS)),.p (.int .i64 (0:Int)),pB false,.p (.int .i64 (0:Int)),.p (.str ([]:SS)),.p (.nilsl),.p (.nilsl),.p (.nilsl),.p (.nilsl)],.box 47 [pI x18,pS x19,pI x20,pB x21,pI x22,pS x23,pV x24,pT x25,pT x26,pE x27]]) (B:=qgl n x1 g141) h (wk [0,1,2] []) ?_;intro nx1 st h;obtain⟨x16,x17,x18,x19,x20,x21,x22,x23,x24,x25,x26,x27⟩:=st;unfold qgl at h;conv=>whnf
 replace h:=qaa h;obtain⟨x28,h2,h⟩:=h;refine qcl (qdc n _ _ _ _ _ h2) [0] [] ?_;rintro _ _ ⟨rfl,rfl⟩;refine⟨pB x28,[.box 85 [pK x1,pI x16,pB x17],.box 47 [.p (.int .i64 (0:Int)),.p (.str ([]:SS)),.p (.int .i64 (0:Int)),pB false,.p (.int .i64 (0:Int)),.p (.str ([]:SS)),.p (.nilsl),.p (.nilsl),.p (.nilsl),.p (.nilsl)],.box 47 [pI x18,pS x19,pI x20,pB x21,pI x22,pS x23,pV x24,pT x25,pT x26,pE x27]],rfl,rfl,?_⟩;conv=>whnf
 refine⟨fun hg=>?_,fun hg=>?_⟩
 ·have h:=qy4 h hg
  conv=>whnf
  refine⟨id,?_⟩;conv=>whnf
  replace h:=qaa h;obtain⟨x29,h3,h⟩:=h;refine qcl (qdc n _ _ _ _ _ h3) [0] [] ?_;rintro _ _ ⟨rfl,rfl⟩;refine⟨pB x29,[.box 85 [pK x1,pI x16,pB x17],.box 47 [.p (.int .i64 (0:Int)),.p (.str ([]:SS)),.p (.int .i64 (0:Int)),pB false,.p (.int .i64 (0:Int)),.p (.str ([]:SS)),.p (.nilsl),.p (.nilsl),.p (.nilsl),.p (.nilsl)],.box 47 [pI x18,pS x19,pI x20,pB x21,pI x22,pS x23,pV x24,pT x25,pT x26,pE x27]],rfl,rfl,?_⟩;conv=>whnf
  refine⟨id,?_⟩;conv=>whnf
  refine⟨fun hg=>?_,fun hg=>?_⟩
  ·have h:=qy4 h hg
   conv=>whnf
   refine⟨id,?_⟩;conv=>whnf
   replace h:=qaa h;obtain⟨x30,h4,h⟩:=h;refine qcl (qdc n _ _ _ _ _ h4) [0] [] ?_;rintro _ _ ⟨rfl,rfl⟩;refine⟨pB x30,[.box 85 [pK x1,pI x16,pB x17],.box 47 [.p (.int .i64 (0:Int)),.p (.str ([]:SS)),.p (.int .i64 (0:Int)),pB false,.p (.int .i64 (0:Int)),.p (.str ([]:SS)),.p (.nilsl),.p (.nilsl),.p (.nilsl),.p (.nilsl)],.box 47 [pI x18,pS x19,pI x20,pB x21,pI x22,pS x23,pV x24,pT x25,pT x26,pE x27]],rfl,rfl,?_⟩;conv=>whnf
   refine⟨id,?_⟩;conv=>whnf
   refine ifc h (fun hc h=>?_) (fun hc h=>?_)
   ·conv=>whnf
    replace h:=qaa h;obtain⟨⟨x31,x32,x33,x34⟩,h7,h⟩:=h;refine⟨_,Codec.at_ qr3 h7,?_⟩;conv=>whnf
    replace h:=qaa h;obtain⟨⟨⟨x35,x36,⟨x37,x38,x39,x40,x41,x42⟩,x43,x44⟩,x45,x46⟩,h5,h⟩:=h;refine qcl (g141_ok _ _ _ _ h5) [0] [] ?_;rintro _ _ ⟨rfl,rfl⟩;refine⟨.p (.agg [.int .i64 x35,.str x36,.int .i64 x37,.bool x38,.int .i64 x39,.str x40,.sl (Val.rows x41),.sl (qam x42),.sl (qam x43),.sl (qab.rows x44)]),[.box 85 [pK x1,pI x45,pB x46],.box 47 [.p (.int .i64 (0:Int)),.p (.str ([]:SS)),.p (.int .i64 (0:Int)),pB false,.p (.int .i64 (0:Int)),.p (.str ([]:SS)),.p (.nilsl),.p (.nilsl),.p (.nilsl),.p (.nilsl)],.box 47 [pI x18,pS x19,pI x20,pB x21,pI x22,pS x23,pV x24,pT x25,pT x26,pE x27]],rfl,rfl,?_⟩;conv=>whnf
    replace h:=qaa h;obtain⟨⟨x47,x48,⟨x49,x50,x51,x52,x53,x54⟩,x55,x56⟩,h6,h⟩:=h;refine⟨_,(qhi n _ _ _ _ h6),?_⟩;conv=>whnf
    exact⟨(x45,x46,x47,x48,x49,x50,x51,x52,x53,x54,x55,x56),h,wk [0,1,2] []⟩
   ·obtain rfl:=sj h
    conv=>whnf
    refine⟨_,_,⟨rfl,rfl⟩,wk [0] []⟩
  ·have h:=qy3 h hg
   refine⟨pB false,?_⟩;conv=>whnf
   refine⟨id,?_⟩;conv=>whnf
   refine ifc h (fun hc h=>?_) (fun hc h=>?_)
   ·conv=>whnf
    replace h:=qaa h;obtain⟨⟨x57,x58,x59,x60⟩,h10,h⟩:=h;refine⟨_,Codec.at_ qr3 h10,?_⟩;conv=>whnf
    replace h:=qaa h;obtain⟨⟨⟨x61,x62,⟨x63,x64,x65,x66,x67,x68⟩,x69,x70⟩,x71,x72⟩,h8,h⟩:=h;refine qcl (g141_ok _ _ _ _ h8) [0] [] ?_;rintro _ _ ⟨rfl,rfl⟩;refine⟨.p (.agg [.int .i64 x61,.str x62,.int .i64 x63,.bool x64,.int .i64 x65,.str x66,.sl (Val.rows x67),.sl (qam x68),.sl (qam x69),.sl (qab.rows x70)]),[.box 85 [pK x1,pI x71,pB x72],.box 47 [.p (.int .i64 (0:Int)),.p (.str ([]:SS)),.p (.int .i64 (0:Int)),pB false,.p (.int .i64 (0:Int)),.p (.str ([]:SS)),.p (.nilsl),.p (.nilsl),.p (.nilsl),.p (.nilsl)],.box 47 [pI x18,pS x19,pI x20,pB x21,pI x22,pS x23,pV x24,pT x25,pT x26,pE x27]],rfl,rfl,?_⟩;conv=>whnf
    replace h:=qaa h;obtain⟨⟨x73,x74,⟨x75,x76,x77,x78,x79,x80⟩,x81,x82⟩,h9,h⟩:=h;refine⟨_,(qhi n _ _ _ _ h9),?_⟩;conv=>whnf
    exact⟨(x71,x72,x73,x74,x75,x76,x77,x78,x79,x80,x81,x82),h,wk [0,1,2] []⟩
   ·obtain rfl:=sj h
    conv=>whnf
    refine⟨_,_,⟨rfl,rfl⟩,wk [0] []⟩
 ·have h:=qy3 h hg
  refine⟨pB false,?_⟩;conv=>whnf
  refine⟨id,?_⟩;conv=>whnf
  refine⟨fun hg=>?_,fun hg=>?_⟩
  ·have h:=qy4 h hg
   conv=>whnf
   refine⟨id,?_⟩;conv=>whnf
   replace h:=qaa h;obtain⟨x83,h11,h⟩:=h;refine qcl (qdc n _ _ _ _ _ h11) [0] [] ?_;rintro _ _ ⟨rfl,rfl⟩;refine⟨pB x83,[.box 85 [pK x1,pI x16,pB x17],.box 47 [.p (.int .i64 (0:Int)),.p (.str ([]:SS)),.p (.int .i64 (0:Int)),pB false,.p (.int .i64 (0:Int)),.p (.str ([]:SS)),.p (.nilsl),.p (.nilsl),.p (.nilsl),.p (.nilsl)],.box 47 [pI x18,pS x19,pI x20,pB x21,pI x22,pS x23,pV x24,pT x25,pT x26,pE x27]],rfl,rfl,?_⟩;conv=>whnf
   refine⟨id,?_⟩;conv=>whnf
   refine ifc h (fun hc h=>?_) (fun hc h=>?_)
   ·conv=>whnf
    replace h:=qaa h;obtain⟨⟨x84,x85,x86,x87⟩,h14,h⟩:=h;refine⟨_,Codec.at_ qr3 h14,?_⟩;conv=>whnf
    replace h:=qaa h;obtain⟨⟨⟨x88,x89,⟨x90,x91,x92,x93,x94,x95⟩,x96,x97⟩,x98,x99⟩,h12,h⟩:=h;refine qcl (g141_ok _ _ _ _ h12) [0] [] ?_;rintro _ _ ⟨rfl,rfl⟩;refine⟨.p (.agg [.int .i64 x88,.str x89,.int .i64 x90,.bool x91,.int .i64 x92,.str x93,.sl (Val.rows x94),.sl (qam x95),.sl (qam x96),.sl (qab.rows x97)]),[.box 85 [pK x1,pI x98,pB x99],.box 47 [.p (.int .i64 (0:Int)),.p (.str ([]:SS)),.p (.int .i64 (0:Int)),pB false,.p (.int .i64 (0:Int)),.p (.str ([]:SS)),.p (.nilsl),.p (.nilsl),.p (.nilsl),.p (.nilsl)],.box 47 [pI x18,pS x19,pI x20,pB x21,pI x22,pS x23,pV x24,pT x25,pT x26,pE x27]],rfl,rfl,?_⟩;conv=>whnf
    replace h:=qaa h;obtain⟨⟨x100,x101,⟨x102,x103,x104,x105,x106,x107⟩,x108,x109⟩,h13,h⟩:=h;refine⟨_,(qhi n _ _ _ _ h13),?_⟩;conv=>whnf
    exact⟨(x98,x99,x100,x101,x102,x103,x104,x105,x106,x107,x108,x109),h,wk [0,1,2] []⟩
   ·obtain rfl:=sj h
    conv=>whnf
    refine⟨_,_,⟨rfl,rfl⟩,wk [0] []⟩
  ·have h:=qy3 h hg
   refine⟨pB false,?_⟩;conv=>whnf
   refine⟨id,?_⟩;conv=>whnf
   refine ifc h (fun hc h=>?_) (fun hc h=>?_)
   ·conv=>whnf
    replace h:=qaa h;obtain⟨⟨x110,x111,x112,x113⟩,h17,h⟩:=h;refine⟨_,Codec.at_ qr3 h17,?_⟩;conv=>whnf
    replace h:=qaa h;obtain⟨⟨⟨x114,x115,⟨x116,x117,x118,x119,x120,x121⟩,x122,x123⟩,x124,x125⟩,h15,h⟩:=h;refine qcl (g141_ok _ _ _ _ h15) [0] [] ?_;rintro _ _ ⟨rfl,rfl⟩;refine⟨.p (.agg [.int .i64 x114,.str x115,.int .i64 x116,.bool x117,.int .i64 x118,.str x119,.sl (Val.rows x120),.sl (qam x121),.sl (qam x122),.sl (qab.rows x123)]),[.box 85 [pK x1,pI x124,pB x125],.box 47 [.p (.int .i64 (0:Int)),.p (.str ([]:SS)),.p (.int .i64 (0:Int)),pB false,.p (.int .i64 (0:Int)),.p (.str ([]:SS)),.p (.nilsl),.p (.nilsl),.p (.nilsl),.p (.nilsl)],.box 47 [pI x18,pS x19,pI x20,pB x21,pI x22,pS x23,pV x24,pT x25,pT x26,pE x27]],rfl,rfl,?_⟩;conv=>whnf
    replace h:=qaa h;obtain⟨⟨x126,x127,⟨x128,x129,x130,x131,x132,x133⟩,x134,x135⟩,h16,h⟩:=h;refine⟨_,(qhi n _ _ _ _ h16),?_⟩;conv=>whnf
    exact⟨(x124,x125,x126,x127,x128,x129,x130,x131,x132,x133,x134,x135),h,wk [0,1,2] []⟩
   ·obtain rfl:=sj h
    conv=>whnf
    refine⟨_,_,⟨rfl,rfl⟩,wk [0] []⟩
set_option maxHeartbeats 4000000 in
theorem q1u (n:Nat) (g98:q33) (g51 g94:qfu) (g123 g128:qfu) (g136 g138:qfu) (g140 g141 g142:qfu) (g143:q34) (g144:q35) (g98_ok:zhd g98) (g51_ok:zhe g51) (g94_ok:zhf g94) (g123_ok:zhg g123) (g128_ok:zhh g128) (g136_ok:zhi g136) (g138_ok:zhj g138) (g140_ok:zhk g140) (g141_ok:zhl g141) (g142_ok:zhm g142) (g143_ok:q31 g143) (g144_ok:q32 g144):∀ (x1:List qaj) (x2:Int) (x3:Bool) (r:qab×Int×Bool),qlf n g98 g51 g94 g123 g128 g136 g138 g140 g141 g142 g143 g144 x1 x2 x3=some r->qau Tryz.prog 141 [.ptr 0 0] [.box 85 [pK x1,pI x2,pB x3]] 1 (fun v lo=>v=qs5 x1 x2 x3 r/\lo=qs4 x1 x2 x3 r):=by
 intro x1 x2 x3 r h;unfold qlf at h;refine qau.of_vc qa3 (fun _ _=>Tryz.call141 _ _) Tryz.func141 (by kernel_rfl) (inl:=[48,51,52,97,141,142,1000000]) (Nat.le_of_ble_eq_true rfl) ?_;conv=>whnf
 replace h:=qaa h;obtain⟨⟨x4,x5⟩,h1,h⟩:=h;refine qcl (qak n _ _ _ _ _ h1) [0] [] ?_;rintro _ _ ⟨rfl,rfl⟩;refine⟨pB x4,[.box 85 [pK x1,pI x5,pB x3],.box 47 [.p (.int .i64 (0:Int)),.p (.str ([]:SS)),.p (.int .i64 (0:Int)),pB false,.p (.int .i64 (0:Int)),.p (.str ([]:SS)),.p (.nilsl),.p (.nilsl),.p (.nilsl),.p (.nilsl)]],rfl,rfl,?_⟩;conv=>whnf
 refine ifc h (fun hc h=>?_) (fun hc h=>?_)
 ·conv=>whnf
  replace h:=qaa h;obtain⟨⟨⟨x6,x7,⟨x8,x9,x10,x11,x12,x13⟩,x14,x15⟩,x16,x17⟩,h2,h⟩:=h;refine qcl (g141_ok _ _ _ _ h2) [0] [] ?_;rintro _ _ ⟨rfl,rfl⟩;refine⟨.p (.agg [.int .i64 x6,.str x7,.int .i64 x8,.bool x9,.int .i64 x10,.str x11,.sl (Val.rows x12),.sl (qam x13),.sl (qam x14),.sl (qab.rows x15)]),[.box 85 [pK x1,pI x16,pB x17],.box 47 [.p (.int .i64 (0:Int)),.p (.str ([]:SS)),.p (.int .i64 (0:Int)),pB false,.p (.int .i64 (0:Int)),.p (.str ([]:SS)),.p (.nilsl),.p (.nilsl),.p (.nilsl),.p (.nilsl)]],rfl,rfl,?_⟩;conv=>whnf
  replace h:=qaa h;obtain⟨⟨x18,x19,⟨x20,x21,x22,x23,x24,x25⟩,x26,x27⟩,h3,h⟩:=h;refine⟨_,(qpn n _ _ _ h3),?_⟩;obtain rfl:=sj h;conv=>whnf
  refine⟨_,_,⟨rfl,rfl⟩,wk [0] []⟩
 ·conv=>whnf
  replace h:=qaa h;obtain⟨⟨⟨x28,x29,⟨x30,x31,x32,x33,x34,x35⟩,x36,x37⟩,x38,x39⟩,h4,h⟩:=h;refine qcl (g142_ok _ _ _ _ h4) [0] [] ?_;rintro _ _ ⟨rfl,rfl⟩;refine⟨.p (.agg [.int .i64 x28,.str x29,.int .i64 x30,.bool x31,.int .i64 x32,.str x33,.sl (Val.rows x34),.sl (qam x35),.sl (qam x36),.sl (qab.rows x37)]),[.box 85 [pK x1,pI x38,pB x39],.box 47 [.p (.int .i64 (0:Int)),.p (.str ([]:SS)),.p (.int .i64 (0:Int)),pB false,.p (.int .i64 (0:Int)),.p (.str ([]:SS)),.p (.nilsl),.p (.nilsl),.p (.nilsl),.p (.nilsl)]],rfl,rfl,?_⟩;conv=>whnf
  refine qby.fn [48,51,52,97,141,142,1000000] (S:=Int×Bool×Int×SS×Int×Bool×Int×SS×List Val×List SS×List SS×List qab) (fun(x40,x41,x42,x43,x44,x45,x46,x47,x48,x49,x50,x51)=>[(0,.ptr 0 0),(2,.ptr 1 0),(4,.ptr 2 0)]) (fun(x40,x41,x42,x43,x44,x45,x46,x47,x48,x49,x50,x51)=>[.box 85 [pK x1,pI x40,pB x41],.box 47 [.p (.int .i64 (0:Int)),.p (.str ([]:SS)),.p (.int .i64 (0:Int)),pB false,.p (.int .i64 (0:Int)),.p (.str ([]:SS)),.p (.nilsl),.p (.nilsl),.p (.nilsl),.p (.nilsl)],.box 47 [pI x42,pS x43,pI x44,pB x45,pI x46,pS x47,pV x48,pT x49,pT x50,pE x51]]) (B:=qdd n x1 g51) h (wk [0,1,2] []) ?_;intro nx1 st h;obtain⟨x40,x41,x42,x43,x44,x45,x46,x47,x48,x49,x50,x51⟩:=st;unfold qdd at h;conv=>whnf
  replace h:=qaa h;obtain⟨⟨x52,x53⟩,h5,h⟩:=h;refine qcl (qak n _ _ _ _ _ h5) [0] [] ?_;rintro _ _ ⟨rfl,rfl⟩;refine⟨pB x52,[.box 85 [pK x1,pI x53,pB x41],.box 47 [.p (.int .i64 (0:Int)),.p (.str ([]:SS)),.p (.int .i64 (0:Int)),pB false,.p (.int .i64 (0:Int)),.p (.str ([]:SS)),.p (.nilsl),.p (.nilsl),.p (.nilsl),.p (.nilsl)],.box 47 [pI x42,pS x43,pI x44,pB x45,pI x46,pS x47,pV x48,pT x49,pT x50,pE x51]],rfl,rfl,?_⟩;conv=>whnf
  refine ifc h (fun hc h=>?_) (fun hc h=>?_)
  ·conv=>whnf
   replace h:=qaa h;obtain⟨⟨x54,x55,⟨x56,x57,x58,x59,x60,x61⟩,x62,x63⟩,h7,h⟩:=h;refine⟨_,(qpn n _ _ _ h7),?_⟩;conv=>whnf
   replace h:=qaa h;obtain⟨⟨x64,x65,x66⟩,h6,h⟩:=h;refine qcl (qhh n _ _ _ _ h6) [0] [] ?_;rintro _ _ ⟨rfl,rfl⟩;refine⟨pS x64,[.box 85 [pK x1,pI x65,pB x66],.box 47 [.p (.int .i64 (0:Int)),.p (.str ([]:SS)),.p (.int .i64 (0:Int)),pB false,.p (.int .i64 (0:Int)),.p (.str ([]:SS)),.p (.nilsl),.p (.nilsl),.p (.nilsl),.p (.nilsl)],.box 47 [pI x54,pS x55,pI x56,pB x57,pI x58,pS x59,pV x60,pT x61,pT x62,pE x63]],rfl,rfl,?_⟩;conv=>whnf
   exact⟨(x65,x66,x54,x64,x56,x57,x58,x59,x60,x61,x62,x63),h,wk [0,1,2] []⟩
  ·conv=>whnf
   replace h:=qaa h;obtain⟨⟨x67,x68⟩,h8,h⟩:=h;refine qcl (qak n _ _ _ _ _ h8) [0] [] ?_;rintro _ _ ⟨rfl,rfl⟩;refine⟨pB x67,[.box 85 [pK x1,pI x68,pB x41],.box 47 [.p (.int .i64 (0:Int)),.p (.str ([]:SS)),.p (.int .i64 (0:Int)),pB false,.p (.int .i64 (0:Int)),.p (.str ([]:SS)),.p (.nilsl),.p (.nilsl),.p (.nilsl),.p (.nilsl)],.box 47 [pI x42,pS x43,pI x44,pB x45,pI x46,pS x47,pV x48,pT x49,pT x50,pE x51]],rfl,rfl,?_⟩;conv=>whnf
   refine ifc h (fun hc h=>?_) (fun hc h=>?_)
   ·conv=>whnf
    replace h:=qaa h;obtain⟨⟨⟨x69,x70,⟨x71,x72,x73,x74,x75,x76⟩,x77,x78⟩,x79,x80⟩,h9,h⟩:=h;refine qcl (g51_ok _ _ _ _ h9) [0] [] ?_;rintro _ _ ⟨rfl,rfl⟩;refine⟨.p (.agg [.int .i64 x69,.str x70,.int .i64 x71,.bool x72,.int .i64 x73,.str x74,.sl (Val.rows x75),.sl (qam x76),.sl (qam x77),.sl (qab.rows x78)]),[.box 85 [pK x1,pI x79,pB x80],.box 47 [.p (.int .i64 (0:Int)),.p (.str ([]:SS)),.p (.int .i64 (0:Int)),pB false,.p (.int .i64 (0:Int)),.p (.str ([]:SS)),.p (.nilsl),.p (.nilsl),.p (.nilsl),.p (.nilsl)],.box 47 [pI x42,pS x43,pI x44,pB x45,pI x46,pS x47,pV x48,pT x49,pT x50,pE x51]],rfl,rfl,?_⟩;conv=>whnf
    replace h:=qaa h;obtain⟨⟨x81,x82⟩,h10,h⟩:=h;refine qcl (qa7 n _ _ _ _ _ h10) [0] [] ?_;rintro _ _ ⟨rfl,rfl⟩;refine⟨.p (.tup []),[.box 85 [pK x1,pI x81,pB x82],.box 47 [.p (.int .i64 (0:Int)),.p (.str ([]:SS)),.p (.int .i64 (0:Int)),pB false,.p (.int .i64 (0:Int)),.p (.str ([]:SS)),.p (.nilsl),.p (.nilsl),.p (.nilsl),.p (.nilsl)],.box 47 [pI x42,pS x43,pI x44,pB x45,pI x46,pS x47,pV x48,pT x49,pT x50,pE x51],.box 47 [pI x69,pS x70,pI x71,pB x72,pI x73,pS x74,pV x75,pT x76,pT x77,pE x78]],rfl,rfl,?_⟩;conv=>whnf
    refine⟨Codec.one qca [qab.mk x42 x43 (Val.mk x44 x45 x46 x47 x48 x49) x50 x51,qab.mk x69 x70 (Val.mk x71 x72 x73 x74 x75 x76) x77 x78],qab.rows [qab.mk x42 x43 (Val.mk x44 x45 x46 x47 x48 x49) x50 x51,qab.mk x69 x70 (Val.mk x71 x72 x73 x74 x75 x76) x77 x78],.inl rfl,?_⟩;conv=>whnf
    exact⟨(x81,x82,(7:Int),([]:SS),(0:Int),false,(0:Int),([]:SS),([]:List _),([]:List _),([]:List _),[qab.mk x42 x43 (Val.mk x44 x45 x46 x47 x48 x49) x50 x51,qab.mk x69 x70 (Val.mk x71 x72 x73 x74 x75 x76) x77 x78]),h,wk [0,1,2] []⟩
   ·conv=>whnf
    refine⟨fun hg=>?_,fun hg=>?_⟩
    ·have h:=qy4 h hg
     conv=>whnf
     refine⟨id,?_⟩;conv=>whnf
     replace h:=qaa h;obtain⟨⟨x83,x84⟩,h11,h⟩:=h;refine qcl (qak n _ _ _ _ _ h11) [0] [] ?_;rintro _ _ ⟨rfl,rfl⟩;refine⟨pB x83,[.box 85 [pK x1,pI x84,pB x41],.box 47 [.p (.int .i64 (0:Int)),.p (.str ([]:SS)),.p (.int .i64 (0:Int)),pB false,.p (.int .i64 (0:Int)),.p (.str ([]:SS)),.p (.nilsl),.p (.nilsl),.p (.nilsl),.p (.nilsl)],.box 47 [pI x42,pS x43,pI x44,pB x45,pI x46,pS x47,pV x48,pT x49,pT x50,pE x51]],rfl,rfl,?_⟩;conv=>whnf
     refine⟨id,?_⟩;conv=>whnf
     refine ifc h (fun hc h=>?_) (fun hc h=>?_)
     ·conv=>whnf
      replace h:=qaa h;obtain⟨⟨x85,x86,⟨x87,x88,x89,x90,x91,x92⟩,x93,x94⟩,h13,h⟩:=h;refine⟨_,(qpn n _ _ _ h13),?_⟩;conv=>whnf
      replace h:=qaa h;obtain⟨⟨x95,x96,x97⟩,h12,h⟩:=h;refine qcl (qhh n _ _ _ _ h12) [0] [] ?_;rintro _ _ ⟨rfl,rfl⟩;refine⟨pS x95,[.box 85 [pK x1,pI x96,pB x97],.box 47 [.p (.int .i64 (0:Int)),.p (.str ([]:SS)),.p (.int .i64 (0:Int)),pB false,.p (.int .i64 (0:Int)),.p (.str ([]:SS)),.p (.nilsl),.p (.nilsl),.p (.nilsl),.p (.nilsl)],.box 47 [pI x85,pS x86,pI x87,pB x88,pI x89,pS x90,pV x91,pT x92,pT x93,pE x94]],rfl,rfl,?_⟩;conv=>whnf
      exact⟨(x96,x97,x85,x95,x87,x88,x89,x90,x91,x92,x93,x94),h,wk [0,1,2] []⟩
     ·obtain rfl:=sj h
      conv=>whnf
      refine⟨_,_,⟨rfl,rfl⟩,wk [0] []⟩
    ·have h:=qy3 h hg
     refine⟨pB false,?_⟩;conv=>whnf
     refine⟨id,?_⟩;conv=>whnf
     refine⟨fun hf=>absurd hf (by first|decide|simp),fun _=>?_⟩;obtain rfl:=sj h;conv=>whnf
     refine⟨_,_,⟨rfl,rfl⟩,wk [0] []⟩
set_option maxHeartbeats 4000000 in
theorem q3h (n:Nat) (g98:q33) (g51 g94:qfu) (g123 g128:qfu) (g136 g138:qfu) (g140 g141 g142:qfu) (g143:q34) (g144:q35) (g98_ok:zhd g98) (g51_ok:zhe g51) (g94_ok:zhf g94) (g123_ok:zhg g123) (g128_ok:zhh g128) (g136_ok:zhi g136) (g138_ok:zhj g138) (g140_ok:zhk g140) (g141_ok:zhl g141) (g142_ok:zhm g142) (g143_ok:q31 g143) (g144_ok:q32 g144):∀ (x1:List qaj) (x2:Int) (x3:Bool) (r:qab×Int×Bool),qm9 n g98 g51 g94 g123 g128 g136 g138 g140 g141 g142 g143 g144 x1 x2 x3=some r->qau Tryz.prog 142 [.ptr 0 0] [.box 85 [pK x1,pI x2,pB x3]] 1 (fun v lo=>v=qt6 x1 x2 x3 r/\lo=qt2 x1 x2 x3 r):=by
 intro x1 x2 x3 r h;unfold qm9 at h;refine qau.of_vc qa3 (fun _ _=>Tryz.call142 _ _) Tryz.func142 (by kernel_rfl) (inl:=[48,51,52,53,57,98,143,144,40000003,1000000]) (Nat.le_of_ble_eq_true rfl) ?_;conv=>whnf
 refine ifc h (fun hc h=>?_) (fun hc h=>?_)
 ·obtain rfl:=sj h
  conv=>whnf
  refine⟨_,_,⟨rfl,rfl⟩,wk [0] []⟩
 ·conv=>whnf
  replace h:=qaa h;obtain⟨⟨x4,x5,x6,x7⟩,h15,h⟩:=h;refine⟨_,Codec.at_ qr3 h15,?_⟩;conv=>whnf
  refine ifc h (fun hc h=>?_) (fun hc h=>?_)
  ·obtain rfl:=sj h
   conv=>whnf
   refine⟨_,_,⟨rfl,rfl⟩,wk [0] []⟩
  ·conv=>whnf
   refine ifc h (fun hc h=>?_) (fun hc h=>?_)
   ·obtain rfl:=sj h
    conv=>whnf
    refine⟨_,_,⟨rfl,rfl⟩,wk [0] []⟩
   ·conv=>whnf
    refine ifc h (fun hc h=>?_) (fun hc h=>?_)
    ·conv=>whnf
     replace h:=qaa h;obtain⟨⟨x8,x9⟩,h1,h⟩:=h;refine qcl (qak n _ _ _ _ _ h1) [0] [] ?_;rintro _ _ ⟨rfl,rfl⟩;refine⟨pB x8,[.box 85 [pK x1,pI x9,pB x3],.box 47 [.p (.int .i64 (0:Int)),.p (.str ([]:SS)),.p (.int .i64 (0:Int)),pB false,.p (.int .i64 (0:Int)),.p (.str ([]:SS)),.p (.nilsl),.p (.nilsl),.p (.nilsl),.p (.nilsl)],.box 87 [pI x4,pS x5,pI x6,pI x7]],rfl,rfl,?_⟩;conv=>whnf
     refine ifc h (fun hc h=>?_) (fun hc h=>?_)
     ·conv=>whnf
      replace h:=qaa h;obtain⟨⟨⟨x10,x11,⟨x12,x13,x14,x15,x16,x17⟩,x18,x19⟩,x20,x21⟩,h2,h⟩:=h;refine qcl (g143_ok _ _ _ _ _ h2) [0] [] ?_;rintro _ _ ⟨rfl,rfl⟩;refine⟨.p (.agg [.int .i64 x10,.str x11,.int .i64 x12,.bool x13,.int .i64 x14,.str x15,.sl (Val.rows x16),.sl (qam x17),.sl (qam x18),.sl (qab.rows x19)]),[.box 85 [pK x1,pI x20,pB x21],.box 47 [.p (.int .i64 (0:Int)),.p (.str ([]:SS)),.p (.int .i64 (0:Int)),pB false,.p (.int .i64 (0:Int)),.p (.str ([]:SS)),.p (.nilsl),.p (.nilsl),.p (.nilsl),.p (.nilsl)],.box 87 [pI x4,pS x5,pI x6,pI x7]],rfl,rfl,?_⟩;obtain rfl:=sj h;conv=>whnf
      refine⟨_,_,⟨rfl,rfl⟩,wk [0] []⟩
     ·obtain rfl:=sj h
      conv=>whnf
      refine⟨_,_,⟨rfl,rfl⟩,wk [0] []⟩
    ·conv=>whnf
     replace h:=qaa h;obtain⟨⟨x22,x23⟩,h3,h⟩:=h;refine qcl (qak n _ _ _ _ _ h3) [0] [] ?_;rintro _ _ ⟨rfl,rfl⟩;refine⟨pB x22,[.box 85 [pK x1,pI x23,pB x3],.box 47 [.p (.int .i64 (0:Int)),.p (.str ([]:SS)),.p (.int .i64 (0:Int)),pB false,.p (.int .i64 (0:Int)),.p (.str ([]:SS)),.p (.nilsl),.p (.nilsl),.p (.nilsl),.p (.nilsl)],.box 87 [pI x4,pS x5,pI x6,pI x7]],rfl,rfl,?_⟩;conv=>whnf
     refine ifc h (fun hc h=>?_) (fun hc h=>?_)
     ·obtain rfl:=sj h
      conv=>whnf
      refine⟨_,_,⟨rfl,rfl⟩,wk [0] []⟩
     ·conv=>whnf
      replace h:=qaa h;obtain⟨⟨x24,x25⟩,h4,h⟩:=h;refine qcl (qak n _ _ _ _ _ h4) [0] [] ?_;rintro _ _ ⟨rfl,rfl⟩;refine⟨pB x24,[.box 85 [pK x1,pI x25,pB x3],.box 47 [.p (.int .i64 (0:Int)),.p (.str ([]:SS)),.p (.int .i64 (0:Int)),pB false,.p (.int .i64 (0:Int)),.p (.str ([]:SS)),.p (.nilsl),.p (.nilsl),.p (.nilsl),.p (.nilsl)],.box 87 [pI x4,pS x5,pI x6,pI x7]],rfl,rfl,?_⟩;conv=>whnf
      refine ifc h (fun hc h=>?_) (fun hc h=>?_)
      ·obtain rfl:=sj h
       conv=>whnf
       refine⟨_,_,⟨rfl,rfl⟩,wk [0] []⟩
      ·conv=>whnf
       replace h:=qaa h;obtain⟨⟨x26,x27⟩,h5,h⟩:=h;refine qcl (qak n _ _ _ _ _ h5) [0] [] ?_;rintro _ _ ⟨rfl,rfl⟩;refine⟨pB x26,[.box 85 [pK x1,pI x27,pB x3],.box 47 [.p (.int .i64 (0:Int)),.p (.str ([]:SS)),.p (.int .i64 (0:Int)),pB false,.p (.int .i64 (0:Int)),.p (.str ([]:SS)),.p (.nilsl),.p (.nilsl),.p (.nilsl),.p (.nilsl)],.box 87 [pI x4,pS x5,pI x6,pI x7]],rfl,rfl,?_⟩;conv=>whnf
       refine ifc h (fun hc h=>?_) (fun hc h=>?_)
       ·obtain rfl:=sj h
        conv=>whnf
        refine⟨_,_,⟨rfl,rfl⟩,wk [0] []⟩
       ·conv=>whnf
        replace h:=qaa h;obtain⟨⟨x28,x29⟩,h6,h⟩:=h;refine qcl (qak n _ _ _ _ _ h6) [0] [] ?_;rintro _ _ ⟨rfl,rfl⟩;refine⟨pB x28,[.box 85 [pK x1,pI x29,pB x3],.box 47 [.p (.int .i64 (0:Int)),.p (.str ([]:SS)),.p (.int .i64 (0:Int)),pB false,.p (.int .i64 (0:Int)),.p (.str ([]:SS)),.p (.nilsl),.p (.nilsl),.p (.nilsl),.p (.nilsl)],.box 87 [pI x4,pS x5,pI x6,pI x7]],rfl,rfl,?_⟩;conv=>whnf
        refine ifc h (fun hc h=>?_) (fun hc h=>?_)
        ·conv=>whnf
         replace h:=qaa h;obtain⟨⟨x30,x31,x32⟩,h7,h⟩:=h;refine qcl (qgb n _ _ _ _ h7) [0] [] ?_;rintro _ _ ⟨rfl,rfl⟩;refine⟨pS x30,[.box 85 [pK x1,pI x31,pB x32],.box 47 [.p (.int .i64 (0:Int)),.p (.str ([]:SS)),.p (.int .i64 (0:Int)),pB false,.p (.int .i64 (0:Int)),.p (.str ([]:SS)),.p (.nilsl),.p (.nilsl),.p (.nilsl),.p (.nilsl)],.box 87 [pI x4,pS x5,pI x6,pI x7]],rfl,rfl,?_⟩;obtain rfl:=sj h;conv=>whnf
         refine⟨_,_,⟨rfl,rfl⟩,wk [0] []⟩
        ·conv=>whnf
         replace h:=qaa h;obtain⟨⟨x33,x34⟩,h8,h⟩:=h;refine qcl (qak n _ _ _ _ _ h8) [0] [] ?_;rintro _ _ ⟨rfl,rfl⟩;refine⟨pB x33,[.box 85 [pK x1,pI x34,pB x3],.box 47 [.p (.int .i64 (0:Int)),.p (.str ([]:SS)),.p (.int .i64 (0:Int)),pB false,.p (.int .i64 (0:Int)),.p (.str ([]:SS)),.p (.nilsl),.p (.nilsl),.p (.nilsl),.p (.nilsl)],.box 87 [pI x4,pS x5,pI x6,pI x7]],rfl,rfl,?_⟩;conv=>whnf
         refine ifc h (fun hc h=>?_) (fun hc h=>?_)
         ·conv=>whnf
          replace h:=qaa h;obtain⟨⟨⟨x35,x36,⟨x37,x38,x39,x40,x41,x42⟩,x43,x44⟩,x45,x46⟩,h9,h⟩:=h;refine qcl (g51_ok _ _ _ _ h9) [0] [] ?_;rintro _ _ ⟨rfl,rfl⟩;refine⟨.p (.agg [.int .i64 x35,.str x36,.int .i64 x37,.bool x38,.int .i64 x39,.str x40,.sl (Val.rows x41),.sl (qam x42),.sl (qam x43),.sl (qab.rows x44)]),[.box 85 [pK x1,pI x45,pB x46],.box 47 [.p (.int .i64 (0:Int)),.p (.str ([]:SS)),.p (.int .i64 (0:Int)),pB false,.p (.int .i64 (0:Int)),.p (.str ([]:SS)),.p (.nilsl),.p (.nilsl),.p (.nilsl),.p (.nilsl)],.box 87 [pI x4,pS x5,pI x6,pI x7]],rfl,rfl,?_⟩;conv=>whnf
          replace h:=qaa h;obtain⟨⟨x47,x48⟩,h10,h⟩:=h;refine qcl (qa7 n _ _ _ _ _ h10) [0] [] ?_;rintro _ _ ⟨rfl,rfl⟩;refine⟨.p (.tup []),[.box 85 [pK x1,pI x47,pB x48],.box 47 [.p (.int .i64 (0:Int)),.p (.str ([]:SS)),.p (.int .i64 (0:Int)),pB false,.p (.int .i64 (0:Int)),.p (.str ([]:SS)),.p (.nilsl),.p (.nilsl),.p (.nilsl),.p (.nilsl)],.box 87 [pI x4,pS x5,pI x6,pI x7],.box 47 [pI x35,pS x36,pI x37,pB x38,pI x39,pS x40,pV x41,pT x42,pT x43,pE x44]],rfl,rfl,?_⟩;obtain rfl:=sj h;conv=>whnf
          refine⟨_,_,⟨rfl,rfl⟩,wk [0] []⟩
         ·conv=>whnf
          replace h:=qaa h;obtain⟨⟨x49,x50⟩,h11,h⟩:=h;refine qcl (qak n _ _ _ _ _ h11) [0] [] ?_;rintro _ _ ⟨rfl,rfl⟩;refine⟨pB x49,[.box 85 [pK x1,pI x50,pB x3],.box 47 [.p (.int .i64 (0:Int)),.p (.str ([]:SS)),.p (.int .i64 (0:Int)),pB false,.p (.int .i64 (0:Int)),.p (.str ([]:SS)),.p (.nilsl),.p (.nilsl),.p (.nilsl),.p (.nilsl)],.box 87 [pI x4,pS x5,pI x6,pI x7]],rfl,rfl,?_⟩;conv=>whnf
          refine ifc h (fun hc h=>?_) (fun hc h=>?_)
          ·conv=>whnf
           replace h:=qaa h;obtain⟨⟨x51,x52,x53⟩,h12,h⟩:=h;refine qcl (g144_ok _ _ _ _ _ h12) [0] [] ?_;rintro _ _ ⟨rfl,rfl⟩;refine⟨pE x51,[.box 85 [pK x1,pI x52,pB x53],.box 47 [.p (.int .i64 (0:Int)),.p (.str ([]:SS)),.p (.int .i64 (0:Int)),pB false,.p (.int .i64 (0:Int)),.p (.str ([]:SS)),.p (.nilsl),.p (.nilsl),.p (.nilsl),.p (.nilsl)],.box 87 [pI x4,pS x5,pI x6,pI x7]],rfl,rfl,?_⟩;obtain rfl:=sj h;conv=>whnf
           refine⟨_,_,⟨rfl,rfl⟩,wk [0] []⟩
          ·conv=>whnf
           replace h:=qaa h;obtain⟨x54,h13,h⟩:=h;refine qcl (qdc n _ _ _ _ _ h13) [0] [] ?_;rintro _ _ ⟨rfl,rfl⟩;refine⟨pB x54,[.box 85 [pK x1,pI x50,pB x3],.box 47 [.p (.int .i64 (0:Int)),.p (.str ([]:SS)),.p (.int .i64 (0:Int)),pB false,.p (.int .i64 (0:Int)),.p (.str ([]:SS)),.p (.nilsl),.p (.nilsl),.p (.nilsl),.p (.nilsl)],.box 87 [pI x4,pS x5,pI x6,pI x7]],rfl,rfl,?_⟩;conv=>whnf
           refine ifc h (fun hc h=>?_) (fun hc h=>?_)
           ·conv=>whnf
            replace h:=qaa h;obtain⟨⟨x55,x56,x57,x58⟩,h14,h⟩:=h;refine qcl (g98_ok _ _ _ _ h14) [0] [] ?_;rintro _ _ ⟨rfl,rfl⟩;refine⟨.p (.tup [.sl (qam x55),.sl (qab.rows x56)]),[.box 85 [pK x1,pI x57,pB x58],.box 47 [.p (.int .i64 (0:Int)),.p (.str ([]:SS)),.p (.int .i64 (0:Int)),pB false,.p (.int .i64 (0:Int)),.p (.str ([]:SS)),.p (.nilsl),.p (.nilsl),.p (.nilsl),.p (.nilsl)],.box 87 [pI x4,pS x5,pI x6,pI x7]],rfl,rfl,?_⟩;obtain rfl:=sj h;conv=>whnf
            refine⟨_,_,⟨rfl,rfl⟩,wk [0] []⟩
           ·obtain rfl:=sj h
            conv=>whnf
            refine⟨_,_,⟨rfl,rfl⟩,wk [0] []⟩
theorem q3i (n:Nat) (g98:q33) (g51 g94:qfu) (g123 g128:qfu) (g136 g138:qfu) (g140 g141 g142:qfu) (g143:q34) (g144:q35) (g98_ok:zhd g98) (g51_ok:zhe g51) (g94_ok:zhf g94) (g123_ok:zhg g123) (g128_ok:zhh g128) (g136_ok:zhi g136) (g138_ok:zhj g138) (g140_ok:zhk g140) (g141_ok:zhl g141) (g142_ok:zhm g142) (g143_ok:q31 g143) (g144_ok:q32 g144):∀ (x1:SS) (x2:List qaj) (x3:Int) (x4:Bool) (r:qab×Int×Bool),qp4 n g98 g51 g94 g123 g128 g136 g138 g140 g141 g142 g143 g144 x1 x2 x3 x4=some r->qau Tryz.prog 143 [.ptr 0 0,.p (PV.str x1)] [.box 85 [pK x2,pI x3,pB x4]] 1 (fun v lo=>v=qt7 x2 x3 x4 r/\lo=qt3 x2 x3 x4 r):=by
 intro x1 x2 x3 x4 r h;unfold qp4 at h;refine qau.of_vc qa3 (fun _ _=>Tryz.call143 _ _) Tryz.func143 (by kernel_rfl) (inl:=[48,51,52,144,1000000]) (Nat.le_of_ble_eq_true rfl) ?_;conv=>whnf
 replace h:=qaa h;obtain⟨x5,h8,h⟩:=h;refine⟨_,(qp8 n _ _ h8),?_⟩;conv=>whnf
 refine ifc h (fun hc h=>?_) (fun hc h=>?_)
 ·conv=>whnf
  replace h:=qaa h;obtain⟨⟨x6,x7,x8⟩,h1,h⟩:=h;refine qcl (g144_ok _ _ _ _ _ h1) [0] [] ?_;rintro _ _ ⟨rfl,rfl⟩;refine⟨pE x6,[.box 85 [pK x2,pI x7,pB x8],.box 47 [.p (.int .i64 (0:Int)),.p (.str ([]:SS)),.p (.int .i64 (0:Int)),pB false,.p (.int .i64 (0:Int)),.p (.str ([]:SS)),.p (.nilsl),.p (.nilsl),.p (.nilsl),.p (.nilsl)]],rfl,rfl,?_⟩;obtain rfl:=sj h;conv=>whnf
  refine⟨_,_,⟨rfl,rfl⟩,wk [0] []⟩
 ·conv=>whnf
  refine⟨fun hg=>?_,fun hg=>?_⟩
  ·have h:=qy4 h hg
   conv=>whnf
   refine⟨id,?_⟩;conv=>whnf
   replace h:=qaa h;obtain⟨⟨x9,x10⟩,h2,h⟩:=h;refine qcl (qak n _ _ _ _ _ h2) [0] [] ?_;rintro _ _ ⟨rfl,rfl⟩;refine⟨pB x9,[.box 85 [pK x2,pI x10,pB x4],.box 47 [.p (.int .i64 (0:Int)),.p (.str ([]:SS)),.p (.int .i64 (0:Int)),pB false,.p (.int .i64 (0:Int)),.p (.str ([]:SS)),.p (.nilsl),.p (.nilsl),.p (.nilsl),.p (.nilsl)],.box 47 [.p (.int .i64 (14:Int)),pS x1,.p (.int .i64 (0:Int)),pB false,.p (.int .i64 (0:Int)),.p (.str ([]:SS)),.p (.nilsl),.p (.nilsl),.p (.nilsl),.p (.nilsl)]],rfl,rfl,?_⟩;conv=>whnf
   refine⟨id,?_⟩;conv=>whnf
   refine ifc h (fun hc h=>?_) (fun hc h=>?_)
   ·conv=>whnf
    replace h:=qaa h;obtain⟨⟨x11,x12⟩,h3,h⟩:=h;refine qcl (qa7 n _ _ _ _ _ h3) [0] [] ?_;rintro _ _ ⟨rfl,rfl⟩;refine⟨.p (.tup []),[.box 85 [pK x2,pI x11,pB x12],.box 47 [.p (.int .i64 (0:Int)),.p (.str ([]:SS)),.p (.int .i64 (0:Int)),pB false,.p (.int .i64 (0:Int)),.p (.str ([]:SS)),.p (.nilsl),.p (.nilsl),.p (.nilsl),.p (.nilsl)],.box 47 [.p (.int .i64 (14:Int)),pS x1,.p (.int .i64 (0:Int)),pB false,.p (.int .i64 (0:Int)),.p (.str ([]:SS)),.p (.nilsl),.p (.nilsl),.p (.nilsl),.p (.nilsl)]],rfl,rfl,?_⟩;obtain rfl:=sj h;conv=>whnf
    refine⟨_,_,⟨rfl,rfl⟩,wk [0] []⟩
   ·conv=>whnf
    replace h:=qaa h;obtain⟨⟨⟨x13,x14,⟨x15,x16,x17,x18,x19,x20⟩,x21,x22⟩,x23,x24⟩,h4,h⟩:=h;refine qcl (g51_ok _ _ _ _ h4) [0] [] ?_;rintro _ _ ⟨rfl,rfl⟩;refine⟨.p (.agg [.int .i64 x13,.str x14,.int .i64 x15,.bool x16,.int .i64 x17,.str x18,.sl (Val.rows x19),.sl (qam x20),.sl (qam x21),.sl (qab.rows x22)]),[.box 85 [pK x2,pI x23,pB x24],.box 47 [.p (.int .i64 (0:Int)),.p (.str ([]:SS)),.p (.int .i64 (0:Int)),pB false,.p (.int .i64 (0:Int)),.p (.str ([]:SS)),.p (.nilsl),.p (.nilsl),.p (.nilsl),.p (.nilsl)],.box 47 [.p (.int .i64 (14:Int)),pS x1,.p (.int .i64 (0:Int)),pB false,.p (.int .i64 (0:Int)),.p (.str ([]:SS)),.p (.nilsl),.p (.nilsl),.p (.nilsl),.p (.nilsl)]],rfl,rfl,?_⟩;conv=>whnf
    replace h:=qaa h;obtain⟨⟨x25,x26⟩,h5,h⟩:=h;refine qcl (qa7 n _ _ _ _ _ h5) [0] [] ?_;rintro _ _ ⟨rfl,rfl⟩;refine⟨.p (.tup []),[.box 85 [pK x2,pI x25,pB x26],.box 47 [.p (.int .i64 (0:Int)),.p (.str ([]:SS)),.p (.int .i64 (0:Int)),pB false,.p (.int .i64 (0:Int)),.p (.str ([]:SS)),.p (.nilsl),.p (.nilsl),.p (.nilsl),.p (.nilsl)],.box 47 [.p (.int .i64 (14:Int)),pS x1,.p (.int .i64 (0:Int)),pB false,.p (.int .i64 (0:Int)),.p (.str ([]:SS)),.p (.nilsl),.p (.nilsl),.p (.nilsl),.p (.nilsl)],.box 47 [pI x13,pS x14,pI x15,pB x16,pI x17,pS x18,pV x19,pT x20,pT x21,pE x22]],rfl,rfl,?_⟩;conv=>whnf
    refine⟨Codec.one qca [qab.mk x13 x14 (Val.mk x15 x16 x17 x18 x19 x20) x21 x22],qab.rows [qab.mk x13 x14 (Val.mk x15 x16 x17 x18 x19 x20) x21 x22],.inl rfl,?_⟩;obtain rfl:=sj h;conv=>whnf
    refine⟨_,_,⟨rfl,rfl⟩,wk [0] []⟩
  ·have h:=qy3 h hg
   refine⟨pB false,?_⟩;conv=>whnf
   refine⟨id,?_⟩;conv=>whnf
   refine⟨fun hf=>absurd hf (by first|decide|simp),fun _=>?_⟩;conv=>whnf
   replace h:=qaa h;obtain⟨⟨⟨x27,x28,⟨x29,x30,x31,x32,x33,x34⟩,x35,x36⟩,x37,x38⟩,h6,h⟩:=h;refine qcl (g51_ok _ _ _ _ h6) [0] [] ?_;rintro _ _ ⟨rfl,rfl⟩;refine⟨.p (.agg [.int .i64 x27,.str x28,.int .i64 x29,.bool x30,.int .i64 x31,.str x32,.sl (Val.rows x33),.sl (qam x34),.sl (qam x35),.sl (qab.rows x36)]),[.box 85 [pK x2,pI x37,pB x38],.box 47 [.p (.int .i64 (0:Int)),.p (.str ([]:SS)),.p (.int .i64 (0:Int)),pB false,.p (.int .i64 (0:Int)),.p (.str ([]:SS)),.p (.nilsl),.p (.nilsl),.p (.nilsl),.p (.nilsl)],.box 47 [.p (.int .i64 (14:Int)),pS x1,.p (.int .i64 (0:Int)),pB false,.p (.int .i64 (0:Int)),.p (.str ([]:SS)),.p (.nilsl),.p (.nilsl),.p (.nilsl),.p (.nilsl)]],rfl,rfl,?_⟩;conv=>whnf
   replace h:=qaa h;obtain⟨⟨x39,x40⟩,h7,h⟩:=h;refine qcl (qa7 n _ _ _ _ _ h7) [0] [] ?_;rintro _ _ ⟨rfl,rfl⟩;refine⟨.p (.tup []),[.box 85 [pK x2,pI x39,pB x40],.box 47 [.p (.int .i64 (0:Int)),.p (.str ([]:SS)),.p (.int .i64 (0:Int)),pB false,.p (.int .i64 (0:Int)),.p (.str ([]:SS)),.p (.nilsl),.p (.nilsl),.p (.nilsl),.p (.nilsl)],.box 47 [.p (.int .i64 (14:Int)),pS x1,.p (.int .i64 (0:Int)),pB false,.p (.int .i64 (0:Int)),.p (.str ([]:SS)),.p (.nilsl),.p (.nilsl),.p (.nilsl),.p (.nilsl)],.box 47 [pI x27,pS x28,pI x29,pB x30,pI x31,pS x32,pV x33,pT x34,pT x35,pE x36]],rfl,rfl,?_⟩;conv=>whnf
   refine⟨Codec.one qca [qab.mk x27 x28 (Val.mk x29 x30 x31 x32 x33 x34) x35 x36],qab.rows [qab.mk x27 x28 (Val.mk x29 x30 x31 x32 x33 x34) x35 x36],.inl rfl,?_⟩;obtain rfl:=sj h;conv=>whnf
   refine⟨_,_,⟨rfl,rfl⟩,wk [0] []⟩
theorem q3j (n:Nat) (g98:q33) (g51 g94:qfu) (g123 g128:qfu) (g136 g138:qfu) (g140 g141 g142:qfu) (g143:q34) (g144:q35) (g98_ok:zhd g98) (g51_ok:zhe g51) (g94_ok:zhf g94) (g123_ok:zhg g123) (g128_ok:zhh g128) (g136_ok:zhi g136) (g138_ok:zhj g138) (g140_ok:zhk g140) (g141_ok:zhl g141) (g142_ok:zhm g142) (g143_ok:q31 g143) (g144_ok:q32 g144):∀ (x1:SS) (x2:List qaj) (x3:Int) (x4:Bool) (r:(List qab)×Int×Bool),qp5 n g98 g51 g94 g123 g128 g136 g138 g140 g141 g142 g143 g144 x1 x2 x3 x4=some r->qau Tryz.prog 144 [.ptr 0 0,.p (PV.str x1)] [.box 85 [pK x2,pI x3,pB x4]] 1 (fun v lo=>v=qt8 x2 x3 x4 r/\lo=qt4 x2 x3 x4 r):=by
 intro x1 x2 x3 x4 r h;unfold qp5 at h;refine qau.of_vc qa3 (fun _ _=>Tryz.call144 _ _) Tryz.func144 (by kernel_rfl) (inl:=[48,51,52,1000000]) (Nat.le_of_ble_eq_true rfl) ?_;conv=>whnf
 replace h:=qaa h;obtain⟨⟨x5,x6⟩,h1,h⟩:=h;refine qcl (qak n _ _ _ _ _ h1) [0] [] ?_;rintro _ _ ⟨rfl,rfl⟩;refine⟨pB x5,[.box 85 [pK x2,pI x6,pB x4]],rfl,rfl,?_⟩;conv=>whnf
 refine ifc h (fun hc h=>?_) (fun hc h=>?_)
 ·obtain rfl:=sj h
  conv=>whnf
  refine⟨_,_,⟨rfl,rfl⟩,wk [0] []⟩
 ·conv=>whnf
  refine qby.fn [48,51,52,1000000] (S:=List qab×Int×Bool) (fun(x7,x8,x9)=>[(0,.ptr 0 0),(1,pS x1),(5,.tsl 1 (qab.rows x7))]) (fun(x7,x8,x9)=>[.box 85 [pK x2,pI x8,pB x9],.tail 47 10 (qab.rows x7).length]) (B:=qju n g51 x2 x1) h (wk [0,0] [1]) ?_;intro nx1 st h;obtain⟨x7,x8,x9⟩:=st;unfold qju at h;conv=>whnf
  replace h:=qaa h;obtain⟨⟨⟨x10,x11,⟨x12,x13,x14,x15,x16,x17⟩,x18,x19⟩,x20,x21⟩,h2,h⟩:=h;refine qcl (g51_ok _ _ _ _ h2) [0] [] ?_;rintro _ _ ⟨rfl,rfl⟩;refine⟨.p (.agg [.int .i64 x10,.str x11,.int .i64 x12,.bool x13,.int .i64 x14,.str x15,.sl (Val.rows x16),.sl (qam x17),.sl (qam x18),.sl (qab.rows x19)]),[.box 85 [pK x2,pI x20,pB x21],.tail 47 10 (qab.rows x7).length],rfl,rfl,?_⟩;conv=>whnf
  refine⟨Codec.one qca [qab.mk x10 x11 (Val.mk x12 x13 x14 x15 x16 x17) x18 x19],qab.rows [qab.mk x10 x11 (Val.mk x12 x13 x14 x15 x16 x17) x18 x19],.inl rfl,?_⟩;conv=>whnf
  rw[show qab.rows x7++qab.rows [qab.mk x10 x11 (Val.mk x12 x13 x14 x15 x16 x17) x18 x19]=qab.rows (x7++[qab.mk x10 x11 (Val.mk x12 x13 x14 x15 x16 x17) x18 x19])from Codec.append qca x7 [qab.mk x10 x11 (Val.mk x12 x13 x14 x15 x16 x17) x18 x19]];conv=>whnf
  obtain⟨h5,h⟩:=qaw h;refine⟨⟨Codec.wide qca (x7++[qab.mk x10 x11 (Val.mk x12 x13 x14 x15 x16 x17) x18 x19]),of_decide_eq_true h5,qdx h5 (by decide)⟩,?_⟩;conv=>whnf
  refine⟨⟨rfl,rfl,rfl⟩,?_⟩;conv=>whnf
  replace h:=qaa h;obtain⟨⟨x22,x23⟩,h3,h⟩:=h;refine qcl (qak n _ _ _ _ _ h3) [0] [] ?_;rintro _ _ ⟨rfl,rfl⟩;refine⟨pB x22,[.box 85 [pK x2,pI x23,pB x21],.dead,.box 47 [pI x10,pS x11,pI x12,pB x13,pI x14,pS x15,pV x16,pT x17,pT x18,pE x19],.tail 47 10 (qab.rows (x7++[qab.mk x10 x11 (Val.mk x12 x13 x14 x15 x16 x17) x18 x19])).length],rfl,rfl,?_⟩;conv=>whnf
  refine ifc h (fun hc h=>?_) (fun hc h=>?_)
  ·conv=>whnf
   replace h:=qaa h;obtain⟨⟨x24,x25⟩,h4,h⟩:=h;refine qcl (qa7 n _ _ _ _ _ h4) [0] [] ?_;rintro _ _ ⟨rfl,rfl⟩;refine⟨.p (.tup []),[.box 85 [pK x2,pI x24,pB x25],.dead,.box 47 [pI x10,pS x11,pI x12,pB x13,pI x14,pS x15,pV x16,pT x17,pT x18,pE x19],.tail 47 10 (qab.rows (x7++[qab.mk x10 x11 (Val.mk x12 x13 x14 x15 x16 x17) x18 x19])).length],rfl,rfl,?_⟩;obtain rfl:=sj h;conv=>whnf
   refine⟨_,_,⟨rfl,rfl⟩,wk [0] []⟩
  ·conv=>whnf
   exact⟨((x7++[qab.mk x10 x11 (Val.mk x12 x13 x14 x15 x16 x17) x18 x19]),x23,x21),h,wk [0,3] []⟩
mutual
def qa4:Nat->(List qaj)->Int->Bool->Option ((List SS)×(List qab)×Int×Bool)
 | 0=>fun _ _ _=>none
 | n+1=>qoe n (qa4 n) (qbb n) (qcj n) (qcg n) (qch n) (qb3 n) (qci n) (qa8 n) (qbk n) (qb0 n) (qb1 n) (qb2 n)
def qbb:Nat->(List qaj)->Int->Bool->Option (qab×Int×Bool)
 | 0=>fun _ _ _=>none
 | n+1=>qp3 n (qa4 n) (qbb n) (qcj n) (qcg n) (qch n) (qb3 n) (qci n) (qa8 n) (qbk n) (qb0 n) (qb1 n) (qb2 n)
def qcj:Nat->(List qaj)->Int->Bool->Option (qab×Int×Bool)
 | 0=>fun _ _ _=>none
 | n+1=>qrn n (qa4 n) (qbb n) (qcj n) (qcg n) (qch n) (qb3 n) (qci n) (qa8 n) (qbk n) (qb0 n) (qb1 n) (qb2 n)
def qcg:Nat->(List qaj)->Int->Bool->Option (qab×Int×Bool)
 | 0=>fun _ _ _=>none
 | n+1=>qrl n (qa4 n) (qbb n) (qcj n) (qcg n) (qch n) (qb3 n) (qci n) (qa8 n) (qbk n) (qb0 n) (qb1 n) (qb2 n)
def qch:Nat->(List qaj)->Int->Bool->Option (qab×Int×Bool)
 | 0=>fun _ _ _=>none
 | n+1=>qpe n (qa4 n) (qbb n) (qcj n) (qcg n) (qch n) (qb3 n) (qci n) (qa8 n) (qbk n) (qb0 n) (qb1 n) (qb2 n)
def qb3:Nat->(List qaj)->Int->Bool->Option (qab×Int×Bool)
 | 0=>fun _ _ _=>none
 | n+1=>qko n (qa4 n) (qbb n) (qcj n) (qcg n) (qch n) (qb3 n) (qci n) (qa8 n) (qbk n) (qb0 n) (qb1 n) (qb2 n)
def qci:Nat->(List qaj)->Int->Bool->Option (qab×Int×Bool)
 | 0=>fun _ _ _=>none
 | n+1=>qrm n (qa4 n) (qbb n) (qcj n) (qcg n) (qch n) (qb3 n) (qci n) (qa8 n) (qbk n) (qb0 n) (qb1 n) (qb2 n)
def qa8:Nat->(List qaj)->Int->Bool->Option (qab×Int×Bool)
 | 0=>fun _ _ _=>none
 | n+1=>qk6 n (qa4 n) (qbb n) (qcj n) (qcg n) (qch n) (qb3 n) (qci n) (qa8 n) (qbk n) (qb0 n) (qb1 n) (qb2 n)
def qbk:Nat->(List qaj)->Int->Bool->Option (qab×Int×Bool)
 | 0=>fun _ _ _=>none
 | n+1=>qlf n (qa4 n) (qbb n) (qcj n) (qcg n) (qch n) (qb3 n) (qci n) (qa8 n) (qbk n) (qb0 n) (qb1 n) (qb2 n)
def qb0:Nat->(List qaj)->Int->Bool->Option (qab×Int×Bool)
 | 0=>fun _ _ _=>none
 | n+1=>qm9 n (qa4 n) (qbb n) (qcj n) (qcg n) (qch n) (qb3 n) (qci n) (qa8 n) (qbk n) (qb0 n) (qb1 n) (qb2 n)
def qb1:Nat->SS->(List qaj)->Int->Bool->Option (qab×Int×Bool)
 | 0=>fun _ _ _ _=>none
 | n+1=>qp4 n (qa4 n) (qbb n) (qcj n) (qcg n) (qch n) (qb3 n) (qci n) (qa8 n) (qbk n) (qb0 n) (qb1 n) (qb2 n)
def qb2:Nat->SS->(List qaj)->Int->Bool->Option ((List qab)×Int×Bool)
 | 0=>fun _ _ _ _=>none
 | n+1=>qp5 n (qa4 n) (qbb n) (qcj n) (qcg n) (qch n) (qb3 n) (qci n) (qa8 n) (qbk n) (qb0 n) (qb1 n) (qb2 n)
end
theorem qul (n:Nat):(∀ (x1:List qaj) (x2:Int) (x3:Bool) (r:(List SS)×(List qab)×Int×Bool),qa4 n x1 x2 x3=some r->qau Tryz.prog 98 [.ptr 0 0] [.box 85 [pK x1,pI x2,pB x3]] 1 (fun v lo=>v=qqf x1 x2 x3 r/\lo=qqe x1 x2 x3 r))/\(∀ (x1:List qaj) (x2:Int) (x3:Bool) (r:qab×Int×Bool),qbb n x1 x2 x3=some r->qau Tryz.prog 51 [.ptr 0 0] [.box 85 [pK x1,pI x2,pB x3]] 1 (fun v lo=>v=qrf x1 x2 x3 r/\lo=qre x1 x2 x3 r))/\(∀ (x1:List qaj) (x2:Int) (x3:Bool) (r:qab×Int×Bool),qcj n x1 x2 x3=some r->qau Tryz.prog 94 [.ptr 0 0] [.box 85 [pK x1,pI x2,pB x3]] 1 (fun v lo=>v=qve x1 x2 x3 r/\lo=qu9 x1 x2 x3 r))/\(∀ (x1:List qaj) (x2:Int) (x3:Bool) (r:qab×Int×Bool),qcg n x1 x2 x3=some r->qau Tryz.prog 123 [.ptr 0 0] [.box 85 [pK x1,pI x2,pB x3]] 1 (fun v lo=>v=qvb x1 x2 x3 r/\lo=qu6 x1 x2 x3 r))/\(∀ (x1:List qaj) (x2:Int) (x3:Bool) (r:qab×Int×Bool),qch n x1 x2 x3=some r->qau Tryz.prog 128 [.ptr 0 0] [.box 85 [pK x1,pI x2,pB x3]] 1 (fun v lo=>v=qvc x1 x2 x3 r/\lo=qu7 x1 x2 x3 r))/\(∀ (x1:List qaj) (x2:Int) (x3:Bool) (r:qab×Int×Bool),qb3 n x1 x2 x3=some r->qau Tryz.prog 136 [.ptr 0 0] [.box 85 [pK x1,pI x2,pB x3]] 1 (fun v lo=>v=qt9 x1 x2 x3 r/\lo=qt5 x1 x2 x3 r))/\(∀ (x1:List qaj) (x2:Int) (x3:Bool) (r:qab×Int×Bool),qci n x1 x2 x3=some r->qau Tryz.prog 138 [.ptr 0 0] [.box 85 [pK x1,pI x2,pB x3]] 1 (fun v lo=>v=qvd x1 x2 x3 r/\lo=qu8 x1 x2 x3 r))/\(∀ (x1:List qaj) (x2:Int) (x3:Bool) (r:qab×Int×Bool),qa8 n x1 x2 x3=some r->qau Tryz.prog 140 [.ptr 0 0] [.box 85 [pK x1,pI x2,pB x3]] 1 (fun v lo=>v=qq6 x1 x2 x3 r/\lo=qq5 x1 x2 x3 r))/\(∀ (x1:List qaj) (x2:Int) (x3:Bool) (r:qab×Int×Bool),qbk n x1 x2 x3=some r->qau Tryz.prog 141 [.ptr 0 0] [.box 85 [pK x1,pI x2,pB x3]] 1 (fun v lo=>v=qs5 x1 x2 x3 r/\lo=qs4 x1 x2 x3 r))/\(∀ (x1:List qaj) (x2:Int) (x3:Bool) (r:qab×Int×Bool),qb0 n x1 x2 x3=some r->qau Tryz.prog 142 [.ptr 0 0] [.box 85 [pK x1,pI x2,pB x3]] 1 (fun v lo=>v=qt6 x1 x2 x3 r/\lo=qt2 x1 x2 x3 r))/\(∀ (x1:SS) (x2:List qaj) (x3:Int) (x4:Bool) (r:qab×Int×Bool),qb1 n x1 x2 x3 x4=some r->qau Tryz.prog 143 [.ptr 0 0,.p (PV.str x1)] [.box 85 [pK x2,pI x3,pB x4]] 1 (fun v lo=>v=qt7 x2 x3 x4 r/\lo=qt3 x2 x3 x4 r))/\(∀ (x1:SS) (x2:List qaj) (x3:Int) (x4:Bool) (r:(List qab)×Int×Bool),qb2 n x1 x2 x3 x4=some r->qau Tryz.prog 144 [.ptr 0 0,.p (PV.str x1)] [.box 85 [pK x2,pI x3,pB x4]] 1 (fun v lo=>v=qt8 x2 x3 x4 r/\lo=qt4 x2 x3 x4 r)):=by
 induction n with
 | zero=>exact⟨(by intros; rename_i h; cases h),(by intros; rename_i h; cases h),(by intros; rename_i h; cases h),(by intros; rename_i h; cases h),(by intros; rename_i h; cases h),(by intros; rename_i h; cases h),(by intros; rename_i h; cases h),(by intros; rename_i h; cases h),(by intros; rename_i h; cases h),(by intros; rename_i h; cases h),(by intros; rename_i h; cases h),(by intros; rename_i h; cases h)⟩
 | succ n ih=>
  obtain⟨h0,h1,h2,h3,h4,h5,h6,h7,h8,h9,h10,h11⟩:=ih;exact⟨q1v n (qa4 n) (qbb n) (qcj n) (qcg n) (qch n) (qb3 n) (qci n) (qa8 n) (qbk n) (qb0 n) (qb1 n) (qb2 n) h0 h1 h2 h3 h4 h5 h6 h7 h8 h9 h10 h11,q3g n (qa4 n) (qbb n) (qcj n) (qcg n) (qch n) (qb3 n) (qci n) (qa8 n) (qbk n) (qb0 n) (qb1 n) (qb2 n) h0 h1 h2 h3 h4 h5 h6 h7 h8 h9 h10 h11,q40 n (qa4 n) (qbb n) (qcj n) (qcg n) (qch n) (qb3 n) (qci n) (qa8 n) (qbk n) (qb0 n) (qb1 n) (qb2 n) h0 h1 h2 h3 h4 h5 h6 h7 h8 h9 h10 h11,q4x n (qa4 n) (qbb n) (qcj n) (qcg n) (qch n) (qb3 n) (qci n) (qa8 n) (qbk n) (qb0 n) (qb1 n) (qb2 n) h0 h1 h2 h3 h4 h5 h6 h7 h8 h9 h10 h11,q4y n (qa4 n) (qbb n) (qcj n) (qcg n) (qch n) (qb3 n) (qci n) (qa8 n) (qbk n) (qb0 n) (qb1 n) (qb2 n) h0 h1 h2 h3 h4 h5 h6 h7 h8 h9 h10 h11,q3k n (qa4 n) (qbb n) (qcj n) (qcg n) (qch n) (qb3 n) (qci n) (qa8 n) (qbk n) (qb0 n) (qb1 n) (qb2 n) h0 h1 h2 h3 h4 h5 h6 h7 h8 h9 h10 h11,q4z n (qa4 n) (qbb n) (qcj n) (qcg n) (qch n) (qb3 n) (qci n) (qa8 n) (qbk n) (qb0 n) (qb1 n) (qb2 n) h0 h1 h2 h3 h4 h5 h6 h7 h8 h9 h10 h11,qzb n (qa4 n) (qbb n) (qcj n) (qcg n) (qch n) (qb3 n) (qci n) (qa8 n) (qbk n) (qb0 n) (qb1 n) (qb2 n) h0 h1 h2 h3 h4 h5 h6 h7 h8 h9 h10 h11,q1u n (qa4 n) (qbb n) (qcj n) (qcg n) (qch n) (qb3 n) (qci n) (qa8 n) (qbk n) (qb0 n) (qb1 n) (qb2 n) h0 h1 h2 h3 h4 h5 h6 h7 h8 h9 h10 h11,q3h n (qa4 n) (qbb n) (qcj n) (qcg n) (qch n) (qb3 n) (qci n) (qa8 n) (qbk n) (qb0 n) (qb1 n) (qb2 n) h0 h1 h2 h3 h4 h5 h6 h7 h8 h9 h10 h11,q3i n (qa4 n) (qbb n) (qcj n) (qcg n) (qch n) (qb3 n) (qci n) (qa8 n) (qbk n) (qb0 n) (qb1 n) (qb2 n) h0 h1 h2 h3 h4 h5 h6 h7 h8 h9 h10 h11,q3j n (qa4 n) (qbb n) (qcj n) (qcg n) (qch n) (qb3 n) (qci n) (qa8 n) (qbk n) (qb0 n) (qb1 n) (qb2 n) h0 h1 h2 h3 h4 h5 h6 h7 h8 h9 h10 h11⟩
theorem qr6 (n:Nat):∀ (x1:List qaj) (x2:Int) (x3:Bool) (r:(List SS)×(List qab)×Int×Bool),qa4 n x1 x2 x3=some r->qau Tryz.prog 98 [.ptr 0 0] [.box 85 [pK x1,pI x2,pB x3]] 1 (fun v lo=>v=qqf x1 x2 x3 r/\lo=qqe x1 x2 x3 r):=(qul n).1
theorem qmt (n:Nat):∀ (x1:List qaj) (x2:Int) (x3:Bool) (r:qab×Int×Bool),qbb n x1 x2 x3=some r->qau Tryz.prog 51 [.ptr 0 0] [.box 85 [pK x1,pI x2,pB x3]] 1 (fun v lo=>v=qrf x1 x2 x3 r/\lo=qre x1 x2 x3 r):=(qul n).2.1
end W
end
