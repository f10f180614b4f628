/- A part of the proof: contracts, printed by program. -/
import Derived.Test.YtneaemdbncgcdaaGreatB
import Derived.Test.YtneaemdbncgcdaaGreatC
import Derived.Test.YtneaemdbncgcdaaGreatF
import Derived.Test.YtneaemdbncgcdaaGreatG
import Derived.Test.YtneaemdbncgcdaaGreatH
set_option linter.unusedVariables false
set_option linter.unusedSimpArgs false
set_option linter.unnecessarySimpa false
set_option linter.deprecated false
set_option linter.unusedSectionVars false
set_option linter.constructorNameAsVariable false
section
set_option maxRecDepth 100000
open Go Go.Proofs Ax
namespace W
abbrev zov:Type:=qa6→qab→Option (Int×Int)
def qpp (n:Nat) (x3:List qab) (g86:zov) (x1:List SS) (x2:List Int) (x4:Int):(Int→Option (Int))→Int→Option (Int):=fun nx1 x5=>
 bif(decide (x5<((qab.rows x3).length:Int)))then(
 bnd (idx x3 x5) fun⟨x6,x7,⟨x8,x9,x10,x11,x12,x13⟩,x14,x15⟩=>
 bnd (g86 (qa6.mk x1 x2) (qab.mk x6 x7 (Val.mk x8 x9 x10 x11 x12 x13) x14 x15)) fun⟨x16,x17⟩=>
 bif(x17 != 0)then(
 some x17)
 else(
 bif(bif(decide (x4>0))then(x16 != x4)else false)then(
 some (3:Int))
 else(
 nx1 (IntKind.i64.wrap (x5+1)))))
 else(
 some (0:Int))
abbrev zo6:Type:=qa6→(List qab)→Int→Option (Int)
def qxj (n:Nat) (g43:zo6) (g86:zov) (a0z:qa6) (x3:List qab) (x4:Int):Option (Int):=
 match a0z with
 | ⟨x1,x2⟩=>
 qap (qpp n x3 g86 x1 x2 x4) n (0:Int)
def qeu (n:Nat):Int→Option (Int×Int):=fun x13=>
 some ((3:Int),x13)
def qnr (n:Nat) (g43:zo6) (x1:List SS) (x2:List Int) (x12:List qab) (x3:Int) (x4:SS) (g86:zov) (x11:List SS):Bool→Option (Int×Int):=fun x19=>
 bif x19 then(
 bnd (g43 (qa6.mk x1 x2) x12 (0:Int)) fun x20=>
 qeu n x20)
 else(
 bif(x3==15)then(
 bnd (g43 (qa6.mk x1 x2) x12 (1:Int)) fun x21=>
 qeu n x21)
 else(
 bif(x3==10)then(
 bif(bif(x4==([61]:SS))then true else(x4==([60,62]:SS)))then(
 bnd (g43 (qa6.mk x1 x2) x12 (0:Int)) fun x22=>
 bif(x22==0)then(
 bnd (idx x12 (0:Int)) fun⟨x23,x24,⟨x25,x26,x27,x28,x29,x30⟩,x31,x32⟩=>
 bnd (g86 (qa6.mk x1 x2) (qab.mk x23 x24 (Val.mk x25 x26 x27 x28 x29 x30) x31 x32)) fun⟨x33,x34⟩=>
 bnd (idx x12 (1:Int)) fun⟨x35,x36,⟨x37,x38,x39,x40,x41,x42⟩,x43,x44⟩=>
 bnd (g86 (qa6.mk x1 x2) (qab.mk x35 x36 (Val.mk x37 x38 x39 x40 x41 x42) x43 x44)) fun⟨x45,x46⟩=>
 bif(x33 != x45)then(
 qeu n (3:Int))
 else(
 qeu n x22))
 else(
 qeu n x22))
 else(
 bnd (g43 (qa6.mk x1 x2) x12 (3:Int)) fun x47=>
 qeu n x47))
 else(
 bnd (g43 (qa6.mk x1 x2) x12 (3:Int)) fun x48=>
 bnd (qa5 (x48==0) (qq1 n x11)) fun x49=>
 bif(bif(x48==0)then x49 else false)then(
 qeu n (2:Int))
 else(
 qeu n x48))))
def qu2 (n:Nat) (g43:zo6) (g86:zov) (a0z:qa6) (a1z:qab):Option (Int×Int):=
 match a0z,a1z with
 | ⟨x1,x2⟩,⟨x3,x4,⟨x5,x6,x7,x8,x9,x10⟩,x11,x12⟩=>
 bif(x3==2)then(
 bnd (qd2 n (qa6.mk x1 x2) x4) fun x14=>
 bif(x14==0)then(
 some ((0:Int),(2:Int)))
 else(
 some (x14,(0:Int))))
 else(
 bif(x3==14)then(
 some ((0:Int),(2:Int)))
 else(
 bif(x3==13)then(
 bnd (qum n x4) fun⟨x15,x16,x17⟩=>
 bif(bif(decide (((qab.rows x12).length:Int)<x15))then true else(decide (((qab.rows x12).length:Int)>x16)))then(
 some ((0:Int),(2:Int)))
 else(
 bnd (g43 (qa6.mk x1 x2) x12 x17) fun x18=>
 qeu n x18))
 else(
 bif(x3==4)then(
 qnr n g43 x1 x2 x12 x3 x4 g86 x11 (x3==4))
 else(
 bif(x3==11)then(
 qnr n g43 x1 x2 x12 x3 x4 g86 x11 (x3==11))
 else(
 qnr n g43 x1 x2 x12 x3 x4 g86 x11 (x3==12))))))
mutual
def qgd:Nat→qa6→(List qab)→Int→Option (Int)
 | 0=>fun _ _ _=>none
 | n+1=>qxj n (qgd n) (qly n)
def qly:Nat→qa6→qab→Option (Int×Int)
 | 0=>fun _ _=>none
 | n+1=>qu2 n (qgd n) (qly n)
end
def qol (n:Nat):Int→Option (Int):=fun x6=>
 some x6
def qq2 (n:Nat) (a0z:qa6) (x3:List SS) (x4:List qab):Option (Int):=
 match a0z with
 | ⟨x1,x2⟩=>
 bnd (qgd n (qa6.mk x1 x2) x4 (3:Int)) fun x5=>
 bnd (qa5 (x5==0) (qq1 n x3)) fun x7=>
 bif(bif(x5==0)then x7 else false)then(
 qol n (2:Int))
 else(
 qol n x5)
def qhj (n:Nat) (a0z:qa6) (x3:SS) (x4:Int):Option (qa6):=
 match a0z with
 | ⟨x1,x2⟩=>
 bnd (qa5 (!(x3==([]:SS))) (qd2 n (qa6.mk x1 x2) x3)) fun x5=>
 bif(bif(x3==([]:SS))then true else(decide (x5>0)))then(
 some (qa6.mk x1 x2))
 else(
 chk (decide ((qam x1).length * 16≤140737488355328)) (
 chk (decide ((qbp .i64 x2).length * 8≤140737488355328)) (
 chk (decide ((qam (x1++[x3])).length * 16≤140737488355328)) (
 chk (decide ((qbp .i64 (x2++[x4])).length * 8≤140737488355328)) (
 some (qa6.mk (x1++[x3]) (x2++[x4])))))))
def qkd (n:Nat) (x13:List SS) (x14:List Int) (x4:Bool) (x18 x19 x1:List SS) (x2:List Int) (x20:List qab) (x17:SS) (nx2:Int×List SS×List Int→Option (qa6×Int)) (x8:Int):Int→Option (qa6×Int):=fun x21=>
 bif(decide (x21>1))then(
 some (qa6.mk x13 x14,(3:Int)))
 else(
 bif(bif(bif(x21==1)then x4 else false)then(decide ((IntKind.i64.wrap (((qam x18).length:Int)+((qam x19).length:Int)))>0))else false)then(
 some (qa6.mk x13 x14,(2:Int)))
 else(
 bnd (qq2 n (qa6.mk x1 x2) x19 x20) fun x22=>
 bif(x22 != 0)then(
 some (qa6.mk x13 x14,x22))
 else(
 bnd (qhj n (qa6.mk x13 x14) x17 (1:Int)) fun⟨x23,x24⟩=>
 nx2 ((IntKind.i64.wrap (x8+1)),x23,x24))))
def qkc (n:Nat) (x3:List qa9) (x5 x8:Int) (x4:Bool) (x1:List SS) (x2:List Int) (nx2:Int×List SS×List Int→Option (qa6×Int)):List SS×List Int→Option (qa6×Int):=fun(x13,x14)=>
 bnd (idx x3 x5) fun⟨x15,x16⟩=>
 bnd (idx x15 x8) fun⟨x17,x18,x19,x20⟩=>
 bif(!(x17==([]:SS)))then(
 bnd (qd2 n (qa6.mk x13 x14) x17) fun x25=>
 qkd n x13 x14 x4 x18 x19 x1 x2 x20 x17 nx2 x8 x25)
 else(
 qkd n x13 x14 x4 x18 x19 x1 x2 x20 x17 nx2 x8 (0:Int))
def qjd (n:Nat) (x3:List qa9) (x5:Int) (x4:Bool) (x1:List SS) (x2:List Int) (nx1:Int×List SS×List Int→Option (qa6×Int)):(Int×List SS×List Int→Option (qa6×Int))→Int×List SS×List Int→Option (qa6×Int):=fun nx2 (x8,x9,x10)=>
 bnd (idx x3 x5) fun⟨x11,x12⟩=>
 bif(decide (x8<((qaf.rows x11).length:Int)))then(
 bif(decide (x8>0))then(
 bnd (idx x3 x5) fun⟨x26,x27⟩=>
 bnd (idx x27 (IntKind.i64.wrap (x8 - 1))) fun⟨x28,x29,x30,x31,x32⟩=>
 bnd (qa5 (!(x28==([]:SS))) (qd2 n (qa6.mk x9 x10) x28)) fun x33=>
 bif(bif(bif(!(x28==([]:SS)))then(decide (x33>0))else false)then true else(bif x4 then(bif(x29==([]:SS))then true else(x30==2))else false))then(
 some (qa6.mk x9 x10,(2:Int)))
 else(
 bnd (qq2 n (qa6.mk x1 x2) x31 x32) fun x34=>
 bif(x34 != 0)then(
 some (qa6.mk x9 x10,x34))
 else(
 bnd (qhj n (qa6.mk x9 x10) x28 (2:Int)) fun⟨x35,x36⟩=>
 qkc n x3 x5 x8 x4 x1 x2 nx2 (x35,x36))))
 else(
 qkc n x3 x5 x8 x4 x1 x2 nx2 (x9,x10)))
 else(
 nx1 ((IntKind.i64.wrap (x5+1)),x9,x10))
def qlz (n:Nat) (x3:List qa9) (x4:Bool) (x1:List SS) (x2:List Int):(Int×List SS×List Int→Option (qa6×Int))→Int×List SS×List Int→Option (qa6×Int):=fun nx1 (x5,x6,x7)=>
 bif(decide (x5<((qa9.rows x3).length:Int)))then(
 qap (qjd n x3 x5 x4 x1 x2 nx1) n ((0:Int),x6,x7))
 else(
 some (qa6.mk x6 x7,(0:Int)))
def qo9 (n:Nat) (a0z:qa6) (x3:List qa9) (x4:Bool):Option (qa6×Int):=
 match a0z with
 | ⟨x1,x2⟩=>
 qap (qlz n x3 x4 x1 x2) n ((0:Int),x1,x2)
def qns (n:Nat) (x26:List SS) (x27:List Int) (x3:Int) (x17:List qbh) (x25:Int) (nx1:Int×List SS×List Int→Option (qa6×Int)):Int×Int→Option (qa6×Int):=fun(x39,x40)=>
 bif(x40 != 0)then(
 some (qa6.mk x26 x27,x40))
 else(
 bif(bif(x3==9)then(x39 != 3)else false)then(
 some (qa6.mk x26 x27,(3:Int)))
 else(
 bnd (idx x17 x25) fun⟨⟨x41,x42,⟨x43,x44,x45,x46,x47,x48⟩,x49,x50⟩,x51⟩=>
 bnd (qd2 n (qa6.mk x26 x27) x51) fun x52=>
 bif(decide (x52>0))then(
 some (qa6.mk x26 x27,(2:Int)))
 else(
 bnd (idx x17 x25) fun⟨⟨x53,x54,⟨x55,x56,x57,x58,x59,x60⟩,x61,x62⟩,x63⟩=>
 bnd (qhj n (qa6.mk x26 x27) x63 x39) fun⟨x64,x65⟩=>
 nx1 ((IntKind.i64.wrap (x25+1)),x64,x65))))
def qqc (n:Nat) (x1:List SS) (x2:List Int) (x37:List qab) (x26:List SS) (x27:List Int) (x3:Int) (x17:List qbh) (x25:Int) (nx1:Int×List SS×List Int→Option (qa6×Int)):Int→Option (qa6×Int):=fun x66=>
 bnd (qgd n (qa6.mk x1 x2) x37 x66) fun x67=>
 qns n x26 x27 x3 x17 x25 nx1 ((3:Int),x67)
def qon (n:Nat) (x26:List SS) (x27:List Int):Int→Option (qa6×Int):=fun x85=>
 some (qa6.mk x26 x27,x85)
def qom (n:Nat) (x26:List SS) (x27:List Int) (x5:List qab):Int→Option (qa6×Int):=fun x84=>
 bif(x84==0)then(
 bnd (qgd n (qa6.mk x26 x27) x5 (3:Int)) fun x86=>
 qon n x26 x27 x86)
 else(
 qon n x26 x27 x84)
def qin (n:Nat) (x19:List qar) (x26:List SS) (x27:List Int) (x20 x21 x5:List qab):(Int→Option (qa6×Int))→Int→Option (qa6×Int):=fun nx2 x70=>
 bif(decide (x70<((qar.rows x19).length:Int)))then(
 bnd (idx x19 x70) fun⟨⟨x71,x72,⟨x73,x74,x75,x76,x77,x78⟩,x79,x80⟩,x81⟩=>
 bnd (qgd n (qa6.mk x26 x27) [qab.mk x71 x72 (Val.mk x73 x74 x75 x76 x77 x78) x79 x80] (3:Int)) fun x82=>
 bif(x82 != 0)then(
 some (qa6.mk x26 x27,x82))
 else(
 nx2 (IntKind.i64.wrap (x70+1))))
 else(
 bnd (qgd n (qa6.mk ([]:List SS) ([]:List Int)) x20 (3:Int)) fun x83=>
 bif(x83==0)then(
 bnd (qgd n (qa6.mk ([]:List SS) ([]:List Int)) x21 (3:Int)) fun x87=>
 qom n x26 x27 x5 x87)
 else(
 qom n x26 x27 x5 x83))
def qkw (n:Nat) (x17:List qbh) (x1:List SS) (x2:List Int) (x3:Int) (x19:List qar) (x20 x21 x5:List qab):(Int×List SS×List Int→Option (qa6×Int))→Int×List SS×List Int→Option (qa6×Int):=fun nx1 (x25,x26,x27)=>
 bif(decide (x25<((qbh.rows x17).length:Int)))then(
 bnd (idx x17 x25) fun⟨⟨x28,x29,⟨x30,x31,x32,x33,x34,x35⟩,x36,x37⟩,x38⟩=>
 bif(x28==14)then(
 bif(x29==([99,111,117,110,116]:SS))then(
 qqc n x1 x2 x37 x26 x27 x3 x17 x25 nx1 (0:Int))
 else(
 qqc n x1 x2 x37 x26 x27 x3 x17 x25 nx1 (3:Int)))
 else(
 bnd (qly n (qa6.mk x1 x2) (qab.mk x28 x29 (Val.mk x30 x31 x32 x33 x34 x35) x36 x37)) fun⟨x68,x69⟩=>
 qns n x26 x27 x3 x17 x25 nx1 (x68,x69)))
 else(
 qap (qin n x19 x26 x27 x20 x21 x5) n (0:Int))
def qun (n:Nat) (a0z:qa6) (a1z:qad):Option (qa6×Int):=
 match a0z,a1z with
 | ⟨x1,x2⟩,⟨x3,x4,x5,⟨x6,x7,⟨x8,x9,x10,x11,x12,x13⟩,x14,x15⟩,x16,x17,x18,x19,x20,x21,x22,x23,x24⟩=>
 qap (qkw n x17 x1 x2 x3 x19 x20 x21 x5) n ((0:Int),([]:List _),([]:List _))
def qmv (n:Nat) (x25:List SS) (x26:List Int):Int→Option (qa6×Int):=fun x28=>
 some (qa6.mk x25 x26,x28)
def qmw (n:Nat) (x1:List SS) (x2:List Int) (x16:SS):Int→Option (qa6×Int):=fun x31=>
 bnd (qhj n (qa6.mk x1 x2) x16 (3:Int)) fun⟨x32,x33⟩=>
 some (qa6.mk x32 x33,x31)
def qqb (n:Nat) (x1:List SS) (x2:List Int) (x4:List qa9):Unit→Option (qa6×Int):=fun _=>
 bnd (qo9 n (qa6.mk x1 x2) x4 true) fun⟨⟨x44,x45⟩,x46⟩=>
 some (qa6.mk x44 x45,x46)
def qla (n:Nat) (nx1:Int→Option (qa6×Int)) (x49:Int):Unit→Option (qa6×Int):=fun _=>
 nx1 (IntKind.i64.wrap (x49+1))
def qoz (n:Nat) (x3:Int) (x51:SS) (x1:List SS) (x2:List Int) (x53:Int) (x54:SS) (x55:Int) (x56:Bool) (x57:Int) (x58:SS) (x59:List Val) (x60 x61:List SS) (x62:List qab) (nx1:Int→Option (qa6×Int)) (x49:Int):Unit→Option (qa6×Int):=fun _=>
 bif(bif(x3==6)then(!(x51==([]:SS)))else false)then(
 bnd (qgd n (qa6.mk x1 x2) [qab.mk x53 x54 (Val.mk x55 x56 x57 x58 x59 x60) x61 x62] (3:Int)) fun x64=>
 bif(x64 != 0)then(
 some (qa6.mk x1 x2,x64))
 else(
 qla n nx1 x49 ()))
 else(
 qla n nx1 x49 ())
def qoy (n:Nat) (x63:Int) (x52:SS) (x1:List SS) (x2:List Int) (x3:Int) (x51:SS) (x53:Int) (x54:SS) (x55:Int) (x56:Bool) (x57:Int) (x58:SS) (x59:List Val) (x60 x61:List SS) (x62:List qab) (nx1:Int→Option (qa6×Int)) (x49:Int):Unit→Option (qa6×Int):=fun _=>
 bif(bif(x63==3)then true else(bif(x63==2)then(!(x52==([]:SS)))else false))then(
 some (qa6.mk x1 x2,(3:Int)))
 else(
 qoz n x3 x51 x1 x2 x53 x54 x55 x56 x57 x58 x59 x60 x61 x62 nx1 x49 ())
def qox (n:Nat) (x22:List qag) (x49:Int) (x1:List SS) (x2:List Int) (x3:Int) (nx1:Int→Option (qa6×Int)):Unit→Option (qa6×Int):=fun _=>
 bnd (idx x22 x49) fun⟨x50,x51,x52,⟨x53,x54,⟨x55,x56,x57,x58,x59,x60⟩,x61,x62⟩⟩=>
 bnd (qd2 n (qa6.mk x1 x2) x50) fun x63=>
 bif(x63==0)then(
 some (qa6.mk x1 x2,(2:Int)))
 else(
 qoy n x63 x52 x1 x2 x3 x51 x53 x54 x55 x56 x57 x58 x59 x60 x61 x62 nx1 x49 ())
def qhy (n:Nat) (x22:List qag) (x1:List SS) (x2:List Int) (x3:Int):(Int→Option (qa6×Int))→Int→Option (qa6×Int):=fun nx1 x49=>
 bif(decide (x49<((qag.rows x22).length:Int)))then(
 qox n x22 x49 x1 x2 x3 nx1 ())
 else(
 some (qa6.mk x1 x2,(0:Int)))
def qo1 (n:Nat) (x67:Int) (x1:List SS) (x2:List Int) (nx2:Int→Option (qa6×Int)) (x65:Int):Unit→Option (qa6×Int):=fun _=>
 bif(x67==3)then(
 some (qa6.mk x1 x2,(3:Int)))
 else(
 nx2 (IntKind.i64.wrap (x65+1)))
def qo0 (n:Nat) (x23:List SS) (x65:Int) (x1:List SS) (x2:List Int) (nx2:Int→Option (qa6×Int)):Unit→Option (qa6×Int):=fun _=>
 bnd (idx x23 x65) fun x66=>
 bnd (qd2 n (qa6.mk x1 x2) x66) fun x67=>
 bif(x67==0)then(
 some (qa6.mk x1 x2,(2:Int)))
 else(
 qo1 n x67 x1 x2 nx2 x65 ())
def qhz (n:Nat) (x23 x1:List SS) (x2:List Int):(Int→Option (qa6×Int))→Int→Option (qa6×Int):=fun nx2 x65=>
 bif(decide (x65<((qam x23).length:Int)))then(
 qo0 n x23 x65 x1 x2 nx2 ())
 else(
 some (qa6.mk x1 x2,(0:Int)))
def qmx (n:Nat) (x22:List qag) (x1:List SS) (x2:List Int) (x3:Int) (x23:List SS) (x4:List qa9) (x5:List qab) (x6:Int) (x7:SS) (x8:Int) (x9:Bool) (x10:Int) (x11:SS) (x12:List Val) (x13 x14:List SS) (x15:List qab) (x16:SS) (x17:List qbh) (x18:Bool) (x19:List qar) (x20 x21:List qab) (x24:Bool):Bool→Option (qa6×Int):=fun x48=>
 bif x48 then(
 qap (qhy n x22 x1 x2 x3) n (0:Int))
 else(
 bif(x3==8)then(
 qap (qhz n x23 x1 x2) n (0:Int))
 else(
 bnd (qun n (qa6.mk x1 x2) (qad.mk x3 x4 x5 (qab.mk x6 x7 (Val.mk x8 x9 x10 x11 x12 x13) x14 x15) x16 x17 x18 x19 x20 x21 x22 x23 x24)) fun⟨⟨x68,x69⟩,x70⟩=>
 some (qa6.mk x68 x69,x70)))
def qrs (n:Nat) (a0z:qa6) (a1z:qad):Option (qa6×Int):=
 match a0z,a1z with
 | ⟨x1,x2⟩,⟨x3,x4,x5,⟨x6,x7,⟨x8,x9,x10,x11,x12,x13⟩,x14,x15⟩,x16,x17,x18,x19,x20,x21,x22,x23,x24⟩=>
 bif(x3==1)then(
 bnd (qo9 n (qa6.mk x1 x2) x4 false) fun⟨⟨x25,x26⟩,x27⟩=>
 bif(x27==0)then(
 bnd (qgd n (qa6.mk x25 x26) x5 (3:Int)) fun x29=>
 qmv n x25 x26 x29)
 else(
 qmv n x25 x26 x27))
 else(
 bif(x3==2)then(
 bnd (qgd n (qa6.mk x1 x2) [qab.mk x6 x7 (Val.mk x8 x9 x10 x11 x12 x13) x14 x15] (3:Int)) fun x30=>
 bnd (qa5 (x30==0) (qd2 n (qa6.mk x1 x2) x16)) fun x34=>
 bif(bif(x30==0)then(decide (x34>0))else false)then(
 qmw n x1 x2 x16 (2:Int))
 else(
 qmw n x1 x2 x16 x30))
 else(
 bif(x3==4)then(
 bnd (qo9 n (qa6.mk x1 x2) x4 true) fun⟨⟨x35,x36⟩,x37⟩=>
 some (qa6.mk x35 x36,x37))
 else(
 bif(x3==5)then(
 bnd (idx x4 (0:Int)) fun⟨x38,x39⟩=>
 bnd (idx x38 (0:Int)) fun⟨x40,x41,x42,x43⟩=>
 bnd (qa5 (!(x40==([]:SS))) (qd2 n (qa6.mk x1 x2) x40)) fun x47=>
 bif(bif(!(x40==([]:SS)))then(decide (x47>0))else false)then(
 some (qa6.mk x1 x2,(2:Int)))
 else(
 qqb n x1 x2 x4 ()))
 else(
 bif(x3==6)then(
 qmx n x22 x1 x2 x3 x23 x4 x5 x6 x7 x8 x9 x10 x11 x12 x13 x14 x15 x16 x17 x18 x19 x20 x21 x24 (x3==6))
 else(
 qmx n x22 x1 x2 x3 x23 x4 x5 x6 x7 x8 x9 x10 x11 x12 x13 x14 x15 x16 x17 x18 x19 x20 x21 x24 (x3==7))))))
def qjb (n:Nat) (x2:Int) (x1:List qad):(Int×List SS×List Int→Option (List SS×List Int×Int))→Int×List SS×List Int→Option (List SS×List Int×Int):=fun nx1 (x4,x5,x6)=>
 bif(decide (x4<x2))then(
 bnd (idx x1 x4) fun⟨x7,x8,x9,⟨x10,x11,⟨x12,x13,x14,x15,x16,x17⟩,x18,x19⟩,x20,x21,x22,x23,x24,x25,x26,x27,x28⟩=>
 bnd (qrs n (qa6.mk x5 x6) (qad.mk x7 x8 x9 (qab.mk x10 x11 (Val.mk x12 x13 x14 x15 x16 x17) x18 x19) x20 x21 x22 x23 x24 x25 x26 x27 x28)) fun⟨⟨x29,x30⟩,x31⟩=>
 bif(x31 != 0)then(
 some (([]:List SS),([]:List Int),x31))
 else(
 nx1 ((IntKind.i64.wrap (x4+1)),x29,x30)))
 else(
 some (x5,x6,(0:Int)))
def qo8 (n:Nat) (a0z:qg3) (x2:Int):Option (List SS×List Int×Int):=
 match a0z with
 | ⟨x1⟩=>
 bnd (qmq n (qg3.mk x1)) fun x3=>
 bif(bif(bif(!x3)then true else(decide (x2<0)))then true else(decide (x2>((qad.rows x1).length:Int))))then(
 some (([]:List SS),([]:List Int),(20:Int)))
 else(
 qap (qjb n x2 x1) n ((0:Int),([]:List _),([]:List _)))
def qq0 (n:Nat) (a0z:qg3):Option (List SS×Int):=
 match a0z with
 | ⟨x1⟩=>
 bnd (qo8 n (qg3.mk x1) ((qad.rows x1).length:Int)) fun⟨x2,x3,x4⟩=>
 bnd (qa5 (!(x4 != 0)) (idx x1 (IntKind.i64.wrap (((qad.rows x1).length:Int) - 1)))) fun⟨x5,x6,x7,⟨x8,x9,⟨x10,x11,x12,x13,x14,x15⟩,x16,x17⟩,x18,x19,x20,x21,x22,x23,x24,x25,x26⟩=>
 bif(bif(x4 != 0)then true else(x5 != 9))then(
 some (([]:List SS),x4))
 else(
 some (x2,(0:Int)))
abbrev zbv (r:SS):PV:=PV.str r
def qj4 (n:Nat) (x1 x2:SS):Option SS:=
 bif(x1==([]:SS))then(
 some ([]:SS))
 else(
 chk (decide (((x1.length+x2.length:Nat):Int)≤q1g)) (
 some (x1++x2)))
theorem qku (n:Nat):∀ (x1 x2 r:SS),qj4 n x1 x2=some r→qae Tryz.prog 32 [PV.str x1,PV.str x2] (zbv r):=by
 intro x1 x2 r h
 unfold qj4 at h
 refine qae.of_vcN qa3 (fun _ _=>Tryz.call32 _ _) Tryz.func32 (by kernel_rfl) (inl:=[1000000]) ?_
 conv=>whnf
 refine ifc h (fun hc h=>?_) (fun hc h=>?_)
 ·obtain rfl:=sj h
  conv=>whnf
  try exact fin
 ·conv=>whnf
  obtain⟨h1,h⟩:=qaw h
  refine⟨(of_decide_eq_true h1:((x1.length+x2.length:Nat):Int)≤q1g),?_⟩
  obtain rfl:=sj h
  conv=>whnf
  try exact fin
abbrev qh2 (r:List qab):PV:=PV.sl (qab.rows r)
abbrev zo7:Type:=qab→SS→Option (qab)
def qfl (n:Nat) (x1:List qab) (g31:zo7) (x2:SS):(List qab×Int→Option (List qab))→List qab×Int→Option (List qab):=fun nx1 (x3,x4)=>
 bif(decide (x4<((qab.rows x1).length:Int)))then(
 bnd (idx x1 x4) fun⟨x5,x6,⟨x7,x8,x9,x10,x11,x12⟩,x13,x14⟩=>
 bnd (g31 (qab.mk x5 x6 (Val.mk x7 x8 x9 x10 x11 x12) x13 x14) x2) fun⟨x15,x16,⟨x17,x18,x19,x20,x21,x22⟩,x23,x24⟩=>
 chk (decide ((qab.rows (x3++[qab.mk x15 x16 (Val.mk x17 x18 x19 x20 x21 x22) x23 x24])).length * 160≤140737488355328)) (
 nx1 ((x3++[qab.mk x15 x16 (Val.mk x17 x18 x19 x20 x21 x22) x23 x24]),(IntKind.i64.wrap (x4+1)))))
 else(
 some x3)
abbrev zo8:Type:=(List qab)→SS→Option (List qab)
def qmd (n:Nat) (g30:zo8) (g31:zo7) (x1:List qab) (x2:SS):Option (List qab):=
 qap (qfl n x1 g31 x2) n (([]:List _),(0:Int))
abbrev qi0 (r:qab):PV:=PV.agg (qca.cells r)
def qh0 (n:Nat) (g30:zo8) (x10:List qab) (x11:SS) (x1 x3:Int) (x4:Bool) (x5:Int) (x6:SS) (x7:List Val) (x8 x9:List SS):SS→Option (qab):=fun x12=>
 bnd (g30 x10 x11) fun x13=>
 some (qab.mk x1 x12 (Val.mk x3 x4 x5 x6 x7 x8) x9 x13)
def qna (n:Nat) (g30:zo8) (g31:zo7) (a0z:qab) (x11:SS):Option (qab):=
 match a0z with
 | ⟨x1,x2,⟨x3,x4,x5,x6,x7,x8⟩,x9,x10⟩=>
 bif(x1==2)then(
 bnd (qj4 n x2 x11) fun x14=>
 qh0 n g30 x10 x11 x1 x3 x4 x5 x6 x7 x8 x9 x14)
 else(
 qh0 n g30 x10 x11 x1 x3 x4 x5 x6 x7 x8 x9 x2)
theorem qwb (n:Nat) (g30:zo8) (g31:zo7) (g30_ok:∀ (x1:List qab) (x2:SS) (r:List qab),g30 x1 x2=some r→qae Tryz.prog 30 [PV.sl (qab.rows x1),PV.str x2] (qh2 r)) (g31_ok:∀ (a0z:qab) (x11:SS) (r:qab),g31 a0z x11=some r→qae Tryz.prog 31 [PV.agg (qca.cells a0z),PV.str x11] (qi0 r)):∀ (x1:List qab) (x2:SS) (r:List qab),qmd n g30 g31 x1 x2=some r→qae Tryz.prog 30 [PV.sl (qab.rows x1),PV.str x2] (qh2 r):=by
 intro x1 x2 r h
 unfold qmd at h
 refine qae.of_vcN qa3 (fun _ _=>Tryz.call30 _ _) Tryz.func30 (by kernel_rfl) (inl:=[1000000]) ?_
 conv=>whnf
 refine qby.fn [1000000] (S:=List qab×Int) (fun(x3,x4)=>[(0,pE x1),(1,pS x2),(5,.tsl 0 (qab.rows x3)),(6,pI x4)]) (fun(x3,x4)=>[.tail 47 10 (qab.rows x3).length]) (B:=qfl n x1 g31 x2) h (wk [0] [0]) ?_
 intro nx1 st h
 obtain⟨x3,x4⟩:=st
 unfold qfl at h
 conv=>whnf
 refine ifc h (fun hc h=>?_) (fun hc h=>?_)
 ·conv=>whnf
  replace h:=qaa h
  obtain⟨⟨x5,x6,⟨x7,x8,x9,x10,x11,x12⟩,x13,x14⟩,h3,h⟩:=h
  refine⟨_,Codec.at_ qca h3,?_⟩
  conv=>whnf
  replace h:=qaa h
  obtain⟨⟨x15,x16,⟨x17,x18,x19,x20,x21,x22⟩,x23,x24⟩,h2,h⟩:=h
  refine⟨_,(g31_ok _ _ _ h2),?_⟩
  conv=>whnf
  refine⟨Codec.one qca [qab.mk x15 x16 (Val.mk x17 x18 x19 x20 x21 x22) x23 x24],qab.rows [qab.mk x15 x16 (Val.mk x17 x18 x19 x20 x21 x22) x23 x24],.inl rfl,?_⟩
  conv=>whnf
  rw[show qab.rows x3++qab.rows [qab.mk x15 x16 (Val.mk x17 x18 x19 x20 x21 x22) x23 x24]=qab.rows (x3++[qab.mk x15 x16 (Val.mk x17 x18 x19 x20 x21 x22) x23 x24])from Codec.append qca x3 [qab.mk x15 x16 (Val.mk x17 x18 x19 x20 x21 x22) x23 x24]]
  conv=>whnf
  obtain⟨h1,h⟩:=qaw h
  refine⟨⟨Codec.wide qca (x3++[qab.mk x15 x16 (Val.mk x17 x18 x19 x20 x21 x22) x23 x24]),of_decide_eq_true h1,qdx h1 (by decide)⟩,?_⟩
  conv=>whnf
  refine⟨⟨rfl,rfl,rfl⟩,?_⟩
  conv=>whnf
  exact⟨((x3++[qab.mk x15 x16 (Val.mk x17 x18 x19 x20 x21 x22) x23 x24]),(IntKind.i64.wrap (x4+1))),h,wk [1] []⟩
 ·obtain rfl:=sj h
  conv=>whnf
  try exact fin
theorem qxy (n:Nat) (g30:zo8) (g31:zo7) (g30_ok:∀ (x1:List qab) (x2:SS) (r:List qab),g30 x1 x2=some r→qae Tryz.prog 30 [PV.sl (qab.rows x1),PV.str x2] (qh2 r)) (g31_ok:∀ (a0z:qab) (x11:SS) (r:qab),g31 a0z x11=some r→qae Tryz.prog 31 [PV.agg (qca.cells a0z),PV.str x11] (qi0 r)):∀ (a0z:qab) (x11:SS) (r:qab),qna n g30 g31 a0z x11=some r→qae Tryz.prog 31 [PV.agg (qca.cells a0z),PV.str x11] (qi0 r):=by
 intro a0z x11 r h
 obtain⟨x1,x2,⟨x3,x4,x5,x6,x7,x8⟩,x9,x10⟩:=a0z
 unfold qna at h
 refine qae.of_vcN qa3 (fun _ _=>Tryz.call31 _ _) Tryz.func31 (by kernel_rfl) (inl:=[1000000]) ?_
 conv=>whnf
 refine qje.cut (S:=SS) (fun x12=>[(1,pS x11),(2,.ptr 0 0),(4,.ptr 1 0)]) (fun x12=>[.box 47 [pI x1,pS x12,pI x3,pB x4,pI x5,pS x6,pV x7,pT x8,pT x9,pE x10],.box 47 [.p (.int .i64 (0:Int)),.p (.str ([]:SS)),.p (.int .i64 (0:Int)),pB false,.p (.int .i64 (0:Int)),.p (.str ([]:SS)),.p (.nilsl),.p (.nilsl),.p (.nilsl),.p (.nilsl)]]) (qh0 n g30 x10 x11 x1 x3 x4 x5 x6 x7 x8 x9) (r:=r) ?_ ?_
 ·intro x12 h
  unfold qh0 at h
  conv=>whnf
  replace h:=qaa h
  obtain⟨x13,h1,h⟩:=h
  refine⟨_,(g30_ok _ _ _ h1),?_⟩
  obtain rfl:=sj h
  conv=>whnf
  try exact fin
 ·conv=>whnf
  refine ifc h (fun hc h=>?_) (fun hc h=>?_)
  ·conv=>whnf
   replace h:=qaa h
   obtain⟨x14,h2,h⟩:=h
   refine⟨_,(qku n _ _ _ h2),?_⟩
   conv=>whnf
   exact⟨x14,h,wk [0,1] []⟩
  ·conv=>whnf
   exact⟨x2,h,wk [0,1] []⟩
mutual
def qcr:Nat→(List qab)→SS→Option (List qab)
 | 0=>fun _ _=>none
 | n+1=>qmd n (qcr n) (qcy n)
def qcy:Nat→qab→SS→Option (qab)
 | 0=>fun _ _=>none
 | n+1=>qna n (qcr n) (qcy n)
end
theorem qrt (n:Nat):(∀ (x1:List qab) (x2:SS) (r:List qab),qcr n x1 x2=some r→qae Tryz.prog 30 [PV.sl (qab.rows x1),PV.str x2] (qh2 r))∧(∀ (a0z:qab) (x11:SS) (r:qab),qcy n a0z x11=some r→qae Tryz.prog 31 [PV.agg (qca.cells a0z),PV.str x11] (qi0 r)):=by
 induction n with
 | zero=>exact⟨(by intros; rename_i h; cases h),(by intros; rename_i h; cases h)⟩
 | succ n ih=>
  obtain⟨hg30,hg31⟩:=ih
  exact⟨qwb n (qcr n) (qcy n) hg30 hg31,qxy n (qcr n) (qcy n) hg30 hg31⟩
theorem qg5 (n:Nat):∀ (x1:List qab) (x2:SS) (r:List qab),qcr n x1 x2=some r→qae Tryz.prog 30 [PV.sl (qab.rows x1),PV.str x2] (qh2 r):=(qrt n).1
theorem qkv (n:Nat):∀ (a0z:qab) (x11:SS) (r:qab),qcy n a0z x11=some r→qae Tryz.prog 31 [PV.agg (qca.cells a0z),PV.str x11] (qi0 r):=(qrt n).2
abbrev q0v (r:qa9):PV:=PV.agg (qoa.cells r)
def qf5 (n:Nat) (x2:List qai) (x3:SS) (x5:List qaf):(Int×List qai→Option (qa9))→Int×List qai→Option (qa9):=fun nx2 (x12,x13)=>
 bif(decide (x12<((qai.rows x2).length:Int)))then(
 bnd (idx x2 x12) fun⟨x14,x15,x16,x17,x18⟩=>
 bnd (qj4 n x14 x3) fun x19=>
 bnd (qcr n x18 x3) fun x20=>
 chk (decide ((qai.rows (x13++[qai.mk x19 x15 x16 x17 x20])).length * 88≤140737488355328)) (
 nx2 ((IntKind.i64.wrap (x12+1)),(x13++[qai.mk x19 x15 x16 x17 x20]))))
 else(
 some (qa9.mk x5 x13))
def qf4 (n:Nat) (x1:List qaf) (x3:SS) (x2:List qai):(Int×List qaf→Option (qa9))→Int×List qaf→Option (qa9):=fun nx1 (x4,x5)=>
 bif(decide (x4<((qaf.rows x1).length:Int)))then(
 bnd (idx x1 x4) fun⟨x6,x7,x8,x9⟩=>
 bnd (qj4 n x6 x3) fun x10=>
 bnd (qcr n x9 x3) fun x11=>
 chk (decide ((qaf.rows (x5++[qaf.mk x10 x7 x8 x11])).length * 88≤140737488355328)) (
 nx1 ((IntKind.i64.wrap (x4+1)),(x5++[qaf.mk x10 x7 x8 x11]))))
 else(
 qap (qf5 n x2 x3 x5) n ((0:Int),([]:List _)))
def qlb (n:Nat) (a0z:qa9) (x3:SS):Option (qa9):=
 match a0z with
 | ⟨x1,x2⟩=>
 qap (qf4 n x1 x3 x2) n ((0:Int),([]:List _))
theorem qzg (n:Nat):∀ (a0z:qa9) (x3:SS) (r:qa9),qlb n a0z x3=some r→qae Tryz.prog 29 [PV.agg (qoa.cells a0z),PV.str x3] (q0v r):=by
 intro a0z x3 r h
 obtain⟨x1,x2⟩:=a0z
 unfold qlb at h
 refine qae.of_vcN qa3 (fun _ _=>Tryz.call29 _ _) Tryz.func29 (by kernel_rfl) (inl:=[1000000]) ?_
 conv=>whnf
 refine qby.fn [1000000] (S:=Int×List qaf) (fun(x4,x5)=>[(1,pS x3),(2,.ptr 0 0),(4,.ptr 1 0),(5,.ptr 2 0),(6,pI x4)]) (fun(x4,x5)=>[.box 61 [pN x1,pG x2],.box 61 [.p (.nilsl),.p (.nilsl)],.box 61 [.tsl 3 (qaf.rows x5),.p (.nilsl)],.tail 63 4 (qaf.rows x5).length]) (B:=qf4 n x1 x3 x2) h (wk [0,1,2,0] [3]) ?_
 intro nx1 st h
 obtain⟨x4,x5⟩:=st
 unfold qf4 at h
 conv=>whnf
 refine ifc h (fun hc h=>?_) (fun hc h=>?_)
 ·conv=>whnf
  replace h:=qaa h
  obtain⟨⟨x6,x7,x8,x9⟩,h4,h⟩:=h
  refine⟨_,Codec.at_ qeq h4,?_⟩
  conv=>whnf
  replace h:=qaa h
  obtain⟨x10,h3,h⟩:=h
  refine⟨_,(qku n _ _ _ h3),?_⟩
  conv=>whnf
  replace h:=qaa h
  obtain⟨x11,h2,h⟩:=h
  refine⟨_,(qg5 n _ _ _ h2),?_⟩
  conv=>whnf
  refine⟨Codec.one qeq [qaf.mk x10 x7 x8 x11],qaf.rows [qaf.mk x10 x7 x8 x11],.inl rfl,?_⟩
  conv=>whnf
  rw[show qaf.rows x5++qaf.rows [qaf.mk x10 x7 x8 x11]=qaf.rows (x5++[qaf.mk x10 x7 x8 x11])from Codec.append qeq x5 [qaf.mk x10 x7 x8 x11]]
  conv=>whnf
  obtain⟨h1,h⟩:=qaw h
  refine⟨⟨Codec.wide qeq (x5++[qaf.mk x10 x7 x8 x11]),of_decide_eq_true h1,qdx h1 (by decide)⟩,?_⟩
  conv=>whnf
  refine⟨⟨rfl,rfl,rfl⟩,?_⟩
  conv=>whnf
  exact⟨((IntKind.i64.wrap (x4+1)),(x5++[qaf.mk x10 x7 x8 x11])),h,wk [0,1,2,5] []⟩
 ·conv=>whnf
  refine qby.fn [1000000] (S:=Int×List qai) (fun(x12,x13)=>[(1,pS x3),(2,.ptr 0 0),(4,.ptr 1 0),(5,.ptr 2 0),(8,pI x12)]) (fun(x12,x13)=>[.box 61 [pN x1,pG x2],.box 61 [.p (.nilsl),.p (.nilsl)],.box 61 [.tsl 3 (qaf.rows x5),.tsl 4 (qai.rows x13)],.tail 63 4 (qaf.rows x5).length,.tail 65 5 (qai.rows x13).length]) (B:=qf5 n x2 x3 x5) h (wk [0,1,2,3,0] [4]) ?_
  intro nx2 st h
  obtain⟨x12,x13⟩:=st
  unfold qf5 at h
  conv=>whnf
  refine ifc h (fun hc h=>?_) (fun hc h=>?_)
  ·conv=>whnf
   replace h:=qaa h
   obtain⟨⟨x14,x15,x16,x17,x18⟩,h8,h⟩:=h
   refine⟨_,Codec.at_ qgn h8,?_⟩
   conv=>whnf
   replace h:=qaa h
   obtain⟨x19,h7,h⟩:=h
   refine⟨_,(qku n _ _ _ h7),?_⟩
   conv=>whnf
   replace h:=qaa h
   obtain⟨x20,h6,h⟩:=h
   refine⟨_,(qg5 n _ _ _ h6),?_⟩
   conv=>whnf
   refine⟨Codec.one qgn [qai.mk x19 x15 x16 x17 x20],qai.rows [qai.mk x19 x15 x16 x17 x20],.inl rfl,?_⟩
   conv=>whnf
   rw[show qai.rows x13++qai.rows [qai.mk x19 x15 x16 x17 x20]=qai.rows (x13++[qai.mk x19 x15 x16 x17 x20])from Codec.append qgn x13 [qai.mk x19 x15 x16 x17 x20]]
   conv=>whnf
   obtain⟨h5,h⟩:=qaw h
   refine⟨⟨Codec.wide qgn (x13++[qai.mk x19 x15 x16 x17 x20]),of_decide_eq_true h5,qdx h5 (by decide)⟩,?_⟩
   conv=>whnf
   refine⟨⟨rfl,rfl,rfl⟩,?_⟩
   conv=>whnf
   exact⟨((IntKind.i64.wrap (x12+1)),(x13++[qai.mk x19 x15 x16 x17 x20])),h,wk [0,1,2,3,6] []⟩
  ·obtain rfl:=sj h
   conv=>whnf
   try exact fin
abbrev q73 (r:qg3):PV:=PV.agg (qys.cells r)
def qka (n:Nat) (x25:List SS) (x2:SS) (x4:List qad) (x5:Int) (x28:List qa9) (x33:List qab) (x34:Int) (x35:SS) (x36:Int) (x37:Bool) (x38:Int) (x39:SS) (x40:List Val) (x41 x42:List SS) (x43:List qab) (x44:SS) (x46:List qbh) (x20:Bool) (x81:List qar) (x114 x115:List qab) (x117:List qag) (x26:Bool) (nx1:Int×List qad→Option (qg3)) (x3:Int):(Int×List SS→Option (qg3))→Int×List SS→Option (qg3):=fun nx6 (x142,x143)=>
 bif(decide (x142<((qam x25).length:Int)))then(
 bnd (idx x25 x142) fun x144=>
 bnd (qj4 n x144 x2) fun x145=>
 chk (decide ((qam (x143++[x145])).length * 16≤140737488355328)) (
 nx6 ((IntKind.i64.wrap (x142+1)),(x143++[x145]))))
 else(
 chk (decide ((qad.rows (x4++[qad.mk x5 x28 x33 (qab.mk x34 x35 (Val.mk x36 x37 x38 x39 x40 x41) x42 x43) x44 x46 x20 x81 x114 x115 x117 x143 x26])).length * 392≤140737488355328)) (
 nx1 ((IntKind.i64.wrap (x3+1)),(x4++[qad.mk x5 x28 x33 (qab.mk x34 x35 (Val.mk x36 x37 x38 x39 x40 x41) x42 x43) x44 x46 x20 x81 x114 x115 x117 x143 x26]))))
def qj9 (n:Nat) (x24:List qag) (x2:SS) (x25:List SS) (x4:List qad) (x5:Int) (x28:List qa9) (x33:List qab) (x34:Int) (x35:SS) (x36:Int) (x37:Bool) (x38:Int) (x39:SS) (x40:List Val) (x41 x42:List SS) (x43:List qab) (x44:SS) (x46:List qbh) (x20:Bool) (x81:List qar) (x114 x115:List qab) (x26:Bool) (nx1:Int×List qad→Option (qg3)) (x3:Int):(Int×List qag→Option (qg3))→Int×List qag→Option (qg3):=fun nx5 (x116,x117)=>
 bif(decide (x116<((qag.rows x24).length:Int)))then(
 bnd (idx x24 x116) fun⟨x118,x119,x120,⟨x121,x122,⟨x123,x124,x125,x126,x127,x128⟩,x129,x130⟩⟩=>
 bnd (qj4 n x118 x2) fun x131=>
 bnd (qcy n (qab.mk x121 x122 (Val.mk x123 x124 x125 x126 x127 x128) x129 x130) x2) fun⟨x132,x133,⟨x134,x135,x136,x137,x138,x139⟩,x140,x141⟩=>
 chk (decide ((qag.rows (x117++[qag.mk x131 x119 x120 (qab.mk x132 x133 (Val.mk x134 x135 x136 x137 x138 x139) x140 x141)])).length * 208≤140737488355328)) (
 nx5 ((IntKind.i64.wrap (x116+1)),(x117++[qag.mk x131 x119 x120 (qab.mk x132 x133 (Val.mk x134 x135 x136 x137 x138 x139) x140 x141)]))))
 else(
 qap (qka n x25 x2 x4 x5 x28 x33 x34 x35 x36 x37 x38 x39 x40 x41 x42 x43 x44 x46 x20 x81 x114 x115 x117 x26 nx1 x3) n ((0:Int),([]:List _)))
def qj8 (n:Nat) (x21:List qar) (x2:SS) (x22 x23:List qab) (x24:List qag) (x25:List SS) (x4:List qad) (x5:Int) (x28:List qa9) (x33:List qab) (x34:Int) (x35:SS) (x36:Int) (x37:Bool) (x38:Int) (x39:SS) (x40:List Val) (x41 x42:List SS) (x43:List qab) (x44:SS) (x46:List qbh) (x20 x26:Bool) (nx1:Int×List qad→Option (qg3)) (x3:Int):(Int×List qar→Option (qg3))→Int×List qar→Option (qg3):=fun nx4 (x80,x81)=>
 bif(decide (x80<((qar.rows x21).length:Int)))then(
 bnd (idx x21 x80) fun⟨⟨x82,x83,⟨x84,x85,x86,x87,x88,x89⟩,x90,x91⟩,x92⟩=>
 bnd (qcy n (qab.mk x82 x83 (Val.mk x84 x85 x86 x87 x88 x89) x90 x91) x2) fun⟨x93,x94,⟨x95,x96,x97,x98,x99,x100⟩,x101,x102⟩=>
 bnd (idx x21 x80) fun⟨⟨x103,x104,⟨x105,x106,x107,x108,x109,x110⟩,x111,x112⟩,x113⟩=>
 chk (decide ((qar.rows (x81++[qar.mk (qab.mk x93 x94 (Val.mk x95 x96 x97 x98 x99 x100) x101 x102) x113])).length * 168≤140737488355328)) (
 nx4 ((IntKind.i64.wrap (x80+1)),(x81++[qar.mk (qab.mk x93 x94 (Val.mk x95 x96 x97 x98 x99 x100) x101 x102) x113]))))
 else(
 bnd (qcr n x22 x2) fun x114=>
 bnd (qcr n x23 x2) fun x115=>
 qap (qj9 n x24 x2 x25 x4 x5 x28 x33 x34 x35 x36 x37 x38 x39 x40 x41 x42 x43 x44 x46 x20 x81 x114 x115 x26 nx1 x3) n ((0:Int),([]:List _)))
def qj7 (n:Nat) (x19:List qbh) (x2:SS) (x21:List qar) (x22 x23:List qab) (x24:List qag) (x25:List SS) (x4:List qad) (x5:Int) (x28:List qa9) (x33:List qab) (x34:Int) (x35:SS) (x36:Int) (x37:Bool) (x38:Int) (x39:SS) (x40:List Val) (x41 x42:List SS) (x43:List qab) (x44:SS) (x20 x26:Bool) (nx1:Int×List qad→Option (qg3)) (x3:Int):(Int×List qbh→Option (qg3))→Int×List qbh→Option (qg3):=fun nx3 (x45,x46)=>
 bif(decide (x45<((qbh.rows x19).length:Int)))then(
 bnd (idx x19 x45) fun⟨⟨x47,x48,⟨x49,x50,x51,x52,x53,x54⟩,x55,x56⟩,x57⟩=>
 bnd (qcy n (qab.mk x47 x48 (Val.mk x49 x50 x51 x52 x53 x54) x55 x56) x2) fun⟨x58,x59,⟨x60,x61,x62,x63,x64,x65⟩,x66,x67⟩=>
 bnd (idx x19 x45) fun⟨⟨x68,x69,⟨x70,x71,x72,x73,x74,x75⟩,x76,x77⟩,x78⟩=>
 bnd (qj4 n x78 x2) fun x79=>
 chk (decide ((qbh.rows (x46++[qbh.mk (qab.mk x58 x59 (Val.mk x60 x61 x62 x63 x64 x65) x66 x67) x79])).length * 176≤140737488355328)) (
 nx3 ((IntKind.i64.wrap (x45+1)),(x46++[qbh.mk (qab.mk x58 x59 (Val.mk x60 x61 x62 x63 x64 x65) x66 x67) x79]))))
 else(
 qap (qj8 n x21 x2 x22 x23 x24 x25 x4 x5 x28 x33 x34 x35 x36 x37 x38 x39 x40 x41 x42 x43 x44 x46 x20 x26 nx1 x3) n ((0:Int),([]:List _)))
def qj6 (n:Nat) (x6:List qa9) (x2:SS) (x7:List qab) (x8:Int) (x9:SS) (x10:Int) (x11:Bool) (x12:Int) (x13:SS) (x14:List Val) (x15 x16:List SS) (x17:List qab) (x18:SS) (x19:List qbh) (x21:List qar) (x22 x23:List qab) (x24:List qag) (x25:List SS) (x4:List qad) (x5:Int) (x20 x26:Bool) (nx1:Int×List qad→Option (qg3)) (x3:Int):(Int×List qa9→Option (qg3))→Int×List qa9→Option (qg3):=fun nx2 (x27,x28)=>
 bif(decide (x27<((qa9.rows x6).length:Int)))then(
 bnd (idx x6 x27) fun⟨x29,x30⟩=>
 bnd (qlb n (qa9.mk x29 x30) x2) fun⟨x31,x32⟩=>
 chk (decide ((qa9.rows (x28++[qa9.mk x31 x32])).length * 48≤140737488355328)) (
 nx2 ((IntKind.i64.wrap (x27+1)),(x28++[qa9.mk x31 x32]))))
 else(
 bnd (qcr n x7 x2) fun x33=>
 bnd (qcy n (qab.mk x8 x9 (Val.mk x10 x11 x12 x13 x14 x15) x16 x17) x2) fun⟨x34,x35,⟨x36,x37,x38,x39,x40,x41⟩,x42,x43⟩=>
 bnd (qj4 n x18 x2) fun x44=>
 qap (qj7 n x19 x2 x21 x22 x23 x24 x25 x4 x5 x28 x33 x34 x35 x36 x37 x38 x39 x40 x41 x42 x43 x44 x20 x26 nx1 x3) n ((0:Int),([]:List _)))
def qj5 (n:Nat) (x1:List qad) (x2:SS):(Int×List qad→Option (qg3))→Int×List qad→Option (qg3):=fun nx1 (x3,x4)=>
 bif(decide (x3<((qad.rows x1).length:Int)))then(
 bnd (idx x1 x3) fun⟨x5,x6,x7,⟨x8,x9,⟨x10,x11,x12,x13,x14,x15⟩,x16,x17⟩,x18,x19,x20,x21,x22,x23,x24,x25,x26⟩=>
 qap (qj6 n x6 x2 x7 x8 x9 x10 x11 x12 x13 x14 x15 x16 x17 x18 x19 x21 x22 x23 x24 x25 x4 x5 x20 x26 nx1 x3) n ((0:Int),([]:List _)))
 else(
 some (qg3.mk x4))
def qpo (n:Nat) (a0z:qg3) (x2:SS):Option (qg3):=
 match a0z with
 | ⟨x1⟩=>
 qap (qj5 n x1 x2) n ((0:Int),([]:List _))
set_option maxHeartbeats 4000000 in
theorem qwk (n:Nat):∀ (a0z:qg3) (x2:SS) (r:qg3),qpo n a0z x2=some r→qae Tryz.prog 19 [PV.agg (qys.cells a0z),PV.str x2] (q73 r):=by
 intro a0z x2 r h
 obtain⟨x1⟩:=a0z
 unfold qpo at h
 refine qae.of_vcN qa3 (fun _ _=>Tryz.call19 _ _) Tryz.func19 (by kernel_rfl) (inl:=[40000011,40000019,40000024,40000039,1000000]) ?_
 conv=>whnf
 refine qby.fn [40000011,40000019,40000024,40000039,1000000] (S:=Int×List qad) (fun(x3,x4)=>[(1,pS x2),(2,.ptr 0 0),(4,.ptr 1 0),(5,.ptr 2 0),(6,pI x3)]) (fun(x3,x4)=>[.box 24 [pC x1],.box 24 [.p (.nilsl)],.box 24 [.tsl 3 (qad.rows x4)],.tail 55 22 (qad.rows x4).length]) (B:=qj5 n x1 x2) h (wk [0,1,2,0] [3]) ?_
 intro nx1 st h
 obtain⟨x3,x4⟩:=st
 unfold qj5 at h
 conv=>whnf
 refine ifc h (fun hc h=>?_) (fun hc h=>?_)
 ·conv=>whnf
  replace h:=qaa h
  obtain⟨⟨x5,x6,x7,⟨x8,x9,⟨x10,x11,x12,x13,x14,x15⟩,x16,x17⟩,x18,x19,x20,x21,x22,x23,x24,x25,x26⟩,h26,h⟩:=h
  refine⟨_,Codec.at_ qcw h26,?_⟩
  conv=>whnf
  refine qby.fn [40000011,40000019,40000024,40000039,1000000] (S:=Int×List qa9) (fun(x27,x28)=>[(1,pS x2),(2,.ptr 0 0),(4,.ptr 1 0),(5,.ptr 2 0),(6,pI x3),(7,.ptr 3 0),(8,.ptr 4 0),(9,pI x27)]) (fun(x27,x28)=>[.box 24 [pC x1],.box 24 [.p (.nilsl)],.box 24 [.tsl 5 (qad.rows x4)],.box 55 [pI x5,pP x6,pE x7,pI x8,pS x9,pI x10,pB x11,pI x12,pS x13,pV x14,pT x15,pT x16,pE x17,pS x18,pA x19,pB x20,pO x21,pE x22,pE x23,pU x24,pT x25,pB x26],.box 55 [pI x5,.tsl 6 (qa9.rows x28),pE x7,pI x8,pS x9,pI x10,pB x11,pI x12,pS x13,pV x14,pT x15,pT x16,pE x17,pS x18,pA x19,pB x20,pO x21,pE x22,pE x23,pU x24,pT x25,pB x26],.tail 55 22 (qad.rows x4).length,.tail 61 2 (qa9.rows x28).length]) (B:=qj6 n x6 x2 x7 x8 x9 x10 x11 x12 x13 x14 x15 x16 x17 x18 x19 x21 x22 x23 x24 x25 x4 x5 x20 x26 nx1 x3) h (wk [0,1,2,4,5,3,0] [6]) ?_
  intro nx2 st h
  obtain⟨x27,x28⟩:=st
  unfold qj6 at h
  conv=>whnf
  refine ifc h (fun hc h=>?_) (fun hc h=>?_)
  ·conv=>whnf
   replace h:=qaa h
   obtain⟨⟨x29,x30⟩,h3,h⟩:=h
   refine⟨_,Codec.at_ qoa h3,?_⟩
   conv=>whnf
   replace h:=qaa h
   obtain⟨⟨x31,x32⟩,h2,h⟩:=h
   refine⟨_,(qzg n _ _ _ h2),?_⟩
   conv=>whnf
   refine⟨Codec.one qoa [qa9.mk x31 x32],qa9.rows [qa9.mk x31 x32],.inl rfl,?_⟩
   conv=>whnf
   rw[show qa9.rows x28++qa9.rows [qa9.mk x31 x32]=qa9.rows (x28++[qa9.mk x31 x32])from Codec.append qoa x28 [qa9.mk x31 x32]]
   conv=>whnf
   obtain⟨h1,h⟩:=qaw h
   refine⟨⟨Codec.wide qoa (x28++[qa9.mk x31 x32]),of_decide_eq_true h1,qdx h1 (by decide)⟩,?_⟩
   conv=>whnf
   refine⟨⟨rfl,rfl,rfl⟩,?_⟩
   conv=>whnf
   exact⟨((IntKind.i64.wrap (x27+1)),(x28++[qa9.mk x31 x32])),h,wk [0,1,2,3,4,5,7] []⟩
  ·conv=>whnf
   replace h:=qaa h
   obtain⟨x33,h25,h⟩:=h
   refine⟨_,(qg5 n _ _ _ h25),?_⟩
   conv=>whnf
   replace h:=qaa h
   obtain⟨⟨x34,x35,⟨x36,x37,x38,x39,x40,x41⟩,x42,x43⟩,h24,h⟩:=h
   refine⟨_,(qkv n _ _ _ h24),?_⟩
   conv=>whnf
   replace h:=qaa h
   obtain⟨x44,h23,h⟩:=h
   refine⟨_,(qku n _ _ _ h23),?_⟩
   conv=>whnf
   refine qby.fn [40000011,40000019,40000024,40000039,1000000] (S:=Int×List qbh) (fun(x45,x46)=>[(1,pS x2),(2,.ptr 0 0),(4,.ptr 1 0),(5,.ptr 2 0),(6,pI x3),(7,.ptr 3 0),(8,.ptr 4 0),(10,pI x45)]) (fun(x45,x46)=>[.box 24 [pC x1],.box 24 [.p (.nilsl)],.box 24 [.tsl 5 (qad.rows x4)],.box 55 [pI x5,pP x6,pE x7,pI x8,pS x9,pI x10,pB x11,pI x12,pS x13,pV x14,pT x15,pT x16,pE x17,pS x18,pA x19,pB x20,pO x21,pE x22,pE x23,pU x24,pT x25,pB x26],.box 55 [pI x5,.tsl 6 (qa9.rows x28),pE x33,pI x34,pS x35,pI x36,pB x37,pI x38,pS x39,pV x40,pT x41,pT x42,pE x43,pS x44,.tsl 7 (qbh.rows x46),pB x20,pO x21,pE x22,pE x23,pU x24,pT x25,pB x26],.tail 55 22 (qad.rows x4).length,.tail 61 2 (qa9.rows x28).length,.tail 49 11 (qbh.rows x46).length]) (B:=qj7 n x19 x2 x21 x22 x23 x24 x25 x4 x5 x28 x33 x34 x35 x36 x37 x38 x39 x40 x41 x42 x43 x44 x20 x26 nx1 x3) h (wk [0,1,2,3,4,5,6,0] [7]) ?_
   intro nx3 st h
   obtain⟨x45,x46⟩:=st
   unfold qj7 at h
   conv=>whnf
   refine ifc h (fun hc h=>?_) (fun hc h=>?_)
   ·conv=>whnf
    replace h:=qaa h
    obtain⟨⟨⟨x47,x48,⟨x49,x50,x51,x52,x53,x54⟩,x55,x56⟩,x57⟩,h8,h⟩:=h
    refine⟨_,Codec.at_ qtc h8,?_⟩
    conv=>whnf
    replace h:=qaa h
    obtain⟨⟨x58,x59,⟨x60,x61,x62,x63,x64,x65⟩,x66,x67⟩,h7,h⟩:=h
    refine⟨_,(qkv n _ _ _ h7),?_⟩
    conv=>whnf
    replace h:=qaa h
    obtain⟨⟨⟨x68,x69,⟨x70,x71,x72,x73,x74,x75⟩,x76,x77⟩,x78⟩,h6,h⟩:=h
    refine⟨_,Codec.at_ qtc h6,?_⟩
    conv=>whnf
    replace h:=qaa h
    obtain⟨x79,h5,h⟩:=h
    refine⟨_,(qku n _ _ _ h5),?_⟩
    conv=>whnf
    refine⟨Codec.one qtc [qbh.mk (qab.mk x58 x59 (Val.mk x60 x61 x62 x63 x64 x65) x66 x67) x79],qbh.rows [qbh.mk (qab.mk x58 x59 (Val.mk x60 x61 x62 x63 x64 x65) x66 x67) x79],.inl rfl,?_⟩
    conv=>whnf
    rw[show qbh.rows x46++qbh.rows [qbh.mk (qab.mk x58 x59 (Val.mk x60 x61 x62 x63 x64 x65) x66 x67) x79]=qbh.rows (x46++[qbh.mk (qab.mk x58 x59 (Val.mk x60 x61 x62 x63 x64 x65) x66 x67) x79])from Codec.append qtc x46 [qbh.mk (qab.mk x58 x59 (Val.mk x60 x61 x62 x63 x64 x65) x66 x67) x79]]
    conv=>whnf
    obtain⟨h4,h⟩:=qaw h
    refine⟨⟨Codec.wide qtc (x46++[qbh.mk (qab.mk x58 x59 (Val.mk x60 x61 x62 x63 x64 x65) x66 x67) x79]),of_decide_eq_true h4,qdx h4 (by decide)⟩,?_⟩
    conv=>whnf
    refine⟨⟨rfl,rfl,rfl⟩,?_⟩
    conv=>whnf
    exact⟨((IntKind.i64.wrap (x45+1)),(x46++[qbh.mk (qab.mk x58 x59 (Val.mk x60 x61 x62 x63 x64 x65) x66 x67) x79])),h,wk [0,1,2,3,4,5,6,8] []⟩
   ·conv=>whnf
    refine qby.fn [40000011,40000019,40000024,40000039,1000000] (S:=Int×List qar) (fun(x80,x81)=>[(1,pS x2),(2,.ptr 0 0),(4,.ptr 1 0),(5,.ptr 2 0),(6,pI x3),(7,.ptr 3 0),(8,.ptr 4 0),(11,pI x80)]) (fun(x80,x81)=>[.box 24 [pC x1],.box 24 [.p (.nilsl)],.box 24 [.tsl 5 (qad.rows x4)],.box 55 [pI x5,pP x6,pE x7,pI x8,pS x9,pI x10,pB x11,pI x12,pS x13,pV x14,pT x15,pT x16,pE x17,pS x18,pA x19,pB x20,pO x21,pE x22,pE x23,pU x24,pT x25,pB x26],.box 55 [pI x5,.tsl 6 (qa9.rows x28),pE x33,pI x34,pS x35,pI x36,pB x37,pI x38,pS x39,pV x40,pT x41,pT x42,pE x43,pS x44,.tsl 7 (qbh.rows x46),pB x20,.tsl 8 (qar.rows x81),pE x22,pE x23,pU x24,pT x25,pB x26],.tail 55 22 (qad.rows x4).length,.tail 61 2 (qa9.rows x28).length,.tail 49 11 (qbh.rows x46).length,.tail 67 11 (qar.rows x81).length]) (B:=qj8 n x21 x2 x22 x23 x24 x25 x4 x5 x28 x33 x34 x35 x36 x37 x38 x39 x40 x41 x42 x43 x44 x46 x20 x26 nx1 x3) h (wk [0,1,2,3,4,5,6,7,0] [8]) ?_
    intro nx4 st h
    obtain⟨x80,x81⟩:=st
    unfold qj8 at h
    conv=>whnf
    refine ifc h (fun hc h=>?_) (fun hc h=>?_)
    ·conv=>whnf
     replace h:=qaa h
     obtain⟨⟨⟨x82,x83,⟨x84,x85,x86,x87,x88,x89⟩,x90,x91⟩,x92⟩,h12,h⟩:=h
     refine⟨_,Codec.at_ qpz h12,?_⟩
     conv=>whnf
     replace h:=qaa h
     obtain⟨⟨x93,x94,⟨x95,x96,x97,x98,x99,x100⟩,x101,x102⟩,h11,h⟩:=h
     refine⟨_,(qkv n _ _ _ h11),?_⟩
     conv=>whnf
     replace h:=qaa h
     obtain⟨⟨⟨x103,x104,⟨x105,x106,x107,x108,x109,x110⟩,x111,x112⟩,x113⟩,h10,h⟩:=h
     refine⟨_,Codec.at_ qpz h10,?_⟩
     conv=>whnf
     refine⟨Codec.one qpz [qar.mk (qab.mk x93 x94 (Val.mk x95 x96 x97 x98 x99 x100) x101 x102) x113],qar.rows [qar.mk (qab.mk x93 x94 (Val.mk x95 x96 x97 x98 x99 x100) x101 x102) x113],.inl rfl,?_⟩
     conv=>whnf
     rw[show qar.rows x81++qar.rows [qar.mk (qab.mk x93 x94 (Val.mk x95 x96 x97 x98 x99 x100) x101 x102) x113]=qar.rows (x81++[qar.mk (qab.mk x93 x94 (Val.mk x95 x96 x97 x98 x99 x100) x101 x102) x113])from Codec.append qpz x81 [qar.mk (qab.mk x93 x94 (Val.mk x95 x96 x97 x98 x99 x100) x101 x102) x113]]
     conv=>whnf
     obtain⟨h9,h⟩:=qaw h
     refine⟨⟨Codec.wide qpz (x81++[qar.mk (qab.mk x93 x94 (Val.mk x95 x96 x97 x98 x99 x100) x101 x102) x113]),of_decide_eq_true h9,qdx h9 (by decide)⟩,?_⟩
     conv=>whnf
     refine⟨⟨rfl,rfl,rfl⟩,?_⟩
     conv=>whnf
     exact⟨((IntKind.i64.wrap (x80+1)),(x81++[qar.mk (qab.mk x93 x94 (Val.mk x95 x96 x97 x98 x99 x100) x101 x102) x113])),h,wk [0,1,2,3,4,5,6,7,9] []⟩
    ·conv=>whnf
     replace h:=qaa h
     obtain⟨x114,h22,h⟩:=h
     refine⟨_,(qg5 n _ _ _ h22),?_⟩
     conv=>whnf
     replace h:=qaa h
     obtain⟨x115,h21,h⟩:=h
     refine⟨_,(qg5 n _ _ _ h21),?_⟩
     conv=>whnf
     refine qby.fn [40000011,40000019,40000024,40000039,1000000] (S:=Int×List qag) (fun(x116,x117)=>[(1,pS x2),(2,.ptr 0 0),(4,.ptr 1 0),(5,.ptr 2 0),(6,pI x3),(7,.ptr 3 0),(8,.ptr 4 0),(12,pI x116)]) (fun(x116,x117)=>[.box 24 [pC x1],.box 24 [.p (.nilsl)],.box 24 [.tsl 5 (qad.rows x4)],.box 55 [pI x5,pP x6,pE x7,pI x8,pS x9,pI x10,pB x11,pI x12,pS x13,pV x14,pT x15,pT x16,pE x17,pS x18,pA x19,pB x20,pO x21,pE x22,pE x23,pU x24,pT x25,pB x26],.box 55 [pI x5,.tsl 6 (qa9.rows x28),pE x33,pI x34,pS x35,pI x36,pB x37,pI x38,pS x39,pV x40,pT x41,pT x42,pE x43,pS x44,.tsl 7 (qbh.rows x46),pB x20,.tsl 8 (qar.rows x81),pE x114,pE x115,.tsl 9 (qag.rows x117),pT x25,pB x26],.tail 55 22 (qad.rows x4).length,.tail 61 2 (qa9.rows x28).length,.tail 49 11 (qbh.rows x46).length,.tail 67 11 (qar.rows x81).length,.tail 69 13 (qag.rows x117).length]) (B:=qj9 n x24 x2 x25 x4 x5 x28 x33 x34 x35 x36 x37 x38 x39 x40 x41 x42 x43 x44 x46 x20 x81 x114 x115 x26 nx1 x3) h (wk [0,1,2,3,4,5,6,7,8,0] [9]) ?_
     intro nx5 st h
     obtain⟨x116,x117⟩:=st
     unfold qj9 at h
     conv=>whnf
     refine ifc h (fun hc h=>?_) (fun hc h=>?_)
     ·conv=>whnf
      replace h:=qaa h
      obtain⟨⟨x118,x119,x120,⟨x121,x122,⟨x123,x124,x125,x126,x127,x128⟩,x129,x130⟩⟩,h16,h⟩:=h
      refine⟨_,Codec.at_ qi2 h16,?_⟩
      conv=>whnf
      replace h:=qaa h
      obtain⟨x131,h15,h⟩:=h
      refine⟨_,(qku n _ _ _ h15),?_⟩
      conv=>whnf
      replace h:=qaa h
      obtain⟨⟨x132,x133,⟨x134,x135,x136,x137,x138,x139⟩,x140,x141⟩,h14,h⟩:=h
      refine⟨_,(qkv n _ _ _ h14),?_⟩
      conv=>whnf
      refine⟨Codec.one qi2 [qag.mk x131 x119 x120 (qab.mk x132 x133 (Val.mk x134 x135 x136 x137 x138 x139) x140 x141)],qag.rows [qag.mk x131 x119 x120 (qab.mk x132 x133 (Val.mk x134 x135 x136 x137 x138 x139) x140 x141)],.inl rfl,?_⟩
      conv=>whnf
      rw[show qag.rows x117++qag.rows [qag.mk x131 x119 x120 (qab.mk x132 x133 (Val.mk x134 x135 x136 x137 x138 x139) x140 x141)]=qag.rows (x117++[qag.mk x131 x119 x120 (qab.mk x132 x133 (Val.mk x134 x135 x136 x137 x138 x139) x140 x141)])from Codec.append qi2 x117 [qag.mk x131 x119 x120 (qab.mk x132 x133 (Val.mk x134 x135 x136 x137 x138 x139) x140 x141)]]
      conv=>whnf
      obtain⟨h13,h⟩:=qaw h
      refine⟨⟨Codec.wide qi2 (x117++[qag.mk x131 x119 x120 (qab.mk x132 x133 (Val.mk x134 x135 x136 x137 x138 x139) x140 x141)]),of_decide_eq_true h13,qdx h13 (by decide)⟩,?_⟩
      conv=>whnf
      refine⟨⟨rfl,rfl,rfl⟩,?_⟩
      conv=>whnf
      exact⟨((IntKind.i64.wrap (x116+1)),(x117++[qag.mk x131 x119 x120 (qab.mk x132 x133 (Val.mk x134 x135 x136 x137 x138 x139) x140 x141)])),h,wk [0,1,2,3,4,5,6,7,8,11] []⟩
     ·conv=>whnf
      refine qby.fn [40000011,40000019,40000024,40000039,1000000] (S:=Int×List SS) (fun(x142,x143)=>[(1,pS x2),(2,.ptr 0 0),(4,.ptr 1 0),(5,.ptr 2 0),(6,pI x3),(7,.ptr 3 0),(8,.ptr 4 0),(14,pI x142)]) (fun(x142,x143)=>[.box 24 [pC x1],.box 24 [.p (.nilsl)],.box 24 [.tsl 5 (qad.rows x4)],.box 55 [pI x5,pP x6,pE x7,pI x8,pS x9,pI x10,pB x11,pI x12,pS x13,pV x14,pT x15,pT x16,pE x17,pS x18,pA x19,pB x20,pO x21,pE x22,pE x23,pU x24,pT x25,pB x26],.box 55 [pI x5,.tsl 6 (qa9.rows x28),pE x33,pI x34,pS x35,pI x36,pB x37,pI x38,pS x39,pV x40,pT x41,pT x42,pE x43,pS x44,.tsl 7 (qbh.rows x46),pB x20,.tsl 8 (qar.rows x81),pE x114,pE x115,.tsl 9 (qag.rows x117),.tsl 10 (qam x143),pB x26],.tail 55 22 (qad.rows x4).length,.tail 61 2 (qa9.rows x28).length,.tail 49 11 (qbh.rows x46).length,.tail 67 11 (qar.rows x81).length,.tail 69 13 (qag.rows x117).length,.tail 9 1 (qam x143).length]) (B:=qka n x25 x2 x4 x5 x28 x33 x34 x35 x36 x37 x38 x39 x40 x41 x42 x43 x44 x46 x20 x81 x114 x115 x117 x26 nx1 x3) h (wk [0,1,2,3,4,5,6,7,8,9,0] [10]) ?_
      intro nx6 st h
      obtain⟨x142,x143⟩:=st
      unfold qka at h
      conv=>whnf
      refine ifc h (fun hc h=>?_) (fun hc h=>?_)
      ·conv=>whnf
       replace h:=qaa h
       obtain⟨x144,h19,h⟩:=h
       refine⟨_,Codec.at_ qqt h19,?_⟩
       conv=>whnf
       replace h:=qaa h
       obtain⟨x145,h18,h⟩:=h
       refine⟨_,(qku n _ _ _ h18),?_⟩
       conv=>whnf
       refine⟨Codec.one qqt [x145],qam [x145],.inl rfl,?_⟩
       conv=>whnf
       rw[show qam x143++qam [x145]=qam (x143++[x145])from Codec.append qqt x143 [x145]]
       conv=>whnf
       obtain⟨h17,h⟩:=qaw h
       refine⟨⟨Codec.wide qqt (x143++[x145]),of_decide_eq_true h17,qdx h17 (by decide)⟩,?_⟩
       conv=>whnf
       refine⟨⟨rfl,rfl,rfl⟩,?_⟩
       conv=>whnf
       exact⟨((IntKind.i64.wrap (x142+1)),(x143++[x145])),h,wk [0,1,2,3,4,5,6,7,8,9,11] []⟩
      ·conv=>whnf
       refine⟨Codec.one qcw [qad.mk x5 x28 x33 (qab.mk x34 x35 (Val.mk x36 x37 x38 x39 x40 x41) x42 x43) x44 x46 x20 x81 x114 x115 x117 x143 x26],qad.rows [qad.mk x5 x28 x33 (qab.mk x34 x35 (Val.mk x36 x37 x38 x39 x40 x41) x42 x43) x44 x46 x20 x81 x114 x115 x117 x143 x26],.inl rfl,?_⟩
       conv=>whnf
       rw[show qad.rows x4++qad.rows [qad.mk x5 x28 x33 (qab.mk x34 x35 (Val.mk x36 x37 x38 x39 x40 x41) x42 x43) x44 x46 x20 x81 x114 x115 x117 x143 x26]=qad.rows (x4++[qad.mk x5 x28 x33 (qab.mk x34 x35 (Val.mk x36 x37 x38 x39 x40 x41) x42 x43) x44 x46 x20 x81 x114 x115 x117 x143 x26])from Codec.append qcw x4 [qad.mk x5 x28 x33 (qab.mk x34 x35 (Val.mk x36 x37 x38 x39 x40 x41) x42 x43) x44 x46 x20 x81 x114 x115 x117 x143 x26]]
       conv=>whnf
       obtain⟨h20,h⟩:=qaw h
       refine⟨⟨Codec.wide qcw (x4++[qad.mk x5 x28 x33 (qab.mk x34 x35 (Val.mk x36 x37 x38 x39 x40 x41) x42 x43) x44 x46 x20 x81 x114 x115 x117 x143 x26]),of_decide_eq_true h20,qdx h20 (by decide)⟩,?_⟩
       conv=>whnf
       refine⟨⟨rfl,rfl,rfl⟩,?_⟩
       conv=>whnf
       exact⟨((IntKind.i64.wrap (x3+1)),(x4++[qad.mk x5 x28 x33 (qab.mk x34 x35 (Val.mk x36 x37 x38 x39 x40 x41) x42 x43) x44 x46 x20 x81 x114 x115 x117 x143 x26])),h,wk [0,1,2,11] []⟩
 ·obtain rfl:=sj h
  conv=>whnf
  try exact fin
abbrev qyh (r:Bool):PV:=PV.bool r
def qed (n:Nat) (x8 x10:List SS):(Int→Option (Bool))→Int→Option (Bool):=fun nx1 x12=>
 bif(decide (x12<((qam x8).length:Int)))then(
 bnd (idx x10 x12) fun x13=>
 bnd (idx x8 x12) fun x14=>
 chk (decide (((x14.length+([95,55]:SS).length:Nat):Int)≤q1g)) (
 bif(!(x13==(x14++([95,55]:SS))))then(
 some false)
 else(
 nx1 (IntKind.i64.wrap (x12+1)))))
 else(
 bnd (qdu n) fun x15=>
 some x15)
def qmf (n:Nat) (a0z:qg3):Option (Bool):=
 match a0z with
 | ⟨x1⟩=>
 bnd (qkt n (qg3.mk x1)) fun x2=>
 bnd (qa5 (!x2) (qmq n (qg3.mk x1))) fun x3=>
 bif(bif x2 then true else(!x3))then(
 bnd (qdu n) fun x4=>
 some x4)
 else(
 bnd (qpo n (qg3.mk x1) ([95,55]:SS)) fun⟨x5⟩=>
 bnd (qmq n (qg3.mk x5)) fun x6=>
 bif(!x6)then(
 bnd (qdu n) fun x7=>
 some x7)
 else(
 bnd (qdv n (qg3.mk x1)) fun⟨x8,x9⟩=>
 bnd (qdv n (qg3.mk x5)) fun⟨x10,x11⟩=>
 bif(bif(x9 != x11)then true else(((qam x8).length:Int) != ((qam x10).length:Int)))then(
 some false)
 else(
 qap (qed n x8 x10) n (0:Int))))
theorem qwd (n:Nat):∀ (a0z:qg3) (r:Bool),qmf n a0z=some r→qae Tryz.prog 6 [PV.agg (qys.cells a0z)] (qyh r):=by
 intro a0z r h
 obtain⟨x1⟩:=a0z
 unfold qmf at h
 refine qae.of_vcN qa3 (fun _ _=>Tryz.call6 _ _) Tryz.func6 (by kernel_rfl) (inl:=[1000000]) ?_
 conv=>whnf
 replace h:=qaa h
 obtain⟨x2,h12,h⟩:=h
 refine⟨_,(qoh n _ _ h12),?_⟩
 conv=>whnf
 refine⟨id,?_⟩
 conv=>whnf
 replace h:=qaa h
 obtain⟨x3,h11,h⟩:=h
 refine⟨_,fun hg=>(qpf n _ _ (qah h11 hg)),?_⟩
 conv=>whnf
 refine⟨id,id,?_⟩
 conv=>whnf
 refine ifc h (fun hc h=>?_) (fun hc h=>?_)
 ·conv=>whnf
  replace h:=qaa h
  obtain⟨x4,h1,h⟩:=h
  refine⟨_,(qc7 n _ h1),?_⟩
  obtain rfl:=sj h
  conv=>whnf
  try exact fin
 ·conv=>whnf
  replace h:=qaa h
  obtain⟨⟨x5⟩,h10,h⟩:=h
  refine⟨_,(qwk n _ _ _ h10),?_⟩
  conv=>whnf
  replace h:=qaa h
  obtain⟨x6,h9,h⟩:=h
  refine⟨_,(qpf n _ _ h9),?_⟩
  conv=>whnf
  refine ifc h (fun hc h=>?_) (fun hc h=>?_)
  ·conv=>whnf
   replace h:=qaa h
   obtain⟨x7,h2,h⟩:=h
   refine⟨_,(qc7 n _ h2),?_⟩
   obtain rfl:=sj h
   conv=>whnf
   try exact fin
  ·conv=>whnf
   replace h:=qaa h
   obtain⟨⟨x8,x9⟩,h8,h⟩:=h
   refine⟨_,(qdz n _ _ h8),?_⟩
   conv=>whnf
   replace h:=qaa h
   obtain⟨⟨x10,x11⟩,h7,h⟩:=h
   refine⟨_,(qdz n _ _ h7),?_⟩
   conv=>whnf
   refine⟨id,id,id,id,id,?_⟩
   conv=>whnf
   refine ifc h (fun hc h=>?_) (fun hc h=>?_)
   ·obtain rfl:=sj h
    conv=>whnf
    try exact fin
   ·conv=>whnf
    refine qby.fn [1000000] (S:=Int) (fun x12=>[(4,pT x8),(6,pT x10),(8,pI x12)]) (fun x12=>[]) (B:=qed n x8 x10) h (wk [] []) ?_
    intro nx1 x12 h
    unfold qed at h
    conv=>whnf
    refine ifc h (fun hc h=>?_) (fun hc h=>?_)
    ·conv=>whnf
     replace h:=qaa h
     obtain⟨x13,h5,h⟩:=h
     refine⟨_,Codec.at_ qqt h5,?_⟩
     conv=>whnf
     replace h:=qaa h
     obtain⟨x14,h4,h⟩:=h
     refine⟨_,Codec.at_ qqt h4,?_⟩
     conv=>whnf
     obtain⟨h3,h⟩:=qaw h
     refine⟨(of_decide_eq_true h3:((x14.length+([95,55]:SS).length:Nat):Int)≤q1g),?_⟩
     conv=>whnf
     refine ifc h (fun hc h=>?_) (fun hc h=>?_)
     ·obtain rfl:=sj h
      conv=>whnf
      try exact fin
     ·conv=>whnf
      exact⟨(IntKind.i64.wrap (x12+1)),h,wk [] []⟩
    ·conv=>whnf
     replace h:=qaa h
     obtain⟨x15,h6,h⟩:=h
     refine⟨_,(qc7 n _ h6),?_⟩
     obtain rfl:=sj h
     conv=>whnf
     try exact fin
abbrev q17 (r:Bool):PV:=PV.bool r
def qp6 (n:Nat) (a0z:qg3):Option (Bool):=
 match a0z with
 | ⟨x1⟩=>
 bnd (qkt n (qg3.mk x1)) fun x2=>
 bnd (qa5 (!(bif x2 then true else(decide (((qad.rows x1).length:Int)≥64)))) (qmq n (qg3.mk x1))) fun x3=>
 bif(bif(bif x2 then true else(decide (((qad.rows x1).length:Int)≥64)))then true else(!x3))then(
 bnd (qdu n) fun x4=>
 some x4)
 else(
 bnd (qpo n (qg3.mk x1) ([95,55]:SS)) fun⟨x5⟩=>
 bnd (qmq n (qg3.mk x5)) fun x6=>
 bif(!x6)then(
 bnd (qdu n) fun x7=>
 some x7)
 else(
 chk (decide ((qad.rows ([qad.mk (2:Int) ([]:List qa9) ([]:List qab) (qab.mk (5:Int) ([]:SS) (Val.mk (0:Int) false (0:Int) ([]:SS) ([]:List Val) ([]:List SS)) ([]:List SS) ([]:List qab)) ([105,100,108,101]:SS) ([]:List qbh) false ([]:List qar) ([]:List qab) ([]:List qab) ([]:List qag) ([]:List SS) false]++x5)).length * 392≤140737488355328)) (
 bnd (qdv n (qg3.mk x5)) fun⟨x8,x9⟩=>
 bnd (qdv n (qg3.mk ([qad.mk (2:Int) ([]:List qa9) ([]:List qab) (qab.mk (5:Int) ([]:SS) (Val.mk (0:Int) false (0:Int) ([]:SS) ([]:List Val) ([]:List SS)) ([]:List SS) ([]:List qab)) ([105,100,108,101]:SS) ([]:List qbh) false ([]:List qar) ([]:List qab) ([]:List qab) ([]:List qag) ([]:List SS) false]++x5))) fun⟨x10,x11⟩=>
 bnd (qa5 (x9==x11) (qcu n x8 x10)) fun x12=>
 bnd (qa5 (bif(x9==x11)then x12 else false) (qdu n)) fun x13=>
 some (bif(bif(x9==x11)then x12 else false)then x13 else false))))
theorem q0i (n:Nat):∀ (a0z:qg3) (r:Bool),qp6 n a0z=some r→qae Tryz.prog 8 [PV.agg (qys.cells a0z)] (q17 r):=by
 intro a0z r h
 obtain⟨x1⟩:=a0z
 unfold qp6 at h
 refine qae.of_vcN qa3 (fun _ _=>Tryz.call8 _ _) Tryz.func8 (by kernel_rfl) (inl:=[10000025,30000025,30000026,1000000]) ?_
 conv=>whnf
 replace h:=qaa h
 obtain⟨x2,h11,h⟩:=h
 refine⟨_,(qoh n _ _ h11),?_⟩
 conv=>whnf
 refine⟨id,id,id,id,id,?_⟩
 conv=>whnf
 replace h:=qaa h
 obtain⟨x3,h10,h⟩:=h
 refine⟨_,fun hg=>(qpf n _ _ (qah h10 hg)),?_⟩
 conv=>whnf
 refine⟨id,id,?_⟩
 conv=>whnf
 refine ifc h (fun hc h=>?_) (fun hc h=>?_)
 ·conv=>whnf
  replace h:=qaa h
  obtain⟨x4,h1,h⟩:=h
  refine⟨_,(qc7 n _ h1),?_⟩
  obtain rfl:=sj h
  conv=>whnf
  try exact fin
 ·conv=>whnf
  refine⟨by repeat (first|exact List.forall_mem_nil _|refine List.forall_mem_cons.2 ⟨⟨rfl,rfl⟩,?_⟩),qad.rows [qad.mk (2:Int) ([]:List qa9) ([]:List qab) (qab.mk (5:Int) ([]:SS) (Val.mk (0:Int) false (0:Int) ([]:SS) ([]:List Val) ([]:List SS)) ([]:List SS) ([]:List qab)) ([105,100,108,101]:SS) ([]:List qbh) false ([]:List qar) ([]:List qab) ([]:List qab) ([]:List qag) ([]:List SS) false],.inr (by try exact fin),?_⟩
  conv=>whnf
  replace h:=qaa h
  obtain⟨⟨x5⟩,h9,h⟩:=h
  refine⟨_,(qwk n _ _ _ h9),?_⟩
  conv=>whnf
  replace h:=qaa h
  obtain⟨x6,h8,h⟩:=h
  refine⟨_,(qpf n _ _ h8),?_⟩
  conv=>whnf
  refine ifc h (fun hc h=>?_) (fun hc h=>?_)
  ·conv=>whnf
   replace h:=qaa h
   obtain⟨x7,h2,h⟩:=h
   refine⟨_,(qc7 n _ h2),?_⟩
   obtain rfl:=sj h
   conv=>whnf
   try exact fin
  ·conv=>whnf
   rw[show qad.rows [qad.mk (2:Int) ([]:List qa9) ([]:List qab) (qab.mk (5:Int) ([]:SS) (Val.mk (0:Int) false (0:Int) ([]:SS) ([]:List Val) ([]:List SS)) ([]:List SS) ([]:List qab)) ([105,100,108,101]:SS) ([]:List qbh) false ([]:List qar) ([]:List qab) ([]:List qab) ([]:List qag) ([]:List SS) false]++qad.rows x5=qad.rows ([qad.mk (2:Int) ([]:List qa9) ([]:List qab) (qab.mk (5:Int) ([]:SS) (Val.mk (0:Int) false (0:Int) ([]:SS) ([]:List Val) ([]:List SS)) ([]:List SS) ([]:List qab)) ([105,100,108,101]:SS) ([]:List qbh) false ([]:List qar) ([]:List qab) ([]:List qab) ([]:List qag) ([]:List SS) false]++x5)from Codec.append qcw [qad.mk (2:Int) ([]:List qa9) ([]:List qab) (qab.mk (5:Int) ([]:SS) (Val.mk (0:Int) false (0:Int) ([]:SS) ([]:List Val) ([]:List SS)) ([]:List SS) ([]:List qab)) ([105,100,108,101]:SS) ([]:List qbh) false ([]:List qar) ([]:List qab) ([]:List qab) ([]:List qag) ([]:List SS) false] x5]
   conv=>whnf
   obtain⟨h7,h⟩:=qaw h
   refine⟨⟨Codec.wide qcw ([qad.mk (2:Int) ([]:List qa9) ([]:List qab) (qab.mk (5:Int) ([]:SS) (Val.mk (0:Int) false (0:Int) ([]:SS) ([]:List Val) ([]:List SS)) ([]:List SS) ([]:List qab)) ([105,100,108,101]:SS) ([]:List qbh) false ([]:List qar) ([]:List qab) ([]:List qab) ([]:List qag) ([]:List SS) false]++x5),of_decide_eq_true h7,qdx h7 (by decide)⟩,?_⟩
   conv=>whnf
   refine⟨⟨rfl,rfl,rfl⟩,?_⟩
   conv=>whnf
   replace h:=qaa h
   obtain⟨⟨x8,x9⟩,h6,h⟩:=h
   refine⟨_,(qdz n _ _ h6),?_⟩
   conv=>whnf
   replace h:=qaa h
   obtain⟨⟨x10,x11⟩,h5,h⟩:=h
   refine⟨_,(qdz n _ _ h5),?_⟩
   conv=>whnf
   refine⟨id,id,?_⟩
   conv=>whnf
   replace h:=qaa h
   obtain⟨x12,h4,h⟩:=h
   refine⟨_,fun hg=>(qdh n _ _ _ (qah h4 hg)),?_⟩
   conv=>whnf
   refine⟨id,?_⟩
   conv=>whnf
   replace h:=qaa h
   obtain⟨x13,h3,h⟩:=h
   refine⟨_,fun hg=>(qc7 n _ (qah h3 hg)),?_⟩
   conv=>whnf
   refine⟨id,?_⟩
   obtain rfl:=sj h
   conv=>whnf
   try exact fin
end W
end
