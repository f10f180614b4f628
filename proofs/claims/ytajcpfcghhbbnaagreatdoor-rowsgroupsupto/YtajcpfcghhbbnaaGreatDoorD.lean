/- A part of the proof. -/
import Derived.DataShut
import Derived.Deep.AppendLies
import Derived.Deep.RegionHeld3
import Derived.Deep.RegionLaw
import Derived.Maps.AppendAt
import Derived.Maps.OwnSet
import Derived.Maps.Views
import Derived.OrdersHeld
import Derived.StringKeys
import Derived.Test.YtajcpfcghhbbnaaGreatDoorC
set_option linter.all false
section
open Go Go.Proofs Ax
namespace W
abbrev R_F_slices_symMergeCmpFunc_int__rows_Sort_c1 (x7:List Int) (r:(List Int)):FV:=.p (.tup [])
abbrev L_F_slices_symMergeCmpFunc_int__rows_Sort_c1 (x7:List Int) (r:(List Int)):List AObj:=[.vec 3 1 (intRows .i64 r)]
def F_slices_symMergeCmpFunc_int__rows_Sort_c1_k18 (n:Nat) (x2:Int) (x4:Int) (x3:Int) (x10:Int) (x11:Int) (x1:Nat) (x7:List Int) (x5:List (List Val)) (x6:List Bool) (nx1:Int × Int → Option ((List Int))):Unit → Option ((List Int)):=fun _ =>
 bnd (natI (IntKind.i64.wrap ((IntKind.i64.wrap ((IntKind.i64.wrap ((IntKind.i64.wrap (Int.fdiv (IntKind.u64.wrap (IntKind.i64.wrap (x2 + x4))) (2 ^ (min (Int.toNat (1:Int)) IntKind.u64.bits)))) + x3)) - (1:Int))) - (IntKind.i64.wrap (Int.fdiv (IntKind.u64.wrap (IntKind.i64.wrap (x10 + x11))) (2 ^ (min (Int.toNat (1:Int)) IntKind.u64.bits))))))) fun x12 =>
 chk (decide (x12 < x1)) (
 bnd (x7[x12]?) fun x13 =>
 bnd (natI (IntKind.i64.wrap (Int.fdiv (IntKind.u64.wrap (IntKind.i64.wrap (x10 + x11))) (2 ^ (min (Int.toNat (1:Int)) IntKind.u64.bits))))) fun x14 =>
 chk (decide (x14 < x1)) (
 bnd (x7[x14]?) fun x15 =>
 bnd (F_rows_Sort_c1 n x13 x15 x5 x6) fun x16 =>
 bif (!(decide (x16 < (0:Int)))) then (
 nx1 ((IntKind.i64.wrap ((IntKind.i64.wrap (Int.fdiv (IntKind.u64.wrap (IntKind.i64.wrap (x10 + x11))) (2 ^ (min (Int.toNat (1:Int)) IntKind.u64.bits)))) + (1:Int))),x11))
else (
 nx1 (x10,(IntKind.i64.wrap (Int.fdiv (IntKind.u64.wrap (IntKind.i64.wrap (x10 + x11))) (2 ^ (min (Int.toNat (1:Int)) IntKind.u64.bits))))))))
def F_slices_symMergeCmpFunc_int__rows_Sort_c1_k20 (n:Nat) (x2:Int) (x4:Int) (x3:Int) (x10:Int) (g70_40:Nat → Int → Int → Int → (List (List Val)) → (List Bool) → (List Int) → Option ((List Int))) (x1:Nat) (x5:List (List Val)) (x6:List Bool):List Int → Option ((List Int)):=fun x18 =>
 bif (bif (decide ((IntKind.i64.wrap (Int.fdiv (IntKind.u64.wrap (IntKind.i64.wrap (x2 + x4))) (2 ^ (min (Int.toNat (1:Int)) IntKind.u64.bits)))) < (IntKind.i64.wrap ((IntKind.i64.wrap ((IntKind.i64.wrap (Int.fdiv (IntKind.u64.wrap (IntKind.i64.wrap (x2 + x4))) (2 ^ (min (Int.toNat (1:Int)) IntKind.u64.bits)))) + x3)) - x10)))) then (decide ((IntKind.i64.wrap ((IntKind.i64.wrap ((IntKind.i64.wrap (Int.fdiv (IntKind.u64.wrap (IntKind.i64.wrap (x2 + x4))) (2 ^ (min (Int.toNat (1:Int)) IntKind.u64.bits)))) + x3)) - x10)) < x4)) else false) then (
 bnd (g70_40 x1 (IntKind.i64.wrap (Int.fdiv (IntKind.u64.wrap (IntKind.i64.wrap (x2 + x4))) (2 ^ (min (Int.toNat (1:Int)) IntKind.u64.bits)))) (IntKind.i64.wrap ((IntKind.i64.wrap ((IntKind.i64.wrap (Int.fdiv (IntKind.u64.wrap (IntKind.i64.wrap (x2 + x4))) (2 ^ (min (Int.toNat (1:Int)) IntKind.u64.bits)))) + x3)) - x10)) x4 x5 x6 x18) fun x19 =>
 some x19)
else (
 some x18)
def F_slices_symMergeCmpFunc_int__rows_Sort_c1_k19 (n:Nat) (x2:Int) (x10:Int) (x4:Int) (g70_40:Nat → Int → Int → Int → (List (List Val)) → (List Bool) → (List Int) → Option ((List Int))) (x1:Nat) (x5:List (List Val)) (x6:List Bool) (x3:Int):List Int → Option ((List Int)):=fun x17 =>
 bif (bif (decide (x2 < x10)) then (decide (x10 < (IntKind.i64.wrap (Int.fdiv (IntKind.u64.wrap (IntKind.i64.wrap (x2 + x4))) (2 ^ (min (Int.toNat (1:Int)) IntKind.u64.bits)))))) else false) then (
 bnd (g70_40 x1 x2 x10 (IntKind.i64.wrap (Int.fdiv (IntKind.u64.wrap (IntKind.i64.wrap (x2 + x4))) (2 ^ (min (Int.toNat (1:Int)) IntKind.u64.bits)))) x5 x6 x17) fun x20 =>
 F_slices_symMergeCmpFunc_int__rows_Sort_c1_k20 n x2 x4 x3 x10 g70_40 x1 x5 x6 x20)
else (
 F_slices_symMergeCmpFunc_int__rows_Sort_c1_k20 n x2 x4 x3 x10 g70_40 x1 x5 x6 x17)
def F_slices_symMergeCmpFunc_int__rows_Sort_c1_l1 (n:Nat) (x2:Int) (x4:Int) (x3:Int) (x1:Nat) (x7:List Int) (x5:List (List Val)) (x6:List Bool) (g70_40:Nat → Int → Int → Int → (List (List Val)) → (List Bool) → (List Int) → Option ((List Int))):(Int × Int → Option ((List Int))) → Int × Int → Option ((List Int)):=fun nx1 (x10,x11) =>
 bif (decide (x10 < x11)) then (
 F_slices_symMergeCmpFunc_int__rows_Sort_c1_k18 n x2 x4 x3 x10 x11 x1 x7 x5 x6 nx1 ())
else (
 bif (bif (decide (x10 < x3)) then (decide (x3 < (IntKind.i64.wrap ((IntKind.i64.wrap ((IntKind.i64.wrap (Int.fdiv (IntKind.u64.wrap (IntKind.i64.wrap (x2 + x4))) (2 ^ (min (Int.toNat (1:Int)) IntKind.u64.bits)))) + x3)) - x10)))) else false) then (
 bnd (F_slices_rotateCmpFunc_int__rows_Sort_c1 n x1 x10 x3 (IntKind.i64.wrap ((IntKind.i64.wrap ((IntKind.i64.wrap (Int.fdiv (IntKind.u64.wrap (IntKind.i64.wrap (x2 + x4))) (2 ^ (min (Int.toNat (1:Int)) IntKind.u64.bits)))) + x3)) - x10)) x5 x6 x7) fun x21 =>
 F_slices_symMergeCmpFunc_int__rows_Sort_c1_k19 n x2 x10 x4 g70_40 x1 x5 x6 x3 x21)
else (
 F_slices_symMergeCmpFunc_int__rows_Sort_c1_k19 n x2 x10 x4 g70_40 x1 x5 x6 x3 x7))
def F_slices_symMergeCmpFunc_int__rows_Sort_c1_k15 (n:Nat) (x2:Int) (x4:Int) (x3:Int) (x1:Nat) (x7:List Int) (x5:List (List Val)) (x6:List Bool) (g70_40:Nat → Int → Int → Int → (List (List Val)) → (List Bool) → (List Int) → Option ((List Int))):Int × Int → Option ((List Int)):=fun (x8,x9) =>
 loopK (F_slices_symMergeCmpFunc_int__rows_Sort_c1_l1 n x2 x4 x3 x1 x7 x5 x6 g70_40) n (x8,x9)
def F_slices_symMergeCmpFunc_int__rows_Sort_c1_k14 (n:Nat) (x3:Int) (x2:Int) (x4:Int) (x1:Nat) (x7:List Int) (x5:List (List Val)) (x6:List Bool) (g70_40:Nat → Int → Int → Int → (List (List Val)) → (List Bool) → (List Int) → Option ((List Int))):Unit → Option ((List Int)):=fun _ =>
 bif (decide (x3 > (IntKind.i64.wrap (Int.fdiv (IntKind.u64.wrap (IntKind.i64.wrap (x2 + x4))) (2 ^ (min (Int.toNat (1:Int)) IntKind.u64.bits)))))) then (
 F_slices_symMergeCmpFunc_int__rows_Sort_c1_k15 n x2 x4 x3 x1 x7 x5 x6 g70_40 ((IntKind.i64.wrap ((IntKind.i64.wrap ((IntKind.i64.wrap (Int.fdiv (IntKind.u64.wrap (IntKind.i64.wrap (x2 + x4))) (2 ^ (min (Int.toNat (1:Int)) IntKind.u64.bits)))) + x3)) - x4)),(IntKind.i64.wrap (Int.fdiv (IntKind.u64.wrap (IntKind.i64.wrap (x2 + x4))) (2 ^ (min (Int.toNat (1:Int)) IntKind.u64.bits))))))
else (
 F_slices_symMergeCmpFunc_int__rows_Sort_c1_k15 n x2 x4 x3 x1 x7 x5 x6 g70_40 (x2,x3))
def F_slices_symMergeCmpFunc_int__rows_Sort_c1_k23 (n:Nat) (x3:Int) (x1:Nat) (x7:List Int) (x22:Int) (x23:Int) (x5:List (List Val)) (x6:List Bool) (nx2:Int × Int → Option ((List Int))):Unit → Option ((List Int)):=fun _ =>
 bnd (natI x3) fun x24 =>
 chk (decide (x24 < x1)) (
 bnd (x7[x24]?) fun x25 =>
 bnd (natI (IntKind.i64.wrap (Int.fdiv (IntKind.u64.wrap (IntKind.i64.wrap (x22 + x23))) (2 ^ (min (Int.toNat (1:Int)) IntKind.u64.bits))))) fun x26 =>
 chk (decide (x26 < x1)) (
 bnd (x7[x26]?) fun x27 =>
 bnd (F_rows_Sort_c1 n x25 x27 x5 x6) fun x28 =>
 bif (!(decide (x28 < (0:Int)))) then (
 nx2 ((IntKind.i64.wrap ((IntKind.i64.wrap (Int.fdiv (IntKind.u64.wrap (IntKind.i64.wrap (x22 + x23))) (2 ^ (min (Int.toNat (1:Int)) IntKind.u64.bits)))) + (1:Int))),x23))
else (
 nx2 (x22,(IntKind.i64.wrap (Int.fdiv (IntKind.u64.wrap (IntKind.i64.wrap (x22 + x23))) (2 ^ (min (Int.toNat (1:Int)) IntKind.u64.bits))))))))
def F_slices_symMergeCmpFunc_int__rows_Sort_c1_k26 (n:Nat) (x29:Int) (x1:Nat) (x30:List Int) (nx3:Int × List Int → Option ((List Int))):Unit → Option ((List Int)):=fun _ =>
 bnd (natI (IntKind.i64.wrap (x29 - (1:Int)))) fun x31 =>
 chk (decide (x31 < x1)) (
 bnd (x30[x31]?) fun x32 =>
 bnd (natI x29) fun x33 =>
 chk (decide (x33 < x1)) (
 bnd (x30[x33]?) fun x34 =>
 bnd (natI x29) fun x35 =>
 chk (decide (x35 < x1)) (
 bnd (x30[x35]?) fun x36 =>
 bnd (natI (IntKind.i64.wrap (x29 - (1:Int)))) fun x37 =>
 chk (decide (x37 < x1)) (
 bnd ((x30.set x35 x32)[x37]?) fun x38 =>
 nx3 ((IntKind.i64.wrap (x29 - (1:Int))),((x30.set x35 x32).set x37 x34))))))
def F_slices_symMergeCmpFunc_int__rows_Sort_c1_l3 (n:Nat) (x22:Int) (x1:Nat):(Int × List Int → Option ((List Int))) → Int × List Int → Option ((List Int)):=fun nx3 (x29,x30) =>
 bif (decide (x29 > x22)) then (
 F_slices_symMergeCmpFunc_int__rows_Sort_c1_k26 n x29 x1 x30 nx3 ())
else (
 some x30)
def F_slices_symMergeCmpFunc_int__rows_Sort_c1_l2 (n:Nat) (x3:Int) (x1:Nat) (x7:List Int) (x5:List (List Val)) (x6:List Bool):(Int × Int → Option ((List Int))) → Int × Int → Option ((List Int)):=fun nx2 (x22,x23) =>
 bif (decide (x22 < x23)) then (
 F_slices_symMergeCmpFunc_int__rows_Sort_c1_k23 n x3 x1 x7 x22 x23 x5 x6 nx2 ())
else (
 loopK (F_slices_symMergeCmpFunc_int__rows_Sort_c1_l3 n x22 x1) n (x3,x7))
def F_slices_symMergeCmpFunc_int__rows_Sort_c1_k7 (n:Nat) (x4:Int) (x3:Int) (x1:Nat) (x7:List Int) (x5:List (List Val)) (x6:List Bool) (x2:Int) (g70_40:Nat → Int → Int → Int → (List (List Val)) → (List Bool) → (List Int) → Option ((List Int))):Unit → Option ((List Int)):=fun _ =>
 bif ((IntKind.i64.wrap (x4 - x3)) == (1:Int)) then (
 loopK (F_slices_symMergeCmpFunc_int__rows_Sort_c1_l2 n x3 x1 x7 x5 x6) n (x2,x3))
else (
 F_slices_symMergeCmpFunc_int__rows_Sort_c1_k14 n x3 x2 x4 x1 x7 x5 x6 g70_40 ())
def F_slices_symMergeCmpFunc_int__rows_Sort_c1_k29 (n:Nat) (x39:Int) (x40:Int) (x1:Nat) (x7:List Int) (x2:Int) (x5:List (List Val)) (x6:List Bool) (nx4:Int × Int → Option ((List Int))):Unit → Option ((List Int)):=fun _ =>
 bnd (natI (IntKind.i64.wrap (Int.fdiv (IntKind.u64.wrap (IntKind.i64.wrap (x39 + x40))) (2 ^ (min (Int.toNat (1:Int)) IntKind.u64.bits))))) fun x41 =>
 chk (decide (x41 < x1)) (
 bnd (x7[x41]?) fun x42 =>
 bnd (natI x2) fun x43 =>
 chk (decide (x43 < x1)) (
 bnd (x7[x43]?) fun x44 =>
 bnd (F_rows_Sort_c1 n x42 x44 x5 x6) fun x45 =>
 bif (decide (x45 < (0:Int))) then (
 nx4 ((IntKind.i64.wrap ((IntKind.i64.wrap (Int.fdiv (IntKind.u64.wrap (IntKind.i64.wrap (x39 + x40))) (2 ^ (min (Int.toNat (1:Int)) IntKind.u64.bits)))) + (1:Int))),x40))
else (
 nx4 (x39,(IntKind.i64.wrap (Int.fdiv (IntKind.u64.wrap (IntKind.i64.wrap (x39 + x40))) (2 ^ (min (Int.toNat (1:Int)) IntKind.u64.bits))))))))
def F_slices_symMergeCmpFunc_int__rows_Sort_c1_k32 (n:Nat) (x46:Int) (x1:Nat) (x47:List Int) (nx5:Int × List Int → Option ((List Int))):Unit → Option ((List Int)):=fun _ =>
 bnd (natI (IntKind.i64.wrap (x46 + (1:Int)))) fun x48 =>
 chk (decide (x48 < x1)) (
 bnd (x47[x48]?) fun x49 =>
 bnd (natI x46) fun x50 =>
 chk (decide (x50 < x1)) (
 bnd (x47[x50]?) fun x51 =>
 bnd (natI x46) fun x52 =>
 chk (decide (x52 < x1)) (
 bnd (x47[x52]?) fun x53 =>
 bnd (natI (IntKind.i64.wrap (x46 + (1:Int)))) fun x54 =>
 chk (decide (x54 < x1)) (
 bnd ((x47.set x52 x49)[x54]?) fun x55 =>
 nx5 ((IntKind.i64.wrap (x46 + (1:Int))),((x47.set x52 x49).set x54 x51))))))
def F_slices_symMergeCmpFunc_int__rows_Sort_c1_l5 (n:Nat) (x39:Int) (x1:Nat):(Int × List Int → Option ((List Int))) → Int × List Int → Option ((List Int)):=fun nx5 (x46,x47) =>
 bif (decide (x46 < (IntKind.i64.wrap (x39 - (1:Int))))) then (
 F_slices_symMergeCmpFunc_int__rows_Sort_c1_k32 n x46 x1 x47 nx5 ())
else (
 some x47)
def F_slices_symMergeCmpFunc_int__rows_Sort_c1_l4 (n:Nat) (x1:Nat) (x7:List Int) (x2:Int) (x5:List (List Val)) (x6:List Bool):(Int × Int → Option ((List Int))) → Int × Int → Option ((List Int)):=fun nx4 (x39,x40) =>
 bif (decide (x39 < x40)) then (
 F_slices_symMergeCmpFunc_int__rows_Sort_c1_k29 n x39 x40 x1 x7 x2 x5 x6 nx4 ())
else (
 loopK (F_slices_symMergeCmpFunc_int__rows_Sort_c1_l5 n x39 x1) n (x2,x7))
def BF_slices_symMergeCmpFunc_int__rows_Sort_c1 (n:Nat) (g70_40:Nat → Int → Int → Int → (List (List Val)) → (List Bool) → (List Int) → Option ((List Int))) (x1:Nat) (x2:Int) (x3:Int) (x4:Int) (x5:List (List Val)) (x6:List Bool) (x7:List Int):Option ((List Int)) :=
 bif ((IntKind.i64.wrap (x3 - x2)) == (1:Int)) then (
 loopK (F_slices_symMergeCmpFunc_int__rows_Sort_c1_l4 n x1 x7 x2 x5 x6) n (x3,x4))
 else (
 F_slices_symMergeCmpFunc_int__rows_Sort_c1_k7 n x4 x3 x1 x7 x5 x6 x2 g70_40 ())
set_option maxHeartbeats 20000000 in
set_option maxRecDepth 100000 in
theorem BF_slices_symMergeCmpFunc_int__rows_Sort_c1_ok (n:Nat) (g70_40:Nat → Int → Int → Int → (List (List Val)) → (List Bool) → (List Int) → Option ((List Int))) (g70_40_ok:∀ (x1:Nat) (x2:Int) (x3:Int) (x4:Int) (x5:List (List Val)) (x6:List Bool) (x7:List Int) (r:(List Int)),g70_40 x1 x2 x3 x4 x5 x6 x7 = some r → CallsO Tryz.prog 70 [.vsl 0 x1,.p (PV.int .i64 x2),.p (PV.int .i64 x3),.p (PV.int .i64 x4),.p (PV.clo 40 [PV.hp [PV.sl (slRows valC x5)],PV.hp [PV.sl (boolRows x6)]])] [.vec 3 1 (intRows .i64 x7)] 1 (fun v lo=>v = R_F_slices_symMergeCmpFunc_int__rows_Sort_c1 x7 r ∧ lo = L_F_slices_symMergeCmpFunc_int__rows_Sort_c1 x7 r)):∀ (x1:Nat) (x2:Int) (x3:Int) (x4:Int) (x5:List (List Val)) (x6:List Bool) (x7:List Int) (r:(List Int)),BF_slices_symMergeCmpFunc_int__rows_Sort_c1 n g70_40 x1 x2 x3 x4 x5 x6 x7 = some r → CallsO Tryz.prog 70 [.vsl 0 x1,.p (PV.int .i64 x2),.p (PV.int .i64 x3),.p (PV.int .i64 x4),.p (PV.clo 40 [PV.hp [PV.sl (slRows valC x5)],PV.hp [PV.sl (boolRows x6)]])] [.vec 3 1 (intRows .i64 x7)] 1 (fun v lo=>v = R_F_slices_symMergeCmpFunc_int__rows_Sort_c1 x7 r ∧ lo = L_F_slices_symMergeCmpFunc_int__rows_Sort_c1 x7 r):=by
 intro x1 x2 x3 x4 x5 x6 x7 r h
 unfold BF_slices_symMergeCmpFunc_int__rows_Sort_c1 at h
 refine CallsO.of_vc mixed (fun _ _=>Tryz.call70 _ _) Tryz.func70 (by kernel_rfl) (inl:=[70,79,1000001,1000000]) (Nat.le_of_ble_eq_true rfl) ?_
 conv=>whnf
 refine SeqA.cut (S:=Unit) (fun _=>[(0,.vsl 0 x1),(1,.p (.int .i64 x2)),(2,.p (.int .i64 x3)),(3,.p (.int .i64 x4)),(4,.p (.clo 40 [PV.hp [PV.sl (slRows valC x5)],PV.hp [PV.sl (boolRows x6)]]))]) (fun _=>[.vec 3 1 (intRows .i64 x7)]) (F_slices_symMergeCmpFunc_int__rows_Sort_c1_k7 n x4 x3 x1 x7 x5 x6 x2 g70_40) (r:=r) ?_ ?_
 ·intro _ h
  unfold F_slices_symMergeCmpFunc_int__rows_Sort_c1_k7 at h
  conv=>whnf
  refine SeqA.cut (S:=Unit) (fun _=>[(0,.vsl 0 x1),(1,.p (.int .i64 x2)),(2,.p (.int .i64 x3)),(3,.p (.int .i64 x4)),(4,.p (.clo 40 [PV.hp [PV.sl (slRows valC x5)],PV.hp [PV.sl (boolRows x6)]]))]) (fun _=>[.vec 3 1 (intRows .i64 x7)]) (F_slices_symMergeCmpFunc_int__rows_Sort_c1_k14 n x3 x2 x4 x1 x7 x5 x6 g70_40) (r:=r) ?_ ?_
  ·intro _ h
   unfold F_slices_symMergeCmpFunc_int__rows_Sort_c1_k14 at h
   conv=>whnf
   refine ⟨by unfold gI; decide,?_⟩
   conv=>whnf
   refine SeqA.cut (S:=Int × Int) (fun (x8,x9)=>[(0,.vsl 0 x1),(1,.p (.int .i64 x2)),(2,.p (.int .i64 x3)),(3,.p (.int .i64 x4)),(4,.p (.clo 40 [PV.hp [PV.sl (slRows valC x5)],PV.hp [PV.sl (boolRows x6)]])),(18,.p (.int .i64 (IntKind.i64.wrap (Int.fdiv (IntKind.u64.wrap (IntKind.i64.wrap (x2 + x4))) (2 ^ (min (Int.toNat (1:Int)) IntKind.u64.bits)))))),(19,.p (.int .i64 (IntKind.i64.wrap ((IntKind.i64.wrap (Int.fdiv (IntKind.u64.wrap (IntKind.i64.wrap (x2 + x4))) (2 ^ (min (Int.toNat (1:Int)) IntKind.u64.bits)))) + x3)))),(20,.p (.int .i64 x8)),(21,.p (.int .i64 x9))]) (fun (x8,x9)=>[.vec 3 1 (intRows .i64 x7)]) (F_slices_symMergeCmpFunc_int__rows_Sort_c1_k15 n x2 x4 x3 x1 x7 x5 x6 g70_40) (r:=r) ?_ ?_
   ·intro st h
    obtain ⟨x8,x9⟩:=st
    unfold F_slices_symMergeCmpFunc_int__rows_Sort_c1_k15 at h
    conv=>whnf
    refine LoopA.fn [70,79,1000001,1000000] (S:=Int × Int) (fun (x10,x11)=>[(0,.vsl 0 x1),(1,.p (.int .i64 x2)),(2,.p (.int .i64 x3)),(3,.p (.int .i64 x4)),(4,.p (.clo 40 [PV.hp [PV.sl (slRows valC x5)],PV.hp [PV.sl (boolRows x6)]])),(18,.p (.int .i64 (IntKind.i64.wrap (Int.fdiv (IntKind.u64.wrap (IntKind.i64.wrap (x2 + x4))) (2 ^ (min (Int.toNat (1:Int)) IntKind.u64.bits)))))),(19,.p (.int .i64 (IntKind.i64.wrap ((IntKind.i64.wrap (Int.fdiv (IntKind.u64.wrap (IntKind.i64.wrap (x2 + x4))) (2 ^ (min (Int.toNat (1:Int)) IntKind.u64.bits)))) + x3)))),(20,.p (.int .i64 x10)),(21,.p (.int .i64 x11)),(22,.p (.int .i64 (IntKind.i64.wrap ((IntKind.i64.wrap ((IntKind.i64.wrap (Int.fdiv (IntKind.u64.wrap (IntKind.i64.wrap (x2 + x4))) (2 ^ (min (Int.toNat (1:Int)) IntKind.u64.bits)))) + x3)) - (1:Int)))))]) (fun (x10,x11)=>[.vec 3 1 (intRows .i64 x7)]) (B:=F_slices_symMergeCmpFunc_int__rows_Sort_c1_l1 n x2 x4 x3 x1 x7 x5 x6 g70_40) h ⟨[0],[],⟨rfl,rfl,rfl,rfl⟩,by repeat (first | exact trivial | exact .inl rfl | exact rfl | exact List.not_mem_nil | (refine .inr ?_) | (refine ⟨?_,?_⟩) | exact List.length_set.symm | decide),by repeat (first | exact trivial | exact .inl rfl | exact rfl | exact List.not_mem_nil | (refine .inr ?_) | (refine ⟨?_,?_⟩) | exact List.length_set.symm | decide)⟩ ?_
    intro nx1 st h
    obtain ⟨x10,x11⟩:=st
    unfold F_slices_symMergeCmpFunc_int__rows_Sort_c1_l1 at h
    conv=>whnf
    refine SeqA.cut (S:=Unit) (fun _=>[(0,.vsl 0 x1),(1,.p (.int .i64 x2)),(2,.p (.int .i64 x3)),(3,.p (.int .i64 x4)),(4,.p (.clo 40 [PV.hp [PV.sl (slRows valC x5)],PV.hp [PV.sl (boolRows x6)]])),(18,.p (.int .i64 (IntKind.i64.wrap (Int.fdiv (IntKind.u64.wrap (IntKind.i64.wrap (x2 + x4))) (2 ^ (min (Int.toNat (1:Int)) IntKind.u64.bits)))))),(19,.p (.int .i64 (IntKind.i64.wrap ((IntKind.i64.wrap (Int.fdiv (IntKind.u64.wrap (IntKind.i64.wrap (x2 + x4))) (2 ^ (min (Int.toNat (1:Int)) IntKind.u64.bits)))) + x3)))),(20,.p (.int .i64 x10)),(21,.p (.int .i64 x11)),(22,.p (.int .i64 (IntKind.i64.wrap ((IntKind.i64.wrap ((IntKind.i64.wrap (Int.fdiv (IntKind.u64.wrap (IntKind.i64.wrap (x2 + x4))) (2 ^ (min (Int.toNat (1:Int)) IntKind.u64.bits)))) + x3)) - (1:Int)))))]) (fun _=>[.vec 3 1 (intRows .i64 x7)]) (F_slices_symMergeCmpFunc_int__rows_Sort_c1_k18 n x2 x4 x3 x10 x11 x1 x7 x5 x6 nx1) (r:=r) ?_ ?_
    ·intro _ h
     unfold F_slices_symMergeCmpFunc_int__rows_Sort_c1_k18 at h
     conv=>whnf
     refine ⟨by unfold gI; decide,?_⟩
     conv=>whnf
     replace h:=bnd_some h
     obtain ⟨x12,h7,h⟩:=h
     have hj:=natI_some h7
     conv=>whnf
     obtain ⟨h6,h⟩:=chk_some h
     refine ⟨x12,⟨hj,of_decide_eq_true h6⟩,?_⟩
     conv=>whnf
     replace h:=bnd_some h
     obtain ⟨x13,h5,h⟩:=h
     refine ⟨_,⟨rfl,Codec.getN (intC .i64) h5⟩,?_⟩
     conv=>whnf
     replace h:=bnd_some h
     obtain ⟨x14,h4,h⟩:=h
     have hj:=natI_some h4
     conv=>whnf
     obtain ⟨h3,h⟩:=chk_some h
     refine ⟨x14,⟨hj,of_decide_eq_true h3⟩,?_⟩
     conv=>whnf
     replace h:=bnd_some h
     obtain ⟨x15,h2,h⟩:=h
     refine ⟨_,⟨rfl,Codec.getN (intC .i64) h2⟩,?_⟩
     conv=>whnf
     replace h:=bnd_some h
     obtain ⟨x16,h1,h⟩:=h
     refine ⟨_,(F_rows_Sort_c1_ok n _ _ _ _  _ h1),?_⟩
     conv=>whnf
     refine ⟨fun hc=>?_,fun hc=>?_⟩
     ·replace h:=cond_t h hc
      conv=>whnf
      exact ⟨((IntKind.i64.wrap ((IntKind.i64.wrap (Int.fdiv (IntKind.u64.wrap (IntKind.i64.wrap (x10 + x11))) (2 ^ (min (Int.toNat (1:Int)) IntKind.u64.bits)))) + (1:Int))),x11),h,⟨[0],[],⟨rfl,rfl,rfl,rfl⟩,by repeat (first | exact trivial | exact .inl rfl | exact rfl | exact List.not_mem_nil | (refine .inr ?_) | (refine ⟨?_,?_⟩) | exact List.length_set.symm | decide),by repeat (first | exact trivial | exact .inl rfl | exact rfl | exact List.not_mem_nil | (refine .inr ?_) | (refine ⟨?_,?_⟩) | exact List.length_set.symm | decide)⟩⟩
     ·replace h:=cond_f h hc
      conv=>whnf
      exact ⟨(x10,(IntKind.i64.wrap (Int.fdiv (IntKind.u64.wrap (IntKind.i64.wrap (x10 + x11))) (2 ^ (min (Int.toNat (1:Int)) IntKind.u64.bits))))),h,⟨[0],[],⟨rfl,rfl,rfl,rfl⟩,by repeat (first | exact trivial | exact .inl rfl | exact rfl | exact List.not_mem_nil | (refine .inr ?_) | (refine ⟨?_,?_⟩) | exact List.length_set.symm | decide),by repeat (first | exact trivial | exact .inl rfl | exact rfl | exact List.not_mem_nil | (refine .inr ?_) | (refine ⟨?_,?_⟩) | exact List.length_set.symm | decide)⟩⟩
    ·conv=>whnf
     refine ⟨fun hc=>?_,fun hc=>?_⟩
     ·replace h:=cond_t h hc
      conv=>whnf
      exact ⟨(),h,⟨[0],[],⟨rfl,rfl,rfl,rfl⟩,by repeat (first | exact trivial | exact .inl rfl | exact rfl | exact List.not_mem_nil | (refine .inr ?_) | (refine ⟨?_,?_⟩) | exact List.length_set.symm | decide),by repeat (first | exact trivial | exact .inl rfl | exact rfl | exact List.not_mem_nil | (refine .inr ?_) | (refine ⟨?_,?_⟩) | exact List.length_set.symm | decide)⟩⟩
     ·replace h:=cond_f h hc
      conv=>whnf
      refine SeqA.cut (S:=List Int) (fun x17=>[(0,.vsl 0 x1),(1,.p (.int .i64 x2)),(3,.p (.int .i64 x4)),(4,.p (.clo 40 [PV.hp [PV.sl (slRows valC x5)],PV.hp [PV.sl (boolRows x6)]])),(18,.p (.int .i64 (IntKind.i64.wrap (Int.fdiv (IntKind.u64.wrap (IntKind.i64.wrap (x2 + x4))) (2 ^ (min (Int.toNat (1:Int)) IntKind.u64.bits)))))),(20,.p (.int .i64 x10)),(24,.p (.int .i64 (IntKind.i64.wrap ((IntKind.i64.wrap ((IntKind.i64.wrap (Int.fdiv (IntKind.u64.wrap (IntKind.i64.wrap (x2 + x4))) (2 ^ (min (Int.toNat (1:Int)) IntKind.u64.bits)))) + x3)) - x10))))]) (fun x17=>[.vec 3 1 (intRows .i64 x17)]) (F_slices_symMergeCmpFunc_int__rows_Sort_c1_k19 n x2 x10 x4 g70_40 x1 x5 x6 x3) (r:=r) ?_ ?_
      ·intro x17 h
       unfold F_slices_symMergeCmpFunc_int__rows_Sort_c1_k19 at h
       conv=>whnf
       refine SeqA.cut (S:=List Int) (fun x18=>[(0,.vsl 0 x1),(3,.p (.int .i64 x4)),(4,.p (.clo 40 [PV.hp [PV.sl (slRows valC x5)],PV.hp [PV.sl (boolRows x6)]])),(18,.p (.int .i64 (IntKind.i64.wrap (Int.fdiv (IntKind.u64.wrap (IntKind.i64.wrap (x2 + x4))) (2 ^ (min (Int.toNat (1:Int)) IntKind.u64.bits)))))),(24,.p (.int .i64 (IntKind.i64.wrap ((IntKind.i64.wrap ((IntKind.i64.wrap (Int.fdiv (IntKind.u64.wrap (IntKind.i64.wrap (x2 + x4))) (2 ^ (min (Int.toNat (1:Int)) IntKind.u64.bits)))) + x3)) - x10))))]) (fun x18=>[.vec 3 1 (intRows .i64 x18)]) (F_slices_symMergeCmpFunc_int__rows_Sort_c1_k20 n x2 x4 x3 x10 g70_40 x1 x5 x6) (r:=r) ?_ ?_
       ·intro x18 h
        unfold F_slices_symMergeCmpFunc_int__rows_Sort_c1_k20 at h
        conv=>whnf
        iterate 3 (refine And.intro (fun h=>h) ?_)
        conv=>whnf
        refine ⟨fun hc=>?_,fun hc=>?_⟩
        ·replace h:=cond_t h hc
         conv=>whnf
         replace h:=bnd_some h
         obtain ⟨x19,h8,h⟩:=h
         refine CallsO.use (g70_40_ok _ _ _ _ _ _ _ _  h8) [0] [] ⟨rfl,rfl,rfl,rfl,rfl,rfl⟩ (by repeat (first | exact trivial | exact .inl rfl | exact rfl | exact List.not_mem_nil | (refine .inr ?_) | (refine ⟨?_,?_⟩) | exact List.length_set.symm | decide)) (by repeat (first | exact trivial | exact .inl rfl | exact rfl | exact List.not_mem_nil | (refine .inr ?_) | (refine ⟨?_,?_⟩) | exact List.length_set.symm | decide)) ?_
         rintro _ _ ⟨rfl,rfl⟩
         refine ⟨.p (.tup []),[.vec 3 1 (intRows .i64 x19)],rfl,rfl,?_⟩
         obtain rfl:=Option.some.inj h
         conv=>whnf
         refine ⟨_,_,⟨rfl,rfl⟩,⟨[0],[],⟨rfl,rfl,rfl,rfl⟩,by repeat (first | exact trivial | exact .inl rfl | exact rfl | exact List.not_mem_nil | (refine .inr ?_) | (refine ⟨?_,?_⟩) | exact List.length_set.symm | decide),by repeat (first | exact trivial | exact .inl rfl | exact rfl | exact List.not_mem_nil | (refine .inr ?_) | (refine ⟨?_,?_⟩) | exact List.length_set.symm | decide)⟩⟩
        ·replace h:=cond_f h hc
         obtain rfl:=Option.some.inj h
         conv=>whnf
         refine ⟨_,_,⟨rfl,rfl⟩,⟨[0],[],⟨rfl,rfl,rfl,rfl⟩,by repeat (first | exact trivial | exact .inl rfl | exact rfl | exact List.not_mem_nil | (refine .inr ?_) | (refine ⟨?_,?_⟩) | exact List.length_set.symm | decide),by repeat (first | exact trivial | exact .inl rfl | exact rfl | exact List.not_mem_nil | (refine .inr ?_) | (refine ⟨?_,?_⟩) | exact List.length_set.symm | decide)⟩⟩
       ·conv=>whnf
        refine And.intro (fun h=>h) ?_
        conv=>whnf
        iterate 2 (refine And.intro (fun h=>h) ?_)
        conv=>whnf
        refine ⟨fun hc=>?_,fun hc=>?_⟩
        ·replace h:=cond_t h hc
         conv=>whnf
         replace h:=bnd_some h
         obtain ⟨x20,h9,h⟩:=h
         refine CallsO.use (g70_40_ok _ _ _ _ _ _ _ _  h9) [0] [] ⟨rfl,rfl,rfl,rfl,rfl,rfl⟩ (by repeat (first | exact trivial | exact .inl rfl | exact rfl | exact List.not_mem_nil | (refine .inr ?_) | (refine ⟨?_,?_⟩) | exact List.length_set.symm | decide)) (by repeat (first | exact trivial | exact .inl rfl | exact rfl | exact List.not_mem_nil | (refine .inr ?_) | (refine ⟨?_,?_⟩) | exact List.length_set.symm | decide)) ?_
         rintro _ _ ⟨rfl,rfl⟩
         refine ⟨.p (.tup []),[.vec 3 1 (intRows .i64 x20)],rfl,rfl,?_⟩
         conv=>whnf
         exact ⟨x20,h,⟨[0],[],⟨rfl,rfl,rfl,rfl⟩,by repeat (first | exact trivial | exact .inl rfl | exact rfl | exact List.not_mem_nil | (refine .inr ?_) | (refine ⟨?_,?_⟩) | exact List.length_set.symm | decide),by repeat (first | exact trivial | exact .inl rfl | exact rfl | exact List.not_mem_nil | (refine .inr ?_) | (refine ⟨?_,?_⟩) | exact List.length_set.symm | decide)⟩⟩
        ·replace h:=cond_f h hc
         conv=>whnf
         exact ⟨x17,h,⟨[0],[],⟨rfl,rfl,rfl,rfl⟩,by repeat (first | exact trivial | exact .inl rfl | exact rfl | exact List.not_mem_nil | (refine .inr ?_) | (refine ⟨?_,?_⟩) | exact List.length_set.symm | decide),by repeat (first | exact trivial | exact .inl rfl | exact rfl | exact List.not_mem_nil | (refine .inr ?_) | (refine ⟨?_,?_⟩) | exact List.length_set.symm | decide)⟩⟩
      ·conv=>whnf
       refine And.intro (fun h=>h) ?_
       conv=>whnf
       iterate 2 (refine And.intro (fun h=>h) ?_)
       conv=>whnf
       refine ⟨fun hc=>?_,fun hc=>?_⟩
       ·replace h:=cond_t h hc
        conv=>whnf
        replace h:=bnd_some h
        obtain ⟨x21,h10,h⟩:=h
        refine CallsO.use (F_slices_rotateCmpFunc_int__rows_Sort_c1_ok n _ _ _ _ _ _ _ _  h10) [0] [] ⟨rfl,rfl,rfl,rfl,rfl,rfl⟩ (by repeat (first | exact trivial | exact .inl rfl | exact rfl | exact List.not_mem_nil | (refine .inr ?_) | (refine ⟨?_,?_⟩) | exact List.length_set.symm | decide)) (by repeat (first | exact trivial | exact .inl rfl | exact rfl | exact List.not_mem_nil | (refine .inr ?_) | (refine ⟨?_,?_⟩) | exact List.length_set.symm | decide)) ?_
        rintro _ _ ⟨rfl,rfl⟩
        refine ⟨.p (.tup []),[.vec 3 1 (intRows .i64 x21)],rfl,rfl,?_⟩
        conv=>whnf
        exact ⟨x21,h,⟨[0],[],⟨rfl,rfl,rfl,rfl⟩,by repeat (first | exact trivial | exact .inl rfl | exact rfl | exact List.not_mem_nil | (refine .inr ?_) | (refine ⟨?_,?_⟩) | exact List.length_set.symm | decide),by repeat (first | exact trivial | exact .inl rfl | exact rfl | exact List.not_mem_nil | (refine .inr ?_) | (refine ⟨?_,?_⟩) | exact List.length_set.symm | decide)⟩⟩
       ·replace h:=cond_f h hc
        conv=>whnf
        exact ⟨x7,h,⟨[0],[],⟨rfl,rfl,rfl,rfl⟩,by repeat (first | exact trivial | exact .inl rfl | exact rfl | exact List.not_mem_nil | (refine .inr ?_) | (refine ⟨?_,?_⟩) | exact List.length_set.symm | decide),by repeat (first | exact trivial | exact .inl rfl | exact rfl | exact List.not_mem_nil | (refine .inr ?_) | (refine ⟨?_,?_⟩) | exact List.length_set.symm | decide)⟩⟩
   ·conv=>whnf
    refine ⟨fun hc=>?_,fun hc=>?_⟩
    ·replace h:=cond_t h hc
     conv=>whnf
     exact ⟨((IntKind.i64.wrap ((IntKind.i64.wrap ((IntKind.i64.wrap (Int.fdiv (IntKind.u64.wrap (IntKind.i64.wrap (x2 + x4))) (2 ^ (min (Int.toNat (1:Int)) IntKind.u64.bits)))) + x3)) - x4)),(IntKind.i64.wrap (Int.fdiv (IntKind.u64.wrap (IntKind.i64.wrap (x2 + x4))) (2 ^ (min (Int.toNat (1:Int)) IntKind.u64.bits))))),h,⟨[0],[],⟨rfl,rfl,rfl,rfl⟩,by repeat (first | exact trivial | exact .inl rfl | exact rfl | exact List.not_mem_nil | (refine .inr ?_) | (refine ⟨?_,?_⟩) | exact List.length_set.symm | decide),by repeat (first | exact trivial | exact .inl rfl | exact rfl | exact List.not_mem_nil | (refine .inr ?_) | (refine ⟨?_,?_⟩) | exact List.length_set.symm | decide)⟩⟩
    ·replace h:=cond_f h hc
     conv=>whnf
     exact ⟨(x2,x3),h,⟨[0],[],⟨rfl,rfl,rfl,rfl⟩,by repeat (first | exact trivial | exact .inl rfl | exact rfl | exact List.not_mem_nil | (refine .inr ?_) | (refine ⟨?_,?_⟩) | exact List.length_set.symm | decide),by repeat (first | exact trivial | exact .inl rfl | exact rfl | exact List.not_mem_nil | (refine .inr ?_) | (refine ⟨?_,?_⟩) | exact List.length_set.symm | decide)⟩⟩
  ·conv=>whnf
   refine ⟨fun hc=>?_,fun hc=>?_⟩
   ·replace h:=cond_t h hc
    conv=>whnf
    refine LoopA.fn [70,79,1000001,1000000] (S:=Int × Int) (fun (x22,x23)=>[(0,.vsl 0 x1),(2,.p (.int .i64 x3)),(4,.p (.clo 40 [PV.hp [PV.sl (slRows valC x5)],PV.hp [PV.sl (boolRows x6)]])),(14,.p (.int .i64 x22)),(15,.p (.int .i64 x23))]) (fun (x22,x23)=>[.vec 3 1 (intRows .i64 x7)]) (B:=F_slices_symMergeCmpFunc_int__rows_Sort_c1_l2 n x3 x1 x7 x5 x6) h ⟨[0],[],⟨rfl,rfl,rfl,rfl⟩,by repeat (first | exact trivial | exact .inl rfl | exact rfl | exact List.not_mem_nil | (refine .inr ?_) | (refine ⟨?_,?_⟩) | exact List.length_set.symm | decide),by repeat (first | exact trivial | exact .inl rfl | exact rfl | exact List.not_mem_nil | (refine .inr ?_) | (refine ⟨?_,?_⟩) | exact List.length_set.symm | decide)⟩ ?_
    intro nx2 st h
    obtain ⟨x22,x23⟩:=st
    unfold F_slices_symMergeCmpFunc_int__rows_Sort_c1_l2 at h
    conv=>whnf
    refine SeqA.cut (S:=Unit) (fun _=>[(0,.vsl 0 x1),(2,.p (.int .i64 x3)),(4,.p (.clo 40 [PV.hp [PV.sl (slRows valC x5)],PV.hp [PV.sl (boolRows x6)]])),(14,.p (.int .i64 x22)),(15,.p (.int .i64 x23))]) (fun _=>[.vec 3 1 (intRows .i64 x7)]) (F_slices_symMergeCmpFunc_int__rows_Sort_c1_k23 n x3 x1 x7 x22 x23 x5 x6 nx2) (r:=r) ?_ ?_
    ·intro _ h
     unfold F_slices_symMergeCmpFunc_int__rows_Sort_c1_k23 at h
     conv=>whnf
     refine ⟨by unfold gI; decide,?_⟩
     conv=>whnf
     replace h:=bnd_some h
     obtain ⟨x24,h17,h⟩:=h
     have hj:=natI_some h17
     conv=>whnf
     obtain ⟨h16,h⟩:=chk_some h
     refine ⟨x24,⟨hj,of_decide_eq_true h16⟩,?_⟩
     conv=>whnf
     replace h:=bnd_some h
     obtain ⟨x25,h15,h⟩:=h
     refine ⟨_,⟨rfl,Codec.getN (intC .i64) h15⟩,?_⟩
     conv=>whnf
     replace h:=bnd_some h
     obtain ⟨x26,h14,h⟩:=h
     have hj:=natI_some h14
     conv=>whnf
     obtain ⟨h13,h⟩:=chk_some h
     refine ⟨x26,⟨hj,of_decide_eq_true h13⟩,?_⟩
     conv=>whnf
     replace h:=bnd_some h
     obtain ⟨x27,h12,h⟩:=h
     refine ⟨_,⟨rfl,Codec.getN (intC .i64) h12⟩,?_⟩
     conv=>whnf
     replace h:=bnd_some h
     obtain ⟨x28,h11,h⟩:=h
     refine ⟨_,(F_rows_Sort_c1_ok n _ _ _ _  _ h11),?_⟩
     conv=>whnf
     refine ⟨fun hc=>?_,fun hc=>?_⟩
     ·replace h:=cond_t h hc
      conv=>whnf
      exact ⟨((IntKind.i64.wrap ((IntKind.i64.wrap (Int.fdiv (IntKind.u64.wrap (IntKind.i64.wrap (x22 + x23))) (2 ^ (min (Int.toNat (1:Int)) IntKind.u64.bits)))) + (1:Int))),x23),h,⟨[0],[],⟨rfl,rfl,rfl,rfl⟩,by repeat (first | exact trivial | exact .inl rfl | exact rfl | exact List.not_mem_nil | (refine .inr ?_) | (refine ⟨?_,?_⟩) | exact List.length_set.symm | decide),by repeat (first | exact trivial | exact .inl rfl | exact rfl | exact List.not_mem_nil | (refine .inr ?_) | (refine ⟨?_,?_⟩) | exact List.length_set.symm | decide)⟩⟩
     ·replace h:=cond_f h hc
      conv=>whnf
      exact ⟨(x22,(IntKind.i64.wrap (Int.fdiv (IntKind.u64.wrap (IntKind.i64.wrap (x22 + x23))) (2 ^ (min (Int.toNat (1:Int)) IntKind.u64.bits))))),h,⟨[0],[],⟨rfl,rfl,rfl,rfl⟩,by repeat (first | exact trivial | exact .inl rfl | exact rfl | exact List.not_mem_nil | (refine .inr ?_) | (refine ⟨?_,?_⟩) | exact List.length_set.symm | decide),by repeat (first | exact trivial | exact .inl rfl | exact rfl | exact List.not_mem_nil | (refine .inr ?_) | (refine ⟨?_,?_⟩) | exact List.length_set.symm | decide)⟩⟩
    ·conv=>whnf
     refine ⟨fun hc=>?_,fun hc=>?_⟩
     ·replace h:=cond_t h hc
      conv=>whnf
      exact ⟨(),h,⟨[0],[],⟨rfl,rfl,rfl,rfl⟩,by repeat (first | exact trivial | exact .inl rfl | exact rfl | exact List.not_mem_nil | (refine .inr ?_) | (refine ⟨?_,?_⟩) | exact List.length_set.symm | decide),by repeat (first | exact trivial | exact .inl rfl | exact rfl | exact List.not_mem_nil | (refine .inr ?_) | (refine ⟨?_,?_⟩) | exact List.length_set.symm | decide)⟩⟩
     ·replace h:=cond_f h hc
      conv=>whnf
      refine LoopA.fn [70,79,1000001,1000000] (S:=Int × List Int) (fun (x29,x30)=>[(0,.vsl 0 x1),(14,.p (.int .i64 x22)),(17,.p (.int .i64 x29))]) (fun (x29,x30)=>[.vec 3 1 (intRows .i64 x30)]) (B:=F_slices_symMergeCmpFunc_int__rows_Sort_c1_l3 n x22 x1) h ⟨[0],[],⟨rfl,rfl,rfl,rfl⟩,by repeat (first | exact trivial | exact .inl rfl | exact rfl | exact List.not_mem_nil | (refine .inr ?_) | (refine ⟨?_,?_⟩) | exact List.length_set.symm | decide),by repeat (first | exact trivial | exact .inl rfl | exact rfl | exact List.not_mem_nil | (refine .inr ?_) | (refine ⟨?_,?_⟩) | exact List.length_set.symm | decide)⟩ ?_
      intro nx3 st h
      obtain ⟨x29,x30⟩:=st
      unfold F_slices_symMergeCmpFunc_int__rows_Sort_c1_l3 at h
      conv=>whnf
      refine SeqA.cut (S:=Unit) (fun _=>[(0,.vsl 0 x1),(14,.p (.int .i64 x22)),(17,.p (.int .i64 x29))]) (fun _=>[.vec 3 1 (intRows .i64 x30)]) (F_slices_symMergeCmpFunc_int__rows_Sort_c1_k26 n x29 x1 x30 nx3) (r:=r) ?_ ?_
      ·intro _ h
       unfold F_slices_symMergeCmpFunc_int__rows_Sort_c1_k26 at h
       conv=>whnf
       replace h:=bnd_some h
       obtain ⟨x31,h29,h⟩:=h
       have hj:=natI_some h29
       conv=>whnf
       obtain ⟨h28,h⟩:=chk_some h
       refine ⟨x31,⟨hj,of_decide_eq_true h28⟩,?_⟩
       conv=>whnf
       replace h:=bnd_some h
       obtain ⟨x32,h27,h⟩:=h
       refine ⟨_,⟨rfl,Codec.getN (intC .i64) h27⟩,?_⟩
       conv=>whnf
       replace h:=bnd_some h
       obtain ⟨x33,h26,h⟩:=h
       have hj:=natI_some h26
       conv=>whnf
       obtain ⟨h25,h⟩:=chk_some h
       refine ⟨x33,⟨hj,of_decide_eq_true h25⟩,?_⟩
       conv=>whnf
       replace h:=bnd_some h
       obtain ⟨x34,h24,h⟩:=h
       refine ⟨_,⟨rfl,Codec.getN (intC .i64) h24⟩,?_⟩
       conv=>whnf
       replace h:=bnd_some h
       obtain ⟨x35,h23,h⟩:=h
       have hj:=natI_some h23
       conv=>whnf
       obtain ⟨h22,h⟩:=chk_some h
       refine ⟨x35,⟨hj,of_decide_eq_true h22⟩,?_⟩
       conv=>whnf
       replace h:=bnd_some h
       obtain ⟨x36,h21,h⟩:=h
       refine ⟨_,⟨rfl,Codec.getN (intC .i64) h21,rfl⟩,?_⟩
       conv=>whnf
       refine ⟨_,Codec.setN (intC .i64) x30 x35 x32,?_⟩
       conv=>whnf
       replace h:=bnd_some h
       obtain ⟨x37,h20,h⟩:=h
       have hj:=natI_some h20
       conv=>whnf
       obtain ⟨h19,h⟩:=chk_some h
       refine ⟨x37,⟨hj,of_decide_eq_true h19⟩,?_⟩
       conv=>whnf
       replace h:=bnd_some h
       obtain ⟨x38,h18,h⟩:=h
       refine ⟨_,⟨rfl,Codec.getN (intC .i64) h18,rfl⟩,?_⟩
       conv=>whnf
       refine ⟨_,Codec.setN (intC .i64) (x30.set x35 x32) x37 x34,?_⟩
       conv=>whnf
       exact ⟨((IntKind.i64.wrap (x29 - (1:Int))),((x30.set x35 x32).set x37 x34)),h,⟨[0],[],⟨rfl,rfl,rfl,rfl⟩,by repeat (first | exact trivial | exact .inl rfl | exact rfl | exact List.not_mem_nil | (refine .inr ?_) | (refine ⟨?_,?_⟩) | exact List.length_set.symm | decide),by repeat (first | exact trivial | exact .inl rfl | exact rfl | exact List.not_mem_nil | (refine .inr ?_) | (refine ⟨?_,?_⟩) | exact List.length_set.symm | decide)⟩⟩
      ·conv=>whnf
       refine ⟨fun hc=>?_,fun hc=>?_⟩
       ·replace h:=cond_t h hc
        conv=>whnf
        exact ⟨(),h,⟨[0],[],⟨rfl,rfl,rfl,rfl⟩,by repeat (first | exact trivial | exact .inl rfl | exact rfl | exact List.not_mem_nil | (refine .inr ?_) | (refine ⟨?_,?_⟩) | exact List.length_set.symm | decide),by repeat (first | exact trivial | exact .inl rfl | exact rfl | exact List.not_mem_nil | (refine .inr ?_) | (refine ⟨?_,?_⟩) | exact List.length_set.symm | decide)⟩⟩
       ·replace h:=cond_f h hc
        obtain rfl:=Option.some.inj h
        conv=>whnf
        refine ⟨_,_,⟨rfl,rfl⟩,⟨[0],[],⟨rfl,rfl,rfl,rfl⟩,by repeat (first | exact trivial | exact .inl rfl | exact rfl | exact List.not_mem_nil | (refine .inr ?_) | (refine ⟨?_,?_⟩) | exact List.length_set.symm | decide),by repeat (first | exact trivial | exact .inl rfl | exact rfl | exact List.not_mem_nil | (refine .inr ?_) | (refine ⟨?_,?_⟩) | exact List.length_set.symm | decide)⟩⟩
   ·replace h:=cond_f h hc
    conv=>whnf
    exact ⟨(),h,⟨[0],[],⟨rfl,rfl,rfl,rfl⟩,by repeat (first | exact trivial | exact .inl rfl | exact rfl | exact List.not_mem_nil | (refine .inr ?_) | (refine ⟨?_,?_⟩) | exact List.length_set.symm | decide),by repeat (first | exact trivial | exact .inl rfl | exact rfl | exact List.not_mem_nil | (refine .inr ?_) | (refine ⟨?_,?_⟩) | exact List.length_set.symm | decide)⟩⟩
 ·conv=>whnf
  refine ⟨fun hc=>?_,fun hc=>?_⟩
  ·replace h:=cond_t h hc
   conv=>whnf
   refine LoopA.fn [70,79,1000001,1000000] (S:=Int × Int) (fun (x39,x40)=>[(0,.vsl 0 x1),(1,.p (.int .i64 x2)),(4,.p (.clo 40 [PV.hp [PV.sl (slRows valC x5)],PV.hp [PV.sl (boolRows x6)]])),(10,.p (.int .i64 x39)),(11,.p (.int .i64 x40))]) (fun (x39,x40)=>[.vec 3 1 (intRows .i64 x7)]) (B:=F_slices_symMergeCmpFunc_int__rows_Sort_c1_l4 n x1 x7 x2 x5 x6) h ⟨[0],[],⟨rfl,rfl,rfl,rfl⟩,by repeat (first | exact trivial | exact .inl rfl | exact rfl | exact List.not_mem_nil | (refine .inr ?_) | (refine ⟨?_,?_⟩) | exact List.length_set.symm | decide),by repeat (first | exact trivial | exact .inl rfl | exact rfl | exact List.not_mem_nil | (refine .inr ?_) | (refine ⟨?_,?_⟩) | exact List.length_set.symm | decide)⟩ ?_
   intro nx4 st h
   obtain ⟨x39,x40⟩:=st
   unfold F_slices_symMergeCmpFunc_int__rows_Sort_c1_l4 at h
   conv=>whnf
   refine SeqA.cut (S:=Unit) (fun _=>[(0,.vsl 0 x1),(1,.p (.int .i64 x2)),(4,.p (.clo 40 [PV.hp [PV.sl (slRows valC x5)],PV.hp [PV.sl (boolRows x6)]])),(10,.p (.int .i64 x39)),(11,.p (.int .i64 x40))]) (fun _=>[.vec 3 1 (intRows .i64 x7)]) (F_slices_symMergeCmpFunc_int__rows_Sort_c1_k29 n x39 x40 x1 x7 x2 x5 x6 nx4) (r:=r) ?_ ?_
   ·intro _ h
    unfold F_slices_symMergeCmpFunc_int__rows_Sort_c1_k29 at h
    conv=>whnf
    refine ⟨by unfold gI; decide,?_⟩
    conv=>whnf
    replace h:=bnd_some h
    obtain ⟨x41,h36,h⟩:=h
    have hj:=natI_some h36
    conv=>whnf
    obtain ⟨h35,h⟩:=chk_some h
    refine ⟨x41,⟨hj,of_decide_eq_true h35⟩,?_⟩
    conv=>whnf
    replace h:=bnd_some h
    obtain ⟨x42,h34,h⟩:=h
    refine ⟨_,⟨rfl,Codec.getN (intC .i64) h34⟩,?_⟩
    conv=>whnf
    replace h:=bnd_some h
    obtain ⟨x43,h33,h⟩:=h
    have hj:=natI_some h33
    conv=>whnf
    obtain ⟨h32,h⟩:=chk_some h
    refine ⟨x43,⟨hj,of_decide_eq_true h32⟩,?_⟩
    conv=>whnf
    replace h:=bnd_some h
    obtain ⟨x44,h31,h⟩:=h
    refine ⟨_,⟨rfl,Codec.getN (intC .i64) h31⟩,?_⟩
    conv=>whnf
    replace h:=bnd_some h
    obtain ⟨x45,h30,h⟩:=h
    refine ⟨_,(F_rows_Sort_c1_ok n _ _ _ _  _ h30),?_⟩
    conv=>whnf
    refine ⟨fun hc=>?_,fun hc=>?_⟩
    ·replace h:=cond_t h hc
     conv=>whnf
     exact ⟨((IntKind.i64.wrap ((IntKind.i64.wrap (Int.fdiv (IntKind.u64.wrap (IntKind.i64.wrap (x39 + x40))) (2 ^ (min (Int.toNat (1:Int)) IntKind.u64.bits)))) + (1:Int))),x40),h,⟨[0],[],⟨rfl,rfl,rfl,rfl⟩,by repeat (first | exact trivial | exact .inl rfl | exact rfl | exact List.not_mem_nil | (refine .inr ?_) | (refine ⟨?_,?_⟩) | exact List.length_set.symm | decide),by repeat (first | exact trivial | exact .inl rfl | exact rfl | exact List.not_mem_nil | (refine .inr ?_) | (refine ⟨?_,?_⟩) | exact List.length_set.symm | decide)⟩⟩
    ·replace h:=cond_f h hc
     conv=>whnf
     exact ⟨(x39,(IntKind.i64.wrap (Int.fdiv (IntKind.u64.wrap (IntKind.i64.wrap (x39 + x40))) (2 ^ (min (Int.toNat (1:Int)) IntKind.u64.bits))))),h,⟨[0],[],⟨rfl,rfl,rfl,rfl⟩,by repeat (first | exact trivial | exact .inl rfl | exact rfl | exact List.not_mem_nil | (refine .inr ?_) | (refine ⟨?_,?_⟩) | exact List.length_set.symm | decide),by repeat (first | exact trivial | exact .inl rfl | exact rfl | exact List.not_mem_nil | (refine .inr ?_) | (refine ⟨?_,?_⟩) | exact List.length_set.symm | decide)⟩⟩
   ·conv=>whnf
    refine ⟨fun hc=>?_,fun hc=>?_⟩
    ·replace h:=cond_t h hc
     conv=>whnf
     exact ⟨(),h,⟨[0],[],⟨rfl,rfl,rfl,rfl⟩,by repeat (first | exact trivial | exact .inl rfl | exact rfl | exact List.not_mem_nil | (refine .inr ?_) | (refine ⟨?_,?_⟩) | exact List.length_set.symm | decide),by repeat (first | exact trivial | exact .inl rfl | exact rfl | exact List.not_mem_nil | (refine .inr ?_) | (refine ⟨?_,?_⟩) | exact List.length_set.symm | decide)⟩⟩
    ·replace h:=cond_f h hc
     conv=>whnf
     refine LoopA.fn [70,79,1000001,1000000] (S:=Int × List Int) (fun (x46,x47)=>[(0,.vsl 0 x1),(10,.p (.int .i64 x39)),(13,.p (.int .i64 x46))]) (fun (x46,x47)=>[.vec 3 1 (intRows .i64 x47)]) (B:=F_slices_symMergeCmpFunc_int__rows_Sort_c1_l5 n x39 x1) h ⟨[0],[],⟨rfl,rfl,rfl,rfl⟩,by repeat (first | exact trivial | exact .inl rfl | exact rfl | exact List.not_mem_nil | (refine .inr ?_) | (refine ⟨?_,?_⟩) | exact List.length_set.symm | decide),by repeat (first | exact trivial | exact .inl rfl | exact rfl | exact List.not_mem_nil | (refine .inr ?_) | (refine ⟨?_,?_⟩) | exact List.length_set.symm | decide)⟩ ?_
     intro nx5 st h
     obtain ⟨x46,x47⟩:=st
     unfold F_slices_symMergeCmpFunc_int__rows_Sort_c1_l5 at h
     conv=>whnf
     refine SeqA.cut (S:=Unit) (fun _=>[(0,.vsl 0 x1),(10,.p (.int .i64 x39)),(13,.p (.int .i64 x46))]) (fun _=>[.vec 3 1 (intRows .i64 x47)]) (F_slices_symMergeCmpFunc_int__rows_Sort_c1_k32 n x46 x1 x47 nx5) (r:=r) ?_ ?_
     ·intro _ h
      unfold F_slices_symMergeCmpFunc_int__rows_Sort_c1_k32 at h
      conv=>whnf
      replace h:=bnd_some h
      obtain ⟨x48,h48,h⟩:=h
      have hj:=natI_some h48
      conv=>whnf
      obtain ⟨h47,h⟩:=chk_some h
      refine ⟨x48,⟨hj,of_decide_eq_true h47⟩,?_⟩
      conv=>whnf
      replace h:=bnd_some h
      obtain ⟨x49,h46,h⟩:=h
      refine ⟨_,⟨rfl,Codec.getN (intC .i64) h46⟩,?_⟩
      conv=>whnf
      replace h:=bnd_some h
      obtain ⟨x50,h45,h⟩:=h
      have hj:=natI_some h45
      conv=>whnf
      obtain ⟨h44,h⟩:=chk_some h
      refine ⟨x50,⟨hj,of_decide_eq_true h44⟩,?_⟩
      conv=>whnf
      replace h:=bnd_some h
      obtain ⟨x51,h43,h⟩:=h
      refine ⟨_,⟨rfl,Codec.getN (intC .i64) h43⟩,?_⟩
      conv=>whnf
      replace h:=bnd_some h
      obtain ⟨x52,h42,h⟩:=h
      have hj:=natI_some h42
      conv=>whnf
      obtain ⟨h41,h⟩:=chk_some h
      refine ⟨x52,⟨hj,of_decide_eq_true h41⟩,?_⟩
      conv=>whnf
      replace h:=bnd_some h
      obtain ⟨x53,h40,h⟩:=h
      refine ⟨_,⟨rfl,Codec.getN (intC .i64) h40,rfl⟩,?_⟩
      conv=>whnf
      refine ⟨_,Codec.setN (intC .i64) x47 x52 x49,?_⟩
      conv=>whnf
      replace h:=bnd_some h
      obtain ⟨x54,h39,h⟩:=h
      have hj:=natI_some h39
      conv=>whnf
      obtain ⟨h38,h⟩:=chk_some h
      refine ⟨x54,⟨hj,of_decide_eq_true h38⟩,?_⟩
      conv=>whnf
      replace h:=bnd_some h
      obtain ⟨x55,h37,h⟩:=h
      refine ⟨_,⟨rfl,Codec.getN (intC .i64) h37,rfl⟩,?_⟩
      conv=>whnf
      refine ⟨_,Codec.setN (intC .i64) (x47.set x52 x49) x54 x51,?_⟩
      conv=>whnf
      exact ⟨((IntKind.i64.wrap (x46 + (1:Int))),((x47.set x52 x49).set x54 x51)),h,⟨[0],[],⟨rfl,rfl,rfl,rfl⟩,by repeat (first | exact trivial | exact .inl rfl | exact rfl | exact List.not_mem_nil | (refine .inr ?_) | (refine ⟨?_,?_⟩) | exact List.length_set.symm | decide),by repeat (first | exact trivial | exact .inl rfl | exact rfl | exact List.not_mem_nil | (refine .inr ?_) | (refine ⟨?_,?_⟩) | exact List.length_set.symm | decide)⟩⟩
     ·conv=>whnf
      refine ⟨fun hc=>?_,fun hc=>?_⟩
      ·replace h:=cond_t h hc
       conv=>whnf
       exact ⟨(),h,⟨[0],[],⟨rfl,rfl,rfl,rfl⟩,by repeat (first | exact trivial | exact .inl rfl | exact rfl | exact List.not_mem_nil | (refine .inr ?_) | (refine ⟨?_,?_⟩) | exact List.length_set.symm | decide),by repeat (first | exact trivial | exact .inl rfl | exact rfl | exact List.not_mem_nil | (refine .inr ?_) | (refine ⟨?_,?_⟩) | exact List.length_set.symm | decide)⟩⟩
      ·replace h:=cond_f h hc
       obtain rfl:=Option.some.inj h
       conv=>whnf
       refine ⟨_,_,⟨rfl,rfl⟩,⟨[0],[],⟨rfl,rfl,rfl,rfl⟩,by repeat (first | exact trivial | exact .inl rfl | exact rfl | exact List.not_mem_nil | (refine .inr ?_) | (refine ⟨?_,?_⟩) | exact List.length_set.symm | decide),by repeat (first | exact trivial | exact .inl rfl | exact rfl | exact List.not_mem_nil | (refine .inr ?_) | (refine ⟨?_,?_⟩) | exact List.length_set.symm | decide)⟩⟩
  ·replace h:=cond_f h hc
   conv=>whnf
   exact ⟨(),h,⟨[0],[],⟨rfl,rfl,rfl,rfl⟩,by repeat (first | exact trivial | exact .inl rfl | exact rfl | exact List.not_mem_nil | (refine .inr ?_) | (refine ⟨?_,?_⟩) | exact List.length_set.symm | decide),by repeat (first | exact trivial | exact .inl rfl | exact rfl | exact List.not_mem_nil | (refine .inr ?_) | (refine ⟨?_,?_⟩) | exact List.length_set.symm | decide)⟩⟩
def F_slices_symMergeCmpFunc_int__rows_Sort_c1:Nat → Nat → Int → Int → Int → (List (List Val)) → (List Bool) → (List Int) → Option ((List Int))
 | 0=>fun _ _ _ _ _ _ _=>none
 | n + 1=>BF_slices_symMergeCmpFunc_int__rows_Sort_c1 n (F_slices_symMergeCmpFunc_int__rows_Sort_c1 n)
set_option maxRecDepth 100000 in
theorem F_slices_symMergeCmpFunc_int__rows_Sort_c1_all (n:Nat):(∀ (x1:Nat) (x2:Int) (x3:Int) (x4:Int) (x5:List (List Val)) (x6:List Bool) (x7:List Int) (r:(List Int)),F_slices_symMergeCmpFunc_int__rows_Sort_c1 n x1 x2 x3 x4 x5 x6 x7 = some r → CallsO Tryz.prog 70 [.vsl 0 x1,.p (PV.int .i64 x2),.p (PV.int .i64 x3),.p (PV.int .i64 x4),.p (PV.clo 40 [PV.hp [PV.sl (slRows valC x5)],PV.hp [PV.sl (boolRows x6)]])] [.vec 3 1 (intRows .i64 x7)] 1 (fun v lo=>v = R_F_slices_symMergeCmpFunc_int__rows_Sort_c1 x7 r ∧ lo = L_F_slices_symMergeCmpFunc_int__rows_Sort_c1 x7 r)):=by
 induction n with
 | zero=>exact (by intros; rename_i h; cases h)
 | succ n ih =>
  have h0:=ih
  exact BF_slices_symMergeCmpFunc_int__rows_Sort_c1_ok n (F_slices_symMergeCmpFunc_int__rows_Sort_c1 n) h0
set_option maxRecDepth 100000 in
theorem F_slices_symMergeCmpFunc_int__rows_Sort_c1_ok (n:Nat):∀ (x1:Nat) (x2:Int) (x3:Int) (x4:Int) (x5:List (List Val)) (x6:List Bool) (x7:List Int) (r:(List Int)),F_slices_symMergeCmpFunc_int__rows_Sort_c1 n x1 x2 x3 x4 x5 x6 x7 = some r → CallsO Tryz.prog 70 [.vsl 0 x1,.p (PV.int .i64 x2),.p (PV.int .i64 x3),.p (PV.int .i64 x4),.p (PV.clo 40 [PV.hp [PV.sl (slRows valC x5)],PV.hp [PV.sl (boolRows x6)]])] [.vec 3 1 (intRows .i64 x7)] 1 (fun v lo=>v = R_F_slices_symMergeCmpFunc_int__rows_Sort_c1 x7 r ∧ lo = L_F_slices_symMergeCmpFunc_int__rows_Sort_c1 x7 r):=(F_slices_symMergeCmpFunc_int__rows_Sort_c1_all n)
end W
end
section
open Go Go.Proofs Ax
namespace W
abbrev R_F_slices_stableCmpFunc_int__rows_Sort_c1 (x5:List Int) (r:(List Int)):FV:=.p (.tup [])
abbrev L_F_slices_stableCmpFunc_int__rows_Sort_c1 (x5:List Int) (r:(List Int)):List AObj:=[.vec 3 1 (intRows .i64 r)]
def F_slices_stableCmpFunc_int__rows_Sort_c1_k3 (n:Nat) (nx2:Int × List Int → Option ((List Int))) (x11:Int):List Int → Option ((List Int)):=fun x17 =>
 nx2 ((IntKind.i64.wrap (x11 * (2:Int))),x17)
def F_slices_stableCmpFunc_int__rows_Sort_c1_l3 (n:Nat) (x2:Int) (x1:Nat) (x11:Int) (x3:List (List Val)) (x4:List Bool) (nx2:Int × List Int → Option ((List Int))):(Int × Int × List Int → Option ((List Int))) → Int × Int × List Int → Option ((List Int)):=fun nx3 (x13,x14,x15) =>
 bif (decide (x14 ≤ x2)) then (
 bnd (F_slices_symMergeCmpFunc_int__rows_Sort_c1 n x1 x13 (IntKind.i64.wrap (x13 + x11)) x14 x3 x4 x15) fun x16 =>
 nx3 (x14,(IntKind.i64.wrap (x14 + (IntKind.i64.wrap ((2:Int) * x11)))),x16))
else (
 bif (decide ((IntKind.i64.wrap (x13 + x11)) < x2)) then (
 bnd (F_slices_symMergeCmpFunc_int__rows_Sort_c1 n x1 x13 (IntKind.i64.wrap (x13 + x11)) x2 x3 x4 x15) fun x18 =>
 F_slices_stableCmpFunc_int__rows_Sort_c1_k3 n nx2 x11 x18)
else (
 F_slices_stableCmpFunc_int__rows_Sort_c1_k3 n nx2 x11 x15))
def F_slices_stableCmpFunc_int__rows_Sort_c1_l2 (n:Nat) (x2:Int) (x1:Nat) (x3:List (List Val)) (x4:List Bool):(Int × List Int → Option ((List Int))) → Int × List Int → Option ((List Int)):=fun nx2 (x11,x12) =>
 bif (decide (x11 < x2)) then (
 loopK (F_slices_stableCmpFunc_int__rows_Sort_c1_l3 n x2 x1 x11 x3 x4 nx2) n ((0:Int),(IntKind.i64.wrap ((2:Int) * x11)),x12))
else (
 some x12)
def F_slices_stableCmpFunc_int__rows_Sort_c1_l1 (n:Nat) (x2:Int) (x1:Nat) (x3:List (List Val)) (x4:List Bool):(Int × Int × List Int → Option ((List Int))) → Int × Int × List Int → Option ((List Int)):=fun nx1 (x6,x7,x8) =>
 bif (decide (x7 ≤ x2)) then (
 bnd (F_slices_insertionSortCmpFunc_int__rows_Sort_c1 n x1 x6 x7 x3 x4 x8) fun x9 =>
 nx1 (x7,(IntKind.i64.wrap (x7 + (20:Int))),x9))
else (
 bnd (F_slices_insertionSortCmpFunc_int__rows_Sort_c1 n x1 x6 x2 x3 x4 x8) fun x10 =>
 loopK (F_slices_stableCmpFunc_int__rows_Sort_c1_l2 n x2 x1 x3 x4) n ((20:Int),x10))
def F_slices_stableCmpFunc_int__rows_Sort_c1 (n:Nat)  (x1:Nat) (x2:Int) (x3:List (List Val)) (x4:List Bool) (x5:List Int):Option ((List Int)) :=
 loopK (F_slices_stableCmpFunc_int__rows_Sort_c1_l1 n x2 x1 x3 x4) n ((0:Int),(20:Int),x5)
set_option maxHeartbeats 20000000 in
set_option maxRecDepth 100000 in
theorem F_slices_stableCmpFunc_int__rows_Sort_c1_ok (n:Nat)   : ∀ (x1:Nat) (x2:Int) (x3:List (List Val)) (x4:List Bool) (x5:List Int) (r:(List Int)),F_slices_stableCmpFunc_int__rows_Sort_c1 n x1 x2 x3 x4 x5 = some r → CallsO Tryz.prog 55 [.vsl 0 x1,.p (PV.int .i64 x2),.p (PV.clo 40 [PV.hp [PV.sl (slRows valC x3)],PV.hp [PV.sl (boolRows x4)]])] [.vec 3 1 (intRows .i64 x5)] 1 (fun v lo=>v = R_F_slices_stableCmpFunc_int__rows_Sort_c1 x5 r ∧ lo = L_F_slices_stableCmpFunc_int__rows_Sort_c1 x5 r):=by
 intro x1 x2 x3 x4 x5 r h
 unfold F_slices_stableCmpFunc_int__rows_Sort_c1 at h
 refine CallsO.of_vc mixed (fun _ _=>Tryz.call55 _ _) Tryz.func55 (by kernel_rfl) (inl:=[69,70,1000000]) (Nat.le_of_ble_eq_true rfl) ?_
 conv=>whnf
 refine LoopA.fn [69,70,1000000] (S:=Int × Int × List Int) (fun (x6,x7,x8)=>[(0,.vsl 0 x1),(1,.p (.int .i64 x2)),(2,.p (.clo 40 [PV.hp [PV.sl (slRows valC x3)],PV.hp [PV.sl (boolRows x4)]])),(6,.p (.int .i64 (20:Int))),(7,.p (.int .i64 x6)),(8,.p (.int .i64 x7))]) (fun (x6,x7,x8)=>[.vec 3 1 (intRows .i64 x8)]) (B:=F_slices_stableCmpFunc_int__rows_Sort_c1_l1 n x2 x1 x3 x4) h ⟨[0],[],⟨rfl,rfl,rfl,rfl⟩,by repeat (first | exact trivial | exact .inl rfl | exact rfl | exact List.not_mem_nil | (refine .inr ?_) | (refine ⟨?_,?_⟩) | exact List.length_set.symm | decide),by repeat (first | exact trivial | exact .inl rfl | exact rfl | exact List.not_mem_nil | (refine .inr ?_) | (refine ⟨?_,?_⟩) | exact List.length_set.symm | decide)⟩ ?_
 intro nx1 st h
 obtain ⟨x6,x7,x8⟩:=st
 unfold F_slices_stableCmpFunc_int__rows_Sort_c1_l1 at h
 conv=>whnf
 refine ⟨fun hc=>?_,fun hc=>?_⟩
 ·replace h:=cond_t h hc
  conv=>whnf
  replace h:=bnd_some h
  obtain ⟨x9,h1,h⟩:=h
  refine CallsO.use (F_slices_insertionSortCmpFunc_int__rows_Sort_c1_ok n _ _ _ _ _ _ _  h1) [0] [] ⟨rfl,rfl,rfl,rfl,rfl,rfl⟩ (by repeat (first | exact trivial | exact .inl rfl | exact rfl | exact List.not_mem_nil | (refine .inr ?_) | (refine ⟨?_,?_⟩) | exact List.length_set.symm | decide)) (by repeat (first | exact trivial | exact .inl rfl | exact rfl | exact List.not_mem_nil | (refine .inr ?_) | (refine ⟨?_,?_⟩) | exact List.length_set.symm | decide)) ?_
  rintro _ _ ⟨rfl,rfl⟩
  refine ⟨.p (.tup []),[.vec 3 1 (intRows .i64 x9)],rfl,rfl,?_⟩
  conv=>whnf
  exact ⟨(x7,(IntKind.i64.wrap (x7 + (20:Int))),x9),h,⟨[0],[],⟨rfl,rfl,rfl,rfl⟩,by repeat (first | exact trivial | exact .inl rfl | exact rfl | exact List.not_mem_nil | (refine .inr ?_) | (refine ⟨?_,?_⟩) | exact List.length_set.symm | decide),by repeat (first | exact trivial | exact .inl rfl | exact rfl | exact List.not_mem_nil | (refine .inr ?_) | (refine ⟨?_,?_⟩) | exact List.length_set.symm | decide)⟩⟩
 ·replace h:=cond_f h hc
  conv=>whnf
  replace h:=bnd_some h
  obtain ⟨x10,h2,h⟩:=h
  refine CallsO.use (F_slices_insertionSortCmpFunc_int__rows_Sort_c1_ok n _ _ _ _ _ _ _  h2) [0] [] ⟨rfl,rfl,rfl,rfl,rfl,rfl⟩ (by repeat (first | exact trivial | exact .inl rfl | exact rfl | exact List.not_mem_nil | (refine .inr ?_) | (refine ⟨?_,?_⟩) | exact List.length_set.symm | decide)) (by repeat (first | exact trivial | exact .inl rfl | exact rfl | exact List.not_mem_nil | (refine .inr ?_) | (refine ⟨?_,?_⟩) | exact List.length_set.symm | decide)) ?_
  rintro _ _ ⟨rfl,rfl⟩
  refine ⟨.p (.tup []),[.vec 3 1 (intRows .i64 x10)],rfl,rfl,?_⟩
  conv=>whnf
  refine LoopA.fn [69,70,1000000] (S:=Int × List Int) (fun (x11,x12)=>[(0,.vsl 0 x1),(1,.p (.int .i64 x2)),(2,.p (.clo 40 [PV.hp [PV.sl (slRows valC x3)],PV.hp [PV.sl (boolRows x4)]])),(6,.p (.int .i64 x11))]) (fun (x11,x12)=>[.vec 3 1 (intRows .i64 x12)]) (B:=F_slices_stableCmpFunc_int__rows_Sort_c1_l2 n x2 x1 x3 x4) h ⟨[0],[],⟨rfl,rfl,rfl,rfl⟩,by repeat (first | exact trivial | exact .inl rfl | exact rfl | exact List.not_mem_nil | (refine .inr ?_) | (refine ⟨?_,?_⟩) | exact List.length_set.symm | decide),by repeat (first | exact trivial | exact .inl rfl | exact rfl | exact List.not_mem_nil | (refine .inr ?_) | (refine ⟨?_,?_⟩) | exact List.length_set.symm | decide)⟩ ?_
  intro nx2 st h
  obtain ⟨x11,x12⟩:=st
  unfold F_slices_stableCmpFunc_int__rows_Sort_c1_l2 at h
  conv=>whnf
  refine ⟨fun hc=>?_,fun hc=>?_⟩
  ·replace h:=cond_t h hc
   conv=>whnf
   refine LoopA.fn [69,70,1000000] (S:=Int × Int × List Int) (fun (x13,x14,x15)=>[(0,.vsl 0 x1),(1,.p (.int .i64 x2)),(2,.p (.clo 40 [PV.hp [PV.sl (slRows valC x3)],PV.hp [PV.sl (boolRows x4)]])),(6,.p (.int .i64 x11)),(7,.p (.int .i64 x13)),(8,.p (.int .i64 x14))]) (fun (x13,x14,x15)=>[.vec 3 1 (intRows .i64 x15)]) (B:=F_slices_stableCmpFunc_int__rows_Sort_c1_l3 n x2 x1 x11 x3 x4 nx2) h ⟨[0],[],⟨rfl,rfl,rfl,rfl⟩,by repeat (first | exact trivial | exact .inl rfl | exact rfl | exact List.not_mem_nil | (refine .inr ?_) | (refine ⟨?_,?_⟩) | exact List.length_set.symm | decide),by repeat (first | exact trivial | exact .inl rfl | exact rfl | exact List.not_mem_nil | (refine .inr ?_) | (refine ⟨?_,?_⟩) | exact List.length_set.symm | decide)⟩ ?_
   intro nx3 st h
   obtain ⟨x13,x14,x15⟩:=st
   unfold F_slices_stableCmpFunc_int__rows_Sort_c1_l3 at h
   conv=>whnf
   refine ⟨fun hc=>?_,fun hc=>?_⟩
   ·replace h:=cond_t h hc
    conv=>whnf
    replace h:=bnd_some h
    obtain ⟨x16,h3,h⟩:=h
    refine CallsO.use (F_slices_symMergeCmpFunc_int__rows_Sort_c1_ok n _ _ _ _ _ _ _ _  h3) [0] [] ⟨rfl,rfl,rfl,rfl,rfl,rfl⟩ (by repeat (first | exact trivial | exact .inl rfl | exact rfl | exact List.not_mem_nil | (refine .inr ?_) | (refine ⟨?_,?_⟩) | exact List.length_set.symm | decide)) (by repeat (first | exact trivial | exact .inl rfl | exact rfl | exact List.not_mem_nil | (refine .inr ?_) | (refine ⟨?_,?_⟩) | exact List.length_set.symm | decide)) ?_
    rintro _ _ ⟨rfl,rfl⟩
    refine ⟨.p (.tup []),[.vec 3 1 (intRows .i64 x16)],rfl,rfl,?_⟩
    conv=>whnf
    exact ⟨(x14,(IntKind.i64.wrap (x14 + (IntKind.i64.wrap ((2:Int) * x11)))),x16),h,⟨[0],[],⟨rfl,rfl,rfl,rfl⟩,by repeat (first | exact trivial | exact .inl rfl | exact rfl | exact List.not_mem_nil | (refine .inr ?_) | (refine ⟨?_,?_⟩) | exact List.length_set.symm | decide),by repeat (first | exact trivial | exact .inl rfl | exact rfl | exact List.not_mem_nil | (refine .inr ?_) | (refine ⟨?_,?_⟩) | exact List.length_set.symm | decide)⟩⟩
   ·replace h:=cond_f h hc
    conv=>whnf
    refine SeqA.cut (S:=List Int) (fun x17=>[(0,.vsl 0 x1),(1,.p (.int .i64 x2)),(2,.p (.clo 40 [PV.hp [PV.sl (slRows valC x3)],PV.hp [PV.sl (boolRows x4)]])),(6,.p (.int .i64 x11))]) (fun x17=>[.vec 3 1 (intRows .i64 x17)]) (F_slices_stableCmpFunc_int__rows_Sort_c1_k3 n nx2 x11) (r:=r) ?_ ?_
    ·intro x17 h
     unfold F_slices_stableCmpFunc_int__rows_Sort_c1_k3 at h
     conv=>whnf
     exact ⟨((IntKind.i64.wrap (x11 * (2:Int))),x17),h,⟨[0],[],⟨rfl,rfl,rfl,rfl⟩,by repeat (first | exact trivial | exact .inl rfl | exact rfl | exact List.not_mem_nil | (refine .inr ?_) | (refine ⟨?_,?_⟩) | exact List.length_set.symm | decide),by repeat (first | exact trivial | exact .inl rfl | exact rfl | exact List.not_mem_nil | (refine .inr ?_) | (refine ⟨?_,?_⟩) | exact List.length_set.symm | decide)⟩⟩
    ·conv=>whnf
     refine ⟨fun hc=>?_,fun hc=>?_⟩
     ·replace h:=cond_t h hc
      conv=>whnf
      replace h:=bnd_some h
      obtain ⟨x18,h4,h⟩:=h
      refine CallsO.use (F_slices_symMergeCmpFunc_int__rows_Sort_c1_ok n _ _ _ _ _ _ _ _  h4) [0] [] ⟨rfl,rfl,rfl,rfl,rfl,rfl⟩ (by repeat (first | exact trivial | exact .inl rfl | exact rfl | exact List.not_mem_nil | (refine .inr ?_) | (refine ⟨?_,?_⟩) | exact List.length_set.symm | decide)) (by repeat (first | exact trivial | exact .inl rfl | exact rfl | exact List.not_mem_nil | (refine .inr ?_) | (refine ⟨?_,?_⟩) | exact List.length_set.symm | decide)) ?_
      rintro _ _ ⟨rfl,rfl⟩
      refine ⟨.p (.tup []),[.vec 3 1 (intRows .i64 x18)],rfl,rfl,?_⟩
      conv=>whnf
      exact ⟨x18,h,⟨[0],[],⟨rfl,rfl,rfl,rfl⟩,by repeat (first | exact trivial | exact .inl rfl | exact rfl | exact List.not_mem_nil | (refine .inr ?_) | (refine ⟨?_,?_⟩) | exact List.length_set.symm | decide),by repeat (first | exact trivial | exact .inl rfl | exact rfl | exact List.not_mem_nil | (refine .inr ?_) | (refine ⟨?_,?_⟩) | exact List.length_set.symm | decide)⟩⟩
     ·replace h:=cond_f h hc
      conv=>whnf
      exact ⟨x15,h,⟨[0],[],⟨rfl,rfl,rfl,rfl⟩,by repeat (first | exact trivial | exact .inl rfl | exact rfl | exact List.not_mem_nil | (refine .inr ?_) | (refine ⟨?_,?_⟩) | exact List.length_set.symm | decide),by repeat (first | exact trivial | exact .inl rfl | exact rfl | exact List.not_mem_nil | (refine .inr ?_) | (refine ⟨?_,?_⟩) | exact List.length_set.symm | decide)⟩⟩
  ·replace h:=cond_f h hc
   obtain rfl:=Option.some.inj h
   conv=>whnf
   refine ⟨_,_,⟨rfl,rfl⟩,⟨[0],[],⟨rfl,rfl,rfl,rfl⟩,by repeat (first | exact trivial | exact .inl rfl | exact rfl | exact List.not_mem_nil | (refine .inr ?_) | (refine ⟨?_,?_⟩) | exact List.length_set.symm | decide),by repeat (first | exact trivial | exact .inl rfl | exact rfl | exact List.not_mem_nil | (refine .inr ?_) | (refine ⟨?_,?_⟩) | exact List.length_set.symm | decide)⟩⟩
abbrev R_F_slices_SortStableFunc_int_int__rows_Sort_c1 (x4:List Int) (r:(List Int)):FV:=.p (.tup [])
abbrev L_F_slices_SortStableFunc_int_int__rows_Sort_c1 (x4:List Int) (r:(List Int)):List AObj:=[.vec 3 1 (intRows .i64 r)]
def F_slices_SortStableFunc_int_int__rows_Sort_c1 (n:Nat)  (x1:Nat) (x2:List (List Val)) (x3:List Bool) (x4:List Int):Option ((List Int)) :=
 bnd (F_slices_stableCmpFunc_int__rows_Sort_c1 n x1 ((x1:Nat):Int) x2 x3 x4) fun x5 =>
 some x5
set_option maxRecDepth 100000 in
theorem F_slices_SortStableFunc_int_int__rows_Sort_c1_ok (n:Nat)   : ∀ (x1:Nat) (x2:List (List Val)) (x3:List Bool) (x4:List Int) (r:(List Int)),F_slices_SortStableFunc_int_int__rows_Sort_c1 n x1 x2 x3 x4 = some r → CallsO Tryz.prog 39 [.vsl 0 x1,.p (PV.clo 40 [PV.hp [PV.sl (slRows valC x2)],PV.hp [PV.sl (boolRows x3)]])] [.vec 3 1 (intRows .i64 x4)] 1 (fun v lo=>v = R_F_slices_SortStableFunc_int_int__rows_Sort_c1 x4 r ∧ lo = L_F_slices_SortStableFunc_int_int__rows_Sort_c1 x4 r):=by
 intro x1 x2 x3 x4 r h
 unfold F_slices_SortStableFunc_int_int__rows_Sort_c1 at h
 refine CallsO.of_vc mixed (fun _ _=>Tryz.call39 _ _) Tryz.func39 (by kernel_rfl) (inl:=[55,1000000]) (Nat.le_of_ble_eq_true rfl) ?_
 conv=>whnf
 replace h:=bnd_some h
 obtain ⟨x5,h1,h⟩:=h
 refine CallsO.use (F_slices_stableCmpFunc_int__rows_Sort_c1_ok n _ _ _ _ _ _  h1) [0] [] ⟨rfl,rfl,rfl,rfl,rfl,rfl⟩ (by repeat (first | exact trivial | exact .inl rfl | exact rfl | exact List.not_mem_nil | (refine .inr ?_) | (refine ⟨?_,?_⟩) | exact List.length_set.symm | decide)) (by repeat (first | exact trivial | exact .inl rfl | exact rfl | exact List.not_mem_nil | (refine .inr ?_) | (refine ⟨?_,?_⟩) | exact List.length_set.symm | decide)) ?_
 rintro _ _ ⟨rfl,rfl⟩
 refine ⟨.p (.tup []),[.vec 3 1 (intRows .i64 x5)],rfl,rfl,?_⟩
 obtain rfl:=Option.some.inj h
 conv=>whnf
 refine ⟨_,_,⟨rfl,rfl⟩,⟨[0],[],⟨rfl,rfl,rfl,rfl⟩,by repeat (first | exact trivial | exact .inl rfl | exact rfl | exact List.not_mem_nil | (refine .inr ?_) | (refine ⟨?_,?_⟩) | exact List.length_set.symm | decide),by repeat (first | exact trivial | exact .inl rfl | exact rfl | exact List.not_mem_nil | (refine .inr ?_) | (refine ⟨?_,?_⟩) | exact List.length_set.symm | decide)⟩⟩
abbrev R_F_rows_Sort (r:List (List Val)):PV:=PV.sl (slRows valC r)
def F_rows_Sort_l2 (n:Nat) (x4:Nat) (x9:List Int) (x1:List (List Val)):(List (List Val) × Int → Option (List (List Val))) → List (List Val) × Int → Option (List (List Val)):=fun nx2 (x10,x11) =>
 bif (decide (x11 < ((((intRows .i64 (List.replicate x4 (0:Int))).length):Nat):Int))) then (
 bnd (natI x11) fun x12 =>
 chk (decide (x12 < (intRows .i64 (List.replicate x4 (0:Int))).length)) (
 bnd (x9[x12]?) fun x13 =>
 bnd (idx x1 x13) fun x14 =>
 bnd (F_rows_copied n x14) fun x15 =>
 chk (decide ((slRows valC (x10 ++ [x15])).length * 24 ≤ 140737488355328)) (
 nx2 ((x10 ++ [x15]),(IntKind.i64.wrap (x11 + (1:Int)))))))
else (
 some x10)
def F_rows_Sort_l1 (n:Nat) (x4:Nat) (x2:List (List Val)) (x3:List Bool) (x1:List (List Val)):(Int × List Int → Option (List (List Val))) → Int × List Int → Option (List (List Val)):=fun nx1 (x5,x6) =>
 bif (decide (x5 < ((((intRows .i64 (List.replicate x4 (0:Int))).length):Nat):Int))) then (
 bnd (natI x5) fun x7 =>
 chk (decide (x7 < (intRows .i64 (List.replicate x4 (0:Int))).length)) (
 bnd (x6[x7]?) fun x8 =>
 nx1 ((IntKind.i64.wrap (x5 + (1:Int))),(x6.set x7 x5))))
else (
 bnd (F_slices_SortStableFunc_int_int__rows_Sort_c1 n ((intRows .i64 (List.replicate x4 (0:Int))).length) x2 x3 x6) fun x9 =>
 loopK (F_rows_Sort_l2 n x4 x9 x1) n (([]:List _),(0:Int)))
def F_rows_Sort (n:Nat)  (x1:List (List Val)) (x2:List (List Val)) (x3:List Bool):Option (List (List Val)) :=
 bnd (natI (((slRows valC x1).length:Nat):Int)) fun x4 =>
 chk (decide (x4 * 8 ≤ 140737488355328)) (
 loopK (F_rows_Sort_l1 n x4 x2 x3 x1) n ((0:Int),(List.replicate x4 (0:Int))))
set_option maxHeartbeats 20000000 in
set_option maxRecDepth 100000 in
theorem F_rows_Sort_ok (n:Nat)   : ∀ (x1:List (List Val)) (x2:List (List Val)) (x3:List Bool) (r:List (List Val)),F_rows_Sort n x1 x2 x3 = some r → CallsF Tryz.prog 15 [PV.sl (slRows valC x1),PV.sl (slRows valC x2),PV.sl (boolRows x3)] (R_F_rows_Sort r):=by
 intro x1 x2 x3 r h
 unfold F_rows_Sort at h
 refine CallsF.of_vcN mixed (fun _ _=>Tryz.call15 _ _) Tryz.func15 (by kernel_rfl) (inl:=[39,10000004,10000005,10000014,1000000]) ?_
 conv=>whnf
 replace h:=bnd_some h
 obtain ⟨x4,h12,h⟩:=h
 have hj:=natI_some h12
 conv=>whnf
 obtain ⟨h11,h⟩:=chk_some h
 refine ⟨x4,intRows .i64 (List.replicate x4 (0:Int)),⟨hj,hj,of_decide_eq_true h11,len_ok h11 (by decide),Codec.made (intC .i64) (0:Int) x4 rfl,rfl,by decide,rfl⟩,?_⟩
 conv=>whnf
 refine LoopA.fn [39,10000004,10000005,10000014,1000000] (S:=Int × List Int) (fun (x5,x6)=>[(0,.p (.sl (slRows valC x1))),(4,.hptr [PV.sl (slRows valC x2)]),(5,.hptr [PV.sl (boolRows x3)]),(7,.vsl 0 ((intRows .i64 (List.replicate x4 (0:Int))).length)),(16,.p (.int .i64 ((((intRows .i64 (List.replicate x4 (0:Int))).length):Nat):Int))),(17,.p (.int .i64 x5))]) (fun (x5,x6)=>[.vec 3 1 (intRows .i64 x6)]) (B:=F_rows_Sort_l1 n x4 x2 x3 x1) h ⟨[0],[],⟨rfl,rfl,rfl,rfl⟩,by repeat (first | exact trivial | exact .inl rfl | exact rfl | exact List.not_mem_nil | (refine .inr ?_) | (refine ⟨?_,?_⟩) | exact List.length_set.symm | decide),by repeat (first | exact trivial | exact .inl rfl | exact rfl | exact List.not_mem_nil | (refine .inr ?_) | (refine ⟨?_,?_⟩) | exact List.length_set.symm | decide)⟩ ?_
 intro nx1 st h
 obtain ⟨x5,x6⟩:=st
 unfold F_rows_Sort_l1 at h
 conv=>whnf
 refine ⟨fun hc=>?_,fun hc=>?_⟩
 ·replace h:=cond_t h hc
  conv=>whnf
  replace h:=bnd_some h
  obtain ⟨x7,h3,h⟩:=h
  have hj:=natI_some h3
  conv=>whnf
  obtain ⟨h2,h⟩:=chk_some h
  refine ⟨x7,⟨hj,of_decide_eq_true h2⟩,?_⟩
  conv=>whnf
  replace h:=bnd_some h
  obtain ⟨x8,h1,h⟩:=h
  refine ⟨_,⟨rfl,Codec.getN (intC .i64) h1,rfl⟩,?_⟩
  conv=>whnf
  refine ⟨_,Codec.setN (intC .i64) x6 x7 x5,?_⟩
  conv=>whnf
  exact ⟨((IntKind.i64.wrap (x5 + (1:Int))),(x6.set x7 x5)),h,⟨[0],[],⟨rfl,rfl,rfl,rfl⟩,by repeat (first | exact trivial | exact .inl rfl | exact rfl | exact List.not_mem_nil | (refine .inr ?_) | (refine ⟨?_,?_⟩) | exact List.length_set.symm | decide),by repeat (first | exact trivial | exact .inl rfl | exact rfl | exact List.not_mem_nil | (refine .inr ?_) | (refine ⟨?_,?_⟩) | exact List.length_set.symm | decide)⟩⟩
 ·replace h:=cond_f h hc
  conv=>whnf
  replace h:=bnd_some h
  obtain ⟨x9,h4,h⟩:=h
  refine CallsO.use (F_slices_SortStableFunc_int_int__rows_Sort_c1_ok n _ _ _ _ _  h4) [0] [] ⟨rfl,rfl,rfl,rfl,rfl,rfl⟩ (by repeat (first | exact trivial | exact .inl rfl | exact rfl | exact List.not_mem_nil | (refine .inr ?_) | (refine ⟨?_,?_⟩) | exact List.length_set.symm | decide)) (by repeat (first | exact trivial | exact .inl rfl | exact rfl | exact List.not_mem_nil | (refine .inr ?_) | (refine ⟨?_,?_⟩) | exact List.length_set.symm | decide)) ?_
  rintro _ _ ⟨rfl,rfl⟩
  refine ⟨.p (.tup []),[.vec 3 1 (intRows .i64 x9)],rfl,rfl,?_⟩
  conv=>whnf
  refine LoopA.fn [39,10000004,10000005,10000014,1000000] (S:=List (List Val) × Int) (fun (x10,x11)=>[(0,.p (.sl (slRows valC x1))),(9,.tsl 1 (slRows valC x10)),(28,.vsl 0 ((intRows .i64 (List.replicate x4 (0:Int))).length)),(29,.p (.int .i64 ((((intRows .i64 (List.replicate x4 (0:Int))).length):Nat):Int))),(30,.p (.int .i64 x11))]) (fun (x10,x11)=>[.vec 3 1 (intRows .i64 x9),.tail 34 1 (slRows valC x10).length]) (B:=F_rows_Sort_l2 n x4 x9 x1) h ⟨[0,0],[1],⟨rfl,rfl,rfl,rfl⟩,by repeat (first | exact trivial | exact .inl rfl | exact rfl | exact List.not_mem_nil | (refine .inr ?_) | (refine ⟨?_,?_⟩) | exact List.length_set.symm | decide),by repeat (first | exact trivial | exact .inl rfl | exact rfl | exact List.not_mem_nil | (refine .inr ?_) | (refine ⟨?_,?_⟩) | exact List.length_set.symm | decide)⟩ ?_
  intro nx2 st h
  obtain ⟨x10,x11⟩:=st
  unfold F_rows_Sort_l2 at h
  conv=>whnf
  refine ⟨fun hc=>?_,fun hc=>?_⟩
  ·replace h:=cond_t h hc
   conv=>whnf
   replace h:=bnd_some h
   obtain ⟨x12,h10,h⟩:=h
   have hj:=natI_some h10
   conv=>whnf
   obtain ⟨h9,h⟩:=chk_some h
   refine ⟨x12,⟨hj,of_decide_eq_true h9⟩,?_⟩
   conv=>whnf
   replace h:=bnd_some h
   obtain ⟨x13,h8,h⟩:=h
   refine ⟨_,⟨rfl,Codec.getN (intC .i64) h8⟩,?_⟩
   conv=>whnf
   replace h:=bnd_some h
   obtain ⟨x14,h7,h⟩:=h
   refine ⟨_,Codec.at_ (slC valC) h7,?_⟩
   conv=>whnf
   replace h:=bnd_some h
   obtain ⟨x15,h6,h⟩:=h
   refine ⟨_,(F_rows_copied_ok n _  _ h6),?_⟩
   conv=>whnf
   refine ⟨Codec.one (slC valC) [x15],slRows valC [x15],.inl rfl,?_⟩
   conv=>whnf
   rw [show slRows valC x10 ++ slRows valC [x15] = slRows valC (x10 ++ [x15]) from Codec.append (slC valC) x10 [x15]]
   conv=>whnf
   obtain ⟨h5,h⟩:=chk_some h
   refine ⟨⟨Codec.wide (slC valC) (x10 ++ [x15]),of_decide_eq_true h5,len_ok h5 (by decide)⟩,?_⟩
   conv=>whnf
   refine ⟨⟨rfl,rfl,rfl⟩,?_⟩
   conv=>whnf
   exact ⟨((x10 ++ [x15]),(IntKind.i64.wrap (x11 + (1:Int)))),h,⟨[0,2],[],⟨rfl,rfl,rfl,rfl⟩,by repeat (first | exact trivial | exact .inl rfl | exact rfl | exact List.not_mem_nil | (refine .inr ?_) | (refine ⟨?_,?_⟩) | exact List.length_set.symm | decide),by repeat (first | exact trivial | exact .inl rfl | exact rfl | exact List.not_mem_nil | (refine .inr ?_) | (refine ⟨?_,?_⟩) | exact List.length_set.symm | decide)⟩⟩
  ·replace h:=cond_f h hc
   obtain rfl:=Option.some.inj h
   conv=>whnf
   repeat (first | exact rfl | exact trivial | refine ⟨?_,?_⟩)
abbrev R_F_slices_Index_string_string (r:Int):PV:=PV.int .i64 r
def F_slices_Index_string_string_l1 (n:Nat) (x1:List (List UInt8)) (x2:List UInt8):(Int → Option (Int)) → Int → Option (Int):=fun nx1 x3 =>
 bif (decide (x3 < (((strs x1).length:Nat):Int))) then (
 bnd (idx x1 x3) fun x4 =>
 bif (x2 == x4) then (
 some x3)
else (
 nx1 (IntKind.i64.wrap (x3 + (1:Int)))))
else (
 some (-1:Int))
def F_slices_Index_string_string (n:Nat)  (x1:List (List UInt8)) (x2:List UInt8):Option (Int) :=
 loopK (F_slices_Index_string_string_l1 n x1 x2) n (0:Int)
set_option maxRecDepth 100000 in
theorem F_slices_Index_string_string_ok (n:Nat)   : ∀ (x1:List (List UInt8)) (x2:List UInt8) (r:Int),F_slices_Index_string_string n x1 x2 = some r → CallsF Tryz.prog 43 [PV.sl (strs x1),PV.str x2] (R_F_slices_Index_string_string r):=by
 intro x1 x2 r h
 unfold F_slices_Index_string_string at h
 refine CallsF.of_vcN mixed (fun _ _=>Tryz.call43 _ _) Tryz.func43 (by kernel_rfl) (inl:=[1000000]) ?_
 conv=>whnf
 refine LoopA.fn [1000000] (S:=Int) (fun x3=>[(0,.p (.sl (strs x1))),(1,.p (.str x2)),(7,.p (.int .i64 (((strs x1).length:Nat):Int))),(8,.p (.int .i64 x3))]) (fun x3=>[]) (B:=F_slices_Index_string_string_l1 n x1 x2) h ⟨[],[],⟨rfl,rfl,rfl,rfl⟩,by repeat (first | exact trivial | exact .inl rfl | exact rfl | exact List.not_mem_nil | (refine .inr ?_) | (refine ⟨?_,?_⟩) | exact List.length_set.symm | decide),by repeat (first | exact trivial | exact .inl rfl | exact rfl | exact List.not_mem_nil | (refine .inr ?_) | (refine ⟨?_,?_⟩) | exact List.length_set.symm | decide)⟩ ?_
 intro nx1 x3 h
 unfold F_slices_Index_string_string_l1 at h
 conv=>whnf
 refine ⟨fun hc=>?_,fun hc=>?_⟩
 ·replace h:=cond_t h hc
  conv=>whnf
  replace h:=bnd_some h
  obtain ⟨x4,h1,h⟩:=h
  refine ⟨_,Codec.at_ strC h1,?_⟩
  conv=>whnf
  refine ⟨fun hc=>?_,fun hc=>?_⟩
  ·replace h:=cond_t h hc
   obtain rfl:=Option.some.inj h
   conv=>whnf
   repeat (first | exact rfl | exact trivial | refine ⟨?_,?_⟩)
  ·replace h:=cond_f h hc
   conv=>whnf
   exact ⟨(IntKind.i64.wrap (x3 + (1:Int))),h,⟨[],[],⟨rfl,rfl,rfl,rfl⟩,by repeat (first | exact trivial | exact .inl rfl | exact rfl | exact List.not_mem_nil | (refine .inr ?_) | (refine ⟨?_,?_⟩) | exact List.length_set.symm | decide),by repeat (first | exact trivial | exact .inl rfl | exact rfl | exact List.not_mem_nil | (refine .inr ?_) | (refine ⟨?_,?_⟩) | exact List.length_set.symm | decide)⟩⟩
 ·replace h:=cond_f h hc
  obtain rfl:=Option.some.inj h
  conv=>whnf
  repeat (first | exact rfl | exact trivial | refine ⟨?_,?_⟩)
abbrev R_F_slices_Contains_string_string (r:Bool):PV:=PV.bool r
def F_slices_Contains_string_string (n:Nat)  (x1:List (List UInt8)) (x2:List UInt8):Option (Bool) :=
 bnd (F_slices_Index_string_string n x1 x2) fun x3 =>
 some (decide (x3 ≥ (0:Int)))
set_option maxRecDepth 100000 in
theorem F_slices_Contains_string_string_ok (n:Nat)   : ∀ (x1:List (List UInt8)) (x2:List UInt8) (r:Bool),F_slices_Contains_string_string n x1 x2 = some r → CallsF Tryz.prog 22 [PV.sl (strs x1),PV.str x2] (R_F_slices_Contains_string_string r):=by
 intro x1 x2 r h
 unfold F_slices_Contains_string_string at h
 refine CallsF.of_vcN mixed (fun _ _=>Tryz.call22 _ _) Tryz.func22 (by kernel_rfl) (inl:=[1000000]) ?_
 conv=>whnf
 replace h:=bnd_some h
 obtain ⟨x3,h1,h⟩:=h
 refine ⟨_,(F_slices_Index_string_string_ok n _ _  _ h1),?_⟩
 obtain rfl:=Option.some.inj h
 conv=>whnf
 repeat (first | exact rfl | exact trivial | refine ⟨?_,?_⟩)
abbrev R_F_rows_Group_c1 (r:List Val):PV:=PV.sl (Val.rows r)
def F_rows_Group_c1_k3 (n:Nat) (nx1:List Val × Int → Option (List Val)) (x4:Int):List Val → Option (List Val):=fun x5 =>
 nx1 (x5,(IntKind.i64.wrap (x4 + (1:Int))))
def F_rows_Group_c1_l1 (n:Nat) (x2:List (List UInt8)) (x1:List Val):(List Val × Int → Option (List Val)) → List Val × Int → Option (List Val):=fun nx1 (x3,x4) =>
 bif (decide (x4 < (((strs x2).length:Nat):Int))) then (
 bnd (idx x2 x4) fun x6 =>
 bif (bif (x6 == ([]:List UInt8)) then (decide (x4 < (((Val.rows x1).length:Nat):Int))) else false) then (
 bnd (idx x1 x4) fun ⟨x7,x8,x9,x10,x11,x12⟩ =>
 chk (decide ((Val.rows (x3 ++ [Val.mk x7 x8 x9 x10 x11 x12])).length * 88 ≤ 140737488355328)) (
 F_rows_Group_c1_k3 n nx1 x4 (x3 ++ [Val.mk x7 x8 x9 x10 x11 x12])))
else (
 F_rows_Group_c1_k3 n nx1 x4 x3))
else (
 some x3)
def F_rows_Group_c1 (n:Nat)  (x1:List Val) (x2:List (List UInt8)):Option (List Val) :=
 loopK (F_rows_Group_c1_l1 n x2 x1) n (([]:List _),(0:Int))
set_option maxRecDepth 100000 in
theorem F_rows_Group_c1_ok (n:Nat)   : ∀ (x1:List Val) (x2:List (List UInt8)) (r:List Val),F_rows_Group_c1 n x1 x2 = some r → CallsF Tryz.prog 18 [PV.sl (Val.rows x1),PV.hp [PV.sl (strs x2)]] (R_F_rows_Group_c1 r):=by
 intro x1 x2 r h
 unfold F_rows_Group_c1 at h
 refine CallsF.of_vcN mixed (fun _ _=>Tryz.call18 _ _) Tryz.func18 (by kernel_rfl) (inl:=[1000000]) ?_
 conv=>whnf
 refine LoopA.fn [1000000] (S:=List Val × Int) (fun (x3,x4)=>[(0,.p (.sl (Val.rows x1))),(4,.tsl 0 (Val.rows x3)),(7,.p (.sl (strs x2))),(8,.p (.int .i64 (((strs x2).length:Nat):Int))),(9,.p (.int .i64 x4))]) (fun (x3,x4)=>[.tail 36 6 (Val.rows x3).length]) (B:=F_rows_Group_c1_l1 n x2 x1) h ⟨[0],[0],⟨rfl,rfl,rfl,rfl⟩,by repeat (first | exact trivial | exact .inl rfl | exact rfl | exact List.not_mem_nil | (refine .inr ?_) | (refine ⟨?_,?_⟩) | exact List.length_set.symm | decide),by repeat (first | exact trivial | exact .inl rfl | exact rfl | exact List.not_mem_nil | (refine .inr ?_) | (refine ⟨?_,?_⟩) | exact List.length_set.symm | decide)⟩ ?_
 intro nx1 st h
 obtain ⟨x3,x4⟩:=st
 unfold F_rows_Group_c1_l1 at h
 conv=>whnf
 refine ⟨fun hc=>?_,fun hc=>?_⟩
 ·replace h:=cond_t h hc
  conv=>whnf
  refine SeqA.cut (S:=List Val) (fun x5=>[(0,.p (.sl (Val.rows x1))),(4,.tsl 0 (Val.rows x5)),(7,.p (.sl (strs x2))),(8,.p (.int .i64 (((strs x2).length:Nat):Int))),(9,.p (.int .i64 x4))]) (fun x5=>[.tail 36 6 (Val.rows x5).length]) (F_rows_Group_c1_k3 n nx1 x4) (r:=r) ?_ ?_
  ·intro x5 h
   unfold F_rows_Group_c1_k3 at h
   conv=>whnf
   exact ⟨(x5,(IntKind.i64.wrap (x4 + (1:Int)))),h,⟨[0],[],⟨rfl,rfl,rfl,rfl⟩,by repeat (first | exact trivial | exact .inl rfl | exact rfl | exact List.not_mem_nil | (refine .inr ?_) | (refine ⟨?_,?_⟩) | exact List.length_set.symm | decide),by repeat (first | exact trivial | exact .inl rfl | exact rfl | exact List.not_mem_nil | (refine .inr ?_) | (refine ⟨?_,?_⟩) | exact List.length_set.symm | decide)⟩⟩
  ·conv=>whnf
   replace h:=bnd_some h
   obtain ⟨x6,h3,h⟩:=h
   refine ⟨_,Codec.at_ strC h3,?_⟩
   conv=>whnf
   iterate 4 (refine And.intro (fun h=>h) ?_)
   conv=>whnf
   refine ⟨fun hc=>?_,fun hc=>?_⟩
   ·replace h:=cond_t h hc
    conv=>whnf
    replace h:=bnd_some h
    obtain ⟨⟨x7,x8,x9,x10,x11,x12⟩,h2,h⟩:=h
    refine ⟨_,Codec.at_ valC h2,?_⟩
    conv=>whnf
    refine ⟨Codec.one valC [Val.mk x7 x8 x9 x10 x11 x12],Val.rows [Val.mk x7 x8 x9 x10 x11 x12],.inl rfl,?_⟩
    conv=>whnf
    rw [show Val.rows x3 ++ Val.rows [Val.mk x7 x8 x9 x10 x11 x12] = Val.rows (x3 ++ [Val.mk x7 x8 x9 x10 x11 x12]) from Codec.append valC x3 [Val.mk x7 x8 x9 x10 x11 x12]]
    conv=>whnf
    obtain ⟨h1,h⟩:=chk_some h
    refine ⟨⟨Codec.wide valC (x3 ++ [Val.mk x7 x8 x9 x10 x11 x12]),of_decide_eq_true h1,len_ok h1 (by decide)⟩,?_⟩
    conv=>whnf
    refine ⟨⟨rfl,rfl,rfl⟩,?_⟩
    conv=>whnf
    exact ⟨(x3 ++ [Val.mk x7 x8 x9 x10 x11 x12]),h,⟨[1],[],⟨rfl,rfl,rfl,rfl⟩,by repeat (first | exact trivial | exact .inl rfl | exact rfl | exact List.not_mem_nil | (refine .inr ?_) | (refine ⟨?_,?_⟩) | exact List.length_set.symm | decide),by repeat (first | exact trivial | exact .inl rfl | exact rfl | exact List.not_mem_nil | (refine .inr ?_) | (refine ⟨?_,?_⟩) | exact List.length_set.symm | decide)⟩⟩
   ·replace h:=cond_f h hc
    conv=>whnf
    exact ⟨x3,h,⟨[0],[],⟨rfl,rfl,rfl,rfl⟩,by repeat (first | exact trivial | exact .inl rfl | exact rfl | exact List.not_mem_nil | (refine .inr ?_) | (refine ⟨?_,?_⟩) | exact List.length_set.symm | decide),by repeat (first | exact trivial | exact .inl rfl | exact rfl | exact List.not_mem_nil | (refine .inr ?_) | (refine ⟨?_,?_⟩) | exact List.length_set.symm | decide)⟩⟩
 ·replace h:=cond_f h hc
  obtain rfl:=Option.some.inj h
  conv=>whnf
  repeat (first | exact rfl | exact trivial | refine ⟨?_,?_⟩)
abbrev R_F_num_Add (r:Int × Int):PV:=PV.tup [PV.int .i64 r.1,PV.int .i64 r.2]
def F_num_Add (n:Nat)  (x1:Int) (x2:Int):Option (Int × Int) :=
 bif (bif ((decide (x1 < (0:Int))) == (decide (x2 < (0:Int)))) then (!((decide ((IntKind.i64.wrap (x1 + x2)) < (0:Int))) == (decide (x1 < (0:Int))))) else false) then (
 some ((0:Int),(4:Int)))
 else (
 some ((IntKind.i64.wrap (x1 + x2)),(0:Int)))
set_option maxRecDepth 100000 in
theorem F_num_Add_ok (n:Nat)   : ∀ (x1:Int) (x2:Int) (r:Int × Int),F_num_Add n x1 x2 = some r → CallsF Tryz.prog 63 [PV.int .i64 x1,PV.int .i64 x2] (R_F_num_Add r):=by
 intro x1 x2 r h
 unfold F_num_Add at h
 refine CallsF.of_vcN mixed (fun _ _=>Tryz.call63 _ _) Tryz.func63 (by kernel_rfl) (inl:=[1000000]) ?_
 conv=>whnf
 iterate 5 (refine And.intro (fun h=>h) ?_)
 conv=>whnf
 refine ⟨fun hc=>?_,fun hc=>?_⟩
 ·replace h:=cond_t h hc
  obtain rfl:=Option.some.inj h
  conv=>whnf
  repeat (first | exact rfl | exact trivial | refine ⟨?_,?_⟩)
 ·replace h:=cond_f h hc
  obtain rfl:=Option.some.inj h
  conv=>whnf
  repeat (first | exact rfl | exact trivial | refine ⟨?_,?_⟩)
abbrev R_F_rows_sum (r:Val × Int):PV:=PV.tup [PV.agg (valC.cells r.1),PV.int .i64 r.2]
def F_rows_sum_l1 (n:Nat) (x1:List Val):(Int × Int → Option (Val × Int)) → Int × Int → Option (Val × Int):=fun nx1 (x2,x3) =>
 bif (decide (x3 < (((Val.rows x1).length:Nat):Int))) then (
 bnd (idx x1 x3) fun ⟨x4,x5,x6,x7,x8,x9⟩ =>
 bif (x4 != (2:Int)) then (
 some (Val.mk (0:Int) false (0:Int) ([]:List UInt8) ([]:List Val) ([]:List (List UInt8)),(3:Int)))
else (
 bnd (F_num_Add n x2 x6) fun ⟨x10,x11⟩ =>
 bif (x11 != (0:Int)) then (
 some (Val.mk (0:Int) false (0:Int) ([]:List UInt8) ([]:List Val) ([]:List (List UInt8)),x11))
else (
 nx1 (x10,(IntKind.i64.wrap (x3 + (1:Int)))))))
else (
 some (Val.mk (2:Int) false x2 ([]:List UInt8) ([]:List Val) ([]:List (List UInt8)),(0:Int)))
def F_rows_sum (n:Nat)  (x1:List Val):Option (Val × Int) :=
 loopK (F_rows_sum_l1 n x1) n ((0:Int),(0:Int))
set_option maxRecDepth 100000 in
theorem F_rows_sum_ok (n:Nat)   : ∀ (x1:List Val) (r:Val × Int),F_rows_sum n x1 = some r → CallsF Tryz.prog 46 [PV.sl (Val.rows x1)] (R_F_rows_sum r):=by
 intro x1 r h
 unfold F_rows_sum at h
 refine CallsF.of_vcN mixed (fun _ _=>Tryz.call46 _ _) Tryz.func46 (by kernel_rfl) (inl:=[1000000]) ?_
 conv=>whnf
 refine LoopA.fn [1000000] (S:=Int × Int) (fun (x2,x3)=>[(2,.ptr 0 0),(4,.p (.int .i64 x2)),(9,.p (.sl (Val.rows x1))),(10,.p (.int .i64 (((Val.rows x1).length:Nat):Int))),(11,.p (.int .i64 x3))]) (fun (x2,x3)=>[.box 36 [.p (.int .i64 (0:Int)),.p (.bool false),.p (.int .i64 (0:Int)),.p (.str ([]:List UInt8)),.p (.nilsl),.p (.nilsl)]]) (B:=F_rows_sum_l1 n x1) h ⟨[0],[],⟨rfl,rfl,rfl,rfl⟩,by repeat (first | exact trivial | exact .inl rfl | exact rfl | exact List.not_mem_nil | (refine .inr ?_) | (refine ⟨?_,?_⟩) | exact List.length_set.symm | decide),by repeat (first | exact trivial | exact .inl rfl | exact rfl | exact List.not_mem_nil | (refine .inr ?_) | (refine ⟨?_,?_⟩) | exact List.length_set.symm | decide)⟩ ?_
 intro nx1 st h
 obtain ⟨x2,x3⟩:=st
 unfold F_rows_sum_l1 at h
 conv=>whnf
 refine ⟨fun hc=>?_,fun hc=>?_⟩
 ·replace h:=cond_t h hc
  conv=>whnf
  replace h:=bnd_some h
  obtain ⟨⟨x4,x5,x6,x7,x8,x9⟩,h2,h⟩:=h
  refine ⟨_,Codec.at_ valC h2,?_⟩
  conv=>whnf
  refine ⟨fun hc=>?_,fun hc=>?_⟩
  ·replace h:=cond_t h hc
   obtain rfl:=Option.some.inj h
   conv=>whnf
   repeat (first | exact rfl | exact trivial | refine ⟨?_,?_⟩)
  ·replace h:=cond_f h hc
   conv=>whnf
   replace h:=bnd_some h
   obtain ⟨⟨x10,x11⟩,h1,h⟩:=h
   refine ⟨_,(F_num_Add_ok n _ _  _ h1),?_⟩
   conv=>whnf
   refine ⟨fun hc=>?_,fun hc=>?_⟩
   ·replace h:=cond_t h hc
    obtain rfl:=Option.some.inj h
    conv=>whnf
    repeat (first | exact rfl | exact trivial | refine ⟨?_,?_⟩)
   ·replace h:=cond_f h hc
    conv=>whnf
    exact ⟨(x10,(IntKind.i64.wrap (x3 + (1:Int)))),h,⟨[0],[],⟨rfl,rfl,rfl,rfl⟩,by repeat (first | exact trivial | exact .inl rfl | exact rfl | exact List.not_mem_nil | (refine .inr ?_) | (refine ⟨?_,?_⟩) | exact List.length_set.symm | decide),by repeat (first | exact trivial | exact .inl rfl | exact rfl | exact List.not_mem_nil | (refine .inr ?_) | (refine ⟨?_,?_⟩) | exact List.length_set.symm | decide)⟩⟩
 ·replace h:=cond_f h hc
  obtain rfl:=Option.some.inj h
  conv=>whnf
  repeat (first | exact rfl | exact trivial | refine ⟨?_,?_⟩)
abbrev R_F_slices_MinFunc_api_Value_api_Value__value_Order (r:Val):PV:=PV.agg (valC.cells r)
def F_slices_MinFunc_api_Value_api_Value__value_Order_k3 (n:Nat) (nx1:Int × Int × Bool × Int × List UInt8 × List Val × List (List UInt8) → Option (Val)) (x8:Int):Int × Bool × Int × List UInt8 × List Val × List (List UInt8) → Option (Val):=fun (x15,x16,x17,x18,x19,x20) =>
 nx1 ((IntKind.i64.wrap (x8 + (1:Int))),x15,x16,x17,x18,x19,x20)
def F_slices_MinFunc_api_Value_api_Value__value_Order_l1 (n:Nat) (x1:List Val):(Int × Int × Bool × Int × List UInt8 × List Val × List (List UInt8) → Option (Val)) → Int × Int × Bool × Int × List UInt8 × List Val × List (List UInt8) → Option (Val):=fun nx1 (x8,x9,x10,x11,x12,x13,x14) =>
 bif (decide (x8 < (((Val.rows x1).length:Nat):Int))) then (
 bnd (idx x1 x8) fun ⟨x21,x22,x23,x24,x25,x26⟩ =>
 bnd (F_value_Order n (Val.mk x21 x22 x23 x24 x25 x26) (Val.mk x9 x10 x11 x12 x13 x14)) fun x27 =>
 bif (decide (x27 < (0:Int))) then (
 bnd (idx x1 x8) fun ⟨x28,x29,x30,x31,x32,x33⟩ =>
 F_slices_MinFunc_api_Value_api_Value__value_Order_k3 n nx1 x8 (x28,x29,x30,x31,x32,x33))
else (
 F_slices_MinFunc_api_Value_api_Value__value_Order_k3 n nx1 x8 (x9,x10,x11,x12,x13,x14)))
else (
 some (Val.mk x9 x10 x11 x12 x13 x14))
def F_slices_MinFunc_api_Value_api_Value__value_Order (n:Nat)  (x1:List Val):Option (Val) :=
 bif (decide ((((Val.rows x1).length:Nat):Int) < (1:Int))) then (
 none)
 else (
 bnd (idx x1 (0:Int)) fun ⟨x2,x3,x4,x5,x6,x7⟩ =>
 loopK (F_slices_MinFunc_api_Value_api_Value__value_Order_l1 n x1) n ((1:Int),x2,x3,x4,x5,x6,x7))
set_option maxRecDepth 100000 in
theorem F_slices_MinFunc_api_Value_api_Value__value_Order_ok (n:Nat)   : ∀ (x1:List Val) (r:Val),F_slices_MinFunc_api_Value_api_Value__value_Order n x1 = some r → CallsF Tryz.prog 48 [PV.sl (Val.rows x1),PV.fn 41] (R_F_slices_MinFunc_api_Value_api_Value__value_Order r):=by
 intro x1 r h
 unfold F_slices_MinFunc_api_Value_api_Value__value_Order at h
 refine CallsF.of_vcN mixed (fun _ _=>Tryz.call48 _ _) Tryz.func48 (by kernel_rfl) (inl:=[1000000]) ?_
 conv=>whnf
 refine SeqA.go ?_
 conv=>whnf
 refine ⟨fun hc=>?_,fun hc=>?_⟩
 ·replace h:=cond_t h hc
  cases h
 ·replace h:=cond_f h hc
  conv=>whnf
  replace h:=bnd_some h
  obtain ⟨⟨x2,x3,x4,x5,x6,x7⟩,h4,h⟩:=h
  refine ⟨_,Codec.at_ valC h4,?_⟩
  conv=>whnf
  refine LoopA.fn [1000000] (S:=Int × Int × Bool × Int × List UInt8 × List Val × List (List UInt8)) (fun (x8,x9,x10,x11,x12,x13,x14)=>[(0,.p (.sl (Val.rows x1))),(1,.p (.fn 41)),(4,.ptr 0 0),(5,.ptr 1 0),(6,.p (.int .i64 x8))]) (fun (x8,x9,x10,x11,x12,x13,x14)=>[.box 36 [.p (.int .i64 (0:Int)),.p (.bool false),.p (.int .i64 (0:Int)),.p (.str ([]:List UInt8)),.p (.nilsl),.p (.nilsl)],.box 36 [.p (.int .i64 x9),.p (.bool x10),.p (.int .i64 x11),.p (.str x12),.p (.sl (Val.rows x13)),.p (.sl (strs x14))]]) (B:=F_slices_MinFunc_api_Value_api_Value__value_Order_l1 n x1) h ⟨[0,1],[],⟨rfl,rfl,rfl,rfl⟩,by repeat (first | exact trivial | exact .inl rfl | exact rfl | exact List.not_mem_nil | (refine .inr ?_) | (refine ⟨?_,?_⟩) | exact List.length_set.symm | decide),by repeat (first | exact trivial | exact .inl rfl | exact rfl | exact List.not_mem_nil | (refine .inr ?_) | (refine ⟨?_,?_⟩) | exact List.length_set.symm | decide)⟩ ?_
  intro nx1 st h
  obtain ⟨x8,x9,x10,x11,x12,x13,x14⟩:=st
  unfold F_slices_MinFunc_api_Value_api_Value__value_Order_l1 at h
  conv=>whnf
  refine ⟨fun hc=>?_,fun hc=>?_⟩
  ·replace h:=cond_t h hc
   conv=>whnf
   refine SeqA.cut (S:=Int × Bool × Int × List UInt8 × List Val × List (List UInt8)) (fun (x15,x16,x17,x18,x19,x20)=>[(0,.p (.sl (Val.rows x1))),(1,.p (.fn 41)),(4,.ptr 0 0),(5,.ptr 1 0),(6,.p (.int .i64 x8))]) (fun (x15,x16,x17,x18,x19,x20)=>[.box 36 [.p (.int .i64 (0:Int)),.p (.bool false),.p (.int .i64 (0:Int)),.p (.str ([]:List UInt8)),.p (.nilsl),.p (.nilsl)],.box 36 [.p (.int .i64 x15),.p (.bool x16),.p (.int .i64 x17),.p (.str x18),.p (.sl (Val.rows x19)),.p (.sl (strs x20))]]) (F_slices_MinFunc_api_Value_api_Value__value_Order_k3 n nx1 x8) (r:=r) ?_ ?_
   ·intro st h
    obtain ⟨x15,x16,x17,x18,x19,x20⟩:=st
    unfold F_slices_MinFunc_api_Value_api_Value__value_Order_k3 at h
    conv=>whnf
    exact ⟨((IntKind.i64.wrap (x8 + (1:Int))),x15,x16,x17,x18,x19,x20),h,⟨[0,1],[],⟨rfl,rfl,rfl,rfl⟩,by repeat (first | exact trivial | exact .inl rfl | exact rfl | exact List.not_mem_nil | (refine .inr ?_) | (refine ⟨?_,?_⟩) | exact List.length_set.symm | decide),by repeat (first | exact trivial | exact .inl rfl | exact rfl | exact List.not_mem_nil | (refine .inr ?_) | (refine ⟨?_,?_⟩) | exact List.length_set.symm | decide)⟩⟩
   ·conv=>whnf
    replace h:=bnd_some h
    obtain ⟨⟨x21,x22,x23,x24,x25,x26⟩,h3,h⟩:=h
    refine ⟨_,Codec.at_ valC h3,?_⟩
    conv=>whnf
    replace h:=bnd_some h
    obtain ⟨x27,h2,h⟩:=h
    refine ⟨_,(F_value_Order_ok n _ _  _ h2),?_⟩
    conv=>whnf
    refine ⟨fun hc=>?_,fun hc=>?_⟩
    ·replace h:=cond_t h hc
     conv=>whnf
     replace h:=bnd_some h
     obtain ⟨⟨x28,x29,x30,x31,x32,x33⟩,h1,h⟩:=h
     refine ⟨_,Codec.at_ valC h1,?_⟩
     conv=>whnf
     exact ⟨(x28,x29,x30,x31,x32,x33),h,⟨[0,1],[],⟨rfl,rfl,rfl,rfl⟩,by repeat (first | exact trivial | exact .inl rfl | exact rfl | exact List.not_mem_nil | (refine .inr ?_) | (refine ⟨?_,?_⟩) | exact List.length_set.symm | decide),by repeat (first | exact trivial | exact .inl rfl | exact rfl | exact List.not_mem_nil | (refine .inr ?_) | (refine ⟨?_,?_⟩) | exact List.length_set.symm | decide)⟩⟩
    ·replace h:=cond_f h hc
     conv=>whnf
     exact ⟨(x9,x10,x11,x12,x13,x14),h,⟨[0,1],[],⟨rfl,rfl,rfl,rfl⟩,by repeat (first | exact trivial | exact .inl rfl | exact rfl | exact List.not_mem_nil | (refine .inr ?_) | (refine ⟨?_,?_⟩) | exact List.length_set.symm | decide),by repeat (first | exact trivial | exact .inl rfl | exact rfl | exact List.not_mem_nil | (refine .inr ?_) | (refine ⟨?_,?_⟩) | exact List.length_set.symm | decide)⟩⟩
  ·replace h:=cond_f h hc
   obtain rfl:=Option.some.inj h
   conv=>whnf
   repeat (first | exact rfl | exact trivial | refine ⟨?_,?_⟩)
abbrev R_F_slices_MaxFunc_api_Value_api_Value__value_Order (r:Val):PV:=PV.agg (valC.cells r)
def F_slices_MaxFunc_api_Value_api_Value__value_Order_k3 (n:Nat) (nx1:Int × Int × Bool × Int × List UInt8 × List Val × List (List UInt8) → Option (Val)) (x8:Int):Int × Bool × Int × List UInt8 × List Val × List (List UInt8) → Option (Val):=fun (x15,x16,x17,x18,x19,x20) =>
 nx1 ((IntKind.i64.wrap (x8 + (1:Int))),x15,x16,x17,x18,x19,x20)
def F_slices_MaxFunc_api_Value_api_Value__value_Order_l1 (n:Nat) (x1:List Val):(Int × Int × Bool × Int × List UInt8 × List Val × List (List UInt8) → Option (Val)) → Int × Int × Bool × Int × List UInt8 × List Val × List (List UInt8) → Option (Val):=fun nx1 (x8,x9,x10,x11,x12,x13,x14) =>
 bif (decide (x8 < (((Val.rows x1).length:Nat):Int))) then (
 bnd (idx x1 x8) fun ⟨x21,x22,x23,x24,x25,x26⟩ =>
 bnd (F_value_Order n (Val.mk x21 x22 x23 x24 x25 x26) (Val.mk x9 x10 x11 x12 x13 x14)) fun x27 =>
 bif (decide (x27 > (0:Int))) then (
 bnd (idx x1 x8) fun ⟨x28,x29,x30,x31,x32,x33⟩ =>
 F_slices_MaxFunc_api_Value_api_Value__value_Order_k3 n nx1 x8 (x28,x29,x30,x31,x32,x33))
else (
 F_slices_MaxFunc_api_Value_api_Value__value_Order_k3 n nx1 x8 (x9,x10,x11,x12,x13,x14)))
else (
 some (Val.mk x9 x10 x11 x12 x13 x14))
def F_slices_MaxFunc_api_Value_api_Value__value_Order (n:Nat)  (x1:List Val):Option (Val) :=
 bif (decide ((((Val.rows x1).length:Nat):Int) < (1:Int))) then (
 none)
 else (
 bnd (idx x1 (0:Int)) fun ⟨x2,x3,x4,x5,x6,x7⟩ =>
 loopK (F_slices_MaxFunc_api_Value_api_Value__value_Order_l1 n x1) n ((1:Int),x2,x3,x4,x5,x6,x7))
set_option maxRecDepth 100000 in
theorem F_slices_MaxFunc_api_Value_api_Value__value_Order_ok (n:Nat)   : ∀ (x1:List Val) (r:Val),F_slices_MaxFunc_api_Value_api_Value__value_Order n x1 = some r → CallsF Tryz.prog 49 [PV.sl (Val.rows x1),PV.fn 41] (R_F_slices_MaxFunc_api_Value_api_Value__value_Order r):=by
 intro x1 r h
 unfold F_slices_MaxFunc_api_Value_api_Value__value_Order at h
 refine CallsF.of_vcN mixed (fun _ _=>Tryz.call49 _ _) Tryz.func49 (by kernel_rfl) (inl:=[1000000]) ?_
 conv=>whnf
 refine SeqA.go ?_
 conv=>whnf
 refine ⟨fun hc=>?_,fun hc=>?_⟩
 ·replace h:=cond_t h hc
  cases h
 ·replace h:=cond_f h hc
  conv=>whnf
  replace h:=bnd_some h
  obtain ⟨⟨x2,x3,x4,x5,x6,x7⟩,h4,h⟩:=h
  refine ⟨_,Codec.at_ valC h4,?_⟩
  conv=>whnf
  refine LoopA.fn [1000000] (S:=Int × Int × Bool × Int × List UInt8 × List Val × List (List UInt8)) (fun (x8,x9,x10,x11,x12,x13,x14)=>[(0,.p (.sl (Val.rows x1))),(1,.p (.fn 41)),(4,.ptr 0 0),(5,.ptr 1 0),(6,.p (.int .i64 x8))]) (fun (x8,x9,x10,x11,x12,x13,x14)=>[.box 36 [.p (.int .i64 (0:Int)),.p (.bool false),.p (.int .i64 (0:Int)),.p (.str ([]:List UInt8)),.p (.nilsl),.p (.nilsl)],.box 36 [.p (.int .i64 x9),.p (.bool x10),.p (.int .i64 x11),.p (.str x12),.p (.sl (Val.rows x13)),.p (.sl (strs x14))]]) (B:=F_slices_MaxFunc_api_Value_api_Value__value_Order_l1 n x1) h ⟨[0,1],[],⟨rfl,rfl,rfl,rfl⟩,by repeat (first | exact trivial | exact .inl rfl | exact rfl | exact List.not_mem_nil | (refine .inr ?_) | (refine ⟨?_,?_⟩) | exact List.length_set.symm | decide),by repeat (first | exact trivial | exact .inl rfl | exact rfl | exact List.not_mem_nil | (refine .inr ?_) | (refine ⟨?_,?_⟩) | exact List.length_set.symm | decide)⟩ ?_
  intro nx1 st h
  obtain ⟨x8,x9,x10,x11,x12,x13,x14⟩:=st
  unfold F_slices_MaxFunc_api_Value_api_Value__value_Order_l1 at h
  conv=>whnf
  refine ⟨fun hc=>?_,fun hc=>?_⟩
  ·replace h:=cond_t h hc
   conv=>whnf
   refine SeqA.cut (S:=Int × Bool × Int × List UInt8 × List Val × List (List UInt8)) (fun (x15,x16,x17,x18,x19,x20)=>[(0,.p (.sl (Val.rows x1))),(1,.p (.fn 41)),(4,.ptr 0 0),(5,.ptr 1 0),(6,.p (.int .i64 x8))]) (fun (x15,x16,x17,x18,x19,x20)=>[.box 36 [.p (.int .i64 (0:Int)),.p (.bool false),.p (.int .i64 (0:Int)),.p (.str ([]:List UInt8)),.p (.nilsl),.p (.nilsl)],.box 36 [.p (.int .i64 x15),.p (.bool x16),.p (.int .i64 x17),.p (.str x18),.p (.sl (Val.rows x19)),.p (.sl (strs x20))]]) (F_slices_MaxFunc_api_Value_api_Value__value_Order_k3 n nx1 x8) (r:=r) ?_ ?_
   ·intro st h
    obtain ⟨x15,x16,x17,x18,x19,x20⟩:=st
    unfold F_slices_MaxFunc_api_Value_api_Value__value_Order_k3 at h
    conv=>whnf
    exact ⟨((IntKind.i64.wrap (x8 + (1:Int))),x15,x16,x17,x18,x19,x20),h,⟨[0,1],[],⟨rfl,rfl,rfl,rfl⟩,by repeat (first | exact trivial | exact .inl rfl | exact rfl | exact List.not_mem_nil | (refine .inr ?_) | (refine ⟨?_,?_⟩) | exact List.length_set.symm | decide),by repeat (first | exact trivial | exact .inl rfl | exact rfl | exact List.not_mem_nil | (refine .inr ?_) | (refine ⟨?_,?_⟩) | exact List.length_set.symm | decide)⟩⟩
   ·conv=>whnf
    replace h:=bnd_some h
    obtain ⟨⟨x21,x22,x23,x24,x25,x26⟩,h3,h⟩:=h
    refine ⟨_,Codec.at_ valC h3,?_⟩
    conv=>whnf
    replace h:=bnd_some h
    obtain ⟨x27,h2,h⟩:=h
    refine ⟨_,(F_value_Order_ok n _ _  _ h2),?_⟩
    conv=>whnf
    refine ⟨fun hc=>?_,fun hc=>?_⟩
    ·replace h:=cond_t h hc
     conv=>whnf
     replace h:=bnd_some h
     obtain ⟨⟨x28,x29,x30,x31,x32,x33⟩,h1,h⟩:=h
     refine ⟨_,Codec.at_ valC h1,?_⟩
     conv=>whnf
     exact ⟨(x28,x29,x30,x31,x32,x33),h,⟨[0,1],[],⟨rfl,rfl,rfl,rfl⟩,by repeat (first | exact trivial | exact .inl rfl | exact rfl | exact List.not_mem_nil | (refine .inr ?_) | (refine ⟨?_,?_⟩) | exact List.length_set.symm | decide),by repeat (first | exact trivial | exact .inl rfl | exact rfl | exact List.not_mem_nil | (refine .inr ?_) | (refine ⟨?_,?_⟩) | exact List.length_set.symm | decide)⟩⟩
    ·replace h:=cond_f h hc
     conv=>whnf
     exact ⟨(x9,x10,x11,x12,x13,x14),h,⟨[0,1],[],⟨rfl,rfl,rfl,rfl⟩,by repeat (first | exact trivial | exact .inl rfl | exact rfl | exact List.not_mem_nil | (refine .inr ?_) | (refine ⟨?_,?_⟩) | exact List.length_set.symm | decide),by repeat (first | exact trivial | exact .inl rfl | exact rfl | exact List.not_mem_nil | (refine .inr ?_) | (refine ⟨?_,?_⟩) | exact List.length_set.symm | decide)⟩⟩
  ·replace h:=cond_f h hc
   obtain rfl:=Option.some.inj h
   conv=>whnf
   repeat (first | exact rfl | exact trivial | refine ⟨?_,?_⟩)
abbrev R_F_rows_gather (r:Val × Int):PV:=PV.tup [PV.agg (valC.cells r.1),PV.int .i64 r.2]
def F_rows_gather (n:Nat)  (x1:List UInt8) (x2:List Val):Option (Val × Int) :=
 bif (x1 == ([99,111,117,110,116]:List UInt8)) then (
 some (Val.mk (2:Int) false (((Val.rows x2).length:Nat):Int) ([]:List UInt8) ([]:List Val) ([]:List (List UInt8)),(0:Int)))
 else (
 bif (x1 == ([115,117,109]:List UInt8)) then (
 bnd (F_rows_sum n x2) fun ⟨⟨x3,x4,x5,x6,x7,x8⟩,x9⟩ =>
 some (Val.mk x3 x4 x5 x6 x7 x8,x9))
 else (
 bif (x1 == ([99,111,108,108,101,99,116]:List UInt8)) then (
 bnd (F_rows_copied n x2) fun x10 =>
 bnd (F_value_Check n (Val.mk (4:Int) false (0:Int) ([]:List UInt8) x10 ([]:List (List UInt8)))) fun x11 =>
 bif (x11 != (0:Int)) then (
 some (Val.mk (0:Int) false (0:Int) ([]:List UInt8) ([]:List Val) ([]:List (List UInt8)),(8:Int)))
 else (
 some (Val.mk (4:Int) false (0:Int) ([]:List UInt8) x10 ([]:List (List UInt8)),(0:Int))))
 else (
 bif ((((Val.rows x2).length:Nat):Int) == (0:Int)) then (
 some (Val.mk (0:Int) false (0:Int) ([]:List UInt8) ([]:List Val) ([]:List (List UInt8)),(0:Int)))
 else (
 bif (x1 == ([109,105,110]:List UInt8)) then (
 bnd (F_slices_MinFunc_api_Value_api_Value__value_Order n x2) fun ⟨x12,x13,x14,x15,x16,x17⟩ =>
 some (Val.mk x12 x13 x14 x15 x16 x17,(0:Int)))
 else (
 bnd (F_slices_MaxFunc_api_Value_api_Value__value_Order n x2) fun ⟨x18,x19,x20,x21,x22,x23⟩ =>
 some (Val.mk x18 x19 x20 x21 x22 x23,(0:Int)))))))
set_option maxHeartbeats 20000000 in
set_option maxRecDepth 100000 in
theorem F_rows_gather_ok (n:Nat)   : ∀ (x1:List UInt8) (x2:List Val) (r:Val × Int),F_rows_gather n x1 x2 = some r → CallsF Tryz.prog 27 [PV.str x1,PV.sl (Val.rows x2)] (R_F_rows_gather r):=by
 intro x1 x2 r h
 unfold F_rows_gather at h
 refine CallsF.of_vcN mixed (fun _ _=>Tryz.call27 _ _) Tryz.func27 (by kernel_rfl) (inl:=[1000000]) ?_
 conv=>whnf
 refine ⟨fun hc=>?_,fun hc=>?_⟩
 ·replace h:=cond_t h hc
  obtain rfl:=Option.some.inj h
  conv=>whnf
  repeat (first | exact rfl | exact trivial | refine ⟨?_,?_⟩)
 ·replace h:=cond_f h hc
  conv=>whnf
  refine ⟨fun hc=>?_,fun hc=>?_⟩
  ·replace h:=cond_t h hc
   conv=>whnf
   replace h:=bnd_some h
   obtain ⟨⟨⟨x3,x4,x5,x6,x7,x8⟩,x9⟩,h1,h⟩:=h
   refine ⟨_,(F_rows_sum_ok n _  _ h1),?_⟩
   obtain rfl:=Option.some.inj h
   conv=>whnf
   repeat (first | exact rfl | exact trivial | refine ⟨?_,?_⟩)
  ·replace h:=cond_f h hc
   conv=>whnf
   refine ⟨fun hc=>?_,fun hc=>?_⟩
   ·replace h:=cond_t h hc
    conv=>whnf
    replace h:=bnd_some h
    obtain ⟨x10,h3,h⟩:=h
    refine ⟨_,(F_rows_copied_ok n _  _ h3),?_⟩
    conv=>whnf
    replace h:=bnd_some h
    obtain ⟨x11,h2,h⟩:=h
    refine ⟨_,(CallsF.leArgs (F_value_Check_ok n _  _ h2) (by repeat (first | exact rfl | exact trivial | refine ⟨?_,?_⟩))),?_⟩
    conv=>whnf
    refine ⟨fun hc=>?_,fun hc=>?_⟩
    ·replace h:=cond_t h hc
     obtain rfl:=Option.some.inj h
     conv=>whnf
     repeat (first | exact rfl | exact trivial | refine ⟨?_,?_⟩)
    ·replace h:=cond_f h hc
     obtain rfl:=Option.some.inj h
     conv=>whnf
     repeat (first | exact rfl | exact trivial | refine ⟨?_,?_⟩)
   ·replace h:=cond_f h hc
    conv=>whnf
    refine ⟨fun hc=>?_,fun hc=>?_⟩
    ·replace h:=cond_t h hc
     obtain rfl:=Option.some.inj h
     conv=>whnf
     repeat (first | exact rfl | exact trivial | refine ⟨?_,?_⟩)
    ·replace h:=cond_f h hc
     conv=>whnf
     refine ⟨fun hc=>?_,fun hc=>?_⟩
     ·replace h:=cond_t h hc
      conv=>whnf
      replace h:=bnd_some h
      obtain ⟨⟨x12,x13,x14,x15,x16,x17⟩,h4,h⟩:=h
      refine ⟨_,(F_slices_MinFunc_api_Value_api_Value__value_Order_ok n _  _ h4),?_⟩
      obtain rfl:=Option.some.inj h
      conv=>whnf
      repeat (first | exact rfl | exact trivial | refine ⟨?_,?_⟩)
     ·replace h:=cond_f h hc
      conv=>whnf
      replace h:=bnd_some h
      obtain ⟨⟨x18,x19,x20,x21,x22,x23⟩,h5,h⟩:=h
      refine ⟨_,(F_slices_MaxFunc_api_Value_api_Value__value_Order_ok n _  _ h5),?_⟩
      obtain rfl:=Option.some.inj h
      conv=>whnf
      repeat (first | exact rfl | exact trivial | refine ⟨?_,?_⟩)
end W
end
section
namespace Ax
open Go
variable {Lw:Nat}
def pub1N (lo:List AObj) (v:FV) (R:PV → List AObj → Prop):Prop :=
 match v with
 | .tsl k rows=>nthK k lo fun o=>match o with
  | .tail _ _ _=>R (.nsl rows) lo
  | _=>False
 | .vsl k _=>nthK k lo fun o=>match o with
  | .vec _ _ rows=>setK k .dead lo fun lo=>R (.nsl rows) lo
  | _=>False
 | v=>pub1 lo v R
def pubLN:List FV → List AObj → (List PV → List AObj → Prop) → Prop
 | [],lo,R=>R [] lo
 | v :: cs,lo,R=>pub1N lo v fun p lo=>pubLN cs lo fun ps lo=>R (p :: ps) lo
def pubKN (lo:List AObj) (v:FV) (R:PV → List AObj → Prop):Prop :=
 match v with
 | .fagg c=>chainK c fun cs=>pubLN cs lo fun ps lo=>R (.agg ps) lo
 | v=>pub1N lo v R
def resLN (P:Program) (E:Env) (lo:List AObj):List ResultVar → (List PV → Prop) → Prop
 | [],R=>R []
 | r :: rs,R=>resK P E lo r fun v=>pubKN lo v fun p lo=>resLN P E lo rs fun l=>R (p :: l)
def retKN (P:Program) (fn:Func) (R:PV → Prop):KA:=fun x E lo=>match x with
 | .exit _=>False
 | _=>resLN P E lo fn.results.toList fun vs=>match vs with
   | [v]=>R v
   | vs=>R (.tup vs)
theorem own_zero {ρ:List Value} {H:PH Lw} {w:World} {v:Value} {e:TypeId} {z n:Nat} (h:ObjOk ρ H w v (.tail e z n)) {b o m c:Nat} (hv:v = .slice (some ⟨b,o,none⟩) m c):o = 0:=by
 obtain ⟨xs,how,_⟩:=h
 rcases how.2 with ⟨rfl,_⟩ | ⟨g,cap,cur,rfl,_⟩
 ·cases hv
 ·cases hv; rfl
theorem own_zeroV {ρ:List Value} {H:PH Lw} {w:World} {v:Value} {e:TypeId} {z:Nat} {rows:List (List PV)} (h:ObjOk ρ H w v (.vec e z rows)) {b o m c:Nat} (hv:v = .slice (some ⟨b,o,none⟩) m c):o = 0:=by
 obtain ⟨xs,how,_⟩:=h
 rcases how.2 with ⟨rfl,_⟩ | ⟨g,cap,cur,rfl,_⟩
 ·cases hv
 ·cases hv; rfl
def Fresh (bs:(Base Lw)):Prop:=(∀ b,¬ bs.S b) ∧ Lw ≤ bs.w0.heap.size
theorem pub1N_spec {lo:List AObj} {v:FV} {R:PV → List AObj → Prop} (h:pub1N lo v R):∃ f lo',R f lo' ∧ ∀ ⦃Lw:Nat⦄ (bs:(Base Lw)) (N:Nat) (ρ:List Value) (H:(PH Lw)) (e:Nat → FV) (a:Act) (w:World) (x:Value),Fresh bs → Sat bs N ρ H e lo a w → RepF ρ H v x →
  ∃ H',PH.le H H' ∧ Sat bs N ρ H' e lo' a w ∧ RepP H' f x:=by
 unfold pub1N at h
 split at h
 ·rename_i k rows
  obtain ⟨o,ho,h⟩:=nthK_spec h
  split at h
  ·rename_i e z n
   refine ⟨_,_,h,fun Lw bs N ρ H ev a w x hf s r=>⟨H,PH.le.refl H,s,?_⟩⟩
   obtain ⟨hk,r⟩:=r
   simp only [RepP] at r ⊢
   rcases r with r | ⟨b,off,z',cap,rfl,hc,rr⟩
   ·exact .inl r
   ·refine .inr ⟨b,off,z',cap,rfl,hc,?_,rr⟩
    refine ⟨?_,own_zero (s.objs k _ _ ho hk) rfl⟩
    rcases s.own k _ _ b ho hk rfl rfl with h1 | h1
    ·exact absurd h1 (hf.1 b)
    ·exact Nat.le_trans hf.2 h1
  ·exact h.elim
 ·rename_i k n
  obtain ⟨o,ho,h⟩:=nthK_spec h
  split at h
  ·rename_i e z rows
   obtain ⟨h,_⟩:=setK_spec h
   refine ⟨_,_,h,fun Lw bs N ρ H ev a w x hf s r=>?_⟩
   obtain ⟨H',hle,s',rp⟩:=s.toSatW.publish ho r.1
   refine ⟨H',hle,{ s' with slots:=fun t=>(s.slots t).mono (List.prefix_refl _) hle,width:=s.width,defers:=s.defers },?_⟩
   simp only [RepP] at rp ⊢
   rcases rp with rp | ⟨b,off,z',cap,rfl,hc,rr⟩
   ·exact .inl rp
   ·refine .inr ⟨b,off,z',cap,rfl,hc,?_,rr⟩
    refine ⟨?_,own_zeroV (s.objs k _ _ ho r.1) rfl⟩
    rcases s.own k _ _ b ho r.1 rfl rfl with h1 | h1
    ·exact absurd h1 (hf.1 b)
    ·exact Nat.le_trans hf.2 h1
  ·exact h.elim
 ·obtain ⟨f,lo',h,hs⟩:=pub1_spec h
  exact ⟨f,lo',h,fun Lw bs N ρ H e a w x _ s r=>hs bs N ρ H e a w x s r⟩
theorem pubLN_spec:∀ {cs:List FV} {lo:List AObj} {R:List PV → List AObj → Prop},pubLN cs lo R → ∃ ps lo',R ps lo' ∧ ∀ ⦃Lw:Nat⦄ (bs:(Base Lw)) (N:Nat) (ρ:List Value) (H:(PH Lw)) (e:Nat → FV) (a:Act) (w:World) (vs:List Value),Fresh bs → Sat bs N ρ H e lo a w → RepFL ρ H cs vs →
  ∃ H',PH.le H H' ∧ Sat bs N ρ H' e lo' a w ∧ RepL H' ps vs
 | [],lo,R,h=>⟨[],lo,h,fun Lw bs N ρ H e a w vs _ s r=>⟨H,PH.le.refl H,s,by simp only [RepFL] at r; simp only [RepL]; exact r⟩⟩
 | v :: cs,lo,R,h=>by
  simp only [pubLN] at h
  obtain ⟨p,lo1,h,h1⟩:=pub1N_spec h
  obtain ⟨ps,lo2,h,h2⟩:=pubLN_spec h
  refine ⟨_,_,h,fun Lw bs N ρ H e a w vs hf s r=>?_⟩
  obtain ⟨u,us,rfl,r1,rs⟩:=r
  obtain ⟨H1,hle1,s1,rp1⟩:=h1 bs N ρ H e a w u hf s r1
  obtain ⟨H2,hle2,s2,rp2⟩:=h2 bs N ρ H1 e a w us hf s1 (rs.mono (List.prefix_refl _) hle1)
  exact ⟨H2,hle1.trans hle2,s2,by simp only [RepL]; exact ⟨u,us,rfl,RepP.mono hle2 rp1,rp2⟩⟩
theorem pubKN_spec {lo:List AObj} {v:FV} {R:PV → List AObj → Prop} (h:pubKN lo v R):∃ f lo',R f lo' ∧ ∀ ⦃Lw:Nat⦄ (bs:(Base Lw)) (N:Nat) (ρ:List Value) (H:(PH Lw)) (e:Nat → FV) (a:Act) (w:World) (x:Value),Fresh bs → Sat bs N ρ H e lo a w → RepF ρ H v x →
  ∃ H',PH.le H H' ∧ Sat bs N ρ H' e lo' a w ∧ RepP H' f x:=by
 unfold pubKN at h
 split at h
 ·rename_i c
  obtain ⟨cs,h,hcs⟩:=chainK_spec h
  obtain ⟨ps,lo',h,hs⟩:=pubLN_spec h
  refine ⟨_,_,h,fun Lw bs N ρ H e a w x hf s r=>?_⟩
  obtain ⟨vs,rfl,rc⟩:=r
  obtain ⟨H',hle,s',rp⟩:=hs bs N ρ H e a w vs hf s (hcs _ _ _ rc)
  exact ⟨H',hle,s',by simp only [RepP]; exact ⟨vs,rfl,rp⟩⟩
 ·exact pub1N_spec h
theorem resLN_spec {P:Program} {E:Env}:∀ {l:List ResultVar} {lo:List AObj} {R:List PV → Prop},resLN P E lo l R → ∃ ps,R ps ∧ ps.length = l.length ∧ ∀ ⦃Lw:Nat⦄ (bs:(Base Lw)) (N:Nat) (ρ:List Value) (H:(PH Lw)) (a:Act) (w:World),Fresh bs → Sat bs N ρ H (lookD E) lo a w →
  ∃ (vs:List Value) (H':(PH Lw)) (lo':List AObj),(l.mapM (m:=Sem) (resOne a.tmps)).run P w = .ok vs w ∧ RepL H' ps vs ∧ PH.le H H' ∧ Sat bs N ρ H' (lookD E) lo' a w
 | [],lo,R,h=>⟨[],h,rfl,fun Lw bs N ρ H a w _ s=>⟨[],H,lo,by simp,by simp [RepL],PH.le.refl H,s⟩⟩
 | r :: rs,lo,R,h=>by
  simp only [resLN] at h
  obtain ⟨f,h,h1⟩:=resK_spec h
  obtain ⟨p,lo1,h,h2⟩:=pubKN_spec h
  obtain ⟨ps,h,hlen,h3⟩:=resLN_spec h
  refine ⟨p :: ps,h,by simp [hlen],fun Lw bs N ρ H a w hf s=>?_⟩
  obtain ⟨v,hv,rv⟩:=h1 bs N ρ H a w s
  obtain ⟨H1,hle1,s1,rv1⟩:=h2 bs N ρ H _ a w v hf s rv
  obtain ⟨vs,H2,lo2,hvs,rvs,hle2,s2⟩:=h3 bs N ρ H1 a w hf s1
  refine ⟨v :: vs,H2,lo2,?_,by simp only [RepL]; exact ⟨v,vs,rfl,RepP.mono hle2 rv1,rvs⟩,hle1.trans hle2,s2⟩
  simp only [List.mapM_cons,Sem.run_bind,hv,Result.andThen_ok,hvs,Sem.run_pure]
theorem retN_spec {P:Program} {fn:Func} {E:Env} {lo:List AObj} {x:AX} {R:PV → Prop} (h:retKN P fn R x E lo):∃ p,R p ∧ (x = .normal ∨ x = .ret) ∧
  ∀ ⦃Lw:Nat⦄ (bs:(Base Lw)) (N:Nat) (ρ:List Value) (H:(PH Lw)) (a:Act) (w:World),Fresh bs → Sat bs N ρ H (lookD E) lo a w → ∃ (v:Value) (H':(PH Lw)) (lo':List AObj),(results fn a.tmps).run P w = .ok v w ∧ RepP H' p v ∧ PH.le H H' ∧ Sat bs N ρ H' (lookD E) lo' a w:=by
 have key:∀ {x:AX},(x = .normal ∨ x = .ret) → (resLN P E lo fn.results.toList fun vs=>match vs with
   | [v]=>R v
   | vs=>R (.tup vs)) → ∃ p,R p ∧ (x = .normal ∨ x = .ret) ∧
  ∀ ⦃Lw:Nat⦄ (bs:(Base Lw)) (N:Nat) (ρ:List Value) (H:(PH Lw)) (a:Act) (w:World),Fresh bs → Sat bs N ρ H (lookD E) lo a w → ∃ (v:Value) (H':(PH Lw)) (lo':List AObj),(results fn a.tmps).run P w = .ok v w ∧ RepP H' p v ∧ PH.le H H' ∧ Sat bs N ρ H' (lookD E) lo' a w:=by
  intro x hx h
  obtain ⟨ps,h,hpl,hs⟩:=resLN_spec h
  clear hpl
  split at h
  ·rename_i p
   refine ⟨p,h,hx,fun Lw bs N ρ H a w hf s=>?_⟩
   obtain ⟨vs,H',lo',hr,rl,hle,s'⟩:=hs bs N ρ H a w hf s
   simp only [RepL] at rl
   obtain ⟨v,_,rfl,rv,rfl⟩:=rl
   refine ⟨v,H',lo',?_,rv,hle,s'⟩
   rw [results_eq,Array.mapM_eq_mapM_toList]
   simp only [Sem.run_bind,Sem.run_map,hr,Result.andThen_ok]
   rfl
  ·rename_i hne
   refine ⟨_,h,hx,fun Lw bs N ρ H a w hf s=>?_⟩
   obtain ⟨vs,H',lo',hr,rl,hle,s'⟩:=hs bs N ρ H a w hf s
   refine ⟨.tuple vs.toArray,H',lo',?_,by simp only [RepP]; exact ⟨vs,rfl,rl⟩,hle,s'⟩
   rw [results_eq,Array.mapM_eq_mapM_toList]
   simp only [Sem.run_bind,Sem.run_map,hr,Result.andThen_ok,Sem.run_pure]
   have:¬ vs.toArray.size = 1:=by
    intro h1
    have hl:=rl.length
    simp at h1
    rw [h1] at hl
    cases ps with
    | nil=>simp at hl
    | cons a l=>cases l with
     | nil=>exact hne a rfl
     | cons b l=>simp at hl
   simp only [this,dif_neg,not_false_eq_true]
 cases x with
 | normal=>exact key (.inl rfl) h
 | exit i=>exact h.elim
 | ret=>exact key (.inr rfl) h
def vcFnN (P:Program) (inl:List Nat) (fn:Func) (args:List PV) (R:PV → Prop):Prop :=
 match fn.body with
 | some c=>vc P inl fn.ntmps 0 c (retKN P fn R) (initE 0 args) []
 | none=>False
theorem CallsF.of_vcNewR {P:Program} {f:FuncId} {fn:Func} {args:List PV} {r:PV} {inl:List Nat} {R:PV → Prop} (hm:P.follows .mixedOrders = true) (he:Enters P f) (hf:P.funcs[f]? = some fn) (hok:fnOk inl fn args.length = true)
  (hR:∀ (p:PV) (v:Value) ⦃Lw:Nat⦄ (H:(PH Lw)),R p → RepP H p v → RepP H r v) (h:vcFnN P inl fn args R):CallsF P f args r:=by
 intro Lw H w vs hs rl
 rw [he]
 refine ⟨rfl,?_⟩
 simp only [fnOk,Bool.and_eq_true,decide_eq_true_eq] at hok
 obtain ⟨hd,hn⟩:=hok
 unfold vcFnN at h
 cases hb:fn.body with
 | none=>simp [hb] at hd
 | some c =>
  simp only [hb] at h hd
  refine calls_of_wp hf hb ?_
  have hl:=rl.length
  have sat:Sat { S:=Nobody,w0:=w,H0:=H,r0:=[] } fn.ntmps [] H (lookD (initE 0 args)) [] { tmps:=vs.toArray ++ Array.replicate (fn.ntmps - vs.toArray.size) undef,defers:=[] } w:=by
   refine { sath:=hs,hlen:=rfl,pre:=List.prefix_refl _,objs:=fun k o v h=>by simp at h,excl:=fun k _ o _ v _ b h=>by simp at h,own:=fun k o v b h=>by simp at h,keep:=Keep.refl _ w,leH:=PH.le.refl H,newH:=fun b o v h=>.inl ⟨v,h⟩,slots:=fun t=>?_,width:=by simp; omega,defers:=rfl }
   rw [initE_spec]
   simp only [Nat.zero_le,if_true,Nat.sub_zero]
   cases ht:args[t]? with
   | none=>trivial
   | some p =>
    obtain ⟨v,hv,rv⟩:=rl.get ht
    have hlt:=(List.getElem?_eq_some_iff.1 hv).1
    have:(vs.toArray ++ Array.replicate (fn.ntmps - vs.toArray.size) undef).getD t undef = v:=by
     rw [Array.getD_eq_getD_getElem?,Array.getElem?_append_left (by simpa using hlt)]
     simp [hv]
    rw [this]
    exact toF_rep rv
  refine wp_mono (vc_sound hm c _ _ _ hd h _ [] H _ w rfl sat) fun e a w' p=>?_
  obtain ⟨x,ρ',H',E',lo',hx,s',k⟩:=p
  obtain ⟨p,hp,hxx,hres⟩:=retN_spec k
  obtain ⟨v,H2,lo2,hv,rv,hle,s2⟩:=hres _ _ ρ' H' a w' ⟨fun _ h=>h,hs.low⟩ s'
  have fin:∃ v,(results fn a.tmps).run P w' = .ok v w' ∧ (fun e w''=>∃ v H',e = Ending.returned v ∧ Calm H w H' w'' ∧ RepP H' r v) (.returned v) w' :=
   ⟨v,hv,v,H2,rfl,⟨s2.leH,s2.sath,s2.keep,fun b o v hv=>by
    rcases s2.newH b o v hv with h | h | h
    ·exact .inl h
    ·exact h.elim
    ·exact .inr h⟩,hR p v H2 hp rv⟩
  rcases hxx with rfl | rfl <;> cases e <;> simp only [AXis] at hx
  ·exact ⟨s'.defers,fin⟩
  ·exact ⟨s'.defers,fin⟩
theorem CallsF.of_vcNew {P:Program} {f:FuncId} {fn:Func} {args:List PV} {r:PV} {inl:List Nat} (hm:P.follows .mixedOrders = true) (he:Enters P f) (hf:P.funcs[f]? = some fn) (hok:fnOk inl fn args.length = true)
  (h:vcFnN P inl fn args (fun v=>nle v r)):CallsF P f args r :=
 CallsF.of_vcNewR hm he hf hok (fun _ _ _ _=>nle_rep) h
end Ax
end
section
namespace Ax
open Go
variable {Lw:Nat}
mutual
def wkP:PV → PV
 | .nsl rows=>.sl (wkR rows)
 | .sl rows=>.sl (wkR rows)
 | .agg cs=>.agg (wkL cs)
 | .tup cs=>.tup (wkL cs)
 | .ifc t p=>.ifc t (wkP p)
 | .hp r=>.hp (wkL r)
 | .clo f cs=>.clo f (wkL cs)
 | .bfn f cs=>.bfn f (wkL cs)
 | .ifo n t p=>.ifo n t (wkP p)
 | .bool b=>.bool b
 | .int k n=>.int k n
 | .str l=>.str l
 | .nilsl=>.nilsl
 | .nilp=>.nilp
 | .fn f=>.fn f
 | .nilfn=>.nilfn
 | .nili=>.nili
 | .nilmap=>.nilmap
def wkL:List PV → List PV
 | []=>[]
 | c :: cs=>wkP c :: wkL cs
def wkR:List (List PV) → List (List PV)
 | []=>[]
 | r :: rs=>wkL r :: wkR rs
end
mutual
def nwP:PV → Prop
 | .bool _=>True
 | .int _ _=>True
 | .str _=>True
 | .nilsl=>True
 | .agg cs=>nwL cs
 | .nsl rows=>nwR rows
 | _=>False
def nwL:List PV → Prop
 | []=>True
 | c :: cs=>nwP c ∧ nwL cs
def nwR:List (List PV) → Prop
 | []=>True
 | r :: rs=>nwL r ∧ nwR rs
end
theorem wkL_length:∀ l:List PV,(wkL l).length = l.length
 | []=>rfl
 | c :: cs=>by simp only [wkL,List.length_cons,wkL_length cs]
theorem wkR_length:∀ l:List (List PV),(wkR l).length = l.length
 | []=>rfl
 | c :: cs=>by simp only [wkR,List.length_cons,wkR_length cs]
def part (lo hi:Nat) (H:(PH Lw)):PH 0:=fun b o=>if lo ≤ b ∧ b < hi then H b o else none
section
variable {H:(PH Lw)} {hi:Nat} (hh:∀ b o v,H b o = some v → b < hi)
include hh
theorem part_some {b o:Nat} {v:Value} (h:H b o = some v) (hb:Lw ≤ b):part Lw hi H b o = some v:=by
 unfold part
 rw [if_pos ⟨hb,hh _ _ _ h⟩]
 exact h
mutual
theorem new_part:∀ {p:PV} {v:Value},nwP p → RepP H p v → RepP (part Lw hi H) (wkP p) v
 | .bool _,_,_,r=>by simp only [RepP,wkP] at *; exact r
 | .int _ _,_,_,r=>by simp only [RepP,wkP] at *; exact r
 | .str _,_,_,r=>by simp only [RepP,wkP] at *; exact r
 | .nilsl,_,_,r=>by simp only [RepP,wkP] at *; exact r
 | .agg cs,_,h,r=>by
  simp only [nwP] at h
  simp only [RepP,wkP] at *
  obtain ⟨vs,e,rr⟩:=r
  exact ⟨vs,e,new_partL h rr⟩
 | .nsl rows,_,h,r=>by
  simp only [nwP] at h
  simp only [RepP,wkP] at *
  rcases r with ⟨rfl,r⟩ | ⟨b,o,z,cap,e,l,hb,rr⟩
  ·exact .inl ⟨rfl,r⟩
  ·exact .inr ⟨b,o,z,cap,by rw [wkR_length]; exact e,by rw [wkR_length]; exact l,new_partR hb.1 h rr⟩
 | .tup _,_,h,_=>by simp [nwP] at h
 | .sl _,_,h,_=>by simp [nwP] at h
 | .nilp,_,h,_=>by simp [nwP] at h
 | .fn _,_,h,_=>by simp [nwP] at h
 | .nilfn,_,h,_=>by simp [nwP] at h
 | .nili,_,h,_=>by simp [nwP] at h
 | .ifc _ _,_,h,_=>by simp [nwP] at h
 | .nilmap,_,h,_=>by simp [nwP] at h
 | .hp _,_,h,_=>by simp [nwP] at h
 | .clo _ _,_,h,_=>by simp [nwP] at h
 | .bfn _ _,_,h,_=>by simp [nwP] at h
 | .ifo _ _ _,_,h,_=>by simp [nwP] at h
theorem new_partL:∀ {cs:List PV} {vs:List Value},nwL cs → RepL H cs vs → RepL (part Lw hi H) (wkL cs) vs
 | [],_,_,r=>by simp only [RepL,wkL] at *; exact r
 | c :: cs,_,h,r=>by
  simp only [nwL] at h
  simp only [RepL,wkL] at *
  obtain ⟨v,vs,e,r1,r2⟩:=r
  exact ⟨v,vs,e,new_part h.1 r1,new_partL h.2 r2⟩
theorem new_partR {b z:Nat} (hb:Lw ≤ b):∀ {o:Nat} {rows:List (List PV)},nwR rows → RepR H b z o rows → RepR (part Lw hi H) b z o (wkR rows)
 | _,[],_,_=>by simp only [RepR,wkR]
 | o,r :: rs,h,x=>by
  simp only [nwR] at h
  simp only [RepR,wkR] at *
  obtain ⟨hz,⟨vs,q,c⟩,x⟩:=x
  exact ⟨by rw [wkL_length]; exact hz,⟨vs,new_partL h.1 q,fun j v hv=>part_some hh (c j v hv) hb⟩,new_partR hb h.2 x⟩
end
end
mutual
theorem RepP.base {L':Nat} {H:(PH Lw)} {H':PH L'} (h:∀ b o v,H b o = some v → H' b o = some v):∀ {p:PV} {v:Value},RepP H p v → RepP H' (wkP p) v
 | .bool _,_,x | .int ..,_,x | .str _,_,x | .nilsl,_,x | .nilp,_,x | .fn _,_,x | .nilfn,_,x | .nili,_,x | .nilmap,_,x=>by
  simp only [RepP,wkP] at *; exact x
 | .agg cs,v,x=>by
  simp only [RepP,wkP] at *
  obtain ⟨vs,e,r⟩:=x
  exact ⟨vs,e,RepL.base h r⟩
 | .tup cs,v,x=>by
  simp only [RepP,wkP] at *
  obtain ⟨vs,e,r⟩:=x
  exact ⟨vs,e,RepL.base h r⟩
 | .nsl rows,v,x=>by
  simp only [RepP,wkP] at *
  rcases x with ⟨rfl,x⟩ | ⟨b,o,z,cap,e,l,_,r⟩
  ·exact .inl ⟨rfl,x⟩
  ·exact .inr ⟨b,o,z,cap,by rw [wkR_length]; exact e,by rw [wkR_length]; exact l,RepR.base h r⟩
 | .sl rows,v,x=>by
  simp only [RepP,wkP] at *
  rcases x with ⟨rfl,x⟩ | ⟨b,o,z,cap,e,l,r⟩
  ·exact .inl ⟨rfl,x⟩
  ·exact .inr ⟨b,o,z,cap,by rw [wkR_length]; exact e,by rw [wkR_length]; exact l,RepR.base h r⟩
 | .ifc t p,v,x=>by
  simp only [RepP,wkP] at *
  obtain ⟨u,e,r⟩:=x
  exact ⟨u,e,RepP.base h r⟩
 | .hp row,v,x=>by
  simp only [RepP,wkP] at *
  obtain ⟨b,o,vs,e,r,c⟩:=x
  exact ⟨b,o,vs,e,RepL.base h r,fun j u hu=>h _ _ _ (c j u hu)⟩
 | .clo f cs,v,x=>by
  simp only [RepP,wkP] at *
  obtain ⟨vs,e,r⟩:=x
  exact ⟨vs,e,RepL.base h r⟩
 | .bfn f cs,v,x=>by
  simp only [RepP,wkP] at *
  obtain ⟨vs,e,r⟩:=x
  exact ⟨vs,e,RepL.base h r⟩
 | .ifo n t p,v,x=>by
  simp only [RepP,wkP] at *
  rcases x with x | ⟨e,u,e',r⟩
  ·exact .inl x
  ·exact .inr ⟨e,u,e',RepP.base h r⟩
theorem RepL.base {L':Nat} {H:(PH Lw)} {H':PH L'} (h:∀ b o v,H b o = some v → H' b o = some v):∀ {cs:List PV} {vs:List Value},RepL H cs vs → RepL H' (wkL cs) vs
 | [],_,x=>by simp only [RepL,wkL] at *; exact x
 | c :: cs,vs,x=>by
  simp only [RepL,wkL] at *
  obtain ⟨v,vs',e,r,rs⟩:=x
  exact ⟨v,vs',e,RepP.base h r,RepL.base h rs⟩
theorem RepR.base {L':Nat} {H:(PH Lw)} {H':PH L'} (h:∀ b o v,H b o = some v → H' b o = some v) {b z:Nat}:∀ {o:Nat} {rows:List (List PV)},RepR H b z o rows → RepR H' b z o (wkR rows)
 | _,[],_=>by simp only [RepR,wkR]
 | o,r :: rs,x=>by
  simp only [RepR,wkR] at *
  obtain ⟨e,⟨vs,q,c⟩,x'⟩:=x
  exact ⟨by rw [wkL_length]; exact e,⟨vs,RepL.base h q,fun j v hv=>h _ _ _ (c j v hv)⟩,RepR.base h x'⟩
end
end Ax
end
section
namespace Ax
open Go
mutual
def Val.cellsN:Val → List PV
 | .mk k b i s l ks=>[.int .i64 k,.bool b,.int .i64 i,.str s,.nsl (Val.rowsN l),.nsl (strs ks)]
def Val.rowsN:List Val → List (List PV)
 | []=>[]
 | v :: l=>v.cellsN :: Val.rowsN l
end
theorem rowsN_eq:∀ l:List Val,Val.rowsN l = l.map Val.cellsN
 | []=>rfl
 | v :: l=>by simp only [Val.rowsN,List.map_cons]; rw [rowsN_eq l]
theorem cellsN_length (v:Val):v.cellsN.length = 6:=by cases v; rfl
def valNC:Codec Val:={ cells:=Val.cellsN,rows:=Val.rowsN,z:=6,hrows:=fun l=>rowsN_eq l,hz:=cellsN_length,hone:=fun v=>by cases v; rfl }
theorem wk_strs:∀ l:List (List UInt8),wkR (strs l) = strs l
 | []=>rfl
 | s :: l=>by
  show wkR ([.str s] :: strs l) = [.str s] :: strs l
  simp only [wkR,wkL,wkP,wk_strs l]
theorem nw_strs:∀ l:List (List UInt8),nwR (strs l)
 | []=>trivial
 | s :: l=>by
  show nwR ([.str s] :: strs l)
  simp only [nwR,nwL,nwP,nw_strs l,and_self]
mutual
theorem wk_cells:∀ v:Val,wkL v.cellsN = v.cells
 | .mk k b i s l ks=>by simp only [Val.cellsN,Val.cells,wkL,wkP,wk_rows l,wk_strs]
theorem wk_rows:∀ l:List Val,wkR (Val.rowsN l) = Val.rows l
 | []=>rfl
 | v :: l=>by simp only [Val.rowsN,Val.rows,wkR,wk_cells v,wk_rows l]
end
mutual
theorem wk_same:∀ v:Val,wkL v.cells = v.cells
 | .mk k b i s l ks=>by simp only [Val.cells,wkL,wkP,wk_sameR l,wk_strs]
theorem wk_sameR:∀ l:List Val,wkR (Val.rows l) = Val.rows l
 | []=>rfl
 | v :: l=>by simp only [Val.rows,wkR,wk_same v,wk_sameR l]
end
mutual
theorem nw_cells:∀ v:Val,nwL v.cellsN
 | .mk k b i s l ks=>by simp only [Val.cellsN,nwL,nwP,nw_rows l,nw_strs,and_self]
theorem nw_rows:∀ l:List Val,nwR (Val.rowsN l)
 | []=>trivial
 | v :: l=>by simp only [Val.rowsN,nwR,nw_cells v,nw_rows l,and_self]
end
def Kin:Value → Value → Prop
 | .int k _,u=>∃ n,u = .int k n
 | .bool _,u=>∃ b,u = .bool b
 | .string _,u=>∃ s,u = .string s
 | .slice p n c,u=>u = .slice p n c ∨ u = .slice none 0 0
 | v,u=>u = v
theorem Kin.refl (v:Value):Kin v v:=by
 cases v <;> first | exact ⟨_,rfl⟩ | exact .inl rfl | rfl
theorem Kin.trans {a b c:Value} (h:Kin a b) (k:Kin b c):Kin a c:=by
 cases a <;> simp only [Kin] at h
 case int=>obtain ⟨n,rfl⟩:=h; exact k
 case bool=>obtain ⟨n,rfl⟩:=h; exact k
 case string=>obtain ⟨n,rfl⟩:=h; exact k
 case slice =>
  rcases h with rfl | rfl
  ·exact k
  ·simp only [Kin,or_self] at k
   exact .inr k
 all_goals subst h; exact k
def Rel (H:PH 0) (w:World):Prop:=∀ b o u,H b o = some u → ∃ u',w.cell? ⟨b,o,none⟩ = some u' ∧ Kin u u'
theorem Rel.of {H:PH 0} {w:World} (h:∀ b o u,H b o = some u → w.cell? ⟨b,o,none⟩ = some u):Rel H w:=fun b o u hu=>⟨u,h b o u hu,Kin.refl u⟩
def KinL (vs us:List Value):Prop:=vs.length = us.length ∧ ∀ (j:Nat) (v u:Value),vs[j]? = some v → us[j]? = some u → Kin v u
end Ax
end
section
namespace Ax
open Go
def mixR (i:Nat) (l:List Val):List (List PV):=Val.rowsN (l.take i) ++ Val.rows (l.drop i)
theorem rowsN_length (l:List Val):(Val.rowsN l).length = l.length:=by rw [rowsN_eq]; simp
theorem rows_length (l:List Val):(Val.rows l).length = l.length:=by rw [rows_eq]; simp [vals]
theorem mix_zero (l:List Val):mixR 0 l = Val.rows l:=by simp [mixR,Val.rowsN]
theorem mix_get {i:Nat} {l:List Val} {v:Val} (h:l[i]? = some v):(mixR i l)[i]? = some v.cells:=by
 have hi:=(List.getElem?_eq_some_iff.1 h).1
 unfold mixR
 rw [List.getElem?_append_right (by rw [rowsN_length,List.length_take]; omega),rowsN_length,List.length_take,rows_eq]
 have e:i - min i l.length = 0:=by omega
 rw [e]
 simp [vals,List.getElem?_drop,h]
theorem mix_set {i:Nat} {l:List Val} (hi:i < l.length) (v:Val):(mixR i l).set i v.cellsN = mixR (i + 1) (l.set i v):=by
 unfold mixR
 have e1:(l.set i v).take (i + 1) = l.take i ++ [v]:=by
  rw [List.take_set]
  refine List.ext_getElem? fun k=>?_
  rw [List.getElem?_set,List.getElem?_append]
  by_cases h:i = k
  ·subst h
   rw [if_pos rfl,if_pos (by rw [List.length_take]; omega),if_neg (by rw [List.length_take]; omega),List.length_take]
   have:i - min i l.length = 0:=by omega
   rw [this]
   rfl
  ·rw [if_neg h]
   by_cases hk:k < i
   ·rw [if_pos (by rw [List.length_take]; omega),List.getElem?_take_of_lt (by omega),List.getElem?_take_of_lt hk]
   ·rw [if_neg (by rw [List.length_take]; omega),List.getElem?_eq_none (by rw [List.length_take]; omega),List.getElem?_eq_none (by rw [List.length_take,List.length_singleton]; omega)]
 have e2:(l.set i v).drop (i + 1) = l.drop (i + 1):=by rw [List.drop_set_of_lt (by omega)]
 rw [e1,e2,List.set_append_right _ _ (by rw [rowsN_length,List.length_take]; omega),rowsN_length,List.length_take]
 have e3:i - min i l.length = 0:=by omega
 rw [e3,List.drop_eq_getElem_cons hi]
 simp only [Val.rows,List.set_cons_zero,rowsN_eq,List.map_append,List.map_cons,List.map_nil,List.append_assoc,List.singleton_append]
theorem mix_end {i:Nat} {l:List Val} (h:l.length ≤ i):mixR i l = Val.rowsN l:=by
 unfold mixR
 rw [List.take_of_length_le h,List.drop_eq_nil_of_le h]
 simp [Val.rows]
end Ax
end
section
open Go Go.Proofs
namespace Ax
variable {P:Program}
structure ZeroIs (P:Program) (a:TypeId) (z:PV):Prop where
 plain:∃ u,P.underlying a = some u ∧ ∀ m,u ≠ .interface m
 zero:∃ v i,P.info? a = some i ∧ i.zero = some v ∧ ∀ ⦃Lw:Nat⦄ (H:PH Lw),RepP H z v
theorem ZeroIs.of {a:TypeId} (d:TypeDesc) (v:Value) {z:PV} (h1:P.underlying a = some d) (h2:∀ m,d ≠ .interface m) (h3:(P.info? a).bind (·.zero) = some v) (h4:∀ ⦃Lw:Nat⦄ (H:PH Lw),RepP H z v):ZeroIs P a z:=by
 refine ⟨⟨d,h1,h2⟩,v,?_⟩
 cases e:P.info? a with
 | none=>rw [e] at h3; cases h3
 | some i=>rw [e] at h3; exact ⟨i,rfl,h3,h4⟩
end Ax
end
section
open Go Go.Proofs Ax Go.RowKit
namespace W
structure Grp where
  key : List UInt8
  first : List Val
  cols : List (List Val)
inductive Tag where
  | own
  | ord
  | map
  | grp (i : Nat)
  | arr (i : Nat)
  | col (i c : Nat)
  deriving DecidableEq
structure Tys where
  s : TypeId
  p : TypeId
  k : TypeId
  i : TypeId
  g : TypeId
  r : TypeId
  v : TypeId
abbrev DM := DataW Unit
def dat (l : List (List UInt8)) : DM := (l.zipIdx).foldl (fun D x => D.put (.string x.1) (.lit (.int .i64 (x.2 : Int)))) (.map [])
structure GSt {L : Nat} (P : Program) (T : Tys) (H : PH L) (w : World) (na : Nat) (G : List Grp) (sb mb : Nat) (vo : Value) (gb cb : Nat → Nat) (vf : Nat → Value) (vv : Nat → Nat → Value) (lab : Nat → Option Tag) : Prop where
  sat : SatH H w
  sbox : w.heap[sb]? = some (.cells #[.map (some mb), vo] T.s)
  sl : lab sb = some .own
  ord : w.ownsRow L T.p 1 vo G.length ((List.range G.length).map fun i => .pointer (some ⟨gb i, 0, none⟩))
  ol : ∀ b, vo.ownBlock = some b → lab b = some .ord
  mp : w.ownsMap P T.k (plainElem P T.i) mb G.length (dat (G.map (·.key)))
  ml : lab mb = some .map
  grp : ∀ (i : Nat), i < G.length → w.heap[gb i]? = some (.cells #[vf i, .slice (some ⟨cb i, 0, none⟩) na na] T.g) ∧ lab (gb i) = some (.grp i)
  fst : ∀ (i : Nat) (g : Grp), G[i]? = some g → RepP H (.sl (Val.rows g.first)) (vf i)
  arr : ∀ (i : Nat), i < G.length → w.heap[cb i]? = some (.cells ((List.range na).map (vv i)).toArray T.r) ∧ lab (cb i) = some (.arr i)
  wid : ∀ (i : Nat) (g : Grp), G[i]? = some g → g.cols.length = na
  col : ∀ (i : Nat) (g : Grp) (c : Nat) (col : List Val), G[i]? = some g → g.cols[c]? = some col → ∃ xs, w.ownsRow L T.v 6 (vv i c) col.length xs ∧ RepV H 6 (Val.rows col) xs
  coll : ∀ (i c b : Nat), i < G.length → c < na → (vv i c).ownBlock = some b → lab b = some (.col i c)
  fresh : ∀ b t, lab b = some t → L ≤ b ∧ b < w.heap.size ∧ ∀ o u, H b o ≠ some u
theorem own_move {w w' : World} {base e z n : Nat} {v : Value} {xs : List Value} (h : w.ownsRow base e z v n xs) (k : ∀ b, v.ownBlock = some b → w'.heap[b]? = w.heap[b]?) : w'.ownsRow base e z v n xs := by
  refine ⟨h.1, h.2.imp id fun ⟨g, cap, cur, e1, e2, e3, r⟩ => ⟨g, cap, cur, e1, e2, ?_, r⟩⟩
  rw [k g (by rw [e1]; rfl)]
  exact e3
theorem map_move {w w' : World} {P : Program} {k : TypeId} {R : Value → Option (DM × List MemPlace)} {b n : Nat} {D : DM} (h : w.ownsMap P k R b n D) (e : w'.heap[b]? = w.heap[b]?) : w'.ownsMap P k R b n D := by
  obtain ⟨es, clock, h1, r⟩ := h
  exact ⟨es, clock, by rw [e]; exact h1, r⟩
section
variable {L : Nat} {P : Program} {T : Tys} {H H' : PH L} {w w' : World} {na : Nat} {G : List Grp} {sb mb : Nat} {vo : Value} {gb cb : Nat → Nat} {vf : Nat → Value} {vv : Nat → Nat → Value} {lab : Nat → Option Tag}
theorem GSt.move (h : GSt P T H w na G sb mb vo gb cb vf vv lab) (s : SatH H' w') (le : PH.le H H') (hk : ∀ b t, lab b = some t → w'.heap[b]? = w.heap[b]?) (hz : w.heap.size ≤ w'.heap.size) (hn : ∀ b t, lab b = some t → ∀ o u, H' b o ≠ some u) :
    GSt P T H' w' na G sb mb vo gb cb vf vv lab where
  sat := s
  sbox := by rw [hk _ _ h.sl]; exact h.sbox
  sl := h.sl
  ord := own_move h.ord fun b hb => hk b _ (h.ol b hb)
  ol := h.ol
  mp := map_move h.mp (hk _ _ h.ml)
  ml := h.ml
  grp := fun i hi => ⟨by rw [hk _ _ (h.grp i hi).2]; exact (h.grp i hi).1, (h.grp i hi).2⟩
  fst := fun i g hg => RepP.mono le (h.fst i g hg)
  arr := fun i hi => ⟨by rw [hk _ _ (h.arr i hi).2]; exact (h.arr i hi).1, (h.arr i hi).2⟩
  wid := h.wid
  col := fun i g c cl hg hc => by
    obtain ⟨xs, h1, h2⟩ := h.col i g c cl hg hc
    have hi : i < G.length := (List.getElem?_eq_some_iff.1 hg).1
    have hcn : c < na := by rw [← h.wid i g hg]; exact (List.getElem?_eq_some_iff.1 hc).1
    exact ⟨xs, own_move h1 fun b hb => hk b _ (h.coll i c b hi hcn hb), h2.mono le⟩
  coll := h.coll
  fresh := fun b t hb => by
    obtain ⟨h1, h2, _⟩ := h.fresh b t hb
    exact ⟨h1, Nat.lt_of_lt_of_le h2 hz, hn b t hb⟩
theorem GSt.calm (h : GSt P T H w na G sb mb vo gb cb vf vv lab) (c : Calm H w H' w') : GSt P T H' w' na G sb mb vo gb cb vf vv lab :=
  h.move c.sat c.le (fun b t hb => c.keep.block b (h.fresh b t hb).2.1 id) c.keep.size fun b t hb o u hu => by
    obtain ⟨_, h2, h3⟩ := h.fresh b t hb
    rcases c.new b o u hu with ⟨v, hv⟩ | h4
    · exact h3 o v hv
    · omega
theorem GSt.below (h : GSt P T H w na G sb mb vo gb cb vf vv lab) (k : Below w.heap.size w w') : GSt P T H w' na G sb mb vo gb cb vf vv lab :=
  h.move (h.sat.block k.size fun b _ _ hv => k.block b (h.sat.lt hv)) (PH.le.refl H) (fun b t hb => k.block b (h.fresh b t hb).2.1) k.size fun b t hb => (h.fresh b t hb).2.2
theorem GSt.grow (h : GSt P T H w na G sb mb vo gb cb vf vv lab) {i c : Nat} {g : Grp} {cl : List Val} (hg : G[i]? = some g) (hc : g.cols[c]? = some cl) {w1 : World} {v' : Value} {xs us : List Value} {x : Val} (hr : RepL H (valC.cells x) us)
    (hx : w.ownsRow L T.v 6 (vv i c) cl.length xs ∧ RepV H 6 (Val.rows cl) xs) (hown : w1.ownsRow L T.v 6 v' (cl.length + 1) (xs ++ us)) (hgr : w.grownBy w1 (vv i c).ownBlock) (hat : v'.ownBlock = (vv i c).ownBlock ∨ v'.ownBlock = some w.heap.size) :
    ∃ vv' lab', GSt P T H (w1.setCell ⟨cb i, c, none⟩ v') na (G.set i { g with cols := g.cols.set c (cl ++ [x]) }) sb mb vo gb cb vf vv' lab' := by
  have hi : i < G.length := (List.getElem?_eq_some_iff.1 hg).1
  have hcn : c < na := by rw [← h.wid i g hg]; exact (List.getElem?_eq_some_iff.1 hc).1
  have harr := h.arr i hi
  have hcb : cb i < w.heap.size := (h.fresh _ _ harr.2).2.1
  have hst : ∀ b t, lab b = some t → t ≠ .col i c → w1.heap[b]? = w.heap[b]? := fun b t hb ht => hgr.block b (h.fresh b t hb).2.1 fun e => by
    have := h.coll i c b hi hcn e.symm
    rw [hb] at this
    exact ht (Option.some.inj this)
  have hse : ∀ b, b ≠ cb i → (w1.setCell ⟨cb i, c, none⟩ v').heap[b]? = w1.heap[b]? := fun b hb => Below.heap_setCell _ _ _ _ hb
  have hss : ∀ b t, lab b = some t → t ≠ .col i c → t ≠ .arr i → (w1.setCell ⟨cb i, c, none⟩ v').heap[b]? = w.heap[b]? := fun b t hb h1 h2 => (hse b fun e => by
    rw [e, harr.2] at hb; exact h2 (Option.some.inj hb).symm).trans (hst b t hb h1)
  have hvb : ∀ b, v'.ownBlock = some b → (lab b = some (.col i c) ∨ b = w.heap.size) ∧ b ≠ cb i := fun b hb => by
    rcases hat with e | e
    · have := h.coll i c b hi hcn (e.symm.trans hb)
      exact ⟨.inl this, fun e => by rw [e, harr.2] at this; cases this⟩
    · rw [hb] at e
      cases e
      exact ⟨.inr rfl, by omega⟩
  have hsz : w.heap.size ≤ (w1.setCell ⟨cb i, c, none⟩ v').heap.size := by simp; exact hgr.size
  have hH : ∀ b o u, H b o = some u → (w1.setCell ⟨cb i, c, none⟩ v').heap[b]? = w.heap[b]? := fun b o u hu => by
    rw [hse b fun e => (h.fresh _ _ harr.2).2.2 o u (by rw [← e]; exact hu)]
    exact hgr.block b (h.sat.lt hu) fun e => (h.fresh _ _ (h.coll i c b hi hcn e.symm)).2.2 o u hu
  have hv2 : (w1.setCell ⟨cb i, c, none⟩ v').ownsRow L T.v 6 v' (cl.length + 1) (xs ++ us) := own_move hown fun b hb => hse b (hvb b hb).2
  have hvlt : ∀ b, v'.ownBlock = some b → L ≤ b ∧ b < (w1.setCell ⟨cb i, c, none⟩ v').heap.size := fun b hb => hv2.lt b hb
  have hc1 : w1.heap[cb i]? = some (.cells ((List.range na).map (vv i)).toArray T.r) := (hst _ _ harr.2 (by simp)).trans harr.1
  refine ⟨fun i' c' => if i' = i ∧ c' = c then v' else vv i' c', fun b => if v'.ownBlock = some b then some (.col i c) else lab b, ?_⟩
  have hlab : ∀ b t, lab b = some t → t ≠ .col i c → (if v'.ownBlock = some b then some (Tag.col i c) else lab b) = some t := fun b t hb ht => by
    rw [if_neg fun e => ?_]
    · exact hb
    · rcases (hvb b e).1 with h1 | h1
      · rw [hb] at h1; exact ht (Option.some.inj h1)
      · have := (h.fresh b t hb).2.1; omega
  have hlen : (G.set i { g with cols := g.cols.set c (cl ++ [x]) }).length = G.length := List.length_set
  have hkeys : (G.set i { g with cols := g.cols.set c (cl ++ [x]) }).map (·.key) = G.map (·.key) := by
    rw [List.map_set]
    refine List.ext_getElem? fun j => ?_
    rw [List.getElem?_set]
    split
    · rename_i e; subst e
      rw [List.getElem?_map, hg]
      split
      · rfl
      · rename_i h2; exact absurd (by simpa using hi) h2
    · rfl
  refine ⟨h.sat.block hsz hH, ?_, hlab _ _ h.sl (by simp), ?_, fun b hb => hlab _ _ (h.ol b hb) (by simp), ?_, hlab _ _ h.ml (by simp), ?_, ?_, ?_, ?_, ?_, ?_, ?_⟩
  · rw [hss _ _ h.sl (by simp) (by simp)]; exact h.sbox
  · rw [hlen]; exact own_move h.ord fun b hb => hss b _ (h.ol b hb) (by simp) (by simp)
  · rw [hlen, hkeys]; exact map_move h.mp (hss _ _ h.ml (by simp) (by simp))
  · intro j hj
    rw [hlen] at hj
    exact ⟨by rw [hss _ _ (h.grp j hj).2 (by simp) (by simp)]; exact (h.grp j hj).1, hlab _ _ (h.grp j hj).2 (by simp)⟩
  · intro j g' hg'
    by_cases e : i = j
    · subst e
      rw [List.getElem?_set_self hi] at hg'
      cases hg'; exact h.fst i g hg
    · rw [List.getElem?_set_ne e] at hg'
      exact h.fst j g' hg'
  · intro j hj
    rw [hlen] at hj
    refine ⟨?_, hlab _ _ (h.arr j hj).2 (by simp)⟩
    by_cases e : j = i
    · subst e
      have := heap_setCell_same w1 (cb j) c _ _ v' hc1
      rw [this]
      congr 2
      refine Array.ext_getElem? fun q => ?_
      rw [Array.getElem?_setIfInBounds]
      simp only [List.getElem?_toArray, List.getElem?_map, List.size_toArray, List.length_map, List.length_range, true_and]
      by_cases e2 : c = q
      · subst e2
        rw [if_pos rfl, if_pos hcn, List.getElem?_range hcn]
        simp
      · rw [if_neg e2]
        cases hq : (List.range na)[q]? with
        | none => rfl
        | some q' =>
          have : q' = q := by
            have h1 := (List.getElem?_eq_some_iff.1 hq).1
            rw [List.getElem?_range (by simpa using h1)] at hq
            exact (Option.some.inj hq).symm
          subst this
          simp only [Option.map_some]
          rw [if_neg fun h => e2 h.symm]
    · have hne : (Tag.arr j) ≠ .arr i := fun h => e (by cases h; rfl)
      rw [hss _ _ (h.arr j hj).2 (by simp) hne, (h.arr j hj).1]
      rw [show (fun c' => if j = i ∧ c' = c then v' else vv j c') = vv j from funext fun q => if_neg fun h => e h.1]
  · intro j g' hg'
    by_cases e : i = j
    · subst e
      rw [List.getElem?_set_self hi] at hg'
      cases hg'; simp only [List.length_set]; exact h.wid i g hg
    · rw [List.getElem?_set_ne e] at hg'
      exact h.wid j g' hg'
  · intro j g' q col hg' hq
    have other : ∀ g0 : Grp, G[j]? = some g0 → g0.cols[q]? = some col → ¬ (j = i ∧ q = c) → ∃ xs, (w1.setCell ⟨cb i, c, none⟩ v').ownsRow L T.v 6 (if j = i ∧ q = c then v' else vv j q) col.length xs ∧ RepV H 6 (Val.rows col) xs := fun g0 h1 h2 h3 => by
      obtain ⟨ys, y1, y2⟩ := h.col j g0 q col h1 h2
      have hj := (List.getElem?_eq_some_iff.1 h1).1
      have hqn : q < na := by rw [← h.wid j g0 h1]; exact (List.getElem?_eq_some_iff.1 h2).1
      rw [if_neg h3]
      exact ⟨ys, own_move y1 fun b hb => hss b _ (h.coll j q b hj hqn hb) (fun e => h3 (by cases e; exact ⟨rfl, rfl⟩)) (by simp), y2⟩
    by_cases e : i = j
    · subst e
      rw [List.getElem?_set_self hi] at hg'
      cases hg'
      by_cases e2 : c = q
      · subst e2
        simp only [List.getElem?_set_self (List.getElem?_eq_some_iff.1 hc).1] at hq
        cases hq
        rw [if_pos ⟨rfl, rfl⟩]
        refine ⟨xs ++ us, by simpa using hv2, ?_⟩
        rw [show Val.rows (cl ++ [x]) = Val.rows cl ++ Val.rows [x] from (Codec.append valC cl [x]).symm]
        exact hx.2.append ⟨cells_length x, us, [], by simp, hr, rfl⟩
      · simp only [List.getElem?_set_ne e2] at hq
        exact other g hg hq fun h => e2 h.2.symm
    · rw [List.getElem?_set_ne e] at hg'
      exact other g' hg' hq fun h => e h.1.symm
  · intro j q b hj hq hb
    rw [hlen] at hj
    split at hb
    · rename_i e
      rw [if_pos hb, e.1, e.2]
    · rename_i e
      exact hlab _ _ (h.coll j q b hj hq hb) fun e2 => e (by cases e2; exact ⟨rfl, rfl⟩)
  · intro b t hb
    by_cases e : v'.ownBlock = some b
    · obtain ⟨h1, h2⟩ := hvlt b e
      refine ⟨h1, h2, fun o u hu => ?_⟩
      rcases (hvb b e).1 with h3 | h3
      · exact (h.fresh _ _ h3).2.2 o u hu
      · have := h.sat.lt hu; omega
    · rw [if_neg e] at hb
      obtain ⟨h1, h2, h3⟩ := h.fresh b t hb
      exact ⟨h1, Nat.lt_of_lt_of_le h2 hsz, h3⟩
theorem dat_snoc (l : List (List UInt8)) (k : List UInt8) : dat (l ++ [k]) = (dat l).put (.string k) (.lit (.int .i64 (l.length : Int))) := by
  unfold dat
  rw [List.zipIdx_append, List.foldl_append]
  simp
theorem GSt.add (h : GSt P T H w na G sb mb vo gb cb vf vv lab) {k : List UInt8} {r : List Val} {f vo' : Value} {nb nc : Nat} (hz : w.heap.size ≤ w'.heap.size)
    (hs : w'.heap[sb]? = some (.cells #[.map (some mb), vo'] T.s)) (hm : w'.ownsMap P T.k (plainElem P T.i) mb (G.length + 1) (dat (G.map (·.key) ++ [k])))
    (ho : w'.ownsRow L T.p 1 vo' (G.length + 1) (((List.range G.length).map fun i => Value.pointer (some ⟨gb i, 0, none⟩)) ++ [.pointer (some ⟨nb, 0, none⟩)])) (hob : vo'.ownBlock = vo.ownBlock ∨ ∃ b, vo'.ownBlock = some b ∧ w.heap.size ≤ b ∧ b ≠ nb ∧ b ≠ nc)
    (hg : w'.heap[nb]? = some (.cells #[f, .slice (some ⟨nc, 0, none⟩) na na] T.g)) (hc : w'.heap[nc]? = some (.cells (List.replicate na (Value.slice none 0 0)).toArray T.r)) (hnb : w.heap.size ≤ nb ∧ nb < w'.heap.size) (hnc : w.heap.size ≤ nc ∧ nc < w'.heap.size) (hne : nb ≠ nc)
    (hf : RepP H (.sl (Val.rows r)) f) (hk : ∀ b, b < w.heap.size → lab b ≠ some .own → lab b ≠ some .map → lab b ≠ some .ord → w'.heap[b]? = w.heap[b]?) (hL : L ≤ w.heap.size) :
    ∃ gb' cb' vf' vv' lab', GSt P T H w' na (G ++ [⟨k, r, List.replicate na []⟩]) sb mb vo' gb' cb' vf' vv' lab' := by
  have hlt : ∀ b t, lab b = some t → b < w.heap.size := fun b t hb => (h.fresh b t hb).2.1
  have hkt : ∀ b t, lab b = some t → t ≠ .own → t ≠ .map → t ≠ .ord → w'.heap[b]? = w.heap[b]? := fun b t hb h1 h2 h3 => hk b (hlt b t hb) (by rw [hb]; simpa using h1) (by rw [hb]; simpa using h2) (by rw [hb]; simpa using h3)
  have hvo : ∀ b, vo'.ownBlock = some b → b ≠ nb ∧ b ≠ nc ∧ (lab b = some .ord ∨ w.heap.size ≤ b) := fun b hb => by
    rcases hob with e | ⟨b', e, h1, h2, h3⟩
    · have := h.ol b (e.symm.trans hb)
      have := hlt b _ this
      exact ⟨by omega, by omega, .inl (h.ol b (e.symm.trans hb))⟩
    · rw [hb] at e; cases e; exact ⟨h2, h3, .inr h1⟩
  refine ⟨fun i => if i = G.length then nb else gb i, fun i => if i = G.length then nc else cb i, fun i => if i = G.length then f else vf i, fun i c => if i = G.length then .slice none 0 0 else vv i c,
    fun b => if b = nb then some (.grp G.length) else if b = nc then some (.arr G.length) else if vo'.ownBlock = some b then some .ord else lab b, ?_⟩
  have hlab : ∀ b t, lab b = some t → (if b = nb then some (Tag.grp G.length) else if b = nc then some (.arr G.length) else if vo'.ownBlock = some b then some .ord else lab b) = some t := fun b t hb => by
    have := hlt b t hb
    rw [if_neg (by omega), if_neg (by omega)]
    split
    · rename_i e
      rcases (hvo b e).2.2 with h1 | h1
      · rw [hb] at h1; exact h1.symm
      · omega
    · exact hb
  have hgl : (G ++ [(⟨k, r, List.replicate na []⟩ : Grp)]).length = G.length + 1 := by simp
  refine ⟨h.sat.block hz fun b o u hu => hk b (h.sat.lt hu) ?_ ?_ ?_, hs, hlab _ _ h.sl, ?_, ?_, ?_, hlab _ _ h.ml, ?_, ?_, ?_, ?_, ?_, ?_, ?_⟩
  · exact fun e => (h.fresh b _ e).2.2 o u hu
  · exact fun e => (h.fresh b _ e).2.2 o u hu
  · exact fun e => (h.fresh b _ e).2.2 o u hu
  · rw [hgl]
    have e : ((List.range (G.length + 1)).map fun i => Value.pointer (some ⟨if i = G.length then nb else gb i, 0, none⟩)) = ((List.range G.length).map fun i => Value.pointer (some ⟨gb i, 0, none⟩)) ++ [.pointer (some ⟨nb, 0, none⟩)] := by
      rw [List.range_succ, List.map_append, List.map_singleton, if_pos rfl]
      congr 1
      refine List.map_congr_left fun i hi => ?_
      rw [if_neg (by have := List.mem_range.1 hi; omega)]
    rw [e]; exact ho
  · intro b hb
    obtain ⟨h1, h2, _⟩ := hvo b hb
    rw [if_neg h1, if_neg h2, if_pos hb]
  · rw [hgl, List.map_append]; exact hm
  · intro i hi
    rw [hgl] at hi
    by_cases e : i = G.length
    · simp only [e, if_true]
      exact ⟨hg, trivial⟩
    · simp only [e, if_false]
      have h1 := h.grp i (by omega)
      exact ⟨by rw [hkt _ _ h1.2 (by simp) (by simp) (by simp)]; exact h1.1, hlab _ _ h1.2⟩
  · intro i g hi
    by_cases e : i = G.length
    · subst e
      rw [List.getElem?_append_right (Nat.le_refl _), Nat.sub_self] at hi
      cases hi
      simp only [if_true]; exact hf
    · have hil : i < G.length := by
        have := (List.getElem?_eq_some_iff.1 hi).1
        rw [hgl] at this; omega
      rw [List.getElem?_append_left hil] at hi
      simp only [e, if_false]; exact h.fst i g hi
  · intro i hi
    rw [hgl] at hi
    by_cases e : i = G.length
    · simp only [e, if_true]
      refine ⟨?_, ?_⟩
      · rw [hc]
        congr 3
        exact (List.map_const' ..).symm ▸ by simp
      · rw [if_neg (Ne.symm hne)]
    · simp only [e, if_false]
      have h1 := h.arr i (by omega)
      exact ⟨by rw [hkt _ _ h1.2 (by simp) (by simp) (by simp)]; exact h1.1, hlab _ _ h1.2⟩
  · intro i g hi
    by_cases e : i = G.length
    · subst e
      rw [List.getElem?_append_right (Nat.le_refl _), Nat.sub_self] at hi
      cases hi
      simp
    · have hil : i < G.length := by
        have := (List.getElem?_eq_some_iff.1 hi).1
        rw [hgl] at this; omega
      rw [List.getElem?_append_left hil] at hi
      exact h.wid i g hi
  · intro i g c col hi hcl
    by_cases e : i = G.length
    · subst e
      rw [List.getElem?_append_right (Nat.le_refl _), Nat.sub_self] at hi
      cases hi
      have : col = [] := by
        have := List.mem_of_getElem? hcl
        exact List.eq_of_mem_replicate this
      subst this
      simp only [if_true]
      exact ⟨[], World.ownsRow_nil _ _ _ _, rfl⟩
    · have hil : i < G.length := by
        have := (List.getElem?_eq_some_iff.1 hi).1
        rw [hgl] at this; omega
      rw [List.getElem?_append_left hil] at hi
      simp only [e, if_false]
      obtain ⟨xs, h1, h2⟩ := h.col i g c col hi hcl
      have hcn : c < na := by rw [← h.wid i g hi]; exact (List.getElem?_eq_some_iff.1 hcl).1
      exact ⟨xs, own_move h1 fun b hb => hkt b _ (h.coll i c b hil hcn hb) (by simp) (by simp) (by simp), h2⟩
  · intro i c b hi hcn hb
    rw [hgl] at hi
    by_cases e : i = G.length
    · simp only [e, if_true] at hb
      cases hb
    · simp only [e, if_false] at hb
      exact hlab _ _ (h.coll i c b (by omega) hcn hb)
  · intro b t hb
    have hHn : w.heap.size ≤ b → ∀ o u, H b o ≠ some u := fun h1 o u hu => by have := h.sat.lt hu; omega
    by_cases e1 : b = nb
    · subst e1; exact ⟨by omega, hnb.2, hHn hnb.1⟩
    · rw [if_neg e1] at hb
      by_cases e2 : b = nc
      · subst e2; exact ⟨by omega, hnc.2, hHn hnc.1⟩
      · rw [if_neg e2] at hb
        by_cases e3 : vo'.ownBlock = some b
        · have hbb := ho.lt b e3
          refine ⟨hbb.1, hbb.2, fun o u hu => ?_⟩
          rcases (hvo b e3).2.2 with h1 | h1
          · exact (h.fresh b _ h1).2.2 o u hu
          · exact hHn h1 o u hu
        · rw [if_neg e3] at hb
          obtain ⟨h1, h2, h3⟩ := h.fresh b t hb
          exact ⟨h1, Nat.lt_of_lt_of_le h2 hz, h3⟩
end
end W
end
section
open Go Go.Proofs Ax Go.RowKit
namespace W
theorem cells_new (w : World) (cs : List Value) (t : TypeId) (j : Nat) (v : Value) (h : cs[j]? = some v) : (w.alloc (.cells cs.toArray t)).cell? ((⟨w.heap.size, 0, none⟩ : Addr).add j) = some v := by
  have e : (⟨w.heap.size, 0, none⟩ : Addr).add j = ⟨w.heap.size, j, none⟩ := by
    unfold Addr.add
    split
    · rename_i h0; rw [h0]
    · simp
  rw [e, World.cell?_alloc_new]
  simpa using h
theorem alloc_at (w : World) (o : Obj) (j : Nat) (h : w.heap.size = j) : (w.alloc o).heap[j]? = some o := by
  subst h
  exact Array.getElem?_push_size
theorem sl_form {Lw : Nat} {H : PH Lw} {rows : List (List PV)} {v : Value} (h : RepP H (.sl rows) v) : ∃ p c, v = .slice p rows.length c := by
  simp only [RepP] at h
  rcases h with ⟨rfl, rfl | ⟨a, cap, rfl⟩⟩ | ⟨b, o, z, cap, rfl, _⟩
  · exact ⟨_, _, rfl⟩
  · exact ⟨_, _, rfl⟩
  · exact ⟨_, _, rfl⟩
theorem val_form {Lw : Nat} {H : PH Lw} {v : Val} {us : List Value} (h : RepL H v.cells us) : ∃ (k i : Int) (b : Bool) (s : ByteArray) (p q : Option Addr) (n c m e : Nat), us = [.int .i64 k, .bool b, .int .i64 i, .string s, .slice p n c, .slice q m e] := by
  obtain ⟨k, b, i, s, l, ks⟩ := v
  simp only [Val.cells, RepL] at h
  obtain ⟨i0, _, rfl, h1, i1, _, rfl, h2, i2, _, rfl, h3, i3, _, rfl, h4, y0, _, rfl, h5, z0, _, rfl, h6, rfl⟩ := h
  obtain ⟨p, c, rfl⟩ := sl_form h5
  obtain ⟨q, e, rfl⟩ := sl_form h6
  simp only [RepP] at h1 h2 h3 h4
  subst h1 h2 h3 h4
  exact ⟨_, _, _, _, _, _, _, _, _, _, rfl⟩
theorem grown_trans {a b c : World} {r : Option Nat} (h : a.grownBy b r) (k : b.grownBy c r) : a.grownBy c r :=
  ⟨k.os.trans h.os, k.tape.trans h.tape, k.output.trans h.output, Nat.le_trans h.size k.size, fun i hi hn => (k.block i (Nat.lt_of_lt_of_le hi h.size) hn).trans (h.block i hi hn)⟩
theorem calm_own {Lw : Nat} {H H1 : PH Lw} {w w1 w2 : World} (c : Calm H w H1 w1) {row : Option Nat} (k : w1.grownBy w2 row) (hrow : ∀ b, row = some b → w.heap.size ≤ b ∧ ∀ o u, H1 b o ≠ some u) {e : TypeId} {z n : Nat} {v' : Value} {xs : List Value}
    (hown : w2.ownsRow w.heap.size e z v' n xs) (hv : ∀ b, blkOf v' = some b → ∀ o u, H1 b o ≠ some u) (h1 : ∀ u ∈ xs, u.oneCell' = true) : Calm H w (grownH H1 v' xs) w2 ∧ PH.le H1 (grownH H1 v' xs) := by
  have hle : PH.le H1 (grownH H1 v' xs) := by
    intro b o u hu
    unfold grownH
    rw [if_neg (fun hc => hv b hc.1 o u hu)]
    exact hu
  have hge : ∀ b, blkOf v' = some b → w.heap.size ≤ b := by
    intro b hb
    rcases hown.2 with ⟨rfl, _⟩ | ⟨g, cap, cur, rfl, hg, _⟩
    · simp [blkOf] at hb
    · simp [blkOf] at hb; omega
  have hown0 : w2.ownsRow 0 e z v' n xs := ⟨hown.1, hown.2.imp id fun ⟨g, cap, cur, a, b, c⟩ => ⟨g, cap, cur, a, Nat.zero_le _, c⟩⟩
  have hcell : ∀ g, blkOf v' = some g → ∀ o u, xs[o]? = some u → w2.cell? ⟨g, o, none⟩ = some u := by
    intro g hg o u hu
    have := hown0.cells (g := g) (by
      rcases hown0.2 with ⟨rfl, _⟩ | ⟨g', cap, cur, rfl, _⟩
      · simp [blkOf] at hg
      · simpa [blkOf, Value.ownBlock] using hg) o u hu
    rwa [Addr.add_lit, Nat.zero_add] at this
  have hblk : ∀ b o u, H1 b o = some u → w2.heap[b]? = w1.heap[b]? := fun b o u hu => k.block b (c.sat.lt hu) fun e => (hrow b e.symm).2 o u hu
  refine ⟨⟨fun b o u hu => hle b o u (c.le b o u hu), ⟨?_, c.sat.root.mono hle, Nat.le_trans c.sat.low k.size, ?_⟩, ⟨k.os.trans c.keep.os, k.tape.trans c.keep.tape, k.output.trans c.keep.output, Nat.le_trans c.keep.size k.size, fun i hi hn => ?_⟩, fun b o u hu => ?_⟩, hle⟩
  · intro b o u hu
    unfold grownH at hu
    split at hu
    · rename_i hc
      exact ⟨hcell b hc.1 o u hu, h1 u (List.mem_of_getElem? hu)⟩
    · obtain ⟨hcl, hone⟩ := c.sat.cell b o u hu
      refine ⟨?_, hone⟩
      rw [World.cell?_of_block (w := w1) (a := ⟨b, o, none⟩) (hblk b o u hu)]
      exact hcl
  · intro b o u hu hL
    by_cases hbv : blkOf v' = some b
    · exact .own hown0 hbv
    · unfold grownH at hu
      rw [if_neg (fun hc => hbv hc.1)] at hu
      exact (c.sat.nf b o u hu hL).block (hblk b o u hu)
  · have h2 := c.keep.block i hi hn
    rw [← h2]
    exact k.block i (Nat.lt_of_lt_of_le hi c.keep.size) fun e => by have := (hrow i e.symm).1; omega
  · unfold grownH at hu
    split at hu
    · rename_i hc; exact .inr (hge b hc.1)
    · exact c.new b o u hu
theorem own_blk {w : World} {base e z n : Nat} {v : Value} {xs : List Value} (h : w.ownsRow base e z v n xs) : blkOf v = v.ownBlock := by
  rcases h.2 with ⟨rfl, _⟩ | ⟨g, cap, cur, rfl, _⟩ <;> rfl
end W
end
section
open Go Go.Proofs Ax Go.RowKit
namespace W
theorem valV_one {L : Nat} {H : PH L} : ∀ {l : List Val} {xs : List Value}, RepV H 6 (Val.rows l) xs → ∀ u ∈ xs, u.oneCell' = true
  | [], xs, h => by
    simp only [Val.rows, RepV] at h
    subst h
    intro u hu; cases hu
  | v :: l, xs, h => by
    obtain ⟨_, a, b, rfl, ha, hb⟩ := h
    obtain ⟨k, i, bb, s, p, q, n, c, m, e, rfl⟩ := val_form ha
    intro u hu
    rcases List.mem_append.1 hu with h | h
    · simp only [List.mem_cons, List.not_mem_nil, or_false] at h
      rcases h with rfl | rfl | rfl | rfl | rfl | rfl <;> rfl
    · exact valV_one hb u h
theorem own_low {w : World} {base base' e z n : Nat} {v : Value} {xs : List Value} (h : w.ownsRow base e z v n xs) (hb : base' ≤ base) : w.ownsRow base' e z v n xs :=
  ⟨h.1, h.2.imp id fun ⟨g, cap, cur, e1, e2, r⟩ => ⟨g, cap, cur, e1, Nat.le_trans hb e2, r⟩⟩
theorem nsl_rep {L : Nat} {H : PH L} {v' : Value} {e : TypeId} {z : Nat} {rows : List (List PV)} {ys : List Value} {w' : World} (hv : RepV H z rows ys) (hle : PH.le H (grownH H v' ys))
    (hown : w'.ownsRow L e z v' rows.length ys) : RepP (grownH H v' ys) (.nsl rows) v' := by
  simp only [RepP]
  rcases hown.2 with ⟨rfl, hn⟩ | ⟨g, cap, cur, rfl, hg, _, hnc, _⟩
  · exact .inl ⟨List.eq_nil_of_length_eq_zero hn, .inl rfl⟩
  · refine .inr ⟨g, 0, z, cap, rfl, hnc, ⟨hg, rfl⟩, (hv.mono hle).unflat fun j u hu => ?_⟩
    unfold grownH
    rw [if_pos ⟨by simp [blkOf], by have := (List.getElem?_eq_some_iff.1 hu).1; omega⟩]
    simpa using hu
structure GFix {L : Nat} (T : Tys) (H : PH L) (w : World) (na : Nat) (G : List Grp) (vo : Value) (gb cb : Nat → Nat) (vf : Nat → Value) (vv : Nat → Nat → Value) (N : Nat) : Prop where
  ord : w.ownsRow L T.p 1 vo G.length ((List.range G.length).map fun i => .pointer (some ⟨gb i, 0, none⟩))
  olt : ∀ b, vo.ownBlock = some b → b < N
  grp : ∀ (i : Nat), i < G.length → w.heap[gb i]? = some (.cells #[vf i, .slice (some ⟨cb i, 0, none⟩) na na] T.g) ∧ gb i < N
  fst : ∀ (i : Nat) (g : Grp), G[i]? = some g → RepP H (.sl (Val.rows g.first)) (vf i)
  arr : ∀ (i : Nat), i < G.length → w.heap[cb i]? = some (.cells ((List.range na).map (vv i)).toArray T.r) ∧ cb i < N
  wid : ∀ (i : Nat) (g : Grp), G[i]? = some g → g.cols.length = na
  col : ∀ (i : Nat) (g : Grp) (c : Nat) (col : List Val), G[i]? = some g → g.cols[c]? = some col → RepP H (.sl (Val.rows col)) (vv i c)
section
variable {L : Nat} {P : Program} {T : Tys} {H H' H0 : PH L} {w w' w0 w1 : World} {na N : Nat} {G : List Grp} {sb mb : Nat} {vo : Value} {gb cb : Nat → Nat} {vf : Nat → Value} {vv : Nat → Nat → Value} {lab : Nat → Option Tag}
theorem GFix.move (h : GFix T H w na G vo gb cb vf vv N) (le : PH.le H H') (hk : ∀ b, b < N → w'.heap[b]? = w.heap[b]?) : GFix T H' w' na G vo gb cb vf vv N where
  ord := own_move h.ord fun b hb => hk b (h.olt b hb)
  olt := h.olt
  grp := fun i hi => ⟨by rw [hk _ (h.grp i hi).2]; exact (h.grp i hi).1, (h.grp i hi).2⟩
  fst := fun i g hg => RepP.mono le (h.fst i g hg)
  arr := fun i hi => ⟨by rw [hk _ (h.arr i hi).2]; exact (h.arr i hi).1, (h.arr i hi).2⟩
  wid := h.wid
  col := fun i g c cl hg hc => RepP.mono le (h.col i g c cl hg hc)
theorem GSt.start (s : SatH H w) (hs : w.heap[sb]? = some (.cells #[.map (some mb), .slice none 0 0] T.s)) (hm : w.ownsMap P T.k (plainElem P T.i) mb 0 (dat [])) (h1 : L ≤ sb ∧ ∀ o u, H sb o ≠ some u) (h2 : L ≤ mb ∧ ∀ o u, H mb o ≠ some u) (h3 : sb < w.heap.size) (h4 : mb < w.heap.size) (hne : sb ≠ mb) :
    GSt P T H w na [] sb mb (.slice none 0 0) (fun _ => 0) (fun _ => 0) (fun _ => .slice none 0 0) (fun _ _ => .slice none 0 0) (fun b => if b = sb then some .own else if b = mb then some .map else none) where
  sat := s
  sbox := hs
  sl := by simp
  ord := World.ownsRow_nil _ _ _ _
  ol := fun _ hb => (nomatch hb)
  mp := hm
  ml := by rw [if_neg fun e => hne e.symm, if_pos rfl]
  grp := fun i hi => absurd hi (Nat.not_lt_zero i)
  fst := fun i g hg => by simp at hg
  arr := fun i hi => absurd hi (Nat.not_lt_zero i)
  wid := fun i g hg => by simp at hg
  col := fun i g c col hg => by simp at hg
  coll := fun i c b hi => absurd hi (Nat.not_lt_zero i)
  fresh := fun b t hb => by
    split at hb
    · rename_i e; subst e; exact ⟨h1.1, h3, h1.2⟩
    · split at hb
      · rename_i e; subst e; exact ⟨h2.1, h4, h2.2⟩
      · cases hb
theorem GSt.publish (h : GSt P T H w na G sb mb vo gb cb vf vv lab) (hL : w0.heap.size ≤ L) (c : Calm H0 w0 H w) : ∀ (ps : List (Nat × Nat)), (∀ p ∈ ps, p.1 < G.length ∧ p.2 < na) →
    ∃ H' : PH L, PH.le H H' ∧ Calm H0 w0 H' w ∧ (∀ p ∈ ps, ∀ (g : Grp) (cl : List Val), G[p.1]? = some g → g.cols[p.2]? = some cl → RepP H' (.sl (Val.rows cl)) (vv p.1 p.2)) ∧ (∀ b t, lab b = some t → (∀ p ∈ ps, t ≠ .col p.1 p.2) → ∀ o u, H' b o ≠ some u)
  | [], _ => ⟨H, PH.le.refl H, c, fun p hp => (nomatch hp), fun b t hb _ => (h.fresh b t hb).2.2⟩
  | p :: ps, hps => by
    obtain ⟨H1, le1, c1, r1, f1⟩ := GSt.publish h hL c ps fun q hq => hps q (List.mem_cons_of_mem _ hq)
    by_cases hp : p ∈ ps
    · refine ⟨H1, le1, c1, fun q hq => ?_, fun b t hb ht => f1 b t hb fun q hq => ht q (List.mem_cons_of_mem _ hq)⟩
      rcases List.mem_cons.1 hq with rfl | hq
      · exact r1 _ hp
      · exact r1 _ hq
    · obtain ⟨hi, hc⟩ := hps p List.mem_cons_self
      have hg := List.getElem?_eq_getElem hi
      have hcl := List.getElem?_eq_getElem (show p.2 < (G[p.1]).cols.length by rw [h.wid _ _ hg]; exact hc)
      obtain ⟨xs, x1, x2⟩ := h.col _ _ _ _ hg hcl
      have hv : ∀ b, (vv p.1 p.2).ownBlock = some b → ∀ o u, H1 b o ≠ some u := fun b hb => f1 b _ (h.coll _ _ b hi hc hb) fun q hq e => hp (by
        injection e with e1 e2
        rw [Prod.ext e1 e2]; exact hq)
      obtain ⟨c2, le2⟩ := calm_own c1 (row := none) (w2 := w) ⟨rfl, rfl, rfl, Nat.le_refl _, fun _ _ _ => rfl⟩ (fun b h => by cases h) (own_low x1 hL) (fun b hb => hv b (by rw [← own_blk x1]; exact hb)) (valV_one x2)
      refine ⟨_, fun b o u hu => le2 b o u (le1 b o u hu), c2, fun q hq => ?_, fun b t hb ht o u hu => ?_⟩
      · rcases List.mem_cons.1 hq with rfl | hq
        · intro g cl h1 h2
          rw [hg] at h1; cases h1
          rw [hcl] at h2; cases h2
          exact append_rep (x2.mono le1) le2 (by rw [show (Val.rows _).length = _ from rows_length _]; exact own_low x1 (Nat.zero_le _))
        · exact fun g cl h1 h2 => RepP.mono le2 (r1 q hq g cl h1 h2)
      · unfold grownH at hu
        split at hu
        · rename_i hx
          rw [own_blk x1] at hx
          have := h.coll _ _ b hi hc hx.1
          rw [hb] at this
          exact ht p List.mem_cons_self (Option.some.inj this)
        · exact f1 b t hb (fun q hq => ht q (List.mem_cons_of_mem _ hq)) o u hu
theorem GSt.fix (h : GSt P T H w na G sb mb vo gb cb vf vv lab) (hL : w0.heap.size ≤ L) (c : Calm H0 w0 H w) (k : w.grownBy w' (some mb)) :
    ∃ H' : PH L, PH.le H H' ∧ Calm H0 w0 H' w' ∧ GFix T H' w' na G vo gb cb vf vv w'.heap.size := by
  obtain ⟨H1, le1, c1, r1, f1⟩ := h.publish hL c ((List.range G.length).flatMap fun i => (List.range na).map fun c => (i, c)) fun p hp => by
    obtain ⟨i, hi, hp⟩ := List.mem_flatMap.1 hp
    obtain ⟨j, hj, rfl⟩ := List.mem_map.1 hp
    exact ⟨List.mem_range.1 hi, List.mem_range.1 hj⟩
  have hm : ∀ o u, H1 mb o ≠ some u := f1 mb _ h.ml fun p hp e => by cases e
  have hmf := h.fresh _ _ h.ml
  have hk : ∀ b t, lab b = some t → t ≠ .map → w'.heap[b]? = w.heap[b]? := fun b t hb ht => k.block b (h.fresh b t hb).2.1 fun e => by
    cases e; rw [h.ml] at hb; exact ht (Option.some.inj hb).symm
  have hz : ∀ b t, lab b = some t → b < w'.heap.size := fun b t hb => Nat.lt_of_lt_of_le (h.fresh b t hb).2.1 k.size
  refine ⟨H1, le1, ⟨c1.le, c1.sat.block k.size fun b o v hv => k.block b (c1.sat.lt hv) fun e => hm o v (by cases e; exact hv), ⟨k.os.trans c1.keep.os, k.tape.trans c1.keep.tape, k.output.trans c1.keep.output, Nat.le_trans c1.keep.size k.size, fun b hb hn => (k.block b (Nat.lt_of_lt_of_le hb c1.keep.size) fun e => by cases e; omega).trans (c1.keep.block b hb hn)⟩, c1.new⟩, ?_⟩
  refine ⟨own_move h.ord fun b hb => hk b _ (h.ol b hb) (by simp), fun b hb => hz b _ (h.ol b hb), fun i hi => ⟨by rw [hk _ _ (h.grp i hi).2 (by simp)]; exact (h.grp i hi).1, hz _ _ (h.grp i hi).2⟩, fun i g hg => RepP.mono le1 (h.fst i g hg),
    fun i hi => ⟨by rw [hk _ _ (h.arr i hi).2 (by simp)]; exact (h.arr i hi).1, hz _ _ (h.arr i hi).2⟩, h.wid, fun i g c cl hg hc => ?_⟩
  have hi : i < G.length := (List.getElem?_eq_some_iff.1 hg).1
  have hcn : c < na := by rw [← h.wid i g hg]; exact (List.getElem?_eq_some_iff.1 hc).1
  exact r1 (i, c) (List.mem_flatMap.2 ⟨i, List.mem_range.2 hi, List.mem_map.2 ⟨c, List.mem_range.2 hcn, rfl⟩⟩) g cl hg hc
structure Ph (T : Tys) (H0 : PH L) (w0 : World) (H : PH L) (w : World) (na : Nat) (G : List Grp) (vo : Value) (gb cb : Nat → Nat) (vf : Nat → Value) (vv : Nat → Nat → Value) (N : Nat) (l : List Val) (vr : Value) (outs : List (List Val)) (vu : Value) : Prop where
  low : w0.heap.size ≤ L ∧ L ≤ N ∧ N ≤ w.heap.size
  calm : Calm H0 w0 H w
  fix : GFix T H w na G vo gb cb vf vv N
  row : ∃ xs, w.ownsRow N T.v 6 vr l.length xs ∧ RepV H 6 (Val.rowsN l) xs
  rowf : ∀ b, vr.ownBlock = some b → ∀ o u, H b o ≠ some u
  out : ∃ ys, w.ownsRow N T.r 1 vu outs.length ys ∧ RepV H 1 (outs.map fun r => [PV.nsl (Val.rowsN r)]) ys
  outf : ∀ b, vu.ownBlock = some b → ∀ o u, H b o ≠ some u
  dis : ∀ b, vr.ownBlock = some b → vu.ownBlock ≠ some b
variable {l : List Val} {vr : Value} {outs : List (List Val)} {vu : Value}
theorem Ph.start (h : GFix T H w na G vo gb cb vf vv w.heap.size) (hL : w0.heap.size ≤ L) (c : Calm H0 w0 H w) : Ph T H0 w0 H w na G vo gb cb vf vv w.heap.size [] (.slice none 0 0) [] (.slice none 0 0) :=
  ⟨⟨hL, c.sat.low, Nat.le_refl _⟩, c, h, ⟨[], World.ownsRow_nil _ _ _ _, rfl⟩, fun _ hb => (nomatch hb), ⟨[], World.ownsRow_nil _ _ _ _, rfl⟩, fun _ hb => (nomatch hb), fun _ hb => (nomatch hb)⟩
theorem Ph.call (h : Ph T H0 w0 H w na G vo gb cb vf vv N l vr outs vu) (c : Calm H w H' w') : Ph T H0 w0 H' w' na G vo gb cb vf vv N l vr outs vu := by
  have hf : ∀ b, b < w.heap.size → (∀ o u, H b o ≠ some u) → ∀ o u, H' b o ≠ some u := fun b hb hn o u hu => by
    rcases c.new b o u hu with ⟨v, hv⟩ | h2
    · exact hn o v hv
    · omega
  obtain ⟨xs, x1, x2⟩ := h.row
  obtain ⟨ys, y1, y2⟩ := h.out
  exact ⟨⟨h.low.1, h.low.2.1, Nat.le_trans h.low.2.2 c.keep.size⟩, h.calm.trans c, h.fix.move c.le fun b hb => c.keep.block b (by have := h.low; omega) id,
    ⟨xs, own_move x1 fun b hb => c.keep.block b (x1.lt b hb).2 id, x2.mono c.le⟩, fun b hb => hf b (x1.lt b hb).2 (h.rowf b hb), ⟨ys, own_move y1 fun b hb => c.keep.block b (y1.lt b hb).2 id, y2.mono c.le⟩, fun b hb => hf b (y1.lt b hb).2 (h.outf b hb), h.dis⟩
theorem calm_under {L : Nat} {H : PH L} {w w' : World} (s : SatH H w) (k : Below w.heap.size w w') : Calm H w H w' :=
  ⟨PH.le.refl H, s.block k.size fun b _ _ hv => k.block b (s.lt hv), ⟨k.os, k.tape, k.output, k.size, fun b hb _ => k.block b hb⟩, fun _ _ v hv => .inl ⟨v, hv⟩⟩
theorem Ph.below (h : Ph T H0 w0 H w na G vo gb cb vf vv N l vr outs vu) (k : Below w.heap.size w w') : Ph T H0 w0 H w' na G vo gb cb vf vv N l vr outs vu := h.call (calm_under h.calm.sat k)
theorem calm_grow {L : Nat} {H0 H : PH L} {w0 w w1 : World} (c : Calm H0 w0 H w) {row : Option Nat} (k : w.grownBy w1 row) (hr : ∀ b, row = some b → w0.heap.size ≤ b ∧ ∀ o u, H b o ≠ some u) : Calm H0 w0 H w1 :=
  ⟨c.le, c.sat.block k.size fun b o v hv => k.block b (c.sat.lt hv) fun e => (hr b e.symm).2 o v hv, ⟨k.os.trans c.keep.os, k.tape.trans c.keep.tape, k.output.trans c.keep.output, Nat.le_trans c.keep.size k.size, fun b hb hn => (k.block b (Nat.lt_of_lt_of_le hb c.keep.size) fun e => by have := (hr b e.symm).1; omega).trans (c.keep.block b hb hn)⟩, c.new⟩
theorem Ph.push (h : Ph T H0 w0 H w na G vo gb cb vf vv N l vr outs vu) {xs us : List Value} {x : Val} {v' : Value} (hx : w.ownsRow N T.v 6 vr l.length xs ∧ RepV H 6 (Val.rowsN l) xs) (hu : RepL H x.cellsN us)
    (hown : w1.ownsRow N T.v 6 v' (l.length + 1) (xs ++ us)) (k : w.grownBy w1 vr.ownBlock) (hat : v'.ownBlock = vr.ownBlock ∨ v'.ownBlock = some w.heap.size) : Ph T H0 w0 H w1 na G vo gb cb vf vv N (l ++ [x]) v' outs vu := by
  obtain ⟨ys, y1, y2⟩ := h.out
  have hl := h.low
  have hrow : ∀ b, vr.ownBlock = some b → w0.heap.size ≤ b ∧ ∀ o u, H b o ≠ some u := fun b hb => ⟨by have := (hx.1.lt b hb).1; omega, h.rowf b hb⟩
  have c1 := calm_grow h.calm k hrow
  refine ⟨⟨hl.1, hl.2.1, Nat.le_trans hl.2.2 k.size⟩, c1, h.fix.move (PH.le.refl H) fun b hb => k.block b (by omega) fun e => by have := (hx.1.lt b e.symm).1; omega, ⟨xs ++ us, by rw [List.length_append]; exact hown, ?_⟩, fun b hb => ?_,
    ⟨ys, own_move y1 fun b hb => k.block b (y1.lt b hb).2 fun e => h.dis b e.symm hb, y2⟩, h.outf, fun b hb hb2 => ?_⟩
  · rw [show Val.rowsN (l ++ [x]) = Val.rowsN l ++ Val.rowsN [x] from (Codec.append valNC l [x]).symm]
    exact hx.2.append ⟨cellsN_length x, us, [], by simp, hu, rfl⟩
  · rcases hat with e | e
    · exact h.rowf b (e.symm.trans hb)
    · intro o u hu
      rw [hb] at e; cases e
      exact absurd (h.calm.sat.lt hu) (by omega)
  · rcases hat with e | e
    · exact h.dis b (e.symm.trans hb) hb2
    · rw [hb] at e; cases e
      exact absurd (y1.lt _ hb2).2 (by omega)
theorem nsl_form' {L : Nat} {H : PH L} {rows : List (List PV)} {v : Value} (h : RepP H (.nsl rows) v) : ∃ p n c, v = .slice p n c := by
  simp only [RepP] at h
  rcases h with ⟨_, rfl | ⟨a, cap, rfl⟩⟩ | ⟨b, o, z', cap, rfl, _⟩
  · exact ⟨_, _, _, rfl⟩
  · exact ⟨_, _, _, rfl⟩
  · exact ⟨_, _, _, rfl⟩
theorem repn_form {L : Nat} {H : PH L} {v : Val} {us : List Value} (h : RepL H v.cellsN us) : ∃ (k i : Int) (b : Bool) (s : ByteArray) (p q : Option Addr) (n c m e : Nat), us = [.int .i64 k, .bool b, .int .i64 i, .string s, .slice p n c, .slice q m e] := by
  obtain ⟨k, b, i, s, l, ks⟩ := v
  simp only [Val.cellsN, RepL] at h
  obtain ⟨i0, _, rfl, h1, i1, _, rfl, h2, i2, _, rfl, h3, i3, _, rfl, h4, y0, _, rfl, h5, z0, _, rfl, h6, rfl⟩ := h
  obtain ⟨p, n, c, rfl⟩ := nsl_form' h5
  obtain ⟨q, m, e, rfl⟩ := nsl_form' h6
  simp only [RepP] at h1 h2 h3 h4
  subst h1 h2 h3 h4
  exact ⟨_, _, _, _, _, _, _, _, _, _, rfl⟩
theorem rowsN_one {L : Nat} {H : PH L} : ∀ {l : List Val} {xs : List Value}, RepV H 6 (Val.rowsN l) xs → ∀ u ∈ xs, u.oneCell' = true
  | [], xs, h => by
    simp only [Val.rowsN, RepV] at h
    subst h
    intro u hu; cases hu
  | v :: l, xs, h => by
    obtain ⟨_, a, b, rfl, ha, hb⟩ := h
    have ha := repn_form ha
    obtain ⟨k, i, bb, s, p, q, n, c, m, e, rfl⟩ := ha
    intro u hu
    rcases List.mem_append.1 hu with h | h
    · simp only [List.mem_cons, List.not_mem_nil, or_false] at h
      rcases h with rfl | rfl | rfl | rfl | rfl | rfl <;> rfl
    · exact rowsN_one hb u h
theorem outs_one {L : Nat} {H : PH L} : ∀ {l : List (List Val)} {xs : List Value}, RepV H 1 (l.map fun r => [PV.nsl (Val.rowsN r)]) xs → ∀ u ∈ xs, u.oneCell' = true
  | [], xs, h => by
    simp only [List.map_nil, RepV] at h
    subst h
    intro u hu; cases hu
  | v :: l, xs, h => by
    obtain ⟨_, a, b, rfl, ⟨u0, _, rfl, ha, rfl⟩, hb⟩ := h
    obtain ⟨p, n, c, rfl⟩ := nsl_form' ha
    intro u hu
    rcases List.mem_append.1 hu with h | h
    · simp only [List.mem_cons, List.not_mem_nil, or_false] at h
      subst h; rfl
    · exact outs_one hb u h
theorem Ph.done (h : Ph T H0 w0 H w na G vo gb cb vf vv N l vr outs vu) {ys : List Value} {v' : Value} (hy : w.ownsRow N T.r 1 vu outs.length ys ∧ RepV H 1 (outs.map fun r => [PV.nsl (Val.rowsN r)]) ys)
    (hown : w1.ownsRow N T.r 1 v' (outs.length + 1) (ys ++ [vr])) (k : w.grownBy w1 vu.ownBlock) (hat : v'.ownBlock = vu.ownBlock ∨ v'.ownBlock = some w.heap.size) : ∃ H', PH.le H H' ∧ Ph T H0 w0 H' w1 na G vo gb cb vf vv N [] (.slice none 0 0) (outs ++ [l]) v' := by
  obtain ⟨xs, x1, x2⟩ := h.row
  have hl := h.low
  obtain ⟨c1, le1⟩ := calm_own h.calm (row := none) (w2 := w) ⟨rfl, rfl, rfl, Nat.le_refl _, fun _ _ _ => rfl⟩ (fun b h => by cases h) (own_low x1 (by omega)) (fun b hb => h.rowf b (by rw [← own_blk x1]; exact hb)) (rowsN_one x2)
  have hg : ∀ b, vu.ownBlock = some b → ∀ o u, grownH H vr xs b o ≠ some u := fun b hb o u hu => by
    unfold grownH at hu
    split at hu
    · rename_i hc
      rw [own_blk x1] at hc
      exact h.dis b hc.1 hb
    · exact h.outf b hb o u hu
  have c2 := calm_grow c1 k fun b hb => ⟨by have := (hy.1.lt b hb).1; omega, hg b hb⟩
  refine ⟨_, le1, ⟨hl.1, hl.2.1, Nat.le_trans hl.2.2 k.size⟩, c2, h.fix.move le1 fun b hb => k.block b (by omega) fun e => by have := (hy.1.lt b e.symm).1; omega, ⟨[], World.ownsRow_nil _ _ _ _, rfl⟩, fun _ hb => (nomatch hb), ⟨ys ++ [vr], by rw [List.length_append]; exact hown, ?_⟩, fun b hb => ?_, fun _ hb => (nomatch hb)⟩
  · rw [List.map_append]
    exact (hy.2.mono le1).append ⟨rfl, [vr], [], by simp, ⟨vr, [], rfl, nsl_rep x2 le1 (by rw [rowsN_length]; exact own_low x1 hl.2.1), rfl⟩, rfl⟩
  · rcases hat with e | e
    · exact hg b (e.symm.trans hb)
    · intro o u hu
      rw [hb] at e; cases e
      exact absurd (c1.sat.lt hu) (by omega)
theorem Ph.finish (h : Ph T H0 w0 H w na G vo gb cb vf vv N l vr outs vu) : ∃ H', Calm H0 w0 H' w ∧ RepP H' (.nsl (outs.map fun r => [PV.nsl (Val.rowsN r)])) vu := by
  obtain ⟨ys, y1, y2⟩ := h.out
  have hl := h.low
  obtain ⟨c1, le1⟩ := calm_own h.calm (row := none) (w2 := w) ⟨rfl, rfl, rfl, Nat.le_refl _, fun _ _ _ => rfl⟩ (fun b h => by cases h) (own_low y1 (by omega)) (fun b hb => h.outf b (by rw [← own_blk y1]; exact hb)) (outs_one y2)
  exact ⟨_, c1, nsl_rep y2 le1 (by rw [List.length_map]; exact own_low y1 hl.2.1)⟩
end
end W
end
section
open Go Go.Proofs Ax Go.RowKit
namespace W
theorem dat_map : ∀ (n : Nat) (ks : List (List UInt8)), ks.length = n → Maps.IsMap (dat ks) := by
  intro n
  induction n with
  | zero => intro ks h; rw [List.length_eq_zero_iff.1 h]; exact Maps.isMap_empty
  | succ n ih =>
    intro ks h
    rcases List.eq_nil_or_concat ks with rfl | ⟨l, k, rfl⟩
    · cases h
    · rw [List.concat_eq_append] at *
      rw [dat_snoc]
      exact (ih l (by simpa using h)).put _ _
theorem dat_has (k : List UInt8) : ∀ (n : Nat) (ks : List (List UInt8)), ks.length = n → Maps.has (dat ks) (.string k) = decide (k ∈ ks) := by
  intro n
  induction n with
  | zero => intro ks h; rw [List.length_eq_zero_iff.1 h]; rfl
  | succ n ih =>
    intro ks h
    rcases List.eq_nil_or_concat ks with rfl | ⟨l, k', rfl⟩
    · cases h
    · rw [List.concat_eq_append] at *
      rw [dat_snoc]
      by_cases e : k = k'
      · subst e
        rw [Maps.has_put_same (dat_map _ l rfl) (show WideAt.IsKeyLit (.string k) from trivial)]
        simp
      · rw [Maps.has_put_other (fun e2 => e (by injection e2)), ih l (by simpa using h)]
        simp [e]
theorem dat_at (k : List UInt8) (z : DM) : ∀ (n : Nat) (ks : List (List UInt8)), ks.length = n → ks.Nodup → k ∈ ks → (dat ks).atKey (.string k) z = .lit (.int .i64 (ks.idxOf k : Nat)) := by
  intro n
  induction n with
  | zero => intro ks h _ hk; rw [List.length_eq_zero_iff.1 h] at hk; cases hk
  | succ n ih =>
    intro ks h hn hk
    rcases List.eq_nil_or_concat ks with rfl | ⟨l, k', rfl⟩
    · cases h
    · rw [List.concat_eq_append] at *
      rw [dat_snoc]
      rw [List.nodup_append] at hn
      by_cases e : k = k'
      · subst e
        have hnl : k ∉ l := fun hm => hn.2.2 k hm k (by simp) rfl
        rw [Maps.atKey_put_same (dat_map _ l rfl) (show WideAt.IsKeyLit (.string k) from trivial), List.idxOf_append, if_neg hnl]
        simp
      · have hm : k ∈ l := by
          rcases List.mem_append.1 hk with h1 | h1
          · exact h1
          · exact absurd (by simpa using h1) e
        rw [Maps.atKey_put_other (fun e2 => e (by injection e2)), ih l (by simpa using h) hn.1 hm, List.idxOf_append, if_pos hm]
end W
end
section
open Go Go.Proofs Ax Go.RowKit
namespace W
theorem info34_all : ((Tryz.prog.info? 34).map fun i => (i.size, i.bytes, i.zero)) = some (1, 24, some (.slice none 0 0)) := by kernel_rfl
theorem info34 : ∃ i0, Tryz.prog.info? 34 = some i0 ∧ i0.zero = some (.slice none 0 0) ∧ i0.size = 1 ∧ i0.bytes = 24 := by
  obtain ⟨i, hi, h⟩ := Option.map_eq_some_iff.1 info34_all
  simp only [Prod.mk.injEq] at h
  exact ⟨i, hi, h.2.2, h.1, h.2.1⟩
theorem info45_all : ((Tryz.prog.info? 45).map fun i => (i.size, i.bytes, i.zero)) = some (1, 8, some (.pointer none)) := by kernel_rfl
theorem info45 : ∃ i0, Tryz.prog.info? 45 = some i0 ∧ i0.zero = some (.pointer none) ∧ i0.size = 1 ∧ i0.bytes = 8 := by
  obtain ⟨i, hi, h⟩ := Option.map_eq_some_iff.1 info45_all
  simp only [Prod.mk.injEq] at h
  exact ⟨i, hi, h.2.2, h.1, h.2.1⟩
theorem make22 (n : Nat) (h : n < 11728124029610) (w : World) : (Instr.makeSlice 22 (.int .i64 (n : Int)) (.int .i64 (n : Int))).run Tryz.prog w = .ok (.slice (some ⟨w.heap.size, 0, none⟩) n n) (w.alloc (.cells (List.replicate n (Value.slice none 0 0)).toArray 34)) := by
  obtain ⟨i0, hi, hz, h1, h2⟩ := info34
  have hr := run_make (P := Tryz.prog) w 22 34 i0 _ Tryz.underlying22 hi hz .i64 .i64 n n (by omega) (Int.le_refl _) (by rw [h2]; omega) (by omega)
  rw [hr, h1]
  simp only [Int.toNat_natCast, Nat.mul_one]
  have e : madeCells (Value.slice none 0 0).cells n = (List.replicate n (Value.slice none 0 0)).toArray := by
    apply Array.toList_inj.1
    rw [show (Value.slice none 0 0).cells = #[Value.slice none 0 0] from rfl, toList_madeCells_one]
  rw [e]
set_option maxHeartbeats 4000000 in
set_option maxRecDepth 100000 in
theorem fresh_call (br ba : Nat) (p pa : Option Addr) (n c na ca : Nat) (w : World) (hr : w.cell? ⟨br, 0, none⟩ = some (.slice p n c)) (ha : w.cell? ⟨ba, 0, none⟩ = some (.slice pa na ca)) (hn : na < 11728124029610) :
    Calls Tryz.prog 21 #[.pointer (some ⟨br, 0, none⟩), .pointer (some ⟨ba, 0, none⟩)] w fun e w' => e = .returned (.pointer (some ⟨w.heap.size + 1, 0, none⟩)) ∧
      w' = ((w.alloc (.cells (Array.replicate na (Value.slice none 0 0)) 34)).alloc (.cells #[.slice p n c, .slice (some ⟨w.heap.size, 0, none⟩) na na] 48)).drew := by
  have hm := make22 na hn
  go_enter Tryz.func21, Tryz.ntmps21
  go_wp2
  go_region_held3 (fun w' => w'.cell? ⟨br, 0, none⟩ = some (.slice p n c) ∧ w'.cell? ⟨ba, 0, none⟩ = some (.slice pa na ca)) (go_keep) (fail)
  all_goals go_wp2
  all_goals go_ret
  exact ⟨rfl, rfl⟩
theorem cell_lt {w : World} {b o : Nat} {v : Value} (h : w.cell? ⟨b, o, none⟩ = some v) : b < w.heap.size := by
  apply Classical.byContradiction
  intro hc
  simp [World.cell?, Array.getElem?_eq_none (Nat.le_of_not_lt hc)] at h
theorem cell_blk {w : World} {b : Nat} {cs : Array Value} {t : TypeId} (h : w.heap[b]? = some (.cells cs t)) (i : Nat) {v : Value} (hi : cs[i]? = some v) : w.cell? ⟨b, i, none⟩ = some v := by simp [World.cell?, h, hi]
def TG : Tys := ⟨57, 45, 9, 3, 48, 34, 36⟩
theorem zero3 (w : World) : (zeroValue 3).run Tryz.prog w = .ok (.int .i64 0) w := by kernel_rfl
theorem dat_snoc' (G : List Grp) (k : List UInt8) : dat (G.map (·.key) ++ [k]) = (dat (G.map (·.key))).put (.string k) (.lit (.int .i64 (G.length : Int))) := by
  rw [dat_snoc, List.length_map]
theorem map_cells_ne {w : World} {b b' : Nat} {R : Value → Option (DM × List MemPlace)} {n : Nat} {D : DM} {o : Nat} {v : Value} (h : w.ownsMap Tryz.prog 9 R b n D) (hc : w.cell? ⟨b', o, none⟩ = some v) : b' ≠ b := fun e => by
  obtain ⟨es, clock, h1, _⟩ := h
  subst e
  simp [World.cell?, h1] at hc
structure Kept (L : Nat) (w w' : World) : Prop where
  os : w'.os = w.os
  tape : w'.tape = w.tape
  output : w'.output = w.output
  size : w.heap.size ≤ w'.heap.size
  block : ∀ b, b < L → w'.heap[b]? = w.heap[b]?
set_option maxHeartbeats 1000000 in
theorem seat_end {L : Nat} {H : PH L} {w w1 w3 : World} {na : Nat} {G : List Grp} {sb mb : Nat} {vo : Value} {gb cb : Nat → Nat} {vf : Nat → Value} {vv : Nat → Nat → Value} {lab : Nat → Option Tag} (h : GSt Tryz.prog TG H w na G sb mb vo gb cb vf vv lab)
    {k : List UInt8} {r : List Val} {f : Value} {gg cap : Nat} (hf : RepP H (.sl (Val.rows r)) f) (g1 : w.grownBy w1 (some mb)) (hm1 : w1.ownsMap Tryz.prog 9 (plainElem Tryz.prog 3) mb (G.length + 1) (dat (G.map (·.key) ++ [k])))
    (hown : w3.ownsRow L 45 1 (.slice (some ⟨gg, 0, none⟩) (G.length + 1) cap) (G.length + 1) (((List.range G.length).map fun i => Value.pointer (some ⟨gb i, 0, none⟩)) ++ [.pointer (some ⟨w1.heap.size + 1, 0, none⟩)]))
    (hgrow : (((w1.alloc (.cells (Array.replicate na (Value.slice none 0 0)) 34)).alloc (.cells #[f, .slice (some ⟨w1.heap.size, 0, none⟩) na na] 48)).alloc (.cells #[.pointer (some ⟨w1.heap.size + 1, 0, none⟩)] 45)).grownBy w3 vo.ownBlock)
    (hat : vo.ownBlock = some gg ∨ gg = w1.heap.size + 1 + 1 + 1) :
    (∃ gb' cb' vf' vv' lab', GSt Tryz.prog TG H (w3.setCell ⟨sb, 1, none⟩ (.slice (some ⟨gg, 0, none⟩) (G.length + 1) cap)) na (G ++ [⟨k, r, List.replicate na []⟩]) sb mb (.slice (some ⟨gg, 0, none⟩) (G.length + 1) cap) gb' cb' vf' vv' lab') ∧ Kept L w (w3.setCell ⟨sb, 1, none⟩ (.slice (some ⟨gg, 0, none⟩) (G.length + 1) cap)) := by
  generalize hW : ((w1.alloc (.cells (Array.replicate na (Value.slice none 0 0)) 34)).alloc (.cells #[f, .slice (some ⟨w1.heap.size, 0, none⟩) na na] 48)).alloc (.cells #[.pointer (some ⟨w1.heap.size + 1, 0, none⟩)] 45) = W at hgrow
  have hz1 := g1.size
  have hz3 := hgrow.size
  have hWs : W.heap.size = w1.heap.size + 3 := by rw [← hW]; simp
  have hWo : ∀ b, b < w1.heap.size → W.heap[b]? = w1.heap[b]? := fun b hb => by
    rw [← hW, heap_alloc_old _ _ (by simp; omega), heap_alloc_old _ _ (by simp; omega), heap_alloc_old _ _ hb]
  have hWn : W.heap[w1.heap.size + 1]? = some (.cells #[f, .slice (some ⟨w1.heap.size, 0, none⟩) na na] 48) := by
    rw [← hW, heap_alloc_old _ _ (by simp)]
    exact alloc_at _ _ _ (by simp)
  have hWc : W.heap[w1.heap.size]? = some (.cells (Array.replicate na (Value.slice none 0 0)) 34) := by
    rw [← hW, heap_alloc_old _ _ (by simp; omega), heap_alloc_old _ _ (by simp)]
    exact alloc_at _ _ _ rfl
  have hvl : ∀ b, vo.ownBlock = some b → b < w.heap.size ∧ lab b = some .ord := fun b hb => ⟨(h.fresh _ _ (h.ol b hb)).2.1, h.ol b hb⟩
  have hsl := (h.fresh _ _ h.sl).2.1
  have hml := (h.fresh _ _ h.ml).2.1
  have hgs : gg ≠ sb := fun e => by
    rcases hat with h1 | h1
    · have := (hvl _ h1).2; rw [e, h.sl] at this; cases this
    · omega
  have hgm : gg ≠ mb := fun e => by
    rcases hat with h1 | h1
    · have := (hvl _ h1).2; rw [e, h.ml] at this; cases this
    · omega
  have hsm : sb ≠ mb := fun e => by have := h.sl; rw [e, h.ml] at this; cases this
  have n3 : ∀ b, b < W.heap.size → vo.ownBlock ≠ some b → w3.heap[b]? = W.heap[b]? := fun b hb hn => hgrow.block b hb fun e => hn e.symm
  have ns : ∀ b, b ≠ sb → (w3.setCell ⟨sb, 1, none⟩ (.slice (some ⟨gg, 0, none⟩) (G.length + 1) cap)).heap[b]? = w3.heap[b]? := fun b hb => Below.heap_setCell _ _ _ _ hb
  have old : ∀ b, b < w.heap.size → b ≠ sb → b ≠ mb → vo.ownBlock ≠ some b → (w3.setCell ⟨sb, 1, none⟩ (.slice (some ⟨gg, 0, none⟩) (G.length + 1) cap)).heap[b]? = w.heap[b]? := fun b hb h1 h2 h3 =>
    (ns b h1).trans ((n3 b (by omega) h3).trans ((hWo b (by omega)).trans (g1.block b hb fun e => h2 (Option.some.inj e))))
  have hvn : ∀ b, w.heap.size ≤ b → vo.ownBlock ≠ some b := fun b hb e => by have := (hvl b e).1; omega
  have hs3 : w3.heap[sb]? = some (.cells #[.map (some mb), vo] 57) := (n3 sb (by omega) fun e => by have := (hvl _ e).2; rw [h.sl] at this; cases this).trans ((hWo sb (by omega)).trans ((g1.block sb hsl fun e => hsm (Option.some.inj e)).trans h.sbox))
  refine ⟨h.add (nb := w1.heap.size + 1) (nc := w1.heap.size) (by simp; omega) ?_ ?_ ?_ ?_ ?_ ?_ (by simp; omega) (by simp; omega) (by omega) hf ?_ h.sat.low, ⟨hgrow.os.trans ?_, hgrow.tape.trans ?_, hgrow.output.trans ?_, by simp; omega, fun b hb => old b (Nat.lt_of_lt_of_le hb h.sat.low) (fun e => ?_) (fun e => ?_) (fun e => ?_)⟩⟩
  · exact heap_setCell_same w3 sb 1 _ _ _ hs3
  · exact map_move hm1 ((ns mb fun e => hsm e.symm).trans ((n3 mb (by omega) fun e => by have := (hvl _ e).2; rw [h.ml] at this; cases this).trans (hWo mb (by omega))))
  · exact own_move hown fun b hb => ns b fun e => by cases hb; exact hgs e
  · rcases hat with h1 | h1
    · exact .inl h1.symm
    · exact .inr ⟨gg, rfl, by omega, by omega, by omega⟩
  · exact (ns _ (by omega)).trans ((n3 _ (by omega) (hvn _ (by omega))).trans hWn)
  · rw [ns _ (by omega), n3 _ (by omega) (hvn _ (by omega)), hWc]
    simp [TG]
  · intro b hb h1 h2 h3
    refine old b hb (fun e => h1 (by rw [e]; exact h.sl)) (fun e => h2 (by rw [e]; exact h.ml)) fun e => h3 (h.ol b e)
  · rw [← hW]; exact g1.os
  · rw [← hW]; exact g1.tape
  · rw [← hW]; exact g1.output
  · have := (h.fresh _ _ h.sl).1; omega
  · have := (h.fresh _ _ h.ml).1; omega
  · have := (h.fresh _ _ (h.ol b e)).1; omega
set_option maxHeartbeats 4000000 in
set_option maxRecDepth 100000 in
theorem seat_call {L : Nat} {H : PH L} {w : World} {na : Nat} {G : List Grp} {sb mb : Nat} {vo : Value} {gb cb : Nat → Nat} {vf : Nat → Value} {vv : Nat → Nat → Value} {lab : Nat → Option Tag} (h : GSt Tryz.prog TG H w na G sb mb vo gb cb vf vv lab) (nd : (G.map (·.key)).Nodup)
    (k : List UInt8) (hk : k.length ≤ maxLen) (br ba : Nat) (p pa : Option Addr) (n c ca : Nat) (hr : w.cell? ⟨br, 0, none⟩ = some (.slice p n c)) (ha : w.cell? ⟨ba, 0, none⟩ = some (.slice pa na ca)) (hn : na < 11728124029610) (hG : G.length < 1000000000) {r : List Val} (hf : RepP H (.sl (Val.rows r)) (.slice p n c)) :
    Calls Tryz.prog 23 #[.pointer (some ⟨sb, 0, none⟩), .string ⟨k.toArray⟩, .func (.func 21) #[] #[.pointer (some ⟨br, 0, none⟩), .pointer (some ⟨ba, 0, none⟩)]] w fun e w' => (k ∈ G.map (·.key) ∧ e = .returned (.tuple #[.int .i64 ((G.map (·.key)).idxOf k : Nat), .bool false]) ∧ w' = w) ∨
      (k ∉ G.map (·.key) ∧ e = .returned (.tuple #[.int .i64 (G.length : Int), .bool true]) ∧ ∃ vo' gb' cb' vf' vv' lab', GSt Tryz.prog TG H w' na (G ++ [⟨k, r, List.replicate na []⟩]) sb mb vo' gb' cb' vf' vv' lab' ∧ Kept L w w') := by
  have hhas := dat_has k _ (G.map (·.key)) rfl
  have hs0 : w.cell? ⟨sb, 0, none⟩ = some (.map (some mb)) := by simp [World.cell?, h.sbox]
  have hs1 : w.cell? ⟨sb, 1, none⟩ = some vo := by simp [World.cell?, h.sbox]
  have hkey : keyOf Tryz.prog 9 (.string ⟨k.toArray⟩) = some (.string k) := WideMaps.keyOf_string_mk Tryz.underlying9 hk
  obtain ⟨po, co, rfl⟩ : ∃ po co, vo = .slice po G.length co := by
    rcases h.ord.2 with ⟨rfl, e⟩ | ⟨g, cap, cur, rfl, _⟩
    · exact ⟨none, 0, by rw [e]⟩
    · exact ⟨_, _, rfl⟩
  have hlen : (G.map (·.key)).length = G.length := by simp
  have hfind := dat_at (z := .lit (.int .i64 0)) k _ _ hlen nd
  have hso : (Value.slice po G.length co).ownBlock ≠ some sb := fun e => by have := h.ol _ e; rw [h.sl] at this; cases this
  have hsb : sb ≠ mb := map_cells_ne h.mp hs0
  have hbr := map_cells_ne h.mp hr
  have hba := map_cells_ne h.mp ha
  obtain ⟨i0, hi, hz0, hz1, hz2⟩ := info45
  have hbrl := cell_lt hr
  have hbal := cell_lt ha
  have hmp : w.ownsMap Tryz.prog 9 (plainElem Tryz.prog 3) mb G.length (dat (G.map (·.key))) := h.mp
  generalize hD : dat (G.map (·.key)) = D at hmp hhas hfind
  by_cases hm : k ∈ G.map (·.key)
  · rw [decide_eq_true hm] at hhas
    have hfind := hfind hm
    go_enter Tryz.func23, Tryz.ntmps23
    go_wp2_with (at_lookup; refine wpList_lookup_own_ok_int _ rfl _ _ 54 rfl 9 3 .i64 (Maps.string_keyed Tryz.underlying9) Tryz.underlying54 Tryz.underlying3 (zero3 _) mb G.length D rfl hmp _ (.string k) rfl hkey ?_; intro ix hat hwx)
    go_ret2
    rw [hfind] at hat
    injection hat with hat
    injection hat with _ hat
    subst hat
    exact .inl ⟨hm, rfl, rfl⟩
  · rw [decide_eq_false hm] at hhas
    go_enter Tryz.func23, Tryz.ntmps23
    go_wp2_with (first
      | (at_lookup; refine wpList_lookup_own_ok_int _ rfl _ _ 54 rfl 9 3 .i64 (Maps.string_keyed Tryz.underlying9) Tryz.underlying54 Tryz.underlying3 (zero3 _) mb G.length D rfl hmp _ (.string k) rfl hkey ?_; intro ix hat hwx)
      | (at_mapUpdate; refine wpList_mapUpdate_in _ rfl _ _ _ 54 rfl 9 3 (Maps.string_keyed Tryz.underlying9) Tryz.underlying54 (plainElem Tryz.prog 3) mb G.length D rfl hmp (by unfold maxLen; omega) _ _ (.string k) rfl rfl hkey (.lit (.int .i64 (G.length : Int))) [] (plainElem_int Tryz.underlying3 ((Lit.wf_int_iff _ _).2 ⟨by rw [show IntKind.min .i64 = -9223372036854775808 from rfl]; omega, by rw [show IntKind.max .i64 = 9223372036854775807 from rfl]; omega⟩)) ?_; intro w1 hmp1 hturn
         have g1 := hturn.grown
         have q0 : w1.heap[sb]? = w.heap[sb]? := g1.block sb (h.fresh _ _ h.sl).2.1 (fun e => hsb (Option.some.inj e))
         have q1 : w1.cell? ⟨sb, 1, none⟩ = some (.slice po G.length co) := (World.cell?_of_block (w := w) (a := ⟨sb, 1, none⟩) q0).trans hs1
         have q2 : w1.cell? ⟨br, 0, none⟩ = some (.slice p n c) := (World.cell?_of_block (w := w) (a := ⟨br, 0, none⟩) (g1.block br hbrl fun e => hbr (Option.some.inj e))).trans hr
         have q3 : w1.cell? ⟨ba, 0, none⟩ = some (.slice pa na ca) := (World.cell?_of_block (w := w) (a := ⟨ba, 0, none⟩) (g1.block ba hbal fun e => hba (Option.some.inj e))).trans ha
         have hord := own_move (w' := w1) h.ord (fun b hb => g1.block b (h.fresh _ _ (h.ol b hb)).2.1 fun e => by cases e; have := h.ol _ hb; rw [h.ml] at this; cases this)
         have hL1 : L ≤ w1.heap.size := Nat.le_trans h.sat.low g1.size
         have hsl : sb < w1.heap.size := Nat.lt_of_lt_of_le (h.fresh _ _ h.sl).2.1 g1.size
         have n3 := alloc_at ((w1.alloc (.cells (Array.replicate na (Value.slice none 0 0)) 34)).alloc (.cells #[.slice p n c, .slice (some ⟨w1.heap.size, 0, none⟩) na na] 48)) (.cells #[.pointer (some ⟨w1.heap.size + 1, 0, none⟩)] 45) (w1.heap.size + 1 + 1) (by simp)
         have m1 := ((heap_alloc_old (w1.alloc (.cells (Array.replicate na (Value.slice none 0 0)) 34)) (.cells #[.slice p n c, .slice (some ⟨w1.heap.size, 0, none⟩) na na] 48) (r := sb) (by simp; omega)).trans (heap_alloc_old w1 (.cells (Array.replicate na (Value.slice none 0 0)) 34) (r := sb) hsl)).trans (q0.trans h.sbox)
         have n0 := (heap_alloc_old ((w1.alloc (.cells (Array.replicate na (Value.slice none 0 0)) 34)).alloc (.cells #[.slice p n c, .slice (some ⟨w1.heap.size, 0, none⟩) na na] 48)) (.cells #[.pointer (some ⟨w1.heap.size + 1, 0, none⟩)] 45) (r := sb) (by simp; omega)).trans m1
         have c2 := cell_blk m1 1 rfl
         have c3 := cell_blk n0 1 rfl
         have q4 : w1.frozen? ⟨sb, 1, none⟩ = false := by simp [World.frozen?, q0, h.sbox]))
    go_region_law
      (first
        | (go_simp; go_at_call 21; refine (fresh_call br ba p pa n c na ca _ (by simp [*]) (by simp [*]) hn).mono ?_; rintro e w2 ⟨rfl, rfl⟩)
        | (refine step_append_lies _ (by rfl) _ _ _ (by rfl) L 45 i0 _ 1 8 Tryz.underlying55 hi hz0 hz1 hz2 rfl (by omega) (.slice po G.length co) G.length _ (by rfl) (((hord.alloc _).alloc _).alloc _)
            ⟨w1.heap.size + 1 + 1, 0, none⟩ 1 1 [.pointer (some ⟨w1.heap.size + 1, 0, none⟩)] (by rfl) (by rfl) (World.news_of_block (cs := #[.pointer (some ⟨w1.heap.size + 1, 0, none⟩)]) (t := 45) (fr := (0, 0)) (by exact n3)) (by simp [Value.oneCell'])
            (by omega) (by unfold maxLen; omega) (by omega) (by simp; omega) (w1.heap.size + 1 + 1 + 1) (by simp) ?_; intro gg cap w3 hown1 hgrow hat hlt; have b3 := (hgrow.block sb (by simp; omega) (fun e => hso e.symm)).trans n0; have s1 := cell_blk b3 1 rfl; have s2 : w3.frozen? ⟨sb, 1, none⟩ = false := by simp [World.frozen?, b3]))
    all_goals go_wp2
    all_goals go_ret2
    all_goals
      rw [← hD, ← dat_snoc'] at hmp1
      have hE := seat_end h hf g1 hmp1 hown1 ⟨hgrow.os, hgrow.tape, hgrow.output, hgrow.size, hgrow.block⟩ hat
      obtain ⟨⟨gb', cb', vf', vv', lab', hE⟩, hK⟩ := hE
      exact .inr ⟨hm, rfl, _, gb', cb', vf', vv', lab', hE, hK⟩
end W
end
section
open Go
namespace W
section
variable {P : Program} {ops : Array Oper} {Q : Exit → Act → World → Prop} {md : Region.Mode} {last : Nat} {T : World → Prop}
def wpAnyG (P : Program) (md : Region.Mode) (ops : Array Oper) (Q : Exit → Act → World → Prop) (last : Nat) (T : World → Prop) : Nat → Array Bool → Act → World → Prop
  | 0, listed, a, w => Region.ready md ops listed = [] ∧ Q .normal a w
  | fuel + 1, listed, a, w =>
    (Region.ready md ops listed = [] → Q .normal a w) ∧
    ∀ i ∈ Region.ready md ops listed, wpOp P ops Q i (fun a' w' => (i ≠ last → T w') ∧ wpAnyG P md ops Q last T fuel (listed.setIfInBounds i true) a' w') a w
theorem wpAny_of_G : ∀ (fuel : Nat) (listed : Array Bool) (a : Act) (w : World), wpAnyG P md ops Q last T fuel listed a w → wpAny P md ops Q fuel listed a w
  | 0, _, _, _, h => h
  | fuel + 1, _, _, _, h => ⟨h.1, fun i hi => wpOp_mono (fun a' w' h' => wpAny_of_G fuel _ a' w' h'.2) (h.2 i hi)⟩
theorem wpAnyG_first {i : Nat} {oi : Oper} {v : Value} (hi : ops[i]? = some oi) (hsel : ∀ (j : Nat) (o : Oper) cs b, ops[j]? = some o → o.op ≠ .select cs b)
    (hQ : ∀ c a w, Q (.panic c) (a.put oi.dst v) w → Q (.panic c) a w) (hlast : ∀ o, ops[last]? = some o → ∃ e ∈ o.after, Region.binds md e = true ∧ e.on = i) :
    ∀ (fuel : Nat) (listed : Array Bool) (a : Act) (w : World),
      (∀ j oj, ops[j]? = some oj → j ≠ i → listed.getD j true = false → (∀ e ∈ oj.after, Region.binds md e = true → e.on ≠ i) → oi.apart ops oj = true) →
      i ∈ Region.ready md ops listed → YieldsIf P ops T oi v a → T w →
      wpAnyG P md ops Q last T fuel (listed.setIfInBounds i true) (a.put oi.dst v) w → wpAnyG P md ops Q last T (fuel + 1) listed a w := by
  intro fuel
  induction fuel with
  | zero =>
    intro listed a w _ hr hy hS H
    refine ⟨fun h => (by rw [h] at hr; cases hr), fun j hj => ?_⟩
    by_cases hji : j = i
    · subst hji; exact hy.wpOp hi hS ⟨fun _ => hS, H⟩
    · have := ready_mono hj hji
      rw [H.1] at this
      cases this
  | succ fuel ih =>
    intro listed a w hfree hr hy hS H
    refine ⟨fun h => (by rw [h] at hr; cases hr), fun j hj => ?_⟩
    by_cases hji : j = i
    · subst hji; exact hy.wpOp hi hS ⟨fun _ => hS, H⟩
    · have h1 := H.2 j (ready_mono hj hji)
      obtain ⟨hjun, oj, hoj, hall⟩ := mem_ready.1 hj
      have hnot : ∀ e ∈ oj.after, Region.binds md e = true → e.on ≠ i := fun e he hb heq => by
        have h1 := hall e he hb
        have h0 := (mem_ready.1 hr).1
        rw [heq] at h1
        rcases Nat.lt_or_ge i listed.size with h' | h'
        · simp [h'] at h0 h1; rw [h0] at h1; cases h1
        · simp [Array.getElem?_eq_none h'] at h1
      have hjl : j ≠ last := fun e => by
        obtain ⟨e', he, hb, hon⟩ := hlast oj (e ▸ hoj)
        exact hnot e' he hb hon
      have h2 := wpOp_putIf hoj (hfree j oj hoj hji hjun hnot) (fun cs b => hsel i oi cs b hi) (fun cs b => hsel j oj cs b hoj) hQ hy h1
      have hfree' : ∀ k ok, ops[k]? = some ok → k ≠ i → (listed.setIfInBounds j true).getD k true = false →
          (∀ e ∈ ok.after, Region.binds md e = true → e.on ≠ i) → oi.apart ops ok = true := fun k ok hk hki hun hno => by
        refine hfree k ok hk hki ?_ hno
        by_cases hjk : j = k
        · subst hjk; exact hjun
        · rw [getD_set_ne true hjk] at hun; exact hun
      refine wpOp_mono (fun a' w' h3 => ⟨h3.2.1, ih (listed.setIfInBounds j true) a' w' hfree' (ready_mono hr (Ne.symm hji)) h3.1 (h3.2.1 hjl) ?_⟩) h2
      rw [Array.setIfInBounds_comm _ _ hji]
      exact h3.2.2
def waits (md : Region.Mode) (ops : Array Oper) (last i : Nat) : Bool := match ops[last]? with
  | some o => o.after.toList.any fun e => Region.binds md e && e.on == i
  | none => true
theorem wpAnyG_take {i : Nat} {oi : Oper} {v : Value} {fuel : Nat} {listed : Array Bool} {a : Act} {w : World} (hi : ops[i]? = some oi)
    (hs : Region.noSelect ops = true) (hf : Region.free md ops listed i = true) (hr : (Region.ready md ops listed).contains i = true) (hl : waits md ops last i = true)
    (hQ : ∀ c a w, Q (.panic c) (a.put oi.dst v) w → Q (.panic c) a w) (hT : T w) (hy : ∀ w, T w → (execOp a.eval oi).run P w = .ok (.value v) w) (hw : Region.wanted oi (yielded ops a.tmps) = true)
    (h : wpAnyG P md ops Q last T fuel (listed.setIfInBounds i true) (a.put oi.dst v) w) : wpAnyG P md ops Q last T (fuel + 1) listed a w :=
  wpAnyG_first hi (Region.noSelect_spec hs) hQ (fun o ho => by
    unfold waits at hl
    rw [ho] at hl
    obtain ⟨e, he, h2⟩ := List.any_eq_true.1 hl
    rw [Bool.and_eq_true] at h2
    exact ⟨e, Array.mem_toList_iff.1 he, h2.1, by simpa using h2.2⟩) fuel listed a w (Region.free_spec hi hf) (by simpa using hr) (.inl ⟨hw, hy⟩) hT h
theorem wpAnyG_one {i : Nat} {o : Oper} {fuel : Nat} {listed : Array Bool} {a : Act} {w : World} (ho : ops[i]? = some o) (hr : Region.ready md ops listed = [i]) (hg : o.guard = none)
    (h : ∀ K : Act → World → Prop, (∀ a w, (i ≠ last → T w) → wpAnyG P md ops Q last T fuel (listed.setIfInBounds i true) a w → K a w) → Oper.wp P o a w K Q) : wpAnyG P md ops Q last T (fuel + 1) listed a w := by
  refine ⟨fun h0 => (by rw [hr] at h0; cases h0), fun j hj => ?_⟩
  rw [hr] at hj
  obtain rfl : j = i := by simpa using hj
  refine wpOp_step ho fun K hK => ?_
  rw [if_pos (by simp [Region.wanted, hg])]
  exact h K fun a w h1 h2 => hK a w ⟨h1, h2⟩
theorem wpAnyG_done {listed : Array Bool} {a : Act} {w : World} (hr : Region.ready md ops listed = []) (h : Q .normal a w) : ∀ fuel, wpAnyG P md ops Q last T fuel listed a w
  | 0 => ⟨hr, h⟩
  | _ + 1 => ⟨fun _ => h, by rw [hr]; simp⟩
theorem wp_region_G {id : Nat} {a : Act} {w : World} (hm : P.follows .mixedOrders = true)
    (h : wpAnyG P .any ops Q last T ops.size (Array.replicate ops.size false) a w.drew) : (Code.region id ops true).wp P Q a w :=
  wp_region_any hm (wpAny_of_G _ _ _ _ h)
end
end W
end
section
open Go Go.Proofs Ax Go.RowKit
namespace W
theorem setCell_comm (w : World) {a b : Addr} (h : a.block ≠ b.block) (u v : Value) : (w.setCell a u).setCell b v = (w.setCell b v).setCell a u := by
  unfold World.setCell
  congr 1
  refine Array.ext_getElem? fun i => ?_
  simp only [Array.getElem?_modify]
  by_cases h1 : b.block = i
  · by_cases h2 : a.block = i
    · exact absurd (h2.trans h1.symm) h
    · simp [h1, h2]
  · by_cases h2 : a.block = i
    · simp [h1, h2]
    · simp [h1, h2]
theorem six_stored {w : World} {base e g cap n : Nat} {xs zs us : List Value} {u0 u1 u2 u3 u4 u5 : Value} (hz : zs.length = 6) (hu : us = [u0, u1, u2, u3, u4, u5]) (h : w.ownsRow base e 6 (.slice (some ⟨g, 0, none⟩) (n + 1) cap) (n + 1) (xs ++ zs)) (hx : xs.length = n * 6) :
    ((((((w.setCell ⟨g, n * 6, none⟩ u0).setCell ⟨g, n * 6 + 1, none⟩ u1).setCell ⟨g, n * 6 + 2, none⟩ u2).setCell ⟨g, n * 6 + 3, none⟩ u3).setCell ⟨g, n * 6 + 4, none⟩ u4).setCell ⟨g, n * 6 + 5, none⟩ u5).ownsRow base e 6 (.slice (some ⟨g, 0, none⟩) (n + 1) cap) (n + 1) (xs ++ us) ∧
    w.grownBy ((((((w.setCell ⟨g, n * 6, none⟩ u0).setCell ⟨g, n * 6 + 1, none⟩ u1).setCell ⟨g, n * 6 + 2, none⟩ u2).setCell ⟨g, n * 6 + 3, none⟩ u3).setCell ⟨g, n * 6 + 4, none⟩ u4).setCell ⟨g, n * 6 + 5, none⟩ u5) (some g) := by
  obtain ⟨a1, b1⟩ := h.stored (n * 6) u0
  obtain ⟨a2, b2⟩ := a1.stored (n * 6 + 1) u1
  obtain ⟨a3, b3⟩ := a2.stored (n * 6 + 2) u2
  obtain ⟨a4, b4⟩ := a3.stored (n * 6 + 3) u3
  obtain ⟨a5, b5⟩ := a4.stored (n * 6 + 4) u4
  obtain ⟨a6, b6⟩ := a5.stored (n * 6 + 5) u5
  refine ⟨?_, grown_trans b1 (grown_trans b2 (grown_trans b3 (grown_trans b4 (grown_trans b5 b6))))⟩
  obtain ⟨z0, z1, z2, z3, z4, z5, rfl⟩ : ∃ z0 z1 z2 z3 z4 z5, zs = [z0, z1, z2, z3, z4, z5] := by
    match zs, hz with
    | [z0, z1, z2, z3, z4, z5], _ => exact ⟨_, _, _, _, _, _, rfl⟩
  subst hu
  rw [← hx] at a6
  have e : ∀ (l : List Value) (j : Nat) (v : Value), (xs ++ l).set (xs.length + j) v = xs ++ l.set j v := fun l j v => by
    rw [List.set_append_right _ _ (by omega), Nat.add_sub_cancel_left]
  rw [show (xs ++ [z0, z1, z2, z3, z4, z5]).set xs.length u0 = xs ++ [u0, z1, z2, z3, z4, z5] from e _ 0 _] at a6
  rw [e, e, e, e, e] at a6
  exact hx ▸ a6
section
variable {L : Nat} {H : PH L} {w wB w3 : World} {na : Nat} {G : List Grp} {sb mb : Nat} {vo : Value} {gb cb : Nat → Nat} {vf : Nat → Value} {vv : Nat → Nat → Value} {lab : Nat → Option Tag}
theorem grow_end (h : GSt Tryz.prog TG H w na G sb mb vo gb cb vf vv lab) (k : Below w.heap.size w wB) {i c : Nat} {g : Grp} {cl : List Val} (hg : G[i]? = some g) (hc : g.cols[c]? = some cl) {v' : Value} {xs us : List Value} {x : Val} (hr : RepL H (valC.cells x) us)
    (hx : wB.ownsRow L 36 6 (vv i c) cl.length xs ∧ RepV H 6 (Val.rows cl) xs) (hown : w3.ownsRow L 36 6 v' (cl.length + 1) (xs ++ us)) (hgr : wB.grownBy w3 (vv i c).ownBlock) (hat : v'.ownBlock = (vv i c).ownBlock ∨ v'.ownBlock = some wB.heap.size) :
    (∃ vv' lab', GSt Tryz.prog TG H (w3.setCell ⟨cb i, c, none⟩ v') na (G.set i { g with cols := g.cols.set c (cl ++ [x]) }) sb mb vo gb cb vf vv' lab') ∧ Kept L w (w3.setCell ⟨cb i, c, none⟩ v') := by
  have hB := h.below k
  have hi : i < G.length := (List.getElem?_eq_some_iff.1 hg).1
  have hcn : c < na := by rw [← h.wid i g hg]; exact (List.getElem?_eq_some_iff.1 hc).1
  refine ⟨hB.grow hg hc hr hx hown hgr hat, ⟨hgr.os.trans k.os, hgr.tape.trans k.tape, hgr.output.trans k.output, by simp; exact Nat.le_trans k.size hgr.size, fun b hb => ?_⟩⟩
  have hbw : b < w.heap.size := Nat.lt_of_lt_of_le hb h.sat.low
  rw [Below.heap_setCell _ _ _ _ (fun e => by have := (h.fresh _ _ (h.arr i hi).2).1; simp at e; omega), hgr.block b (Nat.lt_of_lt_of_le hbw k.size) (fun e => by have := (h.fresh _ _ (h.coll i c b hi hcn e.symm)).1; omega)]
  exact k.block b hbw
theorem grow_end2 (h : GSt Tryz.prog TG H w na G sb mb vo gb cb vf vv lab) (k : Below w.heap.size w wB) {i c : Nat} {g : Grp} {cl : List Val} (hg : G[i]? = some g) (hc : g.cols[c]? = some cl) {gg cap : Nat} {xs zs : List Value} {x : Val} {u0 u1 u2 u3 u4 u5 : Value} (hr : RepL H (valC.cells x) [u0, u1, u2, u3, u4, u5])
    (hx : wB.ownsRow L 36 6 (vv i c) cl.length xs ∧ RepV H 6 (Val.rows cl) xs) (hz : zs.length = 6) (hown : w3.ownsRow L 36 6 (.slice (some ⟨gg, 0, none⟩) (cl.length + 1) cap) (cl.length + 1) (xs ++ zs)) (hgr : wB.grownBy w3 (vv i c).ownBlock) (hat : (vv i c).ownBlock = some gg ∨ gg = wB.heap.size) (hgc : gg ≠ cb i) :
    (∃ vv' lab', GSt Tryz.prog TG H (((((((w3.setCell ⟨cb i, c, none⟩ (.slice (some ⟨gg, 0, none⟩) (cl.length + 1) cap)).setCell ⟨gg, cl.length * 6, none⟩ u0).setCell ⟨gg, cl.length * 6 + 1, none⟩ u1).setCell ⟨gg, cl.length * 6 + 2, none⟩ u2).setCell ⟨gg, cl.length * 6 + 3, none⟩ u3).setCell ⟨gg, cl.length * 6 + 4, none⟩ u4).setCell ⟨gg, cl.length * 6 + 5, none⟩ u5) na (G.set i { g with cols := g.cols.set c (cl ++ [x]) }) sb mb vo gb cb vf vv' lab') ∧
    Kept L w (((((((w3.setCell ⟨cb i, c, none⟩ (.slice (some ⟨gg, 0, none⟩) (cl.length + 1) cap)).setCell ⟨gg, cl.length * 6, none⟩ u0).setCell ⟨gg, cl.length * 6 + 1, none⟩ u1).setCell ⟨gg, cl.length * 6 + 2, none⟩ u2).setCell ⟨gg, cl.length * 6 + 3, none⟩ u3).setCell ⟨gg, cl.length * 6 + 4, none⟩ u4).setCell ⟨gg, cl.length * 6 + 5, none⟩ u5) := by
  have hxl : xs.length = cl.length * 6 := hx.1.1
  obtain ⟨o6, g6⟩ := six_stored (us := [u0, u1, u2, u3, u4, u5]) hz rfl hown hxl
  have hne : ∀ o, (⟨cb i, c, none⟩ : Addr).block ≠ (⟨gg, o, none⟩ : Addr).block := fun o e => hgc e.symm
  rw [setCell_comm _ (hne _), setCell_comm _ (hne _), setCell_comm _ (hne _), setCell_comm _ (hne _), setCell_comm _ (hne _), setCell_comm _ (hne _)]
  refine grow_end h k hg hc hr hx o6 ⟨g6.os.trans hgr.os, g6.tape.trans hgr.tape, g6.output.trans hgr.output, Nat.le_trans hgr.size g6.size, fun b hb hn => ?_⟩ (hat.imp (fun e => e.symm) fun e => by rw [e]; rfl)
  refine (g6.block b (Nat.lt_of_lt_of_le hb hgr.size) fun e => ?_).trans (hgr.block b hb hn)
  cases e
  rcases hat with h1 | h1
  · exact hn h1.symm
  · omega
end
end W
end
section
open Go Go.Proofs Ax Go.RowKit
namespace W
theorem info36_all : ((Tryz.prog.info? 36).map fun i => (i.size, i.bytes, i.zero)) = some (6, 88, some (.agg #[.int .i64 0, .bool false, .int .i64 0, .string ⟨#[]⟩, .slice none 0 0, .slice none 0 0])) := by kernel_rfl
theorem info36 : ∃ i0, Tryz.prog.info? 36 = some i0 ∧ i0.zero = some (.agg #[.int .i64 0, .bool false, .int .i64 0, .string ⟨#[]⟩, .slice none 0 0, .slice none 0 0]) ∧ i0.size = 6 ∧ i0.bytes = 88 := by
  obtain ⟨i, hi, h⟩ := Option.map_eq_some_iff.1 info36_all
  simp only [Prod.mk.injEq] at h
  exact ⟨i, hi, h.2.2, h.1, h.2.1⟩
def pick : List Nat → Code → Code
  | 0 :: l, .seq a _ => pick l a
  | 1 :: l, .seq _ b => pick l b
  | 0 :: l, .cond _ a _ => pick l a
  | 1 :: l, .cond _ _ b => pick l b
  | 0 :: l, .block _ a => pick l a
  | 0 :: l, .loop a => pick l a
  | _, c => c
def bodyOf : Option Code → Code
  | some c => c
  | none => .skip
set_option maxHeartbeats 4000000 in
set_option maxRecDepth 100000 in
theorem reg17 (t0 t1 t2 t3 t4 t5 t6 t8 t9 t12 t14 t15 t16 t17 t18 t19 t20 t21 t22 t23 t24 t25 t26 t27 t28 t29 t30 t31 t32 t33 t34 t35 t36 t37 t38 t39 t40 t41 t42 t43 t44 t45 t46 t47 t48 t49 t50 t51 t52 t53 t54 t55 t56 t57 t58 t59 t60 t61 t62 t63 t64 t65 t66 t67 t68 t69 t70 t71 t72 t73 t74 t75 t76 t77 t78 t79 t80 t81 t82 t83 t84 t85 t86 t87 t88 t89 t90 t91 t92 t93 t94 t95 t96 t97 t98 t99 t100 t101 t102 t103 t104 t105 t106 t107 t108 t109 t110 t111 t112 t113 t114 t115 t116 t117 t118 t119 t120 t121 t122 t123 t124 t125 t126 t127 t128 t129 t130 t131 t132 t133 t134 t135 t136 t137 t138 t139 t140 t141 t142 t143 t144 t145 t146 t147 t148 t149 t150 t151 t152 t153 t154 t155 t156 t157 t158 t159 t160 t161 t162 t163 t164 t165 t166 t167 t168 t169 t170 t171 t172 t173 t174 t175 t176 t177 t178 t179 t180 t181 t182 t183 t184 : Value) (w : World) (sb i c ob nb cb ng oc na rb ro rn rc : Nat) (pv : Option Addr) (cv : Nat) (ln base : Nat) (xs : List Value) (k1 i1 : Int) (b1 : Bool) (s1 : ByteArray) (p1 q1 : Option Addr) (n1 c1 m1 e1 : Nat) (Q : Exit → Act → World → Prop) (hQ : ∀ d v c a w, Q (.panic c) (a.put d v) w → Q (.panic c) a w)
    (hi : (i : Int) < (ng : Int)) (hc : (c : Int) < (na : Int)) (hr : (c : Int) < (rn : Int)) (h0 : w.cell? ⟨sb, 1, none⟩ = some (.slice (some ⟨ob, 0, none⟩) ng oc)) (h1 : w.cell? ⟨ob, i, none⟩ = some (.pointer (some ⟨nb, 0, none⟩))) (h2 : w.cell? ⟨nb, 1, none⟩ = some (.slice (some ⟨cb, 0, none⟩) na na)) (h3 : w.cell? ⟨cb, c, none⟩ = some (.slice pv ln cv)) (g0 : w.cell? ⟨rb, ro + c * 6, none⟩ = some (.int .i64 k1)) (g1 : w.cell? ⟨rb, ro + c * 6 + 1, none⟩ = some (.bool b1)) (g2 : w.cell? ⟨rb, ro + c * 6 + 2, none⟩ = some (.int .i64 i1)) (g3 : w.cell? ⟨rb, ro + c * 6 + 3, none⟩ = some (.string s1)) (g4 : w.cell? ⟨rb, ro + c * 6 + 4, none⟩ = some (.slice p1 n1 c1)) (g5 : w.cell? ⟨rb, ro + c * 6 + 5, none⟩ = some (.slice q1 m1 e1))
    (hf : w.frozen? ⟨cb, c, none⟩ = false) (hown : w.ownsRow base 36 6 (.slice pv ln cv) ln xs) (hb : base ≤ w.heap.size) (hln : ln < 1000000000)
    (nsb : (Value.slice pv ln cv).ownBlock ≠ some sb) (nob : (Value.slice pv ln cv).ownBlock ≠ some ob) (nnb : (Value.slice pv ln cv).ownBlock ≠ some nb) (ncb : (Value.slice pv ln cv).ownBlock ≠ some cb) (nrb : (Value.slice pv ln cv).ownBlock ≠ some rb)
    (hK : ∀ (x74 x75 x76 x77 x78 x79 x80 x81 x82 x83 x84 x85 x86 x87 x88 x89 x90 x91 x92 x93 x94 x95 x96 x97 x98 x99 x100 x101 x102 x103 x104 x105 x106 x107 x108 x109 x110 x111 x112 x113 x114 x115 x116 x117 x118 x119 x120 x121 x122 x123 x124 x125 x126 x127 x128 : Value) (gg cap : Nat) (w3 : World), w3.ownsRow base 36 6 (.slice (some ⟨gg, 0, none⟩) (ln + 1) cap) (ln + 1) (xs ++ [.int .i64 k1, .bool b1, .int .i64 i1, .string s1, .slice p1 n1 c1, .slice q1 m1 e1]) → (w.alloc (.cells #[.int .i64 k1, .bool b1, .int .i64 i1, .string s1, .slice p1 n1 c1, .slice q1 m1 e1] 36)).drew.grownBy w3 (Value.slice pv ln cv).ownBlock → ((Value.slice pv ln cv).ownBlock = some gg ∨ gg = w.heap.size + 1) → Q .normal { tmps := #[t0, t1, t2, t3, t4, t5, t6, .pointer (some ⟨sb, 0, none⟩), t8, t9, .slice (some ⟨rb, ro, none⟩) rn rc, .int .i64 (i : Int), t12, .int .i64 (c : Int), t14, t15, t16, t17, t18, t19, t20, t21, t22, t23, t24, t25, t26, t27, t28, t29, t30, t31, t32, t33, t34, t35, t36, t37, t38, t39, t40, t41, t42, t43, t44, t45, t46, t47, t48, t49, t50, t51, t52, t53, t54, t55, t56, t57, t58, t59, t60, t61, t62, t63, t64, t65, t66, t67, t68, t69, t70, t71, t72, t73, x74, x75, x76, x77, x78, x79, x80, x81, x82, x83, x84, x85, x86, x87, x88, x89, x90, x91, x92, x93, x94, x95, x96, x97, x98, x99, x100, x101, x102, x103, x104, x105, x106, x107, x108, x109, x110, x111, x112, x113, x114, x115, x116, x117, x118, x119, x120, x121, x122, x123, x124, x125, x126, x127, x128, t129, t130, t131, t132, t133, t134, t135, t136, t137, t138, t139, t140, t141, t142, t143, t144, t145, t146, t147, t148, t149, t150, t151, t152, t153, t154, t155, t156, t157, t158, t159, t160, t161, t162, t163, t164, t165, t166, t167, t168, t169, t170, t171, t172, t173, t174, t175, t176, t177, t178, t179, t180, t181, t182, t183, t184], defers := [] } (w3.setCell ⟨cb, c, none⟩ (.slice (some ⟨gg, 0, none⟩) (ln + 1) cap))) :
    (pick [1,1,1,1,1,0,1,0,0,1,1,0,0,1,1,1,0,0,1,1,0,0,1,1,0,1,1] (bodyOf Tryz.f8.body)).wp Tryz.prog Q { tmps := #[t0, t1, t2, t3, t4, t5, t6, .pointer (some ⟨sb, 0, none⟩), t8, t9, .slice (some ⟨rb, ro, none⟩) rn rc, .int .i64 (i : Int), t12, .int .i64 (c : Int), t14, t15, t16, t17, t18, t19, t20, t21, t22, t23, t24, t25, t26, t27, t28, t29, t30, t31, t32, t33, t34, t35, t36, t37, t38, t39, t40, t41, t42, t43, t44, t45, t46, t47, t48, t49, t50, t51, t52, t53, t54, t55, t56, t57, t58, t59, t60, t61, t62, t63, t64, t65, t66, t67, t68, t69, t70, t71, t72, t73, t74, t75, t76, t77, t78, t79, t80, t81, t82, t83, t84, t85, t86, t87, t88, t89, t90, t91, t92, t93, t94, t95, t96, t97, t98, t99, t100, t101, t102, t103, t104, t105, t106, t107, t108, t109, t110, t111, t112, t113, t114, t115, t116, t117, t118, t119, t120, t121, t122, t123, t124, t125, t126, t127, t128, t129, t130, t131, t132, t133, t134, t135, t136, t137, t138, t139, t140, t141, t142, t143, t144, t145, t146, t147, t148, t149, t150, t151, t152, t153, t154, t155, t156, t157, t158, t159, t160, t161, t162, t163, t164, t165, t166, t167, t168, t169, t170, t171, t172, t173, t174, t175, t176, t177, t178, t179, t180, t181, t182, t183, t184], defers := [] } w := by
  simp only [pick, bodyOf, Tryz.f8]
  have hi0 : (0 : Int) ≤ (i : Int) := by omega
  have hc0 : (0 : Int) ≤ (c : Int) := by omega
  have hT : (fun w' => w'.cell? ⟨sb, 1, none⟩ = some (.slice (some ⟨ob, 0, none⟩) ng oc) ∧ w'.cell? ⟨ob, i, none⟩ = some (.pointer (some ⟨nb, 0, none⟩)) ∧ w'.cell? ⟨nb, 1, none⟩ = some (.slice (some ⟨cb, 0, none⟩) na na) ∧ w'.cell? ⟨cb, c, none⟩ = some (.slice pv ln cv) ∧ w'.cell? ⟨rb, ro + c * 6, none⟩ = some (.int .i64 k1) ∧ w'.cell? ⟨rb, ro + c * 6 + 1, none⟩ = some (.bool b1) ∧ w'.cell? ⟨rb, ro + c * 6 + 2, none⟩ = some (.int .i64 i1) ∧ w'.cell? ⟨rb, ro + c * 6 + 3, none⟩ = some (.string s1) ∧ w'.cell? ⟨rb, ro + c * 6 + 4, none⟩ = some (.slice p1 n1 c1) ∧ w'.cell? ⟨rb, ro + c * 6 + 5, none⟩ = some (.slice q1 m1 e1)) w.drew := ⟨h0, h1, h2, h3, g0, g1, g2, g3, g4, g5⟩
  refine wp_region_G (last := 31) (T := (fun w' => w'.cell? ⟨sb, 1, none⟩ = some (.slice (some ⟨ob, 0, none⟩) ng oc) ∧ w'.cell? ⟨ob, i, none⟩ = some (.pointer (some ⟨nb, 0, none⟩)) ∧ w'.cell? ⟨nb, 1, none⟩ = some (.slice (some ⟨cb, 0, none⟩) na na) ∧ w'.cell? ⟨cb, c, none⟩ = some (.slice pv ln cv) ∧ w'.cell? ⟨rb, ro + c * 6, none⟩ = some (.int .i64 k1) ∧ w'.cell? ⟨rb, ro + c * 6 + 1, none⟩ = some (.bool b1) ∧ w'.cell? ⟨rb, ro + c * 6 + 2, none⟩ = some (.int .i64 i1) ∧ w'.cell? ⟨rb, ro + c * 6 + 3, none⟩ = some (.string s1) ∧ w'.cell? ⟨rb, ro + c * 6 + 4, none⟩ = some (.slice p1 n1 c1) ∧ w'.cell? ⟨rb, ro + c * 6 + 5, none⟩ = some (.slice q1 m1 e1))) (by kernel_rfl) ?_
  refine wpAnyG_take (i := 0) (v := ?v0) rfl (by kernel_rfl) (by kernel_rfl) (by kernel_rfl) (by kernel_rfl) (hQ _ _) hT ?hy0 (by rfl) ?h0
  case hy0 => (intro w hw; clear hw; go_simp; with_reducible rfl)
  try simp only [Act.put, List.setIfInBounds_toArray, List.set]
  refine wpAnyG_take (i := 1) (v := ?v1) rfl (by kernel_rfl) (by kernel_rfl) (by kernel_rfl) (by kernel_rfl) (hQ _ _) hT ?hy1 (by rfl) ?h1
  case hy1 => (intro w hw; clear hw; go_simp; with_reducible rfl)
  try simp only [Act.put, List.setIfInBounds_toArray, List.set]
  refine wpAnyG_take (i := 2) (v := ?v2) rfl (by kernel_rfl) (by kernel_rfl) (by kernel_rfl) (by kernel_rfl) (hQ _ _) hT ?hy2 (by rfl) ?h2
  case hy2 => (intro w hw; clear hw; go_simp; with_reducible rfl)
  try simp only [Act.put, List.setIfInBounds_toArray, List.set]
  refine wpAnyG_take (i := 3) (v := ?v3) rfl (by kernel_rfl) (by kernel_rfl) (by kernel_rfl) (by kernel_rfl) (hQ _ _) hT ?hy3 (by rfl) ?h3
  case hy3 => (intro w hw; obtain ⟨e0, e1, e2, e3, e4, e5, e6, e7, e8, e9⟩ := hw; go_simp; with_reducible rfl)
  try simp only [Act.put, List.setIfInBounds_toArray, List.set]
  refine wpAnyG_take (i := 4) (v := ?v4) rfl (by kernel_rfl) (by kernel_rfl) (by kernel_rfl) (by kernel_rfl) (hQ _ _) hT ?hy4 (by rfl) ?h4
  case hy4 => (intro w hw; clear hw; go_simp; with_reducible rfl)
  try simp only [Act.put, List.setIfInBounds_toArray, List.set]
  refine wpAnyG_take (i := 5) (v := ?v5) rfl (by kernel_rfl) (by kernel_rfl) (by kernel_rfl) (by kernel_rfl) (hQ _ _) hT ?hy5 (by rfl) ?h5
  case hy5 => (intro w hw; clear hw; go_simp; with_reducible rfl)
  try simp only [Act.put, List.setIfInBounds_toArray, List.set]
  refine wpAnyG_take (i := 6) (v := ?v6) rfl (by kernel_rfl) (by kernel_rfl) (by kernel_rfl) (by kernel_rfl) (hQ _ _) hT ?hy6 (by rfl) ?h6
  case hy6 => (intro w hw; obtain ⟨e0, e1, e2, e3, e4, e5, e6, e7, e8, e9⟩ := hw; go_simp; with_reducible rfl)
  try simp only [Act.put, List.setIfInBounds_toArray, List.set]
  refine wpAnyG_take (i := 7) (v := ?v7) rfl (by kernel_rfl) (by kernel_rfl) (by kernel_rfl) (by kernel_rfl) (hQ _ _) hT ?hy7 (by rfl) ?h7
  case hy7 => (intro w hw; clear hw; go_simp; with_reducible rfl)
  try simp only [Act.put, List.setIfInBounds_toArray, List.set]
  refine wpAnyG_take (i := 8) (v := ?v8) rfl (by kernel_rfl) (by kernel_rfl) (by kernel_rfl) (by kernel_rfl) (hQ _ _) hT ?hy8 (by rfl) ?h8
  case hy8 => (intro w hw; clear hw; go_simp; with_reducible rfl)
  try simp only [Act.put, List.setIfInBounds_toArray, List.set]
  refine wpAnyG_take (i := 9) (v := ?v9) rfl (by kernel_rfl) (by kernel_rfl) (by kernel_rfl) (by kernel_rfl) (hQ _ _) hT ?hy9 (by rfl) ?h9
  case hy9 => (intro w hw; obtain ⟨e0, e1, e2, e3, e4, e5, e6, e7, e8, e9⟩ := hw; go_simp; with_reducible rfl)
  try simp only [Act.put, List.setIfInBounds_toArray, List.set]
  refine wpAnyG_take (i := 10) (v := ?v10) rfl (by kernel_rfl) (by kernel_rfl) (by kernel_rfl) (by kernel_rfl) (hQ _ _) hT ?hy10 (by rfl) ?h10
  case hy10 => (intro w hw; clear hw; go_simp; with_reducible rfl)
  try simp only [Act.put, List.setIfInBounds_toArray, List.set]
  refine wpAnyG_take (i := 11) (v := ?v11) rfl (by kernel_rfl) (by kernel_rfl) (by kernel_rfl) (by kernel_rfl) (hQ _ _) hT ?hy11 (by rfl) ?h11
  case hy11 => (intro w hw; clear hw; go_simp; with_reducible rfl)
  try simp only [Act.put, List.setIfInBounds_toArray, List.set]
  refine wpAnyG_take (i := 12) (v := ?v12) rfl (by kernel_rfl) (by kernel_rfl) (by kernel_rfl) (by kernel_rfl) (hQ _ _) hT ?hy12 (by rfl) ?h12
  case hy12 => (intro w hw; clear hw; go_simp; with_reducible rfl)
  try simp only [Act.put, List.setIfInBounds_toArray, List.set]
  refine wpAnyG_take (i := 13) (v := ?v13) rfl (by kernel_rfl) (by kernel_rfl) (by kernel_rfl) (by kernel_rfl) (hQ _ _) hT ?hy13 (by rfl) ?h13
  case hy13 => (intro w hw; clear hw; go_simp; with_reducible rfl)
  try simp only [Act.put, List.setIfInBounds_toArray, List.set]
  refine wpAnyG_take (i := 14) (v := ?v14) rfl (by kernel_rfl) (by kernel_rfl) (by kernel_rfl) (by kernel_rfl) (hQ _ _) hT ?hy14 (by rfl) ?h14
  case hy14 => (intro w hw; obtain ⟨e0, e1, e2, e3, e4, e5, e6, e7, e8, e9⟩ := hw; go_simp; with_reducible rfl)
  try simp only [Act.put, List.setIfInBounds_toArray, List.set]
  refine wpAnyG_take (i := 15) (v := ?v15) rfl (by kernel_rfl) (by kernel_rfl) (by kernel_rfl) (by kernel_rfl) (hQ _ _) hT ?hy15 (by rfl) ?h15
  case hy15 => (intro w hw; clear hw; go_simp; with_reducible rfl)
  try simp only [Act.put, List.setIfInBounds_toArray, List.set]
  refine wpAnyG_take (i := 16) (v := ?v16) rfl (by kernel_rfl) (by kernel_rfl) (by kernel_rfl) (by kernel_rfl) (hQ _ _) hT ?hy16 (by rfl) ?h16
  case hy16 => (intro w hw; clear hw; go_simp; with_reducible rfl)
  try simp only [Act.put, List.setIfInBounds_toArray, List.set]
  refine wpAnyG_take (i := 17) (v := ?v17) rfl (by kernel_rfl) (by kernel_rfl) (by kernel_rfl) (by kernel_rfl) (hQ _ _) hT ?hy17 (by rfl) ?h17
  case hy17 => (intro w hw; obtain ⟨e0, e1, e2, e3, e4, e5, e6, e7, e8, e9⟩ := hw; go_simp; with_reducible rfl)
  try simp only [Act.put, List.setIfInBounds_toArray, List.set]
  refine wpAnyG_take (i := 18) (v := ?v18) rfl (by kernel_rfl) (by kernel_rfl) (by kernel_rfl) (by kernel_rfl) (hQ _ _) hT ?hy18 (by rfl) ?h18
  case hy18 => (intro w hw; clear hw; go_simp; with_reducible rfl)
  try simp only [Act.put, List.setIfInBounds_toArray, List.set]
  refine wpAnyG_take (i := 19) (v := ?v19) rfl (by kernel_rfl) (by kernel_rfl) (by kernel_rfl) (by kernel_rfl) (hQ _ _) hT ?hy19 (by rfl) ?h19
  case hy19 => (intro w hw; clear hw; go_simp; with_reducible rfl)
  try simp only [Act.put, List.setIfInBounds_toArray, List.set]
  refine wpAnyG_take (i := 20) (v := ?v20) rfl (by kernel_rfl) (by kernel_rfl) (by kernel_rfl) (by kernel_rfl) (hQ _ _) hT ?hy20 (by rfl) ?h20
  case hy20 => (intro w hw; obtain ⟨e0, e1, e2, e3, e4, e5, e6, e7, e8, e9⟩ := hw; go_simp; with_reducible rfl)
  try simp only [Act.put, List.setIfInBounds_toArray, List.set]
  refine wpAnyG_take (i := 21) (v := ?v21) rfl (by kernel_rfl) (by kernel_rfl) (by kernel_rfl) (by kernel_rfl) (hQ _ _) hT ?hy21 (by rfl) ?h21
  case hy21 => (intro w hw; clear hw; go_simp; with_reducible rfl)
  try simp only [Act.put, List.setIfInBounds_toArray, List.set]
  refine wpAnyG_take (i := 22) (v := ?v22) rfl (by kernel_rfl) (by kernel_rfl) (by kernel_rfl) (by kernel_rfl) (hQ _ _) hT ?hy22 (by rfl) ?h22
  case hy22 => (intro w hw; clear hw; go_simp; with_reducible rfl)
  try simp only [Act.put, List.setIfInBounds_toArray, List.set]
  refine wpAnyG_take (i := 23) (v := ?v23) rfl (by kernel_rfl) (by kernel_rfl) (by kernel_rfl) (by kernel_rfl) (hQ _ _) hT ?hy23 (by rfl) ?h23
  case hy23 => (intro w hw; obtain ⟨e0, e1, e2, e3, e4, e5, e6, e7, e8, e9⟩ := hw; go_simp; with_reducible rfl)
  try simp only [Act.put, List.setIfInBounds_toArray, List.set]
  refine wpAnyG_take (i := 24) (v := ?v24) rfl (by kernel_rfl) (by kernel_rfl) (by kernel_rfl) (by kernel_rfl) (hQ _ _) hT ?hy24 (by rfl) ?h24
  case hy24 => (intro w hw; clear hw; go_simp; with_reducible rfl)
  try simp only [Act.put, List.setIfInBounds_toArray, List.set]
  refine wpAnyG_take (i := 25) (v := ?v25) rfl (by kernel_rfl) (by kernel_rfl) (by kernel_rfl) (by kernel_rfl) (hQ _ _) hT ?hy25 (by rfl) ?h25
  case hy25 => (intro w hw; clear hw; go_simp; with_reducible rfl)
  try simp only [Act.put, List.setIfInBounds_toArray, List.set]
  refine wpAnyG_take (i := 26) (v := ?v26) rfl (by kernel_rfl) (by kernel_rfl) (by kernel_rfl) (by kernel_rfl) (hQ _ _) hT ?hy26 (by rfl) ?h26
  case hy26 => (intro w hw; clear hw; go_simp; with_reducible rfl)
  try simp only [Act.put, List.setIfInBounds_toArray, List.set]
  refine wpAnyG_take (i := 27) (v := ?v27) rfl (by kernel_rfl) (by kernel_rfl) (by kernel_rfl) (by kernel_rfl) (hQ _ _) hT ?hy27 (by rfl) ?h27
  case hy27 => (intro w hw; obtain ⟨e0, e1, e2, e3, e4, e5, e6, e7, e8, e9⟩ := hw; go_simp; with_reducible rfl)
  try simp only [Act.put, List.setIfInBounds_toArray, List.set]
  have hfar : ∀ b o v, w.cell? ⟨b, o, none⟩ = some v → (w.alloc (.cells #[.int .i64 k1, .bool b1, .int .i64 i1, .string s1, .slice p1 n1 c1, .slice q1 m1 e1] 36)).drew.cell? ⟨b, o, none⟩ = some v := fun b o v hv => (World.cell?_alloc_some w ⟨b, o, none⟩ _ (by rw [hv]; rfl)).trans hv
  have hnew := alloc_at w (.cells #[.int .i64 k1, .bool b1, .int .i64 i1, .string s1, .slice p1 n1 c1, .slice q1 m1 e1] 36) _ rfl
  refine wpAnyG_one (i := 28) rfl (by kernel_rfl) rfl fun K hk => ?_
  go_simp
  refine hk _ _ (fun _ => ⟨hfar _ _ _ h0, hfar _ _ _ h1, hfar _ _ _ h2, hfar _ _ _ h3, hfar _ _ _ g0, hfar _ _ _ g1, hfar _ _ _ g2, hfar _ _ _ g3, hfar _ _ _ g4, hfar _ _ _ g5⟩) ?_
  clear hk K
  try simp only [Act.put, List.setIfInBounds_toArray, List.set]
  refine wpAnyG_one (i := 29) rfl (by kernel_rfl) rfl fun K hk => ?_
  obtain ⟨i0, hi36, hz0, hz1, hz2⟩ := info36
  refine wp_append_lies _ _ _ _ rfl base 36 i0 _ 6 88 Tryz.underlying34 hi36 hz0 hz1 hz2 rfl (by omega) (.slice pv ln cv) ln xs rfl (hown.alloc _) ⟨w.heap.size, 0, none⟩ 1 1 [.int .i64 k1, .bool b1, .int .i64 i1, .string s1, .slice p1 n1 c1, .slice q1 m1 e1] rfl rfl (World.news_of_block (cs := #[.int .i64 k1, .bool b1, .int .i64 i1, .string s1, .slice p1 n1 c1, .slice q1 m1 e1]) (t := 36) (fr := (0, 0)) (by exact hnew)) (by simp [Value.oneCell']) (by omega) (by unfold maxLen; omega) (by omega) (by simp [World.drew]; omega) (w.heap.size + 1) (by simp [World.drew]) ?_
  intro gg cap w3 hown3 hgrow hat hlt
  have hlt0 : ∀ b o v, w.cell? ⟨b, o, none⟩ = some v → b < w.heap.size := fun b o v hv => cell_lt hv
  have hgr : ∀ b, b < w.heap.size → (Value.slice pv ln cv).ownBlock ≠ some b → w3.heap[b]? = w.heap[b]? := fun b hb hn => (hgrow.block b (by simp [World.drew]; omega) fun e => hn e.symm).trans (heap_alloc_old w _ hb)
  have hfar3 : ∀ b o v, w.cell? ⟨b, o, none⟩ = some v → (Value.slice pv ln cv).ownBlock ≠ some b → w3.cell? ⟨b, o, none⟩ = some v := fun b o v hv hn => (World.cell?_of_block (w := w) (a := ⟨b, o, none⟩) (hgr b (hlt0 b o v hv) hn)).trans hv
  have hT3 : (fun w' => w'.cell? ⟨sb, 1, none⟩ = some (.slice (some ⟨ob, 0, none⟩) ng oc) ∧ w'.cell? ⟨ob, i, none⟩ = some (.pointer (some ⟨nb, 0, none⟩)) ∧ w'.cell? ⟨nb, 1, none⟩ = some (.slice (some ⟨cb, 0, none⟩) na na) ∧ w'.cell? ⟨cb, c, none⟩ = some (.slice pv ln cv) ∧ w'.cell? ⟨rb, ro + c * 6, none⟩ = some (.int .i64 k1) ∧ w'.cell? ⟨rb, ro + c * 6 + 1, none⟩ = some (.bool b1) ∧ w'.cell? ⟨rb, ro + c * 6 + 2, none⟩ = some (.int .i64 i1) ∧ w'.cell? ⟨rb, ro + c * 6 + 3, none⟩ = some (.string s1) ∧ w'.cell? ⟨rb, ro + c * 6 + 4, none⟩ = some (.slice p1 n1 c1) ∧ w'.cell? ⟨rb, ro + c * 6 + 5, none⟩ = some (.slice q1 m1 e1)) w3 := ⟨hfar3 _ _ _ h0 nsb, hfar3 _ _ _ h1 nob, hfar3 _ _ _ h2 nnb, hfar3 _ _ _ h3 ncb, hfar3 _ _ _ g0 nrb, hfar3 _ _ _ g1 nrb, hfar3 _ _ _ g2 nrb, hfar3 _ _ _ g3 nrb, hfar3 _ _ _ g4 nrb, hfar3 _ _ _ g5 nrb⟩
  have s3 := hfar3 _ _ _ h3 ncb
  have f3 : w3.frozen? ⟨cb, c, none⟩ = false := (World.frozen?_of_block (w := w) (a := ⟨cb, c, none⟩) (hgr cb (hlt0 _ _ _ h3) ncb)).trans hf
  refine hk _ _ (fun _ => hT3) ?_
  clear hk K
  try simp only [Act.put, List.setIfInBounds_toArray, List.set]
  refine wpAnyG_take (i := 30) (v := ?v30) rfl (by kernel_rfl) (by kernel_rfl) (by kernel_rfl) (by kernel_rfl) (hQ _ _) hT3 ?hy30 (by rfl) ?h30
  case hy30 => (intro w hw; clear hw; go_simp; with_reducible rfl)
  try simp only [Act.put, List.setIfInBounds_toArray, List.set]
  refine wpAnyG_one (i := 31) rfl (by kernel_rfl) rfl fun K hk => ?_
  go_simp
  refine hk _ _ (fun h => absurd rfl h) ?_
  clear hk K
  refine wpAnyG_done (by kernel_rfl) ?_ _
  exact hK _ _ _ _ _ _ _ _ _ _ _ _ _ _ _ _ _ _ _ _ _ _ _ _ _ _ _ _ _ _ _ _ _ _ _ _ _ _ _ _ _ _ _ _ _ _ _ _ _ _ _ _ _ _ _ gg cap w3 hown3 hgrow hat
set_option maxHeartbeats 4000000 in
set_option maxRecDepth 100000 in
theorem reg15 (t0 t1 t2 t3 t4 t5 t6 t8 t9 t12 t14 t15 t16 t17 t18 t19 t20 t21 t22 t23 t24 t25 t26 t27 t28 t29 t30 t31 t32 t33 t34 t35 t36 t37 t38 t39 t40 t41 t42 t43 t44 t45 t46 t47 t48 t49 t50 t51 t52 t53 t54 t55 t56 t57 t58 t59 t60 t61 t62 t63 t64 t65 t66 t67 t68 t69 t70 t71 t72 t73 t74 t75 t76 t77 t78 t79 t80 t81 t82 t83 t84 t85 t86 t87 t88 t89 t90 t91 t92 t93 t94 t95 t96 t97 t98 t99 t100 t101 t102 t103 t104 t105 t106 t107 t108 t109 t110 t111 t112 t113 t114 t115 t116 t117 t118 t119 t120 t121 t122 t123 t124 t125 t126 t127 t128 t129 t130 t131 t132 t133 t134 t135 t136 t137 t138 t139 t140 t141 t142 t143 t144 t145 t146 t147 t148 t149 t150 t151 t152 t153 t154 t155 t156 t157 t158 t159 t160 t161 t162 t163 t164 t165 t166 t167 t168 t169 t170 t171 t172 t173 t174 t175 t176 t177 t178 t179 t180 t181 t182 t183 t184 : Value) (w : World) (sb i c ob nb cb ng oc na rb ro rn rc : Nat) (pv : Option Addr) (cv : Nat) (ln base : Nat) (xs : List Value) (k1 i1 : Int) (b1 : Bool) (s1 : ByteArray) (p1 q1 : Option Addr) (n1 c1 m1 e1 : Nat) (Q : Exit → Act → World → Prop) (hQ : ∀ d v c a w, Q (.panic c) (a.put d v) w → Q (.panic c) a w)
    (hi : (i : Int) < (ng : Int)) (hc : (c : Int) < (na : Int)) (hr : (c : Int) < (rn : Int)) (h0 : w.cell? ⟨sb, 1, none⟩ = some (.slice (some ⟨ob, 0, none⟩) ng oc)) (h1 : w.cell? ⟨ob, i, none⟩ = some (.pointer (some ⟨nb, 0, none⟩))) (h2 : w.cell? ⟨nb, 1, none⟩ = some (.slice (some ⟨cb, 0, none⟩) na na)) (h3 : w.cell? ⟨cb, c, none⟩ = some (.slice pv ln cv)) (g0 : w.cell? ⟨rb, ro + c * 6, none⟩ = some (.int .i64 k1)) (g1 : w.cell? ⟨rb, ro + c * 6 + 1, none⟩ = some (.bool b1)) (g2 : w.cell? ⟨rb, ro + c * 6 + 2, none⟩ = some (.int .i64 i1)) (g3 : w.cell? ⟨rb, ro + c * 6 + 3, none⟩ = some (.string s1)) (g4 : w.cell? ⟨rb, ro + c * 6 + 4, none⟩ = some (.slice p1 n1 c1)) (g5 : w.cell? ⟨rb, ro + c * 6 + 5, none⟩ = some (.slice q1 m1 e1))
    (hf : w.frozen? ⟨cb, c, none⟩ = false) (hown : w.ownsRow base 36 6 (.slice pv ln cv) ln xs) (hb : base ≤ w.heap.size) (hln : ln < 1000000000)
    (nsb : (Value.slice pv ln cv).ownBlock ≠ some sb) (nob : (Value.slice pv ln cv).ownBlock ≠ some ob) (nnb : (Value.slice pv ln cv).ownBlock ≠ some nb) (ncb : (Value.slice pv ln cv).ownBlock ≠ some cb) (nrb : (Value.slice pv ln cv).ownBlock ≠ some rb)
    (hK : ∀ (x74 x75 x76 x77 x78 x79 x80 x81 x82 x83 x84 x85 x86 x87 x88 x89 x90 x91 x92 x93 x94 x95 x96 x97 x98 x99 x100 x101 x102 x103 x104 x105 x106 x107 x108 x109 x110 x111 x112 x113 x114 x115 x116 x117 x118 x119 x120 x121 x122 x123 x124 x125 x126 x127 x128 : Value) (gg cap : Nat) (w3 : World), w3.ownsRow base 36 6 (.slice (some ⟨gg, 0, none⟩) (ln + 1) cap) (ln + 1) (xs ++ [.int .i64 0, .bool false, .int .i64 0, .string ⟨#[]⟩, .slice none 0 0, .slice none 0 0]) → (w.alloc (.cells #[.int .i64 0, .bool false, .int .i64 0, .string ⟨#[]⟩, .slice none 0 0, .slice none 0 0] 36)).drew.grownBy w3 (Value.slice pv ln cv).ownBlock → ((Value.slice pv ln cv).ownBlock = some gg ∨ gg = w.heap.size + 1) → Q .normal { tmps := #[t0, t1, t2, t3, t4, t5, t6, .pointer (some ⟨sb, 0, none⟩), t8, t9, .slice (some ⟨rb, ro, none⟩) rn rc, .int .i64 (i : Int), t12, .int .i64 (c : Int), t14, t15, t16, t17, t18, t19, t20, t21, t22, t23, t24, t25, t26, t27, t28, t29, t30, t31, t32, t33, t34, t35, t36, t37, t38, t39, t40, t41, t42, t43, t44, t45, t46, t47, t48, t49, t50, t51, t52, t53, t54, t55, t56, t57, t58, t59, t60, t61, t62, t63, t64, t65, t66, t67, t68, t69, t70, t71, t72, t73, x74, x75, x76, x77, x78, x79, x80, x81, x82, x83, x84, x85, x86, x87, x88, x89, x90, x91, x92, x93, x94, x95, x96, x97, x98, x99, x100, x101, x102, x103, x104, x105, x106, x107, x108, x109, x110, x111, x112, x113, x114, x115, x116, x117, x118, x119, x120, x121, x122, x123, x124, x125, x126, x127, x128, t129, t130, t131, t132, t133, t134, t135, t136, t137, t138, t139, t140, t141, t142, t143, t144, t145, t146, t147, t148, t149, t150, t151, t152, t153, t154, t155, t156, t157, t158, t159, t160, t161, t162, t163, t164, t165, t166, t167, t168, t169, t170, t171, t172, t173, t174, t175, t176, t177, t178, t179, t180, t181, t182, t183, t184], defers := [] } (((((((w3.setCell ⟨cb, c, none⟩ (.slice (some ⟨gg, 0, none⟩) (ln + 1) cap)).setCell ⟨gg, ln * 6, none⟩ (.int .i64 k1)).setCell ⟨gg, ln * 6 + 1, none⟩ (.bool b1)).setCell ⟨gg, ln * 6 + 2, none⟩ (.int .i64 i1)).setCell ⟨gg, ln * 6 + 3, none⟩ (.string s1)).setCell ⟨gg, ln * 6 + 4, none⟩ (.slice p1 n1 c1)).setCell ⟨gg, ln * 6 + 5, none⟩ (.slice q1 m1 e1))) :
    (pick [1,1,1,1,1,0,1,0,0,1,1,0,0,1,1,1,0,0,1,1,0,0,1,1,0,1,0] (bodyOf Tryz.f8.body)).wp Tryz.prog Q { tmps := #[t0, t1, t2, t3, t4, t5, t6, .pointer (some ⟨sb, 0, none⟩), t8, t9, .slice (some ⟨rb, ro, none⟩) rn rc, .int .i64 (i : Int), t12, .int .i64 (c : Int), t14, t15, t16, t17, t18, t19, t20, t21, t22, t23, t24, t25, t26, t27, t28, t29, t30, t31, t32, t33, t34, t35, t36, t37, t38, t39, t40, t41, t42, t43, t44, t45, t46, t47, t48, t49, t50, t51, t52, t53, t54, t55, t56, t57, t58, t59, t60, t61, t62, t63, t64, t65, t66, t67, t68, t69, t70, t71, t72, t73, t74, t75, t76, t77, t78, t79, t80, t81, t82, t83, t84, t85, t86, t87, t88, t89, t90, t91, t92, t93, t94, t95, t96, t97, t98, t99, t100, t101, t102, t103, t104, t105, t106, t107, t108, t109, t110, t111, t112, t113, t114, t115, t116, t117, t118, t119, t120, t121, t122, t123, t124, t125, t126, t127, t128, t129, t130, t131, t132, t133, t134, t135, t136, t137, t138, t139, t140, t141, t142, t143, t144, t145, t146, t147, t148, t149, t150, t151, t152, t153, t154, t155, t156, t157, t158, t159, t160, t161, t162, t163, t164, t165, t166, t167, t168, t169, t170, t171, t172, t173, t174, t175, t176, t177, t178, t179, t180, t181, t182, t183, t184], defers := [] } w := by
  simp only [pick, bodyOf, Tryz.f8]
  have hi0 : (0 : Int) ≤ (i : Int) := by omega
  have hc0 : (0 : Int) ≤ (c : Int) := by omega
  have hT : (fun w' => w'.cell? ⟨sb, 1, none⟩ = some (.slice (some ⟨ob, 0, none⟩) ng oc) ∧ w'.cell? ⟨ob, i, none⟩ = some (.pointer (some ⟨nb, 0, none⟩)) ∧ w'.cell? ⟨nb, 1, none⟩ = some (.slice (some ⟨cb, 0, none⟩) na na) ∧ w'.cell? ⟨cb, c, none⟩ = some (.slice pv ln cv) ∧ w'.cell? ⟨rb, ro + c * 6, none⟩ = some (.int .i64 k1) ∧ w'.cell? ⟨rb, ro + c * 6 + 1, none⟩ = some (.bool b1) ∧ w'.cell? ⟨rb, ro + c * 6 + 2, none⟩ = some (.int .i64 i1) ∧ w'.cell? ⟨rb, ro + c * 6 + 3, none⟩ = some (.string s1) ∧ w'.cell? ⟨rb, ro + c * 6 + 4, none⟩ = some (.slice p1 n1 c1) ∧ w'.cell? ⟨rb, ro + c * 6 + 5, none⟩ = some (.slice q1 m1 e1)) w.drew := ⟨h0, h1, h2, h3, g0, g1, g2, g3, g4, g5⟩
  refine wp_seq ?_
  refine wp_region_G (last := 21) (T := (fun w' => w'.cell? ⟨sb, 1, none⟩ = some (.slice (some ⟨ob, 0, none⟩) ng oc) ∧ w'.cell? ⟨ob, i, none⟩ = some (.pointer (some ⟨nb, 0, none⟩)) ∧ w'.cell? ⟨nb, 1, none⟩ = some (.slice (some ⟨cb, 0, none⟩) na na) ∧ w'.cell? ⟨cb, c, none⟩ = some (.slice pv ln cv) ∧ w'.cell? ⟨rb, ro + c * 6, none⟩ = some (.int .i64 k1) ∧ w'.cell? ⟨rb, ro + c * 6 + 1, none⟩ = some (.bool b1) ∧ w'.cell? ⟨rb, ro + c * 6 + 2, none⟩ = some (.int .i64 i1) ∧ w'.cell? ⟨rb, ro + c * 6 + 3, none⟩ = some (.string s1) ∧ w'.cell? ⟨rb, ro + c * 6 + 4, none⟩ = some (.slice p1 n1 c1) ∧ w'.cell? ⟨rb, ro + c * 6 + 5, none⟩ = some (.slice q1 m1 e1))) (by kernel_rfl) ?_
  refine wpAnyG_take (i := 0) (v := ?v0) rfl (by kernel_rfl) (by kernel_rfl) (by kernel_rfl) (by kernel_rfl) (hQ _ _) hT ?hy0 (by rfl) ?h0
  case hy0 => (intro w hw; clear hw; go_simp; with_reducible rfl)
  try simp only [Act.put, List.setIfInBounds_toArray, List.set]
  refine wpAnyG_take (i := 1) (v := ?v1) rfl (by kernel_rfl) (by kernel_rfl) (by kernel_rfl) (by kernel_rfl) (hQ _ _) hT ?hy1 (by rfl) ?h1
  case hy1 => (intro w hw; clear hw; go_simp; with_reducible rfl)
  try simp only [Act.put, List.setIfInBounds_toArray, List.set]
  refine wpAnyG_take (i := 2) (v := ?v2) rfl (by kernel_rfl) (by kernel_rfl) (by kernel_rfl) (by kernel_rfl) (hQ _ _) hT ?hy2 (by rfl) ?h2
  case hy2 => (intro w hw; clear hw; go_simp; with_reducible rfl)
  try simp only [Act.put, List.setIfInBounds_toArray, List.set]
  refine wpAnyG_take (i := 3) (v := ?v3) rfl (by kernel_rfl) (by kernel_rfl) (by kernel_rfl) (by kernel_rfl) (hQ _ _) hT ?hy3 (by rfl) ?h3
  case hy3 => (intro w hw; obtain ⟨e0, e1, e2, e3, e4, e5, e6, e7, e8, e9⟩ := hw; go_simp; with_reducible rfl)
  try simp only [Act.put, List.setIfInBounds_toArray, List.set]
  refine wpAnyG_take (i := 4) (v := ?v4) rfl (by kernel_rfl) (by kernel_rfl) (by kernel_rfl) (by kernel_rfl) (hQ _ _) hT ?hy4 (by rfl) ?h4
  case hy4 => (intro w hw; clear hw; go_simp; with_reducible rfl)
  try simp only [Act.put, List.setIfInBounds_toArray, List.set]
  refine wpAnyG_take (i := 5) (v := ?v5) rfl (by kernel_rfl) (by kernel_rfl) (by kernel_rfl) (by kernel_rfl) (hQ _ _) hT ?hy5 (by rfl) ?h5
  case hy5 => (intro w hw; clear hw; go_simp; with_reducible rfl)
  try simp only [Act.put, List.setIfInBounds_toArray, List.set]
  refine wpAnyG_take (i := 6) (v := ?v6) rfl (by kernel_rfl) (by kernel_rfl) (by kernel_rfl) (by kernel_rfl) (hQ _ _) hT ?hy6 (by rfl) ?h6
  case hy6 => (intro w hw; obtain ⟨e0, e1, e2, e3, e4, e5, e6, e7, e8, e9⟩ := hw; go_simp; with_reducible rfl)
  try simp only [Act.put, List.setIfInBounds_toArray, List.set]
  refine wpAnyG_take (i := 7) (v := ?v7) rfl (by kernel_rfl) (by kernel_rfl) (by kernel_rfl) (by kernel_rfl) (hQ _ _) hT ?hy7 (by rfl) ?h7
  case hy7 => (intro w hw; clear hw; go_simp; with_reducible rfl)
  try simp only [Act.put, List.setIfInBounds_toArray, List.set]
  refine wpAnyG_take (i := 8) (v := ?v8) rfl (by kernel_rfl) (by kernel_rfl) (by kernel_rfl) (by kernel_rfl) (hQ _ _) hT ?hy8 (by rfl) ?h8
  case hy8 => (intro w hw; clear hw; go_simp; with_reducible rfl)
  try simp only [Act.put, List.setIfInBounds_toArray, List.set]
  refine wpAnyG_take (i := 9) (v := ?v9) rfl (by kernel_rfl) (by kernel_rfl) (by kernel_rfl) (by kernel_rfl) (hQ _ _) hT ?hy9 (by rfl) ?h9
  case hy9 => (intro w hw; obtain ⟨e0, e1, e2, e3, e4, e5, e6, e7, e8, e9⟩ := hw; go_simp; with_reducible rfl)
  try simp only [Act.put, List.setIfInBounds_toArray, List.set]
  refine wpAnyG_take (i := 10) (v := ?v10) rfl (by kernel_rfl) (by kernel_rfl) (by kernel_rfl) (by kernel_rfl) (hQ _ _) hT ?hy10 (by rfl) ?h10
  case hy10 => (intro w hw; clear hw; go_simp; with_reducible rfl)
  try simp only [Act.put, List.setIfInBounds_toArray, List.set]
  refine wpAnyG_take (i := 11) (v := ?v11) rfl (by kernel_rfl) (by kernel_rfl) (by kernel_rfl) (by kernel_rfl) (hQ _ _) hT ?hy11 (by rfl) ?h11
  case hy11 => (intro w hw; clear hw; go_simp; with_reducible rfl)
  try simp only [Act.put, List.setIfInBounds_toArray, List.set]
  refine wpAnyG_take (i := 12) (v := ?v12) rfl (by kernel_rfl) (by kernel_rfl) (by kernel_rfl) (by kernel_rfl) (hQ _ _) hT ?hy12 (by rfl) ?h12
  case hy12 => (intro w hw; obtain ⟨e0, e1, e2, e3, e4, e5, e6, e7, e8, e9⟩ := hw; go_simp; with_reducible rfl)
  try simp only [Act.put, List.setIfInBounds_toArray, List.set]
  refine wpAnyG_take (i := 13) (v := ?v13) rfl (by kernel_rfl) (by kernel_rfl) (by kernel_rfl) (by kernel_rfl) (hQ _ _) hT ?hy13 (by rfl) ?h13
  case hy13 => (intro w hw; clear hw; go_simp; with_reducible rfl)
  try simp only [Act.put, List.setIfInBounds_toArray, List.set]
  refine wpAnyG_take (i := 14) (v := ?v14) rfl (by kernel_rfl) (by kernel_rfl) (by kernel_rfl) (by kernel_rfl) (hQ _ _) hT ?hy14 (by rfl) ?h14
  case hy14 => (intro w hw; clear hw; go_simp; with_reducible rfl)
  try simp only [Act.put, List.setIfInBounds_toArray, List.set]
  refine wpAnyG_take (i := 15) (v := ?v15) rfl (by kernel_rfl) (by kernel_rfl) (by kernel_rfl) (by kernel_rfl) (hQ _ _) hT ?hy15 (by rfl) ?h15
  case hy15 => (intro w hw; clear hw; go_simp; with_reducible rfl)
  try simp only [Act.put, List.setIfInBounds_toArray, List.set]
  refine wpAnyG_take (i := 16) (v := ?v16) rfl (by kernel_rfl) (by kernel_rfl) (by kernel_rfl) (by kernel_rfl) (hQ _ _) hT ?hy16 (by rfl) ?h16
  case hy16 => (intro w hw; obtain ⟨e0, e1, e2, e3, e4, e5, e6, e7, e8, e9⟩ := hw; go_simp; with_reducible rfl)
  try simp only [Act.put, List.setIfInBounds_toArray, List.set]
  refine wpAnyG_take (i := 17) (v := ?v17) rfl (by kernel_rfl) (by kernel_rfl) (by kernel_rfl) (by kernel_rfl) (hQ _ _) hT ?hy17 (by rfl) ?h17
  case hy17 => (intro w hw; clear hw; go_simp; with_reducible rfl)
  try simp only [Act.put, List.setIfInBounds_toArray, List.set]
  have hfar : ∀ b o v, w.cell? ⟨b, o, none⟩ = some v → (w.alloc (.cells #[.int .i64 0, .bool false, .int .i64 0, .string ⟨#[]⟩, .slice none 0 0, .slice none 0 0] 36)).drew.cell? ⟨b, o, none⟩ = some v := fun b o v hv => (World.cell?_alloc_some w ⟨b, o, none⟩ _ (by rw [hv]; rfl)).trans hv
  have hnew := alloc_at w (.cells #[.int .i64 0, .bool false, .int .i64 0, .string ⟨#[]⟩, .slice none 0 0, .slice none 0 0] 36) _ rfl
  refine wpAnyG_one (i := 18) rfl (by kernel_rfl) rfl fun K hk => ?_
  go_simp
  refine hk _ _ (fun _ => ⟨hfar _ _ _ h0, hfar _ _ _ h1, hfar _ _ _ h2, hfar _ _ _ h3, hfar _ _ _ g0, hfar _ _ _ g1, hfar _ _ _ g2, hfar _ _ _ g3, hfar _ _ _ g4, hfar _ _ _ g5⟩) ?_
  clear hk K
  try simp only [Act.put, List.setIfInBounds_toArray, List.set]
  refine wpAnyG_one (i := 19) rfl (by kernel_rfl) rfl fun K hk => ?_
  obtain ⟨i0, hi36, hz0, hz1, hz2⟩ := info36
  refine wp_append_lies _ _ _ _ rfl base 36 i0 _ 6 88 Tryz.underlying34 hi36 hz0 hz1 hz2 rfl (by omega) (.slice pv ln cv) ln xs rfl (hown.alloc _) ⟨w.heap.size, 0, none⟩ 1 1 [.int .i64 0, .bool false, .int .i64 0, .string ⟨#[]⟩, .slice none 0 0, .slice none 0 0] rfl rfl (World.news_of_block (cs := #[.int .i64 0, .bool false, .int .i64 0, .string ⟨#[]⟩, .slice none 0 0, .slice none 0 0]) (t := 36) (fr := (0, 0)) (by exact hnew)) (by simp [Value.oneCell']) (by omega) (by unfold maxLen; omega) (by omega) (by simp [World.drew]; omega) (w.heap.size + 1) (by simp [World.drew]) ?_
  intro gg cap w3 hown3 hgrow hat hlt
  have hlt0 : ∀ b o v, w.cell? ⟨b, o, none⟩ = some v → b < w.heap.size := fun b o v hv => cell_lt hv
  have hgr : ∀ b, b < w.heap.size → (Value.slice pv ln cv).ownBlock ≠ some b → w3.heap[b]? = w.heap[b]? := fun b hb hn => (hgrow.block b (by simp [World.drew]; omega) fun e => hn e.symm).trans (heap_alloc_old w _ hb)
  have hfar3 : ∀ b o v, w.cell? ⟨b, o, none⟩ = some v → (Value.slice pv ln cv).ownBlock ≠ some b → w3.cell? ⟨b, o, none⟩ = some v := fun b o v hv hn => (World.cell?_of_block (w := w) (a := ⟨b, o, none⟩) (hgr b (hlt0 b o v hv) hn)).trans hv
  have hT3 : (fun w' => w'.cell? ⟨sb, 1, none⟩ = some (.slice (some ⟨ob, 0, none⟩) ng oc) ∧ w'.cell? ⟨ob, i, none⟩ = some (.pointer (some ⟨nb, 0, none⟩)) ∧ w'.cell? ⟨nb, 1, none⟩ = some (.slice (some ⟨cb, 0, none⟩) na na) ∧ w'.cell? ⟨cb, c, none⟩ = some (.slice pv ln cv) ∧ w'.cell? ⟨rb, ro + c * 6, none⟩ = some (.int .i64 k1) ∧ w'.cell? ⟨rb, ro + c * 6 + 1, none⟩ = some (.bool b1) ∧ w'.cell? ⟨rb, ro + c * 6 + 2, none⟩ = some (.int .i64 i1) ∧ w'.cell? ⟨rb, ro + c * 6 + 3, none⟩ = some (.string s1) ∧ w'.cell? ⟨rb, ro + c * 6 + 4, none⟩ = some (.slice p1 n1 c1) ∧ w'.cell? ⟨rb, ro + c * 6 + 5, none⟩ = some (.slice q1 m1 e1)) w3 := ⟨hfar3 _ _ _ h0 nsb, hfar3 _ _ _ h1 nob, hfar3 _ _ _ h2 nnb, hfar3 _ _ _ h3 ncb, hfar3 _ _ _ g0 nrb, hfar3 _ _ _ g1 nrb, hfar3 _ _ _ g2 nrb, hfar3 _ _ _ g3 nrb, hfar3 _ _ _ g4 nrb, hfar3 _ _ _ g5 nrb⟩
  have s3 := hfar3 _ _ _ h3 ncb
  have f3 : w3.frozen? ⟨cb, c, none⟩ = false := (World.frozen?_of_block (w := w) (a := ⟨cb, c, none⟩) (hgr cb (hlt0 _ _ _ h3) ncb)).trans hf
  refine hk _ _ (fun _ => hT3) ?_
  clear hk K
  try simp only [Act.put, List.setIfInBounds_toArray, List.set]
  refine wpAnyG_take (i := 20) (v := ?v20) rfl (by kernel_rfl) (by kernel_rfl) (by kernel_rfl) (by kernel_rfl) (hQ _ _) hT3 ?hy20 (by rfl) ?h20
  case hy20 => (intro w hw; clear hw; go_simp; with_reducible rfl)
  try simp only [Act.put, List.setIfInBounds_toArray, List.set]
  refine wpAnyG_one (i := 21) rfl (by kernel_rfl) rfl fun K hk => ?_
  go_simp
  refine hk _ _ (fun h => absurd rfl h) ?_
  clear hk K
  refine wpAnyG_done (by kernel_rfl) ?_ _
  have hgc : gg ≠ cb := fun e => by
    rcases hat with h1 | h1
    · exact ncb (by rw [h1, e])
    · have := hlt0 _ _ _ h3; omega
  have own4 : (w3.setCell ⟨cb, c, none⟩ (.slice (some ⟨gg, 0, none⟩) (ln + 1) cap)).ownsRow base 36 6 (.slice (some ⟨gg, 0, none⟩) (ln + 1) cap) (ln + 1) _ := own_move hown3 fun b hb => Below.heap_setCell _ _ _ _ (fun e => by cases hb; exact hgc e)
  have hxl : xs.length = ln * 6 := hown.1
  have zc : ∀ j u, [.int .i64 0, .bool false, .int .i64 0, .string ⟨#[]⟩, .slice none 0 0, .slice none 0 0][j]? = some u → (w3.setCell ⟨cb, c, none⟩ (.slice (some ⟨gg, 0, none⟩) (ln + 1) cap)).cell? ⟨gg, ln * 6 + j, none⟩ = some u := fun j u hj => by
    have := own4.cells (g := gg) rfl (ln * 6 + j) u (by rw [List.getElem?_append_right (by omega), hxl, Nat.add_sub_cancel_left]; exact hj)
    rwa [Addr.add_lit, Nat.zero_add] at this
  have zf : ∀ o, (w3.setCell ⟨cb, c, none⟩ (.slice (some ⟨gg, 0, none⟩) (ln + 1) cap)).frozen? ⟨gg, o, none⟩ = false := fun o => by
    rcases own4.2 with ⟨h, _⟩ | ⟨g, cap', cur, h, _, hg, _⟩
    · cases h
    · cases h
      simp [World.frozen?, hg]
  have z0 : (w3.setCell ⟨cb, c, none⟩ (.slice (some ⟨gg, 0, none⟩) (ln + 1) cap)).cell? ⟨gg, ln * 6, none⟩ = some (.int .i64 0) := zc 0 _ rfl
  have z1 := zc 1 _ rfl
  have z2 := zc 2 _ rfl
  have z3 := zc 3 _ rfl
  have z4 := zc 4 _ rfl
  have z5 := zc 5 _ rfl
  have y0 := zf (ln * 6)
  have y1 := zf (ln * 6 + 1)
  have y2 := zf (ln * 6 + 2)
  have y3 := zf (ln * 6 + 3)
  have y4 := zf (ln * 6 + 4)
  have y5 := zf (ln * 6 + 5)
  clear zf zc
  have hKK := fun (x74 x75 x76 x77 x78 x79 x80 x81 x82 x83 x84 x85 x86 x87 x88 x89 x90 x91 x92 x93 x94 x95 x96 x97 x98 x99 x100 x101 x102 x103 x104 x105 x106 x107 x108 x109 x110 x111 x112 x113 x114 x115 x116 x117 x118 x119 x120 x121 x122 x123 x124 x125 x126 x127 x128 : Value) => hK x74 x75 x76 x77 x78 x79 x80 x81 x82 x83 x84 x85 x86 x87 x88 x89 x90 x91 x92 x93 x94 x95 x96 x97 x98 x99 x100 x101 x102 x103 x104 x105 x106 x107 x108 x109 x110 x111 x112 x113 x114 x115 x116 x117 x118 x119 x120 x121 x122 x123 x124 x125 x126 x127 x128 gg cap w3 hown3 hgrow hat
  clear hK
  generalize hw4 : (w3.setCell ⟨cb, c, none⟩ (.slice (some ⟨gg, 0, none⟩) (ln + 1) cap)) = w4 at *
  have l0 : (0 : Int) ≤ (ln : Int) := by omega
  have l1 : (ln : Int) < ((ln + 1 : Nat) : Int) := by omega
  have l2 : (ln : Int) < (ln : Int) + 1 := by omega
  go_wp2
  exact hKK _ _ _ _ _ _ _ _ _ _ _ _ _ _ _ _ _ _ _ _ _ _ _ _ _ _ _ _ _ _ _ _ _ _ _ _ _ _ _ _ _ _ _ _ _ _ _ _ _ _ _ _ _ _ _
end W
end
section
open Go Go.Proofs Ax Go.RowKit
namespace W
set_option maxHeartbeats 4000000 in
set_option maxRecDepth 100000 in
theorem grow_reg (t0 t1 t2 t3 t4 t5 t6 t8 t9 t12 t14 t15 t16 t17 t18 t19 t20 t21 t22 t23 t24 t25 t26 t27 t28 t29 t30 t31 t32 t33 t34 t35 t36 t37 t38 t39 t40 t41 t42 t43 t44 t45 t46 t47 t48 t49 t50 t51 t52 t53 t54 t55 t56 t57 t58 t59 t60 t61 t62 t63 t64 t65 t66 t67 t68 t69 t70 t71 t72 t73 t74 t75 t76 t77 t78 t79 t80 t81 t82 t83 t84 t85 t86 t87 t88 t89 t90 t91 t92 t93 t94 t95 t96 t97 t98 t99 t100 t101 t102 t103 t104 t105 t106 t107 t108 t109 t110 t111 t112 t113 t114 t115 t116 t117 t118 t119 t120 t121 t122 t123 t124 t125 t126 t127 t128 t129 t130 t131 t132 t133 t134 t135 t136 t137 t138 t139 t140 t141 t142 t143 t144 t145 t146 t147 t148 t149 t150 t151 t152 t153 t154 t155 t156 t157 t158 t159 t160 t161 t162 t163 t164 t165 t166 t167 t168 t169 t170 t171 t172 t173 t174 t175 t176 t177 t178 t179 t180 t181 t182 t183 t184 : Value) {L : Nat} {H : PH L} {w : World} {na : Nat} {G : List Grp} {sb mb : Nat} {vo : Value} {gb cb : Nat → Nat} {vf : Nat → Value} {vv : Nat → Nat → Value} {lab : Nat → Option Tag} (h : GSt Tryz.prog TG H w na G sb mb vo gb cb vf vv lab)
    {i c : Nat} {g : Grp} {cl : List Val} (hg : G[i]? = some g) (hcl : g.cols[c]? = some cl) (hln : cl.length < 1000000000) {x : Val} {rb ro rn rc : Nat} (hr : (c : Int) < (rn : Int)) {us : List Value} (hx : RepL H (valC.cells x) us) (hus : ∀ j u, us[j]? = some u → H rb (ro + c * 6 + j) = some u)
    (Q : Exit → Act → World → Prop) (hQ : ∀ d v c a w, Q (.panic c) (a.put d v) w → Q (.panic c) a w)
    (hK : ∀ (x74 x75 x76 x77 x78 x79 x80 x81 x82 x83 x84 x85 x86 x87 x88 x89 x90 x91 x92 x93 x94 x95 x96 x97 x98 x99 x100 x101 x102 x103 x104 x105 x106 x107 x108 x109 x110 x111 x112 x113 x114 x115 x116 x117 x118 x119 x120 x121 x122 x123 x124 x125 x126 x127 x128 : Value) (w' : World), (∃ vv' lab', GSt Tryz.prog TG H w' na (G.set i { g with cols := g.cols.set c (cl ++ [x]) }) sb mb vo gb cb vf vv' lab') → Kept L w w' → Q .normal { tmps := #[t0, t1, t2, t3, t4, t5, t6, .pointer (some ⟨sb, 0, none⟩), t8, t9, .slice (some ⟨rb, ro, none⟩) rn rc, .int .i64 (i : Int), t12, .int .i64 (c : Int), t14, t15, t16, t17, t18, t19, t20, t21, t22, t23, t24, t25, t26, t27, t28, t29, t30, t31, t32, t33, t34, t35, t36, t37, t38, t39, t40, t41, t42, t43, t44, t45, t46, t47, t48, t49, t50, t51, t52, t53, t54, t55, t56, t57, t58, t59, t60, t61, t62, t63, t64, t65, t66, t67, t68, t69, t70, t71, t72, t73, x74, x75, x76, x77, x78, x79, x80, x81, x82, x83, x84, x85, x86, x87, x88, x89, x90, x91, x92, x93, x94, x95, x96, x97, x98, x99, x100, x101, x102, x103, x104, x105, x106, x107, x108, x109, x110, x111, x112, x113, x114, x115, x116, x117, x118, x119, x120, x121, x122, x123, x124, x125, x126, x127, x128, t129, t130, t131, t132, t133, t134, t135, t136, t137, t138, t139, t140, t141, t142, t143, t144, t145, t146, t147, t148, t149, t150, t151, t152, t153, t154, t155, t156, t157, t158, t159, t160, t161, t162, t163, t164, t165, t166, t167, t168, t169, t170, t171, t172, t173, t174, t175, t176, t177, t178, t179, t180, t181, t182, t183, t184], defers := [] } w') {K : Act → World → Prop}
    (hk0 : ∀ a w, (Code.cond (.tmp 75) (pick [1,1,1,1,1,0,1,0,0,1,1,0,0,1,1,1,0,0,1,1,0,0,1,1,0,1,0] (bodyOf Tryz.f8.body)) (pick [1,1,1,1,1,0,1,0,0,1,1,0,0,1,1,1,0,0,1,1,0,0,1,1,0,1,1] (bodyOf Tryz.f8.body))).wp Tryz.prog Q a w → K a w) : (pick [1,1,1,1,1,0,1,0,0,1,1,0,0,1,1,1,0,0,1,1,0,0,1,1,0,0] (bodyOf Tryz.f8.body)).wp Tryz.prog (Exit.then K Q) { tmps := #[t0, t1, t2, t3, t4, t5, t6, .pointer (some ⟨sb, 0, none⟩), t8, t9, .slice (some ⟨rb, ro, none⟩) rn rc, .int .i64 (i : Int), t12, .int .i64 (c : Int), t14, t15, t16, t17, t18, t19, t20, t21, t22, t23, t24, t25, t26, t27, t28, t29, t30, t31, t32, t33, t34, t35, t36, t37, t38, t39, t40, t41, t42, t43, t44, t45, t46, t47, t48, t49, t50, t51, t52, t53, t54, t55, t56, t57, t58, t59, t60, t61, t62, t63, t64, t65, t66, t67, t68, t69, t70, t71, t72, t73, t74, t75, t76, t77, t78, t79, t80, t81, t82, t83, t84, t85, t86, t87, t88, t89, t90, t91, t92, t93, t94, t95, t96, t97, t98, t99, t100, t101, t102, t103, t104, t105, t106, t107, t108, t109, t110, t111, t112, t113, t114, t115, t116, t117, t118, t119, t120, t121, t122, t123, t124, t125, t126, t127, t128, t129, t130, t131, t132, t133, t134, t135, t136, t137, t138, t139, t140, t141, t142, t143, t144, t145, t146, t147, t148, t149, t150, t151, t152, t153, t154, t155, t156, t157, t158, t159, t160, t161, t162, t163, t164, t165, t166, t167, t168, t169, t170, t171, t172, t173, t174, t175, t176, t177, t178, t179, t180, t181, t182, t183, t184], defers := [] } w := by
  have hi : i < G.length := (List.getElem?_eq_some_iff.1 hg).1
  have hcn : c < na := by rw [← h.wid i g hg]; exact (List.getElem?_eq_some_iff.1 hcl).1
  obtain ⟨k1, i1, b1, s1, p1, q1, n1, c1, m1, e1, rfl⟩ := val_form hx
  obtain ⟨xs, own, rows⟩ := h.col i g c cl hg hcl
  have hcoll := h.coll i c
  obtain ⟨pv, cv, hv⟩ : ∃ pv cv, vv i c = .slice pv cl.length cv := by
    rcases own.2 with ⟨e, e2⟩ | ⟨g', cap, cur, e, _⟩
    · exact ⟨none, 0, by rw [e, e2]⟩
    · exact ⟨_, _, e⟩
  obtain ⟨ob, oc, rfl⟩ : ∃ ob oc, vo = .slice (some ⟨ob, 0, none⟩) G.length oc := by
    rcases h.ord.2 with ⟨_, e2⟩ | ⟨g', cap, cur, e, _⟩
    · omega
    · exact ⟨_, _, e⟩
  have hord := h.ord
  have h0 := cell_blk h.sbox 1 rfl
  have h1 : w.cell? ⟨ob, i, none⟩ = some (.pointer (some ⟨gb i, 0, none⟩)) := by
    have := hord.cells (g := ob) rfl i (.pointer (some ⟨gb i, 0, none⟩)) (by rw [List.getElem?_map, List.getElem?_range hi]; rfl)
    rwa [Addr.add_lit, Nat.zero_add] at this
  have h2 := cell_blk (h.grp i hi).1 1 rfl
  have harr := (h.arr i hi).1
  have h3 : w.cell? ⟨cb i, c, none⟩ = some (.slice pv cl.length cv) := cell_blk harr c (by
    rw [List.getElem?_toArray, List.getElem?_map, List.getElem?_range hcn]
    exact congrArg some hv)
  have hf : w.frozen? ⟨cb i, c, none⟩ = false := by simp [World.frozen?, harr]
  have gc : ∀ j u, [Value.int .i64 k1, .bool b1, .int .i64 i1, .string s1, .slice p1 n1 c1, .slice q1 m1 e1][j]? = some u → w.cell? ⟨rb, ro + c * 6 + j, none⟩ = some u := fun j u hj => (h.sat.cell _ _ _ (hus j u hj)).1
  have g0 : w.cell? ⟨rb, ro + c * 6, none⟩ = some (.int .i64 k1) := gc 0 _ rfl
  have g1 := gc 1 _ rfl
  have g2 := gc 2 _ rfl
  have g3 := gc 3 _ rfl
  have g4 := gc 4 _ rfl
  have g5 := gc 5 _ rfl
  have ne : ∀ b t, lab b = some t → t ≠ .col i c → (Value.slice pv cl.length cv).ownBlock ≠ some b := fun b t hb ht e => by
    have := hcoll b hi hcn (by rw [hv]; exact e)
    rw [hb] at this
    exact ht (Option.some.inj this)
  have nsb := ne _ _ h.sl (by simp)
  have nob := ne _ _ (h.ol ob rfl) (by simp)
  have nnb := ne _ _ (h.grp i hi).2 (by simp)
  have ncb := ne _ _ (h.arr i hi).2 (by simp)
  have nrb : (Value.slice pv cl.length cv).ownBlock ≠ some rb := fun e => (h.fresh _ _ (hcoll rb hi hcn (by rw [hv]; exact e))).2.2 _ _ (hus 0 _ rfl)
  rw [hv] at own
  have hii : (i : Int) < (G.length : Int) := by omega
  have hcc : (c : Int) < (na : Int) := by omega
  have tA : ∀ (bb : Bool) (b o : Nat) (v : Value), w.cell? ⟨b, o, none⟩ = some v → (w.alloc (.cells #[.bool bb] 4)).drew.cell? ⟨b, o, none⟩ = some v := fun bb b o v hv => (World.cell?_alloc_some w ⟨b, o, none⟩ _ (by rw [hv]; rfl)).trans hv
  have kA : ∀ bb : Bool, Below w.heap.size w (w.alloc (.cells #[.bool bb] 4)).drew := fun bb => ⟨rfl, rfl, rfl, by simp [World.drew], fun b hb => heap_alloc_old w _ hb⟩
  have fA : ∀ bb : Bool, (w.alloc (.cells #[.bool bb] 4)).drew.frozen? ⟨cb i, c, none⟩ = false := fun bb => (World.frozen?_of_block (w := w) (a := ⟨cb i, c, none⟩) (heap_alloc_old w _ (cell_lt h3))).trans hf
  have oA : ∀ bb : Bool, (w.alloc (.cells #[.bool bb] 4)).drew.ownsRow L 36 6 (.slice pv cl.length cv) cl.length xs := fun bb => own.alloc _
  have bA : ∀ bb : Bool, L ≤ (w.alloc (.cells #[.bool bb] 4)).drew.heap.size := fun bb => Nat.le_trans h.sat.low (kA bb).size
  have kB : ∀ (bb : Bool) (o : Obj), Below w.heap.size w ((w.alloc (.cells #[.bool bb] 4)).drew.alloc o).drew := fun bb o => ⟨rfl, rfl, rfl, by simp [World.drew]; omega, fun b hb => (heap_alloc_old _ _ (by simp [World.drew]; omega)).trans (heap_alloc_old w _ hb)⟩
  have zB : ∀ (bb : Bool) (o : Obj), ((w.alloc (.cells #[.bool bb] 4)).drew.alloc o).drew.heap.size = (w.alloc (.cells #[.bool bb] 4)).drew.heap.size + 1 := fun bb o => by simp [World.drew]
  have key17 := fun (t0 t1 t2 t3 t4 t5 t6 t8 t9 t12 t14 t15 t16 t17 t18 t19 t20 t21 t22 t23 t24 t25 t26 t27 t28 t29 t30 t31 t32 t33 t34 t35 t36 t37 t38 t39 t40 t41 t42 t43 t44 t45 t46 t47 t48 t49 t50 t51 t52 t53 t54 t55 t56 t57 t58 t59 t60 t61 t62 t63 t64 t65 t66 t67 t68 t69 t70 t71 t72 t73 t74 t75 t76 t77 t78 t79 t80 t81 t82 t83 t84 t85 t86 t87 t88 t89 t90 t91 t92 t93 t94 t95 t96 t97 t98 t99 t100 t101 t102 t103 t104 t105 t106 t107 t108 t109 t110 t111 t112 t113 t114 t115 t116 t117 t118 t119 t120 t121 t122 t123 t124 t125 t126 t127 t128 t129 t130 t131 t132 t133 t134 t135 t136 t137 t138 t139 t140 t141 t142 t143 t144 t145 t146 t147 t148 t149 t150 t151 t152 t153 t154 t155 t156 t157 t158 t159 t160 t161 t162 t163 t164 t165 t166 t167 t168 t169 t170 t171 t172 t173 t174 t175 t176 t177 t178 t179 t180 t181 t182 t183 t184 : Value) => reg17 t0 t1 t2 t3 t4 t5 t6 t8 t9 t12 t14 t15 t16 t17 t18 t19 t20 t21 t22 t23 t24 t25 t26 t27 t28 t29 t30 t31 t32 t33 t34 t35 t36 t37 t38 t39 t40 t41 t42 t43 t44 t45 t46 t47 t48 t49 t50 t51 t52 t53 t54 t55 t56 t57 t58 t59 t60 t61 t62 t63 t64 t65 t66 t67 t68 t69 t70 t71 t72 t73 t74 t75 t76 t77 t78 t79 t80 t81 t82 t83 t84 t85 t86 t87 t88 t89 t90 t91 t92 t93 t94 t95 t96 t97 t98 t99 t100 t101 t102 t103 t104 t105 t106 t107 t108 t109 t110 t111 t112 t113 t114 t115 t116 t117 t118 t119 t120 t121 t122 t123 t124 t125 t126 t127 t128 t129 t130 t131 t132 t133 t134 t135 t136 t137 t138 t139 t140 t141 t142 t143 t144 t145 t146 t147 t148 t149 t150 t151 t152 t153 t154 t155 t156 t157 t158 t159 t160 t161 t162 t163 t164 t165 t166 t167 t168 t169 t170 t171 t172 t173 t174 t175 t176 t177 t178 t179 t180 t181 t182 t183 t184 (w.alloc (.cells #[.bool false] 4)).drew sb i c ob (gb i) (cb i) G.length oc na rb ro rn rc pv cv cl.length L xs k1 i1 b1 s1 p1 q1 n1 c1 m1 e1 Q hQ hii hcc hr (tA _ _ _ _ h0) (tA _ _ _ _ h1) (tA _ _ _ _ h2) (tA _ _ _ _ h3) (tA _ _ _ _ g0) (tA _ _ _ _ g1) (tA _ _ _ _ g2) (tA _ _ _ _ g3) (tA _ _ _ _ g4) (tA _ _ _ _ g5) (fA _) (oA _) (bA _) hln nsb nob nnb ncb nrb
  have key15 := fun (t0 t1 t2 t3 t4 t5 t6 t8 t9 t12 t14 t15 t16 t17 t18 t19 t20 t21 t22 t23 t24 t25 t26 t27 t28 t29 t30 t31 t32 t33 t34 t35 t36 t37 t38 t39 t40 t41 t42 t43 t44 t45 t46 t47 t48 t49 t50 t51 t52 t53 t54 t55 t56 t57 t58 t59 t60 t61 t62 t63 t64 t65 t66 t67 t68 t69 t70 t71 t72 t73 t74 t75 t76 t77 t78 t79 t80 t81 t82 t83 t84 t85 t86 t87 t88 t89 t90 t91 t92 t93 t94 t95 t96 t97 t98 t99 t100 t101 t102 t103 t104 t105 t106 t107 t108 t109 t110 t111 t112 t113 t114 t115 t116 t117 t118 t119 t120 t121 t122 t123 t124 t125 t126 t127 t128 t129 t130 t131 t132 t133 t134 t135 t136 t137 t138 t139 t140 t141 t142 t143 t144 t145 t146 t147 t148 t149 t150 t151 t152 t153 t154 t155 t156 t157 t158 t159 t160 t161 t162 t163 t164 t165 t166 t167 t168 t169 t170 t171 t172 t173 t174 t175 t176 t177 t178 t179 t180 t181 t182 t183 t184 : Value) => reg15 t0 t1 t2 t3 t4 t5 t6 t8 t9 t12 t14 t15 t16 t17 t18 t19 t20 t21 t22 t23 t24 t25 t26 t27 t28 t29 t30 t31 t32 t33 t34 t35 t36 t37 t38 t39 t40 t41 t42 t43 t44 t45 t46 t47 t48 t49 t50 t51 t52 t53 t54 t55 t56 t57 t58 t59 t60 t61 t62 t63 t64 t65 t66 t67 t68 t69 t70 t71 t72 t73 t74 t75 t76 t77 t78 t79 t80 t81 t82 t83 t84 t85 t86 t87 t88 t89 t90 t91 t92 t93 t94 t95 t96 t97 t98 t99 t100 t101 t102 t103 t104 t105 t106 t107 t108 t109 t110 t111 t112 t113 t114 t115 t116 t117 t118 t119 t120 t121 t122 t123 t124 t125 t126 t127 t128 t129 t130 t131 t132 t133 t134 t135 t136 t137 t138 t139 t140 t141 t142 t143 t144 t145 t146 t147 t148 t149 t150 t151 t152 t153 t154 t155 t156 t157 t158 t159 t160 t161 t162 t163 t164 t165 t166 t167 t168 t169 t170 t171 t172 t173 t174 t175 t176 t177 t178 t179 t180 t181 t182 t183 t184 (w.alloc (.cells #[.bool true] 4)).drew sb i c ob (gb i) (cb i) G.length oc na rb ro rn rc pv cv cl.length L xs k1 i1 b1 s1 p1 q1 n1 c1 m1 e1 Q hQ hii hcc hr (tA _ _ _ _ h0) (tA _ _ _ _ h1) (tA _ _ _ _ h2) (tA _ _ _ _ h3) (tA _ _ _ _ g0) (tA _ _ _ _ g1) (tA _ _ _ _ g2) (tA _ _ _ _ g3) (tA _ _ _ _ g4) (tA _ _ _ _ g5) (fA _) (oA _) (bA _) hln nsb nob nnb ncb nrb
  generalize pick [1,1,1,1,1,0,1,0,0,1,1,0,0,1,1,1,0,0,1,1,0,0,1,1,0,1,0] (bodyOf Tryz.f8.body) = A at key15 hk0
  generalize pick [1,1,1,1,1,0,1,0,0,1,1,0,0,1,1,1,0,0,1,1,0,0,1,1,0,1,1] (bodyOf Tryz.f8.body) = B at key17 hk0
  simp only [pick, bodyOf, Tryz.f8]
  clear gc tA fA oA bA
  refine wp_mono (Q := Exit.then ((Code.cond (.tmp 75) A B).wp Tryz.prog Q) Q) ?_ (fun e a w h => by cases e <;> first | exact hk0 _ _ h | exact h)
  go_region
  · go_wp2_with fail
    refine key17 _ _ _ _ _ _ _ _ _ _ _ _ _ _ _ _ _ _ _ _ _ _ _ _ _ _ _ _ _ _ _ _ _ _ _ _ _ _ _ _ _ _ _ _ _ _ _ _ _ _ _ _ _ _ _ _ _ _ _ _ _ _ _ _ _ _ _ _ _ _ _ _ _ _ _ _ _ _ _ _ _ _ _ _ _ _ _ _ _ _ _ _ _ _ _ _ _ _ _ _ _ _ _ _ _ _ _ _ _ _ _ _ _ _ _ _ _ _ _ _ _ _ _ _ _ _ _ _ _ _ _ _ _ _ _ _ _ _ _ _ _ _ _ _ _ _ _ _ _ _ _ _ _ _ _ _ _ _ _ _ _ _ _ _ _ _ _ _ _ _ _ _ _ _ _ _ _ _ _ _ _ ?_
    intro x74 x75 x76 x77 x78 x79 x80 x81 x82 x83 x84 x85 x86 x87 x88 x89 x90 x91 x92 x93 x94 x95 x96 x97 x98 x99 x100 x101 x102 x103 x104 x105 x106 x107 x108 x109 x110 x111 x112 x113 x114 x115 x116 x117 x118 x119 x120 x121 x122 x123 x124 x125 x126 x127 x128 gg cap w3 hown3 hgrow hat
    have hE := grow_end h (kB false (.cells #[.int .i64 k1, .bool b1, .int .i64 i1, .string s1, .slice p1 n1 c1, .slice q1 m1 e1] 36)) hg hcl hx (xs := xs) ⟨by rw [hv]; exact own.alloc _ |>.alloc _, rows⟩ hown3 (by rw [hv]; exact hgrow) (by rw [hv, zB]; exact hat.imp (fun e => e.symm) fun e => by rw [e]; rfl)
    exact hK x74 x75 x76 x77 x78 x79 x80 x81 x82 x83 x84 x85 x86 x87 x88 x89 x90 x91 x92 x93 x94 x95 x96 x97 x98 x99 x100 x101 x102 x103 x104 x105 x106 x107 x108 x109 x110 x111 x112 x113 x114 x115 x116 x117 x118 x119 x120 x121 x122 x123 x124 x125 x126 x127 x128 _ hE.1 hE.2
  · go_wp2_with fail
    refine key15 _ _ _ _ _ _ _ _ _ _ _ _ _ _ _ _ _ _ _ _ _ _ _ _ _ _ _ _ _ _ _ _ _ _ _ _ _ _ _ _ _ _ _ _ _ _ _ _ _ _ _ _ _ _ _ _ _ _ _ _ _ _ _ _ _ _ _ _ _ _ _ _ _ _ _ _ _ _ _ _ _ _ _ _ _ _ _ _ _ _ _ _ _ _ _ _ _ _ _ _ _ _ _ _ _ _ _ _ _ _ _ _ _ _ _ _ _ _ _ _ _ _ _ _ _ _ _ _ _ _ _ _ _ _ _ _ _ _ _ _ _ _ _ _ _ _ _ _ _ _ _ _ _ _ _ _ _ _ _ _ _ _ _ _ _ _ _ _ _ _ _ _ _ _ _ _ _ _ _ _ _ ?_
    intro x74 x75 x76 x77 x78 x79 x80 x81 x82 x83 x84 x85 x86 x87 x88 x89 x90 x91 x92 x93 x94 x95 x96 x97 x98 x99 x100 x101 x102 x103 x104 x105 x106 x107 x108 x109 x110 x111 x112 x113 x114 x115 x116 x117 x118 x119 x120 x121 x122 x123 x124 x125 x126 x127 x128 gg cap w3 hown3 hgrow hat
    have hgc : gg ≠ cb i := fun e => by
      rcases hat with h4 | h4
      · exact ncb (by rw [h4, e])
      · have := cell_lt h3; simp [World.drew] at h4; omega
    have hE := grow_end2 h (kB true (.cells #[.int .i64 0, .bool false, .int .i64 0, .string ⟨#[]⟩, .slice none 0 0, .slice none 0 0] 36)) hg hcl hx (xs := xs) ⟨by rw [hv]; exact own.alloc _ |>.alloc _, rows⟩ rfl hown3 (by rw [hv]; exact hgrow) (by rw [hv, zB]; exact hat) hgc
    exact hK x74 x75 x76 x77 x78 x79 x80 x81 x82 x83 x84 x85 x86 x87 x88 x89 x90 x91 x92 x93 x94 x95 x96 x97 x98 x99 x100 x101 x102 x103 x104 x105 x106 x107 x108 x109 x110 x111 x112 x113 x114 x115 x116 x117 x118 x119 x120 x121 x122 x123 x124 x125 x126 x127 x128 _ hE.1 hE.2
end W
end
section
open Go Go.Proofs Ax Go.RowKit
namespace W
def kindV : Val → Int
  | .mk k _ _ _ _ _ => k
def stepC (aggs : List (List UInt8)) (r : List Val) (c : Nat) (cols : List (List Val)) : List (List Val) :=
  match aggs[c]?, r[c]?, cols[c]? with
  | some a, some x, some cl => if a ≠ [] ∧ kindV x ≠ 0 then cols.set c (cl ++ [x]) else cols
  | _, _, _ => cols
def colsTo (aggs : List (List UInt8)) (r : List Val) (cols : List (List Val)) : Nat → List (List Val)
  | 0 => cols
  | n + 1 => stepC aggs r n (colsTo aggs r cols n)
theorem Kept.refl (L : Nat) (w : World) : Kept L w w := ⟨rfl, rfl, rfl, Nat.le_refl _, fun _ _ => rfl⟩
theorem Kept.trans {L : Nat} {a b c : World} (h : Kept L a b) (k : Kept L b c) : Kept L a c := ⟨k.os.trans h.os, k.tape.trans h.tape, k.output.trans h.output, Nat.le_trans h.size k.size, fun x hx => (k.block x hx).trans (h.block x hx)⟩
theorem set_same {A : Type} {l : List A} {i : Nat} {x : A} (h : l[i]? = some x) : l.set i x = l := by
  refine List.ext_getElem? fun j => ?_
  rw [List.getElem?_set]
  split
  · rename_i e; subst e
    split
    · exact h.symm
    · rename_i h2; rw [List.getElem?_eq_none (by omega)]
  · rfl
theorem colsTo_len (aggs : List (List UInt8)) (r : List Val) (cols : List (List Val)) : ∀ n, (colsTo aggs r cols n).length = cols.length
  | 0 => rfl
  | n + 1 => by
    show (stepC aggs r n (colsTo aggs r cols n)).length = _
    unfold stepC
    split
    · split
      · rw [List.length_set]; exact colsTo_len aggs r cols n
      · exact colsTo_len aggs r cols n
    · exact colsTo_len aggs r cols n
def intOf' : Value → Int
  | .int _ n => n
  | _ => 0
set_option maxHeartbeats 8000000 in
set_option maxRecDepth 100000 in
theorem cols_loop (t0 t1 t2 t3 t4 t5 t6 t8 t9 t12 t13 t14 t15 t16 t17 t18 t19 t20 t21 t22 t23 t24 t25 t26 t27 t28 t29 t30 t31 t32 t33 t34 t35 t36 t37 t38 t39 t40 t41 t42 t43 t44 t45 t46 t47 t48 t49 t50 t54 t55 t56 t57 t58 t59 t60 t61 t62 t63 t64 t65 t66 t67 t68 t69 t70 t71 t72 t73 t74 t75 t76 t77 t78 t79 t80 t81 t82 t83 t84 t85 t86 t87 t88 t89 t90 t91 t92 t93 t94 t95 t96 t97 t98 t99 t100 t101 t102 t103 t104 t105 t106 t107 t108 t109 t110 t111 t112 t113 t114 t115 t116 t117 t118 t119 t120 t121 t122 t123 t124 t125 t126 t127 t128 t129 t130 t131 t132 t133 t134 t135 t136 t137 t138 t139 t140 t141 t142 t143 t144 t145 t146 t147 t148 t149 t150 t151 t152 t153 t154 t155 t156 t157 t158 t159 t160 t161 t162 t163 t164 t165 t166 t167 t168 t169 t170 t171 t172 t173 t174 t175 t176 t177 t178 t179 t180 t181 t182 t183 t184 : Value) {L : Nat} {H : PH L} {w : World} {G : List Grp} {sb mb : Nat} {vo : Value} {gb cb : Nat → Nat} {vf : Nat → Value} {vv : Nat → Nat → Value} {lab : Nat → Option Tag} {aggs : List (List UInt8)} (h : GSt Tryz.prog TG H w aggs.length G sb mb vo gb cb vf vv lab)
    {i : Nat} {g : Grp} (hg : G[i]? = some g) {r : List Val} {rb ro rc ab ao ac : Nat} {rp ap : Option Addr} (hrp : r ≠ [] → rp = some ⟨rb, ro, none⟩) (hap : aggs ≠ [] → ap = some ⟨ab, ao, none⟩) (hln : ∀ (c : Nat) (cl : List Val), c ≤ aggs.length → ∀ q : Nat, (colsTo aggs r g.cols c)[q]? = some cl → cl.length < 1000000000) (hna : aggs.length < 1000000000) (hrl : r.length < 1000000000)
    (hrow : ∀ (c : Nat) (x : Val), r[c]? = some x → ∃ us, RepL H (valC.cells x) us ∧ ∀ j u, us[j]? = some u → H rb (ro + c * 6 + j) = some u)
    (hag : ∀ (c : Nat) (a : List UInt8), aggs[c]? = some a → H ab (ao + c) = some (.string ⟨a.toArray⟩))
    (Q : Exit → Act → World → Prop) (hQ : ∀ d v c a w, Q (.panic c) (a.put d v) w → Q (.panic c) a w)
    (hK : ∀ (x13 x14 x53 x54 x55 x56 x57 x58 x59 x60 x61 x62 x63 x64 x65 x66 x67 x68 x69 x70 x71 x72 x73 x74 x75 x76 x77 x78 x79 x80 x81 x82 x83 x84 x85 x86 x87 x88 x89 x90 x91 x92 x93 x94 x95 x96 x97 x98 x99 x100 x101 x102 x103 x104 x105 x106 x107 x108 x109 x110 x111 x112 x113 x114 x115 x116 x117 x118 x119 x120 x121 x122 x123 x124 x125 x126 x127 x128 x129 x130 : Value) (w' : World), (∃ vv' lab', GSt Tryz.prog TG H w' aggs.length (G.set i { g with cols := colsTo aggs r g.cols aggs.length }) sb mb vo gb cb vf vv' lab') → Kept L w w' → Q (.exit 2) { tmps := #[t0, t1, t2, t3, t4, t5, t6, .pointer (some ⟨sb, 0, none⟩), t8, t9, .slice rp r.length rc, .int .i64 (i : Int), t12, x13, x14, t15, t16, t17, t18, t19, t20, t21, t22, t23, t24, t25, t26, t27, t28, t29, t30, t31, t32, t33, t34, t35, t36, t37, t38, t39, t40, t41, t42, t43, t44, t45, t46, t47, t48, t49, t50, .slice ap aggs.length ac, .int .i64 (aggs.length : Int), x53, x54, x55, x56, x57, x58, x59, x60, x61, x62, x63, x64, x65, x66, x67, x68, x69, x70, x71, x72, x73, x74, x75, x76, x77, x78, x79, x80, x81, x82, x83, x84, x85, x86, x87, x88, x89, x90, x91, x92, x93, x94, x95, x96, x97, x98, x99, x100, x101, x102, x103, x104, x105, x106, x107, x108, x109, x110, x111, x112, x113, x114, x115, x116, x117, x118, x119, x120, x121, x122, x123, x124, x125, x126, x127, x128, x129, x130, t131, t132, t133, t134, t135, t136, t137, t138, t139, t140, t141, t142, t143, t144, t145, t146, t147, t148, t149, t150, t151, t152, t153, t154, t155, t156, t157, t158, t159, t160, t161, t162, t163, t164, t165, t166, t167, t168, t169, t170, t171, t172, t173, t174, t175, t176, t177, t178, t179, t180, t181, t182, t183, t184], defers := [] } w') :
    (pick [1,1,1,1,1,0,1,0,0,1,1,0,0,1,1,1,0] (bodyOf Tryz.f8.body)).wp Tryz.prog Q { tmps := #[t0, t1, t2, t3, t4, t5, t6, .pointer (some ⟨sb, 0, none⟩), t8, t9, .slice rp r.length rc, .int .i64 (i : Int), t12, t13, t14, t15, t16, t17, t18, t19, t20, t21, t22, t23, t24, t25, t26, t27, t28, t29, t30, t31, t32, t33, t34, t35, t36, t37, t38, t39, t40, t41, t42, t43, t44, t45, t46, t47, t48, t49, t50, .slice ap aggs.length ac, .int .i64 (aggs.length : Int), .int .i64 0, t54, t55, t56, t57, t58, t59, t60, t61, t62, t63, t64, t65, t66, t67, t68, t69, t70, t71, t72, t73, t74, t75, t76, t77, t78, t79, t80, t81, t82, t83, t84, t85, t86, t87, t88, t89, t90, t91, t92, t93, t94, t95, t96, t97, t98, t99, t100, t101, t102, t103, t104, t105, t106, t107, t108, t109, t110, t111, t112, t113, t114, t115, t116, t117, t118, t119, t120, t121, t122, t123, t124, t125, t126, t127, t128, t129, t130, t131, t132, t133, t134, t135, t136, t137, t138, t139, t140, t141, t142, t143, t144, t145, t146, t147, t148, t149, t150, t151, t152, t153, t154, t155, t156, t157, t158, t159, t160, t161, t162, t163, t164, t165, t166, t167, t168, t169, t170, t171, t172, t173, t174, t175, t176, t177, t178, t179, t180, t181, t182, t183, t184], defers := [] } w := by
  simp only [pick, bodyOf, Tryz.f8]
  have hi : i < G.length := (List.getElem?_eq_some_iff.1 hg).1
  go_loopw [53] (fun v wr => ∃ (c : Nat), v = .int .i64 (c : Int) ∧ c ≤ aggs.length ∧ (∃ vv' lab', GSt Tryz.prog TG H wr aggs.length (G.set i { g with cols := colsTo aggs r g.cols c }) sb mb vo gb cb vf vv' lab') ∧ Kept L w wr) (fun v _ => aggs.length - (intOf' v).toNat)
  case atStart => exact ⟨0, rfl, Nat.zero_le _, ⟨vv, lab, by rw [show G.set i { g with cols := colsTo aggs r g.cols 0 } = G from set_same hg]; exact h⟩, Kept.refl _ _⟩
  case round =>
    obtain ⟨c, rfl, hcn, ⟨vv1, lab1, h1⟩, hk1⟩ := hrel
    rcases Nat.lt_or_ge c aggs.length with hlt | hge
    · obtain rfl := hap (List.ne_nil_of_length_pos (by omega))
      obtain ⟨a, ha⟩ : ∃ a, aggs[c]? = some a := ⟨_, List.getElem?_eq_getElem hlt⟩
      have hga : wr.cell? ⟨ab, ao + c, none⟩ = some (.string ⟨a.toArray⟩) := (h1.sat.cell _ _ _ (hag c a ha)).1
      have b0 : (0 : Int) ≤ (c : Int) := by omega
      have b1 : (c : Int) < (aggs.length : Int) := by omega
      have hg1 : (G.set i { g with cols := colsTo aggs r g.cols c })[i]? = some { g with cols := colsTo aggs r g.cols c } := List.getElem?_set_self hi
      have hcl : c < (colsTo aggs r g.cols c).length := by rw [colsTo_len, h.wid i g hg]; exact hlt
      obtain ⟨cl, hcl⟩ : ∃ cl, (colsTo aggs r g.cols c)[c]? = some cl := ⟨_, List.getElem?_eq_getElem hcl⟩
      by_cases he : a = []
      · have e1 : colsTo aggs r g.cols (c + 1) = colsTo aggs r g.cols c := by
          show stepC aggs r c (colsTo aggs r g.cols c) = _
          unfold stepC
          rw [ha]
          split
          · rename_i h1 _ _; cases h1; rw [if_neg fun hh => hh.1 he]
          · rfl
        subst he
        go_wp2
        go_roundw
        case rel => exact ⟨c + 1, by congr 1 <;> omega, hlt, ⟨vv1, lab1, by rw [e1]; exact h1⟩, hk1⟩
        case measure => simp [intOf']; omega
      · have hne : ¬ ((⟨a.toArray⟩ : ByteArray) = ⟨#[]⟩) := fun e => he (by have := congrArg (fun b : ByteArray => b.data.toList) e; simpa using this)
        rcases Nat.lt_or_ge c r.length with hrc | hrc
        · obtain rfl := hrp (List.ne_nil_of_length_pos (by omega))
          obtain ⟨x, hx⟩ : ∃ x, r[c]? = some x := ⟨_, List.getElem?_eq_getElem hrc⟩
          obtain ⟨us, hxu, hus⟩ := hrow c x hx
          have hrn : (c : Int) < (r.length : Int) := by omega
          have g0 : ∃ k1, us[0]? = some (.int .i64 k1) ∧ k1 = kindV x := by
            obtain ⟨k1, bb, ii, ss, ll, ks⟩ := x
            simp only [valC, Val.cells, RepL] at hxu
            obtain ⟨y1, _, rfl, h1, _⟩ := hxu
            exact ⟨k1, by simp only [RepP] at h1; subst h1; rfl, rfl⟩
          obtain ⟨k1, g0, hk⟩ := g0
          have g0 : wr.cell? ⟨rb, ro + c * 6, none⟩ = some (.int .i64 k1) := (h1.sat.cell _ _ _ (hus 0 _ g0)).1
          by_cases hz : k1 = 0
          · have e1 : colsTo aggs r g.cols (c + 1) = colsTo aggs r g.cols c := by
              show stepC aggs r c (colsTo aggs r g.cols c) = _
              unfold stepC
              rw [ha, hx, hcl]
              exact if_neg fun hh => hh.2 (by rw [← hk]; exact hz)
            subst hz
            go_wp2
            go_roundw
            case rel => exact ⟨c + 1, by congr 1 <;> omega, hlt, ⟨vv1, lab1, by rw [e1]; exact h1⟩, hk1⟩
            case measure => simp [intOf']; omega
          · have e1 : colsTo aggs r g.cols (c + 1) = (colsTo aggs r g.cols c).set c (cl ++ [x]) := by
              show stepC aggs r c (colsTo aggs r g.cols c) = _
              unfold stepC
              rw [ha, hx, hcl]
              exact if_pos ⟨he, by rw [← hk]; exact hz⟩
            have hlc := hln c cl hcn c hcl
            have hie : a.isEmpty = false := by cases a with | nil => exact absurd rfl he | cons _ _ => rfl
            have hkz : (kindV x != 0) = true := by rw [← hk]; simpa using hz
            go_wp2
            refine grow_reg _ _ _ _ _ _ _ _ _ _ _ _ _ _ _ _ _ _ _ _ _ _ _ _ _ _ _ _ _ _ _ _ _ _ _ _ _ _ _ _ _ _ _ _ _ _ _ _ _ _ _ _ _ _ _ _ _ _ _ _ _ _ _ _ _ _ _ _ _ _ _ _ _ _ _ _ _ _ _ _ _ _ _ _ _ _ _ _ _ _ _ _ _ _ _ _ _ _ _ _ _ _ _ _ _ _ _ _ _ _ _ _ _ _ _ _ _ _ _ _ _ _ _ _ _ _ _ _ _ _ _ _ _ _ _ _ _ _ _ _ _ _ _ _ _ _ _ _ _ _ _ _ _ _ _ _ _ _ _ _ _ _ _ _ _ _ _ _ _ _ _ _ _ _ _ _ _ _ _ _ _ h1 hg1 hcl hlc hrn hxu hus _ (fun d v c a w hh => by first | exact hQ d v c a w hh | exact hh) ?_ (by assumption)
            intro y74 y75 y76 y77 y78 y79 y80 y81 y82 y83 y84 y85 y86 y87 y88 y89 y90 y91 y92 y93 y94 y95 y96 y97 y98 y99 y100 y101 y102 y103 y104 y105 y106 y107 y108 y109 y110 y111 y112 y113 y114 y115 y116 y117 y118 y119 y120 y121 y122 y123 y124 y125 y126 y127 y128 w' hG hkk
            rw [List.set_set] at hG
            obtain ⟨vv2, lab2, hG⟩ := hG
            go_wp2
            go_roundw
            case rel => exact ⟨c + 1, by congr 1 <;> omega, hlt, ⟨vv2, lab2, by rw [e1]; exact hG⟩, hk1.trans hkk⟩
            case measure => simp [intOf']; omega
        · have e1 : colsTo aggs r g.cols (c + 1) = colsTo aggs r g.cols c := by
            show stepC aggs r c (colsTo aggs r g.cols c) = _
            unfold stepC
            rw [List.getElem?_eq_none hrc]
            split
            · rename_i h1 _; cases h1
            · rfl
          have hrn : ¬ ((c : Int) < (r.length : Int)) := by omega
          go_wp2
          go_roundw
          case rel => exact ⟨c + 1, by congr 1 <;> omega, hlt, ⟨vv1, lab1, by rw [e1]; exact h1⟩, hk1⟩
          case measure => simp [intOf']; omega
    · obtain rfl : c = aggs.length := by omega
      go_wp2
      exact hK _ _ _ _ _ _ _ _ _ _ _ _ _ _ _ _ _ _ _ _ _ _ _ _ _ _ _ _ _ _ _ _ _ _ _ _ _ _ _ _ _ _ _ _ _ _ _ _ _ _ _ _ _ _ _ _ _ _ _ _ _ _ _ _ _ _ _ _ _ _ _ _ _ _ _ _ _ _ _ _ _ ⟨vv1, lab1, h1⟩ hk1
end W
end
section
open Go Go.Proofs Ax Go.RowKit
namespace W
set_option maxHeartbeats 4000000 in
set_option maxRecDepth 100000 in
theorem newSeats_call (w : World) : Calls Tryz.prog 19 #[] w fun e w' => e = .returned (.pointer (some ⟨w.heap.size + 1, 0, none⟩)) ∧ w' = (w.alloc (.map #[] 0)).alloc (.cells #[.map (some w.heap.size), .slice none 0 0] 57) := by
  have hmk : ∀ w : World, (Instr.makeMap 54 none).run Tryz.prog w = .ok (.map (some w.heap.size)) (w.alloc (.map #[] 0)) := fun w => run_makeMap 54 w
  go_enter Tryz.func19, Tryz.ntmps19
  go_wp2
  go_ret
  exact ⟨rfl, rfl⟩
set_option maxHeartbeats 4000000 in
set_option maxRecDepth 100000 in
theorem maker_call (p : Option Addr) (n c ba : Nat) (w : World) : Calls Tryz.prog 20 #[.slice p n c, .pointer (some ⟨ba, 0, none⟩)] w fun e w' => e = .returned (.func (.func 21) #[] #[.pointer (some ⟨w.heap.size, 0, none⟩), .pointer (some ⟨ba, 0, none⟩)]) ∧ w' = w.alloc (.cells #[.slice p n c] 34) := by
  go_enter Tryz.func20, Tryz.ntmps20
  go_wp2
  go_ret
  exact ⟨rfl, rfl⟩
set_option maxHeartbeats 4000000 in
set_option maxRecDepth 100000 in
theorem end_call {L : Nat} {H : PH L} {w : World} {na : Nat} {G : List Grp} {sb mb : Nat} {vo : Value} {gb cb : Nat → Nat} {vf : Nat → Value} {vv : Nat → Nat → Value} {lab : Nat → Option Tag} (h : GSt Tryz.prog TG H w na G sb mb vo gb cb vf vv lab) :
    Calls Tryz.prog 25 #[.pointer (some ⟨sb, 0, none⟩)] w fun e w' => e = .returned vo ∧ w.grownBy w' (some mb) := by
  have hs0 : w.cell? ⟨sb, 0, none⟩ = some (.map (some mb)) := cell_blk h.sbox 0 rfl
  have hs1 : w.cell? ⟨sb, 1, none⟩ = some vo := cell_blk h.sbox 1 rfl
  obtain ⟨po, co, rfl⟩ : ∃ po co, vo = .slice po G.length co := by
    rcases h.ord.2 with ⟨rfl, e⟩ | ⟨g, cap, cur, rfl, _⟩
    · exact ⟨none, 0, by rw [e]⟩
    · exact ⟨_, _, rfl⟩
  have hsm : sb ≠ mb := fun e => by have := h.sl; rw [e, h.ml] at this; cases this
  obtain ⟨es, clock, hm, _⟩ := h.mp
  have hcl : (Builtin.clear_ #[54] 0 #[.map (some mb)]).run Tryz.prog w = .ok (.tuple #[]) ({ w with heap := w.heap.setIfInBounds mb (.map #[] clock) }) := by
    simp [Builtin.clear_, run_underlying Tryz.underlying54, MapKept.run_getObj_map hm, MapKept.run_setObj_map _ hm]
  have ht : w.mapTurned ({ w with heap := w.heap.setIfInBounds mb (.map #[] clock) }) mb := ⟨es, clock, #[], clock, hm, rfl⟩
  have hgr := ht.grown
  generalize hW : ({ w with heap := w.heap.setIfInBounds mb (.map #[] clock) } : World) = w1 at hcl hgr
  have hs2 : w1.cell? ⟨sb, 1, none⟩ = some (.slice po G.length co) := (World.cell?_of_block (w := w) (a := ⟨sb, 1, none⟩) (hgr.block sb (h.fresh _ _ h.sl).2.1 fun e => hsm (Option.some.inj e))).trans hs1
  clear ht hm
  go_enter Tryz.func25, Tryz.ntmps25
  go_wp2
  go_ret
  exact ⟨rfl, hgr⟩
end W
end
section
open Go Go.Proofs Ax Go.RowKit
namespace W
theorem cols_short (aggs : List (List UInt8)) (r : List Val) (cols : List (List Val)) : ∀ (n q : Nat) (cl : List Val), (colsTo aggs r cols n)[q]? = some cl → ∃ cl0, cols[q]? = some cl0 ∧ cl.length ≤ cl0.length + (if q < n then 1 else 0)
  | 0, q, cl, h => ⟨cl, h, by simp⟩
  | n + 1, q, cl, h => by
    have same : (colsTo aggs r cols n)[q]? = some cl → ∃ cl0, cols[q]? = some cl0 ∧ cl.length ≤ cl0.length + (if q < n + 1 then 1 else 0) := fun h => by
      obtain ⟨cl0, h1, h2⟩ := cols_short aggs r cols n q cl h
      refine ⟨cl0, h1, Nat.le_trans h2 ?_⟩
      split <;> split <;> omega
    change (stepC aggs r n (colsTo aggs r cols n))[q]? = some cl at h
    unfold stepC at h
    split at h
    · rename_i a x c0 _ _ hc0
      split at h
      · by_cases e : n = q
        · subst e
          rw [List.getElem?_set_self (List.getElem?_eq_some_iff.1 hc0).1] at h
          obtain rfl := Option.some.inj h
          obtain ⟨cl0, h1, h2⟩ := cols_short aggs r cols n n c0 hc0
          refine ⟨cl0, h1, ?_⟩
          rw [if_neg (by omega)] at h2
          rw [if_pos (by omega), List.length_append, List.length_singleton]
          omega
        · rw [List.getElem?_set_ne e] at h
          exact same h
      · exact same h
    · exact same h
def seatG (na : Nat) (k : List UInt8) (r : List Val) (G : List Grp) : List Grp := if k ∈ G.map (·.key) then G else G ++ [⟨k, r, List.replicate na []⟩]
def shortG (g : Grp) : Bool := g.cols.all fun cl => decide (cl.length < 999999999)
def rowStep (n : Nat) (aggs : List (List UInt8)) (G : List Grp) (r : List Val) : Option (List Grp) :=
  bnd (F_rows_Group_c1 n r aggs) fun ks =>
  bnd (F_rows_key n ks) fun k =>
  chk (decide (k.length ≤ maxLen)) (chk (decide (G.length < 1000000000)) (chk (decide (r.length < 1000000000)) (
  match (seatG aggs.length k r G)[((seatG aggs.length k r G).map (·.key)).idxOf k]? with
  | some g => chk (shortG g) (some ((seatG aggs.length k r G).set (((seatG aggs.length k r G).map (·.key)).idxOf k) { g with cols := colsTo aggs r g.cols aggs.length }))
  | none => none)))
theorem seatG_nodup {na : Nat} {k : List UInt8} {r : List Val} {G : List Grp} (h : (G.map (·.key)).Nodup) : ((seatG na k r G).map (·.key)).Nodup := by
  unfold seatG
  split
  · exact h
  · rename_i hk
    rw [List.map_append, List.nodup_append]
    refine ⟨h, by simp, fun a ha b hb e => ?_⟩
    simp at hb
    subst hb; subst e
    exact hk ha
theorem set_keys {G : List Grp} {i : Nat} {g : Grp} (hg : G[i]? = some g) (cols : List (List Val)) : (G.set i { g with cols := cols }).map (·.key) = G.map (·.key) := by
  refine List.ext_getElem? fun j => ?_
  rw [List.getElem?_map, List.getElem?_map, List.getElem?_set]
  split
  · rename_i e; subst e
    rw [hg]
    split
    · rfl
    · rename_i h2; exact absurd (List.getElem?_eq_some_iff.1 hg).1 h2
  · rfl
theorem seat_new {na : Nat} {k : List UInt8} {r : List Val} {G : List Grp} (h : k ∉ G.map (·.key)) : seatG na k r G = G ++ [⟨k, r, List.replicate na []⟩] ∧ ((seatG na k r G).map (·.key)).idxOf k = G.length := by
  have e : seatG na k r G = G ++ [⟨k, r, List.replicate na []⟩] := if_neg h
  refine ⟨e, ?_⟩
  rw [e, List.map_append, List.idxOf_append, if_neg h]
  simp
theorem seat_old {na : Nat} {k : List UInt8} {r : List Val} {G : List Grp} (h : k ∈ G.map (·.key)) : seatG na k r G = G := if_pos h
end W
end
