/- A part of the proof. -/
import Derived.Test.YtajcpfcghhbbnaaDoorD
set_option linter.all false
section
open Go Go.Proofs Ax
namespace W
abbrev R_F_slices_symMergeCmpFunc_int__rows_Sort_c1 (x7 : List Int) (r : (List Int)) : FV := .p (.tup [])

abbrev L_F_slices_symMergeCmpFunc_int__rows_Sort_c1 (x7 : List Int) (r : (List Int)) : List AObj := [.vec 3 1 (intRows .i64 r)]

def F_slices_symMergeCmpFunc_int__rows_Sort_c1_k18 (n : Nat) (x2 : Int) (x4 : Int) (x3 : Int) (x10 : Int) (x11 : Int) (x1 : Nat) (x7 : List Int) (x5 : List (List Val)) (x6 : List Bool) (nx1 : Int × Int → Option ((List Int))) : Unit → Option ((List Int)) := fun _ =>
 bnd (natI (IntKind.i64.wrap ((IntKind.i64.wrap ((IntKind.i64.wrap ((IntKind.i64.wrap (Int.fdiv (IntKind.u64.wrap (IntKind.i64.wrap (x2 + x4))) (2 ^ (min (Int.toNat (1 : Int)) IntKind.u64.bits)))) + x3)) - (1 : Int))) - (IntKind.i64.wrap (Int.fdiv (IntKind.u64.wrap (IntKind.i64.wrap (x10 + x11))) (2 ^ (min (Int.toNat (1 : Int)) IntKind.u64.bits))))))) fun x12 =>
 chk (decide (x12 < x1)) (
 bnd (x7[x12]?) fun x13 =>
 bnd (natI (IntKind.i64.wrap (Int.fdiv (IntKind.u64.wrap (IntKind.i64.wrap (x10 + x11))) (2 ^ (min (Int.toNat (1 : Int)) IntKind.u64.bits))))) fun x14 =>
 chk (decide (x14 < x1)) (
 bnd (x7[x14]?) fun x15 =>
 bnd (F_rows_Sort_c1 n x13 x15 x5 x6) fun x16 =>
 bif (!(decide (x16 < (0 : Int)))) then (
 nx1 ((IntKind.i64.wrap ((IntKind.i64.wrap (Int.fdiv (IntKind.u64.wrap (IntKind.i64.wrap (x10 + x11))) (2 ^ (min (Int.toNat (1 : Int)) IntKind.u64.bits)))) + (1 : Int))), x11))
else (
 nx1 (x10, (IntKind.i64.wrap (Int.fdiv (IntKind.u64.wrap (IntKind.i64.wrap (x10 + x11))) (2 ^ (min (Int.toNat (1 : Int)) IntKind.u64.bits))))))))

def F_slices_symMergeCmpFunc_int__rows_Sort_c1_k20 (n : Nat) (x2 : Int) (x4 : Int) (x3 : Int) (x10 : Int) (g74_39 : Nat → Int → Int → Int → (List (List Val)) → (List Bool) → (List Int) → Option ((List Int))) (x1 : Nat) (x5 : List (List Val)) (x6 : List Bool) : List Int → Option ((List Int)) := fun x18 =>
 bif (bif (decide ((IntKind.i64.wrap (Int.fdiv (IntKind.u64.wrap (IntKind.i64.wrap (x2 + x4))) (2 ^ (min (Int.toNat (1 : Int)) IntKind.u64.bits)))) < (IntKind.i64.wrap ((IntKind.i64.wrap ((IntKind.i64.wrap (Int.fdiv (IntKind.u64.wrap (IntKind.i64.wrap (x2 + x4))) (2 ^ (min (Int.toNat (1 : Int)) IntKind.u64.bits)))) + x3)) - x10)))) then (decide ((IntKind.i64.wrap ((IntKind.i64.wrap ((IntKind.i64.wrap (Int.fdiv (IntKind.u64.wrap (IntKind.i64.wrap (x2 + x4))) (2 ^ (min (Int.toNat (1 : Int)) IntKind.u64.bits)))) + x3)) - x10)) < x4)) else false) then (
 bnd (g74_39 x1 (IntKind.i64.wrap (Int.fdiv (IntKind.u64.wrap (IntKind.i64.wrap (x2 + x4))) (2 ^ (min (Int.toNat (1 : Int)) IntKind.u64.bits)))) (IntKind.i64.wrap ((IntKind.i64.wrap ((IntKind.i64.wrap (Int.fdiv (IntKind.u64.wrap (IntKind.i64.wrap (x2 + x4))) (2 ^ (min (Int.toNat (1 : Int)) IntKind.u64.bits)))) + x3)) - x10)) x4 x5 x6 x18) fun x19 =>
 some x19)
else (
 some x18)

def F_slices_symMergeCmpFunc_int__rows_Sort_c1_k19 (n : Nat) (x2 : Int) (x10 : Int) (x4 : Int) (g74_39 : Nat → Int → Int → Int → (List (List Val)) → (List Bool) → (List Int) → Option ((List Int))) (x1 : Nat) (x5 : List (List Val)) (x6 : List Bool) (x3 : Int) : List Int → Option ((List Int)) := fun x17 =>
 bif (bif (decide (x2 < x10)) then (decide (x10 < (IntKind.i64.wrap (Int.fdiv (IntKind.u64.wrap (IntKind.i64.wrap (x2 + x4))) (2 ^ (min (Int.toNat (1 : Int)) IntKind.u64.bits)))))) else false) then (
 bnd (g74_39 x1 x2 x10 (IntKind.i64.wrap (Int.fdiv (IntKind.u64.wrap (IntKind.i64.wrap (x2 + x4))) (2 ^ (min (Int.toNat (1 : Int)) IntKind.u64.bits)))) x5 x6 x17) fun x20 =>
 F_slices_symMergeCmpFunc_int__rows_Sort_c1_k20 n x2 x4 x3 x10 g74_39 x1 x5 x6 x20)
else (
 F_slices_symMergeCmpFunc_int__rows_Sort_c1_k20 n x2 x4 x3 x10 g74_39 x1 x5 x6 x17)

def F_slices_symMergeCmpFunc_int__rows_Sort_c1_l1 (n : Nat) (x2 : Int) (x4 : Int) (x3 : Int) (x1 : Nat) (x7 : List Int) (x5 : List (List Val)) (x6 : List Bool) (g74_39 : Nat → Int → Int → Int → (List (List Val)) → (List Bool) → (List Int) → Option ((List Int))) : (Int × Int → Option ((List Int))) → Int × Int → Option ((List Int)) := fun nx1 (x10, x11) =>
 bif (decide (x10 < x11)) then (
 F_slices_symMergeCmpFunc_int__rows_Sort_c1_k18 n x2 x4 x3 x10 x11 x1 x7 x5 x6 nx1 ())
else (
 bif (bif (decide (x10 < x3)) then (decide (x3 < (IntKind.i64.wrap ((IntKind.i64.wrap ((IntKind.i64.wrap (Int.fdiv (IntKind.u64.wrap (IntKind.i64.wrap (x2 + x4))) (2 ^ (min (Int.toNat (1 : Int)) IntKind.u64.bits)))) + x3)) - x10)))) else false) then (
 bnd (F_slices_rotateCmpFunc_int__rows_Sort_c1 n x1 x10 x3 (IntKind.i64.wrap ((IntKind.i64.wrap ((IntKind.i64.wrap (Int.fdiv (IntKind.u64.wrap (IntKind.i64.wrap (x2 + x4))) (2 ^ (min (Int.toNat (1 : Int)) IntKind.u64.bits)))) + x3)) - x10)) x5 x6 x7) fun x21 =>
 F_slices_symMergeCmpFunc_int__rows_Sort_c1_k19 n x2 x10 x4 g74_39 x1 x5 x6 x3 x21)
else (
 F_slices_symMergeCmpFunc_int__rows_Sort_c1_k19 n x2 x10 x4 g74_39 x1 x5 x6 x3 x7))

def F_slices_symMergeCmpFunc_int__rows_Sort_c1_k15 (n : Nat) (x2 : Int) (x4 : Int) (x3 : Int) (x1 : Nat) (x7 : List Int) (x5 : List (List Val)) (x6 : List Bool) (g74_39 : Nat → Int → Int → Int → (List (List Val)) → (List Bool) → (List Int) → Option ((List Int))) : Int × Int → Option ((List Int)) := fun (x8, x9) =>
 loopK (F_slices_symMergeCmpFunc_int__rows_Sort_c1_l1 n x2 x4 x3 x1 x7 x5 x6 g74_39) n (x8, x9)

def F_slices_symMergeCmpFunc_int__rows_Sort_c1_k14 (n : Nat) (x3 : Int) (x2 : Int) (x4 : Int) (x1 : Nat) (x7 : List Int) (x5 : List (List Val)) (x6 : List Bool) (g74_39 : Nat → Int → Int → Int → (List (List Val)) → (List Bool) → (List Int) → Option ((List Int))) : Unit → Option ((List Int)) := fun _ =>
 bif (decide (x3 > (IntKind.i64.wrap (Int.fdiv (IntKind.u64.wrap (IntKind.i64.wrap (x2 + x4))) (2 ^ (min (Int.toNat (1 : Int)) IntKind.u64.bits)))))) then (
 F_slices_symMergeCmpFunc_int__rows_Sort_c1_k15 n x2 x4 x3 x1 x7 x5 x6 g74_39 ((IntKind.i64.wrap ((IntKind.i64.wrap ((IntKind.i64.wrap (Int.fdiv (IntKind.u64.wrap (IntKind.i64.wrap (x2 + x4))) (2 ^ (min (Int.toNat (1 : Int)) IntKind.u64.bits)))) + x3)) - x4)), (IntKind.i64.wrap (Int.fdiv (IntKind.u64.wrap (IntKind.i64.wrap (x2 + x4))) (2 ^ (min (Int.toNat (1 : Int)) IntKind.u64.bits))))))
else (
 F_slices_symMergeCmpFunc_int__rows_Sort_c1_k15 n x2 x4 x3 x1 x7 x5 x6 g74_39 (x2, x3))

def F_slices_symMergeCmpFunc_int__rows_Sort_c1_k23 (n : Nat) (x3 : Int) (x1 : Nat) (x7 : List Int) (x22 : Int) (x23 : Int) (x5 : List (List Val)) (x6 : List Bool) (nx2 : Int × Int → Option ((List Int))) : Unit → Option ((List Int)) := fun _ =>
 bnd (natI x3) fun x24 =>
 chk (decide (x24 < x1)) (
 bnd (x7[x24]?) fun x25 =>
 bnd (natI (IntKind.i64.wrap (Int.fdiv (IntKind.u64.wrap (IntKind.i64.wrap (x22 + x23))) (2 ^ (min (Int.toNat (1 : Int)) IntKind.u64.bits))))) fun x26 =>
 chk (decide (x26 < x1)) (
 bnd (x7[x26]?) fun x27 =>
 bnd (F_rows_Sort_c1 n x25 x27 x5 x6) fun x28 =>
 bif (!(decide (x28 < (0 : Int)))) then (
 nx2 ((IntKind.i64.wrap ((IntKind.i64.wrap (Int.fdiv (IntKind.u64.wrap (IntKind.i64.wrap (x22 + x23))) (2 ^ (min (Int.toNat (1 : Int)) IntKind.u64.bits)))) + (1 : Int))), x23))
else (
 nx2 (x22, (IntKind.i64.wrap (Int.fdiv (IntKind.u64.wrap (IntKind.i64.wrap (x22 + x23))) (2 ^ (min (Int.toNat (1 : Int)) IntKind.u64.bits))))))))

def F_slices_symMergeCmpFunc_int__rows_Sort_c1_k26 (n : Nat) (x29 : Int) (x1 : Nat) (x30 : List Int) (nx3 : Int × List Int → Option ((List Int))) : Unit → Option ((List Int)) := fun _ =>
 bnd (natI (IntKind.i64.wrap (x29 - (1 : Int)))) fun x31 =>
 chk (decide (x31 < x1)) (
 bnd (x30[x31]?) fun x32 =>
 bnd (natI x29) fun x33 =>
 chk (decide (x33 < x1)) (
 bnd (x30[x33]?) fun x34 =>
 bnd (natI x29) fun x35 =>
 chk (decide (x35 < x1)) (
 bnd (x30[x35]?) fun x36 =>
 bnd (natI (IntKind.i64.wrap (x29 - (1 : Int)))) fun x37 =>
 chk (decide (x37 < x1)) (
 bnd ((x30.set x35 x32)[x37]?) fun x38 =>
 nx3 ((IntKind.i64.wrap (x29 - (1 : Int))), ((x30.set x35 x32).set x37 x34))))))

def F_slices_symMergeCmpFunc_int__rows_Sort_c1_l3 (n : Nat) (x22 : Int) (x1 : Nat) : (Int × List Int → Option ((List Int))) → Int × List Int → Option ((List Int)) := fun nx3 (x29, x30) =>
 bif (decide (x29 > x22)) then (
 F_slices_symMergeCmpFunc_int__rows_Sort_c1_k26 n x29 x1 x30 nx3 ())
else (
 some x30)

def F_slices_symMergeCmpFunc_int__rows_Sort_c1_l2 (n : Nat) (x3 : Int) (x1 : Nat) (x7 : List Int) (x5 : List (List Val)) (x6 : List Bool) : (Int × Int → Option ((List Int))) → Int × Int → Option ((List Int)) := fun nx2 (x22, x23) =>
 bif (decide (x22 < x23)) then (
 F_slices_symMergeCmpFunc_int__rows_Sort_c1_k23 n x3 x1 x7 x22 x23 x5 x6 nx2 ())
else (
 loopK (F_slices_symMergeCmpFunc_int__rows_Sort_c1_l3 n x22 x1) n (x3, x7))

def F_slices_symMergeCmpFunc_int__rows_Sort_c1_k7 (n : Nat) (x4 : Int) (x3 : Int) (x1 : Nat) (x7 : List Int) (x5 : List (List Val)) (x6 : List Bool) (x2 : Int) (g74_39 : Nat → Int → Int → Int → (List (List Val)) → (List Bool) → (List Int) → Option ((List Int))) : Unit → Option ((List Int)) := fun _ =>
 bif ((IntKind.i64.wrap (x4 - x3)) == (1 : Int)) then (
 loopK (F_slices_symMergeCmpFunc_int__rows_Sort_c1_l2 n x3 x1 x7 x5 x6) n (x2, x3))
else (
 F_slices_symMergeCmpFunc_int__rows_Sort_c1_k14 n x3 x2 x4 x1 x7 x5 x6 g74_39 ())

def F_slices_symMergeCmpFunc_int__rows_Sort_c1_k29 (n : Nat) (x39 : Int) (x40 : Int) (x1 : Nat) (x7 : List Int) (x2 : Int) (x5 : List (List Val)) (x6 : List Bool) (nx4 : Int × Int → Option ((List Int))) : Unit → Option ((List Int)) := fun _ =>
 bnd (natI (IntKind.i64.wrap (Int.fdiv (IntKind.u64.wrap (IntKind.i64.wrap (x39 + x40))) (2 ^ (min (Int.toNat (1 : Int)) IntKind.u64.bits))))) fun x41 =>
 chk (decide (x41 < x1)) (
 bnd (x7[x41]?) fun x42 =>
 bnd (natI x2) fun x43 =>
 chk (decide (x43 < x1)) (
 bnd (x7[x43]?) fun x44 =>
 bnd (F_rows_Sort_c1 n x42 x44 x5 x6) fun x45 =>
 bif (decide (x45 < (0 : Int))) then (
 nx4 ((IntKind.i64.wrap ((IntKind.i64.wrap (Int.fdiv (IntKind.u64.wrap (IntKind.i64.wrap (x39 + x40))) (2 ^ (min (Int.toNat (1 : Int)) IntKind.u64.bits)))) + (1 : Int))), x40))
else (
 nx4 (x39, (IntKind.i64.wrap (Int.fdiv (IntKind.u64.wrap (IntKind.i64.wrap (x39 + x40))) (2 ^ (min (Int.toNat (1 : Int)) IntKind.u64.bits))))))))

def F_slices_symMergeCmpFunc_int__rows_Sort_c1_k32 (n : Nat) (x46 : Int) (x1 : Nat) (x47 : List Int) (nx5 : Int × List Int → Option ((List Int))) : Unit → Option ((List Int)) := fun _ =>
 bnd (natI (IntKind.i64.wrap (x46 + (1 : Int)))) fun x48 =>
 chk (decide (x48 < x1)) (
 bnd (x47[x48]?) fun x49 =>
 bnd (natI x46) fun x50 =>
 chk (decide (x50 < x1)) (
 bnd (x47[x50]?) fun x51 =>
 bnd (natI x46) fun x52 =>
 chk (decide (x52 < x1)) (
 bnd (x47[x52]?) fun x53 =>
 bnd (natI (IntKind.i64.wrap (x46 + (1 : Int)))) fun x54 =>
 chk (decide (x54 < x1)) (
 bnd ((x47.set x52 x49)[x54]?) fun x55 =>
 nx5 ((IntKind.i64.wrap (x46 + (1 : Int))), ((x47.set x52 x49).set x54 x51))))))

def F_slices_symMergeCmpFunc_int__rows_Sort_c1_l5 (n : Nat) (x39 : Int) (x1 : Nat) : (Int × List Int → Option ((List Int))) → Int × List Int → Option ((List Int)) := fun nx5 (x46, x47) =>
 bif (decide (x46 < (IntKind.i64.wrap (x39 - (1 : Int))))) then (
 F_slices_symMergeCmpFunc_int__rows_Sort_c1_k32 n x46 x1 x47 nx5 ())
else (
 some x47)

def F_slices_symMergeCmpFunc_int__rows_Sort_c1_l4 (n : Nat) (x1 : Nat) (x7 : List Int) (x2 : Int) (x5 : List (List Val)) (x6 : List Bool) : (Int × Int → Option ((List Int))) → Int × Int → Option ((List Int)) := fun nx4 (x39, x40) =>
 bif (decide (x39 < x40)) then (
 F_slices_symMergeCmpFunc_int__rows_Sort_c1_k29 n x39 x40 x1 x7 x2 x5 x6 nx4 ())
else (
 loopK (F_slices_symMergeCmpFunc_int__rows_Sort_c1_l5 n x39 x1) n (x2, x7))

def BF_slices_symMergeCmpFunc_int__rows_Sort_c1 (n : Nat) (g74_39 : Nat → Int → Int → Int → (List (List Val)) → (List Bool) → (List Int) → Option ((List Int))) (x1 : Nat) (x2 : Int) (x3 : Int) (x4 : Int) (x5 : List (List Val)) (x6 : List Bool) (x7 : List Int) : Option ((List Int)) :=
  bif ((IntKind.i64.wrap (x3 - x2)) == (1 : Int)) then (
  loopK (F_slices_symMergeCmpFunc_int__rows_Sort_c1_l4 n x1 x7 x2 x5 x6) n (x3, x4))
  else (
  F_slices_symMergeCmpFunc_int__rows_Sort_c1_k7 n x4 x3 x1 x7 x5 x6 x2 g74_39 ())

set_option maxHeartbeats 4000000 in
set_option maxRecDepth 100000 in
theorem BF_slices_symMergeCmpFunc_int__rows_Sort_c1_ok (n : Nat) (g74_39 : Nat → Int → Int → Int → (List (List Val)) → (List Bool) → (List Int) → Option ((List Int))) (g74_39_ok : ∀ (x1 : Nat) (x2 : Int) (x3 : Int) (x4 : Int) (x5 : List (List Val)) (x6 : List Bool) (x7 : List Int) (r : (List Int)), g74_39 x1 x2 x3 x4 x5 x6 x7 = some r → CallsO Tryd.prog 74 [.vsl 0 x1, .p (PV.int .i64 x2), .p (PV.int .i64 x3), .p (PV.int .i64 x4), .p (PV.clo 39 [PV.hp [PV.sl (slRows valC x5)], PV.hp [PV.sl (boolRows x6)]])] [.vec 3 1 (intRows .i64 x7)] 1 (fun v lo => v = R_F_slices_symMergeCmpFunc_int__rows_Sort_c1 x7 r ∧ lo = L_F_slices_symMergeCmpFunc_int__rows_Sort_c1 x7 r)) : ∀ (x1 : Nat) (x2 : Int) (x3 : Int) (x4 : Int) (x5 : List (List Val)) (x6 : List Bool) (x7 : List Int) (r : (List Int)), BF_slices_symMergeCmpFunc_int__rows_Sort_c1 n g74_39 x1 x2 x3 x4 x5 x6 x7 = some r → CallsO Tryd.prog 74 [.vsl 0 x1, .p (PV.int .i64 x2), .p (PV.int .i64 x3), .p (PV.int .i64 x4), .p (PV.clo 39 [PV.hp [PV.sl (slRows valC x5)], PV.hp [PV.sl (boolRows x6)]])] [.vec 3 1 (intRows .i64 x7)] 1 (fun v lo => v = R_F_slices_symMergeCmpFunc_int__rows_Sort_c1 x7 r ∧ lo = L_F_slices_symMergeCmpFunc_int__rows_Sort_c1 x7 r) := by
  intro x1 x2 x3 x4 x5 x6 x7 r h
  unfold BF_slices_symMergeCmpFunc_int__rows_Sort_c1 at h
  refine CallsO.of_vc mixed (fun _ _ => Tryd.call74 _ _) Tryd.func74 (by kernel_rfl) (inl := [74, 82, 1000001, 1000000]) (Nat.le_of_ble_eq_true rfl) ?_
  conv => whnf
  refine SeqA.cut (S := Unit) (fun _ => [(0, .vsl 0 x1), (1, .p (.int .i64 x2)), (2, .p (.int .i64 x3)), (3, .p (.int .i64 x4)), (4, .p (.clo 39 [PV.hp [PV.sl (slRows valC x5)], PV.hp [PV.sl (boolRows x6)]]))]) (fun _ => [.vec 3 1 (intRows .i64 x7)]) (F_slices_symMergeCmpFunc_int__rows_Sort_c1_k7 n x4 x3 x1 x7 x5 x6 x2 g74_39) (r := r) ?_ ?_
  · intro _ h
    unfold F_slices_symMergeCmpFunc_int__rows_Sort_c1_k7 at h
    conv => whnf
    refine SeqA.cut (S := Unit) (fun _ => [(0, .vsl 0 x1), (1, .p (.int .i64 x2)), (2, .p (.int .i64 x3)), (3, .p (.int .i64 x4)), (4, .p (.clo 39 [PV.hp [PV.sl (slRows valC x5)], PV.hp [PV.sl (boolRows x6)]]))]) (fun _ => [.vec 3 1 (intRows .i64 x7)]) (F_slices_symMergeCmpFunc_int__rows_Sort_c1_k14 n x3 x2 x4 x1 x7 x5 x6 g74_39) (r := r) ?_ ?_
    · intro _ h
      unfold F_slices_symMergeCmpFunc_int__rows_Sort_c1_k14 at h
      conv => whnf
      refine ⟨by unfold gI; decide, ?_⟩
      conv => whnf
      refine SeqA.cut (S := Int × Int) (fun (x8, x9) => [(0, .vsl 0 x1), (1, .p (.int .i64 x2)), (2, .p (.int .i64 x3)), (3, .p (.int .i64 x4)), (4, .p (.clo 39 [PV.hp [PV.sl (slRows valC x5)], PV.hp [PV.sl (boolRows x6)]])), (18, .p (.int .i64 (IntKind.i64.wrap (Int.fdiv (IntKind.u64.wrap (IntKind.i64.wrap (x2 + x4))) (2 ^ (min (Int.toNat (1 : Int)) IntKind.u64.bits)))))), (19, .p (.int .i64 (IntKind.i64.wrap ((IntKind.i64.wrap (Int.fdiv (IntKind.u64.wrap (IntKind.i64.wrap (x2 + x4))) (2 ^ (min (Int.toNat (1 : Int)) IntKind.u64.bits)))) + x3)))), (20, .p (.int .i64 x8)), (21, .p (.int .i64 x9))]) (fun (x8, x9) => [.vec 3 1 (intRows .i64 x7)]) (F_slices_symMergeCmpFunc_int__rows_Sort_c1_k15 n x2 x4 x3 x1 x7 x5 x6 g74_39) (r := r) ?_ ?_
      · intro st h
        obtain ⟨x8, x9⟩ := st
        unfold F_slices_symMergeCmpFunc_int__rows_Sort_c1_k15 at h
        conv => whnf
        refine LoopA.fn [74, 82, 1000001, 1000000] (S := Int × Int) (fun (x10, x11) => [(0, .vsl 0 x1), (1, .p (.int .i64 x2)), (2, .p (.int .i64 x3)), (3, .p (.int .i64 x4)), (4, .p (.clo 39 [PV.hp [PV.sl (slRows valC x5)], PV.hp [PV.sl (boolRows x6)]])), (18, .p (.int .i64 (IntKind.i64.wrap (Int.fdiv (IntKind.u64.wrap (IntKind.i64.wrap (x2 + x4))) (2 ^ (min (Int.toNat (1 : Int)) IntKind.u64.bits)))))), (19, .p (.int .i64 (IntKind.i64.wrap ((IntKind.i64.wrap (Int.fdiv (IntKind.u64.wrap (IntKind.i64.wrap (x2 + x4))) (2 ^ (min (Int.toNat (1 : Int)) IntKind.u64.bits)))) + x3)))), (20, .p (.int .i64 x10)), (21, .p (.int .i64 x11)), (22, .p (.int .i64 (IntKind.i64.wrap ((IntKind.i64.wrap ((IntKind.i64.wrap (Int.fdiv (IntKind.u64.wrap (IntKind.i64.wrap (x2 + x4))) (2 ^ (min (Int.toNat (1 : Int)) IntKind.u64.bits)))) + x3)) - (1 : Int)))))]) (fun (x10, x11) => [.vec 3 1 (intRows .i64 x7)]) (B := F_slices_symMergeCmpFunc_int__rows_Sort_c1_l1 n x2 x4 x3 x1 x7 x5 x6 g74_39) h ⟨[0], [], ⟨rfl, rfl, rfl, rfl⟩, by repeat (first | exact trivial | exact .inl rfl | exact rfl | exact List.not_mem_nil | (refine .inr ?_) | (refine ⟨?_, ?_⟩) | exact List.length_set.symm | decide), by repeat (first | exact trivial | exact .inl rfl | exact rfl | exact List.not_mem_nil | (refine .inr ?_) | (refine ⟨?_, ?_⟩) | exact List.length_set.symm | decide)⟩ ?_
        intro nx1 st h
        obtain ⟨x10, x11⟩ := st
        unfold F_slices_symMergeCmpFunc_int__rows_Sort_c1_l1 at h
        conv => whnf
        refine SeqA.cut (S := Unit) (fun _ => [(0, .vsl 0 x1), (1, .p (.int .i64 x2)), (2, .p (.int .i64 x3)), (3, .p (.int .i64 x4)), (4, .p (.clo 39 [PV.hp [PV.sl (slRows valC x5)], PV.hp [PV.sl (boolRows x6)]])), (18, .p (.int .i64 (IntKind.i64.wrap (Int.fdiv (IntKind.u64.wrap (IntKind.i64.wrap (x2 + x4))) (2 ^ (min (Int.toNat (1 : Int)) IntKind.u64.bits)))))), (19, .p (.int .i64 (IntKind.i64.wrap ((IntKind.i64.wrap (Int.fdiv (IntKind.u64.wrap (IntKind.i64.wrap (x2 + x4))) (2 ^ (min (Int.toNat (1 : Int)) IntKind.u64.bits)))) + x3)))), (20, .p (.int .i64 x10)), (21, .p (.int .i64 x11)), (22, .p (.int .i64 (IntKind.i64.wrap ((IntKind.i64.wrap ((IntKind.i64.wrap (Int.fdiv (IntKind.u64.wrap (IntKind.i64.wrap (x2 + x4))) (2 ^ (min (Int.toNat (1 : Int)) IntKind.u64.bits)))) + x3)) - (1 : Int)))))]) (fun _ => [.vec 3 1 (intRows .i64 x7)]) (F_slices_symMergeCmpFunc_int__rows_Sort_c1_k18 n x2 x4 x3 x10 x11 x1 x7 x5 x6 nx1) (r := r) ?_ ?_
        · intro _ h
          unfold F_slices_symMergeCmpFunc_int__rows_Sort_c1_k18 at h
          conv => whnf
          refine ⟨by unfold gI; decide, ?_⟩
          conv => whnf
          replace h := bnd_some h
          obtain ⟨x12, h7, h⟩ := h
          have hj := natI_some h7
          conv => whnf
          obtain ⟨h6, h⟩ := chk_some h
          refine ⟨x12, ⟨hj, of_decide_eq_true h6⟩, ?_⟩
          conv => whnf
          replace h := bnd_some h
          obtain ⟨x13, h5, h⟩ := h
          refine ⟨_, ⟨rfl, Codec.getN (intC .i64) h5⟩, ?_⟩
          conv => whnf
          replace h := bnd_some h
          obtain ⟨x14, h4, h⟩ := h
          have hj := natI_some h4
          conv => whnf
          obtain ⟨h3, h⟩ := chk_some h
          refine ⟨x14, ⟨hj, of_decide_eq_true h3⟩, ?_⟩
          conv => whnf
          replace h := bnd_some h
          obtain ⟨x15, h2, h⟩ := h
          refine ⟨_, ⟨rfl, Codec.getN (intC .i64) h2⟩, ?_⟩
          conv => whnf
          replace h := bnd_some h
          obtain ⟨x16, h1, h⟩ := h
          refine ⟨_, (F_rows_Sort_c1_ok n _ _ _ _  _ h1), ?_⟩
          conv => whnf
          refine ⟨fun hc => ?_, fun hc => ?_⟩
          · replace h := cond_t h hc
            conv => whnf
            exact ⟨((IntKind.i64.wrap ((IntKind.i64.wrap (Int.fdiv (IntKind.u64.wrap (IntKind.i64.wrap (x10 + x11))) (2 ^ (min (Int.toNat (1 : Int)) IntKind.u64.bits)))) + (1 : Int))), x11), h, ⟨[0], [], ⟨rfl, rfl, rfl, rfl⟩, by repeat (first | exact trivial | exact .inl rfl | exact rfl | exact List.not_mem_nil | (refine .inr ?_) | (refine ⟨?_, ?_⟩) | exact List.length_set.symm | decide), by repeat (first | exact trivial | exact .inl rfl | exact rfl | exact List.not_mem_nil | (refine .inr ?_) | (refine ⟨?_, ?_⟩) | exact List.length_set.symm | decide)⟩⟩
          · replace h := cond_f h hc
            conv => whnf
            exact ⟨(x10, (IntKind.i64.wrap (Int.fdiv (IntKind.u64.wrap (IntKind.i64.wrap (x10 + x11))) (2 ^ (min (Int.toNat (1 : Int)) IntKind.u64.bits))))), h, ⟨[0], [], ⟨rfl, rfl, rfl, rfl⟩, by repeat (first | exact trivial | exact .inl rfl | exact rfl | exact List.not_mem_nil | (refine .inr ?_) | (refine ⟨?_, ?_⟩) | exact List.length_set.symm | decide), by repeat (first | exact trivial | exact .inl rfl | exact rfl | exact List.not_mem_nil | (refine .inr ?_) | (refine ⟨?_, ?_⟩) | exact List.length_set.symm | decide)⟩⟩
        · conv => whnf
          refine ⟨fun hc => ?_, fun hc => ?_⟩
          · replace h := cond_t h hc
            conv => whnf
            exact ⟨(), h, ⟨[0], [], ⟨rfl, rfl, rfl, rfl⟩, by repeat (first | exact trivial | exact .inl rfl | exact rfl | exact List.not_mem_nil | (refine .inr ?_) | (refine ⟨?_, ?_⟩) | exact List.length_set.symm | decide), by repeat (first | exact trivial | exact .inl rfl | exact rfl | exact List.not_mem_nil | (refine .inr ?_) | (refine ⟨?_, ?_⟩) | exact List.length_set.symm | decide)⟩⟩
          · replace h := cond_f h hc
            conv => whnf
            refine SeqA.cut (S := List Int) (fun x17 => [(0, .vsl 0 x1), (1, .p (.int .i64 x2)), (3, .p (.int .i64 x4)), (4, .p (.clo 39 [PV.hp [PV.sl (slRows valC x5)], PV.hp [PV.sl (boolRows x6)]])), (18, .p (.int .i64 (IntKind.i64.wrap (Int.fdiv (IntKind.u64.wrap (IntKind.i64.wrap (x2 + x4))) (2 ^ (min (Int.toNat (1 : Int)) IntKind.u64.bits)))))), (20, .p (.int .i64 x10)), (24, .p (.int .i64 (IntKind.i64.wrap ((IntKind.i64.wrap ((IntKind.i64.wrap (Int.fdiv (IntKind.u64.wrap (IntKind.i64.wrap (x2 + x4))) (2 ^ (min (Int.toNat (1 : Int)) IntKind.u64.bits)))) + x3)) - x10))))]) (fun x17 => [.vec 3 1 (intRows .i64 x17)]) (F_slices_symMergeCmpFunc_int__rows_Sort_c1_k19 n x2 x10 x4 g74_39 x1 x5 x6 x3) (r := r) ?_ ?_
            · intro x17 h
              unfold F_slices_symMergeCmpFunc_int__rows_Sort_c1_k19 at h
              conv => whnf
              refine SeqA.cut (S := List Int) (fun x18 => [(0, .vsl 0 x1), (3, .p (.int .i64 x4)), (4, .p (.clo 39 [PV.hp [PV.sl (slRows valC x5)], PV.hp [PV.sl (boolRows x6)]])), (18, .p (.int .i64 (IntKind.i64.wrap (Int.fdiv (IntKind.u64.wrap (IntKind.i64.wrap (x2 + x4))) (2 ^ (min (Int.toNat (1 : Int)) IntKind.u64.bits)))))), (24, .p (.int .i64 (IntKind.i64.wrap ((IntKind.i64.wrap ((IntKind.i64.wrap (Int.fdiv (IntKind.u64.wrap (IntKind.i64.wrap (x2 + x4))) (2 ^ (min (Int.toNat (1 : Int)) IntKind.u64.bits)))) + x3)) - x10))))]) (fun x18 => [.vec 3 1 (intRows .i64 x18)]) (F_slices_symMergeCmpFunc_int__rows_Sort_c1_k20 n x2 x4 x3 x10 g74_39 x1 x5 x6) (r := r) ?_ ?_
              · intro x18 h
                unfold F_slices_symMergeCmpFunc_int__rows_Sort_c1_k20 at h
                conv => whnf
                iterate 3 (refine And.intro (fun h => h) ?_)
                conv => whnf
                refine ⟨fun hc => ?_, fun hc => ?_⟩
                · replace h := cond_t h hc
                  conv => whnf
                  replace h := bnd_some h
                  obtain ⟨x19, h8, h⟩ := h
                  refine CallsO.use (g74_39_ok _ _ _ _ _ _ _ _  h8) [0] [] ⟨rfl, rfl, rfl, rfl, rfl, rfl⟩ (by repeat (first | exact trivial | exact .inl rfl | exact rfl | exact List.not_mem_nil | (refine .inr ?_) | (refine ⟨?_, ?_⟩) | exact List.length_set.symm | decide)) (by repeat (first | exact trivial | exact .inl rfl | exact rfl | exact List.not_mem_nil | (refine .inr ?_) | (refine ⟨?_, ?_⟩) | exact List.length_set.symm | decide)) ?_
                  rintro _ _ ⟨rfl, rfl⟩
                  refine ⟨.p (.tup []), [.vec 3 1 (intRows .i64 x19)], rfl, rfl, ?_⟩
                  obtain rfl := Option.some.inj h
                  conv => whnf
                  refine ⟨_, _, ⟨rfl, rfl⟩, ⟨[0], [], ⟨rfl, rfl, rfl, rfl⟩, by repeat (first | exact trivial | exact .inl rfl | exact rfl | exact List.not_mem_nil | (refine .inr ?_) | (refine ⟨?_, ?_⟩) | exact List.length_set.symm | decide), by repeat (first | exact trivial | exact .inl rfl | exact rfl | exact List.not_mem_nil | (refine .inr ?_) | (refine ⟨?_, ?_⟩) | exact List.length_set.symm | decide)⟩⟩
                · replace h := cond_f h hc
                  obtain rfl := Option.some.inj h
                  conv => whnf
                  refine ⟨_, _, ⟨rfl, rfl⟩, ⟨[0], [], ⟨rfl, rfl, rfl, rfl⟩, by repeat (first | exact trivial | exact .inl rfl | exact rfl | exact List.not_mem_nil | (refine .inr ?_) | (refine ⟨?_, ?_⟩) | exact List.length_set.symm | decide), by repeat (first | exact trivial | exact .inl rfl | exact rfl | exact List.not_mem_nil | (refine .inr ?_) | (refine ⟨?_, ?_⟩) | exact List.length_set.symm | decide)⟩⟩
              · conv => whnf
                refine And.intro (fun h => h) ?_
                conv => whnf
                iterate 2 (refine And.intro (fun h => h) ?_)
                conv => whnf
                refine ⟨fun hc => ?_, fun hc => ?_⟩
                · replace h := cond_t h hc
                  conv => whnf
                  replace h := bnd_some h
                  obtain ⟨x20, h9, h⟩ := h
                  refine CallsO.use (g74_39_ok _ _ _ _ _ _ _ _  h9) [0] [] ⟨rfl, rfl, rfl, rfl, rfl, rfl⟩ (by repeat (first | exact trivial | exact .inl rfl | exact rfl | exact List.not_mem_nil | (refine .inr ?_) | (refine ⟨?_, ?_⟩) | exact List.length_set.symm | decide)) (by repeat (first | exact trivial | exact .inl rfl | exact rfl | exact List.not_mem_nil | (refine .inr ?_) | (refine ⟨?_, ?_⟩) | exact List.length_set.symm | decide)) ?_
                  rintro _ _ ⟨rfl, rfl⟩
                  refine ⟨.p (.tup []), [.vec 3 1 (intRows .i64 x20)], rfl, rfl, ?_⟩
                  conv => whnf
                  exact ⟨x20, h, ⟨[0], [], ⟨rfl, rfl, rfl, rfl⟩, by repeat (first | exact trivial | exact .inl rfl | exact rfl | exact List.not_mem_nil | (refine .inr ?_) | (refine ⟨?_, ?_⟩) | exact List.length_set.symm | decide), by repeat (first | exact trivial | exact .inl rfl | exact rfl | exact List.not_mem_nil | (refine .inr ?_) | (refine ⟨?_, ?_⟩) | exact List.length_set.symm | decide)⟩⟩
                · replace h := cond_f h hc
                  conv => whnf
                  exact ⟨x17, h, ⟨[0], [], ⟨rfl, rfl, rfl, rfl⟩, by repeat (first | exact trivial | exact .inl rfl | exact rfl | exact List.not_mem_nil | (refine .inr ?_) | (refine ⟨?_, ?_⟩) | exact List.length_set.symm | decide), by repeat (first | exact trivial | exact .inl rfl | exact rfl | exact List.not_mem_nil | (refine .inr ?_) | (refine ⟨?_, ?_⟩) | exact List.length_set.symm | decide)⟩⟩
            · conv => whnf
              refine And.intro (fun h => h) ?_
              conv => whnf
              iterate 2 (refine And.intro (fun h => h) ?_)
              conv => whnf
              refine ⟨fun hc => ?_, fun hc => ?_⟩
              · replace h := cond_t h hc
                conv => whnf
                replace h := bnd_some h
                obtain ⟨x21, h10, h⟩ := h
                refine CallsO.use (F_slices_rotateCmpFunc_int__rows_Sort_c1_ok n _ _ _ _ _ _ _ _  h10) [0] [] ⟨rfl, rfl, rfl, rfl, rfl, rfl⟩ (by repeat (first | exact trivial | exact .inl rfl | exact rfl | exact List.not_mem_nil | (refine .inr ?_) | (refine ⟨?_, ?_⟩) | exact List.length_set.symm | decide)) (by repeat (first | exact trivial | exact .inl rfl | exact rfl | exact List.not_mem_nil | (refine .inr ?_) | (refine ⟨?_, ?_⟩) | exact List.length_set.symm | decide)) ?_
                rintro _ _ ⟨rfl, rfl⟩
                refine ⟨.p (.tup []), [.vec 3 1 (intRows .i64 x21)], rfl, rfl, ?_⟩
                conv => whnf
                exact ⟨x21, h, ⟨[0], [], ⟨rfl, rfl, rfl, rfl⟩, by repeat (first | exact trivial | exact .inl rfl | exact rfl | exact List.not_mem_nil | (refine .inr ?_) | (refine ⟨?_, ?_⟩) | exact List.length_set.symm | decide), by repeat (first | exact trivial | exact .inl rfl | exact rfl | exact List.not_mem_nil | (refine .inr ?_) | (refine ⟨?_, ?_⟩) | exact List.length_set.symm | decide)⟩⟩
              · replace h := cond_f h hc
                conv => whnf
                exact ⟨x7, h, ⟨[0], [], ⟨rfl, rfl, rfl, rfl⟩, by repeat (first | exact trivial | exact .inl rfl | exact rfl | exact List.not_mem_nil | (refine .inr ?_) | (refine ⟨?_, ?_⟩) | exact List.length_set.symm | decide), by repeat (first | exact trivial | exact .inl rfl | exact rfl | exact List.not_mem_nil | (refine .inr ?_) | (refine ⟨?_, ?_⟩) | exact List.length_set.symm | decide)⟩⟩
      · conv => whnf
        refine ⟨fun hc => ?_, fun hc => ?_⟩
        · replace h := cond_t h hc
          conv => whnf
          exact ⟨((IntKind.i64.wrap ((IntKind.i64.wrap ((IntKind.i64.wrap (Int.fdiv (IntKind.u64.wrap (IntKind.i64.wrap (x2 + x4))) (2 ^ (min (Int.toNat (1 : Int)) IntKind.u64.bits)))) + x3)) - x4)), (IntKind.i64.wrap (Int.fdiv (IntKind.u64.wrap (IntKind.i64.wrap (x2 + x4))) (2 ^ (min (Int.toNat (1 : Int)) IntKind.u64.bits))))), h, ⟨[0], [], ⟨rfl, rfl, rfl, rfl⟩, by repeat (first | exact trivial | exact .inl rfl | exact rfl | exact List.not_mem_nil | (refine .inr ?_) | (refine ⟨?_, ?_⟩) | exact List.length_set.symm | decide), by repeat (first | exact trivial | exact .inl rfl | exact rfl | exact List.not_mem_nil | (refine .inr ?_) | (refine ⟨?_, ?_⟩) | exact List.length_set.symm | decide)⟩⟩
        · replace h := cond_f h hc
          conv => whnf
          exact ⟨(x2, x3), h, ⟨[0], [], ⟨rfl, rfl, rfl, rfl⟩, by repeat (first | exact trivial | exact .inl rfl | exact rfl | exact List.not_mem_nil | (refine .inr ?_) | (refine ⟨?_, ?_⟩) | exact List.length_set.symm | decide), by repeat (first | exact trivial | exact .inl rfl | exact rfl | exact List.not_mem_nil | (refine .inr ?_) | (refine ⟨?_, ?_⟩) | exact List.length_set.symm | decide)⟩⟩
    · conv => whnf
      refine ⟨fun hc => ?_, fun hc => ?_⟩
      · replace h := cond_t h hc
        conv => whnf
        refine LoopA.fn [74, 82, 1000001, 1000000] (S := Int × Int) (fun (x22, x23) => [(0, .vsl 0 x1), (2, .p (.int .i64 x3)), (4, .p (.clo 39 [PV.hp [PV.sl (slRows valC x5)], PV.hp [PV.sl (boolRows x6)]])), (14, .p (.int .i64 x22)), (15, .p (.int .i64 x23))]) (fun (x22, x23) => [.vec 3 1 (intRows .i64 x7)]) (B := F_slices_symMergeCmpFunc_int__rows_Sort_c1_l2 n x3 x1 x7 x5 x6) h ⟨[0], [], ⟨rfl, rfl, rfl, rfl⟩, by repeat (first | exact trivial | exact .inl rfl | exact rfl | exact List.not_mem_nil | (refine .inr ?_) | (refine ⟨?_, ?_⟩) | exact List.length_set.symm | decide), by repeat (first | exact trivial | exact .inl rfl | exact rfl | exact List.not_mem_nil | (refine .inr ?_) | (refine ⟨?_, ?_⟩) | exact List.length_set.symm | decide)⟩ ?_
        intro nx2 st h
        obtain ⟨x22, x23⟩ := st
        unfold F_slices_symMergeCmpFunc_int__rows_Sort_c1_l2 at h
        conv => whnf
        refine SeqA.cut (S := Unit) (fun _ => [(0, .vsl 0 x1), (2, .p (.int .i64 x3)), (4, .p (.clo 39 [PV.hp [PV.sl (slRows valC x5)], PV.hp [PV.sl (boolRows x6)]])), (14, .p (.int .i64 x22)), (15, .p (.int .i64 x23))]) (fun _ => [.vec 3 1 (intRows .i64 x7)]) (F_slices_symMergeCmpFunc_int__rows_Sort_c1_k23 n x3 x1 x7 x22 x23 x5 x6 nx2) (r := r) ?_ ?_
        · intro _ h
          unfold F_slices_symMergeCmpFunc_int__rows_Sort_c1_k23 at h
          conv => whnf
          refine ⟨by unfold gI; decide, ?_⟩
          conv => whnf
          replace h := bnd_some h
          obtain ⟨x24, h17, h⟩ := h
          have hj := natI_some h17
          conv => whnf
          obtain ⟨h16, h⟩ := chk_some h
          refine ⟨x24, ⟨hj, of_decide_eq_true h16⟩, ?_⟩
          conv => whnf
          replace h := bnd_some h
          obtain ⟨x25, h15, h⟩ := h
          refine ⟨_, ⟨rfl, Codec.getN (intC .i64) h15⟩, ?_⟩
          conv => whnf
          replace h := bnd_some h
          obtain ⟨x26, h14, h⟩ := h
          have hj := natI_some h14
          conv => whnf
          obtain ⟨h13, h⟩ := chk_some h
          refine ⟨x26, ⟨hj, of_decide_eq_true h13⟩, ?_⟩
          conv => whnf
          replace h := bnd_some h
          obtain ⟨x27, h12, h⟩ := h
          refine ⟨_, ⟨rfl, Codec.getN (intC .i64) h12⟩, ?_⟩
          conv => whnf
          replace h := bnd_some h
          obtain ⟨x28, h11, h⟩ := h
          refine ⟨_, (F_rows_Sort_c1_ok n _ _ _ _  _ h11), ?_⟩
          conv => whnf
          refine ⟨fun hc => ?_, fun hc => ?_⟩
          · replace h := cond_t h hc
            conv => whnf
            exact ⟨((IntKind.i64.wrap ((IntKind.i64.wrap (Int.fdiv (IntKind.u64.wrap (IntKind.i64.wrap (x22 + x23))) (2 ^ (min (Int.toNat (1 : Int)) IntKind.u64.bits)))) + (1 : Int))), x23), h, ⟨[0], [], ⟨rfl, rfl, rfl, rfl⟩, by repeat (first | exact trivial | exact .inl rfl | exact rfl | exact List.not_mem_nil | (refine .inr ?_) | (refine ⟨?_, ?_⟩) | exact List.length_set.symm | decide), by repeat (first | exact trivial | exact .inl rfl | exact rfl | exact List.not_mem_nil | (refine .inr ?_) | (refine ⟨?_, ?_⟩) | exact List.length_set.symm | decide)⟩⟩
          · replace h := cond_f h hc
            conv => whnf
            exact ⟨(x22, (IntKind.i64.wrap (Int.fdiv (IntKind.u64.wrap (IntKind.i64.wrap (x22 + x23))) (2 ^ (min (Int.toNat (1 : Int)) IntKind.u64.bits))))), h, ⟨[0], [], ⟨rfl, rfl, rfl, rfl⟩, by repeat (first | exact trivial | exact .inl rfl | exact rfl | exact List.not_mem_nil | (refine .inr ?_) | (refine ⟨?_, ?_⟩) | exact List.length_set.symm | decide), by repeat (first | exact trivial | exact .inl rfl | exact rfl | exact List.not_mem_nil | (refine .inr ?_) | (refine ⟨?_, ?_⟩) | exact List.length_set.symm | decide)⟩⟩
        · conv => whnf
          refine ⟨fun hc => ?_, fun hc => ?_⟩
          · replace h := cond_t h hc
            conv => whnf
            exact ⟨(), h, ⟨[0], [], ⟨rfl, rfl, rfl, rfl⟩, by repeat (first | exact trivial | exact .inl rfl | exact rfl | exact List.not_mem_nil | (refine .inr ?_) | (refine ⟨?_, ?_⟩) | exact List.length_set.symm | decide), by repeat (first | exact trivial | exact .inl rfl | exact rfl | exact List.not_mem_nil | (refine .inr ?_) | (refine ⟨?_, ?_⟩) | exact List.length_set.symm | decide)⟩⟩
          · replace h := cond_f h hc
            conv => whnf
            refine LoopA.fn [74, 82, 1000001, 1000000] (S := Int × List Int) (fun (x29, x30) => [(0, .vsl 0 x1), (14, .p (.int .i64 x22)), (17, .p (.int .i64 x29))]) (fun (x29, x30) => [.vec 3 1 (intRows .i64 x30)]) (B := F_slices_symMergeCmpFunc_int__rows_Sort_c1_l3 n x22 x1) h ⟨[0], [], ⟨rfl, rfl, rfl, rfl⟩, by repeat (first | exact trivial | exact .inl rfl | exact rfl | exact List.not_mem_nil | (refine .inr ?_) | (refine ⟨?_, ?_⟩) | exact List.length_set.symm | decide), by repeat (first | exact trivial | exact .inl rfl | exact rfl | exact List.not_mem_nil | (refine .inr ?_) | (refine ⟨?_, ?_⟩) | exact List.length_set.symm | decide)⟩ ?_
            intro nx3 st h
            obtain ⟨x29, x30⟩ := st
            unfold F_slices_symMergeCmpFunc_int__rows_Sort_c1_l3 at h
            conv => whnf
            refine SeqA.cut (S := Unit) (fun _ => [(0, .vsl 0 x1), (14, .p (.int .i64 x22)), (17, .p (.int .i64 x29))]) (fun _ => [.vec 3 1 (intRows .i64 x30)]) (F_slices_symMergeCmpFunc_int__rows_Sort_c1_k26 n x29 x1 x30 nx3) (r := r) ?_ ?_
            · intro _ h
              unfold F_slices_symMergeCmpFunc_int__rows_Sort_c1_k26 at h
              conv => whnf
              replace h := bnd_some h
              obtain ⟨x31, h29, h⟩ := h
              have hj := natI_some h29
              conv => whnf
              obtain ⟨h28, h⟩ := chk_some h
              refine ⟨x31, ⟨hj, of_decide_eq_true h28⟩, ?_⟩
              conv => whnf
              replace h := bnd_some h
              obtain ⟨x32, h27, h⟩ := h
              refine ⟨_, ⟨rfl, Codec.getN (intC .i64) h27⟩, ?_⟩
              conv => whnf
              replace h := bnd_some h
              obtain ⟨x33, h26, h⟩ := h
              have hj := natI_some h26
              conv => whnf
              obtain ⟨h25, h⟩ := chk_some h
              refine ⟨x33, ⟨hj, of_decide_eq_true h25⟩, ?_⟩
              conv => whnf
              replace h := bnd_some h
              obtain ⟨x34, h24, h⟩ := h
              refine ⟨_, ⟨rfl, Codec.getN (intC .i64) h24⟩, ?_⟩
              conv => whnf
              replace h := bnd_some h
              obtain ⟨x35, h23, h⟩ := h
              have hj := natI_some h23
              conv => whnf
              obtain ⟨h22, h⟩ := chk_some h
              refine ⟨x35, ⟨hj, of_decide_eq_true h22⟩, ?_⟩
              conv => whnf
              replace h := bnd_some h
              obtain ⟨x36, h21, h⟩ := h
              refine ⟨_, ⟨rfl, Codec.getN (intC .i64) h21, rfl⟩, ?_⟩
              conv => whnf
              refine ⟨_, Codec.setN (intC .i64) x30 x35 x32, ?_⟩
              conv => whnf
              replace h := bnd_some h
              obtain ⟨x37, h20, h⟩ := h
              have hj := natI_some h20
              conv => whnf
              obtain ⟨h19, h⟩ := chk_some h
              refine ⟨x37, ⟨hj, of_decide_eq_true h19⟩, ?_⟩
              conv => whnf
              replace h := bnd_some h
              obtain ⟨x38, h18, h⟩ := h
              refine ⟨_, ⟨rfl, Codec.getN (intC .i64) h18, rfl⟩, ?_⟩
              conv => whnf
              refine ⟨_, Codec.setN (intC .i64) (x30.set x35 x32) x37 x34, ?_⟩
              conv => whnf
              exact ⟨((IntKind.i64.wrap (x29 - (1 : Int))), ((x30.set x35 x32).set x37 x34)), h, ⟨[0], [], ⟨rfl, rfl, rfl, rfl⟩, by repeat (first | exact trivial | exact .inl rfl | exact rfl | exact List.not_mem_nil | (refine .inr ?_) | (refine ⟨?_, ?_⟩) | exact List.length_set.symm | decide), by repeat (first | exact trivial | exact .inl rfl | exact rfl | exact List.not_mem_nil | (refine .inr ?_) | (refine ⟨?_, ?_⟩) | exact List.length_set.symm | decide)⟩⟩
            · conv => whnf
              refine ⟨fun hc => ?_, fun hc => ?_⟩
              · replace h := cond_t h hc
                conv => whnf
                exact ⟨(), h, ⟨[0], [], ⟨rfl, rfl, rfl, rfl⟩, by repeat (first | exact trivial | exact .inl rfl | exact rfl | exact List.not_mem_nil | (refine .inr ?_) | (refine ⟨?_, ?_⟩) | exact List.length_set.symm | decide), by repeat (first | exact trivial | exact .inl rfl | exact rfl | exact List.not_mem_nil | (refine .inr ?_) | (refine ⟨?_, ?_⟩) | exact List.length_set.symm | decide)⟩⟩
              · replace h := cond_f h hc
                obtain rfl := Option.some.inj h
                conv => whnf
                refine ⟨_, _, ⟨rfl, rfl⟩, ⟨[0], [], ⟨rfl, rfl, rfl, rfl⟩, by repeat (first | exact trivial | exact .inl rfl | exact rfl | exact List.not_mem_nil | (refine .inr ?_) | (refine ⟨?_, ?_⟩) | exact List.length_set.symm | decide), by repeat (first | exact trivial | exact .inl rfl | exact rfl | exact List.not_mem_nil | (refine .inr ?_) | (refine ⟨?_, ?_⟩) | exact List.length_set.symm | decide)⟩⟩
      · replace h := cond_f h hc
        conv => whnf
        exact ⟨(), h, ⟨[0], [], ⟨rfl, rfl, rfl, rfl⟩, by repeat (first | exact trivial | exact .inl rfl | exact rfl | exact List.not_mem_nil | (refine .inr ?_) | (refine ⟨?_, ?_⟩) | exact List.length_set.symm | decide), by repeat (first | exact trivial | exact .inl rfl | exact rfl | exact List.not_mem_nil | (refine .inr ?_) | (refine ⟨?_, ?_⟩) | exact List.length_set.symm | decide)⟩⟩
  · conv => whnf
    refine ⟨fun hc => ?_, fun hc => ?_⟩
    · replace h := cond_t h hc
      conv => whnf
      refine LoopA.fn [74, 82, 1000001, 1000000] (S := Int × Int) (fun (x39, x40) => [(0, .vsl 0 x1), (1, .p (.int .i64 x2)), (4, .p (.clo 39 [PV.hp [PV.sl (slRows valC x5)], PV.hp [PV.sl (boolRows x6)]])), (10, .p (.int .i64 x39)), (11, .p (.int .i64 x40))]) (fun (x39, x40) => [.vec 3 1 (intRows .i64 x7)]) (B := F_slices_symMergeCmpFunc_int__rows_Sort_c1_l4 n x1 x7 x2 x5 x6) h ⟨[0], [], ⟨rfl, rfl, rfl, rfl⟩, by repeat (first | exact trivial | exact .inl rfl | exact rfl | exact List.not_mem_nil | (refine .inr ?_) | (refine ⟨?_, ?_⟩) | exact List.length_set.symm | decide), by repeat (first | exact trivial | exact .inl rfl | exact rfl | exact List.not_mem_nil | (refine .inr ?_) | (refine ⟨?_, ?_⟩) | exact List.length_set.symm | decide)⟩ ?_
      intro nx4 st h
      obtain ⟨x39, x40⟩ := st
      unfold F_slices_symMergeCmpFunc_int__rows_Sort_c1_l4 at h
      conv => whnf
      refine SeqA.cut (S := Unit) (fun _ => [(0, .vsl 0 x1), (1, .p (.int .i64 x2)), (4, .p (.clo 39 [PV.hp [PV.sl (slRows valC x5)], PV.hp [PV.sl (boolRows x6)]])), (10, .p (.int .i64 x39)), (11, .p (.int .i64 x40))]) (fun _ => [.vec 3 1 (intRows .i64 x7)]) (F_slices_symMergeCmpFunc_int__rows_Sort_c1_k29 n x39 x40 x1 x7 x2 x5 x6 nx4) (r := r) ?_ ?_
      · intro _ h
        unfold F_slices_symMergeCmpFunc_int__rows_Sort_c1_k29 at h
        conv => whnf
        refine ⟨by unfold gI; decide, ?_⟩
        conv => whnf
        replace h := bnd_some h
        obtain ⟨x41, h36, h⟩ := h
        have hj := natI_some h36
        conv => whnf
        obtain ⟨h35, h⟩ := chk_some h
        refine ⟨x41, ⟨hj, of_decide_eq_true h35⟩, ?_⟩
        conv => whnf
        replace h := bnd_some h
        obtain ⟨x42, h34, h⟩ := h
        refine ⟨_, ⟨rfl, Codec.getN (intC .i64) h34⟩, ?_⟩
        conv => whnf
        replace h := bnd_some h
        obtain ⟨x43, h33, h⟩ := h
        have hj := natI_some h33
        conv => whnf
        obtain ⟨h32, h⟩ := chk_some h
        refine ⟨x43, ⟨hj, of_decide_eq_true h32⟩, ?_⟩
        conv => whnf
        replace h := bnd_some h
        obtain ⟨x44, h31, h⟩ := h
        refine ⟨_, ⟨rfl, Codec.getN (intC .i64) h31⟩, ?_⟩
        conv => whnf
        replace h := bnd_some h
        obtain ⟨x45, h30, h⟩ := h
        refine ⟨_, (F_rows_Sort_c1_ok n _ _ _ _  _ h30), ?_⟩
        conv => whnf
        refine ⟨fun hc => ?_, fun hc => ?_⟩
        · replace h := cond_t h hc
          conv => whnf
          exact ⟨((IntKind.i64.wrap ((IntKind.i64.wrap (Int.fdiv (IntKind.u64.wrap (IntKind.i64.wrap (x39 + x40))) (2 ^ (min (Int.toNat (1 : Int)) IntKind.u64.bits)))) + (1 : Int))), x40), h, ⟨[0], [], ⟨rfl, rfl, rfl, rfl⟩, by repeat (first | exact trivial | exact .inl rfl | exact rfl | exact List.not_mem_nil | (refine .inr ?_) | (refine ⟨?_, ?_⟩) | exact List.length_set.symm | decide), by repeat (first | exact trivial | exact .inl rfl | exact rfl | exact List.not_mem_nil | (refine .inr ?_) | (refine ⟨?_, ?_⟩) | exact List.length_set.symm | decide)⟩⟩
        · replace h := cond_f h hc
          conv => whnf
          exact ⟨(x39, (IntKind.i64.wrap (Int.fdiv (IntKind.u64.wrap (IntKind.i64.wrap (x39 + x40))) (2 ^ (min (Int.toNat (1 : Int)) IntKind.u64.bits))))), h, ⟨[0], [], ⟨rfl, rfl, rfl, rfl⟩, by repeat (first | exact trivial | exact .inl rfl | exact rfl | exact List.not_mem_nil | (refine .inr ?_) | (refine ⟨?_, ?_⟩) | exact List.length_set.symm | decide), by repeat (first | exact trivial | exact .inl rfl | exact rfl | exact List.not_mem_nil | (refine .inr ?_) | (refine ⟨?_, ?_⟩) | exact List.length_set.symm | decide)⟩⟩
      · conv => whnf
        refine ⟨fun hc => ?_, fun hc => ?_⟩
        · replace h := cond_t h hc
          conv => whnf
          exact ⟨(), h, ⟨[0], [], ⟨rfl, rfl, rfl, rfl⟩, by repeat (first | exact trivial | exact .inl rfl | exact rfl | exact List.not_mem_nil | (refine .inr ?_) | (refine ⟨?_, ?_⟩) | exact List.length_set.symm | decide), by repeat (first | exact trivial | exact .inl rfl | exact rfl | exact List.not_mem_nil | (refine .inr ?_) | (refine ⟨?_, ?_⟩) | exact List.length_set.symm | decide)⟩⟩
        · replace h := cond_f h hc
          conv => whnf
          refine LoopA.fn [74, 82, 1000001, 1000000] (S := Int × List Int) (fun (x46, x47) => [(0, .vsl 0 x1), (10, .p (.int .i64 x39)), (13, .p (.int .i64 x46))]) (fun (x46, x47) => [.vec 3 1 (intRows .i64 x47)]) (B := F_slices_symMergeCmpFunc_int__rows_Sort_c1_l5 n x39 x1) h ⟨[0], [], ⟨rfl, rfl, rfl, rfl⟩, by repeat (first | exact trivial | exact .inl rfl | exact rfl | exact List.not_mem_nil | (refine .inr ?_) | (refine ⟨?_, ?_⟩) | exact List.length_set.symm | decide), by repeat (first | exact trivial | exact .inl rfl | exact rfl | exact List.not_mem_nil | (refine .inr ?_) | (refine ⟨?_, ?_⟩) | exact List.length_set.symm | decide)⟩ ?_
          intro nx5 st h
          obtain ⟨x46, x47⟩ := st
          unfold F_slices_symMergeCmpFunc_int__rows_Sort_c1_l5 at h
          conv => whnf
          refine SeqA.cut (S := Unit) (fun _ => [(0, .vsl 0 x1), (10, .p (.int .i64 x39)), (13, .p (.int .i64 x46))]) (fun _ => [.vec 3 1 (intRows .i64 x47)]) (F_slices_symMergeCmpFunc_int__rows_Sort_c1_k32 n x46 x1 x47 nx5) (r := r) ?_ ?_
          · intro _ h
            unfold F_slices_symMergeCmpFunc_int__rows_Sort_c1_k32 at h
            conv => whnf
            replace h := bnd_some h
            obtain ⟨x48, h48, h⟩ := h
            have hj := natI_some h48
            conv => whnf
            obtain ⟨h47, h⟩ := chk_some h
            refine ⟨x48, ⟨hj, of_decide_eq_true h47⟩, ?_⟩
            conv => whnf
            replace h := bnd_some h
            obtain ⟨x49, h46, h⟩ := h
            refine ⟨_, ⟨rfl, Codec.getN (intC .i64) h46⟩, ?_⟩
            conv => whnf
            replace h := bnd_some h
            obtain ⟨x50, h45, h⟩ := h
            have hj := natI_some h45
            conv => whnf
            obtain ⟨h44, h⟩ := chk_some h
            refine ⟨x50, ⟨hj, of_decide_eq_true h44⟩, ?_⟩
            conv => whnf
            replace h := bnd_some h
            obtain ⟨x51, h43, h⟩ := h
            refine ⟨_, ⟨rfl, Codec.getN (intC .i64) h43⟩, ?_⟩
            conv => whnf
            replace h := bnd_some h
            obtain ⟨x52, h42, h⟩ := h
            have hj := natI_some h42
            conv => whnf
            obtain ⟨h41, h⟩ := chk_some h
            refine ⟨x52, ⟨hj, of_decide_eq_true h41⟩, ?_⟩
            conv => whnf
            replace h := bnd_some h
            obtain ⟨x53, h40, h⟩ := h
            refine ⟨_, ⟨rfl, Codec.getN (intC .i64) h40, rfl⟩, ?_⟩
            conv => whnf
            refine ⟨_, Codec.setN (intC .i64) x47 x52 x49, ?_⟩
            conv => whnf
            replace h := bnd_some h
            obtain ⟨x54, h39, h⟩ := h
            have hj := natI_some h39
            conv => whnf
            obtain ⟨h38, h⟩ := chk_some h
            refine ⟨x54, ⟨hj, of_decide_eq_true h38⟩, ?_⟩
            conv => whnf
            replace h := bnd_some h
            obtain ⟨x55, h37, h⟩ := h
            refine ⟨_, ⟨rfl, Codec.getN (intC .i64) h37, rfl⟩, ?_⟩
            conv => whnf
            refine ⟨_, Codec.setN (intC .i64) (x47.set x52 x49) x54 x51, ?_⟩
            conv => whnf
            exact ⟨((IntKind.i64.wrap (x46 + (1 : Int))), ((x47.set x52 x49).set x54 x51)), h, ⟨[0], [], ⟨rfl, rfl, rfl, rfl⟩, by repeat (first | exact trivial | exact .inl rfl | exact rfl | exact List.not_mem_nil | (refine .inr ?_) | (refine ⟨?_, ?_⟩) | exact List.length_set.symm | decide), by repeat (first | exact trivial | exact .inl rfl | exact rfl | exact List.not_mem_nil | (refine .inr ?_) | (refine ⟨?_, ?_⟩) | exact List.length_set.symm | decide)⟩⟩
          · conv => whnf
            refine ⟨fun hc => ?_, fun hc => ?_⟩
            · replace h := cond_t h hc
              conv => whnf
              exact ⟨(), h, ⟨[0], [], ⟨rfl, rfl, rfl, rfl⟩, by repeat (first | exact trivial | exact .inl rfl | exact rfl | exact List.not_mem_nil | (refine .inr ?_) | (refine ⟨?_, ?_⟩) | exact List.length_set.symm | decide), by repeat (first | exact trivial | exact .inl rfl | exact rfl | exact List.not_mem_nil | (refine .inr ?_) | (refine ⟨?_, ?_⟩) | exact List.length_set.symm | decide)⟩⟩
            · replace h := cond_f h hc
              obtain rfl := Option.some.inj h
              conv => whnf
              refine ⟨_, _, ⟨rfl, rfl⟩, ⟨[0], [], ⟨rfl, rfl, rfl, rfl⟩, by repeat (first | exact trivial | exact .inl rfl | exact rfl | exact List.not_mem_nil | (refine .inr ?_) | (refine ⟨?_, ?_⟩) | exact List.length_set.symm | decide), by repeat (first | exact trivial | exact .inl rfl | exact rfl | exact List.not_mem_nil | (refine .inr ?_) | (refine ⟨?_, ?_⟩) | exact List.length_set.symm | decide)⟩⟩
    · replace h := cond_f h hc
      conv => whnf
      exact ⟨(), h, ⟨[0], [], ⟨rfl, rfl, rfl, rfl⟩, by repeat (first | exact trivial | exact .inl rfl | exact rfl | exact List.not_mem_nil | (refine .inr ?_) | (refine ⟨?_, ?_⟩) | exact List.length_set.symm | decide), by repeat (first | exact trivial | exact .inl rfl | exact rfl | exact List.not_mem_nil | (refine .inr ?_) | (refine ⟨?_, ?_⟩) | exact List.length_set.symm | decide)⟩⟩

def F_slices_symMergeCmpFunc_int__rows_Sort_c1 : Nat → Nat → Int → Int → Int → (List (List Val)) → (List Bool) → (List Int) → Option ((List Int))
  | 0 => fun _ _ _ _ _ _ _ => none
  | n + 1 => BF_slices_symMergeCmpFunc_int__rows_Sort_c1 n (F_slices_symMergeCmpFunc_int__rows_Sort_c1 n)

set_option maxRecDepth 100000 in
theorem F_slices_symMergeCmpFunc_int__rows_Sort_c1_all (n : Nat) : (∀ (x1 : Nat) (x2 : Int) (x3 : Int) (x4 : Int) (x5 : List (List Val)) (x6 : List Bool) (x7 : List Int) (r : (List Int)), F_slices_symMergeCmpFunc_int__rows_Sort_c1 n x1 x2 x3 x4 x5 x6 x7 = some r → CallsO Tryd.prog 74 [.vsl 0 x1, .p (PV.int .i64 x2), .p (PV.int .i64 x3), .p (PV.int .i64 x4), .p (PV.clo 39 [PV.hp [PV.sl (slRows valC x5)], PV.hp [PV.sl (boolRows x6)]])] [.vec 3 1 (intRows .i64 x7)] 1 (fun v lo => v = R_F_slices_symMergeCmpFunc_int__rows_Sort_c1 x7 r ∧ lo = L_F_slices_symMergeCmpFunc_int__rows_Sort_c1 x7 r)) := by
  induction n with
  | zero => exact (by intros; rename_i h; cases h)
  | succ n ih =>
    have h0 := ih
    exact BF_slices_symMergeCmpFunc_int__rows_Sort_c1_ok n (F_slices_symMergeCmpFunc_int__rows_Sort_c1 n) h0

set_option maxRecDepth 100000 in
theorem F_slices_symMergeCmpFunc_int__rows_Sort_c1_ok (n : Nat) : ∀ (x1 : Nat) (x2 : Int) (x3 : Int) (x4 : Int) (x5 : List (List Val)) (x6 : List Bool) (x7 : List Int) (r : (List Int)), F_slices_symMergeCmpFunc_int__rows_Sort_c1 n x1 x2 x3 x4 x5 x6 x7 = some r → CallsO Tryd.prog 74 [.vsl 0 x1, .p (PV.int .i64 x2), .p (PV.int .i64 x3), .p (PV.int .i64 x4), .p (PV.clo 39 [PV.hp [PV.sl (slRows valC x5)], PV.hp [PV.sl (boolRows x6)]])] [.vec 3 1 (intRows .i64 x7)] 1 (fun v lo => v = R_F_slices_symMergeCmpFunc_int__rows_Sort_c1 x7 r ∧ lo = L_F_slices_symMergeCmpFunc_int__rows_Sort_c1 x7 r) := (F_slices_symMergeCmpFunc_int__rows_Sort_c1_all n)
end W
end
section
open Go Go.Proofs Ax
namespace W
abbrev R_F_slices_stableCmpFunc_int__rows_Sort_c1 (x5 : List Int) (r : (List Int)) : FV := .p (.tup [])

abbrev L_F_slices_stableCmpFunc_int__rows_Sort_c1 (x5 : List Int) (r : (List Int)) : List AObj := [.vec 3 1 (intRows .i64 r)]

def F_slices_stableCmpFunc_int__rows_Sort_c1_k3 (n : Nat) (nx2 : Int × List Int → Option ((List Int))) (x11 : Int) : List Int → Option ((List Int)) := fun x17 =>
 nx2 ((IntKind.i64.wrap (x11 * (2 : Int))), x17)

def F_slices_stableCmpFunc_int__rows_Sort_c1_l3 (n : Nat) (x2 : Int) (x1 : Nat) (x11 : Int) (x3 : List (List Val)) (x4 : List Bool) (nx2 : Int × List Int → Option ((List Int))) : (Int × Int × List Int → Option ((List Int))) → Int × Int × List Int → Option ((List Int)) := fun nx3 (x13, x14, x15) =>
 bif (decide (x14 ≤ x2)) then (
 bnd (F_slices_symMergeCmpFunc_int__rows_Sort_c1 n x1 x13 (IntKind.i64.wrap (x13 + x11)) x14 x3 x4 x15) fun x16 =>
 nx3 (x14, (IntKind.i64.wrap (x14 + (IntKind.i64.wrap ((2 : Int) * x11)))), x16))
else (
 bif (decide ((IntKind.i64.wrap (x13 + x11)) < x2)) then (
 bnd (F_slices_symMergeCmpFunc_int__rows_Sort_c1 n x1 x13 (IntKind.i64.wrap (x13 + x11)) x2 x3 x4 x15) fun x18 =>
 F_slices_stableCmpFunc_int__rows_Sort_c1_k3 n nx2 x11 x18)
else (
 F_slices_stableCmpFunc_int__rows_Sort_c1_k3 n nx2 x11 x15))

def F_slices_stableCmpFunc_int__rows_Sort_c1_l2 (n : Nat) (x2 : Int) (x1 : Nat) (x3 : List (List Val)) (x4 : List Bool) : (Int × List Int → Option ((List Int))) → Int × List Int → Option ((List Int)) := fun nx2 (x11, x12) =>
 bif (decide (x11 < x2)) then (
 loopK (F_slices_stableCmpFunc_int__rows_Sort_c1_l3 n x2 x1 x11 x3 x4 nx2) n ((0 : Int), (IntKind.i64.wrap ((2 : Int) * x11)), x12))
else (
 some x12)

def F_slices_stableCmpFunc_int__rows_Sort_c1_l1 (n : Nat) (x2 : Int) (x1 : Nat) (x3 : List (List Val)) (x4 : List Bool) : (Int × Int × List Int → Option ((List Int))) → Int × Int × List Int → Option ((List Int)) := fun nx1 (x6, x7, x8) =>
 bif (decide (x7 ≤ x2)) then (
 bnd (F_slices_insertionSortCmpFunc_int__rows_Sort_c1 n x1 x6 x7 x3 x4 x8) fun x9 =>
 nx1 (x7, (IntKind.i64.wrap (x7 + (20 : Int))), x9))
else (
 bnd (F_slices_insertionSortCmpFunc_int__rows_Sort_c1 n x1 x6 x2 x3 x4 x8) fun x10 =>
 loopK (F_slices_stableCmpFunc_int__rows_Sort_c1_l2 n x2 x1 x3 x4) n ((20 : Int), x10))

def F_slices_stableCmpFunc_int__rows_Sort_c1 (n : Nat)  (x1 : Nat) (x2 : Int) (x3 : List (List Val)) (x4 : List Bool) (x5 : List Int) : Option ((List Int)) :=
  loopK (F_slices_stableCmpFunc_int__rows_Sort_c1_l1 n x2 x1 x3 x4) n ((0 : Int), (20 : Int), x5)

set_option maxHeartbeats 4000000 in
set_option maxRecDepth 100000 in
theorem F_slices_stableCmpFunc_int__rows_Sort_c1_ok (n : Nat)   : ∀ (x1 : Nat) (x2 : Int) (x3 : List (List Val)) (x4 : List Bool) (x5 : List Int) (r : (List Int)), F_slices_stableCmpFunc_int__rows_Sort_c1 n x1 x2 x3 x4 x5 = some r → CallsO Tryd.prog 59 [.vsl 0 x1, .p (PV.int .i64 x2), .p (PV.clo 39 [PV.hp [PV.sl (slRows valC x3)], PV.hp [PV.sl (boolRows x4)]])] [.vec 3 1 (intRows .i64 x5)] 1 (fun v lo => v = R_F_slices_stableCmpFunc_int__rows_Sort_c1 x5 r ∧ lo = L_F_slices_stableCmpFunc_int__rows_Sort_c1 x5 r) := by
  intro x1 x2 x3 x4 x5 r h
  unfold F_slices_stableCmpFunc_int__rows_Sort_c1 at h
  refine CallsO.of_vc mixed (fun _ _ => Tryd.call59 _ _) Tryd.func59 (by kernel_rfl) (inl := [73, 74, 1000000]) (Nat.le_of_ble_eq_true rfl) ?_
  conv => whnf
  refine LoopA.fn [73, 74, 1000000] (S := Int × Int × List Int) (fun (x6, x7, x8) => [(0, .vsl 0 x1), (1, .p (.int .i64 x2)), (2, .p (.clo 39 [PV.hp [PV.sl (slRows valC x3)], PV.hp [PV.sl (boolRows x4)]])), (6, .p (.int .i64 (20 : Int))), (7, .p (.int .i64 x6)), (8, .p (.int .i64 x7))]) (fun (x6, x7, x8) => [.vec 3 1 (intRows .i64 x8)]) (B := F_slices_stableCmpFunc_int__rows_Sort_c1_l1 n x2 x1 x3 x4) h ⟨[0], [], ⟨rfl, rfl, rfl, rfl⟩, by repeat (first | exact trivial | exact .inl rfl | exact rfl | exact List.not_mem_nil | (refine .inr ?_) | (refine ⟨?_, ?_⟩) | exact List.length_set.symm | decide), by repeat (first | exact trivial | exact .inl rfl | exact rfl | exact List.not_mem_nil | (refine .inr ?_) | (refine ⟨?_, ?_⟩) | exact List.length_set.symm | decide)⟩ ?_
  intro nx1 st h
  obtain ⟨x6, x7, x8⟩ := st
  unfold F_slices_stableCmpFunc_int__rows_Sort_c1_l1 at h
  conv => whnf
  refine ⟨fun hc => ?_, fun hc => ?_⟩
  · replace h := cond_t h hc
    conv => whnf
    replace h := bnd_some h
    obtain ⟨x9, h1, h⟩ := h
    refine CallsO.use (F_slices_insertionSortCmpFunc_int__rows_Sort_c1_ok n _ _ _ _ _ _ _  h1) [0] [] ⟨rfl, rfl, rfl, rfl, rfl, rfl⟩ (by repeat (first | exact trivial | exact .inl rfl | exact rfl | exact List.not_mem_nil | (refine .inr ?_) | (refine ⟨?_, ?_⟩) | exact List.length_set.symm | decide)) (by repeat (first | exact trivial | exact .inl rfl | exact rfl | exact List.not_mem_nil | (refine .inr ?_) | (refine ⟨?_, ?_⟩) | exact List.length_set.symm | decide)) ?_
    rintro _ _ ⟨rfl, rfl⟩
    refine ⟨.p (.tup []), [.vec 3 1 (intRows .i64 x9)], rfl, rfl, ?_⟩
    conv => whnf
    exact ⟨(x7, (IntKind.i64.wrap (x7 + (20 : Int))), x9), h, ⟨[0], [], ⟨rfl, rfl, rfl, rfl⟩, by repeat (first | exact trivial | exact .inl rfl | exact rfl | exact List.not_mem_nil | (refine .inr ?_) | (refine ⟨?_, ?_⟩) | exact List.length_set.symm | decide), by repeat (first | exact trivial | exact .inl rfl | exact rfl | exact List.not_mem_nil | (refine .inr ?_) | (refine ⟨?_, ?_⟩) | exact List.length_set.symm | decide)⟩⟩
  · replace h := cond_f h hc
    conv => whnf
    replace h := bnd_some h
    obtain ⟨x10, h2, h⟩ := h
    refine CallsO.use (F_slices_insertionSortCmpFunc_int__rows_Sort_c1_ok n _ _ _ _ _ _ _  h2) [0] [] ⟨rfl, rfl, rfl, rfl, rfl, rfl⟩ (by repeat (first | exact trivial | exact .inl rfl | exact rfl | exact List.not_mem_nil | (refine .inr ?_) | (refine ⟨?_, ?_⟩) | exact List.length_set.symm | decide)) (by repeat (first | exact trivial | exact .inl rfl | exact rfl | exact List.not_mem_nil | (refine .inr ?_) | (refine ⟨?_, ?_⟩) | exact List.length_set.symm | decide)) ?_
    rintro _ _ ⟨rfl, rfl⟩
    refine ⟨.p (.tup []), [.vec 3 1 (intRows .i64 x10)], rfl, rfl, ?_⟩
    conv => whnf
    refine LoopA.fn [73, 74, 1000000] (S := Int × List Int) (fun (x11, x12) => [(0, .vsl 0 x1), (1, .p (.int .i64 x2)), (2, .p (.clo 39 [PV.hp [PV.sl (slRows valC x3)], PV.hp [PV.sl (boolRows x4)]])), (6, .p (.int .i64 x11))]) (fun (x11, x12) => [.vec 3 1 (intRows .i64 x12)]) (B := F_slices_stableCmpFunc_int__rows_Sort_c1_l2 n x2 x1 x3 x4) h ⟨[0], [], ⟨rfl, rfl, rfl, rfl⟩, by repeat (first | exact trivial | exact .inl rfl | exact rfl | exact List.not_mem_nil | (refine .inr ?_) | (refine ⟨?_, ?_⟩) | exact List.length_set.symm | decide), by repeat (first | exact trivial | exact .inl rfl | exact rfl | exact List.not_mem_nil | (refine .inr ?_) | (refine ⟨?_, ?_⟩) | exact List.length_set.symm | decide)⟩ ?_
    intro nx2 st h
    obtain ⟨x11, x12⟩ := st
    unfold F_slices_stableCmpFunc_int__rows_Sort_c1_l2 at h
    conv => whnf
    refine ⟨fun hc => ?_, fun hc => ?_⟩
    · replace h := cond_t h hc
      conv => whnf
      refine LoopA.fn [73, 74, 1000000] (S := Int × Int × List Int) (fun (x13, x14, x15) => [(0, .vsl 0 x1), (1, .p (.int .i64 x2)), (2, .p (.clo 39 [PV.hp [PV.sl (slRows valC x3)], PV.hp [PV.sl (boolRows x4)]])), (6, .p (.int .i64 x11)), (7, .p (.int .i64 x13)), (8, .p (.int .i64 x14))]) (fun (x13, x14, x15) => [.vec 3 1 (intRows .i64 x15)]) (B := F_slices_stableCmpFunc_int__rows_Sort_c1_l3 n x2 x1 x11 x3 x4 nx2) h ⟨[0], [], ⟨rfl, rfl, rfl, rfl⟩, by repeat (first | exact trivial | exact .inl rfl | exact rfl | exact List.not_mem_nil | (refine .inr ?_) | (refine ⟨?_, ?_⟩) | exact List.length_set.symm | decide), by repeat (first | exact trivial | exact .inl rfl | exact rfl | exact List.not_mem_nil | (refine .inr ?_) | (refine ⟨?_, ?_⟩) | exact List.length_set.symm | decide)⟩ ?_
      intro nx3 st h
      obtain ⟨x13, x14, x15⟩ := st
      unfold F_slices_stableCmpFunc_int__rows_Sort_c1_l3 at h
      conv => whnf
      refine ⟨fun hc => ?_, fun hc => ?_⟩
      · replace h := cond_t h hc
        conv => whnf
        replace h := bnd_some h
        obtain ⟨x16, h3, h⟩ := h
        refine CallsO.use (F_slices_symMergeCmpFunc_int__rows_Sort_c1_ok n _ _ _ _ _ _ _ _  h3) [0] [] ⟨rfl, rfl, rfl, rfl, rfl, rfl⟩ (by repeat (first | exact trivial | exact .inl rfl | exact rfl | exact List.not_mem_nil | (refine .inr ?_) | (refine ⟨?_, ?_⟩) | exact List.length_set.symm | decide)) (by repeat (first | exact trivial | exact .inl rfl | exact rfl | exact List.not_mem_nil | (refine .inr ?_) | (refine ⟨?_, ?_⟩) | exact List.length_set.symm | decide)) ?_
        rintro _ _ ⟨rfl, rfl⟩
        refine ⟨.p (.tup []), [.vec 3 1 (intRows .i64 x16)], rfl, rfl, ?_⟩
        conv => whnf
        exact ⟨(x14, (IntKind.i64.wrap (x14 + (IntKind.i64.wrap ((2 : Int) * x11)))), x16), h, ⟨[0], [], ⟨rfl, rfl, rfl, rfl⟩, by repeat (first | exact trivial | exact .inl rfl | exact rfl | exact List.not_mem_nil | (refine .inr ?_) | (refine ⟨?_, ?_⟩) | exact List.length_set.symm | decide), by repeat (first | exact trivial | exact .inl rfl | exact rfl | exact List.not_mem_nil | (refine .inr ?_) | (refine ⟨?_, ?_⟩) | exact List.length_set.symm | decide)⟩⟩
      · replace h := cond_f h hc
        conv => whnf
        refine SeqA.cut (S := List Int) (fun x17 => [(0, .vsl 0 x1), (1, .p (.int .i64 x2)), (2, .p (.clo 39 [PV.hp [PV.sl (slRows valC x3)], PV.hp [PV.sl (boolRows x4)]])), (6, .p (.int .i64 x11))]) (fun x17 => [.vec 3 1 (intRows .i64 x17)]) (F_slices_stableCmpFunc_int__rows_Sort_c1_k3 n nx2 x11) (r := r) ?_ ?_
        · intro x17 h
          unfold F_slices_stableCmpFunc_int__rows_Sort_c1_k3 at h
          conv => whnf
          exact ⟨((IntKind.i64.wrap (x11 * (2 : Int))), x17), h, ⟨[0], [], ⟨rfl, rfl, rfl, rfl⟩, by repeat (first | exact trivial | exact .inl rfl | exact rfl | exact List.not_mem_nil | (refine .inr ?_) | (refine ⟨?_, ?_⟩) | exact List.length_set.symm | decide), by repeat (first | exact trivial | exact .inl rfl | exact rfl | exact List.not_mem_nil | (refine .inr ?_) | (refine ⟨?_, ?_⟩) | exact List.length_set.symm | decide)⟩⟩
        · conv => whnf
          refine ⟨fun hc => ?_, fun hc => ?_⟩
          · replace h := cond_t h hc
            conv => whnf
            replace h := bnd_some h
            obtain ⟨x18, h4, h⟩ := h
            refine CallsO.use (F_slices_symMergeCmpFunc_int__rows_Sort_c1_ok n _ _ _ _ _ _ _ _  h4) [0] [] ⟨rfl, rfl, rfl, rfl, rfl, rfl⟩ (by repeat (first | exact trivial | exact .inl rfl | exact rfl | exact List.not_mem_nil | (refine .inr ?_) | (refine ⟨?_, ?_⟩) | exact List.length_set.symm | decide)) (by repeat (first | exact trivial | exact .inl rfl | exact rfl | exact List.not_mem_nil | (refine .inr ?_) | (refine ⟨?_, ?_⟩) | exact List.length_set.symm | decide)) ?_
            rintro _ _ ⟨rfl, rfl⟩
            refine ⟨.p (.tup []), [.vec 3 1 (intRows .i64 x18)], rfl, rfl, ?_⟩
            conv => whnf
            exact ⟨x18, h, ⟨[0], [], ⟨rfl, rfl, rfl, rfl⟩, by repeat (first | exact trivial | exact .inl rfl | exact rfl | exact List.not_mem_nil | (refine .inr ?_) | (refine ⟨?_, ?_⟩) | exact List.length_set.symm | decide), by repeat (first | exact trivial | exact .inl rfl | exact rfl | exact List.not_mem_nil | (refine .inr ?_) | (refine ⟨?_, ?_⟩) | exact List.length_set.symm | decide)⟩⟩
          · replace h := cond_f h hc
            conv => whnf
            exact ⟨x15, h, ⟨[0], [], ⟨rfl, rfl, rfl, rfl⟩, by repeat (first | exact trivial | exact .inl rfl | exact rfl | exact List.not_mem_nil | (refine .inr ?_) | (refine ⟨?_, ?_⟩) | exact List.length_set.symm | decide), by repeat (first | exact trivial | exact .inl rfl | exact rfl | exact List.not_mem_nil | (refine .inr ?_) | (refine ⟨?_, ?_⟩) | exact List.length_set.symm | decide)⟩⟩
    · replace h := cond_f h hc
      obtain rfl := Option.some.inj h
      conv => whnf
      refine ⟨_, _, ⟨rfl, rfl⟩, ⟨[0], [], ⟨rfl, rfl, rfl, rfl⟩, by repeat (first | exact trivial | exact .inl rfl | exact rfl | exact List.not_mem_nil | (refine .inr ?_) | (refine ⟨?_, ?_⟩) | exact List.length_set.symm | decide), by repeat (first | exact trivial | exact .inl rfl | exact rfl | exact List.not_mem_nil | (refine .inr ?_) | (refine ⟨?_, ?_⟩) | exact List.length_set.symm | decide)⟩⟩

abbrev R_F_slices_SortStableFunc_int_int__rows_Sort_c1 (x4 : List Int) (r : (List Int)) : FV := .p (.tup [])

abbrev L_F_slices_SortStableFunc_int_int__rows_Sort_c1 (x4 : List Int) (r : (List Int)) : List AObj := [.vec 3 1 (intRows .i64 r)]

def F_slices_SortStableFunc_int_int__rows_Sort_c1 (n : Nat)  (x1 : Nat) (x2 : List (List Val)) (x3 : List Bool) (x4 : List Int) : Option ((List Int)) :=
  bnd (F_slices_stableCmpFunc_int__rows_Sort_c1 n x1 ((x1 : Nat) : Int) x2 x3 x4) fun x5 =>
  some x5

set_option maxRecDepth 100000 in
theorem F_slices_SortStableFunc_int_int__rows_Sort_c1_ok (n : Nat)   : ∀ (x1 : Nat) (x2 : List (List Val)) (x3 : List Bool) (x4 : List Int) (r : (List Int)), F_slices_SortStableFunc_int_int__rows_Sort_c1 n x1 x2 x3 x4 = some r → CallsO Tryd.prog 38 [.vsl 0 x1, .p (PV.clo 39 [PV.hp [PV.sl (slRows valC x2)], PV.hp [PV.sl (boolRows x3)]])] [.vec 3 1 (intRows .i64 x4)] 1 (fun v lo => v = R_F_slices_SortStableFunc_int_int__rows_Sort_c1 x4 r ∧ lo = L_F_slices_SortStableFunc_int_int__rows_Sort_c1 x4 r) := by
  intro x1 x2 x3 x4 r h
  unfold F_slices_SortStableFunc_int_int__rows_Sort_c1 at h
  refine CallsO.of_vc mixed (fun _ _ => Tryd.call38 _ _) Tryd.func38 (by kernel_rfl) (inl := [59, 1000000]) (Nat.le_of_ble_eq_true rfl) ?_
  conv => whnf
  replace h := bnd_some h
  obtain ⟨x5, h1, h⟩ := h
  refine CallsO.use (F_slices_stableCmpFunc_int__rows_Sort_c1_ok n _ _ _ _ _ _  h1) [0] [] ⟨rfl, rfl, rfl, rfl, rfl, rfl⟩ (by repeat (first | exact trivial | exact .inl rfl | exact rfl | exact List.not_mem_nil | (refine .inr ?_) | (refine ⟨?_, ?_⟩) | exact List.length_set.symm | decide)) (by repeat (first | exact trivial | exact .inl rfl | exact rfl | exact List.not_mem_nil | (refine .inr ?_) | (refine ⟨?_, ?_⟩) | exact List.length_set.symm | decide)) ?_
  rintro _ _ ⟨rfl, rfl⟩
  refine ⟨.p (.tup []), [.vec 3 1 (intRows .i64 x5)], rfl, rfl, ?_⟩
  obtain rfl := Option.some.inj h
  conv => whnf
  refine ⟨_, _, ⟨rfl, rfl⟩, ⟨[0], [], ⟨rfl, rfl, rfl, rfl⟩, by repeat (first | exact trivial | exact .inl rfl | exact rfl | exact List.not_mem_nil | (refine .inr ?_) | (refine ⟨?_, ?_⟩) | exact List.length_set.symm | decide), by repeat (first | exact trivial | exact .inl rfl | exact rfl | exact List.not_mem_nil | (refine .inr ?_) | (refine ⟨?_, ?_⟩) | exact List.length_set.symm | decide)⟩⟩

abbrev R_F_rows_Sort (r : List (List Val)) : PV := PV.sl (slRows valC r)

def F_rows_Sort_l2 (n : Nat) (x4 : Nat) (x9 : List Int) (x1 : List (List Val)) : (List (List Val) × Int → Option (List (List Val))) → List (List Val) × Int → Option (List (List Val)) := fun nx2 (x10, x11) =>
 bif (decide (x11 < ((((intRows .i64 (List.replicate x4 (0 : Int))).length) : Nat) : Int))) then (
 bnd (natI x11) fun x12 =>
 chk (decide (x12 < (intRows .i64 (List.replicate x4 (0 : Int))).length)) (
 bnd (x9[x12]?) fun x13 =>
 bnd (idx x1 x13) fun x14 =>
 bnd (F_rows_copied n x14) fun x15 =>
 chk (decide ((slRows valC (x10 ++ [x15])).length * 24 ≤ 140737488355328)) (
 nx2 ((x10 ++ [x15]), (IntKind.i64.wrap (x11 + (1 : Int)))))))
else (
 some x10)

def F_rows_Sort_l1 (n : Nat) (x4 : Nat) (x2 : List (List Val)) (x3 : List Bool) (x1 : List (List Val)) : (Int × List Int → Option (List (List Val))) → Int × List Int → Option (List (List Val)) := fun nx1 (x5, x6) =>
 bif (decide (x5 < ((((intRows .i64 (List.replicate x4 (0 : Int))).length) : Nat) : Int))) then (
 bnd (natI x5) fun x7 =>
 chk (decide (x7 < (intRows .i64 (List.replicate x4 (0 : Int))).length)) (
 bnd (x6[x7]?) fun x8 =>
 nx1 ((IntKind.i64.wrap (x5 + (1 : Int))), (x6.set x7 x5))))
else (
 bnd (F_slices_SortStableFunc_int_int__rows_Sort_c1 n ((intRows .i64 (List.replicate x4 (0 : Int))).length) x2 x3 x6) fun x9 =>
 loopK (F_rows_Sort_l2 n x4 x9 x1) n (([] : List _), (0 : Int)))

def F_rows_Sort (n : Nat)  (x1 : List (List Val)) (x2 : List (List Val)) (x3 : List Bool) : Option (List (List Val)) :=
  bnd (natI (((slRows valC x1).length : Nat) : Int)) fun x4 =>
  chk (decide (x4 * 8 ≤ 140737488355328)) (
  loopK (F_rows_Sort_l1 n x4 x2 x3 x1) n ((0 : Int), (List.replicate x4 (0 : Int))))

set_option maxHeartbeats 4000000 in
set_option maxRecDepth 100000 in
theorem F_rows_Sort_ok (n : Nat)   : ∀ (x1 : List (List Val)) (x2 : List (List Val)) (x3 : List Bool) (r : List (List Val)), F_rows_Sort n x1 x2 x3 = some r → CallsF Tryd.prog 19 [PV.sl (slRows valC x1), PV.sl (slRows valC x2), PV.sl (boolRows x3)] (R_F_rows_Sort r) := by
  intro x1 x2 x3 r h
  unfold F_rows_Sort at h
  refine CallsF.of_vcN mixed (fun _ _ => Tryd.call19 _ _) Tryd.func19 (by kernel_rfl) (inl := [38, 10000004, 10000005, 10000014, 1000000]) ?_
  conv => whnf
  replace h := bnd_some h
  obtain ⟨x4, h12, h⟩ := h
  have hj := natI_some h12
  conv => whnf
  obtain ⟨h11, h⟩ := chk_some h
  refine ⟨x4, intRows .i64 (List.replicate x4 (0 : Int)), ⟨hj, hj, of_decide_eq_true h11, len_ok h11 (by decide), Codec.made (intC .i64) (0 : Int) x4 rfl, rfl, by decide, rfl⟩, ?_⟩
  conv => whnf
  refine LoopA.fn [38, 10000004, 10000005, 10000014, 1000000] (S := Int × List Int) (fun (x5, x6) => [(0, .p (.sl (slRows valC x1))), (4, .hptr [PV.sl (slRows valC x2)]), (5, .hptr [PV.sl (boolRows x3)]), (7, .vsl 0 ((intRows .i64 (List.replicate x4 (0 : Int))).length)), (16, .p (.int .i64 ((((intRows .i64 (List.replicate x4 (0 : Int))).length) : Nat) : Int))), (17, .p (.int .i64 x5))]) (fun (x5, x6) => [.vec 3 1 (intRows .i64 x6)]) (B := F_rows_Sort_l1 n x4 x2 x3 x1) h ⟨[0], [], ⟨rfl, rfl, rfl, rfl⟩, by repeat (first | exact trivial | exact .inl rfl | exact rfl | exact List.not_mem_nil | (refine .inr ?_) | (refine ⟨?_, ?_⟩) | exact List.length_set.symm | decide), by repeat (first | exact trivial | exact .inl rfl | exact rfl | exact List.not_mem_nil | (refine .inr ?_) | (refine ⟨?_, ?_⟩) | exact List.length_set.symm | decide)⟩ ?_
  intro nx1 st h
  obtain ⟨x5, x6⟩ := st
  unfold F_rows_Sort_l1 at h
  conv => whnf
  refine ⟨fun hc => ?_, fun hc => ?_⟩
  · replace h := cond_t h hc
    conv => whnf
    replace h := bnd_some h
    obtain ⟨x7, h3, h⟩ := h
    have hj := natI_some h3
    conv => whnf
    obtain ⟨h2, h⟩ := chk_some h
    refine ⟨x7, ⟨hj, of_decide_eq_true h2⟩, ?_⟩
    conv => whnf
    replace h := bnd_some h
    obtain ⟨x8, h1, h⟩ := h
    refine ⟨_, ⟨rfl, Codec.getN (intC .i64) h1, rfl⟩, ?_⟩
    conv => whnf
    refine ⟨_, Codec.setN (intC .i64) x6 x7 x5, ?_⟩
    conv => whnf
    exact ⟨((IntKind.i64.wrap (x5 + (1 : Int))), (x6.set x7 x5)), h, ⟨[0], [], ⟨rfl, rfl, rfl, rfl⟩, by repeat (first | exact trivial | exact .inl rfl | exact rfl | exact List.not_mem_nil | (refine .inr ?_) | (refine ⟨?_, ?_⟩) | exact List.length_set.symm | decide), by repeat (first | exact trivial | exact .inl rfl | exact rfl | exact List.not_mem_nil | (refine .inr ?_) | (refine ⟨?_, ?_⟩) | exact List.length_set.symm | decide)⟩⟩
  · replace h := cond_f h hc
    conv => whnf
    replace h := bnd_some h
    obtain ⟨x9, h4, h⟩ := h
    refine CallsO.use (F_slices_SortStableFunc_int_int__rows_Sort_c1_ok n _ _ _ _ _  h4) [0] [] ⟨rfl, rfl, rfl, rfl, rfl, rfl⟩ (by repeat (first | exact trivial | exact .inl rfl | exact rfl | exact List.not_mem_nil | (refine .inr ?_) | (refine ⟨?_, ?_⟩) | exact List.length_set.symm | decide)) (by repeat (first | exact trivial | exact .inl rfl | exact rfl | exact List.not_mem_nil | (refine .inr ?_) | (refine ⟨?_, ?_⟩) | exact List.length_set.symm | decide)) ?_
    rintro _ _ ⟨rfl, rfl⟩
    refine ⟨.p (.tup []), [.vec 3 1 (intRows .i64 x9)], rfl, rfl, ?_⟩
    conv => whnf
    refine LoopA.fn [38, 10000004, 10000005, 10000014, 1000000] (S := List (List Val) × Int) (fun (x10, x11) => [(0, .p (.sl (slRows valC x1))), (9, .tsl 1 (slRows valC x10)), (28, .vsl 0 ((intRows .i64 (List.replicate x4 (0 : Int))).length)), (29, .p (.int .i64 ((((intRows .i64 (List.replicate x4 (0 : Int))).length) : Nat) : Int))), (30, .p (.int .i64 x11))]) (fun (x10, x11) => [.vec 3 1 (intRows .i64 x9), .tail 37 1 (slRows valC x10).length]) (B := F_rows_Sort_l2 n x4 x9 x1) h ⟨[0, 0], [1], ⟨rfl, rfl, rfl, rfl⟩, by repeat (first | exact trivial | exact .inl rfl | exact rfl | exact List.not_mem_nil | (refine .inr ?_) | (refine ⟨?_, ?_⟩) | exact List.length_set.symm | decide), by repeat (first | exact trivial | exact .inl rfl | exact rfl | exact List.not_mem_nil | (refine .inr ?_) | (refine ⟨?_, ?_⟩) | exact List.length_set.symm | decide)⟩ ?_
    intro nx2 st h
    obtain ⟨x10, x11⟩ := st
    unfold F_rows_Sort_l2 at h
    conv => whnf
    refine ⟨fun hc => ?_, fun hc => ?_⟩
    · replace h := cond_t h hc
      conv => whnf
      replace h := bnd_some h
      obtain ⟨x12, h10, h⟩ := h
      have hj := natI_some h10
      conv => whnf
      obtain ⟨h9, h⟩ := chk_some h
      refine ⟨x12, ⟨hj, of_decide_eq_true h9⟩, ?_⟩
      conv => whnf
      replace h := bnd_some h
      obtain ⟨x13, h8, h⟩ := h
      refine ⟨_, ⟨rfl, Codec.getN (intC .i64) h8⟩, ?_⟩
      conv => whnf
      replace h := bnd_some h
      obtain ⟨x14, h7, h⟩ := h
      refine ⟨_, Codec.at_ (slC valC) h7, ?_⟩
      conv => whnf
      replace h := bnd_some h
      obtain ⟨x15, h6, h⟩ := h
      refine ⟨_, (F_rows_copied_ok n _  _ h6), ?_⟩
      conv => whnf
      refine ⟨Codec.one (slC valC) [x15], slRows valC [x15], .inl rfl, ?_⟩
      conv => whnf
      rw [show slRows valC x10 ++ slRows valC [x15] = slRows valC (x10 ++ [x15]) from Codec.append (slC valC) x10 [x15]]
      conv => whnf
      obtain ⟨h5, h⟩ := chk_some h
      refine ⟨⟨Codec.wide (slC valC) (x10 ++ [x15]), of_decide_eq_true h5, len_ok h5 (by decide)⟩, ?_⟩
      conv => whnf
      refine ⟨⟨rfl, rfl, rfl⟩, ?_⟩
      conv => whnf
      exact ⟨((x10 ++ [x15]), (IntKind.i64.wrap (x11 + (1 : Int)))), h, ⟨[0, 2], [], ⟨rfl, rfl, rfl, rfl⟩, by repeat (first | exact trivial | exact .inl rfl | exact rfl | exact List.not_mem_nil | (refine .inr ?_) | (refine ⟨?_, ?_⟩) | exact List.length_set.symm | decide), by repeat (first | exact trivial | exact .inl rfl | exact rfl | exact List.not_mem_nil | (refine .inr ?_) | (refine ⟨?_, ?_⟩) | exact List.length_set.symm | decide)⟩⟩
    · replace h := cond_f h hc
      obtain rfl := Option.some.inj h
      conv => whnf
      repeat (first | exact rfl | exact trivial | refine ⟨?_, ?_⟩)

abbrev R_F_slices_Index_string_string (r : Int) : PV := PV.int .i64 r

def F_slices_Index_string_string_l1 (n : Nat) (x1 : List (List UInt8)) (x2 : List UInt8) : (Int → Option (Int)) → Int → Option (Int) := fun nx1 x3 =>
 bif (decide (x3 < (((strs x1).length : Nat) : Int))) then (
 bnd (idx x1 x3) fun x4 =>
 bif (x2 == x4) then (
 some x3)
else (
 nx1 (IntKind.i64.wrap (x3 + (1 : Int)))))
else (
 some (-1 : Int))

def F_slices_Index_string_string (n : Nat)  (x1 : List (List UInt8)) (x2 : List UInt8) : Option (Int) :=
  loopK (F_slices_Index_string_string_l1 n x1 x2) n (0 : Int)

set_option maxRecDepth 100000 in
theorem F_slices_Index_string_string_ok (n : Nat)   : ∀ (x1 : List (List UInt8)) (x2 : List UInt8) (r : Int), F_slices_Index_string_string n x1 x2 = some r → CallsF Tryd.prog 64 [PV.sl (strs x1), PV.str x2] (R_F_slices_Index_string_string r) := by
  intro x1 x2 r h
  unfold F_slices_Index_string_string at h
  refine CallsF.of_vcN mixed (fun _ _ => Tryd.call64 _ _) Tryd.func64 (by kernel_rfl) (inl := [1000000]) ?_
  conv => whnf
  refine LoopA.fn [1000000] (S := Int) (fun x3 => [(0, .p (.sl (strs x1))), (1, .p (.str x2)), (7, .p (.int .i64 (((strs x1).length : Nat) : Int))), (8, .p (.int .i64 x3))]) (fun x3 => []) (B := F_slices_Index_string_string_l1 n x1 x2) h ⟨[], [], ⟨rfl, rfl, rfl, rfl⟩, by repeat (first | exact trivial | exact .inl rfl | exact rfl | exact List.not_mem_nil | (refine .inr ?_) | (refine ⟨?_, ?_⟩) | exact List.length_set.symm | decide), by repeat (first | exact trivial | exact .inl rfl | exact rfl | exact List.not_mem_nil | (refine .inr ?_) | (refine ⟨?_, ?_⟩) | exact List.length_set.symm | decide)⟩ ?_
  intro nx1 x3 h
  unfold F_slices_Index_string_string_l1 at h
  conv => whnf
  refine ⟨fun hc => ?_, fun hc => ?_⟩
  · replace h := cond_t h hc
    conv => whnf
    replace h := bnd_some h
    obtain ⟨x4, h1, h⟩ := h
    refine ⟨_, Codec.at_ strC h1, ?_⟩
    conv => whnf
    refine ⟨fun hc => ?_, fun hc => ?_⟩
    · replace h := cond_t h hc
      obtain rfl := Option.some.inj h
      conv => whnf
      repeat (first | exact rfl | exact trivial | refine ⟨?_, ?_⟩)
    · replace h := cond_f h hc
      conv => whnf
      exact ⟨(IntKind.i64.wrap (x3 + (1 : Int))), h, ⟨[], [], ⟨rfl, rfl, rfl, rfl⟩, by repeat (first | exact trivial | exact .inl rfl | exact rfl | exact List.not_mem_nil | (refine .inr ?_) | (refine ⟨?_, ?_⟩) | exact List.length_set.symm | decide), by repeat (first | exact trivial | exact .inl rfl | exact rfl | exact List.not_mem_nil | (refine .inr ?_) | (refine ⟨?_, ?_⟩) | exact List.length_set.symm | decide)⟩⟩
  · replace h := cond_f h hc
    obtain rfl := Option.some.inj h
    conv => whnf
    repeat (first | exact rfl | exact trivial | refine ⟨?_, ?_⟩)

abbrev R_F_slices_Contains_string_string (r : Bool) : PV := PV.bool r

def F_slices_Contains_string_string (n : Nat)  (x1 : List (List UInt8)) (x2 : List UInt8) : Option (Bool) :=
  bnd (F_slices_Index_string_string n x1 x2) fun x3 =>
  some (decide (x3 ≥ (0 : Int)))

set_option maxRecDepth 100000 in
theorem F_slices_Contains_string_string_ok (n : Nat)   : ∀ (x1 : List (List UInt8)) (x2 : List UInt8) (r : Bool), F_slices_Contains_string_string n x1 x2 = some r → CallsF Tryd.prog 51 [PV.sl (strs x1), PV.str x2] (R_F_slices_Contains_string_string r) := by
  intro x1 x2 r h
  unfold F_slices_Contains_string_string at h
  refine CallsF.of_vcN mixed (fun _ _ => Tryd.call51 _ _) Tryd.func51 (by kernel_rfl) (inl := [1000000]) ?_
  conv => whnf
  replace h := bnd_some h
  obtain ⟨x3, h1, h⟩ := h
  refine ⟨_, (F_slices_Index_string_string_ok n _ _  _ h1), ?_⟩
  obtain rfl := Option.some.inj h
  conv => whnf
  repeat (first | exact rfl | exact trivial | refine ⟨?_, ?_⟩)

abbrev R_F_rows_Group_c1 (r : List Val) : PV := PV.sl (Val.rows r)

def F_rows_Group_c1_k3 (n : Nat) (nx1 : List Val × Int → Option (List Val)) (x4 : Int) : List Val → Option (List Val) := fun x5 =>
 nx1 (x5, (IntKind.i64.wrap (x4 + (1 : Int))))

def F_rows_Group_c1_l1 (n : Nat) (x2 : List (List UInt8)) (x1 : List Val) : (List Val × Int → Option (List Val)) → List Val × Int → Option (List Val) := fun nx1 (x3, x4) =>
 bif (decide (x4 < (((strs x2).length : Nat) : Int))) then (
 bnd (idx x2 x4) fun x6 =>
 bif (bif (x6 == ([] : List UInt8)) then (decide (x4 < (((Val.rows x1).length : Nat) : Int))) else false) then (
 bnd (idx x1 x4) fun ⟨x7, x8, x9, x10, x11, x12⟩ =>
 chk (decide ((Val.rows (x3 ++ [Val.mk x7 x8 x9 x10 x11 x12])).length * 88 ≤ 140737488355328)) (
 F_rows_Group_c1_k3 n nx1 x4 (x3 ++ [Val.mk x7 x8 x9 x10 x11 x12])))
else (
 F_rows_Group_c1_k3 n nx1 x4 x3))
else (
 some x3)

def F_rows_Group_c1 (n : Nat)  (x1 : List Val) (x2 : List (List UInt8)) : Option (List Val) :=
  loopK (F_rows_Group_c1_l1 n x2 x1) n (([] : List _), (0 : Int))

set_option maxRecDepth 100000 in
theorem F_rows_Group_c1_ok (n : Nat)   : ∀ (x1 : List Val) (x2 : List (List UInt8)) (r : List Val), F_rows_Group_c1 n x1 x2 = some r → CallsF Tryd.prog 47 [PV.sl (Val.rows x1), PV.hp [PV.sl (strs x2)]] (R_F_rows_Group_c1 r) := by
  intro x1 x2 r h
  unfold F_rows_Group_c1 at h
  refine CallsF.of_vcN mixed (fun _ _ => Tryd.call47 _ _) Tryd.func47 (by kernel_rfl) (inl := [1000000]) ?_
  conv => whnf
  refine LoopA.fn [1000000] (S := List Val × Int) (fun (x3, x4) => [(0, .p (.sl (Val.rows x1))), (4, .tsl 0 (Val.rows x3)), (7, .p (.sl (strs x2))), (8, .p (.int .i64 (((strs x2).length : Nat) : Int))), (9, .p (.int .i64 x4))]) (fun (x3, x4) => [.tail 40 6 (Val.rows x3).length]) (B := F_rows_Group_c1_l1 n x2 x1) h ⟨[0], [0], ⟨rfl, rfl, rfl, rfl⟩, by repeat (first | exact trivial | exact .inl rfl | exact rfl | exact List.not_mem_nil | (refine .inr ?_) | (refine ⟨?_, ?_⟩) | exact List.length_set.symm | decide), by repeat (first | exact trivial | exact .inl rfl | exact rfl | exact List.not_mem_nil | (refine .inr ?_) | (refine ⟨?_, ?_⟩) | exact List.length_set.symm | decide)⟩ ?_
  intro nx1 st h
  obtain ⟨x3, x4⟩ := st
  unfold F_rows_Group_c1_l1 at h
  conv => whnf
  refine ⟨fun hc => ?_, fun hc => ?_⟩
  · replace h := cond_t h hc
    conv => whnf
    refine SeqA.cut (S := List Val) (fun x5 => [(0, .p (.sl (Val.rows x1))), (4, .tsl 0 (Val.rows x5)), (7, .p (.sl (strs x2))), (8, .p (.int .i64 (((strs x2).length : Nat) : Int))), (9, .p (.int .i64 x4))]) (fun x5 => [.tail 40 6 (Val.rows x5).length]) (F_rows_Group_c1_k3 n nx1 x4) (r := r) ?_ ?_
    · intro x5 h
      unfold F_rows_Group_c1_k3 at h
      conv => whnf
      exact ⟨(x5, (IntKind.i64.wrap (x4 + (1 : Int)))), h, ⟨[0], [], ⟨rfl, rfl, rfl, rfl⟩, by repeat (first | exact trivial | exact .inl rfl | exact rfl | exact List.not_mem_nil | (refine .inr ?_) | (refine ⟨?_, ?_⟩) | exact List.length_set.symm | decide), by repeat (first | exact trivial | exact .inl rfl | exact rfl | exact List.not_mem_nil | (refine .inr ?_) | (refine ⟨?_, ?_⟩) | exact List.length_set.symm | decide)⟩⟩
    · conv => whnf
      replace h := bnd_some h
      obtain ⟨x6, h3, h⟩ := h
      refine ⟨_, Codec.at_ strC h3, ?_⟩
      conv => whnf
      iterate 4 (refine And.intro (fun h => h) ?_)
      conv => whnf
      refine ⟨fun hc => ?_, fun hc => ?_⟩
      · replace h := cond_t h hc
        conv => whnf
        replace h := bnd_some h
        obtain ⟨⟨x7, x8, x9, x10, x11, x12⟩, h2, h⟩ := h
        refine ⟨_, Codec.at_ valC h2, ?_⟩
        conv => whnf
        refine ⟨Codec.one valC [Val.mk x7 x8 x9 x10 x11 x12], Val.rows [Val.mk x7 x8 x9 x10 x11 x12], .inl rfl, ?_⟩
        conv => whnf
        rw [show Val.rows x3 ++ Val.rows [Val.mk x7 x8 x9 x10 x11 x12] = Val.rows (x3 ++ [Val.mk x7 x8 x9 x10 x11 x12]) from Codec.append valC x3 [Val.mk x7 x8 x9 x10 x11 x12]]
        conv => whnf
        obtain ⟨h1, h⟩ := chk_some h
        refine ⟨⟨Codec.wide valC (x3 ++ [Val.mk x7 x8 x9 x10 x11 x12]), of_decide_eq_true h1, len_ok h1 (by decide)⟩, ?_⟩
        conv => whnf
        refine ⟨⟨rfl, rfl, rfl⟩, ?_⟩
        conv => whnf
        exact ⟨(x3 ++ [Val.mk x7 x8 x9 x10 x11 x12]), h, ⟨[1], [], ⟨rfl, rfl, rfl, rfl⟩, by repeat (first | exact trivial | exact .inl rfl | exact rfl | exact List.not_mem_nil | (refine .inr ?_) | (refine ⟨?_, ?_⟩) | exact List.length_set.symm | decide), by repeat (first | exact trivial | exact .inl rfl | exact rfl | exact List.not_mem_nil | (refine .inr ?_) | (refine ⟨?_, ?_⟩) | exact List.length_set.symm | decide)⟩⟩
      · replace h := cond_f h hc
        conv => whnf
        exact ⟨x3, h, ⟨[0], [], ⟨rfl, rfl, rfl, rfl⟩, by repeat (first | exact trivial | exact .inl rfl | exact rfl | exact List.not_mem_nil | (refine .inr ?_) | (refine ⟨?_, ?_⟩) | exact List.length_set.symm | decide), by repeat (first | exact trivial | exact .inl rfl | exact rfl | exact List.not_mem_nil | (refine .inr ?_) | (refine ⟨?_, ?_⟩) | exact List.length_set.symm | decide)⟩⟩
  · replace h := cond_f h hc
    obtain rfl := Option.some.inj h
    conv => whnf
    repeat (first | exact rfl | exact trivial | refine ⟨?_, ?_⟩)

abbrev R_F_num_Add (r : Int × Int) : PV := PV.tup [PV.int .i64 r.1, PV.int .i64 r.2]

def F_num_Add (n : Nat)  (x1 : Int) (x2 : Int) : Option (Int × Int) :=
  bif (bif ((decide (x1 < (0 : Int))) == (decide (x2 < (0 : Int)))) then (!((decide ((IntKind.i64.wrap (x1 + x2)) < (0 : Int))) == (decide (x1 < (0 : Int))))) else false) then (
  some ((0 : Int), (4 : Int)))
  else (
  some ((IntKind.i64.wrap (x1 + x2)), (0 : Int)))

set_option maxRecDepth 100000 in
theorem F_num_Add_ok (n : Nat)   : ∀ (x1 : Int) (x2 : Int) (r : Int × Int), F_num_Add n x1 x2 = some r → CallsF Tryd.prog 24 [PV.int .i64 x1, PV.int .i64 x2] (R_F_num_Add r) := by
  intro x1 x2 r h
  unfold F_num_Add at h
  refine CallsF.of_vcN mixed (fun _ _ => Tryd.call24 _ _) Tryd.func24 (by kernel_rfl) (inl := [1000000]) ?_
  conv => whnf
  iterate 5 (refine And.intro (fun h => h) ?_)
  conv => whnf
  refine ⟨fun hc => ?_, fun hc => ?_⟩
  · replace h := cond_t h hc
    obtain rfl := Option.some.inj h
    conv => whnf
    repeat (first | exact rfl | exact trivial | refine ⟨?_, ?_⟩)
  · replace h := cond_f h hc
    obtain rfl := Option.some.inj h
    conv => whnf
    repeat (first | exact rfl | exact trivial | refine ⟨?_, ?_⟩)

abbrev R_F_rows_sum (r : Val × Int) : PV := PV.tup [PV.agg (valC.cells r.1), PV.int .i64 r.2]

def F_rows_sum_l1 (n : Nat) (x1 : List Val) : (Int × Int → Option (Val × Int)) → Int × Int → Option (Val × Int) := fun nx1 (x2, x3) =>
 bif (decide (x3 < (((Val.rows x1).length : Nat) : Int))) then (
 bnd (idx x1 x3) fun ⟨x4, x5, x6, x7, x8, x9⟩ =>
 bif (x4 != (2 : Int)) then (
 some (Val.mk (0 : Int) false (0 : Int) ([] : List UInt8) ([] : List Val) ([] : List (List UInt8)), (3 : Int)))
else (
 bnd (F_num_Add n x2 x6) fun ⟨x10, x11⟩ =>
 bif (x11 != (0 : Int)) then (
 some (Val.mk (0 : Int) false (0 : Int) ([] : List UInt8) ([] : List Val) ([] : List (List UInt8)), x11))
else (
 nx1 (x10, (IntKind.i64.wrap (x3 + (1 : Int)))))))
else (
 some (Val.mk (2 : Int) false x2 ([] : List UInt8) ([] : List Val) ([] : List (List UInt8)), (0 : Int)))

def F_rows_sum (n : Nat)  (x1 : List Val) : Option (Val × Int) :=
  loopK (F_rows_sum_l1 n x1) n ((0 : Int), (0 : Int))

set_option maxRecDepth 100000 in
theorem F_rows_sum_ok (n : Nat)   : ∀ (x1 : List Val) (r : Val × Int), F_rows_sum n x1 = some r → CallsF Tryd.prog 66 [PV.sl (Val.rows x1)] (R_F_rows_sum r) := by
  intro x1 r h
  unfold F_rows_sum at h
  refine CallsF.of_vcN mixed (fun _ _ => Tryd.call66 _ _) Tryd.func66 (by kernel_rfl) (inl := [1000000]) ?_
  conv => whnf
  refine LoopA.fn [1000000] (S := Int × Int) (fun (x2, x3) => [(2, .ptr 0 0), (4, .p (.int .i64 x2)), (9, .p (.sl (Val.rows x1))), (10, .p (.int .i64 (((Val.rows x1).length : Nat) : Int))), (11, .p (.int .i64 x3))]) (fun (x2, x3) => [.box 40 [.p (.int .i64 (0 : Int)), .p (.bool false), .p (.int .i64 (0 : Int)), .p (.str ([] : List UInt8)), .p (.nilsl), .p (.nilsl)]]) (B := F_rows_sum_l1 n x1) h ⟨[0], [], ⟨rfl, rfl, rfl, rfl⟩, by repeat (first | exact trivial | exact .inl rfl | exact rfl | exact List.not_mem_nil | (refine .inr ?_) | (refine ⟨?_, ?_⟩) | exact List.length_set.symm | decide), by repeat (first | exact trivial | exact .inl rfl | exact rfl | exact List.not_mem_nil | (refine .inr ?_) | (refine ⟨?_, ?_⟩) | exact List.length_set.symm | decide)⟩ ?_
  intro nx1 st h
  obtain ⟨x2, x3⟩ := st
  unfold F_rows_sum_l1 at h
  conv => whnf
  refine ⟨fun hc => ?_, fun hc => ?_⟩
  · replace h := cond_t h hc
    conv => whnf
    replace h := bnd_some h
    obtain ⟨⟨x4, x5, x6, x7, x8, x9⟩, h2, h⟩ := h
    refine ⟨_, Codec.at_ valC h2, ?_⟩
    conv => whnf
    refine ⟨fun hc => ?_, fun hc => ?_⟩
    · replace h := cond_t h hc
      obtain rfl := Option.some.inj h
      conv => whnf
      repeat (first | exact rfl | exact trivial | refine ⟨?_, ?_⟩)
    · replace h := cond_f h hc
      conv => whnf
      replace h := bnd_some h
      obtain ⟨⟨x10, x11⟩, h1, h⟩ := h
      refine ⟨_, (F_num_Add_ok n _ _  _ h1), ?_⟩
      conv => whnf
      refine ⟨fun hc => ?_, fun hc => ?_⟩
      · replace h := cond_t h hc
        obtain rfl := Option.some.inj h
        conv => whnf
        repeat (first | exact rfl | exact trivial | refine ⟨?_, ?_⟩)
      · replace h := cond_f h hc
        conv => whnf
        exact ⟨(x10, (IntKind.i64.wrap (x3 + (1 : Int)))), h, ⟨[0], [], ⟨rfl, rfl, rfl, rfl⟩, by repeat (first | exact trivial | exact .inl rfl | exact rfl | exact List.not_mem_nil | (refine .inr ?_) | (refine ⟨?_, ?_⟩) | exact List.length_set.symm | decide), by repeat (first | exact trivial | exact .inl rfl | exact rfl | exact List.not_mem_nil | (refine .inr ?_) | (refine ⟨?_, ?_⟩) | exact List.length_set.symm | decide)⟩⟩
  · replace h := cond_f h hc
    obtain rfl := Option.some.inj h
    conv => whnf
    repeat (first | exact rfl | exact trivial | refine ⟨?_, ?_⟩)

abbrev R_F_slices_MinFunc_api_Value_api_Value__value_Order (r : Val) : PV := PV.agg (valC.cells r)

def F_slices_MinFunc_api_Value_api_Value__value_Order_k3 (n : Nat) (nx1 : Int × Int × Bool × Int × List UInt8 × List Val × List (List UInt8) → Option (Val)) (x8 : Int) : Int × Bool × Int × List UInt8 × List Val × List (List UInt8) → Option (Val) := fun (x15, x16, x17, x18, x19, x20) =>
 nx1 ((IntKind.i64.wrap (x8 + (1 : Int))), x15, x16, x17, x18, x19, x20)

def F_slices_MinFunc_api_Value_api_Value__value_Order_l1 (n : Nat) (x1 : List Val) : (Int × Int × Bool × Int × List UInt8 × List Val × List (List UInt8) → Option (Val)) → Int × Int × Bool × Int × List UInt8 × List Val × List (List UInt8) → Option (Val) := fun nx1 (x8, x9, x10, x11, x12, x13, x14) =>
 bif (decide (x8 < (((Val.rows x1).length : Nat) : Int))) then (
 bnd (idx x1 x8) fun ⟨x21, x22, x23, x24, x25, x26⟩ =>
 bnd (F_value_Order n (Val.mk x21 x22 x23 x24 x25 x26) (Val.mk x9 x10 x11 x12 x13 x14)) fun x27 =>
 bif (decide (x27 < (0 : Int))) then (
 bnd (idx x1 x8) fun ⟨x28, x29, x30, x31, x32, x33⟩ =>
 F_slices_MinFunc_api_Value_api_Value__value_Order_k3 n nx1 x8 (x28, x29, x30, x31, x32, x33))
else (
 F_slices_MinFunc_api_Value_api_Value__value_Order_k3 n nx1 x8 (x9, x10, x11, x12, x13, x14)))
else (
 some (Val.mk x9 x10 x11 x12 x13 x14))

def F_slices_MinFunc_api_Value_api_Value__value_Order (n : Nat)  (x1 : List Val) : Option (Val) :=
  bif (decide ((((Val.rows x1).length : Nat) : Int) < (1 : Int))) then (
  none)
  else (
  bnd (idx x1 (0 : Int)) fun ⟨x2, x3, x4, x5, x6, x7⟩ =>
  loopK (F_slices_MinFunc_api_Value_api_Value__value_Order_l1 n x1) n ((1 : Int), x2, x3, x4, x5, x6, x7))

set_option maxRecDepth 100000 in
theorem F_slices_MinFunc_api_Value_api_Value__value_Order_ok (n : Nat)   : ∀ (x1 : List Val) (r : Val), F_slices_MinFunc_api_Value_api_Value__value_Order n x1 = some r → CallsF Tryd.prog 68 [PV.sl (Val.rows x1), PV.fn 21] (R_F_slices_MinFunc_api_Value_api_Value__value_Order r) := by
  intro x1 r h
  unfold F_slices_MinFunc_api_Value_api_Value__value_Order at h
  refine CallsF.of_vcN mixed (fun _ _ => Tryd.call68 _ _) Tryd.func68 (by kernel_rfl) (inl := [1000000]) ?_
  conv => whnf
  refine SeqA.go ?_
  conv => whnf
  refine ⟨fun hc => ?_, fun hc => ?_⟩
  · replace h := cond_t h hc
    cases h
  · replace h := cond_f h hc
    conv => whnf
    replace h := bnd_some h
    obtain ⟨⟨x2, x3, x4, x5, x6, x7⟩, h4, h⟩ := h
    refine ⟨_, Codec.at_ valC h4, ?_⟩
    conv => whnf
    refine LoopA.fn [1000000] (S := Int × Int × Bool × Int × List UInt8 × List Val × List (List UInt8)) (fun (x8, x9, x10, x11, x12, x13, x14) => [(0, .p (.sl (Val.rows x1))), (1, .p (.fn 21)), (4, .ptr 0 0), (5, .ptr 1 0), (6, .p (.int .i64 x8))]) (fun (x8, x9, x10, x11, x12, x13, x14) => [.box 40 [.p (.int .i64 (0 : Int)), .p (.bool false), .p (.int .i64 (0 : Int)), .p (.str ([] : List UInt8)), .p (.nilsl), .p (.nilsl)], .box 40 [.p (.int .i64 x9), .p (.bool x10), .p (.int .i64 x11), .p (.str x12), .p (.sl (Val.rows x13)), .p (.sl (strs x14))]]) (B := F_slices_MinFunc_api_Value_api_Value__value_Order_l1 n x1) h ⟨[0, 1], [], ⟨rfl, rfl, rfl, rfl⟩, by repeat (first | exact trivial | exact .inl rfl | exact rfl | exact List.not_mem_nil | (refine .inr ?_) | (refine ⟨?_, ?_⟩) | exact List.length_set.symm | decide), by repeat (first | exact trivial | exact .inl rfl | exact rfl | exact List.not_mem_nil | (refine .inr ?_) | (refine ⟨?_, ?_⟩) | exact List.length_set.symm | decide)⟩ ?_
    intro nx1 st h
    obtain ⟨x8, x9, x10, x11, x12, x13, x14⟩ := st
    unfold F_slices_MinFunc_api_Value_api_Value__value_Order_l1 at h
    conv => whnf
    refine ⟨fun hc => ?_, fun hc => ?_⟩
    · replace h := cond_t h hc
      conv => whnf
      refine SeqA.cut (S := Int × Bool × Int × List UInt8 × List Val × List (List UInt8)) (fun (x15, x16, x17, x18, x19, x20) => [(0, .p (.sl (Val.rows x1))), (1, .p (.fn 21)), (4, .ptr 0 0), (5, .ptr 1 0), (6, .p (.int .i64 x8))]) (fun (x15, x16, x17, x18, x19, x20) => [.box 40 [.p (.int .i64 (0 : Int)), .p (.bool false), .p (.int .i64 (0 : Int)), .p (.str ([] : List UInt8)), .p (.nilsl), .p (.nilsl)], .box 40 [.p (.int .i64 x15), .p (.bool x16), .p (.int .i64 x17), .p (.str x18), .p (.sl (Val.rows x19)), .p (.sl (strs x20))]]) (F_slices_MinFunc_api_Value_api_Value__value_Order_k3 n nx1 x8) (r := r) ?_ ?_
      · intro st h
        obtain ⟨x15, x16, x17, x18, x19, x20⟩ := st
        unfold F_slices_MinFunc_api_Value_api_Value__value_Order_k3 at h
        conv => whnf
        exact ⟨((IntKind.i64.wrap (x8 + (1 : Int))), x15, x16, x17, x18, x19, x20), h, ⟨[0, 1], [], ⟨rfl, rfl, rfl, rfl⟩, by repeat (first | exact trivial | exact .inl rfl | exact rfl | exact List.not_mem_nil | (refine .inr ?_) | (refine ⟨?_, ?_⟩) | exact List.length_set.symm | decide), by repeat (first | exact trivial | exact .inl rfl | exact rfl | exact List.not_mem_nil | (refine .inr ?_) | (refine ⟨?_, ?_⟩) | exact List.length_set.symm | decide)⟩⟩
      · conv => whnf
        replace h := bnd_some h
        obtain ⟨⟨x21, x22, x23, x24, x25, x26⟩, h3, h⟩ := h
        refine ⟨_, Codec.at_ valC h3, ?_⟩
        conv => whnf
        replace h := bnd_some h
        obtain ⟨x27, h2, h⟩ := h
        refine ⟨_, (F_value_Order_ok n _ _  _ h2), ?_⟩
        conv => whnf
        refine ⟨fun hc => ?_, fun hc => ?_⟩
        · replace h := cond_t h hc
          conv => whnf
          replace h := bnd_some h
          obtain ⟨⟨x28, x29, x30, x31, x32, x33⟩, h1, h⟩ := h
          refine ⟨_, Codec.at_ valC h1, ?_⟩
          conv => whnf
          exact ⟨(x28, x29, x30, x31, x32, x33), h, ⟨[0, 1], [], ⟨rfl, rfl, rfl, rfl⟩, by repeat (first | exact trivial | exact .inl rfl | exact rfl | exact List.not_mem_nil | (refine .inr ?_) | (refine ⟨?_, ?_⟩) | exact List.length_set.symm | decide), by repeat (first | exact trivial | exact .inl rfl | exact rfl | exact List.not_mem_nil | (refine .inr ?_) | (refine ⟨?_, ?_⟩) | exact List.length_set.symm | decide)⟩⟩
        · replace h := cond_f h hc
          conv => whnf
          exact ⟨(x9, x10, x11, x12, x13, x14), h, ⟨[0, 1], [], ⟨rfl, rfl, rfl, rfl⟩, by repeat (first | exact trivial | exact .inl rfl | exact rfl | exact List.not_mem_nil | (refine .inr ?_) | (refine ⟨?_, ?_⟩) | exact List.length_set.symm | decide), by repeat (first | exact trivial | exact .inl rfl | exact rfl | exact List.not_mem_nil | (refine .inr ?_) | (refine ⟨?_, ?_⟩) | exact List.length_set.symm | decide)⟩⟩
    · replace h := cond_f h hc
      obtain rfl := Option.some.inj h
      conv => whnf
      repeat (first | exact rfl | exact trivial | refine ⟨?_, ?_⟩)

abbrev R_F_slices_MaxFunc_api_Value_api_Value__value_Order (r : Val) : PV := PV.agg (valC.cells r)

def F_slices_MaxFunc_api_Value_api_Value__value_Order_k3 (n : Nat) (nx1 : Int × Int × Bool × Int × List UInt8 × List Val × List (List UInt8) → Option (Val)) (x8 : Int) : Int × Bool × Int × List UInt8 × List Val × List (List UInt8) → Option (Val) := fun (x15, x16, x17, x18, x19, x20) =>
 nx1 ((IntKind.i64.wrap (x8 + (1 : Int))), x15, x16, x17, x18, x19, x20)

def F_slices_MaxFunc_api_Value_api_Value__value_Order_l1 (n : Nat) (x1 : List Val) : (Int × Int × Bool × Int × List UInt8 × List Val × List (List UInt8) → Option (Val)) → Int × Int × Bool × Int × List UInt8 × List Val × List (List UInt8) → Option (Val) := fun nx1 (x8, x9, x10, x11, x12, x13, x14) =>
 bif (decide (x8 < (((Val.rows x1).length : Nat) : Int))) then (
 bnd (idx x1 x8) fun ⟨x21, x22, x23, x24, x25, x26⟩ =>
 bnd (F_value_Order n (Val.mk x21 x22 x23 x24 x25 x26) (Val.mk x9 x10 x11 x12 x13 x14)) fun x27 =>
 bif (decide (x27 > (0 : Int))) then (
 bnd (idx x1 x8) fun ⟨x28, x29, x30, x31, x32, x33⟩ =>
 F_slices_MaxFunc_api_Value_api_Value__value_Order_k3 n nx1 x8 (x28, x29, x30, x31, x32, x33))
else (
 F_slices_MaxFunc_api_Value_api_Value__value_Order_k3 n nx1 x8 (x9, x10, x11, x12, x13, x14)))
else (
 some (Val.mk x9 x10 x11 x12 x13 x14))

def F_slices_MaxFunc_api_Value_api_Value__value_Order (n : Nat)  (x1 : List Val) : Option (Val) :=
  bif (decide ((((Val.rows x1).length : Nat) : Int) < (1 : Int))) then (
  none)
  else (
  bnd (idx x1 (0 : Int)) fun ⟨x2, x3, x4, x5, x6, x7⟩ =>
  loopK (F_slices_MaxFunc_api_Value_api_Value__value_Order_l1 n x1) n ((1 : Int), x2, x3, x4, x5, x6, x7))

set_option maxRecDepth 100000 in
theorem F_slices_MaxFunc_api_Value_api_Value__value_Order_ok (n : Nat)   : ∀ (x1 : List Val) (r : Val), F_slices_MaxFunc_api_Value_api_Value__value_Order n x1 = some r → CallsF Tryd.prog 69 [PV.sl (Val.rows x1), PV.fn 21] (R_F_slices_MaxFunc_api_Value_api_Value__value_Order r) := by
  intro x1 r h
  unfold F_slices_MaxFunc_api_Value_api_Value__value_Order at h
  refine CallsF.of_vcN mixed (fun _ _ => Tryd.call69 _ _) Tryd.func69 (by kernel_rfl) (inl := [1000000]) ?_
  conv => whnf
  refine SeqA.go ?_
  conv => whnf
  refine ⟨fun hc => ?_, fun hc => ?_⟩
  · replace h := cond_t h hc
    cases h
  · replace h := cond_f h hc
    conv => whnf
    replace h := bnd_some h
    obtain ⟨⟨x2, x3, x4, x5, x6, x7⟩, h4, h⟩ := h
    refine ⟨_, Codec.at_ valC h4, ?_⟩
    conv => whnf
    refine LoopA.fn [1000000] (S := Int × Int × Bool × Int × List UInt8 × List Val × List (List UInt8)) (fun (x8, x9, x10, x11, x12, x13, x14) => [(0, .p (.sl (Val.rows x1))), (1, .p (.fn 21)), (4, .ptr 0 0), (5, .ptr 1 0), (6, .p (.int .i64 x8))]) (fun (x8, x9, x10, x11, x12, x13, x14) => [.box 40 [.p (.int .i64 (0 : Int)), .p (.bool false), .p (.int .i64 (0 : Int)), .p (.str ([] : List UInt8)), .p (.nilsl), .p (.nilsl)], .box 40 [.p (.int .i64 x9), .p (.bool x10), .p (.int .i64 x11), .p (.str x12), .p (.sl (Val.rows x13)), .p (.sl (strs x14))]]) (B := F_slices_MaxFunc_api_Value_api_Value__value_Order_l1 n x1) h ⟨[0, 1], [], ⟨rfl, rfl, rfl, rfl⟩, by repeat (first | exact trivial | exact .inl rfl | exact rfl | exact List.not_mem_nil | (refine .inr ?_) | (refine ⟨?_, ?_⟩) | exact List.length_set.symm | decide), by repeat (first | exact trivial | exact .inl rfl | exact rfl | exact List.not_mem_nil | (refine .inr ?_) | (refine ⟨?_, ?_⟩) | exact List.length_set.symm | decide)⟩ ?_
    intro nx1 st h
    obtain ⟨x8, x9, x10, x11, x12, x13, x14⟩ := st
    unfold F_slices_MaxFunc_api_Value_api_Value__value_Order_l1 at h
    conv => whnf
    refine ⟨fun hc => ?_, fun hc => ?_⟩
    · replace h := cond_t h hc
      conv => whnf
      refine SeqA.cut (S := Int × Bool × Int × List UInt8 × List Val × List (List UInt8)) (fun (x15, x16, x17, x18, x19, x20) => [(0, .p (.sl (Val.rows x1))), (1, .p (.fn 21)), (4, .ptr 0 0), (5, .ptr 1 0), (6, .p (.int .i64 x8))]) (fun (x15, x16, x17, x18, x19, x20) => [.box 40 [.p (.int .i64 (0 : Int)), .p (.bool false), .p (.int .i64 (0 : Int)), .p (.str ([] : List UInt8)), .p (.nilsl), .p (.nilsl)], .box 40 [.p (.int .i64 x15), .p (.bool x16), .p (.int .i64 x17), .p (.str x18), .p (.sl (Val.rows x19)), .p (.sl (strs x20))]]) (F_slices_MaxFunc_api_Value_api_Value__value_Order_k3 n nx1 x8) (r := r) ?_ ?_
      · intro st h
        obtain ⟨x15, x16, x17, x18, x19, x20⟩ := st
        unfold F_slices_MaxFunc_api_Value_api_Value__value_Order_k3 at h
        conv => whnf
        exact ⟨((IntKind.i64.wrap (x8 + (1 : Int))), x15, x16, x17, x18, x19, x20), h, ⟨[0, 1], [], ⟨rfl, rfl, rfl, rfl⟩, by repeat (first | exact trivial | exact .inl rfl | exact rfl | exact List.not_mem_nil | (refine .inr ?_) | (refine ⟨?_, ?_⟩) | exact List.length_set.symm | decide), by repeat (first | exact trivial | exact .inl rfl | exact rfl | exact List.not_mem_nil | (refine .inr ?_) | (refine ⟨?_, ?_⟩) | exact List.length_set.symm | decide)⟩⟩
      · conv => whnf
        replace h := bnd_some h
        obtain ⟨⟨x21, x22, x23, x24, x25, x26⟩, h3, h⟩ := h
        refine ⟨_, Codec.at_ valC h3, ?_⟩
        conv => whnf
        replace h := bnd_some h
        obtain ⟨x27, h2, h⟩ := h
        refine ⟨_, (F_value_Order_ok n _ _  _ h2), ?_⟩
        conv => whnf
        refine ⟨fun hc => ?_, fun hc => ?_⟩
        · replace h := cond_t h hc
          conv => whnf
          replace h := bnd_some h
          obtain ⟨⟨x28, x29, x30, x31, x32, x33⟩, h1, h⟩ := h
          refine ⟨_, Codec.at_ valC h1, ?_⟩
          conv => whnf
          exact ⟨(x28, x29, x30, x31, x32, x33), h, ⟨[0, 1], [], ⟨rfl, rfl, rfl, rfl⟩, by repeat (first | exact trivial | exact .inl rfl | exact rfl | exact List.not_mem_nil | (refine .inr ?_) | (refine ⟨?_, ?_⟩) | exact List.length_set.symm | decide), by repeat (first | exact trivial | exact .inl rfl | exact rfl | exact List.not_mem_nil | (refine .inr ?_) | (refine ⟨?_, ?_⟩) | exact List.length_set.symm | decide)⟩⟩
        · replace h := cond_f h hc
          conv => whnf
          exact ⟨(x9, x10, x11, x12, x13, x14), h, ⟨[0, 1], [], ⟨rfl, rfl, rfl, rfl⟩, by repeat (first | exact trivial | exact .inl rfl | exact rfl | exact List.not_mem_nil | (refine .inr ?_) | (refine ⟨?_, ?_⟩) | exact List.length_set.symm | decide), by repeat (first | exact trivial | exact .inl rfl | exact rfl | exact List.not_mem_nil | (refine .inr ?_) | (refine ⟨?_, ?_⟩) | exact List.length_set.symm | decide)⟩⟩
    · replace h := cond_f h hc
      obtain rfl := Option.some.inj h
      conv => whnf
      repeat (first | exact rfl | exact trivial | refine ⟨?_, ?_⟩)

abbrev R_F_rows_gather (r : Val × Int) : PV := PV.tup [PV.agg (valC.cells r.1), PV.int .i64 r.2]

def F_rows_gather (n : Nat)  (x1 : List UInt8) (x2 : List Val) : Option (Val × Int) :=
  bif (x1 == ([99, 111, 117, 110, 116] : List UInt8)) then (
  some (Val.mk (2 : Int) false (((Val.rows x2).length : Nat) : Int) ([] : List UInt8) ([] : List Val) ([] : List (List UInt8)), (0 : Int)))
  else (
  bif (x1 == ([115, 117, 109] : List UInt8)) then (
  bnd (F_rows_sum n x2) fun ⟨⟨x3, x4, x5, x6, x7, x8⟩, x9⟩ =>
  some (Val.mk x3 x4 x5 x6 x7 x8, x9))
  else (
  bif (x1 == ([99, 111, 108, 108, 101, 99, 116] : List UInt8)) then (
  bnd (F_rows_copied n x2) fun x10 =>
  bnd (F_value_Check n (Val.mk (4 : Int) false (0 : Int) ([] : List UInt8) x10 ([] : List (List UInt8)))) fun x11 =>
  bif (x11 != (0 : Int)) then (
  some (Val.mk (0 : Int) false (0 : Int) ([] : List UInt8) ([] : List Val) ([] : List (List UInt8)), (8 : Int)))
  else (
  some (Val.mk (4 : Int) false (0 : Int) ([] : List UInt8) x10 ([] : List (List UInt8)), (0 : Int))))
  else (
  bif ((((Val.rows x2).length : Nat) : Int) == (0 : Int)) then (
  some (Val.mk (0 : Int) false (0 : Int) ([] : List UInt8) ([] : List Val) ([] : List (List UInt8)), (0 : Int)))
  else (
  bif (x1 == ([109, 105, 110] : List UInt8)) then (
  bnd (F_slices_MinFunc_api_Value_api_Value__value_Order n x2) fun ⟨x12, x13, x14, x15, x16, x17⟩ =>
  some (Val.mk x12 x13 x14 x15 x16 x17, (0 : Int)))
  else (
  bnd (F_slices_MaxFunc_api_Value_api_Value__value_Order n x2) fun ⟨x18, x19, x20, x21, x22, x23⟩ =>
  some (Val.mk x18 x19 x20 x21 x22 x23, (0 : Int)))))))

set_option maxHeartbeats 4000000 in
set_option maxRecDepth 100000 in
theorem F_rows_gather_ok (n : Nat)   : ∀ (x1 : List UInt8) (x2 : List Val) (r : Val × Int), F_rows_gather n x1 x2 = some r → CallsF Tryd.prog 55 [PV.str x1, PV.sl (Val.rows x2)] (R_F_rows_gather r) := by
  intro x1 x2 r h
  unfold F_rows_gather at h
  refine CallsF.of_vcN mixed (fun _ _ => Tryd.call55 _ _) Tryd.func55 (by kernel_rfl) (inl := [1000000]) ?_
  conv => whnf
  refine ⟨fun hc => ?_, fun hc => ?_⟩
  · replace h := cond_t h hc
    obtain rfl := Option.some.inj h
    conv => whnf
    repeat (first | exact rfl | exact trivial | refine ⟨?_, ?_⟩)
  · replace h := cond_f h hc
    conv => whnf
    refine ⟨fun hc => ?_, fun hc => ?_⟩
    · replace h := cond_t h hc
      conv => whnf
      replace h := bnd_some h
      obtain ⟨⟨⟨x3, x4, x5, x6, x7, x8⟩, x9⟩, h1, h⟩ := h
      refine ⟨_, (F_rows_sum_ok n _  _ h1), ?_⟩
      obtain rfl := Option.some.inj h
      conv => whnf
      repeat (first | exact rfl | exact trivial | refine ⟨?_, ?_⟩)
    · replace h := cond_f h hc
      conv => whnf
      refine ⟨fun hc => ?_, fun hc => ?_⟩
      · replace h := cond_t h hc
        conv => whnf
        replace h := bnd_some h
        obtain ⟨x10, h3, h⟩ := h
        refine ⟨_, (F_rows_copied_ok n _  _ h3), ?_⟩
        conv => whnf
        replace h := bnd_some h
        obtain ⟨x11, h2, h⟩ := h
        refine ⟨_, (CallsF.leArgs (F_value_Check_ok n _  _ h2) (by repeat (first | exact rfl | exact trivial | refine ⟨?_, ?_⟩))), ?_⟩
        conv => whnf
        refine ⟨fun hc => ?_, fun hc => ?_⟩
        · replace h := cond_t h hc
          obtain rfl := Option.some.inj h
          conv => whnf
          repeat (first | exact rfl | exact trivial | refine ⟨?_, ?_⟩)
        · replace h := cond_f h hc
          obtain rfl := Option.some.inj h
          conv => whnf
          repeat (first | exact rfl | exact trivial | refine ⟨?_, ?_⟩)
      · replace h := cond_f h hc
        conv => whnf
        refine ⟨fun hc => ?_, fun hc => ?_⟩
        · replace h := cond_t h hc
          obtain rfl := Option.some.inj h
          conv => whnf
          repeat (first | exact rfl | exact trivial | refine ⟨?_, ?_⟩)
        · replace h := cond_f h hc
          conv => whnf
          refine ⟨fun hc => ?_, fun hc => ?_⟩
          · replace h := cond_t h hc
            conv => whnf
            replace h := bnd_some h
            obtain ⟨⟨x12, x13, x14, x15, x16, x17⟩, h4, h⟩ := h
            refine ⟨_, (F_slices_MinFunc_api_Value_api_Value__value_Order_ok n _  _ h4), ?_⟩
            obtain rfl := Option.some.inj h
            conv => whnf
            repeat (first | exact rfl | exact trivial | refine ⟨?_, ?_⟩)
          · replace h := cond_f h hc
            conv => whnf
            replace h := bnd_some h
            obtain ⟨⟨x18, x19, x20, x21, x22, x23⟩, h5, h⟩ := h
            refine ⟨_, (F_slices_MaxFunc_api_Value_api_Value__value_Order_ok n _  _ h5), ?_⟩
            obtain rfl := Option.some.inj h
            conv => whnf
            repeat (first | exact rfl | exact trivial | refine ⟨?_, ?_⟩)
end W
end
section
open Go Go.Proofs Ax
namespace W
abbrev R_F_rows_Group (r : List (List Val) × Int) : PV := PV.tup [PV.sl (slRows valC r.1), PV.int .i64 r.2]

def F_rows_Group_k9 (n : Nat) (nx2 : Int × List Val → Option (List (List Val) × Int)) (x9 : Int) : List Val → Option (List (List Val) × Int) := fun x11 =>
 nx2 ((IntKind.i64.wrap (x9 + (1 : Int))), x11)

def F_rows_Group_l2 (n : Nat) (x2 : List (List UInt8)) (x6 : List Val) (x8 : List UInt8) (nx1 : Int × List Val → Option (List (List Val) × Int)) (x4 : Int) : (Int × List Val → Option (List (List Val) × Int)) → Int × List Val → Option (List (List Val) × Int) := fun nx2 (x9, x10) =>
 bif (decide (x9 < (((strs x2).length : Nat) : Int))) then (
 bnd (idx x2 x9) fun x12 =>
 bnd (gsome (bif (!(x12 == ([] : List UInt8))) then (decide (x9 < (((Val.rows x6).length : Nat) : Int))) else false) (idx x6 x9)) fun ⟨x13, x14, x15, x16, x17, x18⟩ =>
 bif (bif (bif (!(x12 == ([] : List UInt8))) then (decide (x9 < (((Val.rows x6).length : Nat) : Int))) else false) then (x13 != (0 : Int)) else false) then (
 chk (decide ((mgetD (mset ([] : List UInt8) (0 : Int) ([] : List ((List UInt8) × Int))) x8 (0 : Int)) = 0)) (
 chk (decide ((mgetD (mset ([] : List UInt8) (0 : Int) ([] : List ((List UInt8) × Int))) x8 (0 : Int)) = 0)) (
 chk (decide (x9 = 0)) (
 bnd (idx x6 x9) fun ⟨x19, x20, x21, x22, x23, x24⟩ =>
 chk (decide ((Val.rows (x10 ++ [Val.mk x19 x20 x21 x22 x23 x24])).length * 88 ≤ 140737488355328)) (
 chk (decide (x9 = 0)) (
 F_rows_Group_k9 n nx2 x9 (x10 ++ [Val.mk x19 x20 x21 x22 x23 x24])))))))
else (
 F_rows_Group_k9 n nx2 x9 x10))
else (
 nx1 ((IntKind.i64.wrap (x4 + (1 : Int))), x10))

def F_rows_Group_k18 (n : Nat) (nx4 : List Val × Int → Option (List (List Val) × Int)) (x35 : Int) : List Val → Option (List (List Val) × Int) := fun x36 =>
 nx4 (x36, (IntKind.i64.wrap (x35 + (1 : Int))))

def F_rows_Group_l4 (n : Nat) (x2 : List (List UInt8)) (x5 : List Val) (x32 : List (List Val)) (nx3 : List (List Val) × Int → Option (List (List Val) × Int)) (x33 : Int) : (List Val × Int → Option (List (List Val) × Int)) → List Val × Int → Option (List (List Val) × Int) := fun nx4 (x34, x35) =>
 bif (decide (x35 < (((strs x2).length : Nat) : Int))) then (
 bnd (idx x2 x35) fun x37 =>
 bif (x37 == ([] : List UInt8)) then (
 bnd (idx ([] : List Val) x35) fun ⟨x38, x39, x40, x41, x42, x43⟩ =>
 bnd (F_value_Copy n (Val.mk x38 x39 x40 x41 x42 x43)) fun ⟨x44, x45, x46, x47, x48, x49⟩ =>
 chk (decide ((Val.rows (x34 ++ [Val.mk x44 x45 x46 x47 x48 x49])).length * 88 ≤ 140737488355328)) (
 F_rows_Group_k18 n nx4 x35 (x34 ++ [Val.mk x44 x45 x46 x47 x48 x49])))
else (
 chk (decide (x35 = 0)) (
 bnd (F_rows_gather n x37 x5) fun ⟨⟨x50, x51, x52, x53, x54, x55⟩, x56⟩ =>
 bif (x56 != (0 : Int)) then (
 some (([] : List (List Val)), x56))
else (
 bnd (F_value_Copy n (Val.mk x50 x51 x52 x53 x54 x55)) fun ⟨x57, x58, x59, x60, x61, x62⟩ =>
 chk (decide ((Val.rows (x34 ++ [Val.mk x57 x58 x59 x60 x61 x62])).length * 88 ≤ 140737488355328)) (
 F_rows_Group_k18 n nx4 x35 (x34 ++ [Val.mk x57 x58 x59 x60 x61 x62]))))))
else (
 chk (decide ((slRows valC (x32 ++ [x34])).length * 24 ≤ 140737488355328)) (
 nx3 ((x32 ++ [x34]), (IntKind.i64.wrap (x33 + (1 : Int))))))

def F_rows_Group_l3 (n : Nat) (x2 : List (List UInt8)) (x5 : List Val) : (List (List Val) × Int → Option (List (List Val) × Int)) → List (List Val) × Int → Option (List (List Val) × Int) := fun nx3 (x32, x33) =>
 bif (decide (x33 < ((1 : Nat) : Int))) then (
 chk (decide (x33 = 0)) (
 loopK (F_rows_Group_l4 n x2 x5 x32 nx3 x33) n (([] : List _), (0 : Int))))
else (
 some (x32, (0 : Int)))

def F_rows_Group_l1 (n : Nat) (x1 : List (List Val)) (x2 : List (List UInt8)) : (Int × List Val → Option (List (List Val) × Int)) → Int × List Val → Option (List (List Val) × Int) := fun nx1 (x4, x5) =>
 bif (decide (x4 < (((slRows valC x1).length : Nat) : Int))) then (
 bnd (idx x1 x4) fun x6 =>
 bnd (F_rows_Group_c1 n x6 x2) fun x7 =>
 bnd (F_rows_key n x7) fun x8 =>
 bif (!(mhas (mset ([] : List UInt8) (0 : Int) ([] : List ((List UInt8) × Int))) x8)) then (
 none)
else (
 loopK (F_rows_Group_l2 n x2 x6 x8 nx1 x4) n ((0 : Int), x5)))
else (
 loopK (F_rows_Group_l3 n x2 x5) n (([] : List _), (0 : Int)))

def F_rows_Group (n : Nat)  (x1 : List (List Val)) (x2 : List (List UInt8)) : Option (List (List Val) × Int) :=
  bnd (F_slices_Contains_string_string n x2 ([] : List UInt8)) fun x3 =>
  bif (!x3) then (
  bif (!(mhas ([] : List ((List UInt8) × Int)) ([] : List UInt8))) then (
  chk (decide ((((strs x2).length : Nat) : Int) = 1)) (
  loopK (F_rows_Group_l1 n x1 x2) n ((0 : Int), ([] : List _))))
  else (
  none))
  else (
  none)

set_option maxHeartbeats 4000000 in
set_option maxRecDepth 100000 in
theorem F_rows_Group_ok (n : Nat)   : ∀ (x1 : List (List Val)) (x2 : List (List UInt8)) (r : List (List Val) × Int), F_rows_Group n x1 x2 = some r → CallsF Tryd.prog 23 [PV.sl (slRows valC x1), PV.sl (strs x2)] (R_F_rows_Group r) := by
  intro x1 x2 r h
  unfold F_rows_Group at h
  refine CallsF.of_vcN mixed (fun _ _ => Tryd.call23 _ _) Tryd.func23 (by kernel_rfl) (inl := [48, 49, 52, 53, 10000003, 20000030, 20000045, 40000017, 90000014, 1000000]) ?_
  conv => whnf
  refine CallsI.of_vc mixed (fun _ _ => Tryd.call48 _ _) Tryd.func48 (by kernel_rfl) (inl := [1000000]) ?_
  conv => whnf
  refine SeqA.go ?_
  conv => whnf
  replace h := bnd_some h
  obtain ⟨x3, h25, h⟩ := h
  refine ⟨_, (F_slices_Contains_string_string_ok n _ _  _ h25), ?_⟩
  conv => whnf
  refine ⟨fun hc => ?_, fun hc => ?_⟩
  · replace h := cond_t h hc
    conv => whnf
    refine CallsI.of_vc mixed (fun _ _ => Tryd.call49 _ _) Tryd.func49 (by kernel_rfl) (inl := [10000002, 1000000]) ?_
    conv => whnf
    refine CallsI.of_vc mixed (fun _ _ => Tryd.call52 _ _) Tryd.func52 (by kernel_rfl) (inl := [50, 10000039, 20000037, 40000005, 80000039, 85000037, 1000000]) ?_
    conv => whnf
    refine ⟨PV.int .i64 (mgetD ([] : List ((List UInt8) × Int)) ([] : List UInt8) (0 : Int)), (mhas ([] : List ((List UInt8) × Int)) ([] : List UInt8)), ⟨look_D keyStr (PV.int .i64) ([] : List ((List UInt8) × Int)) ([] : List UInt8) (0 : Int), look_b keyStr (PV.int .i64) ([] : List ((List UInt8) × Int)) ([] : List UInt8)⟩, ?_⟩
    conv => whnf
    refine SeqA.go ?_
    conv => whnf
    refine ⟨fun hc => ?_, fun hc => ?_⟩
    · replace h := cond_t h hc
      conv => whnf
      refine ⟨_, set_rows keyStr (PV.int .i64) ([] : List UInt8) (0 : Int) ([] : List ((List UInt8) × Int)), ?_⟩
      conv => whnf
      obtain ⟨h1, h⟩ := chk_some h
      refine ⟨.ptr 3 0, [.box 37 [.p (.nilsl)], .box 74 [.p (.nilsl), .bsl 2 0 1 1]], ?_, ?_⟩
      · conv => whnf
        refine CallsI.of_vc mixed (fun _ _ => Tryd.call50 _ _) Tryd.func50 (by kernel_rfl) (inl := [10000006, 30000006, 40000001, 1000000]) ?_
        conv => whnf
        refine ⟨⟨of_decide_eq_true h1, of_decide_eq_true h1, by decide, rfl, by decide⟩, ?_⟩
        exact ⟨rfl, rfl⟩
      conv => whnf
      refine LoopA.fn [48, 49, 52, 53, 10000003, 20000030, 20000045, 40000017, 90000014, 1000000] (S := Int × List Val) (fun (x4, x5) => [(3, .hptr [PV.sl (strs x2)]), (6, .clo 47 (.cap (.hptr [PV.sl (strs x2)]) (.cap0))), (7, .ptr 0 0), (8, .clo 49 (.cap (.hptr [PV.sl (strs x2)]) (.cap0))), (33, .p (.sl (slRows valC x1))), (34, .p (.int .i64 (((slRows valC x1).length : Nat) : Int))), (35, .p (.int .i64 x4))]) (fun (x4, x5) => [.box 81 [.mref 1, .bsl 2 0 1 0], .mp .string (mRows PV.str (PV.int .i64) (mset ([] : List UInt8) (0 : Int) ([] : List ((List UInt8) × Int)))) none, .pbx 71 (.ptr 3 0), .box 74 [.p (.nilsl), .bsl 4 0 1 1], .box 37 [.vsl 5 ((Val.rows x5).length)], .vec 40 6 (Val.rows x5)]) (B := F_rows_Group_l1 n x1 x2) h ⟨[1, 0, 5, 3, 2, 0], [5], ⟨rfl, rfl, rfl, rfl⟩, by repeat (first | exact trivial | (focus (simp only [intRows, boolRows, valRows_len, Codec.length, List.length_map, List.length_set, List.length_append]; done)) | exact .inl rfl | exact rfl | exact List.not_mem_nil | (refine .inr ?_) | (refine ⟨?_, ?_⟩) | exact List.length_set.symm | decide), by repeat (first | exact trivial | (focus (simp only [intRows, boolRows, valRows_len, Codec.length, List.length_map, List.length_set, List.length_append]; done)) | exact .inl rfl | exact rfl | exact List.not_mem_nil | (refine .inr ?_) | (refine ⟨?_, ?_⟩) | exact List.length_set.symm | decide)⟩ ?_
      intro nx1 st h
      obtain ⟨x4, x5⟩ := st
      unfold F_rows_Group_l1 at h
      conv => whnf
      refine ⟨fun hc => ?_, fun hc => ?_⟩
      · replace h := cond_t h hc
        conv => whnf
        replace h := bnd_some h
        obtain ⟨x6, h14, h⟩ := h
        refine ⟨_, Codec.at_ (slC valC) h14, ?_⟩
        conv => whnf
        replace h := bnd_some h
        obtain ⟨x7, h13, h⟩ := h
        refine ⟨_, (F_rows_Group_c1_ok n _ _  _ h13), ?_⟩
        conv => whnf
        replace h := bnd_some h
        obtain ⟨x8, h12, h⟩ := h
        refine ⟨_, (F_rows_key_ok n _  _ h12), ?_⟩
        conv => whnf
        refine CallsI.of_vc mixed (fun _ _ => Tryd.call49 _ _) Tryd.func49 (by kernel_rfl) (inl := [10000002, 1000000]) ?_
        conv => whnf
        refine CallsI.of_vc mixed (fun _ _ => Tryd.call52 _ _) Tryd.func52 (by kernel_rfl) (inl := [50, 10000039, 20000037, 40000005, 80000039, 85000037, 1000000]) ?_
        conv => whnf
        refine ⟨PV.int .i64 (mgetD (mset ([] : List UInt8) (0 : Int) ([] : List ((List UInt8) × Int))) x8 (0 : Int)), (mhas (mset ([] : List UInt8) (0 : Int) ([] : List ((List UInt8) × Int))) x8), ⟨look_D keyStr (PV.int .i64) (mset ([] : List UInt8) (0 : Int) ([] : List ((List UInt8) × Int))) x8 (0 : Int), look_b keyStr (PV.int .i64) (mset ([] : List UInt8) (0 : Int) ([] : List ((List UInt8) × Int))) x8⟩, ?_⟩
        conv => whnf
        refine SeqA.go ?_
        conv => whnf
        refine ⟨fun hc => ?_, fun hc => ?_⟩
        · replace h := cond_t h hc
          cases h
        · replace h := cond_f h hc
          conv => whnf
          refine LoopA.fn [48, 49, 52, 53, 10000003, 20000030, 20000045, 40000017, 90000014, 1000000] (S := Int × List Val) (fun (x9, x10) => [(3, .hptr [PV.sl (strs x2)]), (6, .clo 47 (.cap (.hptr [PV.sl (strs x2)]) (.cap0))), (7, .ptr 0 0), (8, .clo 49 (.cap (.hptr [PV.sl (strs x2)]) (.cap0))), (10, .p (.sl (Val.rows x6))), (11, .p (.int .i64 (mgetD (mset ([] : List UInt8) (0 : Int) ([] : List ((List UInt8) × Int))) x8 (0 : Int)))), (33, .p (.sl (slRows valC x1))), (34, .p (.int .i64 (((slRows valC x1).length : Nat) : Int))), (35, .p (.int .i64 x4)), (51, .p (.sl (strs x2))), (52, .p (.int .i64 (((strs x2).length : Nat) : Int))), (53, .p (.int .i64 x9))]) (fun (x9, x10) => [.box 81 [.mref 1, .bsl 2 0 1 0], .mp .string (mRows PV.str (PV.int .i64) (mset ([] : List UInt8) (0 : Int) ([] : List ((List UInt8) × Int)))) none, .pbx 71 (.ptr 3 0), .box 74 [.p (.nilsl), .bsl 4 0 1 1], .box 37 [.vsl 5 ((Val.rows x10).length)], .vec 40 6 (Val.rows x10)]) (B := F_rows_Group_l2 n x2 x6 x8 nx1 x4) h ⟨[0, 1, 2, 3, 4, 5], [], ⟨rfl, rfl, rfl, rfl⟩, by repeat (first | exact trivial | (focus (simp only [intRows, boolRows, valRows_len, Codec.length, List.length_map, List.length_set, List.length_append]; done)) | exact .inl rfl | exact rfl | exact List.not_mem_nil | (refine .inr ?_) | (refine ⟨?_, ?_⟩) | exact List.length_set.symm | decide), by repeat (first | exact trivial | (focus (simp only [intRows, boolRows, valRows_len, Codec.length, List.length_map, List.length_set, List.length_append]; done)) | exact .inl rfl | exact rfl | exact List.not_mem_nil | (refine .inr ?_) | (refine ⟨?_, ?_⟩) | exact List.length_set.symm | decide)⟩ ?_
          intro nx2 st h
          obtain ⟨x9, x10⟩ := st
          unfold F_rows_Group_l2 at h
          conv => whnf
          refine ⟨fun hc => ?_, fun hc => ?_⟩
          · replace h := cond_t h hc
            conv => whnf
            refine SeqA.cut (S := List Val) (fun x11 => [(3, .hptr [PV.sl (strs x2)]), (6, .clo 47 (.cap (.hptr [PV.sl (strs x2)]) (.cap0))), (7, .ptr 0 0), (8, .clo 49 (.cap (.hptr [PV.sl (strs x2)]) (.cap0))), (10, .p (.sl (Val.rows x6))), (11, .p (.int .i64 (mgetD (mset ([] : List UInt8) (0 : Int) ([] : List ((List UInt8) × Int))) x8 (0 : Int)))), (33, .p (.sl (slRows valC x1))), (34, .p (.int .i64 (((slRows valC x1).length : Nat) : Int))), (35, .p (.int .i64 x4)), (51, .p (.sl (strs x2))), (52, .p (.int .i64 (((strs x2).length : Nat) : Int))), (53, .p (.int .i64 x9))]) (fun x11 => [.box 81 [.mref 1, .bsl 2 0 1 0], .mp .string (mRows PV.str (PV.int .i64) (mset ([] : List UInt8) (0 : Int) ([] : List ((List UInt8) × Int)))) none, .pbx 71 (.ptr 3 0), .box 74 [.p (.nilsl), .bsl 4 0 1 1], .box 37 [.vsl 5 ((Val.rows x11).length)], .vec 40 6 (Val.rows x11)]) (F_rows_Group_k9 n nx2 x9) (r := r) ?_ ?_
            · intro x11 h
              unfold F_rows_Group_k9 at h
              conv => whnf
              exact ⟨((IntKind.i64.wrap (x9 + (1 : Int))), x11), h, ⟨[0, 1, 2, 3, 4, 5], [], ⟨rfl, rfl, rfl, rfl⟩, by repeat (first | exact trivial | (focus (simp only [intRows, boolRows, valRows_len, Codec.length, List.length_map, List.length_set, List.length_append]; done)) | exact .inl rfl | exact rfl | exact List.not_mem_nil | (refine .inr ?_) | (refine ⟨?_, ?_⟩) | exact List.length_set.symm | decide), by repeat (first | exact trivial | (focus (simp only [intRows, boolRows, valRows_len, Codec.length, List.length_map, List.length_set, List.length_append]; done)) | exact .inl rfl | exact rfl | exact List.not_mem_nil | (refine .inr ?_) | (refine ⟨?_, ?_⟩) | exact List.length_set.symm | decide)⟩⟩
            · conv => whnf
              replace h := bnd_some h
              obtain ⟨x12, h11, h⟩ := h
              refine ⟨_, Codec.at_ strC h11, ?_⟩
              conv => whnf
              iterate 6 (refine And.intro (fun h => h) ?_)
              conv => whnf
              replace h := bnd_some h
              obtain ⟨⟨x13, x14, x15, x16, x17, x18⟩, h10, h⟩ := h
              refine ⟨_, fun hg => Codec.at_ valC (gsome_some h10 hg), ?_⟩
              conv => whnf
              iterate 4 (refine And.intro (fun h => h) ?_)
              conv => whnf
              refine ⟨fun hc => ?_, fun hc => ?_⟩
              · replace h := cond_t h hc
                conv => whnf
                refine ⟨?_, ?_⟩
                · conv => whnf
                  refine ⟨fun hf => absurd hf (by first | decide | simp), fun _ => ?_⟩
                  conv => whnf
                  obtain ⟨h7, h⟩ := chk_some h
                  refine ⟨⟨of_decide_eq_true h7, Nat.zero_lt_one⟩, ?_⟩
                  conv => whnf
                  obtain ⟨h6, h⟩ := chk_some h
                  refine ⟨⟨of_decide_eq_true h6, Nat.zero_lt_one⟩, ?_⟩
                  conv => whnf
                  obtain ⟨h5, h⟩ := chk_some h
                  refine ⟨⟨of_decide_eq_true h5, Nat.zero_lt_one⟩, ?_⟩
                  conv => whnf
                  replace h := bnd_some h
                  obtain ⟨⟨x19, x20, x21, x22, x23, x24⟩, h4, h⟩ := h
                  refine ⟨_, Codec.at_ valC h4, ?_⟩
                  conv => whnf
                  refine ⟨Codec.one valC [Val.mk x19 x20 x21 x22 x23 x24], Val.rows [Val.mk x19 x20 x21 x22 x23 x24], .inl rfl, ?_⟩
                  conv => whnf
                  obtain ⟨h3, h⟩ := chk_some h
                  refine ⟨_, ⟨Codec.append valC x10 [Val.mk x19 x20 x21 x22 x23 x24], rfl, rfl, Codec.wide valC [Val.mk x19 x20 x21 x22 x23 x24], of_decide_eq_true h3, len_ok h3 (by decide)⟩, ?_⟩
                  conv => whnf
                  obtain ⟨h2, h⟩ := chk_some h
                  refine ⟨⟨of_decide_eq_true h2, Nat.zero_lt_one⟩, ?_⟩
                  conv => whnf
                  exact ⟨(x10 ++ [Val.mk x19 x20 x21 x22 x23 x24]), h, ⟨[0, 1, 2, 3, 4, 7], [], ⟨rfl, rfl, rfl, rfl⟩, by repeat (first | exact trivial | (focus (simp only [intRows, boolRows, valRows_len, Codec.length, List.length_map, List.length_set, List.length_append]; done)) | exact .inl rfl | exact rfl | exact List.not_mem_nil | (refine .inr ?_) | (refine ⟨?_, ?_⟩) | exact List.length_set.symm | decide), by repeat (first | exact trivial | (focus (simp only [intRows, boolRows, valRows_len, Codec.length, List.length_map, List.length_set, List.length_append]; done)) | exact .inl rfl | exact rfl | exact List.not_mem_nil | (refine .inr ?_) | (refine ⟨?_, ?_⟩) | exact List.length_set.symm | decide)⟩⟩
                · have h : (chk (decide ((mgetD (mset ([] : List UInt8) (0 : Int) ([] : List ((List UInt8) × Int))) x8 (0 : Int)) = 0)) (
 chk (decide (x9 = 0)) (
 bnd (idx x6 x9) fun ⟨x19, x20, x21, x22, x23, x24⟩ =>
 chk (decide ((Val.rows (x10 ++ [Val.mk (0 : Int) false (0 : Int) ([] : List UInt8) ([] : List Val) ([] : List (List UInt8))])).length * 88 ≤ 140737488355328)) (
 chk (decide (x9 = 0)) (
 bnd (natI ((((Val.rows x10).length) : Nat) : Int)) fun x25 =>
 chk (decide (x25 < (Val.rows (x10 ++ [Val.mk (0 : Int) false (0 : Int) ([] : List UInt8) ([] : List Val) ([] : List (List UInt8))])).length)) (
 bnd ((x10 ++ [Val.mk (0 : Int) false (0 : Int) ([] : List UInt8) ([] : List Val) ([] : List (List UInt8))])[x25]?) fun ⟨x26, x27, x28, x29, x30, x31⟩ =>
 F_rows_Group_k9 n nx2 x9 ((x10 ++ [Val.mk (0 : Int) false (0 : Int) ([] : List UInt8) ([] : List Val) ([] : List (List UInt8))]).set x25 (Val.mk x19 x20 x21 x22 x23 x24)))))))) = some r := by refine Eq.trans ?_ h; simp [List.getElem?_append_right, List.set_append]
                  conv => whnf
                  refine ⟨fun _ => ?_, fun hf => absurd hf (by first | decide | simp)⟩
                  conv => whnf
                  obtain ⟨h9, h⟩ := chk_some h
                  refine ⟨⟨of_decide_eq_true h9, Nat.zero_lt_one⟩, ?_⟩
                  conv => whnf
                  obtain ⟨h8, h⟩ := chk_some h
                  refine ⟨⟨of_decide_eq_true h8, Nat.zero_lt_one⟩, ?_⟩
                  conv => whnf
                  replace h := bnd_some h
                  obtain ⟨⟨x19, x20, x21, x22, x23, x24⟩, h7, h⟩ := h
                  refine ⟨_, Codec.at_ valC h7, ?_⟩
                  conv => whnf
                  refine ⟨by repeat (first | exact List.forall_mem_nil _ | refine List.forall_mem_cons.2 ⟨⟨rfl, rfl⟩, ?_⟩), Val.rows [Val.mk (0 : Int) false (0 : Int) ([] : List UInt8) ([] : List Val) ([] : List (List UInt8))], .inr (by repeat (first | exact rfl | exact trivial | refine ⟨?_, ?_⟩)), ?_⟩
                  conv => whnf
                  obtain ⟨h6, h⟩ := chk_some h
                  refine ⟨_, ⟨Codec.append valC x10 [Val.mk (0 : Int) false (0 : Int) ([] : List UInt8) ([] : List Val) ([] : List (List UInt8))], rfl, rfl, Codec.wide valC [Val.mk (0 : Int) false (0 : Int) ([] : List UInt8) ([] : List Val) ([] : List (List UInt8))], of_decide_eq_true h6, len_ok h6 (by decide)⟩, ?_⟩
                  conv => whnf
                  obtain ⟨h5, h⟩ := chk_some h
                  refine ⟨⟨of_decide_eq_true h5, Nat.zero_lt_one⟩, ?_⟩
                  conv => whnf
                  replace h := bnd_some h
                  obtain ⟨x25, h4, h⟩ := h
                  have hj := natI_some h4
                  conv => whnf
                  obtain ⟨h3, h⟩ := chk_some h
                  refine ⟨x25, ⟨hj, of_decide_eq_true h3⟩, ?_⟩
                  conv => whnf
                  replace h := bnd_some h
                  obtain ⟨⟨x26, x27, x28, x29, x30, x31⟩, h2, h⟩ := h
                  refine ⟨_, ⟨rfl, Codec.getN valC h2, rfl⟩, ?_⟩
                  conv => whnf
                  refine ⟨_, Codec.setN valC (x10 ++ [Val.mk (0 : Int) false (0 : Int) ([] : List UInt8) ([] : List Val) ([] : List (List UInt8))]) x25 (Val.mk x19 x20 x21 x22 x23 x24), ?_⟩
                  conv => whnf
                  exact ⟨((x10 ++ [Val.mk (0 : Int) false (0 : Int) ([] : List UInt8) ([] : List Val) ([] : List (List UInt8))]).set x25 (Val.mk x19 x20 x21 x22 x23 x24)), h, ⟨[0, 1, 2, 3, 4, 7], [], ⟨rfl, rfl, rfl, rfl⟩, by repeat (first | exact trivial | (focus (simp only [intRows, boolRows, valRows_len, Codec.length, List.length_map, List.length_set, List.length_append]; done)) | exact .inl rfl | exact rfl | exact List.not_mem_nil | (refine .inr ?_) | (refine ⟨?_, ?_⟩) | exact List.length_set.symm | decide), by repeat (first | exact trivial | (focus (simp only [intRows, boolRows, valRows_len, Codec.length, List.length_map, List.length_set, List.length_append]; done)) | exact .inl rfl | exact rfl | exact List.not_mem_nil | (refine .inr ?_) | (refine ⟨?_, ?_⟩) | exact List.length_set.symm | decide)⟩⟩
              · replace h := cond_f h hc
                conv => whnf
                exact ⟨x10, h, ⟨[0, 1, 2, 3, 4, 5], [], ⟨rfl, rfl, rfl, rfl⟩, by repeat (first | exact trivial | (focus (simp only [intRows, boolRows, valRows_len, Codec.length, List.length_map, List.length_set, List.length_append]; done)) | exact .inl rfl | exact rfl | exact List.not_mem_nil | (refine .inr ?_) | (refine ⟨?_, ?_⟩) | exact List.length_set.symm | decide), by repeat (first | exact trivial | (focus (simp only [intRows, boolRows, valRows_len, Codec.length, List.length_map, List.length_set, List.length_append]; done)) | exact .inl rfl | exact rfl | exact List.not_mem_nil | (refine .inr ?_) | (refine ⟨?_, ?_⟩) | exact List.length_set.symm | decide)⟩⟩
          · replace h := cond_f h hc
            conv => whnf
            exact ⟨((IntKind.i64.wrap (x4 + (1 : Int))), x10), h, ⟨[0, 1, 2, 3, 4, 5], [], ⟨rfl, rfl, rfl, rfl⟩, by repeat (first | exact trivial | (focus (simp only [intRows, boolRows, valRows_len, Codec.length, List.length_map, List.length_set, List.length_append]; done)) | exact .inl rfl | exact rfl | exact List.not_mem_nil | (refine .inr ?_) | (refine ⟨?_, ?_⟩) | exact List.length_set.symm | decide), by repeat (first | exact trivial | (focus (simp only [intRows, boolRows, valRows_len, Codec.length, List.length_map, List.length_set, List.length_append]; done)) | exact .inl rfl | exact rfl | exact List.not_mem_nil | (refine .inr ?_) | (refine ⟨?_, ?_⟩) | exact List.length_set.symm | decide)⟩⟩
      · replace h := cond_f h hc
        conv => whnf
        refine CallsI.of_vc mixed (fun _ _ => Tryd.call53 _ _) Tryd.func53 (by kernel_rfl) (inl := [1000000]) ?_
        conv => whnf
        refine LoopA.pub 5 rfl ?_
        refine LoopA.fn [48, 49, 52, 53, 10000003, 20000030, 20000045, 40000017, 90000014, 1000000] (S := List (List Val) × Int) (fun (x32, x33) => [(3, .hptr [PV.sl (strs x2)]), (15, .tsl 3 (slRows valC x32)), (132, .bsl 0 0 1 0), (133, .p (.int .i64 ((1 : Nat) : Int))), (134, .p (.int .i64 x33))]) (fun (x32, x33) => [.pbx 71 (.ptr 1 0), .box 74 [.p (.nilsl), .bsl 2 0 1 1], .box 37 [.p (.sl (Val.rows x5))], .tail 37 1 (slRows valC x32).length]) (B := F_rows_Group_l3 n x2 x5) h ⟨[2, 3, 4, 0], [3], ⟨rfl, rfl, rfl, rfl⟩, by repeat (first | exact trivial | (focus (simp only [intRows, boolRows, valRows_len, Codec.length, List.length_map, List.length_set, List.length_append]; done)) | exact .inl rfl | exact rfl | exact List.not_mem_nil | (refine .inr ?_) | (refine ⟨?_, ?_⟩) | exact List.length_set.symm | decide), by repeat (first | exact trivial | (focus (simp only [intRows, boolRows, valRows_len, Codec.length, List.length_map, List.length_set, List.length_append]; done)) | exact .inl rfl | exact rfl | exact List.not_mem_nil | (refine .inr ?_) | (refine ⟨?_, ?_⟩) | exact List.length_set.symm | decide)⟩ ?_
        intro nx3 st h
        obtain ⟨x32, x33⟩ := st
        unfold F_rows_Group_l3 at h
        conv => whnf
        refine ⟨fun hc => ?_, fun hc => ?_⟩
        · replace h := cond_t h hc
          conv => whnf
          obtain ⟨h24, h⟩ := chk_some h
          refine ⟨⟨of_decide_eq_true h24, Nat.zero_lt_one⟩, ?_⟩
          conv => whnf
          refine LoopA.fn [48, 49, 52, 53, 10000003, 20000030, 20000045, 40000017, 90000014, 1000000] (S := List Val × Int) (fun (x34, x35) => [(3, .hptr [PV.sl (strs x2)]), (15, .tsl 0 (slRows valC x32)), (17, .ptr 1 0), (18, .tsl 4 (Val.rows x34)), (132, .bsl 2 0 1 0), (133, .p (.int .i64 ((1 : Nat) : Int))), (134, .p (.int .i64 x33)), (138, .p (.sl (strs x2))), (139, .p (.int .i64 (((strs x2).length : Nat) : Int))), (140, .p (.int .i64 x35))]) (fun (x34, x35) => [.tail 37 1 (slRows valC x32).length, .box 74 [.p (.nilsl), .bsl 3 0 1 1], .pbx 71 (.ptr 1 0), .box 37 [.p (.sl (Val.rows x5))], .tail 40 6 (Val.rows x34).length]) (B := F_rows_Group_l4 n x2 x5 x32 nx3 x33) h ⟨[3, 1, 0, 2, 0], [4], ⟨rfl, rfl, rfl, rfl⟩, by repeat (first | exact trivial | (focus (simp only [intRows, boolRows, valRows_len, Codec.length, List.length_map, List.length_set, List.length_append]; done)) | exact .inl rfl | exact rfl | exact List.not_mem_nil | (refine .inr ?_) | (refine ⟨?_, ?_⟩) | exact List.length_set.symm | decide), by repeat (first | exact trivial | (focus (simp only [intRows, boolRows, valRows_len, Codec.length, List.length_map, List.length_set, List.length_append]; done)) | exact .inl rfl | exact rfl | exact List.not_mem_nil | (refine .inr ?_) | (refine ⟨?_, ?_⟩) | exact List.length_set.symm | decide)⟩ ?_
          intro nx4 st h
          obtain ⟨x34, x35⟩ := st
          unfold F_rows_Group_l4 at h
          conv => whnf
          refine ⟨fun hc => ?_, fun hc => ?_⟩
          · replace h := cond_t h hc
            conv => whnf
            refine SeqA.cut (S := List Val) (fun x36 => [(3, .hptr [PV.sl (strs x2)]), (15, .tsl 0 (slRows valC x32)), (17, .ptr 1 0), (18, .tsl 2 (Val.rows x36)), (132, .bsl 3 0 1 0), (133, .p (.int .i64 ((1 : Nat) : Int))), (134, .p (.int .i64 x33)), (138, .p (.sl (strs x2))), (139, .p (.int .i64 (((strs x2).length : Nat) : Int))), (140, .p (.int .i64 x35))]) (fun x36 => [.tail 37 1 (slRows valC x32).length, .box 74 [.p (.nilsl), .bsl 4 0 1 1], .tail 40 6 (Val.rows x36).length, .pbx 71 (.ptr 1 0), .box 37 [.p (.sl (Val.rows x5))]]) (F_rows_Group_k18 n nx4 x35) (r := r) ?_ ?_
            · intro x36 h
              unfold F_rows_Group_k18 at h
              conv => whnf
              exact ⟨(x36, (IntKind.i64.wrap (x35 + (1 : Int)))), h, ⟨[0, 1, 3, 4, 2], [], ⟨rfl, rfl, rfl, rfl⟩, by repeat (first | exact trivial | (focus (simp only [intRows, boolRows, valRows_len, Codec.length, List.length_map, List.length_set, List.length_append]; done)) | exact .inl rfl | exact rfl | exact List.not_mem_nil | (refine .inr ?_) | (refine ⟨?_, ?_⟩) | exact List.length_set.symm | decide), by repeat (first | exact trivial | (focus (simp only [intRows, boolRows, valRows_len, Codec.length, List.length_map, List.length_set, List.length_append]; done)) | exact .inl rfl | exact rfl | exact List.not_mem_nil | (refine .inr ?_) | (refine ⟨?_, ?_⟩) | exact List.length_set.symm | decide)⟩⟩
            · conv => whnf
              replace h := bnd_some h
              obtain ⟨x37, h22, h⟩ := h
              refine ⟨_, Codec.at_ strC h22, ?_⟩
              conv => whnf
              refine ⟨fun hc => ?_, fun hc => ?_⟩
              · replace h := cond_t h hc
                conv => whnf
                replace h := bnd_some h
                obtain ⟨⟨x38, x39, x40, x41, x42, x43⟩, h17, h⟩ := h
                exact absurd (idx_some h17).2 (by simp)
              · replace h := cond_f h hc
                conv => whnf
                obtain ⟨h21, h⟩ := chk_some h
                refine ⟨⟨of_decide_eq_true h21, Nat.zero_lt_one⟩, ?_⟩
                conv => whnf
                replace h := bnd_some h
                obtain ⟨⟨⟨x50, x51, x52, x53, x54, x55⟩, x56⟩, h20, h⟩ := h
                refine ⟨_, (F_rows_gather_ok n _ _  _ h20), ?_⟩
                conv => whnf
                refine ⟨fun hc => ?_, fun hc => ?_⟩
                · replace h := cond_t h hc
                  obtain rfl := Option.some.inj h
                  conv => whnf
                  repeat (first | exact rfl | exact trivial | refine ⟨?_, ?_⟩)
                · replace h := cond_f h hc
                  conv => whnf
                  replace h := bnd_some h
                  obtain ⟨⟨x57, x58, x59, x60, x61, x62⟩, h19, h⟩ := h
                  refine ⟨_, (F_value_Copy_ok n _  _ h19), ?_⟩
                  conv => whnf
                  refine ⟨Codec.one valC [Val.mk x57 x58 x59 x60 x61 x62], Val.rows [Val.mk x57 x58 x59 x60 x61 x62], .inl rfl, ?_⟩
                  conv => whnf
                  rw [show Val.rows x34 ++ Val.rows [Val.mk x57 x58 x59 x60 x61 x62] = Val.rows (x34 ++ [Val.mk x57 x58 x59 x60 x61 x62]) from Codec.append valC x34 [Val.mk x57 x58 x59 x60 x61 x62]]
                  conv => whnf
                  obtain ⟨h18, h⟩ := chk_some h
                  refine ⟨⟨Codec.wide valC (x34 ++ [Val.mk x57 x58 x59 x60 x61 x62]), of_decide_eq_true h18, len_ok h18 (by decide)⟩, ?_⟩
                  conv => whnf
                  refine ⟨⟨rfl, rfl, rfl⟩, ?_⟩
                  conv => whnf
                  exact ⟨(x34 ++ [Val.mk x57 x58 x59 x60 x61 x62]), h, ⟨[0, 1, 6, 2, 3], [], ⟨rfl, rfl, rfl, rfl⟩, by repeat (first | exact trivial | (focus (simp only [intRows, boolRows, valRows_len, Codec.length, List.length_map, List.length_set, List.length_append]; done)) | exact .inl rfl | exact rfl | exact List.not_mem_nil | (refine .inr ?_) | (refine ⟨?_, ?_⟩) | exact List.length_set.symm | decide), by repeat (first | exact trivial | (focus (simp only [intRows, boolRows, valRows_len, Codec.length, List.length_map, List.length_set, List.length_append]; done)) | exact .inl rfl | exact rfl | exact List.not_mem_nil | (refine .inr ?_) | (refine ⟨?_, ?_⟩) | exact List.length_set.symm | decide)⟩⟩
          · replace h := cond_f h hc
            conv => whnf
            refine ⟨Codec.one (slC valC) [x34], slRows valC [x34], .inl rfl, ?_⟩
            conv => whnf
            rw [show slRows valC x32 ++ slRows valC [x34] = slRows valC (x32 ++ [x34]) from Codec.append (slC valC) x32 [x34]]
            conv => whnf
            obtain ⟨h23, h⟩ := chk_some h
            refine ⟨⟨Codec.wide (slC valC) (x32 ++ [x34]), of_decide_eq_true h23, len_ok h23 (by decide)⟩, ?_⟩
            conv => whnf
            refine ⟨⟨rfl, rfl, rfl⟩, ?_⟩
            conv => whnf
            exact ⟨((x32 ++ [x34]), (IntKind.i64.wrap (x33 + (1 : Int)))), h, ⟨[2, 1, 3, 5], [], ⟨rfl, rfl, rfl, rfl⟩, by repeat (first | exact trivial | (focus (simp only [intRows, boolRows, valRows_len, Codec.length, List.length_map, List.length_set, List.length_append]; done)) | exact .inl rfl | exact rfl | exact List.not_mem_nil | (refine .inr ?_) | (refine ⟨?_, ?_⟩) | exact List.length_set.symm | decide), by repeat (first | exact trivial | (focus (simp only [intRows, boolRows, valRows_len, Codec.length, List.length_map, List.length_set, List.length_append]; done)) | exact .inl rfl | exact rfl | exact List.not_mem_nil | (refine .inr ?_) | (refine ⟨?_, ?_⟩) | exact List.length_set.symm | decide)⟩⟩
        · replace h := cond_f h hc
          obtain rfl := Option.some.inj h
          conv => whnf
          repeat (first | exact rfl | exact trivial | refine ⟨?_, ?_⟩)
    · replace h := cond_f h hc
      cases h
  · replace h := cond_f h hc
    cases h

abbrev R_F_rows_all (r : List (List Val)) : PV := PV.sl (slRows valC r)

def F_rows_all_l1 (n : Nat) (x1 : List (List Val)) : (List (List Val) × Int → Option (List (List Val))) → List (List Val) × Int → Option (List (List Val)) := fun nx1 (x2, x3) =>
 bif (decide (x3 < (((slRows valC x1).length : Nat) : Int))) then (
 bnd (idx x1 x3) fun x4 =>
 bnd (F_rows_copied n x4) fun x5 =>
 chk (decide ((slRows valC (x2 ++ [x5])).length * 24 ≤ 140737488355328)) (
 nx1 ((x2 ++ [x5]), (IntKind.i64.wrap (x3 + (1 : Int))))))
else (
 some x2)

def F_rows_all (n : Nat)  (x1 : List (List Val)) : Option (List (List Val)) :=
  loopK (F_rows_all_l1 n x1) n (([] : List _), (0 : Int))

set_option maxRecDepth 100000 in
theorem F_rows_all_ok (n : Nat)   : ∀ (x1 : List (List Val)) (r : List (List Val)), F_rows_all n x1 = some r → CallsF Tryd.prog 34 [PV.sl (slRows valC x1)] (R_F_rows_all r) := by
  intro x1 r h
  unfold F_rows_all at h
  refine CallsF.of_vcN mixed (fun _ _ => Tryd.call34 _ _) Tryd.func34 (by kernel_rfl) (inl := [1000000]) ?_
  conv => whnf
  refine LoopA.fn [1000000] (S := List (List Val) × Int) (fun (x2, x3) => [(3, .tsl 0 (slRows valC x2)), (6, .p (.sl (slRows valC x1))), (7, .p (.int .i64 (((slRows valC x1).length : Nat) : Int))), (8, .p (.int .i64 x3))]) (fun (x2, x3) => [.tail 37 1 (slRows valC x2).length]) (B := F_rows_all_l1 n x1) h ⟨[0], [0], ⟨rfl, rfl, rfl, rfl⟩, by repeat (first | exact trivial | exact .inl rfl | exact rfl | exact List.not_mem_nil | (refine .inr ?_) | (refine ⟨?_, ?_⟩) | exact List.length_set.symm | decide), by repeat (first | exact trivial | exact .inl rfl | exact rfl | exact List.not_mem_nil | (refine .inr ?_) | (refine ⟨?_, ?_⟩) | exact List.length_set.symm | decide)⟩ ?_
  intro nx1 st h
  obtain ⟨x2, x3⟩ := st
  unfold F_rows_all_l1 at h
  conv => whnf
  refine ⟨fun hc => ?_, fun hc => ?_⟩
  · replace h := cond_t h hc
    conv => whnf
    replace h := bnd_some h
    obtain ⟨x4, h3, h⟩ := h
    refine ⟨_, Codec.at_ (slC valC) h3, ?_⟩
    conv => whnf
    replace h := bnd_some h
    obtain ⟨x5, h2, h⟩ := h
    refine ⟨_, (F_rows_copied_ok n _  _ h2), ?_⟩
    conv => whnf
    refine ⟨Codec.one (slC valC) [x5], slRows valC [x5], .inl rfl, ?_⟩
    conv => whnf
    rw [show slRows valC x2 ++ slRows valC [x5] = slRows valC (x2 ++ [x5]) from Codec.append (slC valC) x2 [x5]]
    conv => whnf
    obtain ⟨h1, h⟩ := chk_some h
    refine ⟨⟨Codec.wide (slC valC) (x2 ++ [x5]), of_decide_eq_true h1, len_ok h1 (by decide)⟩, ?_⟩
    conv => whnf
    refine ⟨⟨rfl, rfl, rfl⟩, ?_⟩
    conv => whnf
    exact ⟨((x2 ++ [x5]), (IntKind.i64.wrap (x3 + (1 : Int)))), h, ⟨[1], [], ⟨rfl, rfl, rfl, rfl⟩, by repeat (first | exact trivial | exact .inl rfl | exact rfl | exact List.not_mem_nil | (refine .inr ?_) | (refine ⟨?_, ?_⟩) | exact List.length_set.symm | decide), by repeat (first | exact trivial | exact .inl rfl | exact rfl | exact List.not_mem_nil | (refine .inr ?_) | (refine ⟨?_, ?_⟩) | exact List.length_set.symm | decide)⟩⟩
  · replace h := cond_f h hc
    obtain rfl := Option.some.inj h
    conv => whnf
    repeat (first | exact rfl | exact trivial | refine ⟨?_, ?_⟩)

abbrev R_F_rows_Slice (r : List (List Val)) : PV := PV.sl (slRows valC r)

def F_rows_Slice (n : Nat)  (x1 : List (List Val)) (x2 : Int) (x3 : Int) : Option (List (List Val)) :=
  bnd (natI (bif decide ((bif decide ((((slRows valC x1).length : Nat) : Int) < x2) then (((slRows valC x1).length : Nat) : Int) else x2) > (0 : Int)) then (bif decide ((((slRows valC x1).length : Nat) : Int) < x2) then (((slRows valC x1).length : Nat) : Int) else x2) else (0 : Int))) fun x4 =>
  chk (decide (x4 ≤ (slRows valC x1).length)) (
  bnd (natI (bif decide ((bif decide ((((slRows valC (x1.drop x4)).length : Nat) : Int) < x3) then (((slRows valC (x1.drop x4)).length : Nat) : Int) else x3) > (0 : Int)) then (bif decide ((((slRows valC (x1.drop x4)).length : Nat) : Int) < x3) then (((slRows valC (x1.drop x4)).length : Nat) : Int) else x3) else (0 : Int))) fun x5 =>
  chk (decide (x5 ≤ (slRows valC (x1.drop x4)).length)) (
  bnd (F_rows_all n ((x1.drop x4).take x5)) fun x6 =>
  some x6))

set_option maxRecDepth 100000 in
theorem F_rows_Slice_ok (n : Nat)   : ∀ (x1 : List (List Val)) (x2 : Int) (x3 : Int) (r : List (List Val)), F_rows_Slice n x1 x2 x3 = some r → CallsF Tryd.prog 13 [PV.sl (slRows valC x1), PV.int .i64 x2, PV.int .i64 x3] (R_F_rows_Slice r) := by
  intro x1 x2 x3 r h
  unfold F_rows_Slice at h
  refine CallsF.of_vcN mixed (fun _ _ => Tryd.call13 _ _) Tryd.func13 (by kernel_rfl) (inl := [1000000]) ?_
  conv => whnf
  replace h := bnd_some h
  obtain ⟨x4, h5, h⟩ := h
  refine ⟨_, natI_some h5, ?_⟩
  conv => whnf
  obtain ⟨h4, h⟩ := chk_some h
  refine ⟨⟨(of_decide_eq_true h4 : (x4 ≤ (slRows valC x1).length)), Nat.le_refl _, Codec.wide (slC valC) x1⟩, ?_⟩
  first | rw [show List.drop x4 (List.take ((slRows valC x1).length) (slRows valC x1)) = slRows valC (x1.drop x4) from Codec.dropAll (slC valC) x1 x4] | rw [show List.drop x4 (List.take (((slC valC).rows x1).length) ((slC valC).rows x1)) = slRows valC (x1.drop x4) from Codec.dropAll (slC valC) x1 x4]
  conv => whnf
  replace h := bnd_some h
  obtain ⟨x5, h3, h⟩ := h
  refine ⟨_, natI_some h3, ?_⟩
  conv => whnf
  obtain ⟨h2, h⟩ := chk_some h
  refine ⟨⟨Nat.zero_le _, (of_decide_eq_true h2 : (x5 ≤ (slRows valC (x1.drop x4)).length)), Codec.wide (slC valC) (x1.drop x4)⟩, ?_⟩
  first | rw [show List.drop 0 (List.take x5 (slRows valC (x1.drop x4))) = slRows valC ((x1.drop x4).take x5) from Codec.take (slC valC) (x1.drop x4) x5] | rw [show List.drop 0 (List.take x5 ((slC valC).rows (x1.drop x4))) = slRows valC ((x1.drop x4).take x5) from Codec.take (slC valC) (x1.drop x4) x5]
  conv => whnf
  replace h := bnd_some h
  obtain ⟨x6, h1, h⟩ := h
  refine ⟨_, (F_rows_all_ok n _  _ h1), ?_⟩
  obtain rfl := Option.some.inj h
  conv => whnf
  repeat (first | exact rfl | exact trivial | refine ⟨?_, ?_⟩)

abbrev R_F_L17_works (r : Bool) : PV := PV.bool r

def F_L17_works (n : Nat)   : Option (Bool) :=
  bnd (F_L17_whole n (2 : Int)) fun ⟨x1, x2, x3, x4, x5, x6⟩ =>
  bnd (F_L17_whole n (1 : Int)) fun ⟨x7, x8, x9, x10, x11, x12⟩ =>
  bnd (F_L17_whole n (2 : Int)) fun ⟨x13, x14, x15, x16, x17, x18⟩ =>
  bnd (F_rows_Unique n [[Val.mk x1 x2 x3 x4 x5 x6], [Val.mk x7 x8 x9 x10 x11 x12], [Val.mk x13 x14 x15 x16 x17 x18]]) fun x19 =>
  bnd (F_rows_Sort n [[Val.mk x1 x2 x3 x4 x5 x6], [Val.mk x7 x8 x9 x10 x11 x12], [Val.mk x13 x14 x15 x16 x17 x18]] [[Val.mk x1 x2 x3 x4 x5 x6], [Val.mk x7 x8 x9 x10 x11 x12], [Val.mk x13 x14 x15 x16 x17 x18]] [false]) fun x20 =>
  bnd (F_rows_Group n [[Val.mk x1 x2 x3 x4 x5 x6], [Val.mk x7 x8 x9 x10 x11 x12], [Val.mk x13 x14 x15 x16 x17 x18]] [([115, 117, 109] : List UInt8)]) fun ⟨x21, x22⟩ =>
  bnd (gsome ((((slRows valC x19).length : Nat) : Int) == (2 : Int)) (idx x19 (0 : Int))) fun x23 =>
  bnd (gsome ((((slRows valC x19).length : Nat) : Int) == (2 : Int)) (idx x23 (0 : Int))) fun ⟨x24, x25, x26, x27, x28, x29⟩ =>
  bnd (gsome (bif (bif ((((slRows valC x19).length : Nat) : Int) == (2 : Int)) then (x26 == (2 : Int)) else false) then ((((slRows valC x20).length : Nat) : Int) == (3 : Int)) else false) (idx x20 (0 : Int))) fun x30 =>
  bnd (gsome (bif (bif ((((slRows valC x19).length : Nat) : Int) == (2 : Int)) then (x26 == (2 : Int)) else false) then ((((slRows valC x20).length : Nat) : Int) == (3 : Int)) else false) (idx x30 (0 : Int))) fun ⟨x31, x32, x33, x34, x35, x36⟩ =>
  bnd (gsome (bif (bif (bif (bif (bif ((((slRows valC x19).length : Nat) : Int) == (2 : Int)) then (x26 == (2 : Int)) else false) then ((((slRows valC x20).length : Nat) : Int) == (3 : Int)) else false) then (x33 == (1 : Int)) else false) then (x22 == (0 : Int)) else false) then ((((slRows valC x21).length : Nat) : Int) == (1 : Int)) else false) (idx x21 (0 : Int))) fun x37 =>
  bnd (gsome (bif (bif (bif (bif (bif ((((slRows valC x19).length : Nat) : Int) == (2 : Int)) then (x26 == (2 : Int)) else false) then ((((slRows valC x20).length : Nat) : Int) == (3 : Int)) else false) then (x33 == (1 : Int)) else false) then (x22 == (0 : Int)) else false) then ((((slRows valC x21).length : Nat) : Int) == (1 : Int)) else false) (idx x37 (0 : Int))) fun ⟨x38, x39, x40, x41, x42, x43⟩ =>
  bnd (gsome (bif (bif (bif (bif (bif (bif ((((slRows valC x19).length : Nat) : Int) == (2 : Int)) then (x26 == (2 : Int)) else false) then ((((slRows valC x20).length : Nat) : Int) == (3 : Int)) else false) then (x33 == (1 : Int)) else false) then (x22 == (0 : Int)) else false) then ((((slRows valC x21).length : Nat) : Int) == (1 : Int)) else false) then (x40 == (5 : Int)) else false) (F_rows_Slice n [[Val.mk x1 x2 x3 x4 x5 x6], [Val.mk x7 x8 x9 x10 x11 x12], [Val.mk x13 x14 x15 x16 x17 x18]] (1 : Int) (1 : Int))) fun x44 =>
  some (bif (bif (bif (bif (bif (bif (bif ((((slRows valC x19).length : Nat) : Int) == (2 : Int)) then (x26 == (2 : Int)) else false) then ((((slRows valC x20).length : Nat) : Int) == (3 : Int)) else false) then (x33 == (1 : Int)) else false) then (x22 == (0 : Int)) else false) then ((((slRows valC x21).length : Nat) : Int) == (1 : Int)) else false) then (x40 == (5 : Int)) else false) then ((((slRows valC x44).length : Nat) : Int) == (1 : Int)) else false)

set_option maxHeartbeats 4000000 in
set_option maxRecDepth 100000 in
theorem F_L17_works_ok (n : Nat)   : ∀  (r : Bool), F_L17_works n  = some r → CallsF Tryd.prog 10 [] (R_F_L17_works r) := by
  intro  r h
  unfold F_L17_works at h
  refine CallsF.of_vcN mixed (fun _ _ => Tryd.call10 _ _) Tryd.func10 (by kernel_rfl) (inl := [1000000]) ?_
  conv => whnf
  replace h := bnd_some h
  obtain ⟨⟨x1, x2, x3, x4, x5, x6⟩, h13, h⟩ := h
  refine ⟨_, (F_L17_whole_ok n _  _ h13), ?_⟩
  conv => whnf
  refine ⟨Codec.one valC [Val.mk x1 x2 x3 x4 x5 x6], Val.rows [Val.mk x1 x2 x3 x4 x5 x6], .inl rfl, ?_⟩
  conv => whnf
  replace h := bnd_some h
  obtain ⟨⟨x7, x8, x9, x10, x11, x12⟩, h12, h⟩ := h
  refine ⟨_, (F_L17_whole_ok n _  _ h12), ?_⟩
  conv => whnf
  refine ⟨Codec.one valC [Val.mk x7 x8 x9 x10 x11 x12], Val.rows [Val.mk x7 x8 x9 x10 x11 x12], .inl rfl, ?_⟩
  conv => whnf
  replace h := bnd_some h
  obtain ⟨⟨x13, x14, x15, x16, x17, x18⟩, h11, h⟩ := h
  refine ⟨_, (F_L17_whole_ok n _  _ h11), ?_⟩
  conv => whnf
  refine ⟨Codec.one valC [Val.mk x13 x14 x15 x16 x17 x18], Val.rows [Val.mk x13 x14 x15 x16 x17 x18], .inl rfl, ?_⟩
  conv => whnf
  refine ⟨Codec.one (slC valC) [[Val.mk x1 x2 x3 x4 x5 x6], [Val.mk x7 x8 x9 x10 x11 x12], [Val.mk x13 x14 x15 x16 x17 x18]], slRows valC [[Val.mk x1 x2 x3 x4 x5 x6], [Val.mk x7 x8 x9 x10 x11 x12], [Val.mk x13 x14 x15 x16 x17 x18]], .inl rfl, ?_⟩
  conv => whnf
  replace h := bnd_some h
  obtain ⟨x19, h10, h⟩ := h
  refine ⟨_, (F_rows_Unique_ok n _  _ h10), ?_⟩
  conv => whnf
  refine ⟨Codec.one boolC [false], boolRows [false], .inl rfl, ?_⟩
  conv => whnf
  replace h := bnd_some h
  obtain ⟨x20, h9, h⟩ := h
  refine ⟨_, (F_rows_Sort_ok n _ _ _  _ h9), ?_⟩
  conv => whnf
  refine ⟨Codec.one strC [([115, 117, 109] : List UInt8)], strs [([115, 117, 109] : List UInt8)], .inl rfl, ?_⟩
  conv => whnf
  replace h := bnd_some h
  obtain ⟨⟨x21, x22⟩, h8, h⟩ := h
  refine ⟨_, (F_rows_Group_ok n _ _  _ h8), ?_⟩
  conv => whnf
  refine And.intro (fun h => h) ?_
  conv => whnf
  replace h := bnd_some h
  obtain ⟨x23, h7, h⟩ := h
  refine ⟨_, fun hg => Codec.at_ (slC valC) (gsome_some h7 hg), ?_⟩
  conv => whnf
  iterate 2 (refine And.intro (fun h => h) ?_)
  conv => whnf
  replace h := bnd_some h
  obtain ⟨⟨x24, x25, x26, x27, x28, x29⟩, h6, h⟩ := h
  refine ⟨_, fun hg => Codec.at_ valC (gsome_some h6 hg), ?_⟩
  conv => whnf
  iterate 8 (refine And.intro (fun h => h) ?_)
  conv => whnf
  replace h := bnd_some h
  obtain ⟨x30, h5, h⟩ := h
  refine ⟨_, fun hg => Codec.at_ (slC valC) (gsome_some h5 hg), ?_⟩
  conv => whnf
  iterate 2 (refine And.intro (fun h => h) ?_)
  conv => whnf
  replace h := bnd_some h
  obtain ⟨⟨x31, x32, x33, x34, x35, x36⟩, h4, h⟩ := h
  refine ⟨_, fun hg => Codec.at_ valC (gsome_some h4 hg), ?_⟩
  conv => whnf
  iterate 10 (refine And.intro (fun h => h) ?_)
  conv => whnf
  replace h := bnd_some h
  obtain ⟨x37, h3, h⟩ := h
  refine ⟨_, fun hg => Codec.at_ (slC valC) (gsome_some h3 hg), ?_⟩
  conv => whnf
  iterate 2 (refine And.intro (fun h => h) ?_)
  conv => whnf
  replace h := bnd_some h
  obtain ⟨⟨x38, x39, x40, x41, x42, x43⟩, h2, h⟩ := h
  refine ⟨_, fun hg => Codec.at_ valC (gsome_some h2 hg), ?_⟩
  conv => whnf
  iterate 5 (refine And.intro (fun h => h) ?_)
  conv => whnf
  replace h := bnd_some h
  obtain ⟨x44, h1, h⟩ := h
  refine ⟨_, fun hg => (F_rows_Slice_ok n _ _ _  _ (gsome_some h1 hg)), ?_⟩
  conv => whnf
  iterate 3 (refine And.intro (fun h => h) ?_)
  obtain rfl := Option.some.inj h
  conv => whnf
  repeat (first | exact rfl | exact trivial | refine ⟨?_, ?_⟩)

abbrev R_F_R03_Copy (r : Val) : PV := PV.agg (valC.cells r)

def F_R03_Copy_l1 (n : Nat) (x5 : List Val) (g27 : Val → Option (Val)) (x6 : List (List UInt8)) (x1 : Int) (x2 : Bool) (x3 : Int) (x4 : List UInt8) : (List Val × Int → Option (Val)) → List Val × Int → Option (Val) := fun nx1 (x7, x8) =>
 bif (decide (x8 < (((Val.rows x5).length : Nat) : Int))) then (
 bnd (idx x5 x8) fun ⟨x9, x10, x11, x12, x13, x14⟩ =>
 bnd (g27 (Val.mk x9 x10 x11 x12 x13 x14)) fun ⟨x15, x16, x17, x18, x19, x20⟩ =>
 chk (decide ((Val.rows (x7 ++ [Val.mk x15 x16 x17 x18 x19 x20])).length * 88 ≤ 140737488355328)) (
 nx1 ((x7 ++ [Val.mk x15 x16 x17 x18 x19 x20]), (IntKind.i64.wrap (x8 + (1 : Int))))))
else (
 chk (decide ((strs x6).length * 16 ≤ 140737488355328)) (
 some (Val.mk x1 x2 x3 x4 x7 x6)))

def BF_R03_Copy (n : Nat) (g27 : Val → Option (Val)) (a0_ : Val) : Option (Val) :=
  match a0_ with
  | ⟨x1, x2, x3, x4, x5, x6⟩ =>
  loopK (F_R03_Copy_l1 n x5 g27 x6 x1 x2 x3 x4) n (([] : List _), (0 : Int))

set_option maxRecDepth 100000 in
theorem BF_R03_Copy_ok (n : Nat) (g27 : Val → Option (Val)) (g27_ok : ∀ (a0_ : Val) (r : Val), g27 a0_ = some r → CallsF Tryd.prog 27 [PV.agg (valC.cells a0_)] (R_F_R03_Copy r)) : ∀ (a0_ : Val) (r : Val), BF_R03_Copy n g27 a0_ = some r → CallsF Tryd.prog 27 [PV.agg (valC.cells a0_)] (R_F_R03_Copy r) := by
  intro a0_ r h
  obtain ⟨x1, x2, x3, x4, x5, x6⟩ := a0_
  unfold BF_R03_Copy at h
  refine CallsF.of_vcN mixed (fun _ _ => Tryd.call27 _ _) Tryd.func27 (by kernel_rfl) (inl := [1000000]) ?_
  conv => whnf
  refine LoopA.fn [1000000] (S := List Val × Int) (fun (x7, x8) => [(1, .ptr 0 0), (2, .ptr 1 0), (3, .tsl 2 (Val.rows x7)), (4, .p (.int .i64 x8))]) (fun (x7, x8) => [.box 40 [.p (.int .i64 x1), .p (.bool x2), .p (.int .i64 x3), .p (.str x4), .p (.sl (Val.rows x5)), .p (.sl (strs x6))], .box 40 [.p (.int .i64 (0 : Int)), .p (.bool false), .p (.int .i64 (0 : Int)), .p (.str ([] : List UInt8)), .p (.nilsl), .p (.nilsl)], .tail 40 6 (Val.rows x7).length]) (B := F_R03_Copy_l1 n x5 g27 x6 x1 x2 x3 x4) h ⟨[0, 1, 0], [2], ⟨rfl, rfl, rfl, rfl⟩, by repeat (first | exact trivial | exact .inl rfl | exact rfl | exact List.not_mem_nil | (refine .inr ?_) | (refine ⟨?_, ?_⟩) | exact List.length_set.symm | decide), by repeat (first | exact trivial | exact .inl rfl | exact rfl | exact List.not_mem_nil | (refine .inr ?_) | (refine ⟨?_, ?_⟩) | exact List.length_set.symm | decide)⟩ ?_
  intro nx1 st h
  obtain ⟨x7, x8⟩ := st
  unfold F_R03_Copy_l1 at h
  conv => whnf
  refine ⟨fun hc => ?_, fun hc => ?_⟩
  · replace h := cond_t h hc
    conv => whnf
    replace h := bnd_some h
    obtain ⟨⟨x9, x10, x11, x12, x13, x14⟩, h3, h⟩ := h
    refine ⟨_, Codec.at_ valC h3, ?_⟩
    conv => whnf
    replace h := bnd_some h
    obtain ⟨⟨x15, x16, x17, x18, x19, x20⟩, h2, h⟩ := h
    refine ⟨_, (g27_ok _  _ h2), ?_⟩
    conv => whnf
    refine ⟨Codec.one valC [Val.mk x15 x16 x17 x18 x19 x20], Val.rows [Val.mk x15 x16 x17 x18 x19 x20], .inl rfl, ?_⟩
    conv => whnf
    rw [show Val.rows x7 ++ Val.rows [Val.mk x15 x16 x17 x18 x19 x20] = Val.rows (x7 ++ [Val.mk x15 x16 x17 x18 x19 x20]) from Codec.append valC x7 [Val.mk x15 x16 x17 x18 x19 x20]]
    conv => whnf
    obtain ⟨h1, h⟩ := chk_some h
    refine ⟨⟨Codec.wide valC (x7 ++ [Val.mk x15 x16 x17 x18 x19 x20]), of_decide_eq_true h1, len_ok h1 (by decide)⟩, ?_⟩
    conv => whnf
    refine ⟨⟨rfl, rfl, rfl⟩, ?_⟩
    conv => whnf
    exact ⟨((x7 ++ [Val.mk x15 x16 x17 x18 x19 x20]), (IntKind.i64.wrap (x8 + (1 : Int)))), h, ⟨[0, 1, 3], [], ⟨rfl, rfl, rfl, rfl⟩, by repeat (first | exact trivial | exact .inl rfl | exact rfl | exact List.not_mem_nil | (refine .inr ?_) | (refine ⟨?_, ?_⟩) | exact List.length_set.symm | decide), by repeat (first | exact trivial | exact .inl rfl | exact rfl | exact List.not_mem_nil | (refine .inr ?_) | (refine ⟨?_, ?_⟩) | exact List.length_set.symm | decide)⟩⟩
  · replace h := cond_f h hc
    conv => whnf
    obtain ⟨h4, h⟩ := chk_some h
    refine ⟨⟨Codec.wide strC x6, of_decide_eq_true h4, len_ok h4 (by decide)⟩, ?_⟩
    obtain rfl := Option.some.inj h
    conv => whnf
    repeat (first | exact rfl | exact trivial | refine ⟨?_, ?_⟩)

def F_R03_Copy : Nat → Val → Option (Val)
  | 0 => fun _ => none
  | n + 1 => BF_R03_Copy n (F_R03_Copy n)

set_option maxRecDepth 100000 in
theorem F_R03_Copy_all (n : Nat) : (∀ (a0_ : Val) (r : Val), F_R03_Copy n a0_ = some r → CallsF Tryd.prog 27 [PV.agg (valC.cells a0_)] (R_F_R03_Copy r)) := by
  induction n with
  | zero => exact (by intros; rename_i h; cases h)
  | succ n ih =>
    have hg27 := ih
    exact BF_R03_Copy_ok n (F_R03_Copy n) hg27

set_option maxRecDepth 100000 in
theorem F_R03_Copy_ok (n : Nat) : ∀ (a0_ : Val) (r : Val), F_R03_Copy n a0_ = some r → CallsF Tryd.prog 27 [PV.agg (valC.cells a0_)] (R_F_R03_Copy r) := (F_R03_Copy_all n)

abbrev R_F_R17_Copy (r : List (List Val)) : PV := PV.sl (slRows valC r)

def F_R17_Copy_l2 (n : Nat) (x1 : List (List Val)) (x3 : Int) (x2 : List (List Val)) (nx1 : List (List Val) × Int → Option (List (List Val))) : (List Val × Int → Option (List (List Val))) → List Val × Int → Option (List (List Val)) := fun nx2 (x4, x5) =>
 bnd (idx x1 x3) fun x6 =>
 bif (decide (x5 < (((Val.rows x6).length : Nat) : Int))) then (
 bnd (idx x1 x3) fun x7 =>
 bnd (idx x7 x5) fun ⟨x8, x9, x10, x11, x12, x13⟩ =>
 bnd (F_R03_Copy n (Val.mk x8 x9 x10 x11 x12 x13)) fun ⟨x14, x15, x16, x17, x18, x19⟩ =>
 chk (decide ((Val.rows (x4 ++ [Val.mk x14 x15 x16 x17 x18 x19])).length * 88 ≤ 140737488355328)) (
 nx2 ((x4 ++ [Val.mk x14 x15 x16 x17 x18 x19]), (IntKind.i64.wrap (x5 + (1 : Int))))))
else (
 chk (decide ((slRows valC (x2 ++ [x4])).length * 24 ≤ 140737488355328)) (
 nx1 ((x2 ++ [x4]), (IntKind.i64.wrap (x3 + (1 : Int))))))

def F_R17_Copy_l1 (n : Nat) (x1 : List (List Val)) : (List (List Val) × Int → Option (List (List Val))) → List (List Val) × Int → Option (List (List Val)) := fun nx1 (x2, x3) =>
 bif (decide (x3 < (((slRows valC x1).length : Nat) : Int))) then (
 loopK (F_R17_Copy_l2 n x1 x3 x2 nx1) n (([] : List _), (0 : Int)))
else (
 some x2)

def F_R17_Copy (n : Nat)  (x1 : List (List Val)) : Option (List (List Val)) :=
  loopK (F_R17_Copy_l1 n x1) n (([] : List _), (0 : Int))

set_option maxRecDepth 100000 in
theorem F_R17_Copy_ok (n : Nat)   : ∀ (x1 : List (List Val)) (r : List (List Val)), F_R17_Copy n x1 = some r → CallsF Tryd.prog 11 [PV.sl (slRows valC x1)] (R_F_R17_Copy r) := by
  intro x1 r h
  unfold F_R17_Copy at h
  refine CallsF.of_vcN mixed (fun _ _ => Tryd.call11 _ _) Tryd.func11 (by kernel_rfl) (inl := [1000000]) ?_
  conv => whnf
  refine LoopA.fn [1000000] (S := List (List Val) × Int) (fun (x2, x3) => [(0, .p (.sl (slRows valC x1))), (3, .tsl 0 (slRows valC x2)), (4, .p (.int .i64 x3))]) (fun (x2, x3) => [.tail 37 1 (slRows valC x2).length]) (B := F_R17_Copy_l1 n x1) h ⟨[0], [0], ⟨rfl, rfl, rfl, rfl⟩, by repeat (first | exact trivial | exact .inl rfl | exact rfl | exact List.not_mem_nil | (refine .inr ?_) | (refine ⟨?_, ?_⟩) | exact List.length_set.symm | decide), by repeat (first | exact trivial | exact .inl rfl | exact rfl | exact List.not_mem_nil | (refine .inr ?_) | (refine ⟨?_, ?_⟩) | exact List.length_set.symm | decide)⟩ ?_
  intro nx1 st h
  obtain ⟨x2, x3⟩ := st
  unfold F_R17_Copy_l1 at h
  conv => whnf
  refine ⟨fun hc => ?_, fun hc => ?_⟩
  · replace h := cond_t h hc
    conv => whnf
    refine LoopA.fn [1000000] (S := List Val × Int) (fun (x4, x5) => [(0, .p (.sl (slRows valC x1))), (3, .tsl 0 (slRows valC x2)), (4, .p (.int .i64 x3)), (5, .tsl 1 (Val.rows x4)), (6, .p (.int .i64 x5))]) (fun (x4, x5) => [.tail 37 1 (slRows valC x2).length, .tail 40 6 (Val.rows x4).length]) (B := F_R17_Copy_l2 n x1 x3 x2 nx1) h ⟨[0, 0], [1], ⟨rfl, rfl, rfl, rfl⟩, by repeat (first | exact trivial | exact .inl rfl | exact rfl | exact List.not_mem_nil | (refine .inr ?_) | (refine ⟨?_, ?_⟩) | exact List.length_set.symm | decide), by repeat (first | exact trivial | exact .inl rfl | exact rfl | exact List.not_mem_nil | (refine .inr ?_) | (refine ⟨?_, ?_⟩) | exact List.length_set.symm | decide)⟩ ?_
    intro nx2 st h
    obtain ⟨x4, x5⟩ := st
    unfold F_R17_Copy_l2 at h
    conv => whnf
    replace h := bnd_some h
    obtain ⟨x6, h6, h⟩ := h
    refine ⟨_, Codec.at_ (slC valC) h6, ?_⟩
    conv => whnf
    refine ⟨fun hc => ?_, fun hc => ?_⟩
    · replace h := cond_t h hc
      conv => whnf
      replace h := bnd_some h
      obtain ⟨x7, h4, h⟩ := h
      refine ⟨_, Codec.at_ (slC valC) h4, ?_⟩
      conv => whnf
      replace h := bnd_some h
      obtain ⟨⟨x8, x9, x10, x11, x12, x13⟩, h3, h⟩ := h
      refine ⟨_, Codec.at_ valC h3, ?_⟩
      conv => whnf
      replace h := bnd_some h
      obtain ⟨⟨x14, x15, x16, x17, x18, x19⟩, h2, h⟩ := h
      refine ⟨_, (F_R03_Copy_ok n _  _ h2), ?_⟩
      conv => whnf
      refine ⟨Codec.one valC [Val.mk x14 x15 x16 x17 x18 x19], Val.rows [Val.mk x14 x15 x16 x17 x18 x19], .inl rfl, ?_⟩
      conv => whnf
      rw [show Val.rows x4 ++ Val.rows [Val.mk x14 x15 x16 x17 x18 x19] = Val.rows (x4 ++ [Val.mk x14 x15 x16 x17 x18 x19]) from Codec.append valC x4 [Val.mk x14 x15 x16 x17 x18 x19]]
      conv => whnf
      obtain ⟨h1, h⟩ := chk_some h
      refine ⟨⟨Codec.wide valC (x4 ++ [Val.mk x14 x15 x16 x17 x18 x19]), of_decide_eq_true h1, len_ok h1 (by decide)⟩, ?_⟩
      conv => whnf
      refine ⟨⟨rfl, rfl, rfl⟩, ?_⟩
      conv => whnf
      exact ⟨((x4 ++ [Val.mk x14 x15 x16 x17 x18 x19]), (IntKind.i64.wrap (x5 + (1 : Int)))), h, ⟨[0, 2], [], ⟨rfl, rfl, rfl, rfl⟩, by repeat (first | exact trivial | exact .inl rfl | exact rfl | exact List.not_mem_nil | (refine .inr ?_) | (refine ⟨?_, ?_⟩) | exact List.length_set.symm | decide), by repeat (first | exact trivial | exact .inl rfl | exact rfl | exact List.not_mem_nil | (refine .inr ?_) | (refine ⟨?_, ?_⟩) | exact List.length_set.symm | decide)⟩⟩
    · replace h := cond_f h hc
      conv => whnf
      refine ⟨Codec.one (slC valC) [x4], slRows valC [x4], .inl rfl, ?_⟩
      conv => whnf
      rw [show slRows valC x2 ++ slRows valC [x4] = slRows valC (x2 ++ [x4]) from Codec.append (slC valC) x2 [x4]]
      conv => whnf
      obtain ⟨h5, h⟩ := chk_some h
      refine ⟨⟨Codec.wide (slC valC) (x2 ++ [x4]), of_decide_eq_true h5, len_ok h5 (by decide)⟩, ?_⟩
      conv => whnf
      refine ⟨⟨rfl, rfl, rfl⟩, ?_⟩
      conv => whnf
      exact ⟨((x2 ++ [x4]), (IntKind.i64.wrap (x3 + (1 : Int)))), h, ⟨[2], [], ⟨rfl, rfl, rfl, rfl⟩, by repeat (first | exact trivial | exact .inl rfl | exact rfl | exact List.not_mem_nil | (refine .inr ?_) | (refine ⟨?_, ?_⟩) | exact List.length_set.symm | decide), by repeat (first | exact trivial | exact .inl rfl | exact rfl | exact List.not_mem_nil | (refine .inr ?_) | (refine ⟨?_, ?_⟩) | exact List.length_set.symm | decide)⟩⟩
  · replace h := cond_f h hc
    obtain rfl := Option.some.inj h
    conv => whnf
    repeat (first | exact rfl | exact trivial | refine ⟨?_, ?_⟩)
end W
end
section
open Go Go.Proofs Ax Go.RowKit
namespace W
theorem bigs_mem {l : List Val} {v : Val} (h : v ∈ l) : v.big ≤ bigs l := by
  induction l with
  | nil => cases h
  | cons w l ih =>
    simp only [bigs]
    rcases List.mem_cons.1 h with rfl | h
    · omega
    · have := ih h; omega

def cb : List UInt8 → List UInt8 → Int
  | [], [] => 0
  | [], _ :: _ => -1
  | _ :: _, [] => 1
  | a :: x, b :: y => if a < b then -1 else if b < a then 1 else cb x y
def th (a b : Int) : Int := if a = 0 then b else a
def cmpI (a b : Int) : Int := if a < b then -1 else if b < a then 1 else 0

theorem th_zero (b : Int) : th 0 b = b := rfl
theorem th_ne {a : Int} (b : Int) (h : a ≠ 0) : th a b = a := if_neg h
theorem th_assoc (a b c : Int) : th (th a b) c = th a (th b c) := by
  by_cases h : a = 0
  · subst h; rfl
  · rw [th_ne _ h, th_ne _ h, th_ne _ h]
theorem cb_same (a : UInt8) (x y : List UInt8) : cb (a :: x) (a :: y) = cb x y := by
  have : ¬ a < a := UInt8.lt_irrefl a
  simp [cb, this]
theorem cb_lt {a b : UInt8} (x y : List UInt8) (h : a < b) : cb (a :: x) (b :: y) = -1 := by simp [cb, h]
theorem cb_gt {a b : UInt8} (x y : List UInt8) (h : b < a) : cb (a :: x) (b :: y) = 1 := by
  have : ¬ a < b := fun h2 => absurd (UInt8.lt_trans h h2) (UInt8.lt_irrefl b)
  simp [cb, this, h]
theorem cb_pre (p x y : List UInt8) : cb (p ++ x) (p ++ y) = cb x y := by
  induction p with
  | nil => rfl
  | cons a p ih => rw [List.cons_append, List.cons_append, cb_same, ih]

theorem u8_tri (a b : UInt8) : a < b ∨ a = b ∨ b < a := by
  rcases Nat.lt_trichotomy a.toNat b.toNat with h | h | h
  · exact .inl (UInt8.lt_iff_toNat_lt.2 h)
  · exact .inr (.inl (UInt8.toNat.inj h))
  · exact .inr (.inr (UInt8.lt_iff_toNat_lt.2 h))

theorem cb_facts : ∀ x y : List UInt8, Op.bytesLess x y = decide (cb x y < 0) ∧ (x == y) = (cb x y == 0) ∧ (cb x y = -1 ∨ cb x y = 0 ∨ cb x y = 1)
  | [], [] => ⟨rfl, rfl, .inr (.inl rfl)⟩
  | [], _ :: _ => ⟨rfl, rfl, .inl rfl⟩
  | _ :: _, [] => ⟨rfl, rfl, .inr (.inr rfl)⟩
  | a :: x, b :: y => by
    have ih := cb_facts x y
    rcases u8_tri a b with h | h | h
    · rw [cb_lt _ _ h]
      have hne : a ≠ b := fun e => absurd (e ▸ h) (UInt8.lt_irrefl b)
      refine ⟨by simp [Op.bytesLess, h], by simp [hne], .inl rfl⟩
    · subst h
      rw [cb_same]
      refine ⟨?_, ?_, ih.2.2⟩
      · have : ¬ a < a := UInt8.lt_irrefl a
        simp [Op.bytesLess, this, ih.1]
      · have := ih.2.1
        rw [← this]
        rw [Bool.eq_iff_iff]; simp
    · rw [cb_gt _ _ h]
      have hne : a ≠ b := fun e => absurd (e ▸ h) (UInt8.lt_irrefl b)
      have hn : ¬ a < b := fun h2 => absurd (UInt8.lt_trans h h2) (UInt8.lt_irrefl b)
      refine ⟨by simp [Op.bytesLess, hn, hne], by simp [hne], .inr (.inr rfl)⟩

theorem F_cmp_Compare_int_eq (n : Nat) (a b : Int) : F_cmp_Compare_int n a b = some (cmpI a b) := by
  unfold F_cmp_Compare_int F_cmp_isNaN_int cmpI
  have e1 : (a != a) = false := by simp
  have e2 : (b != b) = false := by simp
  simp only [bnd_eq, e1, e2, cond_false]
  by_cases h1 : a < b
  · simp [h1]
  · by_cases h2 : b < a
    · simp [h1, h2]
    · simp [h1, h2]
theorem F_cmp_Compare_int64_eq (n : Nat) (a b : Int) : F_cmp_Compare_int64 n a b = some (cmpI a b) := by
  unfold F_cmp_Compare_int64 F_cmp_isNaN_int64 cmpI
  have e1 : (a != a) = false := by simp
  have e2 : (b != b) = false := by simp
  simp only [bnd_eq, e1, e2, cond_false]
  by_cases h1 : a < b
  · simp [h1]
  · by_cases h2 : b < a
    · simp [h1, h2]
    · simp [h1, h2]
theorem F_cmp_Compare_string_eq (n : Nat) (a b : List UInt8) : F_cmp_Compare_string n a b = some (cb a b) := by
  unfold F_cmp_Compare_string F_cmp_isNaN_string
  have e1 : (!(a == a)) = false := by simp
  have e2 : (!(b == b)) = false := by simp
  obtain ⟨h1, h2, h3⟩ := cb_facts a b
  simp only [bnd_eq, e1, e2, cond_false, h1, h2]
  rcases h3 with h | h | h <;> rw [h] <;> rfl
theorem F_value_number_eq (n : Nat) (b : Bool) : F_value_number n b = some (if b then 1 else 0) := by cases b <;> rfl

theorem F_value_first_int_loop (n : Nat) (l : List Int) (hl : l.length ≤ 100) : ∀ (k i : Nat), l.length - i < k → i ≤ l.length → loopK (F_value_first_int_l1 n l) k (i : Int) = some ((l.drop i).foldr th 0) := by
  intro k
  induction k with
  | zero => intro i h; omega
  | succ k ih =>
    intro i hk hi
    rw [loopK_succ]
    generalize loopK (F_value_first_int_l1 n l) k = nx at ih ⊢
    unfold F_value_first_int_l1
    have hlen : (intRows .i64 l).length = l.length := by simp [intRows]
    simp only [hlen, Ax.idx_nat]
    rcases Nat.lt_or_ge i l.length with h | h
    · have d : decide ((i : Int) < (l.length : Int)) = true := by simp; omega
      obtain ⟨x, hx⟩ : ∃ x, l[i]? = some x := ⟨_, List.getElem?_eq_getElem h⟩
      have hd : l.drop i = x :: l.drop (i + 1) := by
        obtain ⟨hlt, rfl⟩ := List.getElem?_eq_some_iff.1 hx
        exact List.drop_eq_getElem_cons hlt
      simp only [d, cond_true, Ax.idx_nat, hx, bnd_eq, hd, List.foldr_cons]
      by_cases h0 : x = 0
      · subst h0
        have : ((0 : Int) != 0) = false := rfl
        rw [this, cond_false, wrap_nat i (by omega), th_zero]
        exact ih (i + 1) (by omega) h
      · have : (x != 0) = true := by simpa using h0
        rw [this, cond_true, th_ne _ h0]
    · have d : decide ((i : Int) < (l.length : Int)) = false := by simp; omega
      rw [d, List.drop_eq_nil_of_le h]
      rfl
theorem F_value_first_int_eq (n : Nat) (l : List Int) (hl : l.length ≤ 100) (hn : l.length < n) : F_value_first_int n l = some (l.foldr th 0) := by
  have := F_value_first_int_loop n l hl n 0 (by omega) (by omega)
  rwa [List.drop_zero] at this
theorem th_r0 (a : Int) : th a 0 = a := by
  by_cases h : a = 0
  · subst h; rfl
  · exact th_ne _ h

/-! ### Codes -/
theorem beN_cons (a : UInt8) (l : List UInt8) : beN (a :: l) = a.toNat * 256 ^ l.length + beN l := by
  have gen : ∀ (l : List UInt8) (m : Nat), l.foldl (fun n b => n * 256 + b.toNat) m = m * 256 ^ l.length + l.foldl (fun n b => n * 256 + b.toNat) 0 := by
    intro l
    induction l with
    | nil => intro m; simp
    | cons b l ih =>
      intro m
      rw [List.foldl_cons, List.foldl_cons, ih, ih (0 * 256 + b.toNat), List.length_cons, Nat.pow_succ]
      rw [Nat.add_mul, Nat.zero_mul, Nat.zero_add, Nat.mul_assoc, Nat.mul_comm 256]
      omega
  unfold beN
  rw [List.foldl_cons, gen]
  simp

theorem cb_fixed : ∀ (l l' r r' : List UInt8), l.length = l'.length → cb (l ++ r) (l' ++ r') = th (cmpI (beN l) (beN l')) (cb r r')
  | [], [], r, r', _ => by simp [beN, cmpI, th]
  | [], _ :: _, _, _, h => by cases h
  | _ :: _, [], _, _, h => by cases h
  | a :: l, b :: l', r, r', h => by
    have hl : l.length = l'.length := by simpa using h
    have h1 := beN_lt l
    have h2 := beN_lt l'
    rw [beN_cons, beN_cons]
    rw [hl] at h1 ⊢
    rcases u8_tri a b with hab | hab | hab
    · rw [List.cons_append, List.cons_append, cb_lt _ _ hab]
      have hn := UInt8.lt_iff_toNat_lt.1 hab
      have : (a.toNat + 1) * 256 ^ l'.length ≤ b.toNat * 256 ^ l'.length := Nat.mul_le_mul_right _ hn
      rw [Nat.add_mul, Nat.one_mul] at this
      have hlt : ((a.toNat * 256 ^ l'.length + beN l : Nat) : Int) < ((b.toNat * 256 ^ l'.length + beN l' : Nat) : Int) := Int.ofNat_lt.2 (by omega)
      unfold cmpI
      rw [if_pos hlt]
      rfl
    · subst hab
      rw [List.cons_append, List.cons_append, cb_same, cb_fixed l l' r r' hl]
      congr 1
      unfold cmpI
      have e1 : (((a.toNat * 256 ^ l'.length + beN l : Nat) : Int) < ((a.toNat * 256 ^ l'.length + beN l' : Nat) : Int)) = ((beN l : Int) < (beN l' : Int)) := by
        apply propext; omega
      have e2 : (((a.toNat * 256 ^ l'.length + beN l' : Nat) : Int) < ((a.toNat * 256 ^ l'.length + beN l : Nat) : Int)) = ((beN l' : Int) < (beN l : Int)) := by
        apply propext; omega
      simp only [e1, e2]
    · rw [List.cons_append, List.cons_append, cb_gt _ _ hab]
      have hn := UInt8.lt_iff_toNat_lt.1 hab
      have : (b.toNat + 1) * 256 ^ l'.length ≤ a.toNat * 256 ^ l'.length := Nat.mul_le_mul_right _ hn
      rw [Nat.add_mul, Nat.one_mul] at this
      have hlt : ((b.toNat * 256 ^ l'.length + beN l' : Nat) : Int) < ((a.toNat * 256 ^ l'.length + beN l : Nat) : Int) := Int.ofNat_lt.2 (by omega)
      unfold cmpI
      rw [if_neg (by omega), if_pos hlt]
      rfl

theorem cb_eight (m m' : Nat) (h : m < 18446744073709551616) (h' : m' < 18446744073709551616) (r r' : List UInt8) : cb (eightL m ++ r) (eightL m' ++ r') = th (cmpI m m') (cb r r') := by
  rw [cb_fixed (eightL m) (eightL m') r r' rfl, beN_eight m h, beN_eight m' h']

theorem pos_of_ne {b : UInt8} (h : b ≠ 0) : 0 < b := by
  rcases u8_tri 0 b with h1 | h1 | h1
  · exact h1
  · exact absurd h1.symm h
  · exact absurd (UInt8.lt_iff_toNat_lt.1 h1) (by simp)

theorem ended_cons (b : UInt8) (s r : List UInt8) : endedM (b :: s) ++ r = if b = 0 then 0 :: 255 :: (endedM s ++ r) else b :: (endedM s ++ r) := by
  by_cases hb : b = 0
  · subst hb; simp [endedM, esc]
  · simp [endedM, esc, hb]
theorem ended_nil (r : List UInt8) : endedM [] ++ r = 0 :: 0 :: r := rfl

theorem cb_ended : ∀ (s t r r' : List UInt8), cb (endedM s ++ r) (endedM t ++ r') = th (cb s t) (cb r r')
  | [], [], r, r' => by rw [ended_nil, ended_nil, cb_same, cb_same]; rfl
  | [], b :: t, r, r' => by
    rw [ended_nil, ended_cons]
    by_cases hb : b = 0
    · subst hb; rw [if_pos rfl, cb_same, cb_lt _ _ (by decide)]; rfl
    · rw [if_neg hb, cb_lt _ _ (pos_of_ne hb)]; rfl
  | a :: s, [], r, r' => by
    rw [ended_nil, ended_cons]
    by_cases ha : a = 0
    · subst ha; rw [if_pos rfl, cb_same, cb_gt _ _ (by decide)]; rfl
    · rw [if_neg ha, cb_gt _ _ (pos_of_ne ha)]; rfl
  | a :: s, b :: t, r, r' => by
    rw [ended_cons, ended_cons]
    have ih := cb_ended s t r r'
    by_cases ha : a = 0
    · subst ha
      by_cases hb : b = 0
      · subst hb; rw [if_pos rfl, if_pos rfl, cb_same, cb_same, cb_same, ih]
      · rw [if_pos rfl, if_neg hb, cb_lt _ _ (pos_of_ne hb), cb_lt _ _ (pos_of_ne hb)]; rfl
    · by_cases hb : b = 0
      · subst hb; rw [if_neg ha, if_pos rfl, cb_gt _ _ (pos_of_ne ha), cb_gt _ _ (pos_of_ne ha)]; rfl
      · rw [if_neg ha, if_neg hb]
        rcases u8_tri a b with h | h | h
        · rw [cb_lt _ _ h, cb_lt _ _ h]; rfl
        · subst h; rw [cb_same, cb_same, ih]
        · rw [cb_gt _ _ h, cb_gt _ _ h]; rfl

/-- c is the order of two values, and of their keys. -/
def Ord (a b : Val) (c : Int) : Prop := ∀ r r', cb (layM a ++ r) (layM b ++ r') = th c (cb r r')
def mark (k : Int) : Int := if k = 5 then 0 else if k = 6 then 1 else if k = 7 then 2 else if k = 4 then 3 else if k = 3 then 4 else if k = 1 then 5 else if k = 2 then 6 else 7

theorem F_value_place_eq (n : Nat) (k : Int) (h0 : 0 ≤ k) (h1 : k ≤ 7) : F_value_place n (IntKind.i64.wrap (((BitVec.ofInt IntKind.i64.bits k &&& BitVec.ofInt IntKind.i64.bits (7 : Int)).toNat : Nat) : Int)) = some (mark k) := by
  have : k = 0 ∨ k = 1 ∨ k = 2 ∨ k = 3 ∨ k = 4 ∨ k = 5 ∨ k = 6 ∨ k = 7 := by omega
  rcases this with h | h | h | h | h | h | h | h <;> subst h <;> rfl

theorem lay_mark {k : Int} {b : Bool} {i : Int} {s : List UInt8} {l : List Val} {ks : List (List UInt8)} (hr : right (.mk k b i s l ks) = true) :
    ∃ t m, layM (.mk k b i s l ks) = m :: t ∧ ((m.toNat : Nat) : Int) = mark k + 1 ∧ 0 ≤ k ∧ k ≤ 7 := by
  simp only [right, Bool.and_eq_true] at hr
  rcases good_shape hr.1 with ⟨rfl, rfl, rfl, rfl, rfl, rfl⟩ | ⟨rfl, rfl, rfl, rfl, rfl⟩ | ⟨rfl, rfl, rfl, rfl, rfl⟩ | ⟨rfl, rfl, rfl, rfl, rfl⟩ | ⟨rfl, rfl, rfl, rfl, rfl⟩ | ⟨rfl, rfl, rfl, rfl, hkl, _⟩ | ⟨rfl, rfl, rfl, rfl, rfl, _⟩ | ⟨rfl, rfl, rfl, rfl, rfl, _⟩ <;>
    exact ⟨_, _, rfl, rfl, by decide, by decide⟩

theorem mark_inj {k k' : Int} (h0 : 0 ≤ k) (h1 : k ≤ 7) (h0' : 0 ≤ k') (h1' : k' ≤ 7) (h : mark k = mark k') : k = k' := by
  have a : k = 0 ∨ k = 1 ∨ k = 2 ∨ k = 3 ∨ k = 4 ∨ k = 5 ∨ k = 6 ∨ k = 7 := by omega
  have b : k' = 0 ∨ k' = 1 ∨ k' = 2 ∨ k' = 3 ∨ k' = 4 ∨ k' = 5 ∨ k' = 6 ∨ k' = 7 := by omega
  rcases a with rfl | rfl | rfl | rfl | rfl | rfl | rfl | rfl <;> rcases b with rfl | rfl | rfl | rfl | rfl | rfl | rfl | rfl <;> first | rfl | exact absurd h (by decide)

theorem cb_heads {m m' : UInt8} (x y : List UInt8) {c : Int} (hc : c = cmpI (m.toNat : Int) (m'.toNat : Int)) (h : m ≠ m') : cb (m :: x) (m' :: y) = c ∧ c ≠ 0 := by
  subst hc
  unfold cmpI
  rcases u8_tri m m' with h1 | h1 | h1
  · have := UInt8.lt_iff_toNat_lt.1 h1
    rw [cb_lt _ _ h1, if_pos (by omega)]
    exact ⟨rfl, by decide⟩
  · exact absurd h1 h
  · have := UInt8.lt_iff_toNat_lt.1 h1
    rw [cb_gt _ _ h1, if_neg (by omega), if_pos (by omega)]
    exact ⟨rfl, by decide⟩

/-- Kinds that part. -/
theorem ord_kinds {k k' : Int} {b b' : Bool} {i i' : Int} {s s' : List UInt8} {l l' : List Val} {ks ks' : List (List UInt8)} (hr : right (.mk k b i s l ks) = true) (hr' : right (.mk k' b' i' s' l' ks') = true) (h : k ≠ k') :
    Ord (.mk k b i s l ks) (.mk k' b' i' s' l' ks') (cmpI (mark k) (mark k')) := by
  obtain ⟨t, m, hm, hk, h0, h1⟩ := lay_mark hr
  obtain ⟨t', m', hm', hk', h0', h1'⟩ := lay_mark hr'
  intro r r'
  rw [hm, hm']
  have hne : m ≠ m' := by
    intro e
    subst e
    exact h (mark_inj h0 h1 h0' h1' (by omega))
  have hc : cmpI (mark k) (mark k') = cmpI ((m.toNat : Nat) : Int) ((m'.toNat : Nat) : Int) := by
    unfold cmpI
    simp only [hk, hk']
    have e1 : (mark k + 1 < mark k' + 1) = (mark k < mark k') := propext (by omega)
    have e2 : (mark k' + 1 < mark k + 1) = (mark k' < mark k) := propext (by omega)
    simp only [e1, e2]
  obtain ⟨h2, h3⟩ := cb_heads (t ++ r) (t' ++ r') hc hne
  rw [List.cons_append, List.cons_append, h2, th_ne _ h3]

theorem cb_head0 (v : Val) (x y : List UInt8) : cb (0 :: x) (layM v ++ y) = -1 ∧ cb (layM v ++ y) (0 :: x) = 1 := by
  obtain ⟨m, t, hm, h0⟩ := lay_head v
  rw [hm, List.cons_append]
  exact ⟨cb_lt _ _ (pos_of_ne h0), cb_gt _ _ (pos_of_ne h0)⟩

theorem drop_consV {l : List Val} {i : Nat} {v : Val} (h : l[i]? = some v) : l.drop i = v :: l.drop (i + 1) := by
  obtain ⟨hlt, rfl⟩ := List.getElem?_eq_some_iff.1 h
  exact List.drop_eq_getElem_cons hlt
theorem drop_consK {l : List (List UInt8)} {i : Nat} {v : List UInt8} (h : l[i]? = some v) : l.drop i = v :: l.drop (i + 1) := by
  obtain ⟨hlt, rfl⟩ := List.getElem?_eq_some_iff.1 h
  exact List.drop_eq_getElem_cons hlt
theorem cmpI_self (a : Int) : cmpI a a = 0 := by simp [cmpI]

section
variable {n : Nat} {g : Val → Val → Option Int} {l l' : List Val} {ks ks' : List (List UInt8)}

theorem F_value_Order_list (hn : 10 ≤ n) (hl : l.length ≤ 1099511627776) (hg : ∀ (i : Nat) (v v' : Val), l[i]? = some v → l'[i]? = some v' → ∃ c, g v v' = some c ∧ Ord v v' c) :
    ∀ (k i : Nat), l.length - i < k → i ≤ l.length → i ≤ l'.length → ∃ c, loopK (F_value_Order_l1 n l l' 4 [] [] g false false 0 0 [] []) k (i : Int) = some c ∧
      ∀ r r', cb (layL (l.drop i) ++ 0 :: r) (layL (l'.drop i) ++ 0 :: r') = th c (cb r r') := by
  intro k
  induction k with
  | zero => intro i h; omega
  | succ k ih =>
    intro i hk hi hi'
    rw [loopK_succ]
    generalize loopK (F_value_Order_l1 n l l' 4 [] [] g false false 0 0 [] []) k = nx at ih ⊢
    unfold F_value_Order_l1
    simp only [valRows_len]
    rcases Nat.lt_or_ge i l.length with h | h
    · have d : decide ((i : Int) < (l.length : Int)) = true := by simp; omega
      obtain ⟨⟨k1, b1, i1, s1, l1, ks1⟩, hv⟩ : ∃ v, l[i]? = some v := ⟨_, List.getElem?_eq_getElem h⟩
      rcases Nat.lt_or_ge i l'.length with h' | h'
      · have d' : decide ((i : Int) < (l'.length : Int)) = true := by simp; omega
        obtain ⟨⟨k2, b2, i2, s2, l2, ks2⟩, hv'⟩ : ∃ v, l'[i]? = some v := ⟨_, List.getElem?_eq_getElem h'⟩
        obtain ⟨c, hc, ho⟩ := hg i _ _ hv hv'
        have e4 : ((4 : Int) == 5) = false := rfl
        simp only [d, d', cond_true, e4, cond_false]
        try unfold F_value_Order_k3
        simp only [Ax.idx_nat, hv, hv', bnd_eq, hc]
        rw [F_value_first_int_eq n [0, c] (by simp) (by simp; omega)]
        have e : [0, c].foldr th 0 = c := by simp only [List.foldr]; rw [th_zero, th_r0]
        rw [e]
        simp only [bnd_eq]
        by_cases h0 : c = 0
        · subst h0
          have : ((0 : Int) != 0) = false := rfl
          rw [this, cond_false, wrap_nat i (by omega)]
          obtain ⟨c', hc', ho'⟩ := ih (i + 1) (by omega) h h'
          refine ⟨c', hc', fun r r' => ?_⟩
          rw [drop_consV hv, drop_consV hv']
          simp only [layL, List.append_assoc]
          rw [ho, th_zero, ho']
        · have : (c != 0) = true := by simpa using h0
          rw [this, cond_true]
          refine ⟨c, rfl, fun r r' => ?_⟩
          rw [drop_consV hv, drop_consV hv']
          simp only [layL, List.append_assoc]
          rw [ho, th_ne _ h0, th_ne _ h0]
      · have d' : decide ((i : Int) < (l'.length : Int)) = false := by simp; omega
        simp only [d, d', cond_true, cond_false, F_cmp_Compare_int_eq, F_value_number_eq, F_cmp_Compare_int64_eq, F_cmp_Compare_string_eq, bnd_eq]
        rw [F_value_first_int_eq n _ (by simp) (by simp; omega)]
        refine ⟨_, rfl, fun r r' => ?_⟩
        rw [drop_consV hv, List.drop_eq_nil_of_le h']
        have hc : cmpI (l.length : Int) (l'.length : Int) = 1 := by unfold cmpI; rw [if_neg (by omega), if_pos (by omega)]
        rw [hc]
        simp only [layL, List.nil_append, List.append_assoc]
        rw [(cb_head0 _ _ _).2]
        rfl
    · have hil : i = l.length := by omega
      have d : decide ((i : Int) < (l.length : Int)) = false := by simp; omega
      simp only [d, cond_false, F_cmp_Compare_int_eq, F_value_number_eq, F_cmp_Compare_int64_eq, F_cmp_Compare_string_eq, bnd_eq]
      rw [F_value_first_int_eq n _ (by simp) (by simp; omega)]
      refine ⟨_, rfl, fun r r' => ?_⟩
      rw [List.drop_eq_nil_of_le h]
      rcases Nat.lt_or_ge i l'.length with h' | h'
      · obtain ⟨v', hv'⟩ : ∃ v, l'[i]? = some v := ⟨_, List.getElem?_eq_getElem h'⟩
        have hc : cmpI (l.length : Int) (l'.length : Int) = -1 := by unfold cmpI; rw [if_pos (by omega)]
        rw [hc, drop_consV hv']
        simp only [layL, List.nil_append, List.append_assoc]
        rw [(cb_head0 _ _ _).1]
        rfl
      · have : l.length = l'.length := by omega
        rw [this, cmpI_self, List.drop_eq_nil_of_le h']
        simp only [layL, List.nil_append, cb_same]
        rfl

theorem F_value_Order_map (hn : 10 ≤ n) (hl : l.length ≤ 1099511627776) (hk1 : ks.length = l.length) (hk2 : ks'.length = l'.length) (hg : ∀ (i : Nat) (v v' : Val), l[i]? = some v → l'[i]? = some v' → ∃ c, g v v' = some c ∧ Ord v v' c) :
    ∀ (k i : Nat), l.length - i < k → i ≤ l.length → i ≤ l'.length → ∃ c, loopK (F_value_Order_l1 n l l' 5 ks ks' g false false 0 0 [] []) k (i : Int) = some c ∧
      ∀ r r', cb (layK (l.drop i) (ks.drop i) ++ 0 :: r) (layK (l'.drop i) (ks'.drop i) ++ 0 :: r') = th c (cb r r') := by
  intro k
  induction k with
  | zero => intro i h; omega
  | succ k ih =>
    intro i hk hi hi'
    rw [loopK_succ]
    generalize loopK (F_value_Order_l1 n l l' 5 ks ks' g false false 0 0 [] []) k = nx at ih ⊢
    unfold F_value_Order_l1
    simp only [valRows_len]
    rcases Nat.lt_or_ge i l.length with h | h
    · have d : decide ((i : Int) < (l.length : Int)) = true := by simp; omega
      obtain ⟨⟨k1, b1, i1, s1, l1, ks1⟩, hv⟩ : ∃ v, l[i]? = some v := ⟨_, List.getElem?_eq_getElem h⟩
      obtain ⟨key, hkey⟩ : ∃ v, ks[i]? = some v := ⟨_, List.getElem?_eq_getElem (by omega)⟩
      rcases Nat.lt_or_ge i l'.length with h' | h'
      · have d' : decide ((i : Int) < (l'.length : Int)) = true := by simp; omega
        obtain ⟨⟨k2, b2, i2, s2, l2, ks2⟩, hv'⟩ : ∃ v, l'[i]? = some v := ⟨_, List.getElem?_eq_getElem h'⟩
        obtain ⟨key', hkey'⟩ : ∃ v, ks'[i]? = some v := ⟨_, List.getElem?_eq_getElem (by omega)⟩
        obtain ⟨c, hc, ho⟩ := hg i _ _ hv hv'
        have e4 : ((5 : Int) == 5) = true := rfl
        simp only [d, d', cond_true, e4, Ax.idx_nat, hkey, hkey', bnd_eq, F_cmp_Compare_string_eq]
        unfold F_value_Order_k3
        simp only [Ax.idx_nat, hv, hv', bnd_eq, hc]
        rw [F_value_first_int_eq n _ (by simp) (by simp; omega)]
        have e : [cb key key', c].foldr th 0 = th (cb key key') c := by simp only [List.foldr]; rw [th_r0]
        rw [e]
        simp only [bnd_eq]
        have step : ∀ x y, cb (layK ((.mk k1 b1 i1 s1 l1 ks1) :: l.drop (i + 1)) (key :: ks.drop (i + 1)) ++ x) (layK ((.mk k2 b2 i2 s2 l2 ks2) :: l'.drop (i + 1)) (key' :: ks'.drop (i + 1)) ++ y) =
            th (th (cb key key') c) (cb (layK (l.drop (i + 1)) (ks.drop (i + 1)) ++ x) (layK (l'.drop (i + 1)) (ks'.drop (i + 1)) ++ y)) := by
          intro x y
          simp only [layK, List.append_assoc, List.cons_append]
          rw [cb_same, cb_ended, ho, th_assoc]
        by_cases h0 : th (cb key key') c = 0
        · rw [h0] at step ⊢
          have : ((0 : Int) != 0) = false := rfl
          rw [this, cond_false, wrap_nat i (by omega)]
          obtain ⟨c', hc', ho'⟩ := ih (i + 1) (by omega) h h'
          refine ⟨c', hc', fun r r' => ?_⟩
          rw [drop_consV hv, drop_consV hv', drop_consK hkey, drop_consK hkey', step, th_zero, ho']
        · have : (th (cb key key') c != 0) = true := by simpa using h0
          rw [this, cond_true]
          refine ⟨_, rfl, fun r r' => ?_⟩
          rw [drop_consV hv, drop_consV hv', drop_consK hkey, drop_consK hkey', step, th_ne _ h0, th_ne _ h0]
      · have d' : decide ((i : Int) < (l'.length : Int)) = false := by simp; omega
        simp only [d, d', cond_true, cond_false, F_cmp_Compare_int_eq, F_value_number_eq, F_cmp_Compare_int64_eq, F_cmp_Compare_string_eq, bnd_eq]
        rw [F_value_first_int_eq n _ (by simp) (by simp; omega)]
        refine ⟨_, rfl, fun r r' => ?_⟩
        rw [drop_consV hv, drop_consK hkey, List.drop_eq_nil_of_le h']
        have hc : cmpI (l.length : Int) (l'.length : Int) = 1 := by unfold cmpI; rw [if_neg (by omega), if_pos (by omega)]
        rw [hc]
        simp only [layK, List.nil_append, List.append_assoc, List.cons_append]
        rw [cb_gt _ _ (by decide)]
        rfl
    · have hil : i = l.length := by omega
      have d : decide ((i : Int) < (l.length : Int)) = false := by simp; omega
      simp only [d, cond_false, F_cmp_Compare_int_eq, F_value_number_eq, F_cmp_Compare_int64_eq, F_cmp_Compare_string_eq, bnd_eq]
      rw [F_value_first_int_eq n _ (by simp) (by simp; omega)]
      refine ⟨_, rfl, fun r r' => ?_⟩
      rw [List.drop_eq_nil_of_le h]
      rcases Nat.lt_or_ge i l'.length with h' | h'
      · obtain ⟨v', hv'⟩ : ∃ v, l'[i]? = some v := ⟨_, List.getElem?_eq_getElem h'⟩
        obtain ⟨key', hkey'⟩ : ∃ v, ks'[i]? = some v := ⟨_, List.getElem?_eq_getElem (by omega)⟩
        have hc : cmpI (l.length : Int) (l'.length : Int) = -1 := by unfold cmpI; rw [if_pos (by omega)]
        rw [hc, drop_consV hv', drop_consK hkey']
        simp only [layK, List.nil_append, List.append_assoc, List.cons_append]
        rw [cb_lt _ _ (by decide)]
        rfl
      · have : l.length = l'.length := by omega
        rw [this, cmpI_self, List.drop_eq_nil_of_le h']
        simp only [layK, List.nil_append, cb_same]
        rfl
end

theorem rightL_get {l : List Val} (h : rightL l = true) {v : Val} (hm : v ∈ l) : right v = true := by
  induction l with
  | nil => cases hm
  | cons w l ih =>
    simp only [rightL, Bool.and_eq_true] at h
    rcases List.mem_cons.1 hm with rfl | hm
    · exact h.1
    · exact ih h.2 hm
theorem rangeL_get {l : List Val} (h : range64L l = true) {v : Val} (hm : v ∈ l) : range64 v = true := by
  induction l with
  | nil => cases hm
  | cons w l ih =>
    simp only [range64L, Bool.and_eq_true] at h
    rcases List.mem_cons.1 hm with rfl | hm
    · exact h.1
    · exact ih h.2 hm

/-- Where there are no parts the loop ends at once. -/
theorem F_value_Order_flat (n : Nat) (hn : 10 ≤ n) (k : Int) (g : Val → Val → Option Int) (b b' : Bool) (i i' : Int) (s s' : List UInt8) (ks ks' : List (List UInt8)) :
    loopK (F_value_Order_l1 n [] [] k ks ks' g b b' i i' s s') n 0 = some (th (cmpI (if b then 1 else 0) (if b' then 1 else 0)) (th (cmpI i i') (cb s s'))) := by
  obtain ⟨m, rfl⟩ : ∃ j, n = j + 1 := ⟨n - 1, by omega⟩
  rw [loopK_succ]
  generalize loopK (F_value_Order_l1 (m + 1) [] [] k ks ks' g b b' i i' s s') m = nx
  unfold F_value_Order_l1
  simp only [valRows_len, List.length_nil, F_cmp_Compare_int_eq, F_value_number_eq, F_cmp_Compare_int64_eq, F_cmp_Compare_string_eq, bnd_eq]
  rw [F_value_first_int_eq (m + 1) _ (by simp) (by simp; omega)]
  simp only [List.foldr, th_r0]
  rfl

theorem off_ord (i i' : Int) (h : int64 i = true) (h' : int64 i' = true) : cmpI ((bits64 i ^^^ 9223372036854775808 : Nat) : Int) ((bits64 i' ^^^ 9223372036854775808 : Nat) : Int) = cmpI i i' := by
  simp only [int64, decide_eq_true_eq] at h h'
  have e : ∀ i : Int, -9223372036854775808 ≤ i ∧ i < 9223372036854775808 → ((bits64 i ^^^ 9223372036854775808 : Nat) : Int) = i + 9223372036854775808 := by
    intro i h
    rw [xor_add _ (bits64_lt i)]
    unfold bits64
    omega
  rw [e i h, e i' h']
  unfold cmpI
  have e1 : (i + 9223372036854775808 < i' + 9223372036854775808) = (i < i') := propext (by omega)
  have e2 : (i' + 9223372036854775808 < i + 9223372036854775808) = (i' < i) := propext (by omega)
  simp only [e1, e2]
theorem pos_bits (i : Int) (h : int64 i = true) (h1 : 1 ≤ i) : (bits64 i : Int) = i := by
  simp only [int64, decide_eq_true_eq] at h
  unfold bits64
  omega

theorem F_value_Order_eq : ∀ (m n : Nat) (a b : Val), a.big ≤ m → m ≤ 1099511627776 → m + 20 ≤ n → right a = true → right b = true → range64 a = true → range64 b = true → ∃ c, F_value_Order n a b = some c ∧ Ord a b c := by
  intro m
  induction m with
  | zero => intro n a b h; exact absurd a.big_pos (by omega)
  | succ m ih =>
    rintro n ⟨k, b, i, s, l, ks⟩ ⟨k', b', i', s', l', ks'⟩ ha hm hn hr hr' hi hi'
    obtain ⟨n, rfl⟩ : ∃ j, n = j + 1 := ⟨n - 1, by omega⟩
    have hbig : 1 + s.length + bigs l + kbig ks ≤ m + 1 := ha
    have hll := bigs_len l
    show ∃ c, BF_value_Order n (F_value_Order n) _ _ = some c ∧ _
    have hg : ∀ (x : Nat) (v v' : Val), l[x]? = some v → l'[x]? = some v' → rightL l = true → rightL l' = true → range64L l = true → range64L l' = true → ∃ c, F_value_Order n v v' = some c ∧ Ord v v' c := by
      intro x v v' hv hv' h1 h2 h3 h4
      have hb := bigs_mem (List.mem_of_getElem? hv)
      exact ih n v v' (by omega) (by omega) (by omega) (rightL_get h1 (List.mem_of_getElem? hv)) (rightL_get h2 (List.mem_of_getElem? hv')) (rangeL_get h3 (List.mem_of_getElem? hv)) (rangeL_get h4 (List.mem_of_getElem? hv'))
    unfold BF_value_Order
    by_cases hk : k = k'
    · subst hk
      have e : (k != k) = false := by simp
      simp only [e, cond_false]
      simp only [right, Bool.and_eq_true] at hr hr'
      simp only [range64, Bool.and_eq_true] at hi hi'
      rcases good_shape hr.1 with ⟨rfl, rfl, rfl, rfl, rfl, rfl⟩ | ⟨rfl, rfl, rfl, rfl, rfl⟩ | ⟨rfl, rfl, rfl, rfl, rfl⟩ | ⟨rfl, rfl, rfl, rfl, rfl⟩ | ⟨rfl, rfl, rfl, rfl, rfl⟩ | ⟨rfl, rfl, rfl, rfl, hkl, _⟩ | ⟨rfl, rfl, rfl, rfl, rfl, hi1⟩ | ⟨rfl, rfl, rfl, rfl, rfl, hi1⟩
      · rcases good_shape hr'.1 with ⟨_, rfl, rfl, rfl, rfl, rfl⟩ | h | h | h | h | h | h | h <;> try exact absurd h.1 (by decide)
        rw [F_value_Order_flat n (by omega)]
        exact ⟨_, rfl, fun r r' => by show cb (8 :: r) (8 :: r') = _; rw [cb_same]; rfl⟩
      · rcases good_shape hr'.1 with h | ⟨_, rfl, rfl, rfl, rfl⟩ | h | h | h | h | h | h <;> try exact absurd h.1 (by decide)
        rw [F_value_Order_flat n (by omega)]
        refine ⟨_, rfl, fun r r' => ?_⟩
        cases b <;> cases b'
        · show cb (6 :: 0 :: r) (6 :: 0 :: r') = _; rw [cb_same, cb_same]; rfl
        · show cb (6 :: 0 :: r) (6 :: 1 :: r') = _; rw [cb_same, cb_lt _ _ (by decide)]; rfl
        · show cb (6 :: 1 :: r) (6 :: 0 :: r') = _; rw [cb_same, cb_gt _ _ (by decide)]; rfl
        · show cb (6 :: 1 :: r) (6 :: 1 :: r') = _; rw [cb_same, cb_same]; rfl
      · rcases good_shape hr'.1 with h | h | ⟨_, rfl, rfl, rfl, rfl⟩ | h | h | h | h | h <;> try exact absurd h.1 (by decide)
        rw [F_value_Order_flat n (by omega)]
        refine ⟨_, rfl, fun r r' => ?_⟩
        show cb (7 :: (eightL (bits64 i ^^^ 9223372036854775808) ++ r)) (7 :: (eightL (bits64 i' ^^^ 9223372036854775808) ++ r')) = _
        rw [cb_same, cb_eight _ _ (off_lt i) (off_lt i'), off_ord i i' hi.1 hi'.1]
        show _ = th (th (cmpI i i') 0) _
        rw [th_r0]
      · rcases good_shape hr'.1 with h | h | h | ⟨_, rfl, rfl, rfl, rfl⟩ | h | h | h | h <;> try exact absurd h.1 (by decide)
        rw [F_value_Order_flat n (by omega)]
        refine ⟨_, rfl, fun r r' => ?_⟩
        show cb (5 :: (endedM s ++ r)) (5 :: (endedM s' ++ r')) = _
        rw [cb_same, cb_ended]
        rfl
      · rcases good_shape hr'.1 with h | h | h | h | ⟨_, rfl, rfl, rfl, rfl⟩ | h | h | h <;> try exact absurd h.1 (by decide)
        obtain ⟨c, hc, ho⟩ := F_value_Order_list (n := n) (g := F_value_Order n) (l := l) (l' := l') (by omega) (by omega) (fun x v v' hv hv' => hg x v v' hv hv' hr.2 hr'.2 hi.2 hi'.2) n 0 (by omega) (by omega) (by omega)
        refine ⟨c, hc, fun r r' => ?_⟩
        have e1 : ∀ (l : List Val) (r : List UInt8), layM (.mk 4 false 0 [] l []) ++ r = 4 :: (layL l ++ 0 :: r) := fun l r => by
          show (4 :: layL l ++ [0]) ++ r = _
          simp
        rw [e1, e1, cb_same]
        exact ho r r'
      · rcases good_shape hr'.1 with h | h | h | h | h | ⟨_, rfl, rfl, rfl, hkl', _⟩ | h | h <;> try exact absurd h.1 (by decide)
        obtain ⟨c, hc, ho⟩ := F_value_Order_map (n := n) (g := F_value_Order n) (l := l) (l' := l') (ks := ks) (ks' := ks') (by omega) (by omega) hkl hkl' (fun x v v' hv hv' => hg x v v' hv hv' hr.2 hr'.2 hi.2 hi'.2) n 0 (by omega) (by omega) (by omega)
        refine ⟨c, hc, fun r r' => ?_⟩
        have e1 : ∀ (l : List Val) (ks : List (List UInt8)) (r : List UInt8), layM (.mk 5 false 0 [] l ks) ++ r = 1 :: (layK l ks ++ 0 :: r) := fun l ks r => by
          show (1 :: layK l ks ++ [0]) ++ r = _
          simp
        rw [e1, e1, cb_same]
        exact ho r r'
      · rcases good_shape hr'.1 with h | h | h | h | h | h | ⟨_, rfl, rfl, rfl, rfl, hi1'⟩ | h <;> try exact absurd h.1 (by decide)
        rw [F_value_Order_flat n (by omega)]
        refine ⟨_, rfl, fun r r' => ?_⟩
        show cb (2 :: (eightL (bits64 i) ++ r)) (2 :: (eightL (bits64 i') ++ r')) = _
        rw [cb_same, cb_eight _ _ (bits64_lt i) (bits64_lt i'), pos_bits i hi.1 hi1, pos_bits i' hi'.1 hi1']
        show _ = th (th (cmpI i i') 0) _
        rw [th_r0]
      · rcases good_shape hr'.1 with h | h | h | h | h | h | h | ⟨_, rfl, rfl, rfl, rfl, hi1'⟩ <;> try exact absurd h.1 (by decide)
        rw [F_value_Order_flat n (by omega)]
        refine ⟨_, rfl, fun r r' => ?_⟩
        show cb (3 :: (eightL (bits64 i) ++ r)) (3 :: (eightL (bits64 i') ++ r')) = _
        rw [cb_same, cb_eight _ _ (bits64_lt i) (bits64_lt i'), pos_bits i hi.1 hi1, pos_bits i' hi'.1 hi1']
        show _ = th (th (cmpI i i') 0) _
        rw [th_r0]
    · have e : (k != k') = true := by simpa using hk
      obtain ⟨_, _, _, _, h0, h1⟩ := lay_mark hr
      obtain ⟨_, _, _, _, h0', h1'⟩ := lay_mark hr'
      simp only [e, cond_true]
      rw [F_value_place_eq n k h0 h1, F_value_place_eq n k' h0' h1']
      simp only [bnd_eq, F_cmp_Compare_int_eq]
      exact ⟨_, rfl, ord_kinds hr hr' hk⟩


end W
end
section
open Go Ax
namespace W
mutual
def vbig : Val → Nat
  | .mk _ _ _ s l ks => 1 + s.length + vbigL l + (ks.map fun k => 1 + k.length).sum
def vbigL : List Val → Nat
  | [] => 1
  | v :: l => 1 + vbig v + vbigL l
end
def nbig (l : List (List UInt8)) : Nat := (l.map fun k => 1 + k.length).sum
theorem nbig_len (l : List (List UInt8)) : l.length ≤ nbig l := by
  induction l with
  | nil => simp [nbig]
  | cons x l ih => simp only [nbig, List.map_cons, List.sum_cons, List.length_cons] at ih ⊢; omega
theorem wrapP {k : Nat} (h : k + 1 ≤ 1152921504606846976) : IntKind.i64.wrap (((k + 1 : Nat) : Int) - 1) = ((k : Nat) : Int) := by
  rw [wrapC (by omega) (by omega)]; omega
theorem nil_len (x : List UInt8) : (decide (((x.length : Nat) : Int) < 1)) = (x == []) := by
  cases x with
  | nil => rfl
  | cons a x => simp; omega
theorem vkeys_eq (n : Nat) (ks : List (List UInt8)) (c d : Int) (l : List Val) (g : Val → Int → Int → Option (Int × Bool)) (hn : n ≤ 1073741824) : ∀ m k : Nat, k ≤ ks.length → ks.length - k < m → ks.length < n →
    ∃ b, loopK (F_value_keys_l1 n ks) m (k : Int) = some b ∧ loopK (F_R03_may_l2 n ks c l g d) m (k : Int) = bif b then F_R03_may_k1 n l g d c () else some (IntKind.i64.wrap (c + 1), false) := by
  intro m
  induction m with
  | zero => intro k _ h; omega
  | succ m ih =>
    intro k hk hm hl
    rw [loopK_succ, loopK_succ]
    by_cases he : k = ks.length
    · subst he
      refine ⟨true, ?_, ?_⟩
      · simp only [F_value_keys_l1, strs_len, dec_nlt, cond_false]
      · simp only [F_R03_may_l2, strs_len, dec_nlt, cond_false, cond_true]
    · have hkl : k < ks.length := by omega
      obtain ⟨x, hx⟩ : ∃ x, ks[k]? = some x := ⟨_, List.getElem?_eq_getElem hkl⟩
      obtain ⟨b, h1, h2⟩ := ih (k + 1) (by omega) (by omega) hl
      rw [← wrapN (by omega)] at h1 h2
      simp only [F_value_keys_l1, F_R03_may_l2, strs_len, dec_lt hkl, cond_true, idx_nat hx, bnd_eq, nil_len]
      cases hE : x == [] with
      | true => exact ⟨false, by simp, by simp⟩
      | false =>
        simp only [Bool.not_false, gsome_t, bnd_eq, cond_false]
        cases hB : decide (((x.length : Nat) : Int) > 64) with
        | true => exact ⟨false, by simp, by simp⟩
        | false =>
          cases k with
          | zero =>
            refine ⟨b, ?_, ?_⟩
            · simpa using h1
            · simpa using h2
          | succ k =>
            have h0 : decide ((((k + 1 : Nat) : Int)) > 0) = true := decide_eq_true (by omega)
            obtain ⟨y, hy⟩ : ∃ y, ks[k]? = some y := ⟨_, List.getElem?_eq_getElem (by omega)⟩
            simp only [h0, Bool.not_false, Bool.and_true, gsome_t, wrapP (show k + 1 ≤ 1152921504606846976 by omega), idx_nat hy, bnd_eq, cond_true, cond_false, bl_total]
            cases Op.bytesLess y x with
            | false => exact ⟨false, by simp, by simp⟩
            | true => exact ⟨b, by simpa using h1, by simpa using h2⟩
theorem vbigL_len : ∀ l : List Val, l.length < vbigL l
  | [] => by simp [vbigL]
  | x :: l => by have := vbigL_len l; simp only [vbigL, List.length_cons]; omega
theorem vbigL_mem : ∀ {l : List Val} {x : Val}, x ∈ l → vbig x + 2 ≤ vbigL l
  | y :: l, x, h => by
    simp only [vbigL]
    rcases List.mem_cons.1 h with rfl | h
    · have := vbigL_len l; omega
    · have := vbigL_mem h; omega
theorem vloop_eq (n : Nat) (l : List Val) (g g' : Val → Int → Int → Option (Int × Bool)) (d : Int) (hn : n ≤ 1073741824)
    (hg : ∀ v ∈ l, ∀ d c, ∃ r, g v d c = some r ∧ g' v d c = some r) : ∀ m k : Nat, ∀ c : Int, k ≤ l.length → l.length - k < m → l.length < n →
    ∃ r, loopK (F_value_look_l1 n l g d) m (c, true, (k : Int)) = some r ∧ loopK (F_R03_may_l1 n l g' d) m (c, (k : Int)) = some r := by
  intro m
  induction m with
  | zero => intro k _ _ h; omega
  | succ m ih =>
    intro k c hk hm hl
    rw [loopK_succ, loopK_succ]
    by_cases he : k = l.length
    · subst he
      refine ⟨(c, true), ?_, ?_⟩
      · simp only [F_value_look_l1, valRows_len, dec_nlt, cond_false]
      · simp only [F_R03_may_l1, valRows_len, dec_nlt, cond_false]
    · have hkl : k < l.length := by omega
      obtain ⟨x, hx⟩ : ∃ x, l[k]? = some x := ⟨_, List.getElem?_eq_getElem hkl⟩
      obtain ⟨⟨c2, b⟩, h1, h2⟩ := hg x (mem_of hx) (IntKind.i64.wrap (d - 1)) c
      obtain ⟨x1, x2, x3, x4, x5, x6⟩ := x
      simp only [F_value_look_l1, F_R03_may_l1, valRows_len, dec_lt hkl, cond_true, idx_nat hx, bnd_eq, h1, h2]
      rw [wrapN (by omega)]
      cases b with
      | true =>
        obtain ⟨r, h3, h4⟩ := ih (k + 1) c2 (by omega) (by omega) hl
        exact ⟨r, h3, by simpa using h4⟩
      | false =>
        refine ⟨(c2, false), ?_, by simp⟩
        obtain ⟨m, rfl⟩ : ∃ m', m = m' + 1 := ⟨m - 1, by omega⟩
        rw [loopK_succ]
        simp only [F_value_look_l1, Bool.cond_self, cond_false]
theorem bare_eq (n : Nat) {x1 : Int} (h7 : x1 ≤ 7) (x2 : Bool) (x3 : Int) (x4 : List UInt8) (x5 : List Val) (x6 : List (List UInt8)) : F_R03_unused n ⟨x1, x2, x3, x4, x5, x6⟩ = F_value_bare n ⟨x1, x2, x3, x4, x5, x6⟩ := by
  simp only [F_value_bare, F_R03_unused]
  have e6 : decide (x1 ≥ 6) = (x1 == 6 || x1 == 7) := by
    rw [Bool.eq_iff_iff]; simp; omega
  have e5 : decide ((((Val.rows x5).length : Nat) : Int) > 0) = !((((Val.rows x5).length : Nat) : Int) == 0) := by
    generalize (Val.rows x5).length = m
    cases m with
    | zero => rfl
    | succ m => rw [decide_eq_true (by omega), beq_eq_false_iff_ne.2 (by omega)]; rfl
  have a1 : (bif (x1 != 1) then x2 else false) = !(bif (x1 == 1) then true else !x2) := by
    rw [bne]; cases (x1 == 1) <;> cases x2 <;> rfl
  have a2 : (bif (bif (bif (x1 != 2) then (x1 != 6) else false) then (x1 != 7) else false) then (x3 != 0) else false) = !(bif (bif (x1 == 2) then true else decide (x1 ≥ 6)) then true else (x3 == 0)) := by
    rw [e6, bne, bne, bne, bne]; cases (x1 == 2) <;> cases (x1 == 6) <;> cases (x1 == 7) <;> cases (x3 == 0) <;> rfl
  have a3 : (bif (x1 != 3) then (!(x4 == ([] : List UInt8))) else false) = !(bif (x1 == 3) then true else (x4 == ([] : List UInt8))) := by
    rw [bne]; cases (x1 == 3) <;> cases (x4 == ([] : List UInt8)) <;> rfl
  have a4 : (bif (bif (x1 != 4) then (x1 != 5) else false) then decide ((((Val.rows x5).length : Nat) : Int) > 0) else false) = !(bif (bif (x1 == 4) then true else (x1 == 5)) then true else ((((Val.rows x5).length : Nat) : Int) == 0)) := by
    rw [e5, bne, bne]; cases (x1 == 4) <;> cases (x1 == 5) <;> cases ((((Val.rows x5).length : Nat) : Int) == 0) <;> rfl
  rw [a1, a2, a3, a4]
  generalize (bif (x1 == 1) then true else !x2) = A
  generalize (bif (bif (x1 == 2) then true else decide (x1 ≥ 6)) then true else (x3 == 0)) = B
  generalize (bif (x1 == 3) then true else (x4 == ([] : List UInt8))) = C
  generalize (bif (bif (x1 == 4) then true else (x1 == 5)) then true else ((((Val.rows x5).length : Nat) : Int) == 0)) = D
  cases A <;> cases B <;> cases C <;> cases D <;> rfl
theorem look_eq : ∀ n : Nat, n ≤ 1073741824 → ∀ v d c, vbig v < n → ∃ r, F_value_look n v d c = some r ∧ F_R03_may n v d c = some r := by
  intro n
  induction n with
  | zero => intro _ _ _ _ h; omega
  | succ n ih =>
    intro hn v d c hv
    obtain ⟨x1, x2, x3, x4, x5, x6⟩ := v
    have hb : vbigL x5 < n ∧ x6.length < n := by
      have := nbig_len x6
      simp only [nbig] at this
      simp only [vbig] at hv
      have h0 := vbigL_len x5
      omega
    have hl := vbigL_len x5
    have hg : ∀ v ∈ x5, ∀ d c, ∃ r, F_value_look n v d c = some r ∧ F_R03_may n v d c = some r := fun v hm d c => ih (by omega) v d c (by have := vbigL_mem hm; omega)
    have hloop : ∀ c, ∃ r, loopK (F_value_look_l1 n x5 (F_value_look n) d) n (c, true, (0 : Int)) = some r ∧ loopK (F_R03_may_l1 n x5 (F_R03_may n) d) n (c, (0 : Int)) = some r := fun c =>
      vloop_eq n x5 _ _ d (by omega) hg n 0 c (by omega) (by omega) (by omega)
    obtain ⟨kb, hk1, hk2⟩ := vkeys_eq n x6 c d x5 (F_R03_may n) (by omega) n 0 (by omega) (by omega) hb.2
    obtain ⟨r, hr1, hr2⟩ := hloop (IntKind.i64.wrap (c + 1))
    simp only [F_value_look, F_R03_may, BF_value_look, BF_R03_may, F_value_keys]
    generalize hC : IntKind.i64.wrap (c + 1) = C at *
    have hvw : ∃ G : Bool, (bif (bif (bif (decide (d < 1)) then true else (decide (C > 4096))) then true else (decide (x1 < 0))) then true else (decide (x1 > 7))) = G ∧
        (bif (bif (bif (decide (C > 4096)) then true else (decide (d < 1))) then true else (decide (x1 < 0))) then true else (decide (x1 > 7))) = G ∧ (G = false → x1 ≤ 7) := by
      refine ⟨_, rfl, ?_, ?_⟩
      · cases decide (C > 4096) <;> cases decide (d < 1) <;> rfl
      · cases decide (C > 4096) <;> cases decide (d < 1) <;> cases decide (x1 < 0) <;> simp
    obtain ⟨G, hG1, hG2, hG3⟩ := hvw
    rw [hG1, hG2]
    cases G with
    | true => exact ⟨(C, false), by simp, by simp⟩
    | false =>
      have h7 := hG3 rfl
      rw [bare_eq n h7]
      obtain ⟨B, hB⟩ : ∃ B, F_value_bare n ⟨x1, x2, x3, x4, x5, x6⟩ = some B := ⟨_, rfl⟩
      rw [hB]
      have e6 : decide (x1 ≥ 6) = (bif (x1 == 6) then true else (x1 == 7)) := by
        rw [Bool.eq_iff_iff]; simp; omega
      rw [e6]
      cases B with
      | false => exact ⟨(C, false), by simp, by simp⟩
      | true =>
        simp only [Bool.not_false, Bool.not_true, gsome_t, bnd_eq, cond_false, cond_true]
        cases hT : (bif (bif (x1 == 6) then true else (x1 == 7)) then decide (x3 < 1) else false) with
        | true => exact ⟨(C, false), by simp, by simp⟩
        | false =>
          cases h5 : (x1 == 5) with
          | false =>
            refine ⟨r, ?_, ?_⟩
            · simpa using hr1
            · simpa [F_R03_may_k1, hC] using hr2
          | true =>
            cases hN : ((((strs x6).length : Nat) : Int) != (((Val.rows x5).length : Nat) : Int)) with
            | true => exact ⟨(C, false), by simp, by simp⟩
            | false =>
              simp only [Bool.not_false, Bool.and_true, gsome_t, cond_false, cond_true]
              have hk1' : loopK (F_value_keys_l1 n x6) n (0 : Int) = some kb := hk1
              have hk2' : loopK (F_R03_may_l2 n x6 c x5 (F_R03_may n) d) n (0 : Int) = _ := hk2
              rw [hk1', hk2', bnd_eq]
              cases kb with
              | true =>
                refine ⟨r, ?_, ?_⟩
                · simpa using hr1
                · simpa [F_R03_may_k1, hC] using hr2
              | false => exact ⟨(C, false), by simp, by simp⟩
theorem check_eq {n : Nat} (hn : n ≤ 1073741824) {v : Val} (hv : vbig v < n) : ∃ b : Bool, F_value_Check n v = some (bif b then 0 else 20) ∧ F_R03_May n v = some b := by
  obtain ⟨x1, x2, x3, x4, x5, x6⟩ := v
  obtain ⟨⟨c, b⟩, h1, h2⟩ := look_eq n hn _ 32 0 hv
  refine ⟨b, ?_, ?_⟩
  · simp only [F_value_Check, h1, bnd_eq]
    cases b <;> rfl
  · simp only [F_R03_May, h2, bnd_eq]

theorem eqloop {A : Type} {B : (Int → Option Bool) → Int → Option Bool} {l l' : List A} (hlen : l.length = l'.length)
    (step : ∀ (k : Nat) x y nx, l[k]? = some x → l'[k]? = some y → ∃ b, (b = true ↔ x = y) ∧ B nx (k : Int) = bif b then nx ((k + 1 : Nat) : Int) else some false)
    (hend : ∀ nx, B nx (l.length : Int) = some true) {n : Nat} (hn : l.length < n) : ∃ b, loopK B n 0 = some b ∧ (b = true ↔ l = l') := by
  have main : ∀ m k : Nat, k ≤ l.length → l.length - k < m → ∃ b, loopK B m (k : Int) = some b ∧ (b = true ↔ l.drop k = l'.drop k) := by
    intro m
    induction m with
    | zero => intro k _ h; omega
    | succ m ih =>
      intro k hk hm
      rw [loopK_succ]
      by_cases he : k = l.length
      · subst he
        exact ⟨true, hend _, by rw [List.drop_length, hlen, List.drop_length]; simp⟩
      · have h1 : k < l.length := by omega
        have h2 : k < l'.length := by omega
        obtain ⟨b, hb, hs⟩ := step k _ _ (loopK B m) (List.getElem?_eq_getElem h1) (List.getElem?_eq_getElem h2)
        rw [hs, List.drop_eq_getElem_cons h1, List.drop_eq_getElem_cons h2, List.cons.injEq, ← hb]
        cases b with
        | false => exact ⟨false, rfl, by simp⟩
        | true =>
          obtain ⟨b, h3, h4⟩ := ih (k + 1) (by omega) (by omega)
          exact ⟨b, h3, by simpa using h4⟩
  obtain ⟨b, h1, h2⟩ := main n 0 (by omega) (by omega)
  exact ⟨b, h1, by simpa using h2⟩
theorem beq_spec {A : Type} [BEq A] [LawfulBEq A] (x y : A) : ((x == y) = true ↔ x = y) := beq_iff_eq
theorem lens_ne {a b : Nat} : ((((a : Nat) : Int) != ((b : Nat) : Int)) = true) ↔ a ≠ b := by simp [Int.natCast_inj]
theorem F_R03_SameNames_eq {n : Nat} {x y : List (List UInt8)} (h : x.length < n) (hn : n ≤ 1073741824) : ∃ b, F_R03_SameNames n x y = some b ∧ (b = true ↔ x = y) := by
  unfold F_R03_SameNames
  by_cases hl : x.length = y.length
  · have : ((((strs x).length : Nat) : Int) != (((strs y).length : Nat) : Int)) = false := by simp [hl]
    rw [this, cond_false]
    refine eqloop hl (fun k a b nx ha hb => ⟨a == b, beq_iff_eq, ?_⟩) (fun nx => by simp only [F_R03_SameNames_l1, strs_len, dec_nlt, cond_false]) h
    have hk := mem_lt ha
    simp only [F_R03_SameNames_l1, strs_len, dec_lt hk, cond_true, idx_nat ha, idx_nat hb, bnd_eq]
    rw [wrapN (by omega)]
    first | (cases a == b <;> rfl) | (cases h : a == b <;> simp [h, bne])
  · have : ((((strs x).length : Nat) : Int) != (((strs y).length : Nat) : Int)) = true := by rw [strs_len, strs_len]; exact lens_ne.2 hl
    rw [this]
    exact ⟨false, rfl, by simp; intro e; exact hl (congrArg _ e)⟩
theorem same_core {x1 x7 : Int} {x2 x8 : Bool} {x3 x9 : Int} {x4 x10 : List UInt8} {x6 x12 : List (List UInt8)} {x5 x11 : List Val} {N L : Option Bool} {a b : Bool} (hN : N = some a) (ha : a = true ↔ x6 = x12) (hL : L = some b) (hb : b = true ↔ x5 = x11) :
    ∃ r, (bnd (gsome (bif (bif (bif (x1 == x7) then (x2 == x8) else false) then (x3 == x9) else false) then (x4 == x10) else false) N) fun x13 =>
      bnd (gsome (bif (bif (bif (bif (x1 == x7) then (x2 == x8) else false) then (x3 == x9) else false) then (x4 == x10) else false) then x13 else false) L) fun x14 =>
      some (bif (bif (bif (bif (bif (x1 == x7) then (x2 == x8) else false) then (x3 == x9) else false) then (x4 == x10) else false) then x13 else false) then x14 else false)) = some r ∧
    (r = true ↔ Val.mk x1 x2 x3 x4 x5 x6 = Val.mk x7 x8 x9 x10 x11 x12) := by
  subst hN hL
  have e1 : (x1 == x7) = true ↔ x1 = x7 := beq_iff_eq
  have e2 : (x2 == x8) = true ↔ x2 = x8 := beq_iff_eq
  have e3 : (x3 == x9) = true ↔ x3 = x9 := beq_iff_eq
  have e4 : (x4 == x10) = true ↔ x4 = x10 := beq_iff_eq
  rw [Val.mk.injEq, ← e1, ← e2, ← e3, ← e4, ← hb, ← ha]
  cases (x1 == x7) <;> cases (x2 == x8) <;> cases (x3 == x9) <;> cases (x4 == x10) <;> cases a <;> cases b <;> exact ⟨_, rfl, by simp⟩
theorem r03_same : ∀ n : Nat, n ≤ 1073741824 → (∀ v w, vbig v < n → ∃ b, F_R03_Same n v w = some b ∧ (b = true ↔ v = w)) ∧ (∀ l l', vbigL l < n → ∃ b, F_R03_SameList n l l' = some b ∧ (b = true ↔ l = l')) := by
  intro n
  induction n with
  | zero => intro _; exact ⟨fun _ _ h => by omega, fun _ _ h => by omega⟩
  | succ n ih =>
    intro hn
    obtain ⟨ihv, ihl⟩ := ih (by omega)
    refine ⟨fun v w hv => ?_, fun l l' hl => ?_⟩
    · obtain ⟨x1, x2, x3, x4, x5, x6⟩ := v
      obtain ⟨x7, x8, x9, x10, x11, x12⟩ := w
      have hb : vbigL x5 < n ∧ x6.length < n := by
        have := nbig_len x6
        simp only [nbig] at this
        simp only [vbig] at hv
        have h0 := vbigL_len x5
        omega
      obtain ⟨a, ha1, ha2⟩ := F_R03_SameNames_eq (y := x12) hb.2 (by omega)
      obtain ⟨b, hb1, hb2⟩ := ihl x5 x11 hb.1
      simp only [F_R03_Same, BF_R03_Same]
      exact same_core ha1 ha2 hb1 hb2
    · have hlen := vbigL_len l
      simp only [F_R03_SameList, BF_R03_SameList]
      by_cases hll : l.length = l'.length
      · have : ((((Val.rows l).length : Nat) : Int) != (((Val.rows l').length : Nat) : Int)) = false := by simp [hll]
        rw [this, cond_false]
        refine eqloop hll (fun k a b nx ha hb => ?_) (fun nx => by simp only [F_R03_SameList_l1, valRows_len, dec_nlt, cond_false]) (by omega)
        have hk := mem_lt ha
        obtain ⟨r, hr, hr2⟩ := ihv a b (by have := vbigL_mem (mem_of ha); omega)
        refine ⟨r, hr2, ?_⟩
        obtain ⟨x1, x2, x3, x4, x5, x6⟩ := a
        obtain ⟨x7, x8, x9, x10, x11, x12⟩ := b
        simp only [F_R03_SameList_l1, valRows_len, dec_lt hk, cond_true, idx_nat ha, idx_nat hb, bnd_eq, hr]
        rw [wrapN (by omega)]
        cases r <;> rfl
      · have : ((((Val.rows l).length : Nat) : Int) != (((Val.rows l').length : Nat) : Int)) = true := by rw [valRows_len, valRows_len]; exact lens_ne.2 hll
        rw [this]
        exact ⟨false, rfl, by simp; intro e; exact hll (congrArg _ e)⟩
end W
end
section
open Go Ax
namespace W
set_option maxRecDepth 10000

theorem vbig_le : ∀ v : Val, vbig v + 1 ≤ 3 * v.big
  | .mk k b i s l ks => by
    have h := vbigL_le l
    have h2 : ∀ ks : List (List UInt8), (ks.map fun k => 1 + k.length).sum = kbig ks := by
      intro ks
      induction ks with
      | nil => rfl
      | cons a l ih => simp only [List.map_cons, List.sum_cons, kbig, ih]; omega
    simp only [vbig, Val.big, h2]
    omega
where vbigL_le : ∀ l : List Val, vbigL l ≤ 1 + 3 * bigs l
  | [] => by simp [vbigL, bigs]
  | v :: l => by
    have h1 := vbig_le v
    have h2 := vbigL_le l
    simp only [vbigL, bigs]
    omega

theorem keys_right (n : Nat) (ks : List (List UInt8)) (hk : ks.length ≤ 1073741824) : ∀ m i : Nat, i ≤ ks.length → loopK (F_value_keys_l1 n ks) m (i : Int) = some true → ∀ j, i ≤ j → j < ks.length → keyBad ks j = false := by
  intro m
  induction m with
  | zero => intro i _ h; cases h
  | succ m ih =>
    intro i hi h j hij hj
    rw [loopK_succ] at h
    generalize hnx : loopK (F_value_keys_l1 n ks) m = nx at ih h
    unfold F_value_keys_l1 at h
    have hlen : (strs ks).length = ks.length := by simp [strs]
    rw [hlen] at h
    by_cases hlt : i < ks.length
    · rw [decide_eq_true (show (i : Int) < (ks.length : Int) by omega), cond_true] at h
      obtain ⟨x3, h3, h⟩ := bnd_some h
      obtain ⟨x4, h4, h⟩ := bnd_some h
      have e3 : ks[i]? = some x3 := by rw [Ax.idx_nat] at h3; exact h3
      have g3 : ks.getD i [] = x3 := by rw [List.getD_eq_getElem?_getD, e3]; rfl
      cases hc : (bif (bif (bif (x3 == ([] : List UInt8)) then true else (decide (((x3.length : Nat) : Int) > (64 : Int)))) then true else (bif (decide ((i : Int) > (0 : Int))) then (!(Op.bytesLess x4 x3)) else false)) then some false else nx (IntKind.i64.wrap ((i : Int) + (1 : Int)))) with
      | none => rw [hc] at h; cases h
      | some r =>
        cases hb : (bif (bif (x3 == ([] : List UInt8)) then true else (decide (((x3.length : Nat) : Int) > (64 : Int)))) then true else (bif (decide ((i : Int) > (0 : Int))) then (!(Op.bytesLess x4 x3)) else false)) with
        | true => rw [hb] at h; simp at h
        | false =>
          rw [hb, cond_false, wrapN (by omega)] at h
          rcases Nat.lt_or_ge i j with hlt2 | hge
          · exact ih (i + 1) (by omega) h j hlt2 hj
          · obtain rfl : j = i := by omega
            unfold keyBad
            rw [g3]
            by_cases h0 : (j : Nat) = 0
            · subst h0
              simpa using hb
            · have hg : (bif (x3 == ([] : List UInt8)) then true else (decide (((x3.length : Nat) : Int) > (64 : Int)))) = false := by
                cases hx : (bif (x3 == ([] : List UInt8)) then true else (decide (((x3.length : Nat) : Int) > (64 : Int)))) with
                | false => rfl
                | true => rw [hx] at hb; simp at hb
              rw [hg, decide_eq_true (show (j : Int) > 0 by omega)] at h4
              have h4' : idx ks (IntKind.i64.wrap ((j : Int) - 1)) = some x4 := h4
              rw [show IntKind.i64.wrap ((j : Int) - 1) = ((j - 1 : Nat) : Int) by rw [wrapC (by omega) (by omega)]; omega, Ax.idx_nat] at h4'
              have g4 : ks.getD (j - 1) [] = x4 := by rw [List.getD_eq_getElem?_getD, h4']; rfl
              rw [g4]
              exact hb
    · omega

theorem look_right : ∀ (n : Nat), n ≤ 1073741824 → ∀ (v : Val) (d c r : Int), vbig v < n → F_value_look n v d c = some (r, true) → right v = true := by
  intro n
  induction n with
  | zero => intro _ _ _ _ _ h; omega
  | succ n ih =>
    intro hn v d c r hv h
    obtain ⟨x1, x2, x3, x4, x5, x6⟩ := v
    have hb : vbigL x5 < n ∧ x6.length < n := by
      have := nbig_len x6
      simp only [nbig] at this
      simp only [vbig] at hv
      omega
    have hl := vbigL_len x5
    simp only [F_value_look, BF_value_look] at h
    obtain ⟨x9, h9, h⟩ := bnd_some h
    obtain ⟨x10, h10, h⟩ := bnd_some h
    generalize hC : IntKind.i64.wrap (c + 1) = C at *
    revert h
    cases h1 : decide (d < 1) with
    | true => intro h; simp [h1] at h
    | false =>
    cases h2 : decide (C > 4096) with
    | true => intro h; simp [h2] at h
    | false =>
    cases h3 : decide (x1 < 0) with
    | true => intro h; simp [h3] at h
    | false =>
    cases h4 : decide (x1 > 7) with
    | true => intro h; simp [h4] at h
    | false =>
    rw [h1, h2, h3, h4] at h9 h10
    simp only [cond_false, Bool.not_false, gsome_t] at h9
    cases hx9 : x9 with
    | false => intro h; simp [hx9] at h
    | true =>
    subst hx9
    cases h6 : (bif (decide (x1 ≥ 6)) then (decide (x3 < 1)) else false) with
    | true => intro h; simp [h6] at h
    | false =>
    simp only [cond_false, Bool.not_false, Bool.not_true, h6, Bool.true_and] at h10 ⊢
    intro h
    have key : (!(x1 == 5 && (x6.length != x5.length || !keysB x6))) = true ∧ loopK (F_value_look_l1 n x5 (F_value_look n) d) n (C, true, (0 : Int)) = some (r, true) := by
      cases h5 : (x1 == (5 : Int)) with
      | false => rw [h5] at h; exact ⟨by simp, by simpa using h⟩
      | true =>
        rw [h5] at h h10
        simp only [cond_true, Bool.true_and] at h h10
        have el : ((((strs x6).length : Nat) : Int) != (((Val.rows x5).length : Nat) : Int)) = (x6.length != x5.length) := by
          rw [Bool.eq_iff_iff]; simp [strs, Int.natCast_inj]
        rw [el] at h h10
        cases hN : (x6.length != x5.length) with
        | true => rw [hN] at h; simp at h
        | false =>
          rw [hN] at h h10
          simp only [Bool.not_false, gsome_t, cond_false] at h h10
          cases hx : x10 with
          | false => rw [hx] at h; simp at h
          | true =>
            rw [hx] at h h10
            refine ⟨?_, by simpa using h⟩
            have hk : keysB x6 = true := by
              unfold keysB
              rw [List.all_eq_true]
              intro j hj
              rw [keys_right n x6 (by omega) n 0 (Nat.zero_le _) h10 j (Nat.zero_le _) (by simpa using hj)]
              rfl
            simp [hk]
    have hall : ∀ (m i : Nat) (c2 : Int) (ok : Bool), i ≤ x5.length → loopK (F_value_look_l1 n x5 (F_value_look n) d) m (c2, ok, (i : Int)) = some (r, true) → ok = true ∧ ∀ v ∈ x5.drop i, right v = true := by
      intro m
      induction m with
      | zero => intro i _ _ _ h; cases h
      | succ m ihm =>
        intro i c2 ok hi h
        rw [loopK_succ] at h
        generalize loopK (F_value_look_l1 n x5 (F_value_look n) d) m = nx at ihm h
        unfold F_value_look_l1 at h
        simp only [valRows_len] at h
        by_cases hlt : i < x5.length
        · rw [decide_eq_true (show (i : Int) < (x5.length : Int) by omega), cond_true] at h
          cases ok with
          | false => simp at h
          | true =>
            simp only [cond_true] at h
            obtain ⟨⟨a1, a2, a3, a4, a5, a6⟩, hx, h⟩ := bnd_some h
            obtain ⟨⟨c3, ok3⟩, hy, h⟩ := bnd_some h
            have ex : x5[i]? = some (Val.mk a1 a2 a3 a4 a5 a6) := by rw [Ax.idx_nat] at hx; exact hx
            have h' : nx (c3, ok3, IntKind.i64.wrap ((i : Int) + 1)) = some (r, true) := h
            rw [wrapN (by omega)] at h'
            obtain ⟨hok, hr⟩ := ihm (i + 1) c3 ok3 (by omega) h'
            subst hok
            refine ⟨rfl, fun v hv => ?_⟩
            obtain ⟨_, e⟩ := List.getElem?_eq_some_iff.1 ex
            rw [List.drop_eq_getElem_cons hlt, e] at hv
            rcases List.mem_cons.1 hv with rfl | hv
            · exact ih (by omega) _ _ _ _ (by have := vbigL_mem (List.mem_of_getElem? ex); omega) hy
            · exact hr v hv
        · rw [decide_eq_false (show ¬ (i : Int) < (x5.length : Int) by omega)] at h
          simp only [cond_false] at h
          have : x5.drop i = [] := List.drop_eq_nil_of_le (by omega)
          rw [this]
          refine ⟨?_, fun v hv => by simp at hv⟩
          have := Option.some.inj h
          exact (Prod.mk.inj this).2
    obtain ⟨hkey, hloop⟩ := key
    have hr := (hall n 0 C true (Nat.zero_le _) hloop).2
    have hrl : ∀ l : List Val, (∀ v ∈ l, right v = true) → rightL l = true := by
      intro l
      induction l with
      | nil => intro _; rfl
      | cons v l ih => intro h; simp only [rightL, h v (by simp), ih (fun w hw => h w (by simp [hw])), Bool.and_true]
    simp only [right, hrl x5 (by simpa using hr), Bool.and_true]
    have h3' : 0 ≤ x1 := by simpa using h3
    have h4' : x1 ≤ 7 := by simpa using h4
    have hb9 : bareB x1 x2 x3 x4 x5.length x6.length = true := by
      have := Option.some.inj h9
      unfold bareB
      simpa [strs] using this
    have h66 : (!(decide (x1 ≥ 6) && decide (x3 < 1))) = true := by
      cases ha : decide (x1 ≥ 6) with
      | false => rfl
      | true => rw [ha] at h6; simp only [cond_true] at h6; rw [h6]; rfl
    simp only [good1, decide_eq_true h3', decide_eq_true h4', hb9, h66, hkey, Bool.and_self, Bool.true_and]

theorem may_right' {n : Nat} (hn : n ≤ 1073741824) {v : Val} (hv : vbig v < n) (h : F_R03_May n v = some true) : right v = true ∧ F_value_Check n v = some 0 := by
  obtain ⟨b, hb1, hb2⟩ := check_eq hn hv
  obtain rfl : b = true := by rw [h] at hb2; exact (Option.some.inj hb2).symm
  refine ⟨?_, hb1⟩
  obtain ⟨x1, x2, x3, x4, x5, x6⟩ := v
  unfold F_value_Check at hb1
  obtain ⟨⟨x7, x8⟩, h7, hb1⟩ := bnd_some hb1
  cases x8 with
  | false => simp at hb1
  | true => exact look_right n hn _ _ _ _ hv h7
end W
end
section
open Go Ax Go.RowKit
namespace W
set_option maxRecDepth 10000

theorem rep_len {A : Type} (C : Codec A) (k : Nat) (x : A) : (C.rows (List.replicate k x)).length = k := by rw [C.hrows]; simp
theorem set_self {A : Type} {l : List A} {i : Nat} {x : A} (h : l[i]? = some x) : l.set i x = l := by
  obtain ⟨hlt, e⟩ := List.getElem?_eq_some_iff.1 h
  subst e
  exact List.set_getElem_self hlt

theorem copy_id : ∀ n : Nat, n ≤ 1073741824 → ∀ v : Val, vbig v < n → F_value_Copy n v = some v := by
  intro n
  induction n with
  | zero => intro _ _ h; omega
  | succ n ih =>
    intro hn v hv
    obtain ⟨x1, x2, x3, x4, x5, x6⟩ := v
    have hb : vbigL x5 < n ∧ x6.length < n := by
      have := nbig_len x6
      simp only [nbig] at this
      simp only [vbig] at hv
      omega
    have hl := vbigL_len x5
    have hrep : ∀ k : Nat, (Val.rows (List.replicate k (Val.mk (0 : Int) false (0 : Int) ([] : List UInt8) ([] : List Val) ([] : List (List UInt8))))).length = k := fun k => by simp
    have loop : ∀ (m i : Nat), i ≤ x5.length → x5.length - i < m → loopK (F_value_Copy_l1 n x5.length (F_value_Copy n) x6 x1 x2 x3 x4) m ((i : Int), x5) = some (Val.mk x1 x2 x3 x4 x5 x6) := by
      intro m
      induction m with
      | zero => intro i _ h; omega
      | succ m ihm =>
        intro i hi hm
        rw [loopK_succ]
        generalize loopK (F_value_Copy_l1 n x5.length (F_value_Copy n) x6 x1 x2 x3 x4) m = nx at ihm ⊢
        unfold F_value_Copy_l1
        simp only [hrep]
        by_cases hlt : i < x5.length
        · obtain ⟨x, hx⟩ : ∃ x, x5[i]? = some x := ⟨_, List.getElem?_eq_getElem hlt⟩
          have hc := ih (by omega) x (by have := vbigL_mem (List.mem_of_getElem? hx); omega)
          obtain ⟨a1, a2, a3, a4, a5, a6⟩ := x
          rw [decide_eq_true (show (i : Int) < (x5.length : Int) by omega)]
          simp only [cond_true, Ax.natI_nat, bnd_eq, decide_eq_true hlt, chk_t, hx, hc]
          rw [wrapN (by omega), set_self hx]
          exact ihm (i + 1) (by omega) (by omega)
        · rw [decide_eq_false (show ¬ (i : Int) < (x5.length : Int) by omega)]
          simp only [cond_false]
          rw [chk_dec (by simp [strs]; omega)]
    simp only [F_value_Copy, BF_value_Copy, valRows_len, Ax.natI_nat, bnd_eq, List.length_replicate, decide_true, chk_t]
    rw [chk_dec (by omega)]
    exact loop n 0 (Nat.zero_le _) (by omega)

theorem copied_id {n : Nat} (hn : n ≤ 1073741824) {l : List Val} (hl : vbigL l < n) : F_rows_copied n l = some l := by
  have h1 := vbigL_len l
  have loop : ∀ (m i : Nat), i ≤ l.length → l.length - i < m → loopK (F_rows_copied_l1 n l) m (l.take i, (i : Int)) = some l := by
    intro m
    induction m with
    | zero => intro i _ h; omega
    | succ m ihm =>
      intro i hi hm
      rw [loopK_succ]
      generalize loopK (F_rows_copied_l1 n l) m = nx at ihm ⊢
      unfold F_rows_copied_l1
      simp only [valRows_len]
      by_cases hlt : i < l.length
      · obtain ⟨x, hx⟩ : ∃ x, l[i]? = some x := ⟨_, List.getElem?_eq_getElem hlt⟩
        have hc := copy_id n hn x (by have := vbigL_mem (List.mem_of_getElem? hx); omega)
        obtain ⟨a1, a2, a3, a4, a5, a6⟩ := x
        rw [decide_eq_true (show (i : Int) < (l.length : Int) by omega)]
        have e : l.take i ++ [Val.mk a1 a2 a3 a4 a5 a6] = l.take (i + 1) := by rw [List.take_succ, hx]; rfl
        simp only [cond_true, Ax.idx_nat, hx, bnd_eq, hc, e]
        rw [chk_dec (by rw [List.length_take]; omega), wrapN (by omega)]
        exact ihm (i + 1) (by omega) (by omega)
      · rw [decide_eq_false (show ¬ (i : Int) < (l.length : Int) by omega)]
        simp only [cond_false]
        rw [List.take_of_length_le (by omega)]
  unfold F_rows_copied
  simp only [valRows_len, Ax.natI_nat, bnd_eq]
  rw [chk_dec (by omega)]
  exact loop n 0 (Nat.zero_le _) (by omega)

/-! ### Keys -/
theorem shift8 (m a b : Nat) (h : a = b) : u8I (IntKind.u8.wrap (Int.fdiv (m : Int) (2 ^ a))) = some (UInt8.ofNat (m / 2 ^ b)) := by
  subst h
  have e1 : ((m : Int).fdiv (2 ^ a)) = ((m / 2 ^ a : Nat) : Int) := by
    have : (2 : Int) ^ a = ((2 ^ a : Nat) : Int) := by simp
    rw [this, Int.fdiv_eq_ediv_of_nonneg _ (Int.natCast_nonneg _)]
    exact (Int.natCast_ediv m (2 ^ a)).symm
  rw [e1]
  generalize m / 2 ^ a = q
  have e2 : IntKind.u8.wrap (q : Int) = ((q % 256 : Nat) : Int) := by simp [IntKind.wrap, IntKind.bits, IntKind.signed]
  rw [e2]
  unfold u8I
  rw [if_pos (by omega)]
  congr 1
  apply UInt8.toNat.inj
  simp
  omega
theorem eight_eq (n m : Nat) (hn : 20 ≤ n) : F_rank_eight n (m : Int) = some (eightL m) := by
  obtain ⟨n, rfl⟩ : ∃ k, n = k + 20 := ⟨n - 20, by omega⟩
  unfold F_rank_eight
  have w : ∀ i : Nat, i < 8 → IntKind.i64.wrap ((56 : Int) - (IntKind.i64.wrap ((8 : Int) * (i : Int)))) = ((56 - 8 * i : Nat) : Int) := fun i hi => by
    rw [wrapC (i := 8 * (i : Int)) (by omega) (by omega), wrapC (by omega) (by omega)]; omega
  have step : ∀ (k i : Nat) (l : List UInt8), i < 8 → l.length = 8 → loopK (F_rank_eight_l1 (n + 20) m) (k + 1) ((i : Int), l) = loopK (F_rank_eight_l1 (n + 20) m) k (((i + 1 : Nat) : Int), l.set i (UInt8.ofNat (m / 2 ^ (56 - 8 * i)))) := by
    intro k i l hi hl
    rw [loopK_succ]
    generalize loopK (F_rank_eight_l1 (n + 20) m) k = nx
    unfold F_rank_eight_l1
    simp only [w i hi]
    rw [decide_eq_true (show (i : Int) < 8 by omega), cond_true, chk_dec (by omega), Ax.natI_nat, bnd_eq, chk_dec hi, shift8 m _ (56 - 8 * i) (by rw [Int.toNat_natCast]; exact Nat.min_eq_left (by show _ ≤ 64; omega)), bnd_eq, chk_dec (by omega), wrapN (by omega)]
  have s8 := step
  rw [show n + 20 = (n + 11) + 1 + 1 + 1 + 1 + 1 + 1 + 1 + 1 + 1 from rfl]
  have e0 : (0 : Int) = ((0 : Nat) : Int) := rfl
  rw [e0]
  rw [step _ 0 _ (by omega) rfl, step _ 1 _ (by omega) rfl, step _ 2 _ (by omega) rfl, step _ 3 _ (by omega) rfl, step _ 4 _ (by omega) rfl, step _ 5 _ (by omega) rfl, step _ 6 _ (by omega) rfl, step _ 7 _ (by omega) rfl, loopK_succ]
  rfl
theorem countB_le (s : List UInt8) : Lib.countB ⟨s.toArray⟩ ⟨([0] : List UInt8).toArray⟩ ≤ s.length := by
  have := Lib.countB_le ⟨#[0]⟩ (Nat.le_refl _) s.length ⟨s.toArray⟩ (Nat.le_refl _)
  exact this
theorem ended_eq (n : Nat) (s : List UInt8) (hs : s.length ≤ 1073741824) : F_rank_ended n s = some (endedM s) := by
  unfold F_rank_ended F_strings_ReplaceAll
  have := countB_le s
  have h2 := esc_length s
  rw [chk_dec (by omega), chk_dec (by decide), chk_dec (by show _ + _ * 2 ≤ _; omega), bnd_eq, replaceAll_esc, chk_dec (by show (((_ + 2 : Nat)) : Int) ≤ maxI; unfold maxI; omega)]
  rfl

/-- What is asked of sizes and fuel: a value's own size, ten times. -/
theorem lay_both : ∀ n : Nat, n ≤ 1073741824 → ∀ v : Val, right v = true → (20 * v.big + 40 < n → F_rank_lay n v = some (layM v)) ∧ (20 * v.big + 39 < n → ∀ k b i s l ks, v = .mk k b i s l ks → (k = 4 ∨ k = 5) → F_rank_rows n v = some (layM v)) := by
  intro n
  induction n with
  | zero => intro _ _ _; exact ⟨fun h => by omega, fun h => by omega⟩
  | succ n ih =>
    intro hn v hr
    obtain ⟨k, b, i, s, l, ks⟩ := v
    have hg : good1 (.mk k b i s l ks) = true ∧ rightL l = true := by simpa [right] using hr
    have hbig : (Val.mk k b i s l ks).big = 1 + s.length + bigs l + kbig ks := rfl
    have hll := bigs_len l
    have hkl := kbig_len ks
    -- the rows' own text, by the induction's answers for the parts
    have hrows : 20 * (Val.mk k b i s l ks).big + 39 < n + 1 → (k = 4 ∨ k = 5) → F_rank_rows (n + 1) (.mk k b i s l ks) = some (layM (.mk k b i s l ks)) := by
      intro hv hk
      have hlen : k = 5 → ks.length = l.length := by
        intro h5
        rcases good_shape hg.1 with h | h | h | h | h | h | h | h <;> (try (exfalso; omega))
        exact h.2.2.2.2.1
      have part : ∀ x ∈ l, F_rank_lay n x = some (layM x) := fun x hx => by
        have h1 : right x = true := rightL_get hg.2 hx
        have h2 := bigs_mem hx
        exact (ih (by omega) x h1).1 (by omega)
      have lenL : ∀ l : List Val, (layL l).length ≤ 16 * bigs l := layL_length
      have loop : ∀ (m j : Nat) (acc : List UInt8), j ≤ l.length → l.length - j < m → acc.length + 16 * bigs (l.drop j) + 4 * kbig (ks.drop j) + 4 * (l.length - j) + 4 ≤ 140737488355328 →
          loopK (F_rank_rows_l1 n l k ks (F_rank_lay n)) m ((j : Int), acc) = some (acc ++ ((bif k == 5 then layK (l.drop j) (ks.drop j) else layL (l.drop j)) ++ [0])) := by
        intro m
        induction m with
        | zero => intro j _ _ h; omega
        | succ m ihm =>
          intro j acc hj hm hsz
          rw [loopK_succ]
          generalize loopK (F_rank_rows_l1 n l k ks (F_rank_lay n)) m = nx at ihm ⊢
          unfold F_rank_rows_l1
          simp only [valRows_len]
          by_cases hlt : j < l.length
          · obtain ⟨x, hx⟩ : ∃ x, l[j]? = some x := ⟨_, List.getElem?_eq_getElem hlt⟩
            have hp := part x (List.mem_of_getElem? hx)
            have hd : l.drop j = x :: l.drop (j + 1) := by
              obtain ⟨_, e⟩ := List.getElem?_eq_some_iff.1 hx
              rw [List.drop_eq_getElem_cons hlt, e]
            have hxl := layM_length x
            rw [hd] at hsz ⊢
            simp only [bigs] at hsz
            rw [decide_eq_true (show (j : Int) < (l.length : Int) by omega)]
            obtain ⟨a1, a2, a3, a4, a5, a6⟩ := x
            simp only [cond_true, Ax.idx_nat, hx, bnd_eq]
            cases hk5 : (k == (5 : Int)) with
            | true =>
              have hkk : ks.length = l.length := hlen (by simpa using hk5)
              obtain ⟨y, hy⟩ : ∃ y, ks[j]? = some y := ⟨_, List.getElem?_eq_getElem (by omega)⟩
              have hdk : ks.drop j = y :: ks.drop (j + 1) := by
                obtain ⟨_, e⟩ := List.getElem?_eq_some_iff.1 hy
                rw [List.drop_eq_getElem_cons (by omega), e]
              rw [hdk] at hsz ⊢
              simp only [kbig] at hsz
              have hyl : y.length ≤ 1073741824 := by
                have : y.length + 1 + kbig (ks.drop (j + 1)) ≤ kbig ks := by
                  have e : ∀ (q : List (List UInt8)) (c : Nat), kbig (q.drop c) ≤ kbig q := by
                    intro q
                    induction q with
                    | nil => intro c; simp
                    | cons a q ihq =>
                      intro c
                      cases c with
                      | zero => exact Nat.le_refl _
                      | succ c => simp only [List.drop_succ_cons, kbig]; have := ihq c; omega
                  have := e ks j
                  rw [hdk] at this
                  exact this
                omega
              have hen := endedM_length y
              have br : ∀ z : List UInt8, (bRows z).length = z.length := fun z => by simp [bRows]
              simp only [cond_true, hy, bnd_eq, ended_eq n y hyl]
              rw [chk_dec (by rw [br]; simp only [List.length_append, List.length_cons, List.length_nil]; omega), chk_dec (by rw [br]; simp only [List.length_append, List.length_cons, List.length_nil]; omega)]
              unfold F_rank_rows_k4
              rw [hp, bnd_eq, chk_dec (by rw [br]; simp only [List.length_append, List.length_cons, List.length_nil]; omega), wrapN (by omega),
                ihm (j + 1) _ (by omega) (by omega) (by simp only [List.length_append, List.length_cons, List.length_nil]; omega)]
              rw [hk5]
              simp only [cond_true, layK, List.append_assoc, List.cons_append, List.nil_append]
            | false =>
              have br : ∀ z : List UInt8, (bRows z).length = z.length := fun z => by simp [bRows]
              have hkd : kbig (ks.drop (j + 1)) ≤ kbig (ks.drop j) := by
                have e : ∀ (q : List (List UInt8)) (c : Nat), kbig (q.drop (c + 1)) ≤ kbig (q.drop c) := by
                  intro q
                  induction q with
                  | nil => intro c; simp
                  | cons a q ihq =>
                    intro c
                    cases c with
                    | zero => simp only [List.drop_succ_cons, List.drop_zero, kbig]; omega
                    | succ c => simp only [List.drop_succ_cons]; exact ihq c
                exact e ks j
              simp only [cond_false]
              unfold F_rank_rows_k4
              rw [hp, bnd_eq, chk_dec (by rw [br]; simp only [List.length_append]; omega), wrapN (by omega),
                ihm (j + 1) _ (by omega) (by omega) (by simp only [List.length_append]; omega)]
              rw [hk5]
              simp only [cond_false, layL, List.append_assoc]
          · have br : ∀ z : List UInt8, (bRows z).length = z.length := fun z => by simp [bRows]
            rw [decide_eq_false (show ¬ (j : Int) < (l.length : Int) by omega)]
            simp only [cond_false]
            rw [chk_dec (by rw [br]; simp only [List.length_append, List.length_cons, List.length_nil]; omega)]
            have e1 : l.drop j = [] := List.drop_eq_nil_of_le (by omega)
            rw [e1]
            cases hk5 : (k == (5 : Int)) with
            | true =>
              have hkk : ks.length = l.length := hlen (by simpa using hk5)
              have e2 : ks.drop j = [] := List.drop_eq_nil_of_le (by omega)
              rw [e2]; rfl
            | false => rfl
      simp only [F_rank_rows, BF_rank_rows]
      rw [chk_dec (by decide)]
      rcases hk with rfl | rfl
      · unfold F_rank_rows_k1
        have := loop n 0 [4] (Nat.zero_le _) (by omega) (by simp only [List.drop_zero, List.length_cons, List.length_nil]; omega)
        have e0 : ((0 : Nat) : Int) = 0 := rfl
        rw [e0] at this
        simp only [show ((4 : Int) == 5) = false from rfl, cond_false] at this ⊢
        rw [this]
        simp [layM]
      · unfold F_rank_rows_k1
        have := loop n 0 [1] (Nat.zero_le _) (by omega) (by simp only [List.drop_zero, List.length_cons, List.length_nil]; omega)
        have e0 : ((0 : Nat) : Int) = 0 := rfl
        rw [e0] at this
        simp only [show ((5 : Int) == 5) = true from rfl, cond_true] at this ⊢
        rw [chk_dec (by decide), this]
        simp [layM]
    refine ⟨fun hv => ?_, fun hv k' b' i' s' l' ks' e hk => ?_⟩
    · have w64 : IntKind.u64.wrap i = ((bits64 i : Nat) : Int) := wrap64 i
      have hsl : s.length ≤ 1073741824 := by omega
      have h8 : (eightL (bits64 i)).length = 8 := rfl
      have h8' : (eightL (bits64 i ^^^ 9223372036854775808)).length = 8 := rfl
      have hen := endedM_length s
      simp only [F_rank_lay, BF_rank_lay]
      rcases good_shape hg.1 with h | h | h | h | h | h | h | h
      · obtain ⟨rfl, rfl, rfl, rfl, rfl, rfl⟩ := h; rfl
      · obtain ⟨rfl, rfl, rfl, rfl, rfl⟩ := h; cases b <;> rfl
      · obtain ⟨rfl, rfl, rfl, rfl, rfl⟩ := h
        simp only [show ((2 : Int) == 1) = false from rfl, show ((2 : Int) == 2) = true from rfl, cond_false, cond_true]
        rw [xor64 i, eight_eq n _ (by omega), bnd_eq, chk_dec (by rw [h8']; decide)]
        simp [layM]
      · obtain ⟨rfl, rfl, rfl, rfl, rfl⟩ := h
        simp only [show ((3 : Int) == 1) = false from rfl, show ((3 : Int) == 2) = false from rfl, show ((3 : Int) == 3) = true from rfl, cond_false, cond_true]
        rw [ended_eq n s hsl, bnd_eq, chk_dec (by simp only [List.length_cons, List.length_nil]; unfold maxI; omega)]
        simp [layM]
      · obtain ⟨rfl, rfl, rfl, rfl, rfl⟩ := h
        simp only [show ((4 : Int) == 1) = false from rfl, show ((4 : Int) == 2) = false from rfl, show ((4 : Int) == 3) = false from rfl, show ((4 : Int) == 6) = false from rfl, show ((4 : Int) == 7) = false from rfl, show ((4 : Int) == 4) = true from rfl, cond_false, cond_true]
        unfold F_rank_lay_k1
        simp only [cond_true]
        rw [(ih (by omega) _ hr).2 (by omega) 4 false 0 [] l [] rfl (.inl rfl), bnd_eq]
      · obtain ⟨rfl, rfl, rfl, rfl, h5⟩ := h
        simp only [show ((5 : Int) == 1) = false from rfl, show ((5 : Int) == 2) = false from rfl, show ((5 : Int) == 3) = false from rfl, show ((5 : Int) == 6) = false from rfl, show ((5 : Int) == 7) = false from rfl, show ((5 : Int) == 4) = false from rfl, show ((5 : Int) == 5) = true from rfl, cond_false, cond_true]
        unfold F_rank_lay_k1
        simp only [cond_true]
        rw [(ih (by omega) _ hr).2 (by omega) 5 false 0 [] l ks rfl (.inr rfl), bnd_eq]
      · obtain ⟨rfl, rfl, rfl, rfl, rfl, h1⟩ := h
        simp only [show ((6 : Int) == 1) = false from rfl, show ((6 : Int) == 2) = false from rfl, show ((6 : Int) == 3) = false from rfl, show ((6 : Int) == 6) = true from rfl, cond_false, cond_true]
        rw [w64, eight_eq n _ (by omega), bnd_eq, chk_dec (by rw [h8]; decide)]
        simp [layM]
      · obtain ⟨rfl, rfl, rfl, rfl, rfl, h1⟩ := h
        simp only [show ((7 : Int) == 1) = false from rfl, show ((7 : Int) == 2) = false from rfl, show ((7 : Int) == 3) = false from rfl, show ((7 : Int) == 6) = false from rfl, show ((7 : Int) == 7) = true from rfl, cond_false, cond_true]
        rw [w64, eight_eq n _ (by omega), bnd_eq, chk_dec (by rw [h8]; decide)]
        simp [layM]
    · cases e
      exact hrows hv hk
end W
end
section
open Go Ax Go.RowKit
namespace W
set_option maxRecDepth 10000

section
variable {K V : Type} [BEq K] [LawfulBEq K]
theorem mget_set (k s : K) (v : V) : ∀ m : List (K × V), mget s (mset k v m) = if s == k then some v else mget s m
  | [] => by
    simp only [mset, mget]
    cases s == k <;> rfl
  | (k', v') :: m => by
    by_cases h : k = k'
    · subst h
      simp only [mset, beq_self_eq_true, cond_true, mget]
      cases s == k <;> rfl
    · have h' : (k == k') = false := beq_eq_false_iff_ne.2 h
      simp only [mset, h', cond_false, mget, mget_set k s v m]
      by_cases hs : s = k'
      · subst hs
        have : (s == k) = false := beq_eq_false_iff_ne.2 fun e => h e.symm
        simp [this]
      · have : (s == k') = false := beq_eq_false_iff_ne.2 hs
        simp [this]
theorem mhas_set (k s : K) (v : V) (m : List (K × V)) : mhas (mset k v m) s = (s == k || mhas m s) := by
  simp only [mhas, mget_set]
  cases s == k <;> rfl
end

/-- A value that may be, of a size that the fuel n is enough for. -/
structure OkV (n : Nat) (v : Val) : Prop where
  right : right v = true
  range : range64 v = true
  check : F_value_Check n v = some 0
  small : 20 * v.big + 40 < n
/-- A row: of c values that may be. -/
structure OkR (n c : Nat) (r : List Val) : Prop where
  len : r.length = c
  val : ∀ v ∈ r, OkV n v
  small : 40 * bigs r + 40 < n
/-- The size of rows. -/
def rbig : List (List Val) → Nat
  | [] => 0
  | r :: l => 1 + bigs r + rbig l
theorem rbig_mem {l : List (List Val)} {r : List Val} (h : r ∈ l) : bigs r + 1 ≤ rbig l := by
  induction l with
  | nil => cases h
  | cons a l ih =>
    simp only [rbig]
    rcases List.mem_cons.1 h with rfl | h
    · omega
    · have := ih h; omega
theorem rbig_len (l : List (List Val)) : l.length ≤ rbig l := by
  induction l with
  | nil => exact Nat.le_refl _
  | cons a l ih => simp only [rbig, List.length_cons]; omega
theorem rbig_append (l m : List (List Val)) : rbig (l ++ m) = rbig l + rbig m := by
  induction l with
  | nil => simp [rbig]
  | cons a l ih => simp only [List.cons_append, rbig, ih]; omega
structure OkL (n c : Nat) (l : List (List Val)) : Prop where
  row : ∀ r ∈ l, OkR n c r
  small : 60 * rbig l + 1000 < n
  lim : n ≤ 1073741824

theorem vbig3 (v : Val) : vbig v + 1 ≤ 3 * v.big := vbig_le v
theorem vbigL3 (l : List Val) : vbigL l ≤ 1 + 3 * bigs l := vbig_le.vbigL_le l

theorem slen (l : List (List Val)) : (slRows valC l).length = l.length := by simp [slRows]
theorem intLen (l : List Int) : (intRows .i64 l).length = l.length := by simp [intRows]

theorem r03_may_of {n : Nat} (hn : n ≤ 1073741824) {v : Val} (hv : vbig v < n) : ∃ b, F_R03_May n v = some b ∧ (b = true → right v = true ∧ F_value_Check n v = some 0) := by
  obtain ⟨b, h1, h2⟩ := check_eq hn hv
  refine ⟨b, h2, fun hb => ?_⟩
  subst hb
  exact may_right' hn hv h2

/-- Are all values of rows of 64 bits? -/
def rangeR (l : List (List Val)) : Bool := l.all rangeRow
where rangeRow (r : List Val) : Bool := r.all range64

theorem row_loop {n : Nat} (hn : n ≤ 1073741824) {l : List (List Val)} {i c : Nat} {r : List Val} (hr : l[i]? = some r) (hc : r.length = c) (hs : 40 * bigs r + 40 < n) (nx : Int → Option Bool) :
    ∀ m j : Nat, j ≤ c → c - j < m → ∃ b : Bool, loopK (F_R17_May_l2 n (c : Int) l (i : Int) nx) m (j : Int) = (if b = true then nx (IntKind.i64.wrap ((i : Int) + 1)) else some false) ∧ (b = true → ∀ v ∈ r.drop j, right v = true ∧ F_value_Check n v = some 0) := by
  intro m
  induction m with
  | zero => intro j _ h; omega
  | succ m ih =>
    intro j hj hm
    rw [loopK_succ]
    generalize loopK (F_R17_May_l2 n (c : Int) l (i : Int) nx) m = nx2 at ih ⊢
    unfold F_R17_May_l2
    by_cases hlt : j < c
    · obtain ⟨x, hx⟩ : ∃ x, r[j]? = some x := ⟨_, List.getElem?_eq_getElem (by omega)⟩
      have hb := bigs_mem (List.mem_of_getElem? hx)
      have h3 := vbig3 x
      obtain ⟨b, hb1, hb2⟩ := r03_may_of hn (v := x) (by omega)
      have hd : r.drop j = x :: r.drop (j + 1) := by
        obtain ⟨_, e⟩ := List.getElem?_eq_some_iff.1 hx
        rw [List.drop_eq_getElem_cons (by omega), e]
      rw [decide_eq_true (show (j : Int) < (c : Int) by omega)]
      obtain ⟨a1, a2, a3, a4, a5, a6⟩ := x
      have hll := bigs_len r
      simp only [cond_true, Ax.idx_nat, hr, bnd_eq, hx, hb1]
      cases b with
      | false => exact ⟨false, rfl, fun h => by cases h⟩
      | true =>
        simp only [Bool.not_true, cond_false]
        rw [wrapN (by omega)]
        obtain ⟨b, e, hv⟩ := ih (j + 1) (by omega) (by omega)
        refine ⟨b, e, fun h v hm => ?_⟩
        rw [hd] at hm
        rcases List.mem_cons.1 hm with rfl | hm
        · exact hb2 rfl
        · exact hv h v hm
    · rw [decide_eq_false (show ¬ (j : Int) < (c : Int) by omega)]
      refine ⟨true, rfl, fun _ v hm => ?_⟩
      rw [List.drop_eq_nil_of_le (by omega)] at hm
      cases hm

theorem may_rows {n : Nat} (hn : n ≤ 1073741824) {l : List (List Val)} (c : Nat) (hs : 60 * rbig l + 1000 < n) (hcn : c < n) :
    ∃ b, F_R17_May n l (c : Int) = some b ∧ (b = true → ∀ r ∈ l, r.length = c ∧ ∀ v ∈ r, right v = true ∧ F_value_Check n v = some 0) := by
  have hl := rbig_len l
  have loop : ∀ m i : Nat, i ≤ l.length → l.length - i < m → ∃ b, loopK (F_R17_May_l1 n l (c : Int)) m (i : Int) = some b ∧ (b = true → ∀ r ∈ l.drop i, r.length = c ∧ ∀ v ∈ r, right v = true ∧ F_value_Check n v = some 0) := by
    intro m
    induction m with
    | zero => intro i _ h; omega
    | succ m ih =>
      intro i hi hm
      rw [loopK_succ]
      generalize loopK (F_R17_May_l1 n l (c : Int)) m = nx at ih ⊢
      unfold F_R17_May_l1
      simp only [slen]
      by_cases hlt : i < l.length
      · obtain ⟨r, hr⟩ : ∃ x, l[i]? = some x := ⟨_, List.getElem?_eq_getElem hlt⟩
        have hb := rbig_mem (List.mem_of_getElem? hr)
        have hd : l.drop i = r :: l.drop (i + 1) := by
          obtain ⟨_, e⟩ := List.getElem?_eq_some_iff.1 hr
          rw [List.drop_eq_getElem_cons hlt, e]
        rw [decide_eq_true (show (i : Int) < (l.length : Int) by omega)]
        simp only [cond_true, Ax.idx_nat, hr, bnd_eq, valRows_len]
        by_cases hc : r.length = c
        · have e : ((((r.length : Nat) : Int)) != (c : Int)) = false := by simp [hc]
          rw [e, cond_false]
          obtain ⟨b, h1, h2⟩ := row_loop hn hr hc (by omega) nx n 0 (Nat.zero_le _) (by omega)
          rw [show ((0 : Int)) = ((0 : Nat) : Int) from rfl, h1]
          cases b with
          | false => exact ⟨false, rfl, fun h => by cases h⟩
          | true =>
            simp only [if_true]
            rw [wrapN (by omega)]
            obtain ⟨b, e2, h3⟩ := ih (i + 1) (by omega) (by omega)
            refine ⟨b, e2, fun h q hq => ?_⟩
            rw [hd] at hq
            rcases List.mem_cons.1 hq with rfl | hq
            · exact ⟨hc, by simpa using h2 rfl⟩
            · exact h3 h q hq
        · have e : ((((r.length : Nat) : Int)) != (c : Int)) = true := by simp; omega
          rw [e, cond_true]
          exact ⟨false, rfl, fun h => by cases h⟩
      · rw [decide_eq_false (show ¬ (i : Int) < (l.length : Int) by omega)]
        refine ⟨true, rfl, fun _ v hm => ?_⟩
        rw [List.drop_eq_nil_of_le (by omega)] at hm
        cases hm
  obtain ⟨b, h1, h2⟩ := loop n 0 (Nat.zero_le _) (by omega)
  exact ⟨b, h1, by simpa using h2⟩

theorem few_eq {n : Nat} (hn : n ≤ 1073741824) {l : List (List Val)} (c : Nat) (hs : 60 * rbig l + 1000 < n) (hcn : c < n) (hrg : rangeR l = true) :
    ∃ b, F_L17_few n l (c : Int) = some b ∧ (b = true → l.length ≤ 200 ∧ OkL n c l) := by
  obtain ⟨b, h1, h2⟩ := may_rows hn c hs hcn
  unfold F_L17_few
  rw [slen]
  cases hd : decide ((l.length : Int) ≤ 200) with
  | false => exact ⟨false, by simp [gsome], fun h => by cases h⟩
  | true =>
    rw [h1]
    refine ⟨b, by simp [gsome], fun hb => ⟨by have := of_decide_eq_true hd; omega, ⟨fun r hr => ?_, hs, hn⟩⟩⟩
    obtain ⟨h3, h4⟩ := h2 hb r hr
    have hb := rbig_mem hr
    refine ⟨h3, fun v hv => ?_, by omega⟩
    have hb2 := bigs_mem hv
    have hr1 := List.all_eq_true.1 hrg r hr
    exact ⟨(h4 v hv).1, List.all_eq_true.1 hr1 v hv, (h4 v hv).2, by omega⟩
end W
end
