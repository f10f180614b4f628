/- Printed by gen.py. -/
import Derived.Test.YtkakmigbbipgoaaDoorAxFun
import Derived.Test.YtkakmigbbipgoaaDoorRgX
open Go Go.Proofs Ax
namespace Rk
abbrev R_F44 (r : Bool) : PV := PV.bool r

def F44 (n : Nat)  (a0_ : Val) : Option (Bool) :=
  match a0_ with
  | ⟨x1, x2, x3, x4, x5, x6⟩ =>
  some (bif (bif (bif (bif (bif (x1 == (1 : Int)) then true else (!x2)) then (bif (bif (x1 == (2 : Int)) then true else (decide (x1 ≥ (6 : Int)))) then true else (x3 == (0 : Int))) else false) then (bif (x1 == (3 : Int)) then true else (x4 == ([] : List UInt8))) else false) then (bif (bif (x1 == (4 : Int)) then true else (x1 == (5 : Int))) then true else ((((Val.rows x5).length : Nat) : Int) == (0 : Int))) else false) then (bif (x1 == (5 : Int)) then true else ((((strs x6).length : Nat) : Int) == (0 : Int))) else false)

set_option maxRecDepth 100000 in
theorem F44_ok (n : Nat)   : ∀ (a0_ : Val) (r : Bool), F44 n a0_ = some r → CallsF Tryd.prog 44 [PV.agg (valC.cells a0_)] (R_F44 r) := by
  intro a0_ r h
  obtain ⟨x1, x2, x3, x4, x5, x6⟩ := a0_
  unfold F44 at h
  refine CallsF.of_vcN mixed (fun _ _ => Tryd.call44 _ _) Tryd.func44 (by kernel_rfl) (inl := [1000000]) ?_
  conv => whnf
  iterate 47 (refine And.intro (fun h => h) ?_)
  obtain rfl := Option.some.inj h
  conv => whnf
  repeat (first | exact rfl | exact trivial | refine ⟨?_, ?_⟩)

abbrev R_F51 (r : Bool) : PV := PV.bool r

def F51 (n : Nat)  (a0_ : Val) : Option (Bool) :=
  match a0_ with
  | ⟨x7, x8, x9, x10, x11, x12⟩ =>
  bif (bif (x7 != (1 : Int)) then x8 else false) then (
  some false)
  else (
  bif (bif (bif (bif (x7 != (2 : Int)) then (x7 != (6 : Int)) else false) then (x7 != (7 : Int)) else false) then (x9 != (0 : Int)) else false) then (
  some false)
  else (
  bif (bif (x7 != (3 : Int)) then (!(x10 == ([] : List UInt8))) else false) then (
  some false)
  else (
  bif (bif (bif (x7 != (4 : Int)) then (x7 != (5 : Int)) else false) then (decide ((((Val.rows x11).length : Nat) : Int) > (0 : Int))) else false) then (
  some false)
  else (
  some (bif (x7 == (5 : Int)) then true else ((((strs x12).length : Nat) : Int) == (0 : Int)))))))

set_option maxRecDepth 100000 in
theorem F51_ok (n : Nat)   : ∀ (a0_ : Val) (r : Bool), F51 n a0_ = some r → CallsF Tryd.prog 51 [PV.agg (valC.cells a0_)] (R_F51 r) := by
  intro a0_ r h
  obtain ⟨x7, x8, x9, x10, x11, x12⟩ := a0_
  unfold F51 at h
  refine CallsF.of_vcN mixed (fun _ _ => Tryd.call51 _ _) Tryd.func51 (by kernel_rfl) (inl := [1000000]) ?_
  conv => whnf
  iterate 2 (refine And.intro (fun h => h) ?_)
  conv => whnf
  refine ⟨fun hc => ?_, fun hc => ?_⟩
  · have h := cond_t h hc
    obtain rfl := Option.some.inj h
    conv => whnf
    repeat (first | exact rfl | exact trivial | refine ⟨?_, ?_⟩)
  · have h := cond_f h hc
    conv => whnf
    iterate 9 (refine And.intro (fun h => h) ?_)
    conv => whnf
    refine ⟨fun hc => ?_, fun hc => ?_⟩
    · have h := cond_t h hc
      obtain rfl := Option.some.inj h
      conv => whnf
      repeat (first | exact rfl | exact trivial | refine ⟨?_, ?_⟩)
    · have h := cond_f h hc
      conv => whnf
      iterate 3 (refine And.intro (fun h => h) ?_)
      conv => whnf
      refine ⟨fun hc => ?_, fun hc => ?_⟩
      · have h := cond_t h hc
        obtain rfl := Option.some.inj h
        conv => whnf
        repeat (first | exact rfl | exact trivial | refine ⟨?_, ?_⟩)
      · have h := cond_f h hc
        conv => whnf
        iterate 7 (refine And.intro (fun h => h) ?_)
        conv => whnf
        refine ⟨fun hc => ?_, fun hc => ?_⟩
        · have h := cond_t h hc
          obtain rfl := Option.some.inj h
          conv => whnf
          repeat (first | exact rfl | exact trivial | refine ⟨?_, ?_⟩)
        · have h := cond_f h hc
          conv => whnf
          iterate 4 (refine And.intro (fun h => h) ?_)
          obtain rfl := Option.some.inj h
          conv => whnf
          repeat (first | exact rfl | exact trivial | refine ⟨?_, ?_⟩)

abbrev R_F36 (r : Int × List UInt8 × Bool) : PV := PV.tup [PV.int .u64 r.1, PV.str r.2.1, PV.bool r.2.2]

def F36_l1 (n : Nat) (x13 : List UInt8) : (Int × Int → Option (Int × List UInt8 × Bool)) → Int × Int → Option (Int × List UInt8 × Bool) := fun nx1 (x14, x15) =>
 bif (decide (x15 < (8 : Int))) then (
 bnd (idx x13 x15) fun x16 =>
 nx1 ((IntKind.u64.wrap (((BitVec.ofInt IntKind.u64.bits (IntKind.u64.wrap (x14 * 2 ^ (min (Int.toNat (8 : Int)) IntKind.u64.bits))) ||| BitVec.ofInt IntKind.u64.bits (IntKind.u64.wrap ((x16.toNat : Nat) : Int))).toNat : Nat) : Int)), (IntKind.i64.wrap (x15 + (1 : Int)))))
else (
 chk (decide (8 ≤ x13.length)) (
 some (x14, (x13.drop 8), true)))

def F36 (n : Nat)  (x13 : List UInt8) : Option (Int × List UInt8 × Bool) :=
  bif (decide (((x13.length : Nat) : Int) < (8 : Int))) then (
  some ((0 : Int), ([] : List UInt8), false))
  else (
  loopK (F36_l1 n x13) n ((0 : Int), (0 : Int)))

set_option maxRecDepth 100000 in
theorem F36_ok (n : Nat)   : ∀ (x13 : List UInt8) (r : Int × List UInt8 × Bool), F36 n x13 = some r → CallsF Tryd.prog 36 [PV.str x13] (R_F36 r) := by
  intro x13 r h
  unfold F36 at h
  refine CallsF.of_vcN mixed (fun _ _ => Tryd.call36 _ _) Tryd.func36 (by kernel_rfl) (inl := [1000000]) ?_
  conv => whnf
  refine ⟨fun hc => ?_, fun hc => ?_⟩
  · have h := cond_t h hc
    obtain rfl := Option.some.inj h
    conv => whnf
    repeat (first | exact rfl | exact trivial | refine ⟨?_, ?_⟩)
  · have h := cond_f h hc
    conv => whnf
    refine LoopA.fn [1000000] (S := Int × Int) (fun (x14, x15) => [(0, .p (.str x13)), (5, .p (.int .u64 x14)), (10, .p (.int .i64 x15))]) (fun (x14, x15) => []) (B := F36_l1 n x13) h ⟨[], [], ⟨rfl, rfl, rfl, rfl⟩, by repeat (first | exact trivial | exact .inl rfl | exact .inr ⟨rfl, rfl⟩ | exact rfl | exact List.not_mem_nil | (refine ⟨?_, ?_⟩) | decide), by repeat (first | exact trivial | exact .inl rfl | exact .inr ⟨rfl, rfl⟩ | exact rfl | exact List.not_mem_nil | (refine ⟨?_, ?_⟩) | decide)⟩ ?_
    intro nx1 st h
    obtain ⟨x14, x15⟩ := st
    unfold F36_l1 at h
    conv => whnf
    refine ⟨fun hc => ?_, fun hc => ?_⟩
    · have h := cond_t h hc
      conv => whnf
      refine ⟨by unfold gI; decide, ?_⟩
      conv => whnf
      obtain ⟨x16, h1, h⟩ := bnd_some h
      refine ⟨_, idx_some h1, ?_⟩
      conv => whnf
      exact ⟨((IntKind.u64.wrap (((BitVec.ofInt IntKind.u64.bits (IntKind.u64.wrap (x14 * 2 ^ (min (Int.toNat (8 : Int)) IntKind.u64.bits))) ||| BitVec.ofInt IntKind.u64.bits (IntKind.u64.wrap ((x16.toNat : Nat) : Int))).toNat : Nat) : Int)), (IntKind.i64.wrap (x15 + (1 : Int)))), h, ⟨[], [], ⟨rfl, rfl, rfl, rfl⟩, by repeat (first | exact trivial | exact .inl rfl | exact .inr ⟨rfl, rfl⟩ | exact rfl | exact List.not_mem_nil | (refine ⟨?_, ?_⟩) | decide), by repeat (first | exact trivial | exact .inl rfl | exact .inr ⟨rfl, rfl⟩ | exact rfl | exact List.not_mem_nil | (refine ⟨?_, ?_⟩) | decide)⟩⟩
    · have h := cond_f h hc
      conv => whnf
      refine ⟨8, rfl, ?_⟩
      conv => whnf
      obtain ⟨h2, h⟩ := chk_some h
      refine ⟨⟨(of_decide_eq_true h2 : (8 ≤ x13.length)), Nat.le_refl _⟩, ?_⟩
      rw [show List.drop 8 (List.take x13.length x13) = (x13.drop 8) from by rw [List.take_length]]
      obtain rfl := Option.some.inj h
      conv => whnf
      repeat (first | exact rfl | exact trivial | refine ⟨?_, ?_⟩)

abbrev R_F39 (r : Int × Bool) : PV := PV.tup [PV.int .u64 r.1, PV.bool r.2]

def F39_l1 (n : Nat) (x18 : Int) (x17 : List UInt8) : (Int × Int → Option (Int × Bool)) → Int × Int → Option (Int × Bool) := fun nx1 (x19, x20) =>
 bif (decide (x20 < (8 : Int))) then (
 bif (decide ((IntKind.i64.wrap (x18 + x20)) ≥ ((x17.length : Nat) : Int))) then (
 some ((0 : Int), false))
else (
 bnd (idx x17 (IntKind.i64.wrap (x18 + x20))) fun x21 =>
 nx1 ((IntKind.u64.wrap ((IntKind.u64.wrap (x19 * (256 : Int))) + (IntKind.u64.wrap ((x21.toNat : Nat) : Int)))), (IntKind.i64.wrap (x20 + (1 : Int))))))
else (
 some (x19, true))

def F39 (n : Nat)  (x17 : List UInt8) (x18 : Int) : Option (Int × Bool) :=
  loopK (F39_l1 n x18 x17) n ((0 : Int), (0 : Int))

set_option maxRecDepth 100000 in
theorem F39_ok (n : Nat)   : ∀ (x17 : List UInt8) (x18 : Int) (r : Int × Bool), F39 n x17 x18 = some r → CallsF Tryd.prog 39 [PV.str x17, PV.int .i64 x18] (R_F39 r) := by
  intro x17 x18 r h
  unfold F39 at h
  refine CallsF.of_vcN mixed (fun _ _ => Tryd.call39 _ _) Tryd.func39 (by kernel_rfl) (inl := [1000000]) ?_
  conv => whnf
  refine LoopA.fn [1000000] (S := Int × Int) (fun (x19, x20) => [(0, .p (.str x17)), (1, .p (.int .i64 x18)), (6, .p (.int .u64 x19)), (7, .p (.int .i64 x20))]) (fun (x19, x20) => []) (B := F39_l1 n x18 x17) h ⟨[], [], ⟨rfl, rfl, rfl, rfl⟩, by repeat (first | exact trivial | exact .inl rfl | exact .inr ⟨rfl, rfl⟩ | exact rfl | exact List.not_mem_nil | (refine ⟨?_, ?_⟩) | decide), by repeat (first | exact trivial | exact .inl rfl | exact .inr ⟨rfl, rfl⟩ | exact rfl | exact List.not_mem_nil | (refine ⟨?_, ?_⟩) | decide)⟩ ?_
  intro nx1 st h
  obtain ⟨x19, x20⟩ := st
  unfold F39_l1 at h
  conv => whnf
  refine ⟨fun hc => ?_, fun hc => ?_⟩
  · have h := cond_t h hc
    conv => whnf
    refine ⟨fun hc => ?_, fun hc => ?_⟩
    · have h := cond_t h hc
      obtain rfl := Option.some.inj h
      conv => whnf
      repeat (first | exact rfl | exact trivial | refine ⟨?_, ?_⟩)
    · have h := cond_f h hc
      conv => whnf
      obtain ⟨x21, h1, h⟩ := bnd_some h
      refine ⟨_, idx_some h1, ?_⟩
      conv => whnf
      exact ⟨((IntKind.u64.wrap ((IntKind.u64.wrap (x19 * (256 : Int))) + (IntKind.u64.wrap ((x21.toNat : Nat) : Int)))), (IntKind.i64.wrap (x20 + (1 : Int)))), h, ⟨[], [], ⟨rfl, rfl, rfl, rfl⟩, by repeat (first | exact trivial | exact .inl rfl | exact .inr ⟨rfl, rfl⟩ | exact rfl | exact List.not_mem_nil | (refine ⟨?_, ?_⟩) | decide), by repeat (first | exact trivial | exact .inl rfl | exact .inr ⟨rfl, rfl⟩ | exact rfl | exact List.not_mem_nil | (refine ⟨?_, ?_⟩) | decide)⟩⟩
  · have h := cond_f h hc
    obtain rfl := Option.some.inj h
    conv => whnf
    repeat (first | exact rfl | exact trivial | refine ⟨?_, ?_⟩)

abbrev R_F21 (r : Bool) : PV := PV.bool r

def F21_l1 (n : Nat) (x22 : List (List UInt8)) (x23 : List (List UInt8)) : (Int → Option (Bool)) → Int → Option (Bool) := fun nx1 x24 =>
 bif (decide (x24 < (((strs x22).length : Nat) : Int))) then (
 bnd (idx x22 x24) fun x25 =>
 bnd (idx x23 x24) fun x26 =>
 bif (!(x25 == x26)) then (
 some false)
else (
 nx1 (IntKind.i64.wrap (x24 + (1 : Int)))))
else (
 some true)

def F21 (n : Nat)  (x22 : List (List UInt8)) (x23 : List (List UInt8)) : Option (Bool) :=
  bif ((((strs x22).length : Nat) : Int) != (((strs x23).length : Nat) : Int)) then (
  some false)
  else (
  loopK (F21_l1 n x22 x23) n (0 : Int))

set_option maxRecDepth 100000 in
theorem F21_ok (n : Nat)   : ∀ (x22 : List (List UInt8)) (x23 : List (List UInt8)) (r : Bool), F21 n x22 x23 = some r → CallsF Tryd.prog 21 [PV.sl (strs x22), PV.sl (strs x23)] (R_F21 r) := by
  intro x22 x23 r h
  unfold F21 at h
  refine CallsF.of_vcN mixed (fun _ _ => Tryd.call21 _ _) Tryd.func21 (by kernel_rfl) (inl := [1000000]) ?_
  conv => whnf
  refine ⟨fun hc => ?_, fun hc => ?_⟩
  · have h := cond_t h hc
    obtain rfl := Option.some.inj h
    conv => whnf
    repeat (first | exact rfl | exact trivial | refine ⟨?_, ?_⟩)
  · have h := cond_f h hc
    conv => whnf
    refine LoopA.fn [1000000] (S := Int) (fun x24 => [(0, .p (.sl (strs x22))), (1, .p (.sl (strs x23))), (5, .p (.int .i64 x24))]) (fun x24 => []) (B := F21_l1 n x22 x23) h ⟨[], [], ⟨rfl, rfl, rfl, rfl⟩, by repeat (first | exact trivial | exact .inl rfl | exact .inr ⟨rfl, rfl⟩ | exact rfl | exact List.not_mem_nil | (refine ⟨?_, ?_⟩) | decide), by repeat (first | exact trivial | exact .inl rfl | exact .inr ⟨rfl, rfl⟩ | exact rfl | exact List.not_mem_nil | (refine ⟨?_, ?_⟩) | decide)⟩ ?_
    intro nx1 x24 h
    unfold F21_l1 at h
    conv => whnf
    refine ⟨fun hc => ?_, fun hc => ?_⟩
    · have h := cond_t h hc
      conv => whnf
      obtain ⟨x25, h2, h⟩ := bnd_some h
      refine ⟨_, Codec.at_ strC h2, ?_⟩
      conv => whnf
      obtain ⟨x26, h1, h⟩ := bnd_some h
      refine ⟨_, Codec.at_ strC h1, ?_⟩
      conv => whnf
      refine ⟨fun hc => ?_, fun hc => ?_⟩
      · have h := cond_t h hc
        obtain rfl := Option.some.inj h
        conv => whnf
        repeat (first | exact rfl | exact trivial | refine ⟨?_, ?_⟩)
      · have h := cond_f h hc
        conv => whnf
        exact ⟨(IntKind.i64.wrap (x24 + (1 : Int))), h, ⟨[], [], ⟨rfl, rfl, rfl, rfl⟩, by repeat (first | exact trivial | exact .inl rfl | exact .inr ⟨rfl, rfl⟩ | exact rfl | exact List.not_mem_nil | (refine ⟨?_, ?_⟩) | decide), by repeat (first | exact trivial | exact .inl rfl | exact .inr ⟨rfl, rfl⟩ | exact rfl | exact List.not_mem_nil | (refine ⟨?_, ?_⟩) | decide)⟩⟩
    · have h := cond_f h hc
      obtain rfl := Option.some.inj h
      conv => whnf
      repeat (first | exact rfl | exact trivial | refine ⟨?_, ?_⟩)

abbrev R_F13 (r : Bool) : PV := PV.bool r

def BF13 (n : Nat) (g13 : Val → Val → Option (Bool)) (g22 : (List Val) → (List Val) → Option (Bool)) (a0_ : Val) (a1_ : Val) : Option (Bool) :=
  match a0_, a1_ with
  | ⟨x27, x28, x29, x30, x31, x32⟩, ⟨x33, x34, x35, x36, x37, x38⟩ =>
  bnd (gsome (bif (bif (bif (x27 == x33) then (x28 == x34) else false) then (x29 == x35) else false) then (x30 == x36) else false) (F21 n x32 x38)) fun x39 =>
  bnd (gsome (bif (bif (bif (bif (x27 == x33) then (x28 == x34) else false) then (x29 == x35) else false) then (x30 == x36) else false) then x39 else false) (g22 x31 x37)) fun x40 =>
  some (bif (bif (bif (bif (bif (x27 == x33) then (x28 == x34) else false) then (x29 == x35) else false) then (x30 == x36) else false) then x39 else false) then x40 else false)

abbrev R_F22 (r : Bool) : PV := PV.bool r

def F22_l1 (n : Nat) (x41 : List Val) (x42 : List Val) (g13 : Val → Val → Option (Bool)) : (Int → Option (Bool)) → Int → Option (Bool) := fun nx1 x43 =>
 bif (decide (x43 < (((Val.rows x41).length : Nat) : Int))) then (
 bnd (idx x41 x43) fun ⟨x44, x45, x46, x47, x48, x49⟩ =>
 bnd (idx x42 x43) fun ⟨x50, x51, x52, x53, x54, x55⟩ =>
 bnd (g13 (Val.mk x44 x45 x46 x47 x48 x49) (Val.mk x50 x51 x52 x53 x54 x55)) fun x56 =>
 bif (!x56) then (
 some false)
else (
 nx1 (IntKind.i64.wrap (x43 + (1 : Int)))))
else (
 some true)

def BF22 (n : Nat) (g13 : Val → Val → Option (Bool)) (g22 : (List Val) → (List Val) → Option (Bool)) (x41 : List Val) (x42 : List Val) : Option (Bool) :=
  bif ((((Val.rows x41).length : Nat) : Int) != (((Val.rows x42).length : Nat) : Int)) then (
  some false)
  else (
  loopK (F22_l1 n x41 x42 g13) n (0 : Int))

set_option maxRecDepth 100000 in
theorem BF13_ok (n : Nat) (g13 : Val → Val → Option (Bool)) (g22 : (List Val) → (List Val) → Option (Bool)) (g13_ok : ∀ (a0_ : Val) (a1_ : Val) (r : Bool), g13 a0_ a1_ = some r → CallsF Tryd.prog 13 [PV.agg (valC.cells a0_), PV.agg (valC.cells a1_)] (R_F13 r)) (g22_ok : ∀ (x41 : List Val) (x42 : List Val) (r : Bool), g22 x41 x42 = some r → CallsF Tryd.prog 22 [PV.sl (Val.rows x41), PV.sl (Val.rows x42)] (R_F22 r)) : ∀ (a0_ : Val) (a1_ : Val) (r : Bool), BF13 n g13 g22 a0_ a1_ = some r → CallsF Tryd.prog 13 [PV.agg (valC.cells a0_), PV.agg (valC.cells a1_)] (R_F13 r) := by
  intro a0_ a1_ r h
  obtain ⟨x27, x28, x29, x30, x31, x32⟩ := a0_
  obtain ⟨x33, x34, x35, x36, x37, x38⟩ := a1_
  unfold BF13 at h
  refine CallsF.of_vcN mixed (fun _ _ => Tryd.call13 _ _) Tryd.func13 (by kernel_rfl) (inl := [1000000]) ?_
  conv => whnf
  iterate 19 (refine And.intro (fun h => h) ?_)
  conv => whnf
  obtain ⟨x39, h2, h⟩ := bnd_some h
  refine ⟨_, fun hg => (F21_ok n _ _  _ (gsome_some h2 hg)), ?_⟩
  conv => whnf
  iterate 5 (refine And.intro (fun h => h) ?_)
  conv => whnf
  obtain ⟨x40, h1, h⟩ := bnd_some h
  refine ⟨_, fun hg => (g22_ok _ _  _ (gsome_some h1 hg)), ?_⟩
  conv => whnf
  refine And.intro (fun h => h) ?_
  obtain rfl := Option.some.inj h
  conv => whnf
  repeat (first | exact rfl | exact trivial | refine ⟨?_, ?_⟩)

set_option maxRecDepth 100000 in
theorem BF22_ok (n : Nat) (g13 : Val → Val → Option (Bool)) (g22 : (List Val) → (List Val) → Option (Bool)) (g13_ok : ∀ (a0_ : Val) (a1_ : Val) (r : Bool), g13 a0_ a1_ = some r → CallsF Tryd.prog 13 [PV.agg (valC.cells a0_), PV.agg (valC.cells a1_)] (R_F13 r)) (g22_ok : ∀ (x41 : List Val) (x42 : List Val) (r : Bool), g22 x41 x42 = some r → CallsF Tryd.prog 22 [PV.sl (Val.rows x41), PV.sl (Val.rows x42)] (R_F22 r)) : ∀ (x41 : List Val) (x42 : List Val) (r : Bool), BF22 n g13 g22 x41 x42 = some r → CallsF Tryd.prog 22 [PV.sl (Val.rows x41), PV.sl (Val.rows x42)] (R_F22 r) := by
  intro x41 x42 r h
  unfold BF22 at h
  refine CallsF.of_vcN mixed (fun _ _ => Tryd.call22 _ _) Tryd.func22 (by kernel_rfl) (inl := [1000000]) ?_
  conv => whnf
  refine ⟨fun hc => ?_, fun hc => ?_⟩
  · have h := cond_t h hc
    obtain rfl := Option.some.inj h
    conv => whnf
    repeat (first | exact rfl | exact trivial | refine ⟨?_, ?_⟩)
  · have h := cond_f h hc
    conv => whnf
    refine LoopA.fn [1000000] (S := Int) (fun x43 => [(0, .p (.sl (Val.rows x41))), (1, .p (.sl (Val.rows x42))), (5, .p (.int .i64 x43))]) (fun x43 => []) (B := F22_l1 n x41 x42 g13) h ⟨[], [], ⟨rfl, rfl, rfl, rfl⟩, by repeat (first | exact trivial | exact .inl rfl | exact .inr ⟨rfl, rfl⟩ | exact rfl | exact List.not_mem_nil | (refine ⟨?_, ?_⟩) | decide), by repeat (first | exact trivial | exact .inl rfl | exact .inr ⟨rfl, rfl⟩ | exact rfl | exact List.not_mem_nil | (refine ⟨?_, ?_⟩) | decide)⟩ ?_
    intro nx1 x43 h
    unfold F22_l1 at h
    conv => whnf
    refine ⟨fun hc => ?_, fun hc => ?_⟩
    · have h := cond_t h hc
      conv => whnf
      obtain ⟨⟨x44, x45, x46, x47, x48, x49⟩, h3, h⟩ := bnd_some h
      refine ⟨_, Codec.at_ valC h3, ?_⟩
      conv => whnf
      obtain ⟨⟨x50, x51, x52, x53, x54, x55⟩, h2, h⟩ := bnd_some h
      refine ⟨_, Codec.at_ valC h2, ?_⟩
      conv => whnf
      obtain ⟨x56, h1, h⟩ := bnd_some h
      refine ⟨_, (g13_ok _ _  _ h1), ?_⟩
      conv => whnf
      refine ⟨fun hc => ?_, fun hc => ?_⟩
      · have h := cond_t h hc
        obtain rfl := Option.some.inj h
        conv => whnf
        repeat (first | exact rfl | exact trivial | refine ⟨?_, ?_⟩)
      · have h := cond_f h hc
        conv => whnf
        exact ⟨(IntKind.i64.wrap (x43 + (1 : Int))), h, ⟨[], [], ⟨rfl, rfl, rfl, rfl⟩, by repeat (first | exact trivial | exact .inl rfl | exact .inr ⟨rfl, rfl⟩ | exact rfl | exact List.not_mem_nil | (refine ⟨?_, ?_⟩) | decide), by repeat (first | exact trivial | exact .inl rfl | exact .inr ⟨rfl, rfl⟩ | exact rfl | exact List.not_mem_nil | (refine ⟨?_, ?_⟩) | decide)⟩⟩
    · have h := cond_f h hc
      obtain rfl := Option.some.inj h
      conv => whnf
      repeat (first | exact rfl | exact trivial | refine ⟨?_, ?_⟩)

mutual
def F13 : Nat → Val → Val → Option (Bool)
  | 0 => fun _ _ => none
  | n + 1 => BF13 n (F13 n) (F22 n)
def F22 : Nat → (List Val) → (List Val) → Option (Bool)
  | 0 => fun _ _ => none
  | n + 1 => BF22 n (F13 n) (F22 n)
end

theorem F13_all (n : Nat) : (∀ (a0_ : Val) (a1_ : Val) (r : Bool), F13 n a0_ a1_ = some r → CallsF Tryd.prog 13 [PV.agg (valC.cells a0_), PV.agg (valC.cells a1_)] (R_F13 r)) ∧ (∀ (x41 : List Val) (x42 : List Val) (r : Bool), F22 n x41 x42 = some r → CallsF Tryd.prog 22 [PV.sl (Val.rows x41), PV.sl (Val.rows x42)] (R_F22 r)) := by
  induction n with
  | zero => exact ⟨(by intros; rename_i h; cases h), (by intros; rename_i h; cases h)⟩
  | succ n ih =>
    obtain ⟨h13, h22⟩ := ih
    exact ⟨BF13_ok n (F13 n) (F22 n) h13 h22, BF22_ok n (F13 n) (F22 n) h13 h22⟩

theorem F13_ok (n : Nat) : ∀ (a0_ : Val) (a1_ : Val) (r : Bool), F13 n a0_ a1_ = some r → CallsF Tryd.prog 13 [PV.agg (valC.cells a0_), PV.agg (valC.cells a1_)] (R_F13 r) := (F13_all n).1

theorem F22_ok (n : Nat) : ∀ (x41 : List Val) (x42 : List Val) (r : Bool), F22 n x41 x42 = some r → CallsF Tryd.prog 22 [PV.sl (Val.rows x41), PV.sl (Val.rows x42)] (R_F22 r) := (F13_all n).2

abbrev R_F41 (r : Bool) : PV := PV.bool r

def F41 (n : Nat)  (x57 : Int) : Option (Bool) :=
  some (x57 != x57)

set_option maxRecDepth 100000 in
theorem F41_ok (n : Nat)   : ∀ (x57 : Int) (r : Bool), F41 n x57 = some r → CallsF Tryd.prog 41 [PV.int .i64 x57] (R_F41 r) := by
  intro x57 r h
  unfold F41 at h
  refine CallsF.of_vcN mixed (fun _ _ => Tryd.call41 _ _) Tryd.func41 (by kernel_rfl) (inl := [1000000]) ?_
  obtain rfl := Option.some.inj h
  conv => whnf
  repeat (first | exact rfl | exact trivial | refine ⟨?_, ?_⟩)

abbrev R_F42 (r : Bool) : PV := PV.bool r

def F42 (n : Nat)  (x58 : List UInt8) : Option (Bool) :=
  some (!(x58 == x58))

set_option maxRecDepth 100000 in
theorem F42_ok (n : Nat)   : ∀ (x58 : List UInt8) (r : Bool), F42 n x58 = some r → CallsF Tryd.prog 42 [PV.str x58] (R_F42 r) := by
  intro x58 r h
  unfold F42 at h
  refine CallsF.of_vcN mixed (fun _ _ => Tryd.call42 _ _) Tryd.func42 (by kernel_rfl) (inl := [1000000]) ?_
  obtain rfl := Option.some.inj h
  conv => whnf
  repeat (first | exact rfl | exact trivial | refine ⟨?_, ?_⟩)

abbrev R_F43 (r : Bool) : PV := PV.bool r

def F43 (n : Nat)  (x59 : Int) : Option (Bool) :=
  some (x59 != x59)

set_option maxRecDepth 100000 in
theorem F43_ok (n : Nat)   : ∀ (x59 : Int) (r : Bool), F43 n x59 = some r → CallsF Tryd.prog 43 [PV.int .i64 x59] (R_F43 r) := by
  intro x59 r h
  unfold F43 at h
  refine CallsF.of_vcN mixed (fun _ _ => Tryd.call43 _ _) Tryd.func43 (by kernel_rfl) (inl := [1000000]) ?_
  obtain rfl := Option.some.inj h
  conv => whnf
  repeat (first | exact rfl | exact trivial | refine ⟨?_, ?_⟩)

abbrev R_F23 (r : Int) : PV := PV.int .i64 r

def F23 (n : Nat)  (x60 : Int) (x61 : Int) : Option (Int) :=
  bnd (F41 n x60) fun x62 =>
  bnd (F41 n x61) fun x63 =>
  bif x62 then (
  bif x63 then (
  some (0 : Int))
  else (
  some (-1 : Int)))
  else (
  bif x63 then (
  some (1 : Int))
  else (
  bif (decide (x60 < x61)) then (
  some (-1 : Int))
  else (
  bif (decide (x60 > x61)) then (
  some (1 : Int))
  else (
  some (0 : Int)))))

set_option maxRecDepth 100000 in
theorem F23_ok (n : Nat)   : ∀ (x60 : Int) (x61 : Int) (r : Int), F23 n x60 x61 = some r → CallsF Tryd.prog 23 [PV.int .i64 x60, PV.int .i64 x61] (R_F23 r) := by
  intro x60 x61 r h
  unfold F23 at h
  refine CallsF.of_vcN mixed (fun _ _ => Tryd.call23 _ _) Tryd.func23 (by kernel_rfl) (inl := [1000000]) ?_
  conv => whnf
  obtain ⟨x62, h2, h⟩ := bnd_some h
  refine ⟨_, (F41_ok n _  _ h2), ?_⟩
  conv => whnf
  obtain ⟨x63, h1, h⟩ := bnd_some h
  refine ⟨_, (F41_ok n _  _ h1), ?_⟩
  conv => whnf
  refine ⟨fun hc => ?_, fun hc => ?_⟩
  · have h := cond_t h hc
    conv => whnf
    refine ⟨fun hc => ?_, fun hc => ?_⟩
    · have h := cond_t h hc
      obtain rfl := Option.some.inj h
      conv => whnf
      repeat (first | exact rfl | exact trivial | refine ⟨?_, ?_⟩)
    · have h := cond_f h hc
      obtain rfl := Option.some.inj h
      conv => whnf
      repeat (first | exact rfl | exact trivial | refine ⟨?_, ?_⟩)
  · have h := cond_f h hc
    conv => whnf
    refine ⟨fun hc => ?_, fun hc => ?_⟩
    · have h := cond_t h hc
      obtain rfl := Option.some.inj h
      conv => whnf
      repeat (first | exact rfl | exact trivial | refine ⟨?_, ?_⟩)
    · have h := cond_f h hc
      conv => whnf
      refine ⟨fun hc => ?_, fun hc => ?_⟩
      · have h := cond_t h hc
        obtain rfl := Option.some.inj h
        conv => whnf
        repeat (first | exact rfl | exact trivial | refine ⟨?_, ?_⟩)
      · have h := cond_f h hc
        conv => whnf
        refine ⟨fun hc => ?_, fun hc => ?_⟩
        · have h := cond_t h hc
          obtain rfl := Option.some.inj h
          conv => whnf
          repeat (first | exact rfl | exact trivial | refine ⟨?_, ?_⟩)
        · have h := cond_f h hc
          obtain rfl := Option.some.inj h
          conv => whnf
          repeat (first | exact rfl | exact trivial | refine ⟨?_, ?_⟩)

abbrev R_F25 (r : Int) : PV := PV.int .i64 r

def F25 (n : Nat)  (x64 : List UInt8) (x65 : List UInt8) : Option (Int) :=
  bnd (F42 n x64) fun x66 =>
  bnd (F42 n x65) fun x67 =>
  bif x66 then (
  bif x67 then (
  some (0 : Int))
  else (
  some (-1 : Int)))
  else (
  bif x67 then (
  some (1 : Int))
  else (
  bif (Op.bytesLess x64 x65) then (
  some (-1 : Int))
  else (
  bif (!(Op.bytesLess x64 x65 || x64 == x65)) then (
  some (1 : Int))
  else (
  some (0 : Int)))))

set_option maxRecDepth 100000 in
theorem F25_ok (n : Nat)   : ∀ (x64 : List UInt8) (x65 : List UInt8) (r : Int), F25 n x64 x65 = some r → CallsF Tryd.prog 25 [PV.str x64, PV.str x65] (R_F25 r) := by
  intro x64 x65 r h
  unfold F25 at h
  refine CallsF.of_vcN mixed (fun _ _ => Tryd.call25 _ _) Tryd.func25 (by kernel_rfl) (inl := [1000000]) ?_
  conv => whnf
  obtain ⟨x66, h2, h⟩ := bnd_some h
  refine ⟨_, (F42_ok n _  _ h2), ?_⟩
  conv => whnf
  obtain ⟨x67, h1, h⟩ := bnd_some h
  refine ⟨_, (F42_ok n _  _ h1), ?_⟩
  conv => whnf
  refine ⟨fun hc => ?_, fun hc => ?_⟩
  · have h := cond_t h hc
    conv => whnf
    refine ⟨fun hc => ?_, fun hc => ?_⟩
    · have h := cond_t h hc
      obtain rfl := Option.some.inj h
      conv => whnf
      repeat (first | exact rfl | exact trivial | refine ⟨?_, ?_⟩)
    · have h := cond_f h hc
      obtain rfl := Option.some.inj h
      conv => whnf
      repeat (first | exact rfl | exact trivial | refine ⟨?_, ?_⟩)
  · have h := cond_f h hc
    conv => whnf
    refine ⟨fun hc => ?_, fun hc => ?_⟩
    · have h := cond_t h hc
      obtain rfl := Option.some.inj h
      conv => whnf
      repeat (first | exact rfl | exact trivial | refine ⟨?_, ?_⟩)
    · have h := cond_f h hc
      conv => whnf
      refine ⟨fun hc => ?_, fun hc => ?_⟩
      · have h := cond_t h hc
        obtain rfl := Option.some.inj h
        conv => whnf
        repeat (first | exact rfl | exact trivial | refine ⟨?_, ?_⟩)
      · have h := cond_f h hc
        conv => whnf
        refine ⟨fun hc => ?_, fun hc => ?_⟩
        · have h := cond_t h hc
          obtain rfl := Option.some.inj h
          conv => whnf
          repeat (first | exact rfl | exact trivial | refine ⟨?_, ?_⟩)
        · have h := cond_f h hc
          obtain rfl := Option.some.inj h
          conv => whnf
          repeat (first | exact rfl | exact trivial | refine ⟨?_, ?_⟩)

abbrev R_F28 (r : Int) : PV := PV.int .i64 r

def F28 (n : Nat)  (x68 : Int) (x69 : Int) : Option (Int) :=
  bnd (F43 n x68) fun x70 =>
  bnd (F43 n x69) fun x71 =>
  bif x70 then (
  bif x71 then (
  some (0 : Int))
  else (
  some (-1 : Int)))
  else (
  bif x71 then (
  some (1 : Int))
  else (
  bif (decide (x68 < x69)) then (
  some (-1 : Int))
  else (
  bif (decide (x68 > x69)) then (
  some (1 : Int))
  else (
  some (0 : Int)))))

set_option maxRecDepth 100000 in
theorem F28_ok (n : Nat)   : ∀ (x68 : Int) (x69 : Int) (r : Int), F28 n x68 x69 = some r → CallsF Tryd.prog 28 [PV.int .i64 x68, PV.int .i64 x69] (R_F28 r) := by
  intro x68 x69 r h
  unfold F28 at h
  refine CallsF.of_vcN mixed (fun _ _ => Tryd.call28 _ _) Tryd.func28 (by kernel_rfl) (inl := [1000000]) ?_
  conv => whnf
  obtain ⟨x70, h2, h⟩ := bnd_some h
  refine ⟨_, (F43_ok n _  _ h2), ?_⟩
  conv => whnf
  obtain ⟨x71, h1, h⟩ := bnd_some h
  refine ⟨_, (F43_ok n _  _ h1), ?_⟩
  conv => whnf
  refine ⟨fun hc => ?_, fun hc => ?_⟩
  · have h := cond_t h hc
    conv => whnf
    refine ⟨fun hc => ?_, fun hc => ?_⟩
    · have h := cond_t h hc
      obtain rfl := Option.some.inj h
      conv => whnf
      repeat (first | exact rfl | exact trivial | refine ⟨?_, ?_⟩)
    · have h := cond_f h hc
      obtain rfl := Option.some.inj h
      conv => whnf
      repeat (first | exact rfl | exact trivial | refine ⟨?_, ?_⟩)
  · have h := cond_f h hc
    conv => whnf
    refine ⟨fun hc => ?_, fun hc => ?_⟩
    · have h := cond_t h hc
      obtain rfl := Option.some.inj h
      conv => whnf
      repeat (first | exact rfl | exact trivial | refine ⟨?_, ?_⟩)
    · have h := cond_f h hc
      conv => whnf
      refine ⟨fun hc => ?_, fun hc => ?_⟩
      · have h := cond_t h hc
        obtain rfl := Option.some.inj h
        conv => whnf
        repeat (first | exact rfl | exact trivial | refine ⟨?_, ?_⟩)
      · have h := cond_f h hc
        conv => whnf
        refine ⟨fun hc => ?_, fun hc => ?_⟩
        · have h := cond_t h hc
          obtain rfl := Option.some.inj h
          conv => whnf
          repeat (first | exact rfl | exact trivial | refine ⟨?_, ?_⟩)
        · have h := cond_f h hc
          obtain rfl := Option.some.inj h
          conv => whnf
          repeat (first | exact rfl | exact trivial | refine ⟨?_, ?_⟩)

abbrev R_F24 (r : Int) : PV := PV.int .i64 r

def F24 (n : Nat)  (x72 : Int) : Option (Int) :=
  bnd (idx [(7 : Int), (5 : Int), (6 : Int), (4 : Int), (3 : Int), (0 : Int), (1 : Int), (2 : Int)] x72) fun x73 =>
  some x73

set_option maxRecDepth 100000 in
theorem F24_ok (n : Nat)   : ∀ (x72 : Int) (r : Int), F24 n x72 = some r → CallsF Tryd.prog 24 [PV.int .i64 x72] (R_F24 r) := by
  intro x72 r h
  unfold F24 at h
  refine CallsF.of_vcN mixed (fun _ _ => Tryd.call24 _ _) Tryd.func24 (by kernel_rfl) (inl := [1000000]) ?_
  conv => whnf
  refine ⟨rfl, all_one rfl, ?_⟩
  conv => whnf
  obtain ⟨x73, h1, h⟩ := bnd_some h
  refine ⟨_, arr_at (k := .i64) h1 rfl (by decide), ?_⟩
  obtain rfl := Option.some.inj h
  conv => whnf
  repeat (first | exact rfl | exact trivial | refine ⟨?_, ?_⟩)

abbrev R_F26 (r : Int) : PV := PV.int .i64 r

def F26_l1 (n : Nat) (x74 : List Int) : (Int → Option (Int)) → Int → Option (Int) := fun nx1 x75 =>
 bif (decide (x75 < (((intRows .i64 x74).length : Nat) : Int))) then (
 bnd (idx x74 x75) fun x76 =>
 bif (x76 != (0 : Int)) then (
 some x76)
else (
 nx1 (IntKind.i64.wrap (x75 + (1 : Int)))))
else (
 some (0 : Int))

def F26 (n : Nat)  (x74 : List Int) : Option (Int) :=
  loopK (F26_l1 n x74) n (0 : Int)

set_option maxRecDepth 100000 in
theorem F26_ok (n : Nat)   : ∀ (x74 : List Int) (r : Int), F26 n x74 = some r → CallsF Tryd.prog 26 [PV.sl (intRows .i64 x74)] (R_F26 r) := by
  intro x74 r h
  unfold F26 at h
  refine CallsF.of_vcN mixed (fun _ _ => Tryd.call26 _ _) Tryd.func26 (by kernel_rfl) (inl := [1000000]) ?_
  conv => whnf
  refine LoopA.fn [1000000] (S := Int) (fun x75 => [(3, .p (.int .i64 (0 : Int))), (6, .p (.sl (intRows .i64 x74))), (7, .p (.int .i64 (((intRows .i64 x74).length : Nat) : Int))), (8, .p (.int .i64 x75))]) (fun x75 => []) (B := F26_l1 n x74) h ⟨[], [], ⟨rfl, rfl, rfl, rfl⟩, by repeat (first | exact trivial | exact .inl rfl | exact .inr ⟨rfl, rfl⟩ | exact rfl | exact List.not_mem_nil | (refine ⟨?_, ?_⟩) | decide), by repeat (first | exact trivial | exact .inl rfl | exact .inr ⟨rfl, rfl⟩ | exact rfl | exact List.not_mem_nil | (refine ⟨?_, ?_⟩) | decide)⟩ ?_
  intro nx1 x75 h
  unfold F26_l1 at h
  conv => whnf
  refine ⟨fun hc => ?_, fun hc => ?_⟩
  · have h := cond_t h hc
    conv => whnf
    obtain ⟨x76, h1, h⟩ := bnd_some h
    refine ⟨_, Codec.at_ (intC .i64) h1, ?_⟩
    conv => whnf
    refine ⟨fun hc => ?_, fun hc => ?_⟩
    · have h := cond_t h hc
      obtain rfl := Option.some.inj h
      conv => whnf
      repeat (first | exact rfl | exact trivial | refine ⟨?_, ?_⟩)
    · have h := cond_f h hc
      conv => whnf
      exact ⟨(IntKind.i64.wrap (x75 + (1 : Int))), h, ⟨[], [], ⟨rfl, rfl, rfl, rfl⟩, by repeat (first | exact trivial | exact .inl rfl | exact .inr ⟨rfl, rfl⟩ | exact rfl | exact List.not_mem_nil | (refine ⟨?_, ?_⟩) | decide), by repeat (first | exact trivial | exact .inl rfl | exact .inr ⟨rfl, rfl⟩ | exact rfl | exact List.not_mem_nil | (refine ⟨?_, ?_⟩) | decide)⟩⟩
  · have h := cond_f h hc
    obtain rfl := Option.some.inj h
    conv => whnf
    repeat (first | exact rfl | exact trivial | refine ⟨?_, ?_⟩)

abbrev R_F27 (r : Int) : PV := PV.int .i64 r

def F27 (n : Nat)  (x77 : Bool) : Option (Int) :=
  bif x77 then (
  some (1 : Int))
  else (
  some (0 : Int))

set_option maxRecDepth 100000 in
theorem F27_ok (n : Nat)   : ∀ (x77 : Bool) (r : Int), F27 n x77 = some r → CallsF Tryd.prog 27 [PV.bool x77] (R_F27 r) := by
  intro x77 r h
  unfold F27 at h
  refine CallsF.of_vcN mixed (fun _ _ => Tryd.call27 _ _) Tryd.func27 (by kernel_rfl) (inl := [1000000]) ?_
  conv => whnf
  refine ⟨fun hc => ?_, fun hc => ?_⟩
  · have h := cond_t h hc
    obtain rfl := Option.some.inj h
    conv => whnf
    repeat (first | exact rfl | exact trivial | refine ⟨?_, ?_⟩)
  · have h := cond_f h hc
    obtain rfl := Option.some.inj h
    conv => whnf
    repeat (first | exact rfl | exact trivial | refine ⟨?_, ?_⟩)

abbrev R_F14 (r : Int) : PV := PV.int .i64 r

def F14_k3 (n : Nat) (x82 : List Val) (x93 : Int) (x88 : List Val) (g14 : Val → Val → Option (Int)) (nx1 : Int → Option (Int)) : Int → Option (Int) := fun x94 =>
 bnd (idx x82 x93) fun ⟨x95, x96, x97, x98, x99, x100⟩ =>
 bnd (idx x88 x93) fun ⟨x101, x102, x103, x104, x105, x106⟩ =>
 bnd (g14 (Val.mk x95 x96 x97 x98 x99 x100) (Val.mk x101 x102 x103 x104 x105 x106)) fun x107 =>
 bnd (F26 n [x94, x107]) fun x108 =>
 bif (x108 != (0 : Int)) then (
 some x108)
else (
 nx1 (IntKind.i64.wrap (x93 + (1 : Int))))

def F14_l1 (n : Nat) (x82 : List Val) (x88 : List Val) (x78 : Int) (x83 : List (List UInt8)) (x89 : List (List UInt8)) (g14 : Val → Val → Option (Int)) (x79 : Bool) (x85 : Bool) (x80 : Int) (x86 : Int) (x81 : List UInt8) (x87 : List UInt8) : (Int → Option (Int)) → Int → Option (Int) := fun nx1 x93 =>
 bif (bif (decide (x93 < (((Val.rows x82).length : Nat) : Int))) then (decide (x93 < (((Val.rows x88).length : Nat) : Int))) else false) then (
 bif (x78 == (5 : Int)) then (
 bnd (idx x83 x93) fun x109 =>
 bnd (idx x89 x93) fun x110 =>
 bnd (F25 n x109 x110) fun x111 =>
 F14_k3 n x82 x93 x88 g14 nx1 x111)
else (
 F14_k3 n x82 x93 x88 g14 nx1 (0 : Int)))
else (
 bnd (F23 n (((Val.rows x82).length : Nat) : Int) (((Val.rows x88).length : Nat) : Int)) fun x112 =>
 bnd (F27 n x79) fun x113 =>
 bnd (F27 n x85) fun x114 =>
 bnd (F23 n x113 x114) fun x115 =>
 bnd (F28 n x80 x86) fun x116 =>
 bnd (F25 n x81 x87) fun x117 =>
 bnd (F26 n [x112, x115, x116, x117]) fun x118 =>
 some x118)

def BF14 (n : Nat) (g14 : Val → Val → Option (Int)) (a0_ : Val) (a1_ : Val) : Option (Int) :=
  match a0_, a1_ with
  | ⟨x78, x79, x80, x81, x82, x83⟩, ⟨x84, x85, x86, x87, x88, x89⟩ =>
  bif (x78 != x84) then (
  bnd (F24 n (IntKind.i64.wrap (((BitVec.ofInt IntKind.i64.bits x78 &&& BitVec.ofInt IntKind.i64.bits (7 : Int)).toNat : Nat) : Int))) fun x90 =>
  bnd (F24 n (IntKind.i64.wrap (((BitVec.ofInt IntKind.i64.bits x84 &&& BitVec.ofInt IntKind.i64.bits (7 : Int)).toNat : Nat) : Int))) fun x91 =>
  bnd (F23 n x90 x91) fun x92 =>
  some x92)
  else (
  loopK (F14_l1 n x82 x88 x78 x83 x89 g14 x79 x85 x80 x86 x81 x87) n (0 : Int))

set_option maxRecDepth 100000 in
theorem BF14_ok (n : Nat) (g14 : Val → Val → Option (Int)) (g14_ok : ∀ (a0_ : Val) (a1_ : Val) (r : Int), g14 a0_ a1_ = some r → CallsF Tryd.prog 14 [PV.agg (valC.cells a0_), PV.agg (valC.cells a1_)] (R_F14 r)) : ∀ (a0_ : Val) (a1_ : Val) (r : Int), BF14 n g14 a0_ a1_ = some r → CallsF Tryd.prog 14 [PV.agg (valC.cells a0_), PV.agg (valC.cells a1_)] (R_F14 r) := by
  intro a0_ a1_ r h
  obtain ⟨x78, x79, x80, x81, x82, x83⟩ := a0_
  obtain ⟨x84, x85, x86, x87, x88, x89⟩ := a1_
  unfold BF14 at h
  refine CallsF.of_vcN mixed (fun _ _ => Tryd.call14 _ _) Tryd.func14 (by kernel_rfl) (inl := [1000000]) ?_
  conv => whnf
  refine ⟨fun hc => ?_, fun hc => ?_⟩
  · have h := cond_t h hc
    conv => whnf
    obtain ⟨x90, h3, h⟩ := bnd_some h
    refine ⟨_, (F24_ok n _  _ h3), ?_⟩
    conv => whnf
    obtain ⟨x91, h2, h⟩ := bnd_some h
    refine ⟨_, (F24_ok n _  _ h2), ?_⟩
    conv => whnf
    obtain ⟨x92, h1, h⟩ := bnd_some h
    refine ⟨_, (F23_ok n _ _  _ h1), ?_⟩
    obtain rfl := Option.some.inj h
    conv => whnf
    repeat (first | exact rfl | exact trivial | refine ⟨?_, ?_⟩)
  · have h := cond_f h hc
    conv => whnf
    refine LoopA.fn [1000000] (S := Int) (fun x93 => [(2, .ptr 0 0), (3, .ptr 1 0), (5, .p (.int .i64 x93))]) (fun x93 => [.box 25 [.p (.int .i64 x78), .p (.bool x79), .p (.int .i64 x80), .p (.str x81), .p (.sl (Val.rows x82)), .p (.sl (strs x83))], .box 25 [.p (.int .i64 x84), .p (.bool x85), .p (.int .i64 x86), .p (.str x87), .p (.sl (Val.rows x88)), .p (.sl (strs x89))]]) (B := F14_l1 n x82 x88 x78 x83 x89 g14 x79 x85 x80 x86 x81 x87) h ⟨[0, 1], [], ⟨rfl, rfl, rfl, rfl⟩, by repeat (first | exact trivial | exact .inl rfl | exact .inr ⟨rfl, rfl⟩ | exact rfl | exact List.not_mem_nil | (refine ⟨?_, ?_⟩) | decide), by repeat (first | exact trivial | exact .inl rfl | exact .inr ⟨rfl, rfl⟩ | exact rfl | exact List.not_mem_nil | (refine ⟨?_, ?_⟩) | decide)⟩ ?_
    intro nx1 x93 h
    unfold F14_l1 at h
    conv => whnf
    iterate 5 (refine And.intro (fun h => h) ?_)
    conv => whnf
    refine ⟨fun hc => ?_, fun hc => ?_⟩
    · have h := cond_t h hc
      conv => whnf
      refine SeqA.cut (S := Int) (fun x94 => [(2, .ptr 0 0), (3, .ptr 1 0), (5, .p (.int .i64 x93)), (6, .p (.int .i64 x94))]) (fun x94 => [.box 25 [.p (.int .i64 x78), .p (.bool x79), .p (.int .i64 x80), .p (.str x81), .p (.sl (Val.rows x82)), .p (.sl (strs x83))], .box 25 [.p (.int .i64 x84), .p (.bool x85), .p (.int .i64 x86), .p (.str x87), .p (.sl (Val.rows x88)), .p (.sl (strs x89))]]) (F14_k3 n x82 x93 x88 g14 nx1) (r := r) ?_ ?_
      · intro x94 h
        unfold F14_k3 at h
        conv => whnf
        obtain ⟨⟨x95, x96, x97, x98, x99, x100⟩, h7, h⟩ := bnd_some h
        refine ⟨_, Codec.at_ valC h7, ?_⟩
        conv => whnf
        obtain ⟨⟨x101, x102, x103, x104, x105, x106⟩, h6, h⟩ := bnd_some h
        refine ⟨_, Codec.at_ valC h6, ?_⟩
        conv => whnf
        obtain ⟨x107, h5, h⟩ := bnd_some h
        refine ⟨_, (g14_ok _ _  _ h5), ?_⟩
        conv => whnf
        rw [show ([[PV.int .i64 x94], [PV.int .i64 x107]] : List (List PV)) = intRows .i64 [x94, x107] from rfl]
        refine ⟨Codec.one (intC .i64) [x94, x107], ?_⟩
        conv => whnf
        obtain ⟨x108, h4, h⟩ := bnd_some h
        refine ⟨_, (F26_ok n _  _ h4), ?_⟩
        conv => whnf
        refine ⟨fun hc => ?_, fun hc => ?_⟩
        · have h := cond_t h hc
          obtain rfl := Option.some.inj h
          conv => whnf
          repeat (first | exact rfl | exact trivial | refine ⟨?_, ?_⟩)
        · have h := cond_f h hc
          conv => whnf
          exact ⟨(IntKind.i64.wrap (x93 + (1 : Int))), h, ⟨[0, 1], [], ⟨rfl, rfl, rfl, rfl⟩, by repeat (first | exact trivial | exact .inl rfl | exact .inr ⟨rfl, rfl⟩ | exact rfl | exact List.not_mem_nil | (refine ⟨?_, ?_⟩) | decide), by repeat (first | exact trivial | exact .inl rfl | exact .inr ⟨rfl, rfl⟩ | exact rfl | exact List.not_mem_nil | (refine ⟨?_, ?_⟩) | decide)⟩⟩
      · conv => whnf
        refine ⟨fun hc => ?_, fun hc => ?_⟩
        · have h := cond_t h hc
          conv => whnf
          obtain ⟨x109, h10, h⟩ := bnd_some h
          refine ⟨_, Codec.at_ strC h10, ?_⟩
          conv => whnf
          obtain ⟨x110, h9, h⟩ := bnd_some h
          refine ⟨_, Codec.at_ strC h9, ?_⟩
          conv => whnf
          obtain ⟨x111, h8, h⟩ := bnd_some h
          refine ⟨_, (F25_ok n _ _  _ h8), ?_⟩
          conv => whnf
          exact ⟨x111, h, ⟨[0, 1], [], ⟨rfl, rfl, rfl, rfl⟩, by repeat (first | exact trivial | exact .inl rfl | exact .inr ⟨rfl, rfl⟩ | exact rfl | exact List.not_mem_nil | (refine ⟨?_, ?_⟩) | decide), by repeat (first | exact trivial | exact .inl rfl | exact .inr ⟨rfl, rfl⟩ | exact rfl | exact List.not_mem_nil | (refine ⟨?_, ?_⟩) | decide)⟩⟩
        · have h := cond_f h hc
          conv => whnf
          exact ⟨(0 : Int), h, ⟨[0, 1], [], ⟨rfl, rfl, rfl, rfl⟩, by repeat (first | exact trivial | exact .inl rfl | exact .inr ⟨rfl, rfl⟩ | exact rfl | exact List.not_mem_nil | (refine ⟨?_, ?_⟩) | decide), by repeat (first | exact trivial | exact .inl rfl | exact .inr ⟨rfl, rfl⟩ | exact rfl | exact List.not_mem_nil | (refine ⟨?_, ?_⟩) | decide)⟩⟩
    · have h := cond_f h hc
      conv => whnf
      obtain ⟨x112, h17, h⟩ := bnd_some h
      refine ⟨_, (F23_ok n _ _  _ h17), ?_⟩
      conv => whnf
      obtain ⟨x113, h16, h⟩ := bnd_some h
      refine ⟨_, (F27_ok n _  _ h16), ?_⟩
      conv => whnf
      obtain ⟨x114, h15, h⟩ := bnd_some h
      refine ⟨_, (F27_ok n _  _ h15), ?_⟩
      conv => whnf
      obtain ⟨x115, h14, h⟩ := bnd_some h
      refine ⟨_, (F23_ok n _ _  _ h14), ?_⟩
      conv => whnf
      obtain ⟨x116, h13, h⟩ := bnd_some h
      refine ⟨_, (F28_ok n _ _  _ h13), ?_⟩
      conv => whnf
      obtain ⟨x117, h12, h⟩ := bnd_some h
      refine ⟨_, (F25_ok n _ _  _ h12), ?_⟩
      conv => whnf
      rw [show ([[PV.int .i64 x112], [PV.int .i64 x115], [PV.int .i64 x116], [PV.int .i64 x117]] : List (List PV)) = intRows .i64 [x112, x115, x116, x117] from rfl]
      refine ⟨Codec.one (intC .i64) [x112, x115, x116, x117], ?_⟩
      conv => whnf
      obtain ⟨x118, h11, h⟩ := bnd_some h
      refine ⟨_, (F26_ok n _  _ h11), ?_⟩
      obtain rfl := Option.some.inj h
      conv => whnf
      repeat (first | exact rfl | exact trivial | refine ⟨?_, ?_⟩)

def F14 : Nat → Val → Val → Option (Int)
  | 0 => fun _ _ => none
  | n + 1 => BF14 n (F14 n)

theorem F14_all (n : Nat) : (∀ (a0_ : Val) (a1_ : Val) (r : Int), F14 n a0_ a1_ = some r → CallsF Tryd.prog 14 [PV.agg (valC.cells a0_), PV.agg (valC.cells a1_)] (R_F14 r)) := by
  induction n with
  | zero => exact (by intros; rename_i h; cases h)
  | succ n ih =>
    have h14 := ih
    exact BF14_ok n (F14 n) h14

theorem F14_ok (n : Nat) : ∀ (a0_ : Val) (a1_ : Val) (r : Int), F14 n a0_ a1_ = some r → CallsF Tryd.prog 14 [PV.agg (valC.cells a0_), PV.agg (valC.cells a1_)] (R_F14 r) := (F14_all n)

abbrev R_F40 (r : List UInt8 × Int × Bool) : PV := PV.tup [PV.str r.1, PV.int .i64 r.2.1, PV.bool r.2.2]

def F40_l1 (n : Nat) (x119 : List UInt8) : (Int × List UInt8 → Option (List UInt8 × Int × Bool)) → Int × List UInt8 → Option (List UInt8 × Int × Bool) := fun nx1 (x121, x122) =>
 bif (decide ((IntKind.i64.wrap (x121 + (1 : Int))) < ((x119.length : Nat) : Int))) then (
 bnd (idx x119 x121) fun x123 =>
 bif (((x123.toNat : Nat) : Int) != (0 : Int)) then (
 bnd (idx x119 x121) fun x124 =>
 chk (decide ((bRows (x122 ++ [x124])).length * 1 ≤ 140737488355328)) (
 nx1 ((IntKind.i64.wrap (x121 + (1 : Int))), (x122 ++ [x124]))))
else (
 bnd (idx x119 (IntKind.i64.wrap (x121 + (1 : Int)))) fun x125 =>
 bif (((x125.toNat : Nat) : Int) == (0 : Int)) then (
 some (x122, (IntKind.i64.wrap (x121 + (2 : Int))), true))
else (
 bnd (idx x119 (IntKind.i64.wrap (x121 + (1 : Int)))) fun x126 =>
 bif (((x126.toNat : Nat) : Int) != (255 : Int)) then (
 some (([] : List UInt8), (0 : Int), false))
else (
 chk (decide ((bRows (x122 ++ [(0 : UInt8)])).length * 1 ≤ 140737488355328)) (
 nx1 ((IntKind.i64.wrap (x121 + (2 : Int))), (x122 ++ [(0 : UInt8)])))))))
else (
 some (([] : List UInt8), (0 : Int), false))

def F40 (n : Nat)  (x119 : List UInt8) (x120 : Int) : Option (List UInt8 × Int × Bool) :=
  loopK (F40_l1 n x119) n (x120, ([] : List _))

set_option maxRecDepth 100000 in
theorem F40_ok (n : Nat)   : ∀ (x119 : List UInt8) (x120 : Int) (r : List UInt8 × Int × Bool), F40 n x119 x120 = some r → CallsF Tryd.prog 40 [PV.str x119, PV.int .i64 x120] (R_F40 r) := by
  intro x119 x120 r h
  unfold F40 at h
  refine CallsF.of_vcN mixed (fun _ _ => Tryd.call40 _ _) Tryd.func40 (by kernel_rfl) (inl := [1000000]) ?_
  conv => whnf
  refine LoopA.fn [1000000] (S := Int × List UInt8) (fun (x121, x122) => [(0, .p (.str x119)), (1, .p (.int .i64 x121)), (7, .tsl 0 (bRows x122))]) (fun (x121, x122) => [.tail 5 1 (bRows x122).length]) (B := F40_l1 n x119) h ⟨[0], [0], ⟨rfl, rfl, rfl, rfl⟩, by repeat (first | exact trivial | exact .inl rfl | exact .inr ⟨rfl, rfl⟩ | exact rfl | exact List.not_mem_nil | (refine ⟨?_, ?_⟩) | decide), by repeat (first | exact trivial | exact .inl rfl | exact .inr ⟨rfl, rfl⟩ | exact rfl | exact List.not_mem_nil | (refine ⟨?_, ?_⟩) | decide)⟩ ?_
  intro nx1 st h
  obtain ⟨x121, x122⟩ := st
  unfold F40_l1 at h
  conv => whnf
  refine ⟨fun hc => ?_, fun hc => ?_⟩
  · have h := cond_t h hc
    conv => whnf
    obtain ⟨x123, h6, h⟩ := bnd_some h
    refine ⟨_, idx_some h6, ?_⟩
    conv => whnf
    refine ⟨fun hc => ?_, fun hc => ?_⟩
    · have h := cond_t h hc
      conv => whnf
      obtain ⟨x124, h2, h⟩ := bnd_some h
      refine ⟨_, idx_some h2, ?_⟩
      conv => whnf
      rw [show ([[PV.int .u8 ((x124.toNat : Nat) : Int)]] : List (List PV)) = bRows [x124] from rfl]
      refine ⟨Codec.one byteC [x124], ?_⟩
      conv => whnf
      rw [show bRows x122 ++ bRows [x124] = bRows (x122 ++ [x124]) from Codec.append byteC x122 [x124]]
      conv => whnf
      obtain ⟨h1, h⟩ := chk_some h
      refine ⟨⟨Codec.wide byteC (x122 ++ [x124]), of_decide_eq_true h1, len_ok h1 (by decide)⟩, ?_⟩
      conv => whnf
      refine ⟨⟨rfl, rfl, rfl⟩, ?_⟩
      conv => whnf
      exact ⟨((IntKind.i64.wrap (x121 + (1 : Int))), (x122 ++ [x124])), h, ⟨[1], [], ⟨rfl, rfl, rfl, rfl⟩, by repeat (first | exact trivial | exact .inl rfl | exact .inr ⟨rfl, rfl⟩ | exact rfl | exact List.not_mem_nil | (refine ⟨?_, ?_⟩) | decide), by repeat (first | exact trivial | exact .inl rfl | exact .inr ⟨rfl, rfl⟩ | exact rfl | exact List.not_mem_nil | (refine ⟨?_, ?_⟩) | decide)⟩⟩
    · have h := cond_f h hc
      conv => whnf
      obtain ⟨x125, h5, h⟩ := bnd_some h
      refine ⟨_, idx_some h5, ?_⟩
      conv => whnf
      refine ⟨fun hc => ?_, fun hc => ?_⟩
      · have h := cond_t h hc
        conv => whnf
        refine ⟨_, rfl, ?_⟩
        obtain rfl := Option.some.inj h
        conv => whnf
        repeat (first | exact rfl | exact trivial | refine ⟨?_, ?_⟩)
      · have h := cond_f h hc
        conv => whnf
        obtain ⟨x126, h4, h⟩ := bnd_some h
        refine ⟨_, idx_some h4, ?_⟩
        conv => whnf
        refine ⟨fun hc => ?_, fun hc => ?_⟩
        · have h := cond_t h hc
          obtain rfl := Option.some.inj h
          conv => whnf
          repeat (first | exact rfl | exact trivial | refine ⟨?_, ?_⟩)
        · have h := cond_f h hc
          conv => whnf
          rw [show ([[PV.int .u8 (0 : Int)]] : List (List PV)) = bRows [(0 : UInt8)] from rfl]
          refine ⟨Codec.one byteC [(0 : UInt8)], ?_⟩
          conv => whnf
          rw [show bRows x122 ++ bRows [(0 : UInt8)] = bRows (x122 ++ [(0 : UInt8)]) from Codec.append byteC x122 [(0 : UInt8)]]
          conv => whnf
          obtain ⟨h3, h⟩ := chk_some h
          refine ⟨⟨Codec.wide byteC (x122 ++ [(0 : UInt8)]), of_decide_eq_true h3, len_ok h3 (by decide)⟩, ?_⟩
          conv => whnf
          refine ⟨⟨rfl, rfl, rfl⟩, ?_⟩
          conv => whnf
          exact ⟨((IntKind.i64.wrap (x121 + (2 : Int))), (x122 ++ [(0 : UInt8)])), h, ⟨[1], [], ⟨rfl, rfl, rfl, rfl⟩, by repeat (first | exact trivial | exact .inl rfl | exact .inr ⟨rfl, rfl⟩ | exact rfl | exact List.not_mem_nil | (refine ⟨?_, ?_⟩) | decide), by repeat (first | exact trivial | exact .inl rfl | exact .inr ⟨rfl, rfl⟩ | exact rfl | exact List.not_mem_nil | (refine ⟨?_, ?_⟩) | decide)⟩⟩
  · have h := cond_f h hc
    obtain rfl := Option.some.inj h
    conv => whnf
    repeat (first | exact rfl | exact trivial | refine ⟨?_, ?_⟩)

abbrev R_F20 (r : Val × Int × Bool) : PV := PV.tup [PV.agg (valC.cells r.1), PV.int .i64 r.2.1, PV.bool r.2.2]

def F20_k5 (n : Nat) (g20 : (List UInt8) → Int → Int → Option (Val × Int × Bool)) (x127 : List UInt8) (x129 : Int) (x131 : Int) (x133 : List Val) (nx1 : Int × List Val × List (List UInt8) → Option (Val × Int × Bool)) : Int × List (List UInt8) → Option (Val × Int × Bool) := fun (x136, x137) =>
 bnd (g20 x127 x136 (IntKind.i64.wrap (x129 - (1 : Int)))) fun ⟨⟨x138, x139, x140, x141, x142, x143⟩, x144, x145⟩ =>
 bif (!x145) then (
 some (Val.mk x131 false (0 : Int) ([] : List UInt8) x133 x137, (0 : Int), false))
else (
 chk (decide ((Val.rows (x133 ++ [Val.mk x138 x139 x140 x141 x142 x143])).length * 88 ≤ 140737488355328)) (
 nx1 (x144, (x133 ++ [Val.mk x138 x139 x140 x141 x142 x143]), x137)))

def F20_l1 (n : Nat) (x127 : List UInt8) (x130 : UInt8) (x131 : Int) (g20 : (List UInt8) → Int → Int → Option (Val × Int × Bool)) (x129 : Int) : (Int × List Val × List (List UInt8) → Option (Val × Int × Bool)) → Int × List Val × List (List UInt8) → Option (Val × Int × Bool) := fun nx1 (x132, x133, x134) =>
 bnd (gsome (decide (x132 < ((x127.length : Nat) : Int))) (idx x127 x132)) fun x135 =>
 bif (bif (decide (x132 < ((x127.length : Nat) : Int))) then (((x135.toNat : Nat) : Int) != (0 : Int)) else false) then (
 bif (((x130.toNat : Nat) : Int) == (1 : Int)) then (
 bnd (F40 n x127 (IntKind.i64.wrap (x132 + (1 : Int)))) fun ⟨x146, x147, x148⟩ =>
 bnd (idx x127 x132) fun x149 =>
 bif (bif (((x149.toNat : Nat) : Int) != (1 : Int)) then true else (!x148)) then (
 some (Val.mk x131 false (0 : Int) ([] : List UInt8) x133 x134, (0 : Int), false))
else (
 chk (decide ((strs (x134 ++ [x146])).length * 16 ≤ 140737488355328)) (
 F20_k5 n g20 x127 x129 x131 x133 nx1 (x147, (x134 ++ [x146])))))
else (
 F20_k5 n g20 x127 x129 x131 x133 nx1 (x132, x134)))
else (
 some (Val.mk x131 false (0 : Int) ([] : List UInt8) x133 x134, (IntKind.i64.wrap (x132 + (1 : Int))), (decide (x132 < ((x127.length : Nat) : Int)))))

def F20_k2 (n : Nat) (x127 : List UInt8) (x130 : UInt8) (g20 : (List UInt8) → Int → Int → Option (Val × Int × Bool)) (x129 : Int) (x128 : Int) : Int → Option (Val × Int × Bool) := fun x131 =>
 loopK (F20_l1 n x127 x130 x131 g20 x129) n ((IntKind.i64.wrap (x128 + (1 : Int))), ([] : List _), ([] : List _))

def F20_k6 (n : Nat) (x127 : List UInt8) (x128 : Int) (x130 : UInt8) (g20 : (List UInt8) → Int → Int → Option (Val × Int × Bool)) (x129 : Int) : Bool → Option (Val × Int × Bool) := fun x150 =>
 bif x150 then (
 bnd (F39 n x127 (IntKind.i64.wrap (x128 + (1 : Int)))) fun ⟨x151, x152⟩ =>
 bif (((x130.toNat : Nat) : Int) == (7 : Int)) then (
 some (Val.mk (2 : Int) false (IntKind.i64.wrap (IntKind.u64.wrap (x151 - (9223372036854775808 : Int)))) ([] : List UInt8) ([] : List Val) ([] : List (List UInt8)), (IntKind.i64.wrap ((IntKind.i64.wrap (x128 + (1 : Int))) + (8 : Int))), x152))
else (
 some (Val.mk (IntKind.i64.wrap ((IntKind.i64.wrap ((6 : Int) + (IntKind.i64.wrap ((x130.toNat : Nat) : Int)))) - (2 : Int))) false (IntKind.i64.wrap x151) ([] : List UInt8) ([] : List Val) ([] : List (List UInt8)), (IntKind.i64.wrap ((IntKind.i64.wrap (x128 + (1 : Int))) + (8 : Int))), x152)))
else (
 bif (((x130.toNat : Nat) : Int) == (5 : Int)) then (
 bnd (F40 n x127 (IntKind.i64.wrap (x128 + (1 : Int)))) fun ⟨x153, x154, x155⟩ =>
 some (Val.mk (3 : Int) false (0 : Int) x153 ([] : List Val) ([] : List (List UInt8)), x154, x155))
else (
 bif (((x130.toNat : Nat) : Int) == (6 : Int)) then (
 bnd (gsome (decide ((IntKind.i64.wrap (x128 + (1 : Int))) < ((x127.length : Nat) : Int))) (idx x127 (IntKind.i64.wrap (x128 + (1 : Int))))) fun x156 =>
 bnd (gsome (decide ((IntKind.i64.wrap (x128 + (1 : Int))) < ((x127.length : Nat) : Int))) (idx x127 (IntKind.i64.wrap (x128 + (1 : Int))))) fun x157 =>
 some (Val.mk (1 : Int) (bif (decide ((IntKind.i64.wrap (x128 + (1 : Int))) < ((x127.length : Nat) : Int))) then (((x156.toNat : Nat) : Int) == (1 : Int)) else false) (0 : Int) ([] : List UInt8) ([] : List Val) ([] : List (List UInt8)), (IntKind.i64.wrap ((IntKind.i64.wrap (x128 + (1 : Int))) + (1 : Int))), (bif (decide ((IntKind.i64.wrap (x128 + (1 : Int))) < ((x127.length : Nat) : Int))) then (decide (((x157.toNat : Nat) : Int) ≤ (1 : Int))) else false)))
else (
 bif (((x130.toNat : Nat) : Int) == (8 : Int)) then (
 some (Val.mk (0 : Int) false (0 : Int) ([] : List UInt8) ([] : List Val) ([] : List (List UInt8)), (IntKind.i64.wrap (x128 + (1 : Int))), true))
else (
 bif (((x130.toNat : Nat) : Int) == (1 : Int)) then (
 F20_k2 n x127 x130 g20 x129 x128 (5 : Int))
else (
 bif (((x130.toNat : Nat) : Int) == (4 : Int)) then (
 F20_k2 n x127 x130 g20 x129 x128 (4 : Int))
else (
 some (Val.mk (0 : Int) false (0 : Int) ([] : List UInt8) ([] : List Val) ([] : List (List UInt8)), (0 : Int), false)))))))

def BF20 (n : Nat) (g20 : (List UInt8) → Int → Int → Option (Val × Int × Bool)) (x127 : List UInt8) (x128 : Int) (x129 : Int) : Option (Val × Int × Bool) :=
  bif (bif (decide (x128 ≥ ((x127.length : Nat) : Int))) then true else (decide (x129 < (1 : Int)))) then (
  some (Val.mk (0 : Int) false (0 : Int) ([] : List UInt8) ([] : List Val) ([] : List (List UInt8)), (0 : Int), false))
  else (
  bnd (idx x127 x128) fun x130 =>
  bif (((x130.toNat : Nat) : Int) == (2 : Int)) then (
  F20_k6 n x127 x128 x130 g20 x129 (((x130.toNat : Nat) : Int) == (2 : Int)))
  else (
  bif (((x130.toNat : Nat) : Int) == (3 : Int)) then (
  F20_k6 n x127 x128 x130 g20 x129 (((x130.toNat : Nat) : Int) == (3 : Int)))
  else (
  F20_k6 n x127 x128 x130 g20 x129 (((x130.toNat : Nat) : Int) == (7 : Int)))))

set_option maxRecDepth 100000 in
theorem BF20_ok (n : Nat) (g20 : (List UInt8) → Int → Int → Option (Val × Int × Bool)) (g20_ok : ∀ (x127 : List UInt8) (x128 : Int) (x129 : Int) (r : Val × Int × Bool), g20 x127 x128 x129 = some r → CallsF Tryd.prog 20 [PV.str x127, PV.int .i64 x128, PV.int .i64 x129] (R_F20 r)) : ∀ (x127 : List UInt8) (x128 : Int) (x129 : Int) (r : Val × Int × Bool), BF20 n g20 x127 x128 x129 = some r → CallsF Tryd.prog 20 [PV.str x127, PV.int .i64 x128, PV.int .i64 x129] (R_F20 r) := by
  intro x127 x128 x129 r h
  unfold BF20 at h
  refine CallsF.of_vcN mixed (fun _ _ => Tryd.call20 _ _) Tryd.func20 (by kernel_rfl) (inl := [1000000]) ?_
  conv => whnf
  iterate 2 (refine And.intro (fun h => h) ?_)
  conv => whnf
  refine ⟨fun hc => ?_, fun hc => ?_⟩
  · have h := cond_t h hc
    obtain rfl := Option.some.inj h
    conv => whnf
    repeat (first | exact rfl | exact trivial | refine ⟨?_, ?_⟩)
  · have h := cond_f h hc
    conv => whnf
    obtain ⟨x130, h11, h⟩ := bnd_some h
    refine ⟨_, idx_some h11, ?_⟩
    conv => whnf
    refine SeqA.cut (S := Int) (fun x131 => [(0, .p (.str x127)), (1, .p (.int .i64 (IntKind.i64.wrap (x128 + (1 : Int))))), (2, .p (.int .i64 x129)), (6, .ptr 0 0), (9, .ptr 1 0), (10, .p (.int .u8 ((x130.toNat : Nat) : Int)))]) (fun x131 => [.box 25 [.p (.int .i64 (0 : Int)), .p (.bool false), .p (.int .i64 (0 : Int)), .p (.str ([] : List UInt8)), .p (.nilsl), .p (.nilsl)], .box 25 [.p (.int .i64 x131), .p (.bool false), .p (.int .i64 (0 : Int)), .p (.str ([] : List UInt8)), .p (.nilsl), .p (.nilsl)]]) (F20_k2 n x127 x130 g20 x129 x128) (r := r) ?_ ?_
    · intro x131 h
      unfold F20_k2 at h
      conv => whnf
      refine LoopA.fn [1000000] (S := Int × List Val × List (List UInt8)) (fun (x132, x133, x134) => [(0, .p (.str x127)), (1, .p (.int .i64 x132)), (2, .p (.int .i64 x129)), (6, .ptr 0 0), (9, .ptr 1 0), (10, .p (.int .u8 ((x130.toNat : Nat) : Int)))]) (fun (x132, x133, x134) => [.box 25 [.p (.int .i64 (0 : Int)), .p (.bool false), .p (.int .i64 (0 : Int)), .p (.str ([] : List UInt8)), .p (.nilsl), .p (.nilsl)], .box 25 [.p (.int .i64 x131), .p (.bool false), .p (.int .i64 (0 : Int)), .p (.str ([] : List UInt8)), .tsl 2 (Val.rows x133), .tsl 3 (strs x134)], .tail 25 6 (Val.rows x133).length, .tail 9 1 (strs x134).length]) (B := F20_l1 n x127 x130 x131 g20 x129) h ⟨[0, 1, 0, 0], [2, 3], ⟨rfl, rfl, rfl, rfl⟩, by repeat (first | exact trivial | exact .inl rfl | exact .inr ⟨rfl, rfl⟩ | exact rfl | exact List.not_mem_nil | (refine ⟨?_, ?_⟩) | decide), by repeat (first | exact trivial | exact .inl rfl | exact .inr ⟨rfl, rfl⟩ | exact rfl | exact List.not_mem_nil | (refine ⟨?_, ?_⟩) | decide)⟩ ?_
      intro nx1 st h
      obtain ⟨x132, x133, x134⟩ := st
      unfold F20_l1 at h
      conv => whnf
      iterate 2 (refine And.intro (fun h => h) ?_)
      conv => whnf
      obtain ⟨x135, h6, h⟩ := bnd_some h
      refine ⟨_, fun hg => idx_some (gsome_some h6 hg), ?_⟩
      conv => whnf
      iterate 2 (refine And.intro (fun h => h) ?_)
      conv => whnf
      refine ⟨fun hc => ?_, fun hc => ?_⟩
      · have h := cond_t h hc
        conv => whnf
        refine SeqA.cut (S := Int × List (List UInt8)) (fun (x136, x137) => [(0, .p (.str x127)), (1, .p (.int .i64 x136)), (2, .p (.int .i64 x129)), (6, .ptr 0 0), (9, .ptr 1 0), (10, .p (.int .u8 ((x130.toNat : Nat) : Int)))]) (fun (x136, x137) => [.box 25 [.p (.int .i64 (0 : Int)), .p (.bool false), .p (.int .i64 (0 : Int)), .p (.str ([] : List UInt8)), .p (.nilsl), .p (.nilsl)], .box 25 [.p (.int .i64 x131), .p (.bool false), .p (.int .i64 (0 : Int)), .p (.str ([] : List UInt8)), .tsl 2 (Val.rows x133), .tsl 3 (strs x137)], .tail 25 6 (Val.rows x133).length, .tail 9 1 (strs x137).length]) (F20_k5 n g20 x127 x129 x131 x133 nx1) (r := r) ?_ ?_
        · intro st h
          obtain ⟨x136, x137⟩ := st
          unfold F20_k5 at h
          conv => whnf
          obtain ⟨⟨⟨x138, x139, x140, x141, x142, x143⟩, x144, x145⟩, h2, h⟩ := bnd_some h
          refine ⟨_, (g20_ok _ _ _  _ h2), ?_⟩
          conv => whnf
          refine ⟨fun hc => ?_, fun hc => ?_⟩
          · have h := cond_t h hc
            obtain rfl := Option.some.inj h
            conv => whnf
            repeat (first | exact rfl | exact trivial | refine ⟨?_, ?_⟩)
          · have h := cond_f h hc
            conv => whnf
            rw [show ([[PV.int .i64 x138, PV.bool x139, PV.int .i64 x140, PV.str x141, PV.sl (Val.rows x142), PV.sl (strs x143)]] : List (List PV)) = Val.rows [Val.mk x138 x139 x140 x141 x142 x143] from rfl]
            refine ⟨Codec.one valC [Val.mk x138 x139 x140 x141 x142 x143], ?_⟩
            conv => whnf
            rw [show Val.rows x133 ++ Val.rows [Val.mk x138 x139 x140 x141 x142 x143] = Val.rows (x133 ++ [Val.mk x138 x139 x140 x141 x142 x143]) from Codec.append valC x133 [Val.mk x138 x139 x140 x141 x142 x143]]
            conv => whnf
            obtain ⟨h1, h⟩ := chk_some h
            refine ⟨⟨Codec.wide valC (x133 ++ [Val.mk x138 x139 x140 x141 x142 x143]), of_decide_eq_true h1, len_ok h1 (by decide)⟩, ?_⟩
            conv => whnf
            refine ⟨⟨rfl, rfl, rfl⟩, ?_⟩
            conv => whnf
            exact ⟨(x144, (x133 ++ [Val.mk x138 x139 x140 x141 x142 x143]), x137), h, ⟨[0, 1, 5, 3], [], ⟨rfl, rfl, rfl, rfl⟩, by repeat (first | exact trivial | exact .inl rfl | exact .inr ⟨rfl, rfl⟩ | exact rfl | exact List.not_mem_nil | (refine ⟨?_, ?_⟩) | decide), by repeat (first | exact trivial | exact .inl rfl | exact .inr ⟨rfl, rfl⟩ | exact rfl | exact List.not_mem_nil | (refine ⟨?_, ?_⟩) | decide)⟩⟩
        · conv => whnf
          refine ⟨fun hc => ?_, fun hc => ?_⟩
          · have h := cond_t h hc
            conv => whnf
            obtain ⟨⟨x146, x147, x148⟩, h5, h⟩ := bnd_some h
            refine ⟨_, (F40_ok n _ _  _ h5), ?_⟩
            conv => whnf
            obtain ⟨x149, h4, h⟩ := bnd_some h
            refine ⟨_, idx_some h4, ?_⟩
            conv => whnf
            iterate 2 (refine And.intro (fun h => h) ?_)
            conv => whnf
            refine ⟨fun hc => ?_, fun hc => ?_⟩
            · have h := cond_t h hc
              obtain rfl := Option.some.inj h
              conv => whnf
              repeat (first | exact rfl | exact trivial | refine ⟨?_, ?_⟩)
            · have h := cond_f h hc
              conv => whnf
              rw [show ([[PV.str x146]] : List (List PV)) = strs [x146] from rfl]
              refine ⟨Codec.one strC [x146], ?_⟩
              conv => whnf
              rw [show strs x134 ++ strs [x146] = strs (x134 ++ [x146]) from Codec.append strC x134 [x146]]
              conv => whnf
              obtain ⟨h3, h⟩ := chk_some h
              refine ⟨⟨Codec.wide strC (x134 ++ [x146]), of_decide_eq_true h3, len_ok h3 (by decide)⟩, ?_⟩
              conv => whnf
              refine ⟨⟨rfl, rfl, rfl⟩, ?_⟩
              conv => whnf
              exact ⟨(x147, (x134 ++ [x146])), h, ⟨[0, 1, 2, 4], [], ⟨rfl, rfl, rfl, rfl⟩, by repeat (first | exact trivial | exact .inl rfl | exact .inr ⟨rfl, rfl⟩ | exact rfl | exact List.not_mem_nil | (refine ⟨?_, ?_⟩) | decide), by repeat (first | exact trivial | exact .inl rfl | exact .inr ⟨rfl, rfl⟩ | exact rfl | exact List.not_mem_nil | (refine ⟨?_, ?_⟩) | decide)⟩⟩
          · have h := cond_f h hc
            conv => whnf
            exact ⟨(x132, x134), h, ⟨[0, 1, 2, 3], [], ⟨rfl, rfl, rfl, rfl⟩, by repeat (first | exact trivial | exact .inl rfl | exact .inr ⟨rfl, rfl⟩ | exact rfl | exact List.not_mem_nil | (refine ⟨?_, ?_⟩) | decide), by repeat (first | exact trivial | exact .inl rfl | exact .inr ⟨rfl, rfl⟩ | exact rfl | exact List.not_mem_nil | (refine ⟨?_, ?_⟩) | decide)⟩⟩
      · have h := cond_f h hc
        obtain rfl := Option.some.inj h
        conv => whnf
        repeat (first | exact rfl | exact trivial | refine ⟨?_, ?_⟩)
    · conv => whnf
      refine SeqA.cut (S := Bool) (fun x150 => [(0, .p (.str x127)), (1, .p (.int .i64 (IntKind.i64.wrap (x128 + (1 : Int))))), (2, .p (.int .i64 x129)), (6, .ptr 0 0), (9, .ptr 1 0), (10, .p (.int .u8 ((x130.toNat : Nat) : Int))), (37, .p (.int .u8 ((x130.toNat : Nat) : Int))), (39, .p (.bool x150))]) (fun x150 => [.box 25 [.p (.int .i64 (0 : Int)), .p (.bool false), .p (.int .i64 (0 : Int)), .p (.str ([] : List UInt8)), .p (.nilsl), .p (.nilsl)], .box 25 [.p (.int .i64 (0 : Int)), .p (.bool false), .p (.int .i64 (0 : Int)), .p (.str ([] : List UInt8)), .p (.nilsl), .p (.nilsl)]]) (F20_k6 n x127 x128 x130 g20 x129) (r := r) ?_ ?_
      · intro x150 h
        unfold F20_k6 at h
        conv => whnf
        refine ⟨fun hc => ?_, fun hc => ?_⟩
        · have h := cond_t h hc
          conv => whnf
          obtain ⟨⟨x151, x152⟩, h7, h⟩ := bnd_some h
          refine ⟨_, (F39_ok n _ _  _ h7), ?_⟩
          conv => whnf
          refine ⟨fun hc => ?_, fun hc => ?_⟩
          · have h := cond_t h hc
            obtain rfl := Option.some.inj h
            conv => whnf
            repeat (first | exact rfl | exact trivial | refine ⟨?_, ?_⟩)
          · have h := cond_f h hc
            obtain rfl := Option.some.inj h
            conv => whnf
            repeat (first | exact rfl | exact trivial | refine ⟨?_, ?_⟩)
        · have h := cond_f h hc
          conv => whnf
          refine ⟨fun hc => ?_, fun hc => ?_⟩
          · have h := cond_t h hc
            conv => whnf
            obtain ⟨⟨x153, x154, x155⟩, h8, h⟩ := bnd_some h
            refine ⟨_, (F40_ok n _ _  _ h8), ?_⟩
            obtain rfl := Option.some.inj h
            conv => whnf
            repeat (first | exact rfl | exact trivial | refine ⟨?_, ?_⟩)
          · have h := cond_f h hc
            conv => whnf
            refine ⟨fun hc => ?_, fun hc => ?_⟩
            · have h := cond_t h hc
              conv => whnf
              iterate 2 (refine And.intro (fun h => h) ?_)
              conv => whnf
              obtain ⟨x156, h10, h⟩ := bnd_some h
              refine ⟨_, fun hg => idx_some (gsome_some h10 hg), ?_⟩
              conv => whnf
              iterate 4 (refine And.intro (fun h => h) ?_)
              conv => whnf
              obtain ⟨x157, h9, h⟩ := bnd_some h
              refine ⟨_, fun hg => idx_some (gsome_some h9 hg), ?_⟩
              conv => whnf
              iterate 2 (refine And.intro (fun h => h) ?_)
              obtain rfl := Option.some.inj h
              conv => whnf
              repeat (first | exact rfl | exact trivial | refine ⟨?_, ?_⟩)
            · have h := cond_f h hc
              conv => whnf
              refine ⟨fun hc => ?_, fun hc => ?_⟩
              · have h := cond_t h hc
                obtain rfl := Option.some.inj h
                conv => whnf
                repeat (first | exact rfl | exact trivial | refine ⟨?_, ?_⟩)
              · have h := cond_f h hc
                conv => whnf
                refine ⟨fun hc => ?_, fun hc => ?_⟩
                · have h := cond_t h hc
                  conv => whnf
                  exact ⟨(5 : Int), h, ⟨[0, 1], [], ⟨rfl, rfl, rfl, rfl⟩, by repeat (first | exact trivial | exact .inl rfl | exact .inr ⟨rfl, rfl⟩ | exact rfl | exact List.not_mem_nil | (refine ⟨?_, ?_⟩) | decide), by repeat (first | exact trivial | exact .inl rfl | exact .inr ⟨rfl, rfl⟩ | exact rfl | exact List.not_mem_nil | (refine ⟨?_, ?_⟩) | decide)⟩⟩
                · have h := cond_f h hc
                  conv => whnf
                  refine ⟨fun hc => ?_, fun hc => ?_⟩
                  · have h := cond_t h hc
                    conv => whnf
                    exact ⟨(4 : Int), h, ⟨[0, 1], [], ⟨rfl, rfl, rfl, rfl⟩, by repeat (first | exact trivial | exact .inl rfl | exact .inr ⟨rfl, rfl⟩ | exact rfl | exact List.not_mem_nil | (refine ⟨?_, ?_⟩) | decide), by repeat (first | exact trivial | exact .inl rfl | exact .inr ⟨rfl, rfl⟩ | exact rfl | exact List.not_mem_nil | (refine ⟨?_, ?_⟩) | decide)⟩⟩
                  · have h := cond_f h hc
                    obtain rfl := Option.some.inj h
                    conv => whnf
                    repeat (first | exact rfl | exact trivial | refine ⟨?_, ?_⟩)
      · conv => whnf
        refine ⟨fun hc => ?_, fun hc => ?_⟩
        · have h := cond_t h hc
          conv => whnf
          exact ⟨(((x130.toNat : Nat) : Int) == (2 : Int)), h, ⟨[0, 1], [], ⟨rfl, rfl, rfl, rfl⟩, by repeat (first | exact trivial | exact .inl rfl | exact .inr ⟨rfl, rfl⟩ | exact rfl | exact List.not_mem_nil | (refine ⟨?_, ?_⟩) | decide), by repeat (first | exact trivial | exact .inl rfl | exact .inr ⟨rfl, rfl⟩ | exact rfl | exact List.not_mem_nil | (refine ⟨?_, ?_⟩) | decide)⟩⟩
        · have h := cond_f h hc
          conv => whnf
          refine ⟨fun hc => ?_, fun hc => ?_⟩
          · have h := cond_t h hc
            conv => whnf
            exact ⟨(((x130.toNat : Nat) : Int) == (3 : Int)), h, ⟨[0, 1], [], ⟨rfl, rfl, rfl, rfl⟩, by repeat (first | exact trivial | exact .inl rfl | exact .inr ⟨rfl, rfl⟩ | exact rfl | exact List.not_mem_nil | (refine ⟨?_, ?_⟩) | decide), by repeat (first | exact trivial | exact .inl rfl | exact .inr ⟨rfl, rfl⟩ | exact rfl | exact List.not_mem_nil | (refine ⟨?_, ?_⟩) | decide)⟩⟩
          · have h := cond_f h hc
            conv => whnf
            exact ⟨(((x130.toNat : Nat) : Int) == (7 : Int)), h, ⟨[0, 1], [], ⟨rfl, rfl, rfl, rfl⟩, by repeat (first | exact trivial | exact .inl rfl | exact .inr ⟨rfl, rfl⟩ | exact rfl | exact List.not_mem_nil | (refine ⟨?_, ?_⟩) | decide), by repeat (first | exact trivial | exact .inl rfl | exact .inr ⟨rfl, rfl⟩ | exact rfl | exact List.not_mem_nil | (refine ⟨?_, ?_⟩) | decide)⟩⟩

def F20 : Nat → (List UInt8) → Int → Int → Option (Val × Int × Bool)
  | 0 => fun _ _ _ => none
  | n + 1 => BF20 n (F20 n)

theorem F20_all (n : Nat) : (∀ (x127 : List UInt8) (x128 : Int) (x129 : Int) (r : Val × Int × Bool), F20 n x127 x128 x129 = some r → CallsF Tryd.prog 20 [PV.str x127, PV.int .i64 x128, PV.int .i64 x129] (R_F20 r)) := by
  induction n with
  | zero => exact (by intros; rename_i h; cases h)
  | succ n ih =>
    have h20 := ih
    exact BF20_ok n (F20 n) h20

theorem F20_ok (n : Nat) : ∀ (x127 : List UInt8) (x128 : Int) (x129 : Int) (r : Val × Int × Bool), F20 n x127 x128 x129 = some r → CallsF Tryd.prog 20 [PV.str x127, PV.int .i64 x128, PV.int .i64 x129] (R_F20 r) := (F20_all n)

abbrev R_F37 (r : List UInt8 × List UInt8 × Bool) : PV := PV.tup [PV.str r.1, PV.str r.2.1, PV.bool r.2.2]

def F37_l1 (n : Nat)  : (List UInt8 × List UInt8 → Option (List UInt8 × List UInt8 × Bool)) → List UInt8 × List UInt8 → Option (List UInt8 × List UInt8 × Bool) := fun nx1 (x159, x160) =>
 bnd (F52 n x159 (0 : Int)) fun x161 =>
 bnd (gsome (!(bif (decide (x161 < (0 : Int))) then true else (decide ((IntKind.i64.wrap (x161 + (1 : Int))) ≥ ((x159.length : Nat) : Int))))) (idx x159 (IntKind.i64.wrap (x161 + (1 : Int))))) fun x162 =>
 bnd (gsome ((!(bif (decide (x161 < (0 : Int))) then true else (decide ((IntKind.i64.wrap (x161 + (1 : Int))) ≥ ((x159.length : Nat) : Int))))) && (((x162.toNat : Nat) : Int) != (0 : Int))) (idx x159 (IntKind.i64.wrap (x161 + (1 : Int))))) fun x163 =>
 bif (bif (bif (decide (x161 < (0 : Int))) then true else (decide ((IntKind.i64.wrap (x161 + (1 : Int))) ≥ ((x159.length : Nat) : Int)))) then true else (bif (((x162.toNat : Nat) : Int) != (0 : Int)) then (((x163.toNat : Nat) : Int) != (255 : Int)) else false)) then (
 some (([] : List UInt8), ([] : List UInt8), false))
else (
 bnd (natI x161) fun x164 =>
 chk (decide (x164 ≤ x159.length)) (
 chk (decide ((bRows (x160 ++ (x159.take x164))).length * 1 ≤ 140737488355328)) (
 bnd (idx x159 (IntKind.i64.wrap (x161 + (1 : Int)))) fun x165 =>
 bif (((x165.toNat : Nat) : Int) == (0 : Int)) then (
 bnd (natI (IntKind.i64.wrap (x161 + (2 : Int)))) fun x166 =>
 chk (decide (x166 ≤ x159.length)) (
 some ((x160 ++ (x159.take x164)), (x159.drop x166), true)))
else (
 chk (decide ((bRows ((x160 ++ (x159.take x164)) ++ [(0 : UInt8)])).length * 1 ≤ 140737488355328)) (
 bnd (natI (IntKind.i64.wrap (x161 + (2 : Int)))) fun x167 =>
 chk (decide (x167 ≤ x159.length)) (
 nx1 ((x159.drop x167), ((x160 ++ (x159.take x164)) ++ [(0 : UInt8)]))))))))

def F37 (n : Nat)  (x158 : List UInt8) : Option (List UInt8 × List UInt8 × Bool) :=
  loopK (F37_l1 n) n (x158, ([] : List _))

set_option maxRecDepth 100000 in
theorem F37_ok (n : Nat)   : ∀ (x158 : List UInt8) (r : List UInt8 × List UInt8 × Bool), F37 n x158 = some r → CallsF Tryd.prog 37 [PV.str x158] (R_F37 r) := by
  intro x158 r h
  unfold F37 at h
  refine CallsF.of_vcN mixed (fun _ _ => Tryd.call37 _ _) Tryd.func37 (by kernel_rfl) (inl := [47, 49, 50, 54, 60, 1000000]) ?_
  conv => whnf
  refine LoopA.fn [47, 49, 50, 54, 60, 1000000] (S := List UInt8 × List UInt8) (fun (x159, x160) => [(0, .p (.str x159)), (5, .ptr 0 0)]) (fun (x159, x160) => [.box 76 [.bself 0, .tsl 1 (bRows x160)], .tail 5 1 (bRows x160).length]) (B := F37_l1 n) h ⟨[0, 0], [1], ⟨rfl, rfl, rfl, rfl⟩, by repeat (first | exact trivial | exact .inl rfl | exact .inr ⟨rfl, rfl⟩ | exact rfl | exact List.not_mem_nil | (refine ⟨?_, ?_⟩) | decide), by repeat (first | exact trivial | exact .inl rfl | exact .inr ⟨rfl, rfl⟩ | exact rfl | exact List.not_mem_nil | (refine ⟨?_, ?_⟩) | decide)⟩ ?_
  intro nx1 st h
  obtain ⟨x159, x160⟩ := st
  unfold F37_l1 at h
  conv => whnf
  obtain ⟨x161, h12, h⟩ := bnd_some h
  refine ⟨_, (F52_ok n _ _  _ h12), ?_⟩
  conv => whnf
  iterate 8 (refine And.intro (fun h => h) ?_)
  conv => whnf
  obtain ⟨x162, h11, h⟩ := bnd_some h
  refine ⟨_, fun hg => idx_some (gsome_some h11 hg), ?_⟩
  conv => whnf
  iterate 5 (refine And.intro (fun h => h) ?_)
  conv => whnf
  obtain ⟨x163, h10, h⟩ := bnd_some h
  refine ⟨_, fun hg => idx_some (gsome_some h10 hg), ?_⟩
  conv => whnf
  iterate 4 (refine And.intro (fun h => h) ?_)
  conv => whnf
  refine ⟨fun hc => ?_, fun hc => ?_⟩
  · have h := cond_t h hc
    obtain rfl := Option.some.inj h
    conv => whnf
    repeat (first | exact rfl | exact trivial | refine ⟨?_, ?_⟩)
  · have h := cond_f h hc
    conv => whnf
    obtain ⟨x164, h9, h⟩ := bnd_some h
    refine ⟨_, natI_some h9, ?_⟩
    conv => whnf
    obtain ⟨h8, h⟩ := chk_some h
    refine ⟨⟨Nat.zero_le _, (of_decide_eq_true h8 : (x164 ≤ x159.length))⟩, ?_⟩
    rw [show List.drop 0 (List.take x164 x159) = (x159.take x164) from rfl]
    conv => whnf
    refine CallsI.of_vc mixed (fun _ _ => Tryd.call49 _ _) Tryd.func49 (by kernel_rfl) (inl := [47, 49, 50, 54, 60, 1000000]) ?_
    conv => whnf
    refine CallsI.of_vc mixed (fun _ _ => Tryd.call54 _ _) Tryd.func54 (by kernel_rfl) (inl := [47, 49, 50, 54, 60, 1000000]) ?_
    conv => whnf
    refine ⟨?_, ?_⟩
    · conv => whnf
      refine ⟨fun _ => ?_, fun hf => absurd hf (by first | decide | simp)⟩
      conv => whnf
      refine ⟨⟨by decide, by first | decide | exact Nat.zero_lt_succ _⟩, ?_⟩
      conv => whnf
      refine CallsI.noEscape Tryd.func60 (by kernel_rfl) (by kernel_rfl) (by kernel_rfl) (by kernel_rfl) ?_
      conv => whnf
      refine ⟨by kernel_rfl, ?_⟩
      conv => whnf
      rw [show bRows x160 ++ bRows (x159.take x164) = bRows (x160 ++ (x159.take x164)) from Codec.append byteC x160 (x159.take x164)]
      conv => whnf
      obtain ⟨h7, h⟩ := chk_some h
      refine ⟨⟨Codec.wide byteC x160, of_decide_eq_true h7, len_ok h7 (by decide)⟩, ?_⟩
      conv => whnf
      refine ⟨⟨rfl, rfl, rfl⟩, ?_⟩
      conv => whnf
      obtain ⟨x165, h6, h⟩ := bnd_some h
      refine ⟨_, idx_some h6, ?_⟩
      conv => whnf
      refine ⟨fun hc => ?_, fun hc => ?_⟩
      · have h := cond_t h hc
        conv => whnf
        refine ⟨_, _, CallsI.string_any (T := 76) (E := 5) enters50 string_exact50 string_empty50 (k := 0) (j := 2) (bs := (x160 ++ (x159.take x164))) (n := (bRows (x160 ++ (x159.take x164))).length) rfl rfl ⟨rfl, rfl⟩, ?_⟩
        conv => whnf
        obtain ⟨x166, h2, h⟩ := bnd_some h
        refine ⟨_, natI_some h2, ?_⟩
        conv => whnf
        obtain ⟨h1, h⟩ := chk_some h
        refine ⟨⟨(of_decide_eq_true h1 : (x166 ≤ x159.length)), Nat.le_refl _⟩, ?_⟩
        rw [show List.drop x166 (List.take x159.length x159) = (x159.drop x166) from by rw [List.take_length]]
        obtain rfl := Option.some.inj h
        conv => whnf
        repeat (first | exact rfl | exact trivial | refine ⟨?_, ?_⟩)
      · have h := cond_f h hc
        conv => whnf
        refine CallsI.of_vc mixed (fun _ _ => Tryd.call47 _ _) Tryd.func47 (by kernel_rfl) (inl := [47, 49, 50, 54, 60, 1000000]) ?_
        conv => whnf
        refine CallsI.of_vc mixed (fun _ _ => Tryd.call54 _ _) Tryd.func54 (by kernel_rfl) (inl := [47, 49, 50, 54, 60, 1000000]) ?_
        conv => whnf
        refine ⟨fun hf => absurd hf (by first | decide | simp), fun _ => ?_⟩
        conv => whnf
        refine ⟨fun hf => absurd hf (by first | decide | simp), fun _ => ?_⟩
        conv => whnf
        rw [show ([[PV.int .u8 (0 : Int)]] : List (List PV)) = bRows [(0 : UInt8)] from rfl]
        refine ⟨Codec.one byteC [(0 : UInt8)], ?_⟩
        conv => whnf
        rw [show bRows (x160 ++ (x159.take x164)) ++ bRows [(0 : UInt8)] = bRows ((x160 ++ (x159.take x164)) ++ [(0 : UInt8)]) from Codec.append byteC (x160 ++ (x159.take x164)) [(0 : UInt8)]]
        conv => whnf
        obtain ⟨h5, h⟩ := chk_some h
        refine ⟨⟨Codec.wide byteC ((x160 ++ (x159.take x164)) ++ [(0 : UInt8)]), of_decide_eq_true h5, len_ok h5 (by decide)⟩, ?_⟩
        conv => whnf
        refine ⟨⟨rfl, rfl, rfl⟩, ?_⟩
        conv => whnf
        obtain ⟨x167, h4, h⟩ := bnd_some h
        refine ⟨_, natI_some h4, ?_⟩
        conv => whnf
        obtain ⟨h3, h⟩ := chk_some h
        refine ⟨⟨(of_decide_eq_true h3 : (x167 ≤ x159.length)), Nat.le_refl _⟩, ?_⟩
        rw [show List.drop x167 (List.take x159.length x159) = (x159.drop x167) from by rw [List.take_length]]
        conv => whnf
        exact ⟨((x159.drop x167), ((x160 ++ (x159.take x164)) ++ [(0 : UInt8)])), h, ⟨[0, 3], [], ⟨rfl, rfl, rfl, rfl⟩, by repeat (first | exact trivial | exact .inl rfl | exact .inr ⟨rfl, rfl⟩ | exact rfl | exact List.not_mem_nil | (refine ⟨?_, ?_⟩) | decide), by repeat (first | exact trivial | exact .inl rfl | exact .inr ⟨rfl, rfl⟩ | exact rfl | exact List.not_mem_nil | (refine ⟨?_, ?_⟩) | decide)⟩⟩
    · conv => whnf
      refine ⟨fun hf => absurd hf (by first | decide | simp), fun _ => ?_⟩
      conv => whnf
      refine ⟨fun hf => absurd hf (by first | decide | simp), fun _ => ?_⟩
      conv => whnf
      rw [show bRows x160 ++ bRows (x159.take x164) = bRows (x160 ++ (x159.take x164)) from Codec.append byteC x160 (x159.take x164)]
      conv => whnf
      obtain ⟨h7, h⟩ := chk_some h
      refine ⟨⟨Codec.wide byteC x160, of_decide_eq_true h7, len_ok h7 (by decide)⟩, ?_⟩
      conv => whnf
      refine ⟨⟨rfl, rfl, rfl⟩, ?_⟩
      conv => whnf
      obtain ⟨x165, h6, h⟩ := bnd_some h
      refine ⟨_, idx_some h6, ?_⟩
      conv => whnf
      refine ⟨fun hc => ?_, fun hc => ?_⟩
      · have h := cond_t h hc
        conv => whnf
        refine ⟨_, _, CallsI.string_any (T := 76) (E := 5) enters50 string_exact50 string_empty50 (k := 0) (j := 2) (bs := (x160 ++ (x159.take x164))) (n := (bRows (x160 ++ (x159.take x164))).length) rfl rfl ⟨rfl, rfl⟩, ?_⟩
        conv => whnf
        obtain ⟨x166, h2, h⟩ := bnd_some h
        refine ⟨_, natI_some h2, ?_⟩
        conv => whnf
        obtain ⟨h1, h⟩ := chk_some h
        refine ⟨⟨(of_decide_eq_true h1 : (x166 ≤ x159.length)), Nat.le_refl _⟩, ?_⟩
        rw [show List.drop x166 (List.take x159.length x159) = (x159.drop x166) from by rw [List.take_length]]
        obtain rfl := Option.some.inj h
        conv => whnf
        repeat (first | exact rfl | exact trivial | refine ⟨?_, ?_⟩)
      · have h := cond_f h hc
        conv => whnf
        refine CallsI.of_vc mixed (fun _ _ => Tryd.call47 _ _) Tryd.func47 (by kernel_rfl) (inl := [47, 49, 50, 54, 60, 1000000]) ?_
        conv => whnf
        refine CallsI.of_vc mixed (fun _ _ => Tryd.call54 _ _) Tryd.func54 (by kernel_rfl) (inl := [47, 49, 50, 54, 60, 1000000]) ?_
        conv => whnf
        refine ⟨fun hf => absurd hf (by first | decide | simp), fun _ => ?_⟩
        conv => whnf
        refine ⟨fun hf => absurd hf (by first | decide | simp), fun _ => ?_⟩
        conv => whnf
        rw [show ([[PV.int .u8 (0 : Int)]] : List (List PV)) = bRows [(0 : UInt8)] from rfl]
        refine ⟨Codec.one byteC [(0 : UInt8)], ?_⟩
        conv => whnf
        rw [show bRows (x160 ++ (x159.take x164)) ++ bRows [(0 : UInt8)] = bRows ((x160 ++ (x159.take x164)) ++ [(0 : UInt8)]) from Codec.append byteC (x160 ++ (x159.take x164)) [(0 : UInt8)]]
        conv => whnf
        obtain ⟨h5, h⟩ := chk_some h
        refine ⟨⟨Codec.wide byteC ((x160 ++ (x159.take x164)) ++ [(0 : UInt8)]), of_decide_eq_true h5, len_ok h5 (by decide)⟩, ?_⟩
        conv => whnf
        refine ⟨⟨rfl, rfl, rfl⟩, ?_⟩
        conv => whnf
        obtain ⟨x167, h4, h⟩ := bnd_some h
        refine ⟨_, natI_some h4, ?_⟩
        conv => whnf
        obtain ⟨h3, h⟩ := chk_some h
        refine ⟨⟨(of_decide_eq_true h3 : (x167 ≤ x159.length)), Nat.le_refl _⟩, ?_⟩
        rw [show List.drop x167 (List.take x159.length x159) = (x159.drop x167) from by rw [List.take_length]]
        conv => whnf
        exact ⟨((x159.drop x167), ((x160 ++ (x159.take x164)) ++ [(0 : UInt8)])), h, ⟨[0, 3], [], ⟨rfl, rfl, rfl, rfl⟩, by repeat (first | exact trivial | exact .inl rfl | exact .inr ⟨rfl, rfl⟩ | exact rfl | exact List.not_mem_nil | (refine ⟨?_, ?_⟩) | decide), by repeat (first | exact trivial | exact .inl rfl | exact .inr ⟨rfl, rfl⟩ | exact rfl | exact List.not_mem_nil | (refine ⟨?_, ?_⟩) | decide)⟩⟩

abbrev R_F19 (r : Val × List UInt8 × Bool) : PV := PV.tup [PV.agg (valC.cells r.1), PV.str r.2.1, PV.bool r.2.2]

def F19_k1 (n : Nat) (x168 : List UInt8) (x170 : UInt8) (g38 : (List UInt8) → Int → Int → Bool → Int → (List UInt8) → Option (Val × List UInt8 × Bool)) (x169 : Int) : Bool → Option (Val × List UInt8 × Bool) := fun x173 =>
 bif x173 then (
 bnd (F36 n (x168.drop 1)) fun ⟨x174, x175, x176⟩ =>
 bif (((x170.toNat : Nat) : Int) == (7 : Int)) then (
 some (Val.mk (2 : Int) false (IntKind.i64.wrap (IntKind.u64.wrap (((BitVec.ofInt IntKind.u64.bits x174 ^^^ BitVec.ofInt IntKind.u64.bits (9223372036854775808 : Int)).toNat : Nat) : Int))) ([] : List UInt8) ([] : List Val) ([] : List (List UInt8)), x175, x176))
else (
 bif (((x170.toNat : Nat) : Int) == (2 : Int)) then (
 some (Val.mk (6 : Int) false (IntKind.i64.wrap x174) ([] : List UInt8) ([] : List Val) ([] : List (List UInt8)), x175, x176))
else (
 some (Val.mk (7 : Int) false (IntKind.i64.wrap x174) ([] : List UInt8) ([] : List Val) ([] : List (List UInt8)), x175, x176))))
else (
 bif (((x170.toNat : Nat) : Int) == (5 : Int)) then (
 bnd (F37 n (x168.drop 1)) fun ⟨x177, x178, x179⟩ =>
 some (Val.mk (3 : Int) false (0 : Int) x177 ([] : List Val) ([] : List (List UInt8)), x178, x179))
else (
 bif (((x170.toNat : Nat) : Int) == (4 : Int)) then (
 bnd (g38 (x168.drop 1) x169 (4 : Int) false (0 : Int) ([] : List UInt8)) fun ⟨⟨x180, x181, x182, x183, x184, x185⟩, x186, x187⟩ =>
 some (Val.mk x180 x181 x182 x183 x184 x185, x186, x187))
else (
 bif (((x170.toNat : Nat) : Int) == (1 : Int)) then (
 bnd (g38 (x168.drop 1) x169 (5 : Int) false (0 : Int) ([] : List UInt8)) fun ⟨⟨x188, x189, x190, x191, x192, x193⟩, x194, x195⟩ =>
 some (Val.mk x188 x189 x190 x191 x192 x193, x194, x195))
else (
 some (Val.mk (0 : Int) false (0 : Int) ([] : List UInt8) ([] : List Val) ([] : List (List UInt8)), ([] : List UInt8), false)))))

def BF19 (n : Nat) (g19 : (List UInt8) → Int → Option (Val × List UInt8 × Bool)) (g38 : (List UInt8) → Int → Int → Bool → Int → (List UInt8) → Option (Val × List UInt8 × Bool)) (x168 : List UInt8) (x169 : Int) : Option (Val × List UInt8 × Bool) :=
  bif (bif (x168 == ([] : List UInt8)) then true else (decide (x169 < (0 : Int)))) then (
  some (Val.mk (0 : Int) false (0 : Int) ([] : List UInt8) ([] : List Val) ([] : List (List UInt8)), ([] : List UInt8), false))
  else (
  bnd (idx x168 (0 : Int)) fun x170 =>
  chk (decide (1 ≤ x168.length)) (
  bif (((x170.toNat : Nat) : Int) == (8 : Int)) then (
  some (Val.mk (0 : Int) false (0 : Int) ([] : List UInt8) ([] : List Val) ([] : List (List UInt8)), (x168.drop 1), true))
  else (
  bif (((x170.toNat : Nat) : Int) == (6 : Int)) then (
  bnd (gsome (!((x168.drop 1) == ([] : List UInt8))) (idx (x168.drop 1) (0 : Int))) fun x171 =>
  bif (bif ((x168.drop 1) == ([] : List UInt8)) then true else (decide (((x171.toNat : Nat) : Int) > (1 : Int)))) then (
  some (Val.mk (0 : Int) false (0 : Int) ([] : List UInt8) ([] : List Val) ([] : List (List UInt8)), ([] : List UInt8), false))
  else (
  bnd (idx (x168.drop 1) (0 : Int)) fun x172 =>
  chk (decide (1 ≤ (x168.drop 1).length)) (
  some (Val.mk (1 : Int) (((x172.toNat : Nat) : Int) == (1 : Int)) (0 : Int) ([] : List UInt8) ([] : List Val) ([] : List (List UInt8)), ((x168.drop 1).drop 1), true))))
  else (
  bif (((x170.toNat : Nat) : Int) == (7 : Int)) then (
  F19_k1 n x168 x170 g38 x169 (((x170.toNat : Nat) : Int) == (7 : Int)))
  else (
  bif (((x170.toNat : Nat) : Int) == (2 : Int)) then (
  F19_k1 n x168 x170 g38 x169 (((x170.toNat : Nat) : Int) == (2 : Int)))
  else (
  F19_k1 n x168 x170 g38 x169 (((x170.toNat : Nat) : Int) == (3 : Int))))))))

abbrev R_F38 (r : Val × List UInt8 × Bool) : PV := PV.tup [PV.agg (valC.cells r.1), PV.str r.2.1, PV.bool r.2.2]

def F38_k3 (n : Nat) (g19 : (List UInt8) → Int → Option (Val × List UInt8 × Bool)) (x197 : Int) (x203 : List Val) (nx1 : List UInt8 × List Val × List (List UInt8) → Option (Val × List UInt8 × Bool)) : List UInt8 × List (List UInt8) → Option (Val × List UInt8 × Bool) := fun (x206, x207) =>
 bnd (g19 x206 (IntKind.i64.wrap (x197 - (1 : Int)))) fun ⟨⟨x208, x209, x210, x211, x212, x213⟩, x214, x215⟩ =>
 bif (!x215) then (
 some (Val.mk (0 : Int) false (0 : Int) ([] : List UInt8) ([] : List Val) ([] : List (List UInt8)), ([] : List UInt8), false))
else (
 chk (decide ((Val.rows (x203 ++ [Val.mk x208 x209 x210 x211 x212 x213])).length * 88 ≤ 140737488355328)) (
 nx1 (x214, (x203 ++ [Val.mk x208 x209 x210 x211 x212 x213]), x207)))

def F38_l1 (n : Nat) (x198 : Int) (g19 : (List UInt8) → Int → Option (Val × List UInt8 × Bool)) (x197 : Int) (x199 : Bool) (x200 : Int) (x201 : List UInt8) : (List UInt8 × List Val × List (List UInt8) → Option (Val × List UInt8 × Bool)) → List UInt8 × List Val × List (List UInt8) → Option (Val × List UInt8 × Bool) := fun nx1 (x202, x203, x204) =>
 bnd (gsome (!(x202 == ([] : List UInt8))) (idx x202 (0 : Int))) fun x205 =>
 bif (bif (!(x202 == ([] : List UInt8))) then (((x205.toNat : Nat) : Int) != (0 : Int)) else false) then (
 bif (x198 == (5 : Int)) then (
 bnd (idx x202 (0 : Int)) fun x216 =>
 bif (((x216.toNat : Nat) : Int) != (1 : Int)) then (
 some (Val.mk (0 : Int) false (0 : Int) ([] : List UInt8) ([] : List Val) ([] : List (List UInt8)), ([] : List UInt8), false))
else (
 chk (decide (1 ≤ x202.length)) (
 bnd (F37 n (x202.drop 1)) fun ⟨x217, x218, x219⟩ =>
 bif (!x219) then (
 some (Val.mk (0 : Int) false (0 : Int) ([] : List UInt8) ([] : List Val) ([] : List (List UInt8)), ([] : List UInt8), false))
else (
 chk (decide ((strs (x204 ++ [x217])).length * 16 ≤ 140737488355328)) (
 F38_k3 n g19 x197 x203 nx1 (x218, (x204 ++ [x217])))))))
else (
 F38_k3 n g19 x197 x203 nx1 (x202, x204)))
else (
 bif (x202 == ([] : List UInt8)) then (
 some (Val.mk (0 : Int) false (0 : Int) ([] : List UInt8) ([] : List Val) ([] : List (List UInt8)), ([] : List UInt8), false))
else (
 chk (decide (1 ≤ x202.length)) (
 some (Val.mk x198 x199 x200 x201 x203 x204, (x202.drop 1), true))))

def BF38 (n : Nat) (g19 : (List UInt8) → Int → Option (Val × List UInt8 × Bool)) (g38 : (List UInt8) → Int → Int → Bool → Int → (List UInt8) → Option (Val × List UInt8 × Bool)) (x196 : List UInt8) (x197 : Int) (x198 : Int) (x199 : Bool) (x200 : Int) (x201 : List UInt8) : Option (Val × List UInt8 × Bool) :=
  loopK (F38_l1 n x198 g19 x197 x199 x200 x201) n (x196, ([] : List _), ([] : List _))

set_option maxRecDepth 100000 in
theorem BF19_ok (n : Nat) (g19 : (List UInt8) → Int → Option (Val × List UInt8 × Bool)) (g38 : (List UInt8) → Int → Int → Bool → Int → (List UInt8) → Option (Val × List UInt8 × Bool)) (g19_ok : ∀ (x168 : List UInt8) (x169 : Int) (r : Val × List UInt8 × Bool), g19 x168 x169 = some r → CallsF Tryd.prog 19 [PV.str x168, PV.int .i64 x169] (R_F19 r)) (g38_ok : ∀ (x196 : List UInt8) (x197 : Int) (x198 : Int) (x199 : Bool) (x200 : Int) (x201 : List UInt8) (r : Val × List UInt8 × Bool), g38 x196 x197 x198 x199 x200 x201 = some r → CallsF Tryd.prog 38 [PV.str x196, PV.int .i64 x197, PV.agg [.int .i64 x198, .bool x199, .int .i64 x200, .str x201, .nilsl, .nilsl]] (R_F38 r)) : ∀ (x168 : List UInt8) (x169 : Int) (r : Val × List UInt8 × Bool), BF19 n g19 g38 x168 x169 = some r → CallsF Tryd.prog 19 [PV.str x168, PV.int .i64 x169] (R_F19 r) := by
  intro x168 x169 r h
  unfold BF19 at h
  refine CallsF.of_vcN mixed (fun _ _ => Tryd.call19 _ _) Tryd.func19 (by kernel_rfl) (inl := [1000000]) ?_
  conv => whnf
  iterate 2 (refine And.intro (fun h => h) ?_)
  conv => whnf
  refine ⟨fun hc => ?_, fun hc => ?_⟩
  · have h := cond_t h hc
    obtain rfl := Option.some.inj h
    conv => whnf
    repeat (first | exact rfl | exact trivial | refine ⟨?_, ?_⟩)
  · have h := cond_f h hc
    conv => whnf
    obtain ⟨x170, h9, h⟩ := bnd_some h
    refine ⟨_, idx_some h9, ?_⟩
    conv => whnf
    refine ⟨1, rfl, ?_⟩
    conv => whnf
    obtain ⟨h8, h⟩ := chk_some h
    refine ⟨⟨(of_decide_eq_true h8 : (1 ≤ x168.length)), Nat.le_refl _⟩, ?_⟩
    rw [show List.drop 1 (List.take x168.length x168) = (x168.drop 1) from by rw [List.take_length]]
    conv => whnf
    refine ⟨fun hc => ?_, fun hc => ?_⟩
    · have h := cond_t h hc
      obtain rfl := Option.some.inj h
      conv => whnf
      repeat (first | exact rfl | exact trivial | refine ⟨?_, ?_⟩)
    · have h := cond_f h hc
      conv => whnf
      refine ⟨fun hc => ?_, fun hc => ?_⟩
      · have h := cond_t h hc
        conv => whnf
        refine And.intro (fun h => h) ?_
        conv => whnf
        obtain ⟨x171, h3, h⟩ := bnd_some h
        refine ⟨_, fun hg => idx_some (gsome_some h3 hg), ?_⟩
        conv => whnf
        iterate 2 (refine And.intro (fun h => h) ?_)
        conv => whnf
        refine ⟨fun hc => ?_, fun hc => ?_⟩
        · have h := cond_t h hc
          obtain rfl := Option.some.inj h
          conv => whnf
          repeat (first | exact rfl | exact trivial | refine ⟨?_, ?_⟩)
        · have h := cond_f h hc
          conv => whnf
          obtain ⟨x172, h2, h⟩ := bnd_some h
          refine ⟨_, idx_some h2, ?_⟩
          conv => whnf
          refine ⟨1, rfl, ?_⟩
          conv => whnf
          obtain ⟨h1, h⟩ := chk_some h
          refine ⟨⟨(of_decide_eq_true h1 : (1 ≤ (x168.drop 1).length)), Nat.le_refl _⟩, ?_⟩
          rw [show List.drop 1 (List.take ((x168.drop 1).length) (x168.drop 1)) = ((x168.drop 1).drop 1) from by rw [List.take_length]]
          obtain rfl := Option.some.inj h
          conv => whnf
          repeat (first | exact rfl | exact trivial | refine ⟨?_, ?_⟩)
      · have h := cond_f h hc
        conv => whnf
        refine SeqA.cut (S := Bool) (fun x173 => [(0, .p (.str (x168.drop 1))), (1, .p (.int .i64 x169)), (4, .ptr 0 0), (7, .p (.int .u8 ((x170.toNat : Nat) : Int))), (25, .p (.int .u8 ((x170.toNat : Nat) : Int))), (46, .p (.bool x173))]) (fun x173 => [.box 25 [.p (.int .i64 (0 : Int)), .p (.bool false), .p (.int .i64 (0 : Int)), .p (.str ([] : List UInt8)), .p (.nilsl), .p (.nilsl)]]) (F19_k1 n x168 x170 g38 x169) (r := r) ?_ ?_
        · intro x173 h
          unfold F19_k1 at h
          conv => whnf
          refine ⟨fun hc => ?_, fun hc => ?_⟩
          · have h := cond_t h hc
            conv => whnf
            obtain ⟨⟨x174, x175, x176⟩, h4, h⟩ := bnd_some h
            refine ⟨_, (F36_ok n _  _ h4), ?_⟩
            conv => whnf
            refine ⟨fun hc => ?_, fun hc => ?_⟩
            · have h := cond_t h hc
              obtain rfl := Option.some.inj h
              conv => whnf
              repeat (first | exact rfl | exact trivial | refine ⟨?_, ?_⟩)
            · have h := cond_f h hc
              conv => whnf
              refine ⟨fun hc => ?_, fun hc => ?_⟩
              · have h := cond_t h hc
                obtain rfl := Option.some.inj h
                conv => whnf
                repeat (first | exact rfl | exact trivial | refine ⟨?_, ?_⟩)
              · have h := cond_f h hc
                obtain rfl := Option.some.inj h
                conv => whnf
                repeat (first | exact rfl | exact trivial | refine ⟨?_, ?_⟩)
          · have h := cond_f h hc
            conv => whnf
            refine ⟨fun hc => ?_, fun hc => ?_⟩
            · have h := cond_t h hc
              conv => whnf
              obtain ⟨⟨x177, x178, x179⟩, h5, h⟩ := bnd_some h
              refine ⟨_, (F37_ok n _  _ h5), ?_⟩
              obtain rfl := Option.some.inj h
              conv => whnf
              repeat (first | exact rfl | exact trivial | refine ⟨?_, ?_⟩)
            · have h := cond_f h hc
              conv => whnf
              refine ⟨fun hc => ?_, fun hc => ?_⟩
              · have h := cond_t h hc
                conv => whnf
                obtain ⟨⟨⟨x180, x181, x182, x183, x184, x185⟩, x186, x187⟩, h6, h⟩ := bnd_some h
                refine ⟨_, (g38_ok _ _ _ _ _ _  _ h6), ?_⟩
                obtain rfl := Option.some.inj h
                conv => whnf
                repeat (first | exact rfl | exact trivial | refine ⟨?_, ?_⟩)
              · have h := cond_f h hc
                conv => whnf
                refine ⟨fun hc => ?_, fun hc => ?_⟩
                · have h := cond_t h hc
                  conv => whnf
                  obtain ⟨⟨⟨x188, x189, x190, x191, x192, x193⟩, x194, x195⟩, h7, h⟩ := bnd_some h
                  refine ⟨_, (g38_ok _ _ _ _ _ _  _ h7), ?_⟩
                  obtain rfl := Option.some.inj h
                  conv => whnf
                  repeat (first | exact rfl | exact trivial | refine ⟨?_, ?_⟩)
                · have h := cond_f h hc
                  obtain rfl := Option.some.inj h
                  conv => whnf
                  repeat (first | exact rfl | exact trivial | refine ⟨?_, ?_⟩)
        · conv => whnf
          refine ⟨fun hc => ?_, fun hc => ?_⟩
          · have h := cond_t h hc
            conv => whnf
            exact ⟨(((x170.toNat : Nat) : Int) == (7 : Int)), h, ⟨[0], [], ⟨rfl, rfl, rfl, rfl⟩, by repeat (first | exact trivial | exact .inl rfl | exact .inr ⟨rfl, rfl⟩ | exact rfl | exact List.not_mem_nil | (refine ⟨?_, ?_⟩) | decide), by repeat (first | exact trivial | exact .inl rfl | exact .inr ⟨rfl, rfl⟩ | exact rfl | exact List.not_mem_nil | (refine ⟨?_, ?_⟩) | decide)⟩⟩
          · have h := cond_f h hc
            conv => whnf
            refine ⟨fun hc => ?_, fun hc => ?_⟩
            · have h := cond_t h hc
              conv => whnf
              exact ⟨(((x170.toNat : Nat) : Int) == (2 : Int)), h, ⟨[0], [], ⟨rfl, rfl, rfl, rfl⟩, by repeat (first | exact trivial | exact .inl rfl | exact .inr ⟨rfl, rfl⟩ | exact rfl | exact List.not_mem_nil | (refine ⟨?_, ?_⟩) | decide), by repeat (first | exact trivial | exact .inl rfl | exact .inr ⟨rfl, rfl⟩ | exact rfl | exact List.not_mem_nil | (refine ⟨?_, ?_⟩) | decide)⟩⟩
            · have h := cond_f h hc
              conv => whnf
              exact ⟨(((x170.toNat : Nat) : Int) == (3 : Int)), h, ⟨[0], [], ⟨rfl, rfl, rfl, rfl⟩, by repeat (first | exact trivial | exact .inl rfl | exact .inr ⟨rfl, rfl⟩ | exact rfl | exact List.not_mem_nil | (refine ⟨?_, ?_⟩) | decide), by repeat (first | exact trivial | exact .inl rfl | exact .inr ⟨rfl, rfl⟩ | exact rfl | exact List.not_mem_nil | (refine ⟨?_, ?_⟩) | decide)⟩⟩

set_option maxRecDepth 100000 in
theorem BF38_ok (n : Nat) (g19 : (List UInt8) → Int → Option (Val × List UInt8 × Bool)) (g38 : (List UInt8) → Int → Int → Bool → Int → (List UInt8) → Option (Val × List UInt8 × Bool)) (g19_ok : ∀ (x168 : List UInt8) (x169 : Int) (r : Val × List UInt8 × Bool), g19 x168 x169 = some r → CallsF Tryd.prog 19 [PV.str x168, PV.int .i64 x169] (R_F19 r)) (g38_ok : ∀ (x196 : List UInt8) (x197 : Int) (x198 : Int) (x199 : Bool) (x200 : Int) (x201 : List UInt8) (r : Val × List UInt8 × Bool), g38 x196 x197 x198 x199 x200 x201 = some r → CallsF Tryd.prog 38 [PV.str x196, PV.int .i64 x197, PV.agg [.int .i64 x198, .bool x199, .int .i64 x200, .str x201, .nilsl, .nilsl]] (R_F38 r)) : ∀ (x196 : List UInt8) (x197 : Int) (x198 : Int) (x199 : Bool) (x200 : Int) (x201 : List UInt8) (r : Val × List UInt8 × Bool), BF38 n g19 g38 x196 x197 x198 x199 x200 x201 = some r → CallsF Tryd.prog 38 [PV.str x196, PV.int .i64 x197, PV.agg [.int .i64 x198, .bool x199, .int .i64 x200, .str x201, .nilsl, .nilsl]] (R_F38 r) := by
  intro x196 x197 x198 x199 x200 x201 r h
  unfold BF38 at h
  refine CallsF.of_vcN mixed (fun _ _ => Tryd.call38 _ _) Tryd.func38 (by kernel_rfl) (inl := [1000000]) ?_
  conv => whnf
  refine LoopA.fn [1000000] (S := List UInt8 × List Val × List (List UInt8)) (fun (x202, x203, x204) => [(0, .p (.str x202)), (1, .p (.int .i64 x197)), (5, .ptr 0 0), (6, .ptr 1 0)]) (fun (x202, x203, x204) => [.box 25 [.p (.int .i64 x198), .p (.bool x199), .p (.int .i64 x200), .p (.str x201), .tsl 2 (Val.rows x203), .tsl 3 (strs x204)], .box 25 [.p (.int .i64 (0 : Int)), .p (.bool false), .p (.int .i64 (0 : Int)), .p (.str ([] : List UInt8)), .p (.nilsl), .p (.nilsl)], .tail 25 6 (Val.rows x203).length, .tail 9 1 (strs x204).length]) (B := F38_l1 n x198 g19 x197 x199 x200 x201) h ⟨[0, 1, 0, 0], [2, 3], ⟨rfl, rfl, rfl, rfl⟩, by repeat (first | exact trivial | exact .inl rfl | exact .inr ⟨rfl, rfl⟩ | exact rfl | exact List.not_mem_nil | (refine ⟨?_, ?_⟩) | decide), by repeat (first | exact trivial | exact .inl rfl | exact .inr ⟨rfl, rfl⟩ | exact rfl | exact List.not_mem_nil | (refine ⟨?_, ?_⟩) | decide)⟩ ?_
  intro nx1 st h
  obtain ⟨x202, x203, x204⟩ := st
  unfold F38_l1 at h
  conv => whnf
  refine And.intro (fun h => h) ?_
  conv => whnf
  obtain ⟨x205, h8, h⟩ := bnd_some h
  refine ⟨_, fun hg => idx_some (gsome_some h8 hg), ?_⟩
  conv => whnf
  iterate 2 (refine And.intro (fun h => h) ?_)
  conv => whnf
  refine ⟨fun hc => ?_, fun hc => ?_⟩
  · have h := cond_t h hc
    conv => whnf
    refine SeqA.cut (S := List UInt8 × List (List UInt8)) (fun (x206, x207) => [(0, .p (.str x206)), (1, .p (.int .i64 x197)), (5, .ptr 0 0), (6, .ptr 1 0)]) (fun (x206, x207) => [.box 25 [.p (.int .i64 x198), .p (.bool x199), .p (.int .i64 x200), .p (.str x201), .tsl 2 (Val.rows x203), .tsl 3 (strs x207)], .box 25 [.p (.int .i64 (0 : Int)), .p (.bool false), .p (.int .i64 (0 : Int)), .p (.str ([] : List UInt8)), .p (.nilsl), .p (.nilsl)], .tail 25 6 (Val.rows x203).length, .tail 9 1 (strs x207).length]) (F38_k3 n g19 x197 x203 nx1) (r := r) ?_ ?_
    · intro st h
      obtain ⟨x206, x207⟩ := st
      unfold F38_k3 at h
      conv => whnf
      obtain ⟨⟨⟨x208, x209, x210, x211, x212, x213⟩, x214, x215⟩, h2, h⟩ := bnd_some h
      refine ⟨_, (g19_ok _ _  _ h2), ?_⟩
      conv => whnf
      refine ⟨fun hc => ?_, fun hc => ?_⟩
      · have h := cond_t h hc
        obtain rfl := Option.some.inj h
        conv => whnf
        repeat (first | exact rfl | exact trivial | refine ⟨?_, ?_⟩)
      · have h := cond_f h hc
        conv => whnf
        rw [show ([[PV.int .i64 x208, PV.bool x209, PV.int .i64 x210, PV.str x211, PV.sl (Val.rows x212), PV.sl (strs x213)]] : List (List PV)) = Val.rows [Val.mk x208 x209 x210 x211 x212 x213] from rfl]
        refine ⟨Codec.one valC [Val.mk x208 x209 x210 x211 x212 x213], ?_⟩
        conv => whnf
        rw [show Val.rows x203 ++ Val.rows [Val.mk x208 x209 x210 x211 x212 x213] = Val.rows (x203 ++ [Val.mk x208 x209 x210 x211 x212 x213]) from Codec.append valC x203 [Val.mk x208 x209 x210 x211 x212 x213]]
        conv => whnf
        obtain ⟨h1, h⟩ := chk_some h
        refine ⟨⟨Codec.wide valC (x203 ++ [Val.mk x208 x209 x210 x211 x212 x213]), of_decide_eq_true h1, len_ok h1 (by decide)⟩, ?_⟩
        conv => whnf
        refine ⟨⟨rfl, rfl, rfl⟩, ?_⟩
        conv => whnf
        exact ⟨(x214, (x203 ++ [Val.mk x208 x209 x210 x211 x212 x213]), x207), h, ⟨[0, 1, 5, 3], [], ⟨rfl, rfl, rfl, rfl⟩, by repeat (first | exact trivial | exact .inl rfl | exact .inr ⟨rfl, rfl⟩ | exact rfl | exact List.not_mem_nil | (refine ⟨?_, ?_⟩) | decide), by repeat (first | exact trivial | exact .inl rfl | exact .inr ⟨rfl, rfl⟩ | exact rfl | exact List.not_mem_nil | (refine ⟨?_, ?_⟩) | decide)⟩⟩
    · conv => whnf
      refine ⟨fun hc => ?_, fun hc => ?_⟩
      · have h := cond_t h hc
        conv => whnf
        obtain ⟨x216, h6, h⟩ := bnd_some h
        refine ⟨_, idx_some h6, ?_⟩
        conv => whnf
        refine ⟨fun hc => ?_, fun hc => ?_⟩
        · have h := cond_t h hc
          obtain rfl := Option.some.inj h
          conv => whnf
          repeat (first | exact rfl | exact trivial | refine ⟨?_, ?_⟩)
        · have h := cond_f h hc
          conv => whnf
          refine ⟨1, rfl, ?_⟩
          conv => whnf
          obtain ⟨h5, h⟩ := chk_some h
          refine ⟨⟨(of_decide_eq_true h5 : (1 ≤ x202.length)), Nat.le_refl _⟩, ?_⟩
          rw [show List.drop 1 (List.take x202.length x202) = (x202.drop 1) from by rw [List.take_length]]
          conv => whnf
          obtain ⟨⟨x217, x218, x219⟩, h4, h⟩ := bnd_some h
          refine ⟨_, (F37_ok n _  _ h4), ?_⟩
          conv => whnf
          refine ⟨fun hc => ?_, fun hc => ?_⟩
          · have h := cond_t h hc
            obtain rfl := Option.some.inj h
            conv => whnf
            repeat (first | exact rfl | exact trivial | refine ⟨?_, ?_⟩)
          · have h := cond_f h hc
            conv => whnf
            rw [show ([[PV.str x217]] : List (List PV)) = strs [x217] from rfl]
            refine ⟨Codec.one strC [x217], ?_⟩
            conv => whnf
            rw [show strs x204 ++ strs [x217] = strs (x204 ++ [x217]) from Codec.append strC x204 [x217]]
            conv => whnf
            obtain ⟨h3, h⟩ := chk_some h
            refine ⟨⟨Codec.wide strC (x204 ++ [x217]), of_decide_eq_true h3, len_ok h3 (by decide)⟩, ?_⟩
            conv => whnf
            refine ⟨⟨rfl, rfl, rfl⟩, ?_⟩
            conv => whnf
            exact ⟨(x218, (x204 ++ [x217])), h, ⟨[0, 1, 2, 4], [], ⟨rfl, rfl, rfl, rfl⟩, by repeat (first | exact trivial | exact .inl rfl | exact .inr ⟨rfl, rfl⟩ | exact rfl | exact List.not_mem_nil | (refine ⟨?_, ?_⟩) | decide), by repeat (first | exact trivial | exact .inl rfl | exact .inr ⟨rfl, rfl⟩ | exact rfl | exact List.not_mem_nil | (refine ⟨?_, ?_⟩) | decide)⟩⟩
      · have h := cond_f h hc
        conv => whnf
        exact ⟨(x202, x204), h, ⟨[0, 1, 2, 3], [], ⟨rfl, rfl, rfl, rfl⟩, by repeat (first | exact trivial | exact .inl rfl | exact .inr ⟨rfl, rfl⟩ | exact rfl | exact List.not_mem_nil | (refine ⟨?_, ?_⟩) | decide), by repeat (first | exact trivial | exact .inl rfl | exact .inr ⟨rfl, rfl⟩ | exact rfl | exact List.not_mem_nil | (refine ⟨?_, ?_⟩) | decide)⟩⟩
  · have h := cond_f h hc
    conv => whnf
    refine ⟨fun hc => ?_, fun hc => ?_⟩
    · have h := cond_t h hc
      obtain rfl := Option.some.inj h
      conv => whnf
      repeat (first | exact rfl | exact trivial | refine ⟨?_, ?_⟩)
    · have h := cond_f h hc
      conv => whnf
      refine ⟨1, rfl, ?_⟩
      conv => whnf
      obtain ⟨h7, h⟩ := chk_some h
      refine ⟨⟨(of_decide_eq_true h7 : (1 ≤ x202.length)), Nat.le_refl _⟩, ?_⟩
      rw [show List.drop 1 (List.take x202.length x202) = (x202.drop 1) from by rw [List.take_length]]
      obtain rfl := Option.some.inj h
      conv => whnf
      repeat (first | exact rfl | exact trivial | refine ⟨?_, ?_⟩)

mutual
def F19 : Nat → (List UInt8) → Int → Option (Val × List UInt8 × Bool)
  | 0 => fun _ _ => none
  | n + 1 => BF19 n (F19 n) (F38 n)
def F38 : Nat → (List UInt8) → Int → Int → Bool → Int → (List UInt8) → Option (Val × List UInt8 × Bool)
  | 0 => fun _ _ _ _ _ _ => none
  | n + 1 => BF38 n (F19 n) (F38 n)
end

theorem F19_all (n : Nat) : (∀ (x168 : List UInt8) (x169 : Int) (r : Val × List UInt8 × Bool), F19 n x168 x169 = some r → CallsF Tryd.prog 19 [PV.str x168, PV.int .i64 x169] (R_F19 r)) ∧ (∀ (x196 : List UInt8) (x197 : Int) (x198 : Int) (x199 : Bool) (x200 : Int) (x201 : List UInt8) (r : Val × List UInt8 × Bool), F38 n x196 x197 x198 x199 x200 x201 = some r → CallsF Tryd.prog 38 [PV.str x196, PV.int .i64 x197, PV.agg [.int .i64 x198, .bool x199, .int .i64 x200, .str x201, .nilsl, .nilsl]] (R_F38 r)) := by
  induction n with
  | zero => exact ⟨(by intros; rename_i h; cases h), (by intros; rename_i h; cases h)⟩
  | succ n ih =>
    obtain ⟨h19, h38⟩ := ih
    exact ⟨BF19_ok n (F19 n) (F38 n) h19 h38, BF38_ok n (F19 n) (F38 n) h19 h38⟩

theorem F19_ok (n : Nat) : ∀ (x168 : List UInt8) (x169 : Int) (r : Val × List UInt8 × Bool), F19 n x168 x169 = some r → CallsF Tryd.prog 19 [PV.str x168, PV.int .i64 x169] (R_F19 r) := (F19_all n).1

theorem F38_ok (n : Nat) : ∀ (x196 : List UInt8) (x197 : Int) (x198 : Int) (x199 : Bool) (x200 : Int) (x201 : List UInt8) (r : Val × List UInt8 × Bool), F38 n x196 x197 x198 x199 x200 x201 = some r → CallsF Tryd.prog 38 [PV.str x196, PV.int .i64 x197, PV.agg [.int .i64 x198, .bool x199, .int .i64 x200, .str x201, .nilsl, .nilsl]] (R_F38 r) := (F19_all n).2

abbrev R_F8 (r : List UInt8 × Int) : PV := PV.tup [PV.str r.1, PV.int .i64 r.2]

def F8 (n : Nat)  (a0_ : Val) : Option (List UInt8 × Int) :=
  match a0_ with
  | ⟨x220, x221, x222, x223, x224, x225⟩ =>
  bnd (F15 n (Val.mk x220 x221 x222 x223 x224 x225)) fun x226 =>
  bif (x226 != (0 : Int)) then (
  some (([] : List UInt8), x226))
  else (
  bnd (F16 n (Val.mk x220 x221 x222 x223 x224 x225)) fun x227 =>
  some (x227, (0 : Int)))

set_option maxRecDepth 100000 in
theorem F8_ok (n : Nat)   : ∀ (a0_ : Val) (r : List UInt8 × Int), F8 n a0_ = some r → CallsF Tryd.prog 8 [PV.agg (valC.cells a0_)] (R_F8 r) := by
  intro a0_ r h
  obtain ⟨x220, x221, x222, x223, x224, x225⟩ := a0_
  unfold F8 at h
  refine CallsF.of_vcN mixed (fun _ _ => Tryd.call8 _ _) Tryd.func8 (by kernel_rfl) (inl := [1000000]) ?_
  conv => whnf
  obtain ⟨x226, h2, h⟩ := bnd_some h
  refine ⟨_, (F15_ok n _  _ h2), ?_⟩
  conv => whnf
  refine ⟨fun hc => ?_, fun hc => ?_⟩
  · have h := cond_t h hc
    obtain rfl := Option.some.inj h
    conv => whnf
    repeat (first | exact rfl | exact trivial | refine ⟨?_, ?_⟩)
  · have h := cond_f h hc
    conv => whnf
    obtain ⟨x227, h1, h⟩ := bnd_some h
    refine ⟨_, (F16_ok n _  _ h1), ?_⟩
    obtain rfl := Option.some.inj h
    conv => whnf
    repeat (first | exact rfl | exact trivial | refine ⟨?_, ?_⟩)

abbrev R_F9 (r : List UInt8 × Int) : PV := PV.tup [PV.str r.1, PV.int .i64 r.2]

def F9 (n : Nat)  (a0_ : Val) : Option (List UInt8 × Int) :=
  match a0_ with
  | ⟨x228, x229, x230, x231, x232, x233⟩ =>
  bnd (F17 n (Val.mk x228 x229 x230 x231 x232 x233)) fun x234 =>
  bif (!x234) then (
  some (([] : List UInt8), (20 : Int)))
  else (
  bnd (F18 n (Val.mk x228 x229 x230 x231 x232 x233)) fun x235 =>
  some (x235, (0 : Int)))

set_option maxRecDepth 100000 in
theorem F9_ok (n : Nat)   : ∀ (a0_ : Val) (r : List UInt8 × Int), F9 n a0_ = some r → CallsF Tryd.prog 9 [PV.agg (valC.cells a0_)] (R_F9 r) := by
  intro a0_ r h
  obtain ⟨x228, x229, x230, x231, x232, x233⟩ := a0_
  unfold F9 at h
  refine CallsF.of_vcN mixed (fun _ _ => Tryd.call9 _ _) Tryd.func9 (by kernel_rfl) (inl := [1000000]) ?_
  conv => whnf
  obtain ⟨x234, h2, h⟩ := bnd_some h
  refine ⟨_, (F17_ok n _  _ h2), ?_⟩
  conv => whnf
  refine ⟨fun hc => ?_, fun hc => ?_⟩
  · have h := cond_t h hc
    obtain rfl := Option.some.inj h
    conv => whnf
    repeat (first | exact rfl | exact trivial | refine ⟨?_, ?_⟩)
  · have h := cond_f h hc
    conv => whnf
    obtain ⟨x235, h1, h⟩ := bnd_some h
    refine ⟨_, (F18_ok n _  _ h1), ?_⟩
    obtain rfl := Option.some.inj h
    conv => whnf
    repeat (first | exact rfl | exact trivial | refine ⟨?_, ?_⟩)

abbrev R_F11 (r : Val × Int) : PV := PV.tup [PV.agg (valC.cells r.1), PV.int .i64 r.2]

def F11 (n : Nat)  (x236 : List UInt8) : Option (Val × Int) :=
  bnd (F19 n x236 (32 : Int)) fun ⟨⟨x237, x238, x239, x240, x241, x242⟩, x243, x244⟩ =>
  bnd (gsome (!(bif (!x244) then true else (!(x243 == ([] : List UInt8))))) (F15 n (Val.mk x237 x238 x239 x240 x241 x242))) fun x245 =>
  bif (bif (bif (!x244) then true else (!(x243 == ([] : List UInt8)))) then true else (x245 != (0 : Int))) then (
  some (Val.mk (0 : Int) false (0 : Int) ([] : List UInt8) ([] : List Val) ([] : List (List UInt8)), (1 : Int)))
  else (
  some (Val.mk x237 x238 x239 x240 x241 x242, (0 : Int)))

set_option maxRecDepth 100000 in
theorem F11_ok (n : Nat)   : ∀ (x236 : List UInt8) (r : Val × Int), F11 n x236 = some r → CallsF Tryd.prog 11 [PV.str x236] (R_F11 r) := by
  intro x236 r h
  unfold F11 at h
  refine CallsF.of_vcN mixed (fun _ _ => Tryd.call11 _ _) Tryd.func11 (by kernel_rfl) (inl := [1000000]) ?_
  conv => whnf
  obtain ⟨⟨⟨x237, x238, x239, x240, x241, x242⟩, x243, x244⟩, h2, h⟩ := bnd_some h
  refine ⟨_, (F19_ok n _ _  _ h2), ?_⟩
  conv => whnf
  iterate 3 (refine And.intro (fun h => h) ?_)
  conv => whnf
  obtain ⟨x245, h1, h⟩ := bnd_some h
  refine ⟨_, fun hg => (F15_ok n _  _ (gsome_some h1 hg)), ?_⟩
  conv => whnf
  iterate 2 (refine And.intro (fun h => h) ?_)
  conv => whnf
  refine ⟨fun hc => ?_, fun hc => ?_⟩
  · have h := cond_t h hc
    obtain rfl := Option.some.inj h
    conv => whnf
    repeat (first | exact rfl | exact trivial | refine ⟨?_, ?_⟩)
  · have h := cond_f h hc
    obtain rfl := Option.some.inj h
    conv => whnf
    repeat (first | exact rfl | exact trivial | refine ⟨?_, ?_⟩)

abbrev R_F12 (r : Val × Int) : PV := PV.tup [PV.agg (valC.cells r.1), PV.int .i64 r.2]

def F12 (n : Nat)  (x246 : List UInt8) : Option (Val × Int) :=
  bnd (F20 n x246 (0 : Int) (32 : Int)) fun ⟨⟨x247, x248, x249, x250, x251, x252⟩, x253, x254⟩ =>
  bnd (gsome (!(bif (!x254) then true else (x253 != ((x246.length : Nat) : Int)))) (F17 n (Val.mk x247 x248 x249 x250 x251 x252))) fun x255 =>
  bif (bif (bif (!x254) then true else (x253 != ((x246.length : Nat) : Int))) then true else (!x255)) then (
  some (Val.mk (0 : Int) false (0 : Int) ([] : List UInt8) ([] : List Val) ([] : List (List UInt8)), (1 : Int)))
  else (
  some (Val.mk x247 x248 x249 x250 x251 x252, (0 : Int)))

set_option maxRecDepth 100000 in
theorem F12_ok (n : Nat)   : ∀ (x246 : List UInt8) (r : Val × Int), F12 n x246 = some r → CallsF Tryd.prog 12 [PV.str x246] (R_F12 r) := by
  intro x246 r h
  unfold F12 at h
  refine CallsF.of_vcN mixed (fun _ _ => Tryd.call12 _ _) Tryd.func12 (by kernel_rfl) (inl := [1000000]) ?_
  conv => whnf
  obtain ⟨⟨⟨x247, x248, x249, x250, x251, x252⟩, x253, x254⟩, h2, h⟩ := bnd_some h
  refine ⟨_, (F20_ok n _ _ _  _ h2), ?_⟩
  conv => whnf
  iterate 5 (refine And.intro (fun h => h) ?_)
  conv => whnf
  obtain ⟨x255, h1, h⟩ := bnd_some h
  refine ⟨_, fun hg => (F17_ok n _  _ (gsome_some h1 hg)), ?_⟩
  conv => whnf
  iterate 2 (refine And.intro (fun h => h) ?_)
  conv => whnf
  refine ⟨fun hc => ?_, fun hc => ?_⟩
  · have h := cond_t h hc
    obtain rfl := Option.some.inj h
    conv => whnf
    repeat (first | exact rfl | exact trivial | refine ⟨?_, ?_⟩)
  · have h := cond_f h hc
    obtain rfl := Option.some.inj h
    conv => whnf
    repeat (first | exact rfl | exact trivial | refine ⟨?_, ?_⟩)

abbrev R_F10 (r : Bool) : PV := PV.bool r

def F10 (n : Nat)   : Option (Bool) :=
  bnd (F8 n (Val.mk (3 : Int) false (0 : Int) [97] ([] : List Val) ([] : List (List UInt8)))) fun ⟨x256, x257⟩ =>
  bnd (F11 n [6, 1]) fun ⟨⟨x258, x259, x260, x261, x262, x263⟩, x264⟩ =>
  some (bif (bif (bif (x256 == [5, 97, 0, 0]) then (x257 == (0 : Int)) else false) then x259 else false) then (x264 == (0 : Int)) else false)

set_option maxRecDepth 100000 in
theorem F10_ok (n : Nat)   : ∀  (r : Bool), F10 n  = some r → CallsF Tryd.prog 10 [] (R_F10 r) := by
  intro  r h
  unfold F10 at h
  refine CallsF.of_vcN mixed (fun _ _ => Tryd.call10 _ _) Tryd.func10 (by kernel_rfl) (inl := [1000000]) ?_
  conv => whnf
  obtain ⟨⟨x256, x257⟩, h2, h⟩ := bnd_some h
  refine ⟨_, (CallsF.leArgs (F8_ok n _  _ h2) (by repeat (first | exact rfl | exact trivial | refine ⟨?_, ?_⟩))), ?_⟩
  conv => whnf
  obtain ⟨⟨⟨x258, x259, x260, x261, x262, x263⟩, x264⟩, h1, h⟩ := bnd_some h
  refine ⟨_, (F11_ok n _  _ h1), ?_⟩
  conv => whnf
  iterate 6 (refine And.intro (fun h => h) ?_)
  obtain rfl := Option.some.inj h
  conv => whnf
  repeat (first | exact rfl | exact trivial | refine ⟨?_, ?_⟩)

abbrev R_F3 (r : Bool) : PV := PV.bool r

def F3 (n : Nat)  (a0_ : Val) : Option (Bool) :=
  match a0_ with
  | ⟨x265, x266, x267, x268, x269, x270⟩ =>
  bnd (F8 n (Val.mk x265 x266 x267 x268 x269 x270)) fun ⟨x271, x272⟩ =>
  bnd (F9 n (Val.mk x265 x266 x267 x268 x269 x270)) fun ⟨x273, x274⟩ =>
  bnd (gsome (bif (x271 == x273) then (x272 == x274) else false) (F10 n)) fun x275 =>
  some (bif (bif (x271 == x273) then (x272 == x274) else false) then x275 else false)

set_option maxRecDepth 100000 in
theorem F3_ok (n : Nat)   : ∀ (a0_ : Val) (r : Bool), F3 n a0_ = some r → CallsF Tryd.prog 3 [PV.agg (valC.cells a0_)] (R_F3 r) := by
  intro a0_ r h
  obtain ⟨x265, x266, x267, x268, x269, x270⟩ := a0_
  unfold F3 at h
  refine CallsF.of_vcN mixed (fun _ _ => Tryd.call3 _ _) Tryd.func3 (by kernel_rfl) (inl := [1000000]) ?_
  conv => whnf
  obtain ⟨⟨x271, x272⟩, h3, h⟩ := bnd_some h
  refine ⟨_, (F8_ok n _  _ h3), ?_⟩
  conv => whnf
  obtain ⟨⟨x273, x274⟩, h2, h⟩ := bnd_some h
  refine ⟨_, (F9_ok n _  _ h2), ?_⟩
  conv => whnf
  iterate 3 (refine And.intro (fun h => h) ?_)
  conv => whnf
  obtain ⟨x275, h1, h⟩ := bnd_some h
  refine ⟨_, fun hg => (F10_ok n  _ (gsome_some h1 hg)), ?_⟩
  conv => whnf
  refine And.intro (fun h => h) ?_
  obtain rfl := Option.some.inj h
  conv => whnf
  repeat (first | exact rfl | exact trivial | refine ⟨?_, ?_⟩)

abbrev R_F4 (r : Bool) : PV := PV.bool r

def F4 (n : Nat)  (x276 : List UInt8) : Option (Bool) :=
  bnd (F11 n x276) fun ⟨⟨x277, x278, x279, x280, x281, x282⟩, x283⟩ =>
  bnd (F12 n x276) fun ⟨⟨x284, x285, x286, x287, x288, x289⟩, x290⟩ =>
  bnd (F13 n (Val.mk x277 x278 x279 x280 x281 x282) (Val.mk x284 x285 x286 x287 x288 x289)) fun x291 =>
  bnd (gsome (bif x291 then (x283 == x290) else false) (F10 n)) fun x292 =>
  some (bif (bif x291 then (x283 == x290) else false) then x292 else false)

set_option maxRecDepth 100000 in
theorem F4_ok (n : Nat)   : ∀ (x276 : List UInt8) (r : Bool), F4 n x276 = some r → CallsF Tryd.prog 4 [PV.str x276] (R_F4 r) := by
  intro x276 r h
  unfold F4 at h
  refine CallsF.of_vcN mixed (fun _ _ => Tryd.call4 _ _) Tryd.func4 (by kernel_rfl) (inl := [1000000]) ?_
  conv => whnf
  obtain ⟨⟨⟨x277, x278, x279, x280, x281, x282⟩, x283⟩, h4, h⟩ := bnd_some h
  refine ⟨_, (F11_ok n _  _ h4), ?_⟩
  conv => whnf
  obtain ⟨⟨⟨x284, x285, x286, x287, x288, x289⟩, x290⟩, h3, h⟩ := bnd_some h
  refine ⟨_, (F12_ok n _  _ h3), ?_⟩
  conv => whnf
  obtain ⟨x291, h2, h⟩ := bnd_some h
  refine ⟨_, (F13_ok n _ _  _ h2), ?_⟩
  conv => whnf
  iterate 3 (refine And.intro (fun h => h) ?_)
  conv => whnf
  obtain ⟨x292, h1, h⟩ := bnd_some h
  refine ⟨_, fun hg => (F10_ok n  _ (gsome_some h1 hg)), ?_⟩
  conv => whnf
  refine And.intro (fun h => h) ?_
  obtain rfl := Option.some.inj h
  conv => whnf
  repeat (first | exact rfl | exact trivial | refine ⟨?_, ?_⟩)

abbrev R_F5 (r : Bool) : PV := PV.bool r

def F5_k1 (n : Nat) (x299 : List UInt8) : Unit → Option (Bool) := fun _ =>
 bnd (F11 n x299) fun ⟨⟨x302, x303, x304, x305, x306, x307⟩, x308⟩ =>
 bif (x308 != (0 : Int)) then (
 bnd (F13 n (Val.mk x302 x303 x304 x305 x306 x307) (Val.mk (0 : Int) false (0 : Int) ([] : List UInt8) ([] : List Val) ([] : List (List UInt8)))) fun x309 =>
 bnd (gsome x309 (F10 n)) fun x310 =>
 some (bif x309 then x310 else false))
else (
 bnd (F8 n (Val.mk x302 x303 x304 x305 x306 x307)) fun ⟨x311, x312⟩ =>
 bnd (gsome (bif (x312 == (0 : Int)) then (x311 == x299) else false) (F10 n)) fun x313 =>
 some (bif (bif (x312 == (0 : Int)) then (x311 == x299) else false) then x313 else false))

def F5 (n : Nat)  (a0_ : Val) (x299 : List UInt8) : Option (Bool) :=
  match a0_ with
  | ⟨x293, x294, x295, x296, x297, x298⟩ =>
  bnd (F8 n (Val.mk x293 x294 x295 x296 x297 x298)) fun ⟨x300, x301⟩ =>
  bif (x301 == (0 : Int)) then (
  bnd (F11 n x300) fun ⟨⟨x314, x315, x316, x317, x318, x319⟩, x320⟩ =>
  bnd (gsome (!(x320 != (0 : Int))) (F13 n (Val.mk x314 x315 x316 x317 x318 x319) (Val.mk x293 x294 x295 x296 x297 x298))) fun x321 =>
  bif (bif (x320 != (0 : Int)) then true else (!x321)) then (
  some false)
  else (
  F5_k1 n x299 ()))
  else (
  F5_k1 n x299 ())

set_option maxRecDepth 100000 in
theorem F5_ok (n : Nat)   : ∀ (a0_ : Val) (x299 : List UInt8) (r : Bool), F5 n a0_ x299 = some r → CallsF Tryd.prog 5 [PV.agg (valC.cells a0_), PV.str x299] (R_F5 r) := by
  intro a0_ x299 r h
  obtain ⟨x293, x294, x295, x296, x297, x298⟩ := a0_
  unfold F5 at h
  refine CallsF.of_vcN mixed (fun _ _ => Tryd.call5 _ _) Tryd.func5 (by kernel_rfl) (inl := [1000000]) ?_
  conv => whnf
  obtain ⟨⟨x300, x301⟩, h8, h⟩ := bnd_some h
  refine ⟨_, (F8_ok n _  _ h8), ?_⟩
  conv => whnf
  refine SeqA.cut (S := Unit) (fun _ => [(1, .p (.str x299))]) (fun _ => []) (F5_k1 n x299) (r := r) ?_ ?_
  · intro _ h
    unfold F5_k1 at h
    conv => whnf
    obtain ⟨⟨⟨x302, x303, x304, x305, x306, x307⟩, x308⟩, h5, h⟩ := bnd_some h
    refine ⟨_, (F11_ok n _  _ h5), ?_⟩
    conv => whnf
    refine ⟨fun hc => ?_, fun hc => ?_⟩
    · have h := cond_t h hc
      conv => whnf
      obtain ⟨x309, h2, h⟩ := bnd_some h
      refine ⟨_, (CallsF.leArgs (F13_ok n _ _  _ h2) (by repeat (first | exact rfl | exact trivial | refine ⟨?_, ?_⟩))), ?_⟩
      conv => whnf
      obtain ⟨x310, h1, h⟩ := bnd_some h
      refine ⟨_, fun hg => (F10_ok n  _ (gsome_some h1 hg)), ?_⟩
      conv => whnf
      refine And.intro (fun h => h) ?_
      obtain rfl := Option.some.inj h
      conv => whnf
      repeat (first | exact rfl | exact trivial | refine ⟨?_, ?_⟩)
    · have h := cond_f h hc
      conv => whnf
      obtain ⟨⟨x311, x312⟩, h4, h⟩ := bnd_some h
      refine ⟨_, (F8_ok n _  _ h4), ?_⟩
      conv => whnf
      iterate 3 (refine And.intro (fun h => h) ?_)
      conv => whnf
      obtain ⟨x313, h3, h⟩ := bnd_some h
      refine ⟨_, fun hg => (F10_ok n  _ (gsome_some h3 hg)), ?_⟩
      conv => whnf
      refine And.intro (fun h => h) ?_
      obtain rfl := Option.some.inj h
      conv => whnf
      repeat (first | exact rfl | exact trivial | refine ⟨?_, ?_⟩)
  · conv => whnf
    refine ⟨fun hc => ?_, fun hc => ?_⟩
    · have h := cond_t h hc
      conv => whnf
      obtain ⟨⟨⟨x314, x315, x316, x317, x318, x319⟩, x320⟩, h7, h⟩ := bnd_some h
      refine ⟨_, (F11_ok n _  _ h7), ?_⟩
      conv => whnf
      iterate 2 (refine And.intro (fun h => h) ?_)
      conv => whnf
      obtain ⟨x321, h6, h⟩ := bnd_some h
      refine ⟨_, fun hg => (F13_ok n _ _  _ (gsome_some h6 hg)), ?_⟩
      conv => whnf
      iterate 2 (refine And.intro (fun h => h) ?_)
      conv => whnf
      refine ⟨fun hc => ?_, fun hc => ?_⟩
      · have h := cond_t h hc
        obtain rfl := Option.some.inj h
        conv => whnf
        repeat (first | exact rfl | exact trivial | refine ⟨?_, ?_⟩)
      · have h := cond_f h hc
        conv => whnf
        exact ⟨(), h, ⟨[], [], ⟨rfl, rfl, rfl, rfl⟩, by repeat (first | exact trivial | exact .inl rfl | exact .inr ⟨rfl, rfl⟩ | exact rfl | exact List.not_mem_nil | (refine ⟨?_, ?_⟩) | decide), by repeat (first | exact trivial | exact .inl rfl | exact .inr ⟨rfl, rfl⟩ | exact rfl | exact List.not_mem_nil | (refine ⟨?_, ?_⟩) | decide)⟩⟩
    · have h := cond_f h hc
      conv => whnf
      exact ⟨(), h, ⟨[], [], ⟨rfl, rfl, rfl, rfl⟩, by repeat (first | exact trivial | exact .inl rfl | exact .inr ⟨rfl, rfl⟩ | exact rfl | exact List.not_mem_nil | (refine ⟨?_, ?_⟩) | decide), by repeat (first | exact trivial | exact .inl rfl | exact .inr ⟨rfl, rfl⟩ | exact rfl | exact List.not_mem_nil | (refine ⟨?_, ?_⟩) | decide)⟩⟩

abbrev R_F6 (r : Bool) : PV := PV.bool r

def F6 (n : Nat)  (a0_ : Val) (a1_ : Val) (x334 : List UInt8) : Option (Bool) :=
  match a0_, a1_ with
  | ⟨x322, x323, x324, x325, x326, x327⟩, ⟨x328, x329, x330, x331, x332, x333⟩ =>
  bnd (F8 n (Val.mk x322 x323 x324 x325 x326 x327)) fun ⟨x335, x336⟩ =>
  bnd (F8 n (Val.mk x328 x329 x330 x331 x332 x333)) fun ⟨x337, x338⟩ =>
  bif (bif (x336 != (0 : Int)) then true else (x338 != (0 : Int))) then (
  bnd (F10 n) fun x339 =>
  some x339)
  else (
  bnd (gsome (decide (((x335.length : Nat) : Int) < ((x337.length : Nat) : Int))) (natI ((x335.length : Nat) : Int))) fun x340 =>
  chk (bif (decide (((x335.length : Nat) : Int) < ((x337.length : Nat) : Int))) then decide (x340 ≤ x337.length) else true) (
  bif (bif (decide (((x335.length : Nat) : Int) < ((x337.length : Nat) : Int))) then ((x337.take x340) == x335) else false) then (
  some false)
  else (
  chk (decide (((x335.length + x334.length : Nat) : Int) ≤ maxI)) (
  bnd (F11 n (x335 ++ x334)) fun ⟨⟨x341, x342, x343, x344, x345, x346⟩, x347⟩ =>
  bnd (gsome ((x347 == (0 : Int)) == (x334 == ([] : List UInt8))) (F10 n)) fun x348 =>
  some (bif ((x347 == (0 : Int)) == (x334 == ([] : List UInt8))) then x348 else false)))))

set_option maxRecDepth 100000 in
theorem F6_ok (n : Nat)   : ∀ (a0_ : Val) (a1_ : Val) (x334 : List UInt8) (r : Bool), F6 n a0_ a1_ x334 = some r → CallsF Tryd.prog 6 [PV.agg (valC.cells a0_), PV.agg (valC.cells a1_), PV.str x334] (R_F6 r) := by
  intro a0_ a1_ x334 r h
  obtain ⟨x322, x323, x324, x325, x326, x327⟩ := a0_
  obtain ⟨x328, x329, x330, x331, x332, x333⟩ := a1_
  unfold F6 at h
  refine CallsF.of_vcN mixed (fun _ _ => Tryd.call6 _ _) Tryd.func6 (by kernel_rfl) (inl := [1000000]) ?_
  conv => whnf
  obtain ⟨⟨x335, x336⟩, h8, h⟩ := bnd_some h
  refine ⟨_, (F8_ok n _  _ h8), ?_⟩
  conv => whnf
  obtain ⟨⟨x337, x338⟩, h7, h⟩ := bnd_some h
  refine ⟨_, (F8_ok n _  _ h7), ?_⟩
  conv => whnf
  iterate 2 (refine And.intro (fun h => h) ?_)
  conv => whnf
  refine ⟨fun hc => ?_, fun hc => ?_⟩
  · have h := cond_t h hc
    conv => whnf
    obtain ⟨x339, h1, h⟩ := bnd_some h
    refine ⟨_, (F10_ok n  _ h1), ?_⟩
    obtain rfl := Option.some.inj h
    conv => whnf
    repeat (first | exact rfl | exact trivial | refine ⟨?_, ?_⟩)
  · have h := cond_f h hc
    conv => whnf
    iterate 3 (refine And.intro (fun h => h) ?_)
    conv => whnf
    obtain ⟨x340, h6, h⟩ := bnd_some h
    refine ⟨_, fun hg => natI_some (gsome_some h6 hg), ?_⟩
    conv => whnf
    obtain ⟨h5, h⟩ := chk_some h
    refine ⟨fun hg => ⟨Nat.zero_le _, (of_decide_eq_true (by have := h5; rw [hg] at this; exact this) : (x340 ≤ x337.length))⟩, ?_⟩
    rw [show List.drop 0 (List.take x340 x337) = (x337.take x340) from rfl]
    conv => whnf
    iterate 3 (refine And.intro (fun h => h) ?_)
    conv => whnf
    refine ⟨fun hc => ?_, fun hc => ?_⟩
    · have h := cond_t h hc
      obtain rfl := Option.some.inj h
      conv => whnf
      repeat (first | exact rfl | exact trivial | refine ⟨?_, ?_⟩)
    · have h := cond_f h hc
      conv => whnf
      obtain ⟨h4, h⟩ := chk_some h
      refine ⟨(of_decide_eq_true h4 : ((x335.length + x334.length : Nat) : Int) ≤ maxI), ?_⟩
      conv => whnf
      obtain ⟨⟨⟨x341, x342, x343, x344, x345, x346⟩, x347⟩, h3, h⟩ := bnd_some h
      refine ⟨_, (F11_ok n _  _ h3), ?_⟩
      conv => whnf
      obtain ⟨x348, h2, h⟩ := bnd_some h
      refine ⟨_, fun hg => (F10_ok n  _ (gsome_some h2 hg)), ?_⟩
      conv => whnf
      refine And.intro (fun h => h) ?_
      obtain rfl := Option.some.inj h
      conv => whnf
      repeat (first | exact rfl | exact trivial | refine ⟨?_, ?_⟩)

abbrev R_F7 (r : Bool) : PV := PV.bool r

def F7 (n : Nat)  (a0_ : Val) (a1_ : Val) : Option (Bool) :=
  match a0_, a1_ with
  | ⟨x349, x350, x351, x352, x353, x354⟩, ⟨x355, x356, x357, x358, x359, x360⟩ =>
  bnd (F8 n (Val.mk x349 x350 x351 x352 x353 x354)) fun ⟨x361, x362⟩ =>
  bnd (F8 n (Val.mk x355 x356 x357 x358 x359 x360)) fun ⟨x363, x364⟩ =>
  bif (bif (x362 != (0 : Int)) then true else (x364 != (0 : Int))) then (
  bnd (F10 n) fun x365 =>
  some x365)
  else (
  bnd (F14 n (Val.mk x349 x350 x351 x352 x353 x354) (Val.mk x355 x356 x357 x358 x359 x360)) fun x366 =>
  bnd (gsome (bif ((decide (x366 < (0 : Int))) == (Op.bytesLess x361 x363)) then ((decide (x366 > (0 : Int))) == (!(Op.bytesLess x361 x363 || x361 == x363))) else false) (F10 n)) fun x367 =>
  some (bif (bif ((decide (x366 < (0 : Int))) == (Op.bytesLess x361 x363)) then ((decide (x366 > (0 : Int))) == (!(Op.bytesLess x361 x363 || x361 == x363))) else false) then x367 else false))

set_option maxRecDepth 100000 in
theorem F7_ok (n : Nat)   : ∀ (a0_ : Val) (a1_ : Val) (r : Bool), F7 n a0_ a1_ = some r → CallsF Tryd.prog 7 [PV.agg (valC.cells a0_), PV.agg (valC.cells a1_)] (R_F7 r) := by
  intro a0_ a1_ r h
  obtain ⟨x349, x350, x351, x352, x353, x354⟩ := a0_
  obtain ⟨x355, x356, x357, x358, x359, x360⟩ := a1_
  unfold F7 at h
  refine CallsF.of_vcN mixed (fun _ _ => Tryd.call7 _ _) Tryd.func7 (by kernel_rfl) (inl := [1000000]) ?_
  conv => whnf
  obtain ⟨⟨x361, x362⟩, h5, h⟩ := bnd_some h
  refine ⟨_, (F8_ok n _  _ h5), ?_⟩
  conv => whnf
  obtain ⟨⟨x363, x364⟩, h4, h⟩ := bnd_some h
  refine ⟨_, (F8_ok n _  _ h4), ?_⟩
  conv => whnf
  iterate 2 (refine And.intro (fun h => h) ?_)
  conv => whnf
  refine ⟨fun hc => ?_, fun hc => ?_⟩
  · have h := cond_t h hc
    conv => whnf
    obtain ⟨x365, h1, h⟩ := bnd_some h
    refine ⟨_, (F10_ok n  _ h1), ?_⟩
    obtain rfl := Option.some.inj h
    conv => whnf
    repeat (first | exact rfl | exact trivial | refine ⟨?_, ?_⟩)
  · have h := cond_f h hc
    conv => whnf
    obtain ⟨x366, h3, h⟩ := bnd_some h
    refine ⟨_, (F14_ok n _ _  _ h3), ?_⟩
    conv => whnf
    iterate 6 (refine And.intro (fun h => h) ?_)
    conv => whnf
    obtain ⟨x367, h2, h⟩ := bnd_some h
    refine ⟨_, fun hg => (F10_ok n  _ (gsome_some h2 hg)), ?_⟩
    conv => whnf
    refine And.intro (fun h => h) ?_
    obtain rfl := Option.some.inj h
    conv => whnf
    repeat (first | exact rfl | exact trivial | refine ⟨?_, ?_⟩)
end Rk
