/- A part of the proof. -/
import Derived.Test.YtajcpfcghhbbnaaDoorC
set_option linter.all false
section
open Go Go.Proofs Ax
namespace W
abbrev R_F_rank_lay (r : List UInt8) : PV := PV.str r

def F_rank_lay_k1 (n : Nat) (g81 : Val → Option (List UInt8)) (x1 : Int) (x2 : Bool) (x3 : Int) (x4 : List UInt8) (x5 : List Val) (x6 : List (List UInt8)) : Bool → Option (List UInt8) := fun x11 =>
 bif x11 then (
 bnd (g81 (Val.mk x1 x2 x3 x4 x5 x6)) fun x12 =>
 some x12)
else (
 some [(8 : UInt8)])

def BF_rank_lay (n : Nat) (g71 : Val → Option (List UInt8)) (g81 : Val → Option (List UInt8)) (a0_ : Val) : Option (List UInt8) :=
  match a0_ with
  | ⟨x1, x2, x3, x4, x5, x6⟩ =>
  bif (x1 == (1 : Int)) then (
  bif x2 then (
  some [(6 : UInt8), (1 : UInt8)])
  else (
  some [(6 : UInt8), (0 : UInt8)]))
  else (
  bif (x1 == (2 : Int)) then (
  bnd (F_rank_eight n (IntKind.u64.wrap (((BitVec.ofInt IntKind.u64.bits (IntKind.u64.wrap x3) ^^^ BitVec.ofInt IntKind.u64.bits (9223372036854775808 : Int)).toNat : Nat) : Int))) fun x7 =>
  chk (decide ((([(7 : UInt8)].length + x7.length : Nat) : Int) ≤ maxI)) (
  some ([(7 : UInt8)] ++ x7)))
  else (
  bif (x1 == (3 : Int)) then (
  bnd (F_rank_ended n x4) fun x8 =>
  chk (decide ((([(5 : UInt8)].length + x8.length : Nat) : Int) ≤ maxI)) (
  some ([(5 : UInt8)] ++ x8)))
  else (
  bif (x1 == (6 : Int)) then (
  bnd (F_rank_eight n (IntKind.u64.wrap x3)) fun x9 =>
  chk (decide ((([(2 : UInt8)].length + x9.length : Nat) : Int) ≤ maxI)) (
  some ([(2 : UInt8)] ++ x9)))
  else (
  bif (x1 == (7 : Int)) then (
  bnd (F_rank_eight n (IntKind.u64.wrap x3)) fun x10 =>
  chk (decide ((([(3 : UInt8)].length + x10.length : Nat) : Int) ≤ maxI)) (
  some ([(3 : UInt8)] ++ x10)))
  else (
  bif (x1 == (4 : Int)) then (
  F_rank_lay_k1 n g81 x1 x2 x3 x4 x5 x6 (x1 == (4 : Int)))
  else (
  F_rank_lay_k1 n g81 x1 x2 x3 x4 x5 x6 (x1 == (5 : Int))))))))

abbrev R_F_rank_rows (r : List UInt8) : PV := PV.str r

def F_rank_rows_k4 (n : Nat) (g71 : Val → Option (List UInt8)) (x10 : Int) (x11 : Bool) (x12 : Int) (x13 : List UInt8) (x14 : List Val) (x15 : List (List UInt8)) (nx1 : Int × List UInt8 → Option (List UInt8)) (x8 : Int) : List UInt8 → Option (List UInt8) := fun x16 =>
 bnd (g71 (Val.mk x10 x11 x12 x13 x14 x15)) fun x17 =>
 chk (decide ((bRows (x16 ++ x17)).length * 1 ≤ 140737488355328)) (
 nx1 ((IntKind.i64.wrap (x8 + (1 : Int))), (x16 ++ x17)))

def F_rank_rows_l1 (n : Nat) (x5 : List Val) (x1 : Int) (x6 : List (List UInt8)) (g71 : Val → Option (List UInt8)) : (Int × List UInt8 → Option (List UInt8)) → Int × List UInt8 → Option (List UInt8) := fun nx1 (x8, x9) =>
 bif (decide (x8 < (((Val.rows x5).length : Nat) : Int))) then (
 bnd (idx x5 x8) fun ⟨x10, x11, x12, x13, x14, x15⟩ =>
 bif (x1 == (5 : Int)) then (
 chk (decide ((bRows (x9 ++ [(1 : UInt8)])).length * 1 ≤ 140737488355328)) (
 bnd (idx x6 x8) fun x18 =>
 bnd (F_rank_ended n x18) fun x19 =>
 chk (decide ((bRows ((x9 ++ [(1 : UInt8)]) ++ x19)).length * 1 ≤ 140737488355328)) (
 F_rank_rows_k4 n g71 x10 x11 x12 x13 x14 x15 nx1 x8 ((x9 ++ [(1 : UInt8)]) ++ x19))))
else (
 F_rank_rows_k4 n g71 x10 x11 x12 x13 x14 x15 nx1 x8 x9))
else (
 chk (decide ((bRows (x9 ++ [(0 : UInt8)])).length * 1 ≤ 140737488355328)) (
 some (x9 ++ [(0 : UInt8)])))

def F_rank_rows_k1 (n : Nat) (x5 : List Val) (x1 : Int) (x6 : List (List UInt8)) (g71 : Val → Option (List UInt8)) : List UInt8 → Option (List UInt8) := fun x7 =>
 loopK (F_rank_rows_l1 n x5 x1 x6 g71) n ((0 : Int), x7)

def BF_rank_rows (n : Nat) (g71 : Val → Option (List UInt8)) (g81 : Val → Option (List UInt8)) (a0_ : Val) : Option (List UInt8) :=
  match a0_ with
  | ⟨x1, x2, x3, x4, x5, x6⟩ =>
  chk (decide ((bRows [(4 : UInt8)]).length * 1 ≤ 140737488355328)) (
  bif (x1 == (5 : Int)) then (
  chk (decide ((bRows [(1 : UInt8)]).length * 1 ≤ 140737488355328)) (
  F_rank_rows_k1 n x5 x1 x6 g71 [(1 : UInt8)]))
  else (
  F_rank_rows_k1 n x5 x1 x6 g71 [(4 : UInt8)]))

set_option maxHeartbeats 4000000 in
set_option maxRecDepth 100000 in
theorem BF_rank_lay_ok (n : Nat) (g71 : Val → Option (List UInt8)) (g81 : Val → Option (List UInt8)) (g71_ok : ∀ (a0_ : Val) (r : List UInt8), g71 a0_ = some r → CallsF Tryd.prog 71 [PV.agg (valC.cells a0_)] (R_F_rank_lay r)) (g81_ok : ∀ (a0_ : Val) (r : List UInt8), g81 a0_ = some r → CallsF Tryd.prog 81 [PV.agg (valC.cells a0_)] (R_F_rank_rows r)) : ∀ (a0_ : Val) (r : List UInt8), BF_rank_lay n g71 g81 a0_ = some r → CallsF Tryd.prog 71 [PV.agg (valC.cells a0_)] (R_F_rank_lay r) := by
  intro a0_ r h
  obtain ⟨x1, x2, x3, x4, x5, x6⟩ := a0_
  unfold BF_rank_lay at h
  refine CallsF.of_vcN mixed (fun _ _ => Tryd.call71 _ _) Tryd.func71 (by kernel_rfl) (inl := [1000000]) ?_
  conv => whnf
  refine ⟨fun hc => ?_, fun hc => ?_⟩
  · have h := cond_t h hc
    conv => whnf
    refine ⟨fun hc => ?_, fun hc => ?_⟩
    · have h := cond_t h hc
      conv => whnf
      refine ⟨Codec.one byteC [(6 : UInt8), (1 : UInt8)], bRows [(6 : UInt8), (1 : UInt8)], .inl rfl, ?_⟩
      conv => whnf
      refine ⟨_, rfl, ?_⟩
      obtain rfl := Option.some.inj h
      conv => whnf
      repeat (first | exact rfl | exact trivial | refine ⟨?_, ?_⟩)
    · have h := cond_f h hc
      conv => whnf
      refine ⟨Codec.one byteC [(6 : UInt8), (0 : UInt8)], bRows [(6 : UInt8), (0 : UInt8)], .inl rfl, ?_⟩
      conv => whnf
      refine ⟨_, rfl, ?_⟩
      obtain rfl := Option.some.inj h
      conv => whnf
      repeat (first | exact rfl | exact trivial | refine ⟨?_, ?_⟩)
  · have h := cond_f h hc
    conv => whnf
    refine ⟨fun hc => ?_, fun hc => ?_⟩
    · have h := cond_t h hc
      conv => whnf
      refine ⟨Codec.one byteC [(7 : UInt8)], bRows [(7 : UInt8)], .inl rfl, ?_⟩
      conv => whnf
      refine ⟨_, rfl, ?_⟩
      conv => whnf
      replace h := bnd_some h
      obtain ⟨x7, h2, h⟩ := h
      refine ⟨_, (F_rank_eight_ok n _  _ h2), ?_⟩
      conv => whnf
      obtain ⟨h1, h⟩ := chk_some h
      refine ⟨(of_decide_eq_true h1 : (([(7 : UInt8)].length + x7.length : Nat) : Int) ≤ maxI), ?_⟩
      obtain rfl := Option.some.inj h
      conv => whnf
      repeat (first | exact rfl | exact trivial | refine ⟨?_, ?_⟩)
    · have h := cond_f h hc
      conv => whnf
      refine ⟨fun hc => ?_, fun hc => ?_⟩
      · have h := cond_t h hc
        conv => whnf
        refine ⟨Codec.one byteC [(5 : UInt8)], bRows [(5 : UInt8)], .inl rfl, ?_⟩
        conv => whnf
        refine ⟨_, rfl, ?_⟩
        conv => whnf
        replace h := bnd_some h
        obtain ⟨x8, h4, h⟩ := h
        refine ⟨_, (F_rank_ended_ok n _  _ h4), ?_⟩
        conv => whnf
        obtain ⟨h3, h⟩ := chk_some h
        refine ⟨(of_decide_eq_true h3 : (([(5 : UInt8)].length + x8.length : Nat) : Int) ≤ maxI), ?_⟩
        obtain rfl := Option.some.inj h
        conv => whnf
        repeat (first | exact rfl | exact trivial | refine ⟨?_, ?_⟩)
      · have h := cond_f h hc
        conv => whnf
        refine ⟨fun hc => ?_, fun hc => ?_⟩
        · have h := cond_t h hc
          conv => whnf
          refine ⟨Codec.one byteC [(2 : UInt8)], bRows [(2 : UInt8)], .inl rfl, ?_⟩
          conv => whnf
          refine ⟨_, rfl, ?_⟩
          conv => whnf
          replace h := bnd_some h
          obtain ⟨x9, h6, h⟩ := h
          refine ⟨_, (F_rank_eight_ok n _  _ h6), ?_⟩
          conv => whnf
          obtain ⟨h5, h⟩ := chk_some h
          refine ⟨(of_decide_eq_true h5 : (([(2 : UInt8)].length + x9.length : Nat) : Int) ≤ maxI), ?_⟩
          obtain rfl := Option.some.inj h
          conv => whnf
          repeat (first | exact rfl | exact trivial | refine ⟨?_, ?_⟩)
        · have h := cond_f h hc
          conv => whnf
          refine ⟨fun hc => ?_, fun hc => ?_⟩
          · have h := cond_t h hc
            conv => whnf
            refine ⟨Codec.one byteC [(3 : UInt8)], bRows [(3 : UInt8)], .inl rfl, ?_⟩
            conv => whnf
            refine ⟨_, rfl, ?_⟩
            conv => whnf
            replace h := bnd_some h
            obtain ⟨x10, h8, h⟩ := h
            refine ⟨_, (F_rank_eight_ok n _  _ h8), ?_⟩
            conv => whnf
            obtain ⟨h7, h⟩ := chk_some h
            refine ⟨(of_decide_eq_true h7 : (([(3 : UInt8)].length + x10.length : Nat) : Int) ≤ maxI), ?_⟩
            obtain rfl := Option.some.inj h
            conv => whnf
            repeat (first | exact rfl | exact trivial | refine ⟨?_, ?_⟩)
          · have h := cond_f h hc
            conv => whnf
            refine SeqA.cut (S := Bool) (fun x11 => [(1, .ptr 0 0), (49, .p (.bool x11))]) (fun x11 => [.box 40 [.p (.int .i64 x1), .p (.bool x2), .p (.int .i64 x3), .p (.str x4), .p (.sl (Val.rows x5)), .p (.sl (strs x6))]]) (F_rank_lay_k1 n g81 x1 x2 x3 x4 x5 x6) (r := r) ?_ ?_
            · intro x11 h
              unfold F_rank_lay_k1 at h
              conv => whnf
              refine ⟨fun hc => ?_, fun hc => ?_⟩
              · have h := cond_t h hc
                conv => whnf
                replace h := bnd_some h
                obtain ⟨x12, h9, h⟩ := h
                refine ⟨_, (g81_ok _  _ h9), ?_⟩
                obtain rfl := Option.some.inj h
                conv => whnf
                repeat (first | exact rfl | exact trivial | refine ⟨?_, ?_⟩)
              · have h := cond_f h hc
                conv => whnf
                refine ⟨Codec.one byteC [(8 : UInt8)], bRows [(8 : UInt8)], .inl rfl, ?_⟩
                conv => whnf
                refine ⟨_, rfl, ?_⟩
                obtain rfl := Option.some.inj h
                conv => whnf
                repeat (first | exact rfl | exact trivial | refine ⟨?_, ?_⟩)
            · conv => whnf
              refine ⟨fun hc => ?_, fun hc => ?_⟩
              · have h := cond_t h hc
                conv => whnf
                exact ⟨(x1 == (4 : Int)), h, ⟨[0], [], ⟨rfl, rfl, rfl, rfl⟩, by repeat (first | exact trivial | exact .inl rfl | exact rfl | exact List.not_mem_nil | (refine .inr ?_) | (refine ⟨?_, ?_⟩) | exact List.length_set.symm | decide), by repeat (first | exact trivial | exact .inl rfl | exact rfl | exact List.not_mem_nil | (refine .inr ?_) | (refine ⟨?_, ?_⟩) | exact List.length_set.symm | decide)⟩⟩
              · have h := cond_f h hc
                conv => whnf
                exact ⟨(x1 == (5 : Int)), h, ⟨[0], [], ⟨rfl, rfl, rfl, rfl⟩, by repeat (first | exact trivial | exact .inl rfl | exact rfl | exact List.not_mem_nil | (refine .inr ?_) | (refine ⟨?_, ?_⟩) | exact List.length_set.symm | decide), by repeat (first | exact trivial | exact .inl rfl | exact rfl | exact List.not_mem_nil | (refine .inr ?_) | (refine ⟨?_, ?_⟩) | exact List.length_set.symm | decide)⟩⟩

set_option maxHeartbeats 4000000 in
set_option maxRecDepth 100000 in
theorem BF_rank_rows_ok (n : Nat) (g71 : Val → Option (List UInt8)) (g81 : Val → Option (List UInt8)) (g71_ok : ∀ (a0_ : Val) (r : List UInt8), g71 a0_ = some r → CallsF Tryd.prog 71 [PV.agg (valC.cells a0_)] (R_F_rank_lay r)) (g81_ok : ∀ (a0_ : Val) (r : List UInt8), g81 a0_ = some r → CallsF Tryd.prog 81 [PV.agg (valC.cells a0_)] (R_F_rank_rows r)) : ∀ (a0_ : Val) (r : List UInt8), BF_rank_rows n g71 g81 a0_ = some r → CallsF Tryd.prog 81 [PV.agg (valC.cells a0_)] (R_F_rank_rows r) := by
  intro a0_ r h
  obtain ⟨x1, x2, x3, x4, x5, x6⟩ := a0_
  unfold BF_rank_rows at h
  refine CallsF.of_vcN mixed (fun _ _ => Tryd.call81 _ _) Tryd.func81 (by kernel_rfl) (inl := [86, 87, 88, 89, 1000000]) ?_
  conv => whnf
  refine CallsI.of_vc mixed (fun _ _ => Tryd.call86 _ _) Tryd.func86 (by kernel_rfl) (inl := [92, 1000000]) ?_
  conv => whnf
  refine CallsI.of_vc mixed (fun _ _ => Tryd.call92 _ _) Tryd.func92 (by kernel_rfl) (inl := [97, 1000000]) ?_
  conv => whnf
  refine ⟨fun _ => ?_, fun hf => absurd hf (by first | decide | simp)⟩
  conv => whnf
  refine ⟨⟨by decide, by first | decide | exact Nat.zero_lt_succ _⟩, ?_⟩
  conv => whnf
  refine CallsI.noEscape Tryd.func97 (by kernel_rfl) (by kernel_rfl) (by kernel_rfl) (by kernel_rfl) ?_
  conv => whnf
  refine ⟨by kernel_rfl, ?_⟩
  conv => whnf
  refine ⟨Codec.one byteC [(4 : UInt8)], bRows [(4 : UInt8)], .inl rfl, ?_⟩
  conv => whnf
  obtain ⟨h10, h⟩ := chk_some h
  refine ⟨⟨Codec.wide byteC [(4 : UInt8)], of_decide_eq_true h10, len_ok h10 (by decide)⟩, ?_⟩
  conv => whnf
  refine SeqA.cut (S := List UInt8) (fun x7 => [(1, .ptr 0 0), (3, .ptr 1 0)]) (fun x7 => [.box 40 [.p (.int .i64 x1), .p (.bool x2), .p (.int .i64 x3), .p (.str x4), .p (.sl (Val.rows x5)), .p (.sl (strs x6))], .box 117 [.ptr 1 0, .tsl 2 (bRows x7)], .tail 5 1 (bRows x7).length]) (F_rank_rows_k1 n x5 x1 x6 g71) (r := r) ?_ ?_
  · intro x7 h
    unfold F_rank_rows_k1 at h
    conv => whnf
    refine LoopA.fn [86, 87, 88, 89, 1000000] (S := Int × List UInt8) (fun (x8, x9) => [(1, .ptr 0 0), (3, .ptr 1 0), (13, .p (.sl (Val.rows x5))), (14, .p (.int .i64 (((Val.rows x5).length : Nat) : Int))), (15, .p (.int .i64 x8))]) (fun (x8, x9) => [.box 40 [.p (.int .i64 x1), .p (.bool x2), .p (.int .i64 x3), .p (.str x4), .p (.sl (Val.rows x5)), .p (.sl (strs x6))], .box 117 [.ptr 1 0, .tsl 2 (bRows x9)], .tail 5 1 (bRows x9).length]) (B := F_rank_rows_l1 n x5 x1 x6 g71) h ⟨[0, 1, 2], [], ⟨rfl, rfl, rfl, rfl⟩, by repeat (first | exact trivial | exact .inl rfl | exact rfl | exact List.not_mem_nil | (refine .inr ?_) | (refine ⟨?_, ?_⟩) | exact List.length_set.symm | decide), by repeat (first | exact trivial | exact .inl rfl | exact rfl | exact List.not_mem_nil | (refine .inr ?_) | (refine ⟨?_, ?_⟩) | exact List.length_set.symm | decide)⟩ ?_
    intro nx1 st h
    obtain ⟨x8, x9⟩ := st
    unfold F_rank_rows_l1 at h
    conv => whnf
    refine ⟨fun hc => ?_, fun hc => ?_⟩
    · have h := cond_t h hc
      conv => whnf
      replace h := bnd_some h
      obtain ⟨⟨x10, x11, x12, x13, x14, x15⟩, h7, h⟩ := h
      refine ⟨_, Codec.at_ valC h7, ?_⟩
      conv => whnf
      refine SeqA.cut (S := List UInt8) (fun x16 => [(1, .ptr 0 0), (3, .ptr 1 0), (5, .ptr 2 0), (13, .p (.sl (Val.rows x5))), (14, .p (.int .i64 (((Val.rows x5).length : Nat) : Int))), (15, .p (.int .i64 x8))]) (fun x16 => [.box 40 [.p (.int .i64 x1), .p (.bool x2), .p (.int .i64 x3), .p (.str x4), .p (.sl (Val.rows x5)), .p (.sl (strs x6))], .box 117 [.ptr 1 0, .tsl 3 (bRows x16)], .box 40 [.p (.int .i64 x10), .p (.bool x11), .p (.int .i64 x12), .p (.str x13), .p (.sl (Val.rows x14)), .p (.sl (strs x15))], .tail 5 1 (bRows x16).length]) (F_rank_rows_k4 n g71 x10 x11 x12 x13 x14 x15 nx1 x8) (r := r) ?_ ?_
      · intro x16 h
        unfold F_rank_rows_k4 at h
        conv => whnf
        replace h := bnd_some h
        obtain ⟨x17, h2, h⟩ := h
        refine ⟨_, (g71_ok _  _ h2), ?_⟩
        conv => whnf
        refine CallsI.of_vc mixed (fun _ _ => Tryd.call88 _ _) Tryd.func88 (by kernel_rfl) (inl := [92, 1000000]) ?_
        conv => whnf
        refine CallsI.of_vc mixed (fun _ _ => Tryd.call92 _ _) Tryd.func92 (by kernel_rfl) (inl := [97, 1000000]) ?_
        conv => whnf
        refine ⟨fun hf => absurd hf (by first | decide | simp), fun _ => ?_⟩
        conv => whnf
        refine ⟨fun hf => absurd hf (by first | decide | simp), fun _ => ?_⟩
        conv => whnf
        rw [show bRows x16 ++ bRows x17 = bRows (x16 ++ x17) from Codec.append byteC x16 x17]
        conv => whnf
        obtain ⟨h1, h⟩ := chk_some h
        refine ⟨⟨Codec.wide byteC x16, of_decide_eq_true h1, len_ok h1 (by decide)⟩, ?_⟩
        conv => whnf
        refine ⟨⟨rfl, rfl, rfl⟩, ?_⟩
        conv => whnf
        exact ⟨((IntKind.i64.wrap (x8 + (1 : Int))), (x16 ++ x17)), h, ⟨[0, 1, 4], [], ⟨rfl, rfl, rfl, rfl⟩, by repeat (first | exact trivial | exact .inl rfl | exact rfl | exact List.not_mem_nil | (refine .inr ?_) | (refine ⟨?_, ?_⟩) | exact List.length_set.symm | decide), by repeat (first | exact trivial | exact .inl rfl | exact rfl | exact List.not_mem_nil | (refine .inr ?_) | (refine ⟨?_, ?_⟩) | exact List.length_set.symm | decide)⟩⟩
      · conv => whnf
        refine ⟨fun hc => ?_, fun hc => ?_⟩
        · have h := cond_t h hc
          conv => whnf
          refine CallsI.of_vc mixed (fun _ _ => Tryd.call86 _ _) Tryd.func86 (by kernel_rfl) (inl := [92, 1000000]) ?_
          conv => whnf
          refine CallsI.of_vc mixed (fun _ _ => Tryd.call92 _ _) Tryd.func92 (by kernel_rfl) (inl := [97, 1000000]) ?_
          conv => whnf
          refine ⟨fun hf => absurd hf (by first | decide | simp), fun _ => ?_⟩
          conv => whnf
          refine ⟨fun hf => absurd hf (by first | decide | simp), fun _ => ?_⟩
          conv => whnf
          refine ⟨Codec.one byteC [(1 : UInt8)], bRows [(1 : UInt8)], .inl rfl, ?_⟩
          conv => whnf
          rw [show bRows x9 ++ bRows [(1 : UInt8)] = bRows (x9 ++ [(1 : UInt8)]) from Codec.append byteC x9 [(1 : UInt8)]]
          conv => whnf
          obtain ⟨h6, h⟩ := chk_some h
          refine ⟨⟨Codec.wide byteC (x9 ++ [(1 : UInt8)]), of_decide_eq_true h6, len_ok h6 (by decide)⟩, ?_⟩
          conv => whnf
          refine ⟨⟨rfl, rfl, rfl⟩, ?_⟩
          conv => whnf
          replace h := bnd_some h
          obtain ⟨x18, h5, h⟩ := h
          refine ⟨_, Codec.at_ strC h5, ?_⟩
          conv => whnf
          replace h := bnd_some h
          obtain ⟨x19, h4, h⟩ := h
          refine ⟨_, (F_rank_ended_ok n _  _ h4), ?_⟩
          conv => whnf
          refine CallsI.of_vc mixed (fun _ _ => Tryd.call88 _ _) Tryd.func88 (by kernel_rfl) (inl := [92, 1000000]) ?_
          conv => whnf
          refine CallsI.of_vc mixed (fun _ _ => Tryd.call92 _ _) Tryd.func92 (by kernel_rfl) (inl := [97, 1000000]) ?_
          conv => whnf
          refine ⟨fun hf => absurd hf (by first | decide | simp), fun _ => ?_⟩
          conv => whnf
          refine ⟨fun hf => absurd hf (by first | decide | simp), fun _ => ?_⟩
          conv => whnf
          rw [show bRows (x9 ++ [(1 : UInt8)]) ++ bRows x19 = bRows ((x9 ++ [(1 : UInt8)]) ++ x19) from Codec.append byteC (x9 ++ [(1 : UInt8)]) x19]
          conv => whnf
          obtain ⟨h3, h⟩ := chk_some h
          refine ⟨⟨Codec.wide byteC (x9 ++ [(1 : UInt8)]), of_decide_eq_true h3, len_ok h3 (by decide)⟩, ?_⟩
          conv => whnf
          refine ⟨⟨rfl, rfl, rfl⟩, ?_⟩
          conv => whnf
          exact ⟨((x9 ++ [(1 : UInt8)]) ++ x19), h, ⟨[0, 1, 3, 5], [], ⟨rfl, rfl, rfl, rfl⟩, by repeat (first | exact trivial | exact .inl rfl | exact rfl | exact List.not_mem_nil | (refine .inr ?_) | (refine ⟨?_, ?_⟩) | exact List.length_set.symm | decide), by repeat (first | exact trivial | exact .inl rfl | exact rfl | exact List.not_mem_nil | (refine .inr ?_) | (refine ⟨?_, ?_⟩) | exact List.length_set.symm | decide)⟩⟩
        · have h := cond_f h hc
          conv => whnf
          exact ⟨x9, h, ⟨[0, 1, 3, 2], [], ⟨rfl, rfl, rfl, rfl⟩, by repeat (first | exact trivial | exact .inl rfl | exact rfl | exact List.not_mem_nil | (refine .inr ?_) | (refine ⟨?_, ?_⟩) | exact List.length_set.symm | decide), by repeat (first | exact trivial | exact .inl rfl | exact rfl | exact List.not_mem_nil | (refine .inr ?_) | (refine ⟨?_, ?_⟩) | exact List.length_set.symm | decide)⟩⟩
    · have h := cond_f h hc
      conv => whnf
      refine CallsI.of_vc mixed (fun _ _ => Tryd.call86 _ _) Tryd.func86 (by kernel_rfl) (inl := [92, 1000000]) ?_
      conv => whnf
      refine CallsI.of_vc mixed (fun _ _ => Tryd.call92 _ _) Tryd.func92 (by kernel_rfl) (inl := [97, 1000000]) ?_
      conv => whnf
      refine ⟨fun hf => absurd hf (by first | decide | simp), fun _ => ?_⟩
      conv => whnf
      refine ⟨fun hf => absurd hf (by first | decide | simp), fun _ => ?_⟩
      conv => whnf
      refine ⟨Codec.one byteC [(0 : UInt8)], bRows [(0 : UInt8)], .inl rfl, ?_⟩
      conv => whnf
      rw [show bRows x9 ++ bRows [(0 : UInt8)] = bRows (x9 ++ [(0 : UInt8)]) from Codec.append byteC x9 [(0 : UInt8)]]
      conv => whnf
      obtain ⟨h8, h⟩ := chk_some h
      refine ⟨⟨Codec.wide byteC (x9 ++ [(0 : UInt8)]), of_decide_eq_true h8, len_ok h8 (by decide)⟩, ?_⟩
      conv => whnf
      refine ⟨⟨rfl, rfl, rfl⟩, ?_⟩
      conv => whnf
      refine CallsI.string_any (T := 117) (E := 5) enters89 string_exact89 string_empty89 (k := 1) (j := 3) (bs := (x9 ++ [(0 : UInt8)])) (n := (bRows (x9 ++ [(0 : UInt8)])).length) rfl rfl ?_
      obtain rfl := Option.some.inj h
      conv => whnf
      repeat (first | exact rfl | exact trivial | refine ⟨?_, ?_⟩)
  · conv => whnf
    refine ⟨fun hc => ?_, fun hc => ?_⟩
    · have h := cond_t h hc
      conv => whnf
      refine CallsI.of_vc mixed (fun _ _ => Tryd.call87 _ _) Tryd.func87 (by kernel_rfl) (inl := [1000000]) ?_
      conv => whnf
      refine CallsI.of_vc mixed (fun _ _ => Tryd.call86 _ _) Tryd.func86 (by kernel_rfl) (inl := [92, 1000000]) ?_
      conv => whnf
      refine CallsI.of_vc mixed (fun _ _ => Tryd.call92 _ _) Tryd.func92 (by kernel_rfl) (inl := [97, 1000000]) ?_
      conv => whnf
      refine ⟨fun _ => ?_, fun hf => absurd hf (by first | decide | simp)⟩
      conv => whnf
      refine ⟨⟨by decide, by first | decide | exact Nat.zero_lt_succ _⟩, ?_⟩
      conv => whnf
      refine CallsI.noEscape Tryd.func97 (by kernel_rfl) (by kernel_rfl) (by kernel_rfl) (by kernel_rfl) ?_
      conv => whnf
      refine ⟨by kernel_rfl, ?_⟩
      conv => whnf
      refine ⟨Codec.one byteC [(1 : UInt8)], bRows [(1 : UInt8)], .inl rfl, ?_⟩
      conv => whnf
      obtain ⟨h9, h⟩ := chk_some h
      refine ⟨⟨Codec.wide byteC [(1 : UInt8)], of_decide_eq_true h9, len_ok h9 (by decide)⟩, ?_⟩
      conv => whnf
      exact ⟨[(1 : UInt8)], h, ⟨[0, 1, 3], [], ⟨rfl, rfl, rfl, rfl⟩, by repeat (first | exact trivial | exact .inl rfl | exact rfl | exact List.not_mem_nil | (refine .inr ?_) | (refine ⟨?_, ?_⟩) | exact List.length_set.symm | decide), by repeat (first | exact trivial | exact .inl rfl | exact rfl | exact List.not_mem_nil | (refine .inr ?_) | (refine ⟨?_, ?_⟩) | exact List.length_set.symm | decide)⟩⟩
    · have h := cond_f h hc
      conv => whnf
      exact ⟨[(4 : UInt8)], h, ⟨[0, 1, 2], [], ⟨rfl, rfl, rfl, rfl⟩, by repeat (first | exact trivial | exact .inl rfl | exact rfl | exact List.not_mem_nil | (refine .inr ?_) | (refine ⟨?_, ?_⟩) | exact List.length_set.symm | decide), by repeat (first | exact trivial | exact .inl rfl | exact rfl | exact List.not_mem_nil | (refine .inr ?_) | (refine ⟨?_, ?_⟩) | exact List.length_set.symm | decide)⟩⟩

mutual
def F_rank_lay : Nat → Val → Option (List UInt8)
  | 0 => fun _ => none
  | n + 1 => BF_rank_lay n (F_rank_lay n) (F_rank_rows n)
def F_rank_rows : Nat → Val → Option (List UInt8)
  | 0 => fun _ => none
  | n + 1 => BF_rank_rows n (F_rank_lay n) (F_rank_rows n)
end

set_option maxRecDepth 100000 in
theorem F_rank_lay_all (n : Nat) : (∀ (a0_ : Val) (r : List UInt8), F_rank_lay n a0_ = some r → CallsF Tryd.prog 71 [PV.agg (valC.cells a0_)] (R_F_rank_lay r)) ∧ (∀ (a0_ : Val) (r : List UInt8), F_rank_rows n a0_ = some r → CallsF Tryd.prog 81 [PV.agg (valC.cells a0_)] (R_F_rank_rows r)) := by
  induction n with
  | zero => exact ⟨(by intros; rename_i h; cases h), (by intros; rename_i h; cases h)⟩
  | succ n ih =>
    obtain ⟨hg71, hg81⟩ := ih
    exact ⟨BF_rank_lay_ok n (F_rank_lay n) (F_rank_rows n) hg71 hg81, BF_rank_rows_ok n (F_rank_lay n) (F_rank_rows n) hg71 hg81⟩

set_option maxRecDepth 100000 in
theorem F_rank_lay_ok (n : Nat) : ∀ (a0_ : Val) (r : List UInt8), F_rank_lay n a0_ = some r → CallsF Tryd.prog 71 [PV.agg (valC.cells a0_)] (R_F_rank_lay r) := (F_rank_lay_all n).1

set_option maxRecDepth 100000 in
theorem F_rank_rows_ok (n : Nat) : ∀ (a0_ : Val) (r : List UInt8), F_rank_rows n a0_ = some r → CallsF Tryd.prog 81 [PV.agg (valC.cells a0_)] (R_F_rank_rows r) := (F_rank_lay_all n).2

abbrev R_F_rank_Key (r : List UInt8 × Int) : PV := PV.tup [PV.str r.1, PV.int .i64 r.2]

def F_rank_Key (n : Nat)  (a0_ : Val) : Option (List UInt8 × Int) :=
  match a0_ with
  | ⟨x1, x2, x3, x4, x5, x6⟩ =>
  bnd (F_value_Check n (Val.mk x1 x2 x3 x4 x5 x6)) fun x7 =>
  bif (x7 != (0 : Int)) then (
  some (([] : List UInt8), x7))
  else (
  bnd (F_rank_lay n (Val.mk x1 x2 x3 x4 x5 x6)) fun x8 =>
  some (x8, (0 : Int)))

set_option maxRecDepth 100000 in
theorem F_rank_Key_ok (n : Nat)   : ∀ (a0_ : Val) (r : List UInt8 × Int), F_rank_Key n a0_ = some r → CallsF Tryd.prog 57 [PV.agg (valC.cells a0_)] (R_F_rank_Key r) := by
  intro a0_ r h
  obtain ⟨x1, x2, x3, x4, x5, x6⟩ := a0_
  unfold F_rank_Key at h
  refine CallsF.of_vcN mixed (fun _ _ => Tryd.call57 _ _) Tryd.func57 (by kernel_rfl) (inl := [1000000]) ?_
  conv => whnf
  replace h := bnd_some h
  obtain ⟨x7, h2, h⟩ := h
  refine ⟨_, (F_value_Check_ok n _  _ h2), ?_⟩
  conv => whnf
  refine ⟨fun hc => ?_, fun hc => ?_⟩
  · have h := cond_t h hc
    obtain rfl := Option.some.inj h
    conv => whnf
    repeat (first | exact rfl | exact trivial | refine ⟨?_, ?_⟩)
  · have h := cond_f h hc
    conv => whnf
    replace h := bnd_some h
    obtain ⟨x8, h1, h⟩ := h
    refine ⟨_, (F_rank_lay_ok n _  _ h1), ?_⟩
    obtain rfl := Option.some.inj h
    conv => whnf
    repeat (first | exact rfl | exact trivial | refine ⟨?_, ?_⟩)

abbrev R_F_rows_key (r : List UInt8) : PV := PV.str r

def F_rows_key_k3 (n : Nat) (x2 : List UInt8) (nx1 : List UInt8 × Int → Option (List UInt8)) (x3 : Int) : List UInt8 → Option (List UInt8) := fun x12 =>
 chk (decide (((x2.length + x12.length : Nat) : Int) ≤ maxI)) (
 nx1 ((x2 ++ x12), (IntKind.i64.wrap (x3 + (1 : Int)))))

def F_rows_key_l1 (n : Nat) (x1 : List Val) : (List UInt8 × Int → Option (List UInt8)) → List UInt8 × Int → Option (List UInt8) := fun nx1 (x2, x3) =>
 bif (decide (x3 < (((Val.rows x1).length : Nat) : Int))) then (
 bnd (idx x1 x3) fun ⟨x4, x5, x6, x7, x8, x9⟩ =>
 bnd (F_rank_Key n (Val.mk x4 x5 x6 x7 x8 x9)) fun ⟨x10, x11⟩ =>
 bif (x11 != (0 : Int)) then (
 F_rows_key_k3 n x2 nx1 x3 ([63] : List UInt8))
else (
 F_rows_key_k3 n x2 nx1 x3 x10))
else (
 some x2)

def F_rows_key (n : Nat)  (x1 : List Val) : Option (List UInt8) :=
  loopK (F_rows_key_l1 n x1) n (([] : List UInt8), (0 : Int))

set_option maxRecDepth 100000 in
theorem F_rows_key_ok (n : Nat)   : ∀ (x1 : List Val) (r : List UInt8), F_rows_key n x1 = some r → CallsF Tryd.prog 30 [PV.sl (Val.rows x1)] (R_F_rows_key r) := by
  intro x1 r h
  unfold F_rows_key at h
  refine CallsF.of_vcN mixed (fun _ _ => Tryd.call30 _ _) Tryd.func30 (by kernel_rfl) (inl := [1000000]) ?_
  conv => whnf
  refine LoopA.fn [1000000] (S := List UInt8 × Int) (fun (x2, x3) => [(3, .p (.str x2)), (8, .p (.sl (Val.rows x1))), (9, .p (.int .i64 (((Val.rows x1).length : Nat) : Int))), (10, .p (.int .i64 x3))]) (fun (x2, x3) => []) (B := F_rows_key_l1 n x1) h ⟨[], [], ⟨rfl, rfl, rfl, rfl⟩, by repeat (first | exact trivial | exact .inl rfl | exact rfl | exact List.not_mem_nil | (refine .inr ?_) | (refine ⟨?_, ?_⟩) | exact List.length_set.symm | decide), by repeat (first | exact trivial | exact .inl rfl | exact rfl | exact List.not_mem_nil | (refine .inr ?_) | (refine ⟨?_, ?_⟩) | exact List.length_set.symm | decide)⟩ ?_
  intro nx1 st h
  obtain ⟨x2, x3⟩ := st
  unfold F_rows_key_l1 at h
  conv => whnf
  refine ⟨fun hc => ?_, fun hc => ?_⟩
  · have h := cond_t h hc
    conv => whnf
    replace h := bnd_some h
    obtain ⟨⟨x4, x5, x6, x7, x8, x9⟩, h3, h⟩ := h
    refine ⟨_, Codec.at_ valC h3, ?_⟩
    conv => whnf
    replace h := bnd_some h
    obtain ⟨⟨x10, x11⟩, h2, h⟩ := h
    refine ⟨_, (F_rank_Key_ok n _  _ h2), ?_⟩
    conv => whnf
    refine SeqA.cut (S := List UInt8) (fun x12 => [(3, .p (.str x2)), (6, .p (.str x12)), (8, .p (.sl (Val.rows x1))), (9, .p (.int .i64 (((Val.rows x1).length : Nat) : Int))), (10, .p (.int .i64 x3))]) (fun x12 => []) (F_rows_key_k3 n x2 nx1 x3) (r := r) ?_ ?_
    · intro x12 h
      unfold F_rows_key_k3 at h
      conv => whnf
      obtain ⟨h1, h⟩ := chk_some h
      refine ⟨(of_decide_eq_true h1 : ((x2.length + x12.length : Nat) : Int) ≤ maxI), ?_⟩
      conv => whnf
      exact ⟨((x2 ++ x12), (IntKind.i64.wrap (x3 + (1 : Int)))), h, ⟨[], [], ⟨rfl, rfl, rfl, rfl⟩, by repeat (first | exact trivial | exact .inl rfl | exact rfl | exact List.not_mem_nil | (refine .inr ?_) | (refine ⟨?_, ?_⟩) | exact List.length_set.symm | decide), by repeat (first | exact trivial | exact .inl rfl | exact rfl | exact List.not_mem_nil | (refine .inr ?_) | (refine ⟨?_, ?_⟩) | exact List.length_set.symm | decide)⟩⟩
    · conv => whnf
      refine ⟨fun hc => ?_, fun hc => ?_⟩
      · have h := cond_t h hc
        conv => whnf
        exact ⟨([63] : List UInt8), h, ⟨[], [], ⟨rfl, rfl, rfl, rfl⟩, by repeat (first | exact trivial | exact .inl rfl | exact rfl | exact List.not_mem_nil | (refine .inr ?_) | (refine ⟨?_, ?_⟩) | exact List.length_set.symm | decide), by repeat (first | exact trivial | exact .inl rfl | exact rfl | exact List.not_mem_nil | (refine .inr ?_) | (refine ⟨?_, ?_⟩) | exact List.length_set.symm | decide)⟩⟩
      · have h := cond_f h hc
        conv => whnf
        exact ⟨x10, h, ⟨[], [], ⟨rfl, rfl, rfl, rfl⟩, by repeat (first | exact trivial | exact .inl rfl | exact rfl | exact List.not_mem_nil | (refine .inr ?_) | (refine ⟨?_, ?_⟩) | exact List.length_set.symm | decide), by repeat (first | exact trivial | exact .inl rfl | exact rfl | exact List.not_mem_nil | (refine .inr ?_) | (refine ⟨?_, ?_⟩) | exact List.length_set.symm | decide)⟩⟩
  · have h := cond_f h hc
    obtain rfl := Option.some.inj h
    conv => whnf
    repeat (first | exact rfl | exact trivial | refine ⟨?_, ?_⟩)

abbrev R_F_value_Copy (r : Val) : PV := PV.agg (valC.cells r)

def F_value_Copy_l1 (n : Nat) (x7 : Nat) (g54 : Val → Option (Val)) (x6 : List (List UInt8)) (x1 : Int) (x2 : Bool) (x3 : Int) (x4 : List UInt8) : (Int × List Val → Option (Val)) → Int × List Val → Option (Val) := fun nx1 (x8, x9) =>
 bif (decide (x8 < ((((Val.rows (List.replicate x7 (Val.mk (0 : Int) false (0 : Int) ([] : List UInt8) ([] : List Val) ([] : List (List UInt8))))).length) : Nat) : Int))) then (
 bnd (natI x8) fun x10 =>
 chk (decide (x10 < (Val.rows (List.replicate x7 (Val.mk (0 : Int) false (0 : Int) ([] : List UInt8) ([] : List Val) ([] : List (List UInt8))))).length)) (
 bnd (x9[x10]?) fun ⟨x11, x12, x13, x14, x15, x16⟩ =>
 bnd (g54 (Val.mk x11 x12 x13 x14 x15 x16)) fun ⟨x17, x18, x19, x20, x21, x22⟩ =>
 bnd (natI x8) fun x23 =>
 chk (decide (x23 < (Val.rows (List.replicate x7 (Val.mk (0 : Int) false (0 : Int) ([] : List UInt8) ([] : List Val) ([] : List (List UInt8))))).length)) (
 bnd (x9[x23]?) fun ⟨x24, x25, x26, x27, x28, x29⟩ =>
 nx1 ((IntKind.i64.wrap (x8 + (1 : Int))), (x9.set x23 (Val.mk x17 x18 x19 x20 x21 x22))))))
else (
 chk (decide ((strs x6).length * 16 ≤ 140737488355328)) (
 some (Val.mk x1 x2 x3 x4 x9 x6)))

def BF_value_Copy (n : Nat) (g54 : Val → Option (Val)) (a0_ : Val) : Option (Val) :=
  match a0_ with
  | ⟨x1, x2, x3, x4, x5, x6⟩ =>
  bnd (natI (((Val.rows x5).length : Nat) : Int)) fun x7 =>
  chk (decide (x7 * 88 ≤ 140737488355328)) (
  chk (decide ((Val.rows x5).length = (Val.rows (List.replicate x7 (Val.mk (0 : Int) false (0 : Int) ([] : List UInt8) ([] : List Val) ([] : List (List UInt8))))).length)) (
  loopK (F_value_Copy_l1 n x7 g54 x6 x1 x2 x3 x4) n ((0 : Int), x5)))

set_option maxRecDepth 100000 in
theorem BF_value_Copy_ok (n : Nat) (g54 : Val → Option (Val)) (g54_ok : ∀ (a0_ : Val) (r : Val), g54 a0_ = some r → CallsF Tryd.prog 54 [PV.agg (valC.cells a0_)] (R_F_value_Copy r)) : ∀ (a0_ : Val) (r : Val), BF_value_Copy n g54 a0_ = some r → CallsF Tryd.prog 54 [PV.agg (valC.cells a0_)] (R_F_value_Copy r) := by
  intro a0_ r h
  obtain ⟨x1, x2, x3, x4, x5, x6⟩ := a0_
  unfold BF_value_Copy at h
  refine CallsF.of_vcN mixed (fun _ _ => Tryd.call54 _ _) Tryd.func54 (by kernel_rfl) (inl := [65, 10000008, 1000000]) ?_
  conv => whnf
  replace h := bnd_some h
  obtain ⟨x7, h11, h⟩ := h
  have hj := natI_some h11
  conv => whnf
  obtain ⟨h10, h⟩ := chk_some h
  refine ⟨x7, Val.rows (List.replicate x7 (Val.mk (0 : Int) false (0 : Int) ([] : List UInt8) ([] : List Val) ([] : List (List UInt8)))), ⟨hj, hj, of_decide_eq_true h10, len_ok h10 (by decide), Codec.madeN valC (Val.mk (0 : Int) false (0 : Int) ([] : List UInt8) ([] : List Val) ([] : List (List UInt8))) x7 (by repeat (first | exact rfl | exact trivial | refine ⟨?_, ?_⟩)), rfl, by decide, rfl⟩, ?_⟩
  conv => whnf
  obtain ⟨h9, h⟩ := chk_some h
  refine ⟨⟨rfl, of_decide_eq_true h9, Codec.wide valC x5⟩, ?_⟩
  conv => whnf
  refine LoopA.fn [65, 10000008, 1000000] (S := Int × List Val) (fun (x8, x9) => [(1, .ptr 0 0), (2, .ptr 1 0), (3, .vsl 2 ((Val.rows (List.replicate x7 (Val.mk (0 : Int) false (0 : Int) ([] : List UInt8) ([] : List Val) ([] : List (List UInt8))))).length)), (14, .p (.int .i64 ((((Val.rows (List.replicate x7 (Val.mk (0 : Int) false (0 : Int) ([] : List UInt8) ([] : List Val) ([] : List (List UInt8))))).length) : Nat) : Int))), (15, .p (.int .i64 x8))]) (fun (x8, x9) => [.box 40 [.p (.int .i64 x1), .p (.bool x2), .p (.int .i64 x3), .p (.str x4), .p (.sl (Val.rows x5)), .p (.sl (strs x6))], .box 40 [.p (.int .i64 (0 : Int)), .p (.bool false), .p (.int .i64 (0 : Int)), .p (.str ([] : List UInt8)), .p (.nilsl), .p (.nilsl)], .vec 40 6 (Val.rows x9)]) (B := F_value_Copy_l1 n x7 g54 x6 x1 x2 x3 x4) h ⟨[0, 1, 2], [], ⟨rfl, rfl, rfl, rfl⟩, by repeat (first | exact trivial | exact .inl rfl | exact rfl | exact List.not_mem_nil | (refine .inr ?_) | (refine ⟨?_, ?_⟩) | exact List.length_set.symm | decide), by repeat (first | exact trivial | exact .inl rfl | exact rfl | exact List.not_mem_nil | (refine .inr ?_) | (refine ⟨?_, ?_⟩) | exact List.length_set.symm | decide)⟩ ?_
  intro nx1 st h
  obtain ⟨x8, x9⟩ := st
  unfold F_value_Copy_l1 at h
  conv => whnf
  refine ⟨fun hc => ?_, fun hc => ?_⟩
  · have h := cond_t h hc
    conv => whnf
    replace h := bnd_some h
    obtain ⟨x10, h7, h⟩ := h
    have hj := natI_some h7
    conv => whnf
    obtain ⟨h6, h⟩ := chk_some h
    refine ⟨x10, ⟨hj, of_decide_eq_true h6⟩, ?_⟩
    conv => whnf
    replace h := bnd_some h
    obtain ⟨⟨x11, x12, x13, x14, x15, x16⟩, h5, h⟩ := h
    refine ⟨_, ⟨rfl, Codec.getN valC h5⟩, ?_⟩
    conv => whnf
    replace h := bnd_some h
    obtain ⟨⟨x17, x18, x19, x20, x21, x22⟩, h4, h⟩ := h
    refine ⟨_, (g54_ok _  _ h4), ?_⟩
    conv => whnf
    replace h := bnd_some h
    obtain ⟨x23, h3, h⟩ := h
    have hj := natI_some h3
    conv => whnf
    obtain ⟨h2, h⟩ := chk_some h
    refine ⟨x23, ⟨hj, of_decide_eq_true h2⟩, ?_⟩
    conv => whnf
    replace h := bnd_some h
    obtain ⟨⟨x24, x25, x26, x27, x28, x29⟩, h1, h⟩ := h
    refine ⟨_, ⟨rfl, Codec.getN valC h1, rfl⟩, ?_⟩
    conv => whnf
    refine ⟨_, Codec.setN valC x9 x23 (Val.mk x17 x18 x19 x20 x21 x22), ?_⟩
    conv => whnf
    exact ⟨((IntKind.i64.wrap (x8 + (1 : Int))), (x9.set x23 (Val.mk x17 x18 x19 x20 x21 x22))), h, ⟨[0, 1, 2], [], ⟨rfl, rfl, rfl, rfl⟩, by repeat (first | exact trivial | exact .inl rfl | exact rfl | exact List.not_mem_nil | (refine .inr ?_) | (refine ⟨?_, ?_⟩) | exact List.length_set.symm | decide), by repeat (first | exact trivial | exact .inl rfl | exact rfl | exact List.not_mem_nil | (refine .inr ?_) | (refine ⟨?_, ?_⟩) | exact List.length_set.symm | decide)⟩⟩
  · have h := cond_f h hc
    conv => whnf
    obtain ⟨h8, h⟩ := chk_some h
    refine CallsO.use (Clone_ok x6 (of_decide_eq_true h8)) [] [] ⟨rfl, rfl, rfl, rfl, rfl, rfl⟩ (by repeat (first | exact trivial | exact .inl rfl | exact rfl | exact List.not_mem_nil | (refine .inr ?_) | (refine ⟨?_, ?_⟩) | exact List.length_set.symm | decide)) (by repeat (first | exact trivial | exact .inl rfl | exact rfl | exact List.not_mem_nil | (refine .inr ?_) | (refine ⟨?_, ?_⟩) | exact List.length_set.symm | decide)) ?_
    rintro _ _ ⟨rfl, rfl⟩
    refine ⟨.tsl 3 (strs x6), [.box 40 [.p (.int .i64 x1), .p (.bool x2), .p (.int .i64 x3), .p (.str x4), .vsl 2 ((Val.rows (List.replicate x7 (Val.mk (0 : Int) false (0 : Int) ([] : List UInt8) ([] : List Val) ([] : List (List UInt8))))).length), .p (.sl (strs x6))], .box 40 [.p (.int .i64 (0 : Int)), .p (.bool false), .p (.int .i64 (0 : Int)), .p (.str ([] : List UInt8)), .p (.nilsl), .p (.nilsl)], .vec 40 6 (Val.rows x9), .tail 9 1 (strs x6).length], rfl, rfl, ?_⟩
    obtain rfl := Option.some.inj h
    conv => whnf
    repeat (first | exact rfl | exact trivial | refine ⟨?_, ?_⟩)

def F_value_Copy : Nat → Val → Option (Val)
  | 0 => fun _ => none
  | n + 1 => BF_value_Copy n (F_value_Copy n)

set_option maxRecDepth 100000 in
theorem F_value_Copy_all (n : Nat) : (∀ (a0_ : Val) (r : Val), F_value_Copy n a0_ = some r → CallsF Tryd.prog 54 [PV.agg (valC.cells a0_)] (R_F_value_Copy r)) := by
  induction n with
  | zero => exact (by intros; rename_i h; cases h)
  | succ n ih =>
    have hg54 := ih
    exact BF_value_Copy_ok n (F_value_Copy n) hg54

set_option maxRecDepth 100000 in
theorem F_value_Copy_ok (n : Nat) : ∀ (a0_ : Val) (r : Val), F_value_Copy n a0_ = some r → CallsF Tryd.prog 54 [PV.agg (valC.cells a0_)] (R_F_value_Copy r) := (F_value_Copy_all n)

abbrev R_F_rows_copied (r : List Val) : PV := PV.sl (Val.rows r)

def F_rows_copied_l1 (n : Nat) (x1 : List Val) : (List Val × Int → Option (List Val)) → List Val × Int → Option (List Val) := fun nx1 (x3, x4) =>
 bif (decide (x4 < (((Val.rows x1).length : Nat) : Int))) then (
 bnd (idx x1 x4) fun ⟨x5, x6, x7, x8, x9, x10⟩ =>
 bnd (F_value_Copy n (Val.mk x5 x6 x7 x8 x9 x10)) fun ⟨x11, x12, x13, x14, x15, x16⟩ =>
 chk (decide ((Val.rows (x3 ++ [Val.mk x11 x12 x13 x14 x15 x16])).length * 88 ≤ 140737488355328)) (
 nx1 ((x3 ++ [Val.mk x11 x12 x13 x14 x15 x16]), (IntKind.i64.wrap (x4 + (1 : Int))))))
else (
 some x3)

def F_rows_copied (n : Nat)  (x1 : List Val) : Option (List Val) :=
  bnd (natI (((Val.rows x1).length : Nat) : Int)) fun x2 =>
  chk (decide (x2 * 88 ≤ 140737488355328)) (
  loopK (F_rows_copied_l1 n x1) n (([] : List Val), (0 : Int)))

set_option maxRecDepth 100000 in
theorem F_rows_copied_ok (n : Nat)   : ∀ (x1 : List Val) (r : List Val), F_rows_copied n x1 = some r → CallsF Tryd.prog 32 [PV.sl (Val.rows x1)] (R_F_rows_copied r) := by
  intro x1 r h
  unfold F_rows_copied at h
  refine CallsF.of_vcN mixed (fun _ _ => Tryd.call32 _ _) Tryd.func32 (by kernel_rfl) (inl := [1000000]) ?_
  conv => whnf
  replace h := bnd_some h
  obtain ⟨x2, h5, h⟩ := h
  have hj := natI_some h5
  conv => whnf
  obtain ⟨h4, h⟩ := chk_some h
  refine ⟨x2, ⟨rfl, hj, of_decide_eq_true h4, len_ok h4 (by decide)⟩, ?_⟩
  conv => whnf
  refine LoopA.fn [1000000] (S := List Val × Int) (fun (x3, x4) => [(3, .tsl 0 (Val.rows x3)), (9, .p (.sl (Val.rows x1))), (10, .p (.int .i64 (((Val.rows x1).length : Nat) : Int))), (11, .p (.int .i64 x4))]) (fun (x3, x4) => [.tail 40 6 (Val.rows x3).length]) (B := F_rows_copied_l1 n x1) h ⟨[0], [], ⟨rfl, rfl, rfl, rfl⟩, by repeat (first | exact trivial | exact .inl rfl | exact rfl | exact List.not_mem_nil | (refine .inr ?_) | (refine ⟨?_, ?_⟩) | exact List.length_set.symm | decide), by repeat (first | exact trivial | exact .inl rfl | exact rfl | exact List.not_mem_nil | (refine .inr ?_) | (refine ⟨?_, ?_⟩) | exact List.length_set.symm | decide)⟩ ?_
  intro nx1 st h
  obtain ⟨x3, x4⟩ := st
  unfold F_rows_copied_l1 at h
  conv => whnf
  refine ⟨fun hc => ?_, fun hc => ?_⟩
  · have h := cond_t h hc
    conv => whnf
    replace h := bnd_some h
    obtain ⟨⟨x5, x6, x7, x8, x9, x10⟩, h3, h⟩ := h
    refine ⟨_, Codec.at_ valC h3, ?_⟩
    conv => whnf
    replace h := bnd_some h
    obtain ⟨⟨x11, x12, x13, x14, x15, x16⟩, h2, h⟩ := h
    refine ⟨_, (F_value_Copy_ok n _  _ h2), ?_⟩
    conv => whnf
    refine ⟨Codec.one valC [Val.mk x11 x12 x13 x14 x15 x16], Val.rows [Val.mk x11 x12 x13 x14 x15 x16], .inl rfl, ?_⟩
    conv => whnf
    rw [show Val.rows x3 ++ Val.rows [Val.mk x11 x12 x13 x14 x15 x16] = Val.rows (x3 ++ [Val.mk x11 x12 x13 x14 x15 x16]) from Codec.append valC x3 [Val.mk x11 x12 x13 x14 x15 x16]]
    conv => whnf
    obtain ⟨h1, h⟩ := chk_some h
    refine ⟨⟨Codec.wide valC (x3 ++ [Val.mk x11 x12 x13 x14 x15 x16]), of_decide_eq_true h1, len_ok h1 (by decide)⟩, ?_⟩
    conv => whnf
    refine ⟨⟨rfl, rfl, rfl⟩, ?_⟩
    conv => whnf
    exact ⟨((x3 ++ [Val.mk x11 x12 x13 x14 x15 x16]), (IntKind.i64.wrap (x4 + (1 : Int)))), h, ⟨[2], [], ⟨rfl, rfl, rfl, rfl⟩, by repeat (first | exact trivial | exact .inl rfl | exact rfl | exact List.not_mem_nil | (refine .inr ?_) | (refine ⟨?_, ?_⟩) | exact List.length_set.symm | decide), by repeat (first | exact trivial | exact .inl rfl | exact rfl | exact List.not_mem_nil | (refine .inr ?_) | (refine ⟨?_, ?_⟩) | exact List.length_set.symm | decide)⟩⟩
  · have h := cond_f h hc
    obtain rfl := Option.some.inj h
    conv => whnf
    repeat (first | exact rfl | exact trivial | refine ⟨?_, ?_⟩)

abbrev R_F_rows_Unique_c1 (r : List Val) : PV := PV.sl (Val.rows r)

def F_rows_Unique_c1 (n : Nat)  (x1 : List Val) : Option (List Val) :=
  bnd (F_rows_copied n x1) fun x2 =>
  some x2

set_option maxRecDepth 100000 in
theorem F_rows_Unique_c1_ok (n : Nat)   : ∀ (x1 : List Val) (r : List Val), F_rows_Unique_c1 n x1 = some r → CallsF Tryd.prog 31 [PV.hp [PV.sl (Val.rows x1)]] (R_F_rows_Unique_c1 r) := by
  intro x1 r h
  unfold F_rows_Unique_c1 at h
  refine CallsF.of_vcN mixed (fun _ _ => Tryd.call31 _ _) Tryd.func31 (by kernel_rfl) (inl := [1000000]) ?_
  conv => whnf
  replace h := bnd_some h
  obtain ⟨x2, h1, h⟩ := h
  refine ⟨_, (F_rows_copied_ok n _  _ h1), ?_⟩
  obtain rfl := Option.some.inj h
  conv => whnf
  repeat (first | exact rfl | exact trivial | refine ⟨?_, ?_⟩)

abbrev R_F_rows_Unique (r : List (List Val)) : PV := PV.sl (slRows valC r)

def F_rows_Unique_k3 (n : Nat) (nx1 : Int × List (List Val) × List ((List UInt8) × Int) → Option (List (List Val))) (x2 : Int) : Int × List (List Val) × List ((List UInt8) × Int) → Option (List (List Val)) := fun (x7, x8, x9) =>
 nx1 ((IntKind.i64.wrap (x2 + (1 : Int))), x8, x9)

def F_rows_Unique_l1 (n : Nat) (x1 : List (List Val)) : (Int × List (List Val) × List ((List UInt8) × Int) → Option (List (List Val))) → Int × List (List Val) × List ((List UInt8) × Int) → Option (List (List Val)) := fun nx1 (x2, x3, x4) =>
 bif (decide (x2 < (((slRows valC x1).length : Nat) : Int))) then (
 bnd (idx x1 x2) fun x5 =>
 bnd (F_rows_key n x5) fun x6 =>
 bif (!(mhas x4 x6)) then (
 bnd (F_rows_Unique_c1 n x5) fun x10 =>
 chk (decide ((slRows valC (x3 ++ [x10])).length * 24 ≤ 140737488355328)) (
 F_rows_Unique_k3 n nx1 x2 ((((slRows valC x3).length : Nat) : Int), (x3 ++ [x10]), (mset x6 (((slRows valC x3).length : Nat) : Int) x4))))
else (
 F_rows_Unique_k3 n nx1 x2 ((mgetD x4 x6 (0 : Int)), x3, x4)))
else (
 some x3)

def F_rows_Unique (n : Nat)  (x1 : List (List Val)) : Option (List (List Val)) :=
  loopK (F_rows_Unique_l1 n x1) n ((0 : Int), ([] : List _), ([] : List ((List UInt8) × Int)))

set_option maxHeartbeats 4000000 in
set_option maxRecDepth 100000 in
theorem F_rows_Unique_ok (n : Nat)   : ∀ (x1 : List (List Val)) (r : List (List Val)), F_rows_Unique n x1 = some r → CallsF Tryd.prog 12 [PV.sl (slRows valC x1)] (R_F_rows_Unique r) := by
  intro x1 r h
  unfold F_rows_Unique at h
  refine CallsF.of_vcN mixed (fun _ _ => Tryd.call12 _ _) Tryd.func12 (by kernel_rfl) (inl := [28, 29, 33, 1000000]) ?_
  conv => whnf
  refine CallsI.of_vc mixed (fun _ _ => Tryd.call28 _ _) Tryd.func28 (by kernel_rfl) (inl := [1000000]) ?_
  conv => whnf
  refine LoopA.fn [28, 29, 33, 1000000] (S := Int × List (List Val) × List ((List UInt8) × Int)) (fun (x2, x3, x4) => [(3, .ptr 0 0), (7, .p (.sl (slRows valC x1))), (8, .p (.int .i64 (((slRows valC x1).length : Nat) : Int))), (9, .p (.int .i64 x2))]) (fun (x2, x3, x4) => [.box 87 [.mref 1, .tsl 2 (slRows valC x3)], .mp .string (mRows PV.str (PV.int .i64) x4) none, .tail 37 1 (slRows valC x3).length]) (B := F_rows_Unique_l1 n x1) h ⟨[1, 0, 0], [2], ⟨rfl, rfl, rfl, rfl⟩, by repeat (first | exact trivial | exact .inl rfl | exact rfl | exact List.not_mem_nil | (refine .inr ?_) | (refine ⟨?_, ?_⟩) | exact List.length_set.symm | decide), by repeat (first | exact trivial | exact .inl rfl | exact rfl | exact List.not_mem_nil | (refine .inr ?_) | (refine ⟨?_, ?_⟩) | exact List.length_set.symm | decide)⟩ ?_
  intro nx1 st h
  obtain ⟨x2, x3, x4⟩ := st
  unfold F_rows_Unique_l1 at h
  conv => whnf
  refine ⟨fun hc => ?_, fun hc => ?_⟩
  · have h := cond_t h hc
    conv => whnf
    replace h := bnd_some h
    obtain ⟨x5, h4, h⟩ := h
    refine ⟨_, Codec.at_ (slC valC) h4, ?_⟩
    conv => whnf
    replace h := bnd_some h
    obtain ⟨x6, h3, h⟩ := h
    refine ⟨_, (F_rows_key_ok n _  _ h3), ?_⟩
    conv => whnf
    refine CallsI.pubBox (P := Tryd.prog) (f := 29) 3 (t := 37) (cells := [.p (.sl (Val.rows x5))]) (row := [PV.sl (Val.rows x5)]) ?_ ?_ ?_ ?_
    rfl
    rfl
    rfl
    refine CallsI.of_vc mixed (fun _ _ => Tryd.call29 _ _) Tryd.func29 (by kernel_rfl) (inl := [1000000]) ?_
    conv => whnf
    refine ⟨PV.int .i64 (mgetD x4 x6 (0 : Int)), (mhas x4 x6), ⟨look_D keyStr (PV.int .i64) x4 x6 (0 : Int), look_b keyStr (PV.int .i64) x4 x6⟩, ?_⟩
    conv => whnf
    refine SeqA.cut (S := Int × List (List Val) × List ((List UInt8) × Int)) (fun (x7, x8, x9) => [(8, .p (.int .i64 x7)), (9, .p (.bool (mhas x4 x6)))]) (fun (x7, x8, x9) => [.box 87 [.mref 1, .tsl 4 (slRows valC x8)], .mp .string (mRows PV.str (PV.int .i64) x9) none, .dead, .dead, .tail 37 1 (slRows valC x8).length]) (F_rows_Unique_k3 n nx1 x2) (r := r) ?_ ?_
    · intro st h
      obtain ⟨x7, x8, x9⟩ := st
      unfold F_rows_Unique_k3 at h
      conv => whnf
      exact ⟨((IntKind.i64.wrap (x2 + (1 : Int))), x8, x9), h, ⟨[0, 1, 4], [], ⟨rfl, rfl, rfl, rfl⟩, by repeat (first | exact trivial | exact .inl rfl | exact rfl | exact List.not_mem_nil | (refine .inr ?_) | (refine ⟨?_, ?_⟩) | exact List.length_set.symm | decide), by repeat (first | exact trivial | exact .inl rfl | exact rfl | exact List.not_mem_nil | (refine .inr ?_) | (refine ⟨?_, ?_⟩) | exact List.length_set.symm | decide)⟩⟩
    · conv => whnf
      refine ⟨fun hc => ?_, fun hc => ?_⟩
      · have h := cond_t h hc
        conv => whnf
        refine ⟨_, set_rows keyStr (PV.int .i64) x6 (((slRows valC x3).length : Nat) : Int) x4, ?_⟩
        conv => whnf
        replace h := bnd_some h
        obtain ⟨x10, h2, h⟩ := h
        refine ⟨_, (F_rows_Unique_c1_ok n _  _ h2), ?_⟩
        conv => whnf
        refine ⟨Codec.one (slC valC) [x10], slRows valC [x10], .inl rfl, ?_⟩
        conv => whnf
        rw [show slRows valC x3 ++ slRows valC [x10] = slRows valC (x3 ++ [x10]) from Codec.append (slC valC) x3 [x10]]
        conv => whnf
        obtain ⟨h1, h⟩ := chk_some h
        refine ⟨⟨Codec.wide (slC valC) (x3 ++ [x10]), of_decide_eq_true h1, len_ok h1 (by decide)⟩, ?_⟩
        conv => whnf
        refine ⟨⟨rfl, rfl, rfl⟩, ?_⟩
        conv => whnf
        exact ⟨((((slRows valC x3).length : Nat) : Int), (x3 ++ [x10]), (mset x6 (((slRows valC x3).length : Nat) : Int) x4)), h, ⟨[0, 1, 2, 3, 4], [], ⟨rfl, rfl, rfl, rfl⟩, by repeat (first | exact trivial | exact .inl rfl | exact rfl | exact List.not_mem_nil | (refine .inr ?_) | (refine ⟨?_, ?_⟩) | exact List.length_set.symm | decide), by repeat (first | exact trivial | exact .inl rfl | exact rfl | exact List.not_mem_nil | (refine .inr ?_) | (refine ⟨?_, ?_⟩) | exact List.length_set.symm | decide)⟩⟩
      · have h := cond_f h hc
        conv => whnf
        exact ⟨((mgetD x4 x6 (0 : Int)), x3, x4), h, ⟨[0, 1, 2, 3, 2], [], ⟨rfl, rfl, rfl, rfl⟩, by repeat (first | exact trivial | exact .inl rfl | exact rfl | exact List.not_mem_nil | (refine .inr ?_) | (refine ⟨?_, ?_⟩) | exact List.length_set.symm | decide), by repeat (first | exact trivial | exact .inl rfl | exact rfl | exact List.not_mem_nil | (refine .inr ?_) | (refine ⟨?_, ?_⟩) | exact List.length_set.symm | decide)⟩⟩
  · have h := cond_f h hc
    conv => whnf
    refine CallsI.of_vc mixed (fun _ _ => Tryd.call33 _ _) Tryd.func33 (by kernel_rfl) (inl := [1000000]) ?_
    obtain rfl := Option.some.inj h
    conv => whnf
    repeat (first | exact rfl | exact trivial | refine ⟨?_, ?_⟩)

abbrev R_F_value_place (r : Int) : PV := PV.int .i64 r

def F_value_place (n : Nat)  (x1 : Int) : Option (Int) :=
  bnd (idx [(7 : Int), (5 : Int), (6 : Int), (4 : Int), (3 : Int), (0 : Int), (1 : Int), (2 : Int)] x1) fun x2 =>
  some x2

set_option maxRecDepth 100000 in
theorem F_value_place_ok (n : Nat)   : ∀ (x1 : Int) (r : Int), F_value_place n x1 = some r → CallsF Tryd.prog 42 [PV.int .i64 x1] (R_F_value_place r) := by
  intro x1 r h
  unfold F_value_place at h
  refine CallsF.of_vcN mixed (fun _ _ => Tryd.call42 _ _) Tryd.func42 (by kernel_rfl) (inl := [1000000]) ?_
  conv => whnf
  refine ⟨rfl, all_one rfl, ?_⟩
  conv => whnf
  replace h := bnd_some h
  obtain ⟨x2, h1, h⟩ := h
  refine ⟨_, arr_at (k := .i64) h1 rfl (by decide), ?_⟩
  obtain rfl := Option.some.inj h
  conv => whnf
  repeat (first | exact rfl | exact trivial | refine ⟨?_, ?_⟩)

abbrev R_F_cmp_isNaN_int (r : Bool) : PV := PV.bool r

def F_cmp_isNaN_int (n : Nat)  (x1 : Int) : Option (Bool) :=
  some (x1 != x1)

set_option maxRecDepth 100000 in
theorem F_cmp_isNaN_int_ok (n : Nat)   : ∀ (x1 : Int) (r : Bool), F_cmp_isNaN_int n x1 = some r → CallsF Tryd.prog 61 [PV.int .i64 x1] (R_F_cmp_isNaN_int r) := by
  intro x1 r h
  unfold F_cmp_isNaN_int at h
  refine CallsF.of_vcN mixed (fun _ _ => Tryd.call61 _ _) Tryd.func61 (by kernel_rfl) (inl := [1000000]) ?_
  obtain rfl := Option.some.inj h
  conv => whnf
  repeat (first | exact rfl | exact trivial | refine ⟨?_, ?_⟩)

abbrev R_F_cmp_Compare_int (r : Int) : PV := PV.int .i64 r

def F_cmp_Compare_int (n : Nat)  (x1 : Int) (x2 : Int) : Option (Int) :=
  bnd (F_cmp_isNaN_int n x1) fun x3 =>
  bnd (F_cmp_isNaN_int n x2) fun x4 =>
  bif x3 then (
  bif x4 then (
  some (0 : Int))
  else (
  some (-1 : Int)))
  else (
  bif x4 then (
  some (1 : Int))
  else (
  bif (decide (x1 < x2)) then (
  some (-1 : Int))
  else (
  bif (decide (x1 > x2)) then (
  some (1 : Int))
  else (
  some (0 : Int)))))

set_option maxRecDepth 100000 in
theorem F_cmp_Compare_int_ok (n : Nat)   : ∀ (x1 : Int) (x2 : Int) (r : Int), F_cmp_Compare_int n x1 x2 = some r → CallsF Tryd.prog 41 [PV.int .i64 x1, PV.int .i64 x2] (R_F_cmp_Compare_int r) := by
  intro x1 x2 r h
  unfold F_cmp_Compare_int at h
  refine CallsF.of_vcN mixed (fun _ _ => Tryd.call41 _ _) Tryd.func41 (by kernel_rfl) (inl := [1000000]) ?_
  conv => whnf
  replace h := bnd_some h
  obtain ⟨x3, h2, h⟩ := h
  refine ⟨_, (F_cmp_isNaN_int_ok n _  _ h2), ?_⟩
  conv => whnf
  replace h := bnd_some h
  obtain ⟨x4, h1, h⟩ := h
  refine ⟨_, (F_cmp_isNaN_int_ok n _  _ h1), ?_⟩
  conv => whnf
  refine ⟨fun hc => ?_, fun hc => ?_⟩
  · have h := cond_t h hc
    conv => whnf
    refine ⟨fun hc => ?_, fun hc => ?_⟩
    · have h := cond_t h hc
      obtain rfl := Option.some.inj h
      conv => whnf
      repeat (first | exact rfl | exact trivial | refine ⟨?_, ?_⟩)
    · have h := cond_f h hc
      obtain rfl := Option.some.inj h
      conv => whnf
      repeat (first | exact rfl | exact trivial | refine ⟨?_, ?_⟩)
  · have h := cond_f h hc
    conv => whnf
    refine ⟨fun hc => ?_, fun hc => ?_⟩
    · have h := cond_t h hc
      obtain rfl := Option.some.inj h
      conv => whnf
      repeat (first | exact rfl | exact trivial | refine ⟨?_, ?_⟩)
    · have h := cond_f h hc
      conv => whnf
      refine ⟨fun hc => ?_, fun hc => ?_⟩
      · have h := cond_t h hc
        obtain rfl := Option.some.inj h
        conv => whnf
        repeat (first | exact rfl | exact trivial | refine ⟨?_, ?_⟩)
      · have h := cond_f h hc
        conv => whnf
        refine ⟨fun hc => ?_, fun hc => ?_⟩
        · have h := cond_t h hc
          obtain rfl := Option.some.inj h
          conv => whnf
          repeat (first | exact rfl | exact trivial | refine ⟨?_, ?_⟩)
        · have h := cond_f h hc
          obtain rfl := Option.some.inj h
          conv => whnf
          repeat (first | exact rfl | exact trivial | refine ⟨?_, ?_⟩)

abbrev R_F_cmp_isNaN_string (r : Bool) : PV := PV.bool r

def F_cmp_isNaN_string (n : Nat)  (x1 : List UInt8) : Option (Bool) :=
  some (!(x1 == x1))

set_option maxRecDepth 100000 in
theorem F_cmp_isNaN_string_ok (n : Nat)   : ∀ (x1 : List UInt8) (r : Bool), F_cmp_isNaN_string n x1 = some r → CallsF Tryd.prog 62 [PV.str x1] (R_F_cmp_isNaN_string r) := by
  intro x1 r h
  unfold F_cmp_isNaN_string at h
  refine CallsF.of_vcN mixed (fun _ _ => Tryd.call62 _ _) Tryd.func62 (by kernel_rfl) (inl := [1000000]) ?_
  obtain rfl := Option.some.inj h
  conv => whnf
  repeat (first | exact rfl | exact trivial | refine ⟨?_, ?_⟩)

abbrev R_F_cmp_Compare_string (r : Int) : PV := PV.int .i64 r

def F_cmp_Compare_string (n : Nat)  (x1 : List UInt8) (x2 : List UInt8) : Option (Int) :=
  bnd (F_cmp_isNaN_string n x1) fun x3 =>
  bnd (F_cmp_isNaN_string n x2) fun x4 =>
  bif x3 then (
  bif x4 then (
  some (0 : Int))
  else (
  some (-1 : Int)))
  else (
  bif x4 then (
  some (1 : Int))
  else (
  bif (Op.bytesLess x1 x2) then (
  some (-1 : Int))
  else (
  bif (!(Op.bytesLess x1 x2 || x1 == x2)) then (
  some (1 : Int))
  else (
  some (0 : Int)))))

set_option maxRecDepth 100000 in
theorem F_cmp_Compare_string_ok (n : Nat)   : ∀ (x1 : List UInt8) (x2 : List UInt8) (r : Int), F_cmp_Compare_string n x1 x2 = some r → CallsF Tryd.prog 43 [PV.str x1, PV.str x2] (R_F_cmp_Compare_string r) := by
  intro x1 x2 r h
  unfold F_cmp_Compare_string at h
  refine CallsF.of_vcN mixed (fun _ _ => Tryd.call43 _ _) Tryd.func43 (by kernel_rfl) (inl := [1000000]) ?_
  conv => whnf
  replace h := bnd_some h
  obtain ⟨x3, h2, h⟩ := h
  refine ⟨_, (F_cmp_isNaN_string_ok n _  _ h2), ?_⟩
  conv => whnf
  replace h := bnd_some h
  obtain ⟨x4, h1, h⟩ := h
  refine ⟨_, (F_cmp_isNaN_string_ok n _  _ h1), ?_⟩
  conv => whnf
  refine ⟨fun hc => ?_, fun hc => ?_⟩
  · have h := cond_t h hc
    conv => whnf
    refine ⟨fun hc => ?_, fun hc => ?_⟩
    · have h := cond_t h hc
      obtain rfl := Option.some.inj h
      conv => whnf
      repeat (first | exact rfl | exact trivial | refine ⟨?_, ?_⟩)
    · have h := cond_f h hc
      obtain rfl := Option.some.inj h
      conv => whnf
      repeat (first | exact rfl | exact trivial | refine ⟨?_, ?_⟩)
  · have h := cond_f h hc
    conv => whnf
    refine ⟨fun hc => ?_, fun hc => ?_⟩
    · have h := cond_t h hc
      obtain rfl := Option.some.inj h
      conv => whnf
      repeat (first | exact rfl | exact trivial | refine ⟨?_, ?_⟩)
    · have h := cond_f h hc
      conv => whnf
      refine ⟨fun hc => ?_, fun hc => ?_⟩
      · have h := cond_t h hc
        obtain rfl := Option.some.inj h
        conv => whnf
        repeat (first | exact rfl | exact trivial | refine ⟨?_, ?_⟩)
      · have h := cond_f h hc
        conv => whnf
        refine ⟨fun hc => ?_, fun hc => ?_⟩
        · have h := cond_t h hc
          obtain rfl := Option.some.inj h
          conv => whnf
          repeat (first | exact rfl | exact trivial | refine ⟨?_, ?_⟩)
        · have h := cond_f h hc
          obtain rfl := Option.some.inj h
          conv => whnf
          repeat (first | exact rfl | exact trivial | refine ⟨?_, ?_⟩)

abbrev R_F_value_first_int (r : Int) : PV := PV.int .i64 r

def F_value_first_int_l1 (n : Nat) (x1 : List Int) : (Int → Option (Int)) → Int → Option (Int) := fun nx1 x2 =>
 bif (decide (x2 < (((intRows .i64 x1).length : Nat) : Int))) then (
 bnd (idx x1 x2) fun x3 =>
 bif (x3 != (0 : Int)) then (
 some x3)
else (
 nx1 (IntKind.i64.wrap (x2 + (1 : Int)))))
else (
 some (0 : Int))

def F_value_first_int (n : Nat)  (x1 : List Int) : Option (Int) :=
  loopK (F_value_first_int_l1 n x1) n (0 : Int)

set_option maxRecDepth 100000 in
theorem F_value_first_int_ok (n : Nat)   : ∀ (x1 : List Int) (r : Int), F_value_first_int n x1 = some r → CallsF Tryd.prog 44 [PV.sl (intRows .i64 x1)] (R_F_value_first_int r) := by
  intro x1 r h
  unfold F_value_first_int at h
  refine CallsF.of_vcN mixed (fun _ _ => Tryd.call44 _ _) Tryd.func44 (by kernel_rfl) (inl := [1000000]) ?_
  conv => whnf
  refine LoopA.fn [1000000] (S := Int) (fun x2 => [(3, .p (.int .i64 (0 : Int))), (6, .p (.sl (intRows .i64 x1))), (7, .p (.int .i64 (((intRows .i64 x1).length : Nat) : Int))), (8, .p (.int .i64 x2))]) (fun x2 => []) (B := F_value_first_int_l1 n x1) h ⟨[], [], ⟨rfl, rfl, rfl, rfl⟩, by repeat (first | exact trivial | exact .inl rfl | exact rfl | exact List.not_mem_nil | (refine .inr ?_) | (refine ⟨?_, ?_⟩) | exact List.length_set.symm | decide), by repeat (first | exact trivial | exact .inl rfl | exact rfl | exact List.not_mem_nil | (refine .inr ?_) | (refine ⟨?_, ?_⟩) | exact List.length_set.symm | decide)⟩ ?_
  intro nx1 x2 h
  unfold F_value_first_int_l1 at h
  conv => whnf
  refine ⟨fun hc => ?_, fun hc => ?_⟩
  · have h := cond_t h hc
    conv => whnf
    replace h := bnd_some h
    obtain ⟨x3, h1, h⟩ := h
    refine ⟨_, Codec.at_ (intC .i64) h1, ?_⟩
    conv => whnf
    refine ⟨fun hc => ?_, fun hc => ?_⟩
    · have h := cond_t h hc
      obtain rfl := Option.some.inj h
      conv => whnf
      repeat (first | exact rfl | exact trivial | refine ⟨?_, ?_⟩)
    · have h := cond_f h hc
      conv => whnf
      exact ⟨(IntKind.i64.wrap (x2 + (1 : Int))), h, ⟨[], [], ⟨rfl, rfl, rfl, rfl⟩, by repeat (first | exact trivial | exact .inl rfl | exact rfl | exact List.not_mem_nil | (refine .inr ?_) | (refine ⟨?_, ?_⟩) | exact List.length_set.symm | decide), by repeat (first | exact trivial | exact .inl rfl | exact rfl | exact List.not_mem_nil | (refine .inr ?_) | (refine ⟨?_, ?_⟩) | exact List.length_set.symm | decide)⟩⟩
  · have h := cond_f h hc
    obtain rfl := Option.some.inj h
    conv => whnf
    repeat (first | exact rfl | exact trivial | refine ⟨?_, ?_⟩)

abbrev R_F_value_number (r : Int) : PV := PV.int .i64 r

def F_value_number (n : Nat)  (x1 : Bool) : Option (Int) :=
  bif x1 then (
  some (1 : Int))
  else (
  some (0 : Int))

set_option maxRecDepth 100000 in
theorem F_value_number_ok (n : Nat)   : ∀ (x1 : Bool) (r : Int), F_value_number n x1 = some r → CallsF Tryd.prog 45 [PV.bool x1] (R_F_value_number r) := by
  intro x1 r h
  unfold F_value_number at h
  refine CallsF.of_vcN mixed (fun _ _ => Tryd.call45 _ _) Tryd.func45 (by kernel_rfl) (inl := [1000000]) ?_
  conv => whnf
  refine ⟨fun hc => ?_, fun hc => ?_⟩
  · have h := cond_t h hc
    obtain rfl := Option.some.inj h
    conv => whnf
    repeat (first | exact rfl | exact trivial | refine ⟨?_, ?_⟩)
  · have h := cond_f h hc
    obtain rfl := Option.some.inj h
    conv => whnf
    repeat (first | exact rfl | exact trivial | refine ⟨?_, ?_⟩)
end W
end
section
open Go Go.Proofs Ax
namespace W
abbrev R_F_cmp_isNaN_int64 (r : Bool) : PV := PV.bool r

def F_cmp_isNaN_int64 (n : Nat)  (x1 : Int) : Option (Bool) :=
  some (x1 != x1)

set_option maxRecDepth 100000 in
theorem F_cmp_isNaN_int64_ok (n : Nat)   : ∀ (x1 : Int) (r : Bool), F_cmp_isNaN_int64 n x1 = some r → CallsF Tryd.prog 63 [PV.int .i64 x1] (R_F_cmp_isNaN_int64 r) := by
  intro x1 r h
  unfold F_cmp_isNaN_int64 at h
  refine CallsF.of_vcN mixed (fun _ _ => Tryd.call63 _ _) Tryd.func63 (by kernel_rfl) (inl := [1000000]) ?_
  obtain rfl := Option.some.inj h
  conv => whnf
  repeat (first | exact rfl | exact trivial | refine ⟨?_, ?_⟩)

abbrev R_F_cmp_Compare_int64 (r : Int) : PV := PV.int .i64 r

def F_cmp_Compare_int64 (n : Nat)  (x1 : Int) (x2 : Int) : Option (Int) :=
  bnd (F_cmp_isNaN_int64 n x1) fun x3 =>
  bnd (F_cmp_isNaN_int64 n x2) fun x4 =>
  bif x3 then (
  bif x4 then (
  some (0 : Int))
  else (
  some (-1 : Int)))
  else (
  bif x4 then (
  some (1 : Int))
  else (
  bif (decide (x1 < x2)) then (
  some (-1 : Int))
  else (
  bif (decide (x1 > x2)) then (
  some (1 : Int))
  else (
  some (0 : Int)))))

set_option maxRecDepth 100000 in
theorem F_cmp_Compare_int64_ok (n : Nat)   : ∀ (x1 : Int) (x2 : Int) (r : Int), F_cmp_Compare_int64 n x1 x2 = some r → CallsF Tryd.prog 46 [PV.int .i64 x1, PV.int .i64 x2] (R_F_cmp_Compare_int64 r) := by
  intro x1 x2 r h
  unfold F_cmp_Compare_int64 at h
  refine CallsF.of_vcN mixed (fun _ _ => Tryd.call46 _ _) Tryd.func46 (by kernel_rfl) (inl := [1000000]) ?_
  conv => whnf
  replace h := bnd_some h
  obtain ⟨x3, h2, h⟩ := h
  refine ⟨_, (F_cmp_isNaN_int64_ok n _  _ h2), ?_⟩
  conv => whnf
  replace h := bnd_some h
  obtain ⟨x4, h1, h⟩ := h
  refine ⟨_, (F_cmp_isNaN_int64_ok n _  _ h1), ?_⟩
  conv => whnf
  refine ⟨fun hc => ?_, fun hc => ?_⟩
  · have h := cond_t h hc
    conv => whnf
    refine ⟨fun hc => ?_, fun hc => ?_⟩
    · have h := cond_t h hc
      obtain rfl := Option.some.inj h
      conv => whnf
      repeat (first | exact rfl | exact trivial | refine ⟨?_, ?_⟩)
    · have h := cond_f h hc
      obtain rfl := Option.some.inj h
      conv => whnf
      repeat (first | exact rfl | exact trivial | refine ⟨?_, ?_⟩)
  · have h := cond_f h hc
    conv => whnf
    refine ⟨fun hc => ?_, fun hc => ?_⟩
    · have h := cond_t h hc
      obtain rfl := Option.some.inj h
      conv => whnf
      repeat (first | exact rfl | exact trivial | refine ⟨?_, ?_⟩)
    · have h := cond_f h hc
      conv => whnf
      refine ⟨fun hc => ?_, fun hc => ?_⟩
      · have h := cond_t h hc
        obtain rfl := Option.some.inj h
        conv => whnf
        repeat (first | exact rfl | exact trivial | refine ⟨?_, ?_⟩)
      · have h := cond_f h hc
        conv => whnf
        refine ⟨fun hc => ?_, fun hc => ?_⟩
        · have h := cond_t h hc
          obtain rfl := Option.some.inj h
          conv => whnf
          repeat (first | exact rfl | exact trivial | refine ⟨?_, ?_⟩)
        · have h := cond_f h hc
          obtain rfl := Option.some.inj h
          conv => whnf
          repeat (first | exact rfl | exact trivial | refine ⟨?_, ?_⟩)

abbrev R_F_value_Order (r : Int) : PV := PV.int .i64 r

def F_value_Order_k3 (n : Nat) (x5 : List Val) (x16 : Int) (x11 : List Val) (g21 : Val → Val → Option (Int)) (nx1 : Int → Option (Int)) : Int → Option (Int) := fun x17 =>
 bnd (idx x5 x16) fun ⟨x18, x19, x20, x21, x22, x23⟩ =>
 bnd (idx x11 x16) fun ⟨x24, x25, x26, x27, x28, x29⟩ =>
 bnd (g21 (Val.mk x18 x19 x20 x21 x22 x23) (Val.mk x24 x25 x26 x27 x28 x29)) fun x30 =>
 bnd (F_value_first_int n [x17, x30]) fun x31 =>
 bif (x31 != (0 : Int)) then (
 some x31)
else (
 nx1 (IntKind.i64.wrap (x16 + (1 : Int))))

def F_value_Order_l1 (n : Nat) (x5 : List Val) (x11 : List Val) (x1 : Int) (x6 : List (List UInt8)) (x12 : List (List UInt8)) (g21 : Val → Val → Option (Int)) (x2 : Bool) (x8 : Bool) (x3 : Int) (x9 : Int) (x4 : List UInt8) (x10 : List UInt8) : (Int → Option (Int)) → Int → Option (Int) := fun nx1 x16 =>
 bif (bif (decide (x16 < (((Val.rows x5).length : Nat) : Int))) then (decide (x16 < (((Val.rows x11).length : Nat) : Int))) else false) then (
 bif (x1 == (5 : Int)) then (
 bnd (idx x6 x16) fun x32 =>
 bnd (idx x12 x16) fun x33 =>
 bnd (F_cmp_Compare_string n x32 x33) fun x34 =>
 F_value_Order_k3 n x5 x16 x11 g21 nx1 x34)
else (
 F_value_Order_k3 n x5 x16 x11 g21 nx1 (0 : Int)))
else (
 bnd (F_cmp_Compare_int n (((Val.rows x5).length : Nat) : Int) (((Val.rows x11).length : Nat) : Int)) fun x35 =>
 bnd (F_value_number n x2) fun x36 =>
 bnd (F_value_number n x8) fun x37 =>
 bnd (F_cmp_Compare_int n x36 x37) fun x38 =>
 bnd (F_cmp_Compare_int64 n x3 x9) fun x39 =>
 bnd (F_cmp_Compare_string n x4 x10) fun x40 =>
 bnd (F_value_first_int n [x35, x38, x39, x40]) fun x41 =>
 some x41)

def BF_value_Order (n : Nat) (g21 : Val → Val → Option (Int)) (a0_ : Val) (a1_ : Val) : Option (Int) :=
  match a0_, a1_ with
  | ⟨x1, x2, x3, x4, x5, x6⟩, ⟨x7, x8, x9, x10, x11, x12⟩ =>
  bif (x1 != x7) then (
  bnd (F_value_place n (IntKind.i64.wrap (((BitVec.ofInt IntKind.i64.bits x1 &&& BitVec.ofInt IntKind.i64.bits (7 : Int)).toNat : Nat) : Int))) fun x13 =>
  bnd (F_value_place n (IntKind.i64.wrap (((BitVec.ofInt IntKind.i64.bits x7 &&& BitVec.ofInt IntKind.i64.bits (7 : Int)).toNat : Nat) : Int))) fun x14 =>
  bnd (F_cmp_Compare_int n x13 x14) fun x15 =>
  some x15)
  else (
  loopK (F_value_Order_l1 n x5 x11 x1 x6 x12 g21 x2 x8 x3 x9 x4 x10) n (0 : Int))

set_option maxHeartbeats 4000000 in
set_option maxRecDepth 100000 in
theorem BF_value_Order_ok (n : Nat) (g21 : Val → Val → Option (Int)) (g21_ok : ∀ (a0_ : Val) (a1_ : Val) (r : Int), g21 a0_ a1_ = some r → CallsF Tryd.prog 21 [PV.agg (valC.cells a0_), PV.agg (valC.cells a1_)] (R_F_value_Order r)) : ∀ (a0_ : Val) (a1_ : Val) (r : Int), BF_value_Order n g21 a0_ a1_ = some r → CallsF Tryd.prog 21 [PV.agg (valC.cells a0_), PV.agg (valC.cells a1_)] (R_F_value_Order r) := by
  intro a0_ a1_ r h
  obtain ⟨x1, x2, x3, x4, x5, x6⟩ := a0_
  obtain ⟨x7, x8, x9, x10, x11, x12⟩ := a1_
  unfold BF_value_Order at h
  refine CallsF.of_vcN mixed (fun _ _ => Tryd.call21 _ _) Tryd.func21 (by kernel_rfl) (inl := [1000000]) ?_
  conv => whnf
  refine ⟨fun hc => ?_, fun hc => ?_⟩
  · have h := cond_t h hc
    conv => whnf
    replace h := bnd_some h
    obtain ⟨x13, h3, h⟩ := h
    refine ⟨_, (F_value_place_ok n _  _ h3), ?_⟩
    conv => whnf
    replace h := bnd_some h
    obtain ⟨x14, h2, h⟩ := h
    refine ⟨_, (F_value_place_ok n _  _ h2), ?_⟩
    conv => whnf
    replace h := bnd_some h
    obtain ⟨x15, h1, h⟩ := h
    refine ⟨_, (F_cmp_Compare_int_ok n _ _  _ h1), ?_⟩
    obtain rfl := Option.some.inj h
    conv => whnf
    repeat (first | exact rfl | exact trivial | refine ⟨?_, ?_⟩)
  · have h := cond_f h hc
    conv => whnf
    refine LoopA.fn [1000000] (S := Int) (fun x16 => [(2, .ptr 0 0), (3, .ptr 1 0), (5, .p (.int .i64 x16))]) (fun x16 => [.box 40 [.p (.int .i64 x1), .p (.bool x2), .p (.int .i64 x3), .p (.str x4), .p (.sl (Val.rows x5)), .p (.sl (strs x6))], .box 40 [.p (.int .i64 x7), .p (.bool x8), .p (.int .i64 x9), .p (.str x10), .p (.sl (Val.rows x11)), .p (.sl (strs x12))]]) (B := F_value_Order_l1 n x5 x11 x1 x6 x12 g21 x2 x8 x3 x9 x4 x10) h ⟨[0, 1], [], ⟨rfl, rfl, rfl, rfl⟩, by repeat (first | exact trivial | exact .inl rfl | exact rfl | exact List.not_mem_nil | (refine .inr ?_) | (refine ⟨?_, ?_⟩) | exact List.length_set.symm | decide), by repeat (first | exact trivial | exact .inl rfl | exact rfl | exact List.not_mem_nil | (refine .inr ?_) | (refine ⟨?_, ?_⟩) | exact List.length_set.symm | decide)⟩ ?_
    intro nx1 x16 h
    unfold F_value_Order_l1 at h
    conv => whnf
    iterate 5 (refine And.intro (fun h => h) ?_)
    conv => whnf
    refine ⟨fun hc => ?_, fun hc => ?_⟩
    · have h := cond_t h hc
      conv => whnf
      refine SeqA.cut (S := Int) (fun x17 => [(2, .ptr 0 0), (3, .ptr 1 0), (5, .p (.int .i64 x16)), (6, .p (.int .i64 x17))]) (fun x17 => [.box 40 [.p (.int .i64 x1), .p (.bool x2), .p (.int .i64 x3), .p (.str x4), .p (.sl (Val.rows x5)), .p (.sl (strs x6))], .box 40 [.p (.int .i64 x7), .p (.bool x8), .p (.int .i64 x9), .p (.str x10), .p (.sl (Val.rows x11)), .p (.sl (strs x12))]]) (F_value_Order_k3 n x5 x16 x11 g21 nx1) (r := r) ?_ ?_
      · intro x17 h
        unfold F_value_Order_k3 at h
        conv => whnf
        replace h := bnd_some h
        obtain ⟨⟨x18, x19, x20, x21, x22, x23⟩, h7, h⟩ := h
        refine ⟨_, Codec.at_ valC h7, ?_⟩
        conv => whnf
        replace h := bnd_some h
        obtain ⟨⟨x24, x25, x26, x27, x28, x29⟩, h6, h⟩ := h
        refine ⟨_, Codec.at_ valC h6, ?_⟩
        conv => whnf
        replace h := bnd_some h
        obtain ⟨x30, h5, h⟩ := h
        refine ⟨_, (g21_ok _ _  _ h5), ?_⟩
        conv => whnf
        refine ⟨Codec.one (intC .i64) [x17, x30], intRows .i64 [x17, x30], .inl rfl, ?_⟩
        conv => whnf
        replace h := bnd_some h
        obtain ⟨x31, h4, h⟩ := h
        refine ⟨_, (F_value_first_int_ok n _  _ h4), ?_⟩
        conv => whnf
        refine ⟨fun hc => ?_, fun hc => ?_⟩
        · have h := cond_t h hc
          obtain rfl := Option.some.inj h
          conv => whnf
          repeat (first | exact rfl | exact trivial | refine ⟨?_, ?_⟩)
        · have h := cond_f h hc
          conv => whnf
          exact ⟨(IntKind.i64.wrap (x16 + (1 : Int))), h, ⟨[0, 1], [], ⟨rfl, rfl, rfl, rfl⟩, by repeat (first | exact trivial | exact .inl rfl | exact rfl | exact List.not_mem_nil | (refine .inr ?_) | (refine ⟨?_, ?_⟩) | exact List.length_set.symm | decide), by repeat (first | exact trivial | exact .inl rfl | exact rfl | exact List.not_mem_nil | (refine .inr ?_) | (refine ⟨?_, ?_⟩) | exact List.length_set.symm | decide)⟩⟩
      · conv => whnf
        refine ⟨fun hc => ?_, fun hc => ?_⟩
        · have h := cond_t h hc
          conv => whnf
          replace h := bnd_some h
          obtain ⟨x32, h10, h⟩ := h
          refine ⟨_, Codec.at_ strC h10, ?_⟩
          conv => whnf
          replace h := bnd_some h
          obtain ⟨x33, h9, h⟩ := h
          refine ⟨_, Codec.at_ strC h9, ?_⟩
          conv => whnf
          replace h := bnd_some h
          obtain ⟨x34, h8, h⟩ := h
          refine ⟨_, (F_cmp_Compare_string_ok n _ _  _ h8), ?_⟩
          conv => whnf
          exact ⟨x34, h, ⟨[0, 1], [], ⟨rfl, rfl, rfl, rfl⟩, by repeat (first | exact trivial | exact .inl rfl | exact rfl | exact List.not_mem_nil | (refine .inr ?_) | (refine ⟨?_, ?_⟩) | exact List.length_set.symm | decide), by repeat (first | exact trivial | exact .inl rfl | exact rfl | exact List.not_mem_nil | (refine .inr ?_) | (refine ⟨?_, ?_⟩) | exact List.length_set.symm | decide)⟩⟩
        · have h := cond_f h hc
          conv => whnf
          exact ⟨(0 : Int), h, ⟨[0, 1], [], ⟨rfl, rfl, rfl, rfl⟩, by repeat (first | exact trivial | exact .inl rfl | exact rfl | exact List.not_mem_nil | (refine .inr ?_) | (refine ⟨?_, ?_⟩) | exact List.length_set.symm | decide), by repeat (first | exact trivial | exact .inl rfl | exact rfl | exact List.not_mem_nil | (refine .inr ?_) | (refine ⟨?_, ?_⟩) | exact List.length_set.symm | decide)⟩⟩
    · have h := cond_f h hc
      conv => whnf
      replace h := bnd_some h
      obtain ⟨x35, h17, h⟩ := h
      refine ⟨_, (F_cmp_Compare_int_ok n _ _  _ h17), ?_⟩
      conv => whnf
      replace h := bnd_some h
      obtain ⟨x36, h16, h⟩ := h
      refine ⟨_, (F_value_number_ok n _  _ h16), ?_⟩
      conv => whnf
      replace h := bnd_some h
      obtain ⟨x37, h15, h⟩ := h
      refine ⟨_, (F_value_number_ok n _  _ h15), ?_⟩
      conv => whnf
      replace h := bnd_some h
      obtain ⟨x38, h14, h⟩ := h
      refine ⟨_, (F_cmp_Compare_int_ok n _ _  _ h14), ?_⟩
      conv => whnf
      replace h := bnd_some h
      obtain ⟨x39, h13, h⟩ := h
      refine ⟨_, (F_cmp_Compare_int64_ok n _ _  _ h13), ?_⟩
      conv => whnf
      replace h := bnd_some h
      obtain ⟨x40, h12, h⟩ := h
      refine ⟨_, (F_cmp_Compare_string_ok n _ _  _ h12), ?_⟩
      conv => whnf
      refine ⟨Codec.one (intC .i64) [x35, x38, x39, x40], intRows .i64 [x35, x38, x39, x40], .inl rfl, ?_⟩
      conv => whnf
      replace h := bnd_some h
      obtain ⟨x41, h11, h⟩ := h
      refine ⟨_, (F_value_first_int_ok n _  _ h11), ?_⟩
      obtain rfl := Option.some.inj h
      conv => whnf
      repeat (first | exact rfl | exact trivial | refine ⟨?_, ?_⟩)

def F_value_Order : Nat → Val → Val → Option (Int)
  | 0 => fun _ _ => none
  | n + 1 => BF_value_Order n (F_value_Order n)

set_option maxRecDepth 100000 in
theorem F_value_Order_all (n : Nat) : (∀ (a0_ : Val) (a1_ : Val) (r : Int), F_value_Order n a0_ a1_ = some r → CallsF Tryd.prog 21 [PV.agg (valC.cells a0_), PV.agg (valC.cells a1_)] (R_F_value_Order r)) := by
  induction n with
  | zero => exact (by intros; rename_i h; cases h)
  | succ n ih =>
    have hg21 := ih
    exact BF_value_Order_ok n (F_value_Order n) hg21

set_option maxRecDepth 100000 in
theorem F_value_Order_ok (n : Nat) : ∀ (a0_ : Val) (a1_ : Val) (r : Int), F_value_Order n a0_ a1_ = some r → CallsF Tryd.prog 21 [PV.agg (valC.cells a0_), PV.agg (valC.cells a1_)] (R_F_value_Order r) := (F_value_Order_all n)

abbrev R_F_rows_Sort_c1 (r : Int) : PV := PV.int .i64 r

def F_rows_Sort_c1_l1 (n : Nat) (x4 : List Bool) (x3 : List (List Val)) (x1 : Int) (x2 : Int) : (Int → Option (Int)) → Int → Option (Int) := fun nx1 x5 =>
 bnd (gsome (decide (x5 < (((boolRows x4).length : Nat) : Int))) (idx x3 x1)) fun x6 =>
 bnd (gsome (bif (decide (x5 < (((boolRows x4).length : Nat) : Int))) then (decide (x5 < (((Val.rows x6).length : Nat) : Int))) else false) (idx x3 x2)) fun x7 =>
 bif (bif (bif (decide (x5 < (((boolRows x4).length : Nat) : Int))) then (decide (x5 < (((Val.rows x6).length : Nat) : Int))) else false) then (decide (x5 < (((Val.rows x7).length : Nat) : Int))) else false) then (
 bnd (idx x3 x1) fun x8 =>
 bnd (idx x8 x5) fun ⟨x9, x10, x11, x12, x13, x14⟩ =>
 bnd (idx x3 x2) fun x15 =>
 bnd (idx x15 x5) fun ⟨x16, x17, x18, x19, x20, x21⟩ =>
 bnd (F_value_Order n (Val.mk x9 x10 x11 x12 x13 x14) (Val.mk x16 x17 x18 x19 x20 x21)) fun x22 =>
 bnd (gsome (x22 != (0 : Int)) (idx x4 x5)) fun x23 =>
 bif (bif (x22 != (0 : Int)) then x23 else false) then (
 some (IntKind.i64.wrap (0 - x22)))
else (
 bif (x22 != (0 : Int)) then (
 some x22)
else (
 nx1 (IntKind.i64.wrap (x5 + (1 : Int))))))
else (
 some (0 : Int))

def F_rows_Sort_c1 (n : Nat)  (x1 : Int) (x2 : Int) (x3 : List (List Val)) (x4 : List Bool) : Option (Int) :=
  bif (bif (decide (x1 ≥ (((slRows valC x3).length : Nat) : Int))) then true else (decide (x2 ≥ (((slRows valC x3).length : Nat) : Int)))) then (
  some (0 : Int))
  else (
  loopK (F_rows_Sort_c1_l1 n x4 x3 x1 x2) n (0 : Int))

set_option maxHeartbeats 4000000 in
set_option maxRecDepth 100000 in
theorem F_rows_Sort_c1_ok (n : Nat)   : ∀ (x1 : Int) (x2 : Int) (x3 : List (List Val)) (x4 : List Bool) (r : Int), F_rows_Sort_c1 n x1 x2 x3 x4 = some r → CallsF Tryd.prog 39 [PV.int .i64 x1, PV.int .i64 x2, PV.hp [PV.sl (slRows valC x3)], PV.hp [PV.sl (boolRows x4)]] (R_F_rows_Sort_c1 r) := by
  intro x1 x2 x3 x4 r h
  unfold F_rows_Sort_c1 at h
  refine CallsF.of_vcN mixed (fun _ _ => Tryd.call39 _ _) Tryd.func39 (by kernel_rfl) (inl := [1000000]) ?_
  conv => whnf
  iterate 4 (refine And.intro (fun h => h) ?_)
  conv => whnf
  refine ⟨fun hc => ?_, fun hc => ?_⟩
  · have h := cond_t h hc
    obtain rfl := Option.some.inj h
    conv => whnf
    repeat (first | exact rfl | exact trivial | refine ⟨?_, ?_⟩)
  · have h := cond_f h hc
    conv => whnf
    refine LoopA.fn [1000000] (S := Int) (fun x5 => [(0, .p (.int .i64 x1)), (1, .p (.int .i64 x2)), (2, .hptr [PV.sl (slRows valC x3)]), (3, .hptr [PV.sl (boolRows x4)]), (7, .p (.int .i64 x5))]) (fun x5 => []) (B := F_rows_Sort_c1_l1 n x4 x3 x1 x2) h ⟨[], [], ⟨rfl, rfl, rfl, rfl⟩, by repeat (first | exact trivial | exact .inl rfl | exact rfl | exact List.not_mem_nil | (refine .inr ?_) | (refine ⟨?_, ?_⟩) | exact List.length_set.symm | decide), by repeat (first | exact trivial | exact .inl rfl | exact rfl | exact List.not_mem_nil | (refine .inr ?_) | (refine ⟨?_, ?_⟩) | exact List.length_set.symm | decide)⟩ ?_
    intro nx1 x5 h
    unfold F_rows_Sort_c1_l1 at h
    conv => whnf
    iterate 2 (refine And.intro (fun h => h) ?_)
    conv => whnf
    replace h := bnd_some h
    obtain ⟨x6, h8, h⟩ := h
    refine ⟨_, fun hg => Codec.at_ (slC valC) (gsome_some h8 hg), ?_⟩
    conv => whnf
    iterate 7 (refine And.intro (fun h => h) ?_)
    conv => whnf
    replace h := bnd_some h
    obtain ⟨x7, h7, h⟩ := h
    refine ⟨_, fun hg => Codec.at_ (slC valC) (gsome_some h7 hg), ?_⟩
    conv => whnf
    iterate 5 (refine And.intro (fun h => h) ?_)
    conv => whnf
    refine ⟨fun hc => ?_, fun hc => ?_⟩
    · have h := cond_t h hc
      conv => whnf
      replace h := bnd_some h
      obtain ⟨x8, h6, h⟩ := h
      refine ⟨_, Codec.at_ (slC valC) h6, ?_⟩
      conv => whnf
      replace h := bnd_some h
      obtain ⟨⟨x9, x10, x11, x12, x13, x14⟩, h5, h⟩ := h
      refine ⟨_, Codec.at_ valC h5, ?_⟩
      conv => whnf
      replace h := bnd_some h
      obtain ⟨x15, h4, h⟩ := h
      refine ⟨_, Codec.at_ (slC valC) h4, ?_⟩
      conv => whnf
      replace h := bnd_some h
      obtain ⟨⟨x16, x17, x18, x19, x20, x21⟩, h3, h⟩ := h
      refine ⟨_, Codec.at_ valC h3, ?_⟩
      conv => whnf
      replace h := bnd_some h
      obtain ⟨x22, h2, h⟩ := h
      refine ⟨_, (F_value_Order_ok n _ _  _ h2), ?_⟩
      conv => whnf
      iterate 2 (refine And.intro (fun h => h) ?_)
      conv => whnf
      replace h := bnd_some h
      obtain ⟨x23, h1, h⟩ := h
      refine ⟨_, fun hg => Codec.at_ boolC (gsome_some h1 hg), ?_⟩
      conv => whnf
      iterate 2 (refine And.intro (fun h => h) ?_)
      conv => whnf
      refine ⟨fun hc => ?_, fun hc => ?_⟩
      · have h := cond_t h hc
        obtain rfl := Option.some.inj h
        conv => whnf
        repeat (first | exact rfl | exact trivial | refine ⟨?_, ?_⟩)
      · have h := cond_f h hc
        conv => whnf
        refine ⟨fun hc => ?_, fun hc => ?_⟩
        · have h := cond_t h hc
          obtain rfl := Option.some.inj h
          conv => whnf
          repeat (first | exact rfl | exact trivial | refine ⟨?_, ?_⟩)
        · have h := cond_f h hc
          conv => whnf
          exact ⟨(IntKind.i64.wrap (x5 + (1 : Int))), h, ⟨[], [], ⟨rfl, rfl, rfl, rfl⟩, by repeat (first | exact trivial | exact .inl rfl | exact rfl | exact List.not_mem_nil | (refine .inr ?_) | (refine ⟨?_, ?_⟩) | exact List.length_set.symm | decide), by repeat (first | exact trivial | exact .inl rfl | exact rfl | exact List.not_mem_nil | (refine .inr ?_) | (refine ⟨?_, ?_⟩) | exact List.length_set.symm | decide)⟩⟩
    · have h := cond_f h hc
      obtain rfl := Option.some.inj h
      conv => whnf
      repeat (first | exact rfl | exact trivial | refine ⟨?_, ?_⟩)

abbrev R_F_slices_insertionSortCmpFunc_int__rows_Sort_c1 (x6 : List Int) (r : (List Int)) : FV := .p (.tup [])

abbrev L_F_slices_insertionSortCmpFunc_int__rows_Sort_c1 (x6 : List Int) (r : (List Int)) : List AObj := [.vec 3 1 (intRows .i64 r)]

def F_slices_insertionSortCmpFunc_int__rows_Sort_c1_l2 (n : Nat) (x2 : Int) (x1 : Nat) (x4 : List (List Val)) (x5 : List Bool) (nx1 : Int × List Int → Option ((List Int))) (x7 : Int) : (Int × List Int → Option ((List Int))) → Int × List Int → Option ((List Int)) := fun nx2 (x9, x10) =>
 bnd (gsome (decide (x9 > x2)) (natI x9)) fun x11 =>
 chk (bif (decide (x9 > x2)) then decide (x11 < x1) else true) (
 bnd (gsome (decide (x9 > x2)) (x10[x11]?)) fun x12 =>
 bnd (gsome (decide (x9 > x2)) (natI (IntKind.i64.wrap (x9 - (1 : Int))))) fun x13 =>
 chk (bif (decide (x9 > x2)) then decide (x13 < x1) else true) (
 bnd (gsome (decide (x9 > x2)) (x10[x13]?)) fun x14 =>
 bnd (gsome (decide (x9 > x2)) (F_rows_Sort_c1 n x12 x14 x4 x5)) fun x15 =>
 bif (bif (decide (x9 > x2)) then (decide (x15 < (0 : Int))) else false) then (
 bnd (natI (IntKind.i64.wrap (x9 - (1 : Int)))) fun x16 =>
 chk (decide (x16 < x1)) (
 bnd (x10[x16]?) fun x17 =>
 bnd (natI x9) fun x18 =>
 chk (decide (x18 < x1)) (
 bnd (x10[x18]?) fun x19 =>
 bnd (natI x9) fun x20 =>
 chk (decide (x20 < x1)) (
 bnd (x10[x20]?) fun x21 =>
 bnd (natI (IntKind.i64.wrap (x9 - (1 : Int)))) fun x22 =>
 chk (decide (x22 < x1)) (
 bnd ((x10.set x20 x17)[x22]?) fun x23 =>
 nx2 ((IntKind.i64.wrap (x9 - (1 : Int))), ((x10.set x20 x17).set x22 x19)))))))
else (
 nx1 ((IntKind.i64.wrap (x7 + (1 : Int))), x10))))

def F_slices_insertionSortCmpFunc_int__rows_Sort_c1_l1 (n : Nat) (x3 : Int) (x2 : Int) (x1 : Nat) (x4 : List (List Val)) (x5 : List Bool) : (Int × List Int → Option ((List Int))) → Int × List Int → Option ((List Int)) := fun nx1 (x7, x8) =>
 bif (decide (x7 < x3)) then (
 loopK (F_slices_insertionSortCmpFunc_int__rows_Sort_c1_l2 n x2 x1 x4 x5 nx1 x7) n (x7, x8))
else (
 some x8)

def F_slices_insertionSortCmpFunc_int__rows_Sort_c1 (n : Nat)  (x1 : Nat) (x2 : Int) (x3 : Int) (x4 : List (List Val)) (x5 : List Bool) (x6 : List Int) : Option ((List Int)) :=
  loopK (F_slices_insertionSortCmpFunc_int__rows_Sort_c1_l1 n x3 x2 x1 x4 x5) n ((IntKind.i64.wrap (x2 + (1 : Int))), x6)

set_option maxHeartbeats 4000000 in
set_option maxRecDepth 100000 in
theorem F_slices_insertionSortCmpFunc_int__rows_Sort_c1_ok (n : Nat)   : ∀ (x1 : Nat) (x2 : Int) (x3 : Int) (x4 : List (List Val)) (x5 : List Bool) (x6 : List Int) (r : (List Int)), F_slices_insertionSortCmpFunc_int__rows_Sort_c1 n x1 x2 x3 x4 x5 x6 = some r → CallsO Tryd.prog 73 [.vsl 0 x1, .p (PV.int .i64 x2), .p (PV.int .i64 x3), .p (PV.clo 39 [PV.hp [PV.sl (slRows valC x4)], PV.hp [PV.sl (boolRows x5)]])] [.vec 3 1 (intRows .i64 x6)] 1 (fun v lo => v = R_F_slices_insertionSortCmpFunc_int__rows_Sort_c1 x6 r ∧ lo = L_F_slices_insertionSortCmpFunc_int__rows_Sort_c1 x6 r) := by
  intro x1 x2 x3 x4 x5 x6 r h
  unfold F_slices_insertionSortCmpFunc_int__rows_Sort_c1 at h
  refine CallsO.of_vc mixed (fun _ _ => Tryd.call73 _ _) Tryd.func73 (by kernel_rfl) (inl := [1000000]) (Nat.le_of_ble_eq_true rfl) ?_
  conv => whnf
  refine LoopA.fn [1000000] (S := Int × List Int) (fun (x7, x8) => [(0, .vsl 0 x1), (1, .p (.int .i64 x2)), (2, .p (.int .i64 x3)), (3, .p (.clo 39 [PV.hp [PV.sl (slRows valC x4)], PV.hp [PV.sl (boolRows x5)]])), (8, .p (.int .i64 x7))]) (fun (x7, x8) => [.vec 3 1 (intRows .i64 x8)]) (B := F_slices_insertionSortCmpFunc_int__rows_Sort_c1_l1 n x3 x2 x1 x4 x5) h ⟨[0], [], ⟨rfl, rfl, rfl, rfl⟩, by repeat (first | exact trivial | exact .inl rfl | exact rfl | exact List.not_mem_nil | (refine .inr ?_) | (refine ⟨?_, ?_⟩) | exact List.length_set.symm | decide), by repeat (first | exact trivial | exact .inl rfl | exact rfl | exact List.not_mem_nil | (refine .inr ?_) | (refine ⟨?_, ?_⟩) | exact List.length_set.symm | decide)⟩ ?_
  intro nx1 st h
  obtain ⟨x7, x8⟩ := st
  unfold F_slices_insertionSortCmpFunc_int__rows_Sort_c1_l1 at h
  conv => whnf
  refine ⟨fun hc => ?_, fun hc => ?_⟩
  · have h := cond_t h hc
    conv => whnf
    refine LoopA.fn [1000000] (S := Int × List Int) (fun (x9, x10) => [(0, .vsl 0 x1), (1, .p (.int .i64 x2)), (2, .p (.int .i64 x3)), (3, .p (.clo 39 [PV.hp [PV.sl (slRows valC x4)], PV.hp [PV.sl (boolRows x5)]])), (8, .p (.int .i64 x7)), (9, .p (.int .i64 x9))]) (fun (x9, x10) => [.vec 3 1 (intRows .i64 x10)]) (B := F_slices_insertionSortCmpFunc_int__rows_Sort_c1_l2 n x2 x1 x4 x5 nx1 x7) h ⟨[0], [], ⟨rfl, rfl, rfl, rfl⟩, by repeat (first | exact trivial | exact .inl rfl | exact rfl | exact List.not_mem_nil | (refine .inr ?_) | (refine ⟨?_, ?_⟩) | exact List.length_set.symm | decide), by repeat (first | exact trivial | exact .inl rfl | exact rfl | exact List.not_mem_nil | (refine .inr ?_) | (refine ⟨?_, ?_⟩) | exact List.length_set.symm | decide)⟩ ?_
    intro nx2 st h
    obtain ⟨x9, x10⟩ := st
    unfold F_slices_insertionSortCmpFunc_int__rows_Sort_c1_l2 at h
    conv => whnf
    iterate 2 (refine And.intro (fun h => h) ?_)
    conv => whnf
    replace h := bnd_some h
    obtain ⟨x11, h1, h⟩ := h
    obtain ⟨h2, h⟩ := chk_some h
    refine ⟨x11, fun hg => ⟨natI_some (gsome_some h1 hg), of_decide_eq_true (gd h2 hg)⟩, ?_⟩
    conv => whnf
    refine And.intro (fun h => h) ?_
    conv => whnf
    replace h := bnd_some h
    obtain ⟨x12, h19, h⟩ := h
    refine ⟨_, fun hg => ⟨rfl, Codec.getN (intC .i64) (gsome_some h19 hg)⟩, ?_⟩
    conv => whnf
    iterate 3 (refine And.intro (fun h => h) ?_)
    conv => whnf
    replace h := bnd_some h
    obtain ⟨x13, h3, h⟩ := h
    obtain ⟨h4, h⟩ := chk_some h
    refine ⟨x13, fun hg => ⟨natI_some (gsome_some h3 hg), of_decide_eq_true (gd h4 hg)⟩, ?_⟩
    conv => whnf
    refine And.intro (fun h => h) ?_
    conv => whnf
    replace h := bnd_some h
    obtain ⟨x14, h18, h⟩ := h
    refine ⟨_, fun hg => ⟨rfl, Codec.getN (intC .i64) (gsome_some h18 hg)⟩, ?_⟩
    conv => whnf
    iterate 3 (refine And.intro (fun h => h) ?_)
    conv => whnf
    replace h := bnd_some h
    obtain ⟨x15, h17, h⟩ := h
    refine ⟨_, fun hg => (F_rows_Sort_c1_ok n _ _ _ _  _ (gsome_some h17 hg)), ?_⟩
    conv => whnf
    iterate 2 (refine And.intro (fun h => h) ?_)
    conv => whnf
    refine ⟨fun hc => ?_, fun hc => ?_⟩
    · have h := cond_t h hc
      conv => whnf
      replace h := bnd_some h
      obtain ⟨x16, h16, h⟩ := h
      have hj := natI_some h16
      conv => whnf
      obtain ⟨h15, h⟩ := chk_some h
      refine ⟨x16, ⟨hj, of_decide_eq_true h15⟩, ?_⟩
      conv => whnf
      replace h := bnd_some h
      obtain ⟨x17, h14, h⟩ := h
      refine ⟨_, ⟨rfl, Codec.getN (intC .i64) h14⟩, ?_⟩
      conv => whnf
      replace h := bnd_some h
      obtain ⟨x18, h13, h⟩ := h
      have hj := natI_some h13
      conv => whnf
      obtain ⟨h12, h⟩ := chk_some h
      refine ⟨x18, ⟨hj, of_decide_eq_true h12⟩, ?_⟩
      conv => whnf
      replace h := bnd_some h
      obtain ⟨x19, h11, h⟩ := h
      refine ⟨_, ⟨rfl, Codec.getN (intC .i64) h11⟩, ?_⟩
      conv => whnf
      replace h := bnd_some h
      obtain ⟨x20, h10, h⟩ := h
      have hj := natI_some h10
      conv => whnf
      obtain ⟨h9, h⟩ := chk_some h
      refine ⟨x20, ⟨hj, of_decide_eq_true h9⟩, ?_⟩
      conv => whnf
      replace h := bnd_some h
      obtain ⟨x21, h8, h⟩ := h
      refine ⟨_, ⟨rfl, Codec.getN (intC .i64) h8, rfl⟩, ?_⟩
      conv => whnf
      refine ⟨_, Codec.setN (intC .i64) x10 x20 x17, ?_⟩
      conv => whnf
      replace h := bnd_some h
      obtain ⟨x22, h7, h⟩ := h
      have hj := natI_some h7
      conv => whnf
      obtain ⟨h6, h⟩ := chk_some h
      refine ⟨x22, ⟨hj, of_decide_eq_true h6⟩, ?_⟩
      conv => whnf
      replace h := bnd_some h
      obtain ⟨x23, h5, h⟩ := h
      refine ⟨_, ⟨rfl, Codec.getN (intC .i64) h5, rfl⟩, ?_⟩
      conv => whnf
      refine ⟨_, Codec.setN (intC .i64) (x10.set x20 x17) x22 x19, ?_⟩
      conv => whnf
      exact ⟨((IntKind.i64.wrap (x9 - (1 : Int))), ((x10.set x20 x17).set x22 x19)), h, ⟨[0], [], ⟨rfl, rfl, rfl, rfl⟩, by repeat (first | exact trivial | exact .inl rfl | exact rfl | exact List.not_mem_nil | (refine .inr ?_) | (refine ⟨?_, ?_⟩) | exact List.length_set.symm | decide), by repeat (first | exact trivial | exact .inl rfl | exact rfl | exact List.not_mem_nil | (refine .inr ?_) | (refine ⟨?_, ?_⟩) | exact List.length_set.symm | decide)⟩⟩
    · have h := cond_f h hc
      conv => whnf
      exact ⟨((IntKind.i64.wrap (x7 + (1 : Int))), x10), h, ⟨[0], [], ⟨rfl, rfl, rfl, rfl⟩, by repeat (first | exact trivial | exact .inl rfl | exact rfl | exact List.not_mem_nil | (refine .inr ?_) | (refine ⟨?_, ?_⟩) | exact List.length_set.symm | decide), by repeat (first | exact trivial | exact .inl rfl | exact rfl | exact List.not_mem_nil | (refine .inr ?_) | (refine ⟨?_, ?_⟩) | exact List.length_set.symm | decide)⟩⟩
  · have h := cond_f h hc
    obtain rfl := Option.some.inj h
    conv => whnf
    refine ⟨_, _, ⟨rfl, rfl⟩, ⟨[0], [], ⟨rfl, rfl, rfl, rfl⟩, by repeat (first | exact trivial | exact .inl rfl | exact rfl | exact List.not_mem_nil | (refine .inr ?_) | (refine ⟨?_, ?_⟩) | exact List.length_set.symm | decide), by repeat (first | exact trivial | exact .inl rfl | exact rfl | exact List.not_mem_nil | (refine .inr ?_) | (refine ⟨?_, ?_⟩) | exact List.length_set.symm | decide)⟩⟩

abbrev R_F_slices_swapRangeCmpFunc_int__rows_Sort_c1 (x7 : List Int) (r : (List Int)) : FV := .p (.tup [])

abbrev L_F_slices_swapRangeCmpFunc_int__rows_Sort_c1 (x7 : List Int) (r : (List Int)) : List AObj := [.vec 3 1 (intRows .i64 r)]

def F_slices_swapRangeCmpFunc_int__rows_Sort_c1_l1 (n : Nat) (x4 : Int) (x3 : Int) (x1 : Nat) (x2 : Int) : (Int × List Int → Option ((List Int))) → Int × List Int → Option ((List Int)) := fun nx1 (x8, x9) =>
 bif (decide (x8 < x4)) then (
 bnd (natI (IntKind.i64.wrap (x3 + x8))) fun x10 =>
 chk (decide (x10 < x1)) (
 bnd (x9[x10]?) fun x11 =>
 bnd (natI (IntKind.i64.wrap (x2 + x8))) fun x12 =>
 chk (decide (x12 < x1)) (
 bnd (x9[x12]?) fun x13 =>
 bnd (natI (IntKind.i64.wrap (x2 + x8))) fun x14 =>
 chk (decide (x14 < x1)) (
 bnd (x9[x14]?) fun x15 =>
 bnd (natI (IntKind.i64.wrap (x3 + x8))) fun x16 =>
 chk (decide (x16 < x1)) (
 bnd ((x9.set x14 x11)[x16]?) fun x17 =>
 nx1 ((IntKind.i64.wrap (x8 + (1 : Int))), ((x9.set x14 x11).set x16 x13)))))))
else (
 some x9)

def F_slices_swapRangeCmpFunc_int__rows_Sort_c1 (n : Nat)  (x1 : Nat) (x2 : Int) (x3 : Int) (x4 : Int) (x5 : List (List Val)) (x6 : List Bool) (x7 : List Int) : Option ((List Int)) :=
  loopK (F_slices_swapRangeCmpFunc_int__rows_Sort_c1_l1 n x4 x3 x1 x2) n ((0 : Int), x7)

set_option maxHeartbeats 4000000 in
set_option maxRecDepth 100000 in
theorem F_slices_swapRangeCmpFunc_int__rows_Sort_c1_ok (n : Nat)   : ∀ (x1 : Nat) (x2 : Int) (x3 : Int) (x4 : Int) (x5 : List (List Val)) (x6 : List Bool) (x7 : List Int) (r : (List Int)), F_slices_swapRangeCmpFunc_int__rows_Sort_c1 n x1 x2 x3 x4 x5 x6 x7 = some r → CallsO Tryd.prog 90 [.vsl 0 x1, .p (PV.int .i64 x2), .p (PV.int .i64 x3), .p (PV.int .i64 x4), .p (PV.clo 39 [PV.hp [PV.sl (slRows valC x5)], PV.hp [PV.sl (boolRows x6)]])] [.vec 3 1 (intRows .i64 x7)] 1 (fun v lo => v = R_F_slices_swapRangeCmpFunc_int__rows_Sort_c1 x7 r ∧ lo = L_F_slices_swapRangeCmpFunc_int__rows_Sort_c1 x7 r) := by
  intro x1 x2 x3 x4 x5 x6 x7 r h
  unfold F_slices_swapRangeCmpFunc_int__rows_Sort_c1 at h
  refine CallsO.of_vc mixed (fun _ _ => Tryd.call90 _ _) Tryd.func90 (by kernel_rfl) (inl := [1000000]) (Nat.le_of_ble_eq_true rfl) ?_
  conv => whnf
  refine LoopA.fn [1000000] (S := Int × List Int) (fun (x8, x9) => [(0, .vsl 0 x1), (1, .p (.int .i64 x2)), (2, .p (.int .i64 x3)), (3, .p (.int .i64 x4)), (10, .p (.int .i64 x8))]) (fun (x8, x9) => [.vec 3 1 (intRows .i64 x9)]) (B := F_slices_swapRangeCmpFunc_int__rows_Sort_c1_l1 n x4 x3 x1 x2) h ⟨[0], [], ⟨rfl, rfl, rfl, rfl⟩, by repeat (first | exact trivial | exact .inl rfl | exact rfl | exact List.not_mem_nil | (refine .inr ?_) | (refine ⟨?_, ?_⟩) | exact List.length_set.symm | decide), by repeat (first | exact trivial | exact .inl rfl | exact rfl | exact List.not_mem_nil | (refine .inr ?_) | (refine ⟨?_, ?_⟩) | exact List.length_set.symm | decide)⟩ ?_
  intro nx1 st h
  obtain ⟨x8, x9⟩ := st
  unfold F_slices_swapRangeCmpFunc_int__rows_Sort_c1_l1 at h
  conv => whnf
  refine ⟨fun hc => ?_, fun hc => ?_⟩
  · have h := cond_t h hc
    conv => whnf
    replace h := bnd_some h
    obtain ⟨x10, h12, h⟩ := h
    have hj := natI_some h12
    conv => whnf
    obtain ⟨h11, h⟩ := chk_some h
    refine ⟨x10, ⟨hj, of_decide_eq_true h11⟩, ?_⟩
    conv => whnf
    replace h := bnd_some h
    obtain ⟨x11, h10, h⟩ := h
    refine ⟨_, ⟨rfl, Codec.getN (intC .i64) h10⟩, ?_⟩
    conv => whnf
    replace h := bnd_some h
    obtain ⟨x12, h9, h⟩ := h
    have hj := natI_some h9
    conv => whnf
    obtain ⟨h8, h⟩ := chk_some h
    refine ⟨x12, ⟨hj, of_decide_eq_true h8⟩, ?_⟩
    conv => whnf
    replace h := bnd_some h
    obtain ⟨x13, h7, h⟩ := h
    refine ⟨_, ⟨rfl, Codec.getN (intC .i64) h7⟩, ?_⟩
    conv => whnf
    replace h := bnd_some h
    obtain ⟨x14, h6, h⟩ := h
    have hj := natI_some h6
    conv => whnf
    obtain ⟨h5, h⟩ := chk_some h
    refine ⟨x14, ⟨hj, of_decide_eq_true h5⟩, ?_⟩
    conv => whnf
    replace h := bnd_some h
    obtain ⟨x15, h4, h⟩ := h
    refine ⟨_, ⟨rfl, Codec.getN (intC .i64) h4, rfl⟩, ?_⟩
    conv => whnf
    refine ⟨_, Codec.setN (intC .i64) x9 x14 x11, ?_⟩
    conv => whnf
    replace h := bnd_some h
    obtain ⟨x16, h3, h⟩ := h
    have hj := natI_some h3
    conv => whnf
    obtain ⟨h2, h⟩ := chk_some h
    refine ⟨x16, ⟨hj, of_decide_eq_true h2⟩, ?_⟩
    conv => whnf
    replace h := bnd_some h
    obtain ⟨x17, h1, h⟩ := h
    refine ⟨_, ⟨rfl, Codec.getN (intC .i64) h1, rfl⟩, ?_⟩
    conv => whnf
    refine ⟨_, Codec.setN (intC .i64) (x9.set x14 x11) x16 x13, ?_⟩
    conv => whnf
    exact ⟨((IntKind.i64.wrap (x8 + (1 : Int))), ((x9.set x14 x11).set x16 x13)), h, ⟨[0], [], ⟨rfl, rfl, rfl, rfl⟩, by repeat (first | exact trivial | exact .inl rfl | exact rfl | exact List.not_mem_nil | (refine .inr ?_) | (refine ⟨?_, ?_⟩) | exact List.length_set.symm | decide), by repeat (first | exact trivial | exact .inl rfl | exact rfl | exact List.not_mem_nil | (refine .inr ?_) | (refine ⟨?_, ?_⟩) | exact List.length_set.symm | decide)⟩⟩
  · have h := cond_f h hc
    obtain rfl := Option.some.inj h
    conv => whnf
    refine ⟨_, _, ⟨rfl, rfl⟩, ⟨[0], [], ⟨rfl, rfl, rfl, rfl⟩, by repeat (first | exact trivial | exact .inl rfl | exact rfl | exact List.not_mem_nil | (refine .inr ?_) | (refine ⟨?_, ?_⟩) | exact List.length_set.symm | decide), by repeat (first | exact trivial | exact .inl rfl | exact rfl | exact List.not_mem_nil | (refine .inr ?_) | (refine ⟨?_, ?_⟩) | exact List.length_set.symm | decide)⟩⟩

abbrev R_F_slices_rotateCmpFunc_int__rows_Sort_c1 (x7 : List Int) (r : (List Int)) : FV := .p (.tup [])

abbrev L_F_slices_rotateCmpFunc_int__rows_Sort_c1 (x7 : List Int) (r : (List Int)) : List AObj := [.vec 3 1 (intRows .i64 r)]

def F_slices_rotateCmpFunc_int__rows_Sort_c1_l1 (n : Nat) (x1 : Nat) (x3 : Int) (x5 : List (List Val)) (x6 : List Bool) : (Int × Int × List Int → Option ((List Int))) → Int × Int × List Int → Option ((List Int)) := fun nx1 (x8, x9, x10) =>
 bif (x8 != x9) then (
 bif (decide (x8 > x9)) then (
 bnd (F_slices_swapRangeCmpFunc_int__rows_Sort_c1 n x1 (IntKind.i64.wrap (x3 - x8)) x3 x9 x5 x6 x10) fun x11 =>
 nx1 ((IntKind.i64.wrap (x8 - x9)), x9, x11))
else (
 bnd (F_slices_swapRangeCmpFunc_int__rows_Sort_c1 n x1 (IntKind.i64.wrap (x3 - x8)) (IntKind.i64.wrap ((IntKind.i64.wrap (x3 + x9)) - x8)) x8 x5 x6 x10) fun x12 =>
 nx1 (x8, (IntKind.i64.wrap (x9 - x8)), x12)))
else (
 bnd (F_slices_swapRangeCmpFunc_int__rows_Sort_c1 n x1 (IntKind.i64.wrap (x3 - x8)) x3 x8 x5 x6 x10) fun x13 =>
 some x13)

def F_slices_rotateCmpFunc_int__rows_Sort_c1 (n : Nat)  (x1 : Nat) (x2 : Int) (x3 : Int) (x4 : Int) (x5 : List (List Val)) (x6 : List Bool) (x7 : List Int) : Option ((List Int)) :=
  loopK (F_slices_rotateCmpFunc_int__rows_Sort_c1_l1 n x1 x3 x5 x6) n ((IntKind.i64.wrap (x3 - x2)), (IntKind.i64.wrap (x4 - x3)), x7)

set_option maxRecDepth 100000 in
theorem F_slices_rotateCmpFunc_int__rows_Sort_c1_ok (n : Nat)   : ∀ (x1 : Nat) (x2 : Int) (x3 : Int) (x4 : Int) (x5 : List (List Val)) (x6 : List Bool) (x7 : List Int) (r : (List Int)), F_slices_rotateCmpFunc_int__rows_Sort_c1 n x1 x2 x3 x4 x5 x6 x7 = some r → CallsO Tryd.prog 82 [.vsl 0 x1, .p (PV.int .i64 x2), .p (PV.int .i64 x3), .p (PV.int .i64 x4), .p (PV.clo 39 [PV.hp [PV.sl (slRows valC x5)], PV.hp [PV.sl (boolRows x6)]])] [.vec 3 1 (intRows .i64 x7)] 1 (fun v lo => v = R_F_slices_rotateCmpFunc_int__rows_Sort_c1 x7 r ∧ lo = L_F_slices_rotateCmpFunc_int__rows_Sort_c1 x7 r) := by
  intro x1 x2 x3 x4 x5 x6 x7 r h
  unfold F_slices_rotateCmpFunc_int__rows_Sort_c1 at h
  refine CallsO.of_vc mixed (fun _ _ => Tryd.call82 _ _) Tryd.func82 (by kernel_rfl) (inl := [90, 1000000]) (Nat.le_of_ble_eq_true rfl) ?_
  conv => whnf
  refine LoopA.fn [90, 1000000] (S := Int × Int × List Int) (fun (x8, x9, x10) => [(0, .vsl 0 x1), (2, .p (.int .i64 x3)), (4, .p (.clo 39 [PV.hp [PV.sl (slRows valC x5)], PV.hp [PV.sl (boolRows x6)]])), (10, .p (.int .i64 x8)), (11, .p (.int .i64 x9))]) (fun (x8, x9, x10) => [.vec 3 1 (intRows .i64 x10)]) (B := F_slices_rotateCmpFunc_int__rows_Sort_c1_l1 n x1 x3 x5 x6) h ⟨[0], [], ⟨rfl, rfl, rfl, rfl⟩, by repeat (first | exact trivial | exact .inl rfl | exact rfl | exact List.not_mem_nil | (refine .inr ?_) | (refine ⟨?_, ?_⟩) | exact List.length_set.symm | decide), by repeat (first | exact trivial | exact .inl rfl | exact rfl | exact List.not_mem_nil | (refine .inr ?_) | (refine ⟨?_, ?_⟩) | exact List.length_set.symm | decide)⟩ ?_
  intro nx1 st h
  obtain ⟨x8, x9, x10⟩ := st
  unfold F_slices_rotateCmpFunc_int__rows_Sort_c1_l1 at h
  conv => whnf
  refine ⟨fun hc => ?_, fun hc => ?_⟩
  · have h := cond_t h hc
    conv => whnf
    refine ⟨fun hc => ?_, fun hc => ?_⟩
    · have h := cond_t h hc
      conv => whnf
      replace h := bnd_some h
      obtain ⟨x11, h1, h⟩ := h
      refine CallsO.use (F_slices_swapRangeCmpFunc_int__rows_Sort_c1_ok n _ _ _ _ _ _ _ _  h1) [0] [] ⟨rfl, rfl, rfl, rfl, rfl, rfl⟩ (by repeat (first | exact trivial | exact .inl rfl | exact rfl | exact List.not_mem_nil | (refine .inr ?_) | (refine ⟨?_, ?_⟩) | exact List.length_set.symm | decide)) (by repeat (first | exact trivial | exact .inl rfl | exact rfl | exact List.not_mem_nil | (refine .inr ?_) | (refine ⟨?_, ?_⟩) | exact List.length_set.symm | decide)) ?_
      rintro _ _ ⟨rfl, rfl⟩
      refine ⟨.p (.tup []), [.vec 3 1 (intRows .i64 x11)], rfl, rfl, ?_⟩
      conv => whnf
      exact ⟨((IntKind.i64.wrap (x8 - x9)), x9, x11), h, ⟨[0], [], ⟨rfl, rfl, rfl, rfl⟩, by repeat (first | exact trivial | exact .inl rfl | exact rfl | exact List.not_mem_nil | (refine .inr ?_) | (refine ⟨?_, ?_⟩) | exact List.length_set.symm | decide), by repeat (first | exact trivial | exact .inl rfl | exact rfl | exact List.not_mem_nil | (refine .inr ?_) | (refine ⟨?_, ?_⟩) | exact List.length_set.symm | decide)⟩⟩
    · have h := cond_f h hc
      conv => whnf
      replace h := bnd_some h
      obtain ⟨x12, h2, h⟩ := h
      refine CallsO.use (F_slices_swapRangeCmpFunc_int__rows_Sort_c1_ok n _ _ _ _ _ _ _ _  h2) [0] [] ⟨rfl, rfl, rfl, rfl, rfl, rfl⟩ (by repeat (first | exact trivial | exact .inl rfl | exact rfl | exact List.not_mem_nil | (refine .inr ?_) | (refine ⟨?_, ?_⟩) | exact List.length_set.symm | decide)) (by repeat (first | exact trivial | exact .inl rfl | exact rfl | exact List.not_mem_nil | (refine .inr ?_) | (refine ⟨?_, ?_⟩) | exact List.length_set.symm | decide)) ?_
      rintro _ _ ⟨rfl, rfl⟩
      refine ⟨.p (.tup []), [.vec 3 1 (intRows .i64 x12)], rfl, rfl, ?_⟩
      conv => whnf
      exact ⟨(x8, (IntKind.i64.wrap (x9 - x8)), x12), h, ⟨[0], [], ⟨rfl, rfl, rfl, rfl⟩, by repeat (first | exact trivial | exact .inl rfl | exact rfl | exact List.not_mem_nil | (refine .inr ?_) | (refine ⟨?_, ?_⟩) | exact List.length_set.symm | decide), by repeat (first | exact trivial | exact .inl rfl | exact rfl | exact List.not_mem_nil | (refine .inr ?_) | (refine ⟨?_, ?_⟩) | exact List.length_set.symm | decide)⟩⟩
  · have h := cond_f h hc
    conv => whnf
    replace h := bnd_some h
    obtain ⟨x13, h3, h⟩ := h
    refine CallsO.use (F_slices_swapRangeCmpFunc_int__rows_Sort_c1_ok n _ _ _ _ _ _ _ _  h3) [0] [] ⟨rfl, rfl, rfl, rfl, rfl, rfl⟩ (by repeat (first | exact trivial | exact .inl rfl | exact rfl | exact List.not_mem_nil | (refine .inr ?_) | (refine ⟨?_, ?_⟩) | exact List.length_set.symm | decide)) (by repeat (first | exact trivial | exact .inl rfl | exact rfl | exact List.not_mem_nil | (refine .inr ?_) | (refine ⟨?_, ?_⟩) | exact List.length_set.symm | decide)) ?_
    rintro _ _ ⟨rfl, rfl⟩
    refine ⟨.p (.tup []), [.vec 3 1 (intRows .i64 x13)], rfl, rfl, ?_⟩
    obtain rfl := Option.some.inj h
    conv => whnf
    refine ⟨_, _, ⟨rfl, rfl⟩, ⟨[0], [], ⟨rfl, rfl, rfl, rfl⟩, by repeat (first | exact trivial | exact .inl rfl | exact rfl | exact List.not_mem_nil | (refine .inr ?_) | (refine ⟨?_, ?_⟩) | exact List.length_set.symm | decide), by repeat (first | exact trivial | exact .inl rfl | exact rfl | exact List.not_mem_nil | (refine .inr ?_) | (refine ⟨?_, ?_⟩) | exact List.length_set.symm | decide)⟩⟩
end W
end
section
open Go Go.Proofs Ax Go.RowKit
namespace W
theorem bigs_mem {l : List Val} {v : Val} (h : v ∈ l) : v.big ≤ bigs l := by
  induction l with
  | nil => cases h
  | cons w l ih =>
    simp only [bigs]
    rcases List.mem_cons.1 h with rfl | h
    · omega
    · have := ih h; omega

def cb : List UInt8 → List UInt8 → Int
  | [], [] => 0
  | [], _ :: _ => -1
  | _ :: _, [] => 1
  | a :: x, b :: y => if a < b then -1 else if b < a then 1 else cb x y
def th (a b : Int) : Int := if a = 0 then b else a
def cmpI (a b : Int) : Int := if a < b then -1 else if b < a then 1 else 0

theorem th_zero (b : Int) : th 0 b = b := rfl
theorem th_ne {a : Int} (b : Int) (h : a ≠ 0) : th a b = a := if_neg h
theorem th_assoc (a b c : Int) : th (th a b) c = th a (th b c) := by
  by_cases h : a = 0
  · subst h; rfl
  · rw [th_ne _ h, th_ne _ h, th_ne _ h]
theorem cb_same (a : UInt8) (x y : List UInt8) : cb (a :: x) (a :: y) = cb x y := by
  have : ¬ a < a := UInt8.lt_irrefl a
  simp [cb, this]
theorem cb_lt {a b : UInt8} (x y : List UInt8) (h : a < b) : cb (a :: x) (b :: y) = -1 := by simp [cb, h]
theorem cb_gt {a b : UInt8} (x y : List UInt8) (h : b < a) : cb (a :: x) (b :: y) = 1 := by
  have : ¬ a < b := fun h2 => absurd (UInt8.lt_trans h h2) (UInt8.lt_irrefl b)
  simp [cb, this, h]
theorem cb_pre (p x y : List UInt8) : cb (p ++ x) (p ++ y) = cb x y := by
  induction p with
  | nil => rfl
  | cons a p ih => rw [List.cons_append, List.cons_append, cb_same, ih]

theorem u8_tri (a b : UInt8) : a < b ∨ a = b ∨ b < a := by
  rcases Nat.lt_trichotomy a.toNat b.toNat with h | h | h
  · exact .inl (UInt8.lt_iff_toNat_lt.2 h)
  · exact .inr (.inl (UInt8.toNat.inj h))
  · exact .inr (.inr (UInt8.lt_iff_toNat_lt.2 h))

theorem cb_facts : ∀ x y : List UInt8, Op.bytesLess x y = decide (cb x y < 0) ∧ (x == y) = (cb x y == 0) ∧ (cb x y = -1 ∨ cb x y = 0 ∨ cb x y = 1)
  | [], [] => ⟨rfl, rfl, .inr (.inl rfl)⟩
  | [], _ :: _ => ⟨rfl, rfl, .inl rfl⟩
  | _ :: _, [] => ⟨rfl, rfl, .inr (.inr rfl)⟩
  | a :: x, b :: y => by
    have ih := cb_facts x y
    rcases u8_tri a b with h | h | h
    · rw [cb_lt _ _ h]
      have hne : a ≠ b := fun e => absurd (e ▸ h) (UInt8.lt_irrefl b)
      refine ⟨by simp [Op.bytesLess, h], by simp [hne], .inl rfl⟩
    · subst h
      rw [cb_same]
      refine ⟨?_, ?_, ih.2.2⟩
      · have : ¬ a < a := UInt8.lt_irrefl a
        simp [Op.bytesLess, this, ih.1]
      · have := ih.2.1
        rw [← this]
        rw [Bool.eq_iff_iff]; simp
    · rw [cb_gt _ _ h]
      have hne : a ≠ b := fun e => absurd (e ▸ h) (UInt8.lt_irrefl b)
      have hn : ¬ a < b := fun h2 => absurd (UInt8.lt_trans h h2) (UInt8.lt_irrefl b)
      refine ⟨by simp [Op.bytesLess, hn, hne], by simp [hne], .inr (.inr rfl)⟩

theorem F_cmp_Compare_int_eq (n : Nat) (a b : Int) : F_cmp_Compare_int n a b = some (cmpI a b) := by
  unfold F_cmp_Compare_int F_cmp_isNaN_int cmpI
  have e1 : (a != a) = false := by simp
  have e2 : (b != b) = false := by simp
  simp only [bnd_eq, e1, e2, cond_false]
  by_cases h1 : a < b
  · simp [h1]
  · by_cases h2 : b < a
    · simp [h1, h2]
    · simp [h1, h2]
theorem F_cmp_Compare_int64_eq (n : Nat) (a b : Int) : F_cmp_Compare_int64 n a b = some (cmpI a b) := by
  unfold F_cmp_Compare_int64 F_cmp_isNaN_int64 cmpI
  have e1 : (a != a) = false := by simp
  have e2 : (b != b) = false := by simp
  simp only [bnd_eq, e1, e2, cond_false]
  by_cases h1 : a < b
  · simp [h1]
  · by_cases h2 : b < a
    · simp [h1, h2]
    · simp [h1, h2]
theorem F_cmp_Compare_string_eq (n : Nat) (a b : List UInt8) : F_cmp_Compare_string n a b = some (cb a b) := by
  unfold F_cmp_Compare_string F_cmp_isNaN_string
  have e1 : (!(a == a)) = false := by simp
  have e2 : (!(b == b)) = false := by simp
  obtain ⟨h1, h2, h3⟩ := cb_facts a b
  simp only [bnd_eq, e1, e2, cond_false, h1, h2]
  rcases h3 with h | h | h <;> rw [h] <;> rfl
theorem F_value_number_eq (n : Nat) (b : Bool) : F_value_number n b = some (if b then 1 else 0) := by cases b <;> rfl

theorem F_value_first_int_loop (n : Nat) (l : List Int) (hl : l.length ≤ 100) : ∀ (k i : Nat), l.length - i < k → i ≤ l.length → loopK (F_value_first_int_l1 n l) k (i : Int) = some ((l.drop i).foldr th 0) := by
  intro k
  induction k with
  | zero => intro i h; omega
  | succ k ih =>
    intro i hk hi
    rw [loopK_succ]
    generalize loopK (F_value_first_int_l1 n l) k = nx at ih ⊢
    unfold F_value_first_int_l1
    have hlen : (intRows .i64 l).length = l.length := by simp [intRows]
    simp only [hlen, Ax.idx_nat]
    rcases Nat.lt_or_ge i l.length with h | h
    · have d : decide ((i : Int) < (l.length : Int)) = true := by simp; omega
      obtain ⟨x, hx⟩ : ∃ x, l[i]? = some x := ⟨_, List.getElem?_eq_getElem h⟩
      have hd : l.drop i = x :: l.drop (i + 1) := by
        obtain ⟨hlt, rfl⟩ := List.getElem?_eq_some_iff.1 hx
        exact List.drop_eq_getElem_cons hlt
      simp only [d, cond_true, Ax.idx_nat, hx, bnd_eq, hd, List.foldr_cons]
      by_cases h0 : x = 0
      · subst h0
        have : ((0 : Int) != 0) = false := rfl
        rw [this, cond_false, wrap_nat i (by omega), th_zero]
        exact ih (i + 1) (by omega) h
      · have : (x != 0) = true := by simpa using h0
        rw [this, cond_true, th_ne _ h0]
    · have d : decide ((i : Int) < (l.length : Int)) = false := by simp; omega
      rw [d, List.drop_eq_nil_of_le h]
      rfl
theorem F_value_first_int_eq (n : Nat) (l : List Int) (hl : l.length ≤ 100) (hn : l.length < n) : F_value_first_int n l = some (l.foldr th 0) := by
  have := F_value_first_int_loop n l hl n 0 (by omega) (by omega)
  rwa [List.drop_zero] at this
theorem th_r0 (a : Int) : th a 0 = a := by
  by_cases h : a = 0
  · subst h; rfl
  · exact th_ne _ h

/-! ### Codes -/
theorem beN_cons (a : UInt8) (l : List UInt8) : beN (a :: l) = a.toNat * 256 ^ l.length + beN l := by
  have gen : ∀ (l : List UInt8) (m : Nat), l.foldl (fun n b => n * 256 + b.toNat) m = m * 256 ^ l.length + l.foldl (fun n b => n * 256 + b.toNat) 0 := by
    intro l
    induction l with
    | nil => intro m; simp
    | cons b l ih =>
      intro m
      rw [List.foldl_cons, List.foldl_cons, ih, ih (0 * 256 + b.toNat), List.length_cons, Nat.pow_succ]
      rw [Nat.add_mul, Nat.zero_mul, Nat.zero_add, Nat.mul_assoc, Nat.mul_comm 256]
      omega
  unfold beN
  rw [List.foldl_cons, gen]
  simp

theorem cb_fixed : ∀ (l l' r r' : List UInt8), l.length = l'.length → cb (l ++ r) (l' ++ r') = th (cmpI (beN l) (beN l')) (cb r r')
  | [], [], r, r', _ => by simp [beN, cmpI, th]
  | [], _ :: _, _, _, h => by cases h
  | _ :: _, [], _, _, h => by cases h
  | a :: l, b :: l', r, r', h => by
    have hl : l.length = l'.length := by simpa using h
    have h1 := beN_lt l
    have h2 := beN_lt l'
    rw [beN_cons, beN_cons]
    rw [hl] at h1 ⊢
    rcases u8_tri a b with hab | hab | hab
    · rw [List.cons_append, List.cons_append, cb_lt _ _ hab]
      have hn := UInt8.lt_iff_toNat_lt.1 hab
      have : (a.toNat + 1) * 256 ^ l'.length ≤ b.toNat * 256 ^ l'.length := Nat.mul_le_mul_right _ hn
      rw [Nat.add_mul, Nat.one_mul] at this
      have hlt : ((a.toNat * 256 ^ l'.length + beN l : Nat) : Int) < ((b.toNat * 256 ^ l'.length + beN l' : Nat) : Int) := Int.ofNat_lt.2 (by omega)
      unfold cmpI
      rw [if_pos hlt]
      rfl
    · subst hab
      rw [List.cons_append, List.cons_append, cb_same, cb_fixed l l' r r' hl]
      congr 1
      unfold cmpI
      have e1 : (((a.toNat * 256 ^ l'.length + beN l : Nat) : Int) < ((a.toNat * 256 ^ l'.length + beN l' : Nat) : Int)) = ((beN l : Int) < (beN l' : Int)) := by
        apply propext; omega
      have e2 : (((a.toNat * 256 ^ l'.length + beN l' : Nat) : Int) < ((a.toNat * 256 ^ l'.length + beN l : Nat) : Int)) = ((beN l' : Int) < (beN l : Int)) := by
        apply propext; omega
      simp only [e1, e2]
    · rw [List.cons_append, List.cons_append, cb_gt _ _ hab]
      have hn := UInt8.lt_iff_toNat_lt.1 hab
      have : (b.toNat + 1) * 256 ^ l'.length ≤ a.toNat * 256 ^ l'.length := Nat.mul_le_mul_right _ hn
      rw [Nat.add_mul, Nat.one_mul] at this
      have hlt : ((b.toNat * 256 ^ l'.length + beN l' : Nat) : Int) < ((a.toNat * 256 ^ l'.length + beN l : Nat) : Int) := Int.ofNat_lt.2 (by omega)
      unfold cmpI
      rw [if_neg (by omega), if_pos hlt]
      rfl

theorem cb_eight (m m' : Nat) (h : m < 18446744073709551616) (h' : m' < 18446744073709551616) (r r' : List UInt8) : cb (eightL m ++ r) (eightL m' ++ r') = th (cmpI m m') (cb r r') := by
  rw [cb_fixed (eightL m) (eightL m') r r' rfl, beN_eight m h, beN_eight m' h']

theorem pos_of_ne {b : UInt8} (h : b ≠ 0) : 0 < b := by
  rcases u8_tri 0 b with h1 | h1 | h1
  · exact h1
  · exact absurd h1.symm h
  · exact absurd (UInt8.lt_iff_toNat_lt.1 h1) (by simp)

theorem ended_cons (b : UInt8) (s r : List UInt8) : endedM (b :: s) ++ r = if b = 0 then 0 :: 255 :: (endedM s ++ r) else b :: (endedM s ++ r) := by
  by_cases hb : b = 0
  · subst hb; simp [endedM, esc]
  · simp [endedM, esc, hb]
theorem ended_nil (r : List UInt8) : endedM [] ++ r = 0 :: 0 :: r := rfl

theorem cb_ended : ∀ (s t r r' : List UInt8), cb (endedM s ++ r) (endedM t ++ r') = th (cb s t) (cb r r')
  | [], [], r, r' => by rw [ended_nil, ended_nil, cb_same, cb_same]; rfl
  | [], b :: t, r, r' => by
    rw [ended_nil, ended_cons]
    by_cases hb : b = 0
    · subst hb; rw [if_pos rfl, cb_same, cb_lt _ _ (by decide)]; rfl
    · rw [if_neg hb, cb_lt _ _ (pos_of_ne hb)]; rfl
  | a :: s, [], r, r' => by
    rw [ended_nil, ended_cons]
    by_cases ha : a = 0
    · subst ha; rw [if_pos rfl, cb_same, cb_gt _ _ (by decide)]; rfl
    · rw [if_neg ha, cb_gt _ _ (pos_of_ne ha)]; rfl
  | a :: s, b :: t, r, r' => by
    rw [ended_cons, ended_cons]
    have ih := cb_ended s t r r'
    by_cases ha : a = 0
    · subst ha
      by_cases hb : b = 0
      · subst hb; rw [if_pos rfl, if_pos rfl, cb_same, cb_same, cb_same, ih]
      · rw [if_pos rfl, if_neg hb, cb_lt _ _ (pos_of_ne hb), cb_lt _ _ (pos_of_ne hb)]; rfl
    · by_cases hb : b = 0
      · subst hb; rw [if_neg ha, if_pos rfl, cb_gt _ _ (pos_of_ne ha), cb_gt _ _ (pos_of_ne ha)]; rfl
      · rw [if_neg ha, if_neg hb]
        rcases u8_tri a b with h | h | h
        · rw [cb_lt _ _ h, cb_lt _ _ h]; rfl
        · subst h; rw [cb_same, cb_same, ih]
        · rw [cb_gt _ _ h, cb_gt _ _ h]; rfl

/-- c is the order of two values, and of their keys. -/
def Ord (a b : Val) (c : Int) : Prop := ∀ r r', cb (layM a ++ r) (layM b ++ r') = th c (cb r r')
def mark (k : Int) : Int := if k = 5 then 0 else if k = 6 then 1 else if k = 7 then 2 else if k = 4 then 3 else if k = 3 then 4 else if k = 1 then 5 else if k = 2 then 6 else 7

theorem F_value_place_eq (n : Nat) (k : Int) (h0 : 0 ≤ k) (h1 : k ≤ 7) : F_value_place n (IntKind.i64.wrap (((BitVec.ofInt IntKind.i64.bits k &&& BitVec.ofInt IntKind.i64.bits (7 : Int)).toNat : Nat) : Int)) = some (mark k) := by
  have : k = 0 ∨ k = 1 ∨ k = 2 ∨ k = 3 ∨ k = 4 ∨ k = 5 ∨ k = 6 ∨ k = 7 := by omega
  rcases this with h | h | h | h | h | h | h | h <;> subst h <;> rfl

theorem lay_mark {k : Int} {b : Bool} {i : Int} {s : List UInt8} {l : List Val} {ks : List (List UInt8)} (hr : right (.mk k b i s l ks) = true) :
    ∃ t m, layM (.mk k b i s l ks) = m :: t ∧ ((m.toNat : Nat) : Int) = mark k + 1 ∧ 0 ≤ k ∧ k ≤ 7 := by
  simp only [right, Bool.and_eq_true] at hr
  rcases good_shape hr.1 with ⟨rfl, rfl, rfl, rfl, rfl, rfl⟩ | ⟨rfl, rfl, rfl, rfl, rfl⟩ | ⟨rfl, rfl, rfl, rfl, rfl⟩ | ⟨rfl, rfl, rfl, rfl, rfl⟩ | ⟨rfl, rfl, rfl, rfl, rfl⟩ | ⟨rfl, rfl, rfl, rfl, hkl, _⟩ | ⟨rfl, rfl, rfl, rfl, rfl, _⟩ | ⟨rfl, rfl, rfl, rfl, rfl, _⟩ <;>
    exact ⟨_, _, rfl, rfl, by decide, by decide⟩

theorem mark_inj {k k' : Int} (h0 : 0 ≤ k) (h1 : k ≤ 7) (h0' : 0 ≤ k') (h1' : k' ≤ 7) (h : mark k = mark k') : k = k' := by
  have a : k = 0 ∨ k = 1 ∨ k = 2 ∨ k = 3 ∨ k = 4 ∨ k = 5 ∨ k = 6 ∨ k = 7 := by omega
  have b : k' = 0 ∨ k' = 1 ∨ k' = 2 ∨ k' = 3 ∨ k' = 4 ∨ k' = 5 ∨ k' = 6 ∨ k' = 7 := by omega
  rcases a with rfl | rfl | rfl | rfl | rfl | rfl | rfl | rfl <;> rcases b with rfl | rfl | rfl | rfl | rfl | rfl | rfl | rfl <;> first | rfl | exact absurd h (by decide)

theorem cb_heads {m m' : UInt8} (x y : List UInt8) {c : Int} (hc : c = cmpI (m.toNat : Int) (m'.toNat : Int)) (h : m ≠ m') : cb (m :: x) (m' :: y) = c ∧ c ≠ 0 := by
  subst hc
  unfold cmpI
  rcases u8_tri m m' with h1 | h1 | h1
  · have := UInt8.lt_iff_toNat_lt.1 h1
    rw [cb_lt _ _ h1, if_pos (by omega)]
    exact ⟨rfl, by decide⟩
  · exact absurd h1 h
  · have := UInt8.lt_iff_toNat_lt.1 h1
    rw [cb_gt _ _ h1, if_neg (by omega), if_pos (by omega)]
    exact ⟨rfl, by decide⟩

/-- Kinds that part. -/
theorem ord_kinds {k k' : Int} {b b' : Bool} {i i' : Int} {s s' : List UInt8} {l l' : List Val} {ks ks' : List (List UInt8)} (hr : right (.mk k b i s l ks) = true) (hr' : right (.mk k' b' i' s' l' ks') = true) (h : k ≠ k') :
    Ord (.mk k b i s l ks) (.mk k' b' i' s' l' ks') (cmpI (mark k) (mark k')) := by
  obtain ⟨t, m, hm, hk, h0, h1⟩ := lay_mark hr
  obtain ⟨t', m', hm', hk', h0', h1'⟩ := lay_mark hr'
  intro r r'
  rw [hm, hm']
  have hne : m ≠ m' := by
    intro e
    subst e
    exact h (mark_inj h0 h1 h0' h1' (by omega))
  have hc : cmpI (mark k) (mark k') = cmpI ((m.toNat : Nat) : Int) ((m'.toNat : Nat) : Int) := by
    unfold cmpI
    simp only [hk, hk']
    have e1 : (mark k + 1 < mark k' + 1) = (mark k < mark k') := propext (by omega)
    have e2 : (mark k' + 1 < mark k + 1) = (mark k' < mark k) := propext (by omega)
    simp only [e1, e2]
  obtain ⟨h2, h3⟩ := cb_heads (t ++ r) (t' ++ r') hc hne
  rw [List.cons_append, List.cons_append, h2, th_ne _ h3]

theorem cb_head0 (v : Val) (x y : List UInt8) : cb (0 :: x) (layM v ++ y) = -1 ∧ cb (layM v ++ y) (0 :: x) = 1 := by
  obtain ⟨m, t, hm, h0⟩ := lay_head v
  rw [hm, List.cons_append]
  exact ⟨cb_lt _ _ (pos_of_ne h0), cb_gt _ _ (pos_of_ne h0)⟩

theorem drop_consV {l : List Val} {i : Nat} {v : Val} (h : l[i]? = some v) : l.drop i = v :: l.drop (i + 1) := by
  obtain ⟨hlt, rfl⟩ := List.getElem?_eq_some_iff.1 h
  exact List.drop_eq_getElem_cons hlt
theorem drop_consK {l : List (List UInt8)} {i : Nat} {v : List UInt8} (h : l[i]? = some v) : l.drop i = v :: l.drop (i + 1) := by
  obtain ⟨hlt, rfl⟩ := List.getElem?_eq_some_iff.1 h
  exact List.drop_eq_getElem_cons hlt
theorem cmpI_self (a : Int) : cmpI a a = 0 := by simp [cmpI]

section
variable {n : Nat} {g : Val → Val → Option Int} {l l' : List Val} {ks ks' : List (List UInt8)}

theorem F_value_Order_list (hn : 10 ≤ n) (hl : l.length ≤ 1099511627776) (hg : ∀ (i : Nat) (v v' : Val), l[i]? = some v → l'[i]? = some v' → ∃ c, g v v' = some c ∧ Ord v v' c) :
    ∀ (k i : Nat), l.length - i < k → i ≤ l.length → i ≤ l'.length → ∃ c, loopK (F_value_Order_l1 n l l' 4 [] [] g false false 0 0 [] []) k (i : Int) = some c ∧
      ∀ r r', cb (layL (l.drop i) ++ 0 :: r) (layL (l'.drop i) ++ 0 :: r') = th c (cb r r') := by
  intro k
  induction k with
  | zero => intro i h; omega
  | succ k ih =>
    intro i hk hi hi'
    rw [loopK_succ]
    generalize loopK (F_value_Order_l1 n l l' 4 [] [] g false false 0 0 [] []) k = nx at ih ⊢
    unfold F_value_Order_l1
    simp only [valRows_len]
    rcases Nat.lt_or_ge i l.length with h | h
    · have d : decide ((i : Int) < (l.length : Int)) = true := by simp; omega
      obtain ⟨⟨k1, b1, i1, s1, l1, ks1⟩, hv⟩ : ∃ v, l[i]? = some v := ⟨_, List.getElem?_eq_getElem h⟩
      rcases Nat.lt_or_ge i l'.length with h' | h'
      · have d' : decide ((i : Int) < (l'.length : Int)) = true := by simp; omega
        obtain ⟨⟨k2, b2, i2, s2, l2, ks2⟩, hv'⟩ : ∃ v, l'[i]? = some v := ⟨_, List.getElem?_eq_getElem h'⟩
        obtain ⟨c, hc, ho⟩ := hg i _ _ hv hv'
        have e4 : ((4 : Int) == 5) = false := rfl
        simp only [d, d', cond_true, e4, cond_false]
        try unfold F_value_Order_k3
        simp only [Ax.idx_nat, hv, hv', bnd_eq, hc]
        rw [F_value_first_int_eq n [0, c] (by simp) (by simp; omega)]
        have e : [0, c].foldr th 0 = c := by simp only [List.foldr]; rw [th_zero, th_r0]
        rw [e]
        simp only [bnd_eq]
        by_cases h0 : c = 0
        · subst h0
          have : ((0 : Int) != 0) = false := rfl
          rw [this, cond_false, wrap_nat i (by omega)]
          obtain ⟨c', hc', ho'⟩ := ih (i + 1) (by omega) h h'
          refine ⟨c', hc', fun r r' => ?_⟩
          rw [drop_consV hv, drop_consV hv']
          simp only [layL, List.append_assoc]
          rw [ho, th_zero, ho']
        · have : (c != 0) = true := by simpa using h0
          rw [this, cond_true]
          refine ⟨c, rfl, fun r r' => ?_⟩
          rw [drop_consV hv, drop_consV hv']
          simp only [layL, List.append_assoc]
          rw [ho, th_ne _ h0, th_ne _ h0]
      · have d' : decide ((i : Int) < (l'.length : Int)) = false := by simp; omega
        simp only [d, d', cond_true, cond_false, F_cmp_Compare_int_eq, F_value_number_eq, F_cmp_Compare_int64_eq, F_cmp_Compare_string_eq, bnd_eq]
        rw [F_value_first_int_eq n _ (by simp) (by simp; omega)]
        refine ⟨_, rfl, fun r r' => ?_⟩
        rw [drop_consV hv, List.drop_eq_nil_of_le h']
        have hc : cmpI (l.length : Int) (l'.length : Int) = 1 := by unfold cmpI; rw [if_neg (by omega), if_pos (by omega)]
        rw [hc]
        simp only [layL, List.nil_append, List.append_assoc]
        rw [(cb_head0 _ _ _).2]
        rfl
    · have hil : i = l.length := by omega
      have d : decide ((i : Int) < (l.length : Int)) = false := by simp; omega
      simp only [d, cond_false, F_cmp_Compare_int_eq, F_value_number_eq, F_cmp_Compare_int64_eq, F_cmp_Compare_string_eq, bnd_eq]
      rw [F_value_first_int_eq n _ (by simp) (by simp; omega)]
      refine ⟨_, rfl, fun r r' => ?_⟩
      rw [List.drop_eq_nil_of_le h]
      rcases Nat.lt_or_ge i l'.length with h' | h'
      · obtain ⟨v', hv'⟩ : ∃ v, l'[i]? = some v := ⟨_, List.getElem?_eq_getElem h'⟩
        have hc : cmpI (l.length : Int) (l'.length : Int) = -1 := by unfold cmpI; rw [if_pos (by omega)]
        rw [hc, drop_consV hv']
        simp only [layL, List.nil_append, List.append_assoc]
        rw [(cb_head0 _ _ _).1]
        rfl
      · have : l.length = l'.length := by omega
        rw [this, cmpI_self, List.drop_eq_nil_of_le h']
        simp only [layL, List.nil_append, cb_same]
        rfl

theorem F_value_Order_map (hn : 10 ≤ n) (hl : l.length ≤ 1099511627776) (hk1 : ks.length = l.length) (hk2 : ks'.length = l'.length) (hg : ∀ (i : Nat) (v v' : Val), l[i]? = some v → l'[i]? = some v' → ∃ c, g v v' = some c ∧ Ord v v' c) :
    ∀ (k i : Nat), l.length - i < k → i ≤ l.length → i ≤ l'.length → ∃ c, loopK (F_value_Order_l1 n l l' 5 ks ks' g false false 0 0 [] []) k (i : Int) = some c ∧
      ∀ r r', cb (layK (l.drop i) (ks.drop i) ++ 0 :: r) (layK (l'.drop i) (ks'.drop i) ++ 0 :: r') = th c (cb r r') := by
  intro k
  induction k with
  | zero => intro i h; omega
  | succ k ih =>
    intro i hk hi hi'
    rw [loopK_succ]
    generalize loopK (F_value_Order_l1 n l l' 5 ks ks' g false false 0 0 [] []) k = nx at ih ⊢
    unfold F_value_Order_l1
    simp only [valRows_len]
    rcases Nat.lt_or_ge i l.length with h | h
    · have d : decide ((i : Int) < (l.length : Int)) = true := by simp; omega
      obtain ⟨⟨k1, b1, i1, s1, l1, ks1⟩, hv⟩ : ∃ v, l[i]? = some v := ⟨_, List.getElem?_eq_getElem h⟩
      obtain ⟨key, hkey⟩ : ∃ v, ks[i]? = some v := ⟨_, List.getElem?_eq_getElem (by omega)⟩
      rcases Nat.lt_or_ge i l'.length with h' | h'
      · have d' : decide ((i : Int) < (l'.length : Int)) = true := by simp; omega
        obtain ⟨⟨k2, b2, i2, s2, l2, ks2⟩, hv'⟩ : ∃ v, l'[i]? = some v := ⟨_, List.getElem?_eq_getElem h'⟩
        obtain ⟨key', hkey'⟩ : ∃ v, ks'[i]? = some v := ⟨_, List.getElem?_eq_getElem (by omega)⟩
        obtain ⟨c, hc, ho⟩ := hg i _ _ hv hv'
        have e4 : ((5 : Int) == 5) = true := rfl
        simp only [d, d', cond_true, e4, Ax.idx_nat, hkey, hkey', bnd_eq, F_cmp_Compare_string_eq]
        unfold F_value_Order_k3
        simp only [Ax.idx_nat, hv, hv', bnd_eq, hc]
        rw [F_value_first_int_eq n _ (by simp) (by simp; omega)]
        have e : [cb key key', c].foldr th 0 = th (cb key key') c := by simp only [List.foldr]; rw [th_r0]
        rw [e]
        simp only [bnd_eq]
        have step : ∀ x y, cb (layK ((.mk k1 b1 i1 s1 l1 ks1) :: l.drop (i + 1)) (key :: ks.drop (i + 1)) ++ x) (layK ((.mk k2 b2 i2 s2 l2 ks2) :: l'.drop (i + 1)) (key' :: ks'.drop (i + 1)) ++ y) =
            th (th (cb key key') c) (cb (layK (l.drop (i + 1)) (ks.drop (i + 1)) ++ x) (layK (l'.drop (i + 1)) (ks'.drop (i + 1)) ++ y)) := by
          intro x y
          simp only [layK, List.append_assoc, List.cons_append]
          rw [cb_same, cb_ended, ho, th_assoc]
        by_cases h0 : th (cb key key') c = 0
        · rw [h0] at step ⊢
          have : ((0 : Int) != 0) = false := rfl
          rw [this, cond_false, wrap_nat i (by omega)]
          obtain ⟨c', hc', ho'⟩ := ih (i + 1) (by omega) h h'
          refine ⟨c', hc', fun r r' => ?_⟩
          rw [drop_consV hv, drop_consV hv', drop_consK hkey, drop_consK hkey', step, th_zero, ho']
        · have : (th (cb key key') c != 0) = true := by simpa using h0
          rw [this, cond_true]
          refine ⟨_, rfl, fun r r' => ?_⟩
          rw [drop_consV hv, drop_consV hv', drop_consK hkey, drop_consK hkey', step, th_ne _ h0, th_ne _ h0]
      · have d' : decide ((i : Int) < (l'.length : Int)) = false := by simp; omega
        simp only [d, d', cond_true, cond_false, F_cmp_Compare_int_eq, F_value_number_eq, F_cmp_Compare_int64_eq, F_cmp_Compare_string_eq, bnd_eq]
        rw [F_value_first_int_eq n _ (by simp) (by simp; omega)]
        refine ⟨_, rfl, fun r r' => ?_⟩
        rw [drop_consV hv, drop_consK hkey, List.drop_eq_nil_of_le h']
        have hc : cmpI (l.length : Int) (l'.length : Int) = 1 := by unfold cmpI; rw [if_neg (by omega), if_pos (by omega)]
        rw [hc]
        simp only [layK, List.nil_append, List.append_assoc, List.cons_append]
        rw [cb_gt _ _ (by decide)]
        rfl
    · have hil : i = l.length := by omega
      have d : decide ((i : Int) < (l.length : Int)) = false := by simp; omega
      simp only [d, cond_false, F_cmp_Compare_int_eq, F_value_number_eq, F_cmp_Compare_int64_eq, F_cmp_Compare_string_eq, bnd_eq]
      rw [F_value_first_int_eq n _ (by simp) (by simp; omega)]
      refine ⟨_, rfl, fun r r' => ?_⟩
      rw [List.drop_eq_nil_of_le h]
      rcases Nat.lt_or_ge i l'.length with h' | h'
      · obtain ⟨v', hv'⟩ : ∃ v, l'[i]? = some v := ⟨_, List.getElem?_eq_getElem h'⟩
        obtain ⟨key', hkey'⟩ : ∃ v, ks'[i]? = some v := ⟨_, List.getElem?_eq_getElem (by omega)⟩
        have hc : cmpI (l.length : Int) (l'.length : Int) = -1 := by unfold cmpI; rw [if_pos (by omega)]
        rw [hc, drop_consV hv', drop_consK hkey']
        simp only [layK, List.nil_append, List.append_assoc, List.cons_append]
        rw [cb_lt _ _ (by decide)]
        rfl
      · have : l.length = l'.length := by omega
        rw [this, cmpI_self, List.drop_eq_nil_of_le h']
        simp only [layK, List.nil_append, cb_same]
        rfl
end

theorem rightL_get {l : List Val} (h : rightL l = true) {v : Val} (hm : v ∈ l) : right v = true := by
  induction l with
  | nil => cases hm
  | cons w l ih =>
    simp only [rightL, Bool.and_eq_true] at h
    rcases List.mem_cons.1 hm with rfl | hm
    · exact h.1
    · exact ih h.2 hm
theorem rangeL_get {l : List Val} (h : range64L l = true) {v : Val} (hm : v ∈ l) : range64 v = true := by
  induction l with
  | nil => cases hm
  | cons w l ih =>
    simp only [range64L, Bool.and_eq_true] at h
    rcases List.mem_cons.1 hm with rfl | hm
    · exact h.1
    · exact ih h.2 hm

/-- Where there are no parts the loop ends at once. -/
theorem F_value_Order_flat (n : Nat) (hn : 10 ≤ n) (k : Int) (g : Val → Val → Option Int) (b b' : Bool) (i i' : Int) (s s' : List UInt8) (ks ks' : List (List UInt8)) :
    loopK (F_value_Order_l1 n [] [] k ks ks' g b b' i i' s s') n 0 = some (th (cmpI (if b then 1 else 0) (if b' then 1 else 0)) (th (cmpI i i') (cb s s'))) := by
  obtain ⟨m, rfl⟩ : ∃ j, n = j + 1 := ⟨n - 1, by omega⟩
  rw [loopK_succ]
  generalize loopK (F_value_Order_l1 (m + 1) [] [] k ks ks' g b b' i i' s s') m = nx
  unfold F_value_Order_l1
  simp only [valRows_len, List.length_nil, F_cmp_Compare_int_eq, F_value_number_eq, F_cmp_Compare_int64_eq, F_cmp_Compare_string_eq, bnd_eq]
  rw [F_value_first_int_eq (m + 1) _ (by simp) (by simp; omega)]
  simp only [List.foldr, th_r0]
  rfl

theorem off_ord (i i' : Int) (h : int64 i = true) (h' : int64 i' = true) : cmpI ((bits64 i ^^^ 9223372036854775808 : Nat) : Int) ((bits64 i' ^^^ 9223372036854775808 : Nat) : Int) = cmpI i i' := by
  simp only [int64, decide_eq_true_eq] at h h'
  have e : ∀ i : Int, -9223372036854775808 ≤ i ∧ i < 9223372036854775808 → ((bits64 i ^^^ 9223372036854775808 : Nat) : Int) = i + 9223372036854775808 := by
    intro i h
    rw [xor_add _ (bits64_lt i)]
    unfold bits64
    omega
  rw [e i h, e i' h']
  unfold cmpI
  have e1 : (i + 9223372036854775808 < i' + 9223372036854775808) = (i < i') := propext (by omega)
  have e2 : (i' + 9223372036854775808 < i + 9223372036854775808) = (i' < i) := propext (by omega)
  simp only [e1, e2]
theorem pos_bits (i : Int) (h : int64 i = true) (h1 : 1 ≤ i) : (bits64 i : Int) = i := by
  simp only [int64, decide_eq_true_eq] at h
  unfold bits64
  omega

theorem F_value_Order_eq : ∀ (m n : Nat) (a b : Val), a.big ≤ m → m ≤ 1099511627776 → m + 20 ≤ n → right a = true → right b = true → range64 a = true → range64 b = true → ∃ c, F_value_Order n a b = some c ∧ Ord a b c := by
  intro m
  induction m with
  | zero => intro n a b h; exact absurd a.big_pos (by omega)
  | succ m ih =>
    rintro n ⟨k, b, i, s, l, ks⟩ ⟨k', b', i', s', l', ks'⟩ ha hm hn hr hr' hi hi'
    obtain ⟨n, rfl⟩ : ∃ j, n = j + 1 := ⟨n - 1, by omega⟩
    have hbig : 1 + s.length + bigs l + kbig ks ≤ m + 1 := ha
    have hll := bigs_len l
    show ∃ c, BF_value_Order n (F_value_Order n) _ _ = some c ∧ _
    have hg : ∀ (x : Nat) (v v' : Val), l[x]? = some v → l'[x]? = some v' → rightL l = true → rightL l' = true → range64L l = true → range64L l' = true → ∃ c, F_value_Order n v v' = some c ∧ Ord v v' c := by
      intro x v v' hv hv' h1 h2 h3 h4
      have hb := bigs_mem (List.mem_of_getElem? hv)
      exact ih n v v' (by omega) (by omega) (by omega) (rightL_get h1 (List.mem_of_getElem? hv)) (rightL_get h2 (List.mem_of_getElem? hv')) (rangeL_get h3 (List.mem_of_getElem? hv)) (rangeL_get h4 (List.mem_of_getElem? hv'))
    unfold BF_value_Order
    by_cases hk : k = k'
    · subst hk
      have e : (k != k) = false := by simp
      simp only [e, cond_false]
      simp only [right, Bool.and_eq_true] at hr hr'
      simp only [range64, Bool.and_eq_true] at hi hi'
      rcases good_shape hr.1 with ⟨rfl, rfl, rfl, rfl, rfl, rfl⟩ | ⟨rfl, rfl, rfl, rfl, rfl⟩ | ⟨rfl, rfl, rfl, rfl, rfl⟩ | ⟨rfl, rfl, rfl, rfl, rfl⟩ | ⟨rfl, rfl, rfl, rfl, rfl⟩ | ⟨rfl, rfl, rfl, rfl, hkl, _⟩ | ⟨rfl, rfl, rfl, rfl, rfl, hi1⟩ | ⟨rfl, rfl, rfl, rfl, rfl, hi1⟩
      · rcases good_shape hr'.1 with ⟨_, rfl, rfl, rfl, rfl, rfl⟩ | h | h | h | h | h | h | h <;> try exact absurd h.1 (by decide)
        rw [F_value_Order_flat n (by omega)]
        exact ⟨_, rfl, fun r r' => by show cb (8 :: r) (8 :: r') = _; rw [cb_same]; rfl⟩
      · rcases good_shape hr'.1 with h | ⟨_, rfl, rfl, rfl, rfl⟩ | h | h | h | h | h | h <;> try exact absurd h.1 (by decide)
        rw [F_value_Order_flat n (by omega)]
        refine ⟨_, rfl, fun r r' => ?_⟩
        cases b <;> cases b'
        · show cb (6 :: 0 :: r) (6 :: 0 :: r') = _; rw [cb_same, cb_same]; rfl
        · show cb (6 :: 0 :: r) (6 :: 1 :: r') = _; rw [cb_same, cb_lt _ _ (by decide)]; rfl
        · show cb (6 :: 1 :: r) (6 :: 0 :: r') = _; rw [cb_same, cb_gt _ _ (by decide)]; rfl
        · show cb (6 :: 1 :: r) (6 :: 1 :: r') = _; rw [cb_same, cb_same]; rfl
      · rcases good_shape hr'.1 with h | h | ⟨_, rfl, rfl, rfl, rfl⟩ | h | h | h | h | h <;> try exact absurd h.1 (by decide)
        rw [F_value_Order_flat n (by omega)]
        refine ⟨_, rfl, fun r r' => ?_⟩
        show cb (7 :: (eightL (bits64 i ^^^ 9223372036854775808) ++ r)) (7 :: (eightL (bits64 i' ^^^ 9223372036854775808) ++ r')) = _
        rw [cb_same, cb_eight _ _ (off_lt i) (off_lt i'), off_ord i i' hi.1 hi'.1]
        show _ = th (th (cmpI i i') 0) _
        rw [th_r0]
      · rcases good_shape hr'.1 with h | h | h | ⟨_, rfl, rfl, rfl, rfl⟩ | h | h | h | h <;> try exact absurd h.1 (by decide)
        rw [F_value_Order_flat n (by omega)]
        refine ⟨_, rfl, fun r r' => ?_⟩
        show cb (5 :: (endedM s ++ r)) (5 :: (endedM s' ++ r')) = _
        rw [cb_same, cb_ended]
        rfl
      · rcases good_shape hr'.1 with h | h | h | h | ⟨_, rfl, rfl, rfl, rfl⟩ | h | h | h <;> try exact absurd h.1 (by decide)
        obtain ⟨c, hc, ho⟩ := F_value_Order_list (n := n) (g := F_value_Order n) (l := l) (l' := l') (by omega) (by omega) (fun x v v' hv hv' => hg x v v' hv hv' hr.2 hr'.2 hi.2 hi'.2) n 0 (by omega) (by omega) (by omega)
        refine ⟨c, hc, fun r r' => ?_⟩
        have e1 : ∀ (l : List Val) (r : List UInt8), layM (.mk 4 false 0 [] l []) ++ r = 4 :: (layL l ++ 0 :: r) := fun l r => by
          show (4 :: layL l ++ [0]) ++ r = _
          simp
        rw [e1, e1, cb_same]
        exact ho r r'
      · rcases good_shape hr'.1 with h | h | h | h | h | ⟨_, rfl, rfl, rfl, hkl', _⟩ | h | h <;> try exact absurd h.1 (by decide)
        obtain ⟨c, hc, ho⟩ := F_value_Order_map (n := n) (g := F_value_Order n) (l := l) (l' := l') (ks := ks) (ks' := ks') (by omega) (by omega) hkl hkl' (fun x v v' hv hv' => hg x v v' hv hv' hr.2 hr'.2 hi.2 hi'.2) n 0 (by omega) (by omega) (by omega)
        refine ⟨c, hc, fun r r' => ?_⟩
        have e1 : ∀ (l : List Val) (ks : List (List UInt8)) (r : List UInt8), layM (.mk 5 false 0 [] l ks) ++ r = 1 :: (layK l ks ++ 0 :: r) := fun l ks r => by
          show (1 :: layK l ks ++ [0]) ++ r = _
          simp
        rw [e1, e1, cb_same]
        exact ho r r'
      · rcases good_shape hr'.1 with h | h | h | h | h | h | ⟨_, rfl, rfl, rfl, rfl, hi1'⟩ | h <;> try exact absurd h.1 (by decide)
        rw [F_value_Order_flat n (by omega)]
        refine ⟨_, rfl, fun r r' => ?_⟩
        show cb (2 :: (eightL (bits64 i) ++ r)) (2 :: (eightL (bits64 i') ++ r')) = _
        rw [cb_same, cb_eight _ _ (bits64_lt i) (bits64_lt i'), pos_bits i hi.1 hi1, pos_bits i' hi'.1 hi1']
        show _ = th (th (cmpI i i') 0) _
        rw [th_r0]
      · rcases good_shape hr'.1 with h | h | h | h | h | h | h | ⟨_, rfl, rfl, rfl, rfl, hi1'⟩ <;> try exact absurd h.1 (by decide)
        rw [F_value_Order_flat n (by omega)]
        refine ⟨_, rfl, fun r r' => ?_⟩
        show cb (3 :: (eightL (bits64 i) ++ r)) (3 :: (eightL (bits64 i') ++ r')) = _
        rw [cb_same, cb_eight _ _ (bits64_lt i) (bits64_lt i'), pos_bits i hi.1 hi1, pos_bits i' hi'.1 hi1']
        show _ = th (th (cmpI i i') 0) _
        rw [th_r0]
    · have e : (k != k') = true := by simpa using hk
      obtain ⟨_, _, _, _, h0, h1⟩ := lay_mark hr
      obtain ⟨_, _, _, _, h0', h1'⟩ := lay_mark hr'
      simp only [e, cond_true]
      rw [F_value_place_eq n k h0 h1, F_value_place_eq n k' h0' h1']
      simp only [bnd_eq, F_cmp_Compare_int_eq]
      exact ⟨_, rfl, ord_kinds hr hr' hk⟩


end W
end
section
open Go Go.Proofs Ax
namespace W
abbrev R_F_slices_symMergeCmpFunc_int__rows_Sort_c1 (x7 : List Int) (r : (List Int)) : FV := .p (.tup [])

abbrev L_F_slices_symMergeCmpFunc_int__rows_Sort_c1 (x7 : List Int) (r : (List Int)) : List AObj := [.vec 3 1 (intRows .i64 r)]

def F_slices_symMergeCmpFunc_int__rows_Sort_c1_k18 (n : Nat) (x2 : Int) (x4 : Int) (x3 : Int) (x10 : Int) (x11 : Int) (x1 : Nat) (x7 : List Int) (x5 : List (List Val)) (x6 : List Bool) (nx1 : Int × Int → Option ((List Int))) : Unit → Option ((List Int)) := fun _ =>
 bnd (natI (IntKind.i64.wrap ((IntKind.i64.wrap ((IntKind.i64.wrap ((IntKind.i64.wrap (Int.fdiv (IntKind.u64.wrap (IntKind.i64.wrap (x2 + x4))) (2 ^ (min (Int.toNat (1 : Int)) IntKind.u64.bits)))) + x3)) - (1 : Int))) - (IntKind.i64.wrap (Int.fdiv (IntKind.u64.wrap (IntKind.i64.wrap (x10 + x11))) (2 ^ (min (Int.toNat (1 : Int)) IntKind.u64.bits))))))) fun x12 =>
 chk (decide (x12 < x1)) (
 bnd (x7[x12]?) fun x13 =>
 bnd (natI (IntKind.i64.wrap (Int.fdiv (IntKind.u64.wrap (IntKind.i64.wrap (x10 + x11))) (2 ^ (min (Int.toNat (1 : Int)) IntKind.u64.bits))))) fun x14 =>
 chk (decide (x14 < x1)) (
 bnd (x7[x14]?) fun x15 =>
 bnd (F_rows_Sort_c1 n x13 x15 x5 x6) fun x16 =>
 bif (!(decide (x16 < (0 : Int)))) then (
 nx1 ((IntKind.i64.wrap ((IntKind.i64.wrap (Int.fdiv (IntKind.u64.wrap (IntKind.i64.wrap (x10 + x11))) (2 ^ (min (Int.toNat (1 : Int)) IntKind.u64.bits)))) + (1 : Int))), x11))
else (
 nx1 (x10, (IntKind.i64.wrap (Int.fdiv (IntKind.u64.wrap (IntKind.i64.wrap (x10 + x11))) (2 ^ (min (Int.toNat (1 : Int)) IntKind.u64.bits))))))))

def F_slices_symMergeCmpFunc_int__rows_Sort_c1_k20 (n : Nat) (x2 : Int) (x4 : Int) (x3 : Int) (x10 : Int) (g74_39 : Nat → Int → Int → Int → (List (List Val)) → (List Bool) → (List Int) → Option ((List Int))) (x1 : Nat) (x5 : List (List Val)) (x6 : List Bool) : List Int → Option ((List Int)) := fun x18 =>
 bif (bif (decide ((IntKind.i64.wrap (Int.fdiv (IntKind.u64.wrap (IntKind.i64.wrap (x2 + x4))) (2 ^ (min (Int.toNat (1 : Int)) IntKind.u64.bits)))) < (IntKind.i64.wrap ((IntKind.i64.wrap ((IntKind.i64.wrap (Int.fdiv (IntKind.u64.wrap (IntKind.i64.wrap (x2 + x4))) (2 ^ (min (Int.toNat (1 : Int)) IntKind.u64.bits)))) + x3)) - x10)))) then (decide ((IntKind.i64.wrap ((IntKind.i64.wrap ((IntKind.i64.wrap (Int.fdiv (IntKind.u64.wrap (IntKind.i64.wrap (x2 + x4))) (2 ^ (min (Int.toNat (1 : Int)) IntKind.u64.bits)))) + x3)) - x10)) < x4)) else false) then (
 bnd (g74_39 x1 (IntKind.i64.wrap (Int.fdiv (IntKind.u64.wrap (IntKind.i64.wrap (x2 + x4))) (2 ^ (min (Int.toNat (1 : Int)) IntKind.u64.bits)))) (IntKind.i64.wrap ((IntKind.i64.wrap ((IntKind.i64.wrap (Int.fdiv (IntKind.u64.wrap (IntKind.i64.wrap (x2 + x4))) (2 ^ (min (Int.toNat (1 : Int)) IntKind.u64.bits)))) + x3)) - x10)) x4 x5 x6 x18) fun x19 =>
 some x19)
else (
 some x18)

def F_slices_symMergeCmpFunc_int__rows_Sort_c1_k19 (n : Nat) (x2 : Int) (x10 : Int) (x4 : Int) (g74_39 : Nat → Int → Int → Int → (List (List Val)) → (List Bool) → (List Int) → Option ((List Int))) (x1 : Nat) (x5 : List (List Val)) (x6 : List Bool) (x3 : Int) : List Int → Option ((List Int)) := fun x17 =>
 bif (bif (decide (x2 < x10)) then (decide (x10 < (IntKind.i64.wrap (Int.fdiv (IntKind.u64.wrap (IntKind.i64.wrap (x2 + x4))) (2 ^ (min (Int.toNat (1 : Int)) IntKind.u64.bits)))))) else false) then (
 bnd (g74_39 x1 x2 x10 (IntKind.i64.wrap (Int.fdiv (IntKind.u64.wrap (IntKind.i64.wrap (x2 + x4))) (2 ^ (min (Int.toNat (1 : Int)) IntKind.u64.bits)))) x5 x6 x17) fun x20 =>
 F_slices_symMergeCmpFunc_int__rows_Sort_c1_k20 n x2 x4 x3 x10 g74_39 x1 x5 x6 x20)
else (
 F_slices_symMergeCmpFunc_int__rows_Sort_c1_k20 n x2 x4 x3 x10 g74_39 x1 x5 x6 x17)

def F_slices_symMergeCmpFunc_int__rows_Sort_c1_l1 (n : Nat) (x2 : Int) (x4 : Int) (x3 : Int) (x1 : Nat) (x7 : List Int) (x5 : List (List Val)) (x6 : List Bool) (g74_39 : Nat → Int → Int → Int → (List (List Val)) → (List Bool) → (List Int) → Option ((List Int))) : (Int × Int → Option ((List Int))) → Int × Int → Option ((List Int)) := fun nx1 (x10, x11) =>
 bif (decide (x10 < x11)) then (
 F_slices_symMergeCmpFunc_int__rows_Sort_c1_k18 n x2 x4 x3 x10 x11 x1 x7 x5 x6 nx1 ())
else (
 bif (bif (decide (x10 < x3)) then (decide (x3 < (IntKind.i64.wrap ((IntKind.i64.wrap ((IntKind.i64.wrap (Int.fdiv (IntKind.u64.wrap (IntKind.i64.wrap (x2 + x4))) (2 ^ (min (Int.toNat (1 : Int)) IntKind.u64.bits)))) + x3)) - x10)))) else false) then (
 bnd (F_slices_rotateCmpFunc_int__rows_Sort_c1 n x1 x10 x3 (IntKind.i64.wrap ((IntKind.i64.wrap ((IntKind.i64.wrap (Int.fdiv (IntKind.u64.wrap (IntKind.i64.wrap (x2 + x4))) (2 ^ (min (Int.toNat (1 : Int)) IntKind.u64.bits)))) + x3)) - x10)) x5 x6 x7) fun x21 =>
 F_slices_symMergeCmpFunc_int__rows_Sort_c1_k19 n x2 x10 x4 g74_39 x1 x5 x6 x3 x21)
else (
 F_slices_symMergeCmpFunc_int__rows_Sort_c1_k19 n x2 x10 x4 g74_39 x1 x5 x6 x3 x7))

def F_slices_symMergeCmpFunc_int__rows_Sort_c1_k15 (n : Nat) (x2 : Int) (x4 : Int) (x3 : Int) (x1 : Nat) (x7 : List Int) (x5 : List (List Val)) (x6 : List Bool) (g74_39 : Nat → Int → Int → Int → (List (List Val)) → (List Bool) → (List Int) → Option ((List Int))) : Int × Int → Option ((List Int)) := fun (x8, x9) =>
 loopK (F_slices_symMergeCmpFunc_int__rows_Sort_c1_l1 n x2 x4 x3 x1 x7 x5 x6 g74_39) n (x8, x9)

def F_slices_symMergeCmpFunc_int__rows_Sort_c1_k14 (n : Nat) (x3 : Int) (x2 : Int) (x4 : Int) (x1 : Nat) (x7 : List Int) (x5 : List (List Val)) (x6 : List Bool) (g74_39 : Nat → Int → Int → Int → (List (List Val)) → (List Bool) → (List Int) → Option ((List Int))) : Unit → Option ((List Int)) := fun _ =>
 bif (decide (x3 > (IntKind.i64.wrap (Int.fdiv (IntKind.u64.wrap (IntKind.i64.wrap (x2 + x4))) (2 ^ (min (Int.toNat (1 : Int)) IntKind.u64.bits)))))) then (
 F_slices_symMergeCmpFunc_int__rows_Sort_c1_k15 n x2 x4 x3 x1 x7 x5 x6 g74_39 ((IntKind.i64.wrap ((IntKind.i64.wrap ((IntKind.i64.wrap (Int.fdiv (IntKind.u64.wrap (IntKind.i64.wrap (x2 + x4))) (2 ^ (min (Int.toNat (1 : Int)) IntKind.u64.bits)))) + x3)) - x4)), (IntKind.i64.wrap (Int.fdiv (IntKind.u64.wrap (IntKind.i64.wrap (x2 + x4))) (2 ^ (min (Int.toNat (1 : Int)) IntKind.u64.bits))))))
else (
 F_slices_symMergeCmpFunc_int__rows_Sort_c1_k15 n x2 x4 x3 x1 x7 x5 x6 g74_39 (x2, x3))

def F_slices_symMergeCmpFunc_int__rows_Sort_c1_k23 (n : Nat) (x3 : Int) (x1 : Nat) (x7 : List Int) (x22 : Int) (x23 : Int) (x5 : List (List Val)) (x6 : List Bool) (nx2 : Int × Int → Option ((List Int))) : Unit → Option ((List Int)) := fun _ =>
 bnd (natI x3) fun x24 =>
 chk (decide (x24 < x1)) (
 bnd (x7[x24]?) fun x25 =>
 bnd (natI (IntKind.i64.wrap (Int.fdiv (IntKind.u64.wrap (IntKind.i64.wrap (x22 + x23))) (2 ^ (min (Int.toNat (1 : Int)) IntKind.u64.bits))))) fun x26 =>
 chk (decide (x26 < x1)) (
 bnd (x7[x26]?) fun x27 =>
 bnd (F_rows_Sort_c1 n x25 x27 x5 x6) fun x28 =>
 bif (!(decide (x28 < (0 : Int)))) then (
 nx2 ((IntKind.i64.wrap ((IntKind.i64.wrap (Int.fdiv (IntKind.u64.wrap (IntKind.i64.wrap (x22 + x23))) (2 ^ (min (Int.toNat (1 : Int)) IntKind.u64.bits)))) + (1 : Int))), x23))
else (
 nx2 (x22, (IntKind.i64.wrap (Int.fdiv (IntKind.u64.wrap (IntKind.i64.wrap (x22 + x23))) (2 ^ (min (Int.toNat (1 : Int)) IntKind.u64.bits))))))))

def F_slices_symMergeCmpFunc_int__rows_Sort_c1_k26 (n : Nat) (x29 : Int) (x1 : Nat) (x30 : List Int) (nx3 : Int × List Int → Option ((List Int))) : Unit → Option ((List Int)) := fun _ =>
 bnd (natI (IntKind.i64.wrap (x29 - (1 : Int)))) fun x31 =>
 chk (decide (x31 < x1)) (
 bnd (x30[x31]?) fun x32 =>
 bnd (natI x29) fun x33 =>
 chk (decide (x33 < x1)) (
 bnd (x30[x33]?) fun x34 =>
 bnd (natI x29) fun x35 =>
 chk (decide (x35 < x1)) (
 bnd (x30[x35]?) fun x36 =>
 bnd (natI (IntKind.i64.wrap (x29 - (1 : Int)))) fun x37 =>
 chk (decide (x37 < x1)) (
 bnd ((x30.set x35 x32)[x37]?) fun x38 =>
 nx3 ((IntKind.i64.wrap (x29 - (1 : Int))), ((x30.set x35 x32).set x37 x34))))))

def F_slices_symMergeCmpFunc_int__rows_Sort_c1_l3 (n : Nat) (x22 : Int) (x1 : Nat) : (Int × List Int → Option ((List Int))) → Int × List Int → Option ((List Int)) := fun nx3 (x29, x30) =>
 bif (decide (x29 > x22)) then (
 F_slices_symMergeCmpFunc_int__rows_Sort_c1_k26 n x29 x1 x30 nx3 ())
else (
 some x30)

def F_slices_symMergeCmpFunc_int__rows_Sort_c1_l2 (n : Nat) (x3 : Int) (x1 : Nat) (x7 : List Int) (x5 : List (List Val)) (x6 : List Bool) : (Int × Int → Option ((List Int))) → Int × Int → Option ((List Int)) := fun nx2 (x22, x23) =>
 bif (decide (x22 < x23)) then (
 F_slices_symMergeCmpFunc_int__rows_Sort_c1_k23 n x3 x1 x7 x22 x23 x5 x6 nx2 ())
else (
 loopK (F_slices_symMergeCmpFunc_int__rows_Sort_c1_l3 n x22 x1) n (x3, x7))

def F_slices_symMergeCmpFunc_int__rows_Sort_c1_k7 (n : Nat) (x4 : Int) (x3 : Int) (x1 : Nat) (x7 : List Int) (x5 : List (List Val)) (x6 : List Bool) (x2 : Int) (g74_39 : Nat → Int → Int → Int → (List (List Val)) → (List Bool) → (List Int) → Option ((List Int))) : Unit → Option ((List Int)) := fun _ =>
 bif ((IntKind.i64.wrap (x4 - x3)) == (1 : Int)) then (
 loopK (F_slices_symMergeCmpFunc_int__rows_Sort_c1_l2 n x3 x1 x7 x5 x6) n (x2, x3))
else (
 F_slices_symMergeCmpFunc_int__rows_Sort_c1_k14 n x3 x2 x4 x1 x7 x5 x6 g74_39 ())

def F_slices_symMergeCmpFunc_int__rows_Sort_c1_k29 (n : Nat) (x39 : Int) (x40 : Int) (x1 : Nat) (x7 : List Int) (x2 : Int) (x5 : List (List Val)) (x6 : List Bool) (nx4 : Int × Int → Option ((List Int))) : Unit → Option ((List Int)) := fun _ =>
 bnd (natI (IntKind.i64.wrap (Int.fdiv (IntKind.u64.wrap (IntKind.i64.wrap (x39 + x40))) (2 ^ (min (Int.toNat (1 : Int)) IntKind.u64.bits))))) fun x41 =>
 chk (decide (x41 < x1)) (
 bnd (x7[x41]?) fun x42 =>
 bnd (natI x2) fun x43 =>
 chk (decide (x43 < x1)) (
 bnd (x7[x43]?) fun x44 =>
 bnd (F_rows_Sort_c1 n x42 x44 x5 x6) fun x45 =>
 bif (decide (x45 < (0 : Int))) then (
 nx4 ((IntKind.i64.wrap ((IntKind.i64.wrap (Int.fdiv (IntKind.u64.wrap (IntKind.i64.wrap (x39 + x40))) (2 ^ (min (Int.toNat (1 : Int)) IntKind.u64.bits)))) + (1 : Int))), x40))
else (
 nx4 (x39, (IntKind.i64.wrap (Int.fdiv (IntKind.u64.wrap (IntKind.i64.wrap (x39 + x40))) (2 ^ (min (Int.toNat (1 : Int)) IntKind.u64.bits))))))))

def F_slices_symMergeCmpFunc_int__rows_Sort_c1_k32 (n : Nat) (x46 : Int) (x1 : Nat) (x47 : List Int) (nx5 : Int × List Int → Option ((List Int))) : Unit → Option ((List Int)) := fun _ =>
 bnd (natI (IntKind.i64.wrap (x46 + (1 : Int)))) fun x48 =>
 chk (decide (x48 < x1)) (
 bnd (x47[x48]?) fun x49 =>
 bnd (natI x46) fun x50 =>
 chk (decide (x50 < x1)) (
 bnd (x47[x50]?) fun x51 =>
 bnd (natI x46) fun x52 =>
 chk (decide (x52 < x1)) (
 bnd (x47[x52]?) fun x53 =>
 bnd (natI (IntKind.i64.wrap (x46 + (1 : Int)))) fun x54 =>
 chk (decide (x54 < x1)) (
 bnd ((x47.set x52 x49)[x54]?) fun x55 =>
 nx5 ((IntKind.i64.wrap (x46 + (1 : Int))), ((x47.set x52 x49).set x54 x51))))))

def F_slices_symMergeCmpFunc_int__rows_Sort_c1_l5 (n : Nat) (x39 : Int) (x1 : Nat) : (Int × List Int → Option ((List Int))) → Int × List Int → Option ((List Int)) := fun nx5 (x46, x47) =>
 bif (decide (x46 < (IntKind.i64.wrap (x39 - (1 : Int))))) then (
 F_slices_symMergeCmpFunc_int__rows_Sort_c1_k32 n x46 x1 x47 nx5 ())
else (
 some x47)

def F_slices_symMergeCmpFunc_int__rows_Sort_c1_l4 (n : Nat) (x1 : Nat) (x7 : List Int) (x2 : Int) (x5 : List (List Val)) (x6 : List Bool) : (Int × Int → Option ((List Int))) → Int × Int → Option ((List Int)) := fun nx4 (x39, x40) =>
 bif (decide (x39 < x40)) then (
 F_slices_symMergeCmpFunc_int__rows_Sort_c1_k29 n x39 x40 x1 x7 x2 x5 x6 nx4 ())
else (
 loopK (F_slices_symMergeCmpFunc_int__rows_Sort_c1_l5 n x39 x1) n (x2, x7))

def BF_slices_symMergeCmpFunc_int__rows_Sort_c1 (n : Nat) (g74_39 : Nat → Int → Int → Int → (List (List Val)) → (List Bool) → (List Int) → Option ((List Int))) (x1 : Nat) (x2 : Int) (x3 : Int) (x4 : Int) (x5 : List (List Val)) (x6 : List Bool) (x7 : List Int) : Option ((List Int)) :=
  bif ((IntKind.i64.wrap (x3 - x2)) == (1 : Int)) then (
  loopK (F_slices_symMergeCmpFunc_int__rows_Sort_c1_l4 n x1 x7 x2 x5 x6) n (x3, x4))
  else (
  F_slices_symMergeCmpFunc_int__rows_Sort_c1_k7 n x4 x3 x1 x7 x5 x6 x2 g74_39 ())

set_option maxHeartbeats 4000000 in
set_option maxRecDepth 100000 in
theorem BF_slices_symMergeCmpFunc_int__rows_Sort_c1_ok (n : Nat) (g74_39 : Nat → Int → Int → Int → (List (List Val)) → (List Bool) → (List Int) → Option ((List Int))) (g74_39_ok : ∀ (x1 : Nat) (x2 : Int) (x3 : Int) (x4 : Int) (x5 : List (List Val)) (x6 : List Bool) (x7 : List Int) (r : (List Int)), g74_39 x1 x2 x3 x4 x5 x6 x7 = some r → CallsO Tryd.prog 74 [.vsl 0 x1, .p (PV.int .i64 x2), .p (PV.int .i64 x3), .p (PV.int .i64 x4), .p (PV.clo 39 [PV.hp [PV.sl (slRows valC x5)], PV.hp [PV.sl (boolRows x6)]])] [.vec 3 1 (intRows .i64 x7)] 1 (fun v lo => v = R_F_slices_symMergeCmpFunc_int__rows_Sort_c1 x7 r ∧ lo = L_F_slices_symMergeCmpFunc_int__rows_Sort_c1 x7 r)) : ∀ (x1 : Nat) (x2 : Int) (x3 : Int) (x4 : Int) (x5 : List (List Val)) (x6 : List Bool) (x7 : List Int) (r : (List Int)), BF_slices_symMergeCmpFunc_int__rows_Sort_c1 n g74_39 x1 x2 x3 x4 x5 x6 x7 = some r → CallsO Tryd.prog 74 [.vsl 0 x1, .p (PV.int .i64 x2), .p (PV.int .i64 x3), .p (PV.int .i64 x4), .p (PV.clo 39 [PV.hp [PV.sl (slRows valC x5)], PV.hp [PV.sl (boolRows x6)]])] [.vec 3 1 (intRows .i64 x7)] 1 (fun v lo => v = R_F_slices_symMergeCmpFunc_int__rows_Sort_c1 x7 r ∧ lo = L_F_slices_symMergeCmpFunc_int__rows_Sort_c1 x7 r) := by
  intro x1 x2 x3 x4 x5 x6 x7 r h
  unfold BF_slices_symMergeCmpFunc_int__rows_Sort_c1 at h
  refine CallsO.of_vc mixed (fun _ _ => Tryd.call74 _ _) Tryd.func74 (by kernel_rfl) (inl := [74, 82, 1000001, 1000000]) (Nat.le_of_ble_eq_true rfl) ?_
  conv => whnf
  refine SeqA.cut (S := Unit) (fun _ => [(0, .vsl 0 x1), (1, .p (.int .i64 x2)), (2, .p (.int .i64 x3)), (3, .p (.int .i64 x4)), (4, .p (.clo 39 [PV.hp [PV.sl (slRows valC x5)], PV.hp [PV.sl (boolRows x6)]]))]) (fun _ => [.vec 3 1 (intRows .i64 x7)]) (F_slices_symMergeCmpFunc_int__rows_Sort_c1_k7 n x4 x3 x1 x7 x5 x6 x2 g74_39) (r := r) ?_ ?_
  · intro _ h
    unfold F_slices_symMergeCmpFunc_int__rows_Sort_c1_k7 at h
    conv => whnf
    refine SeqA.cut (S := Unit) (fun _ => [(0, .vsl 0 x1), (1, .p (.int .i64 x2)), (2, .p (.int .i64 x3)), (3, .p (.int .i64 x4)), (4, .p (.clo 39 [PV.hp [PV.sl (slRows valC x5)], PV.hp [PV.sl (boolRows x6)]]))]) (fun _ => [.vec 3 1 (intRows .i64 x7)]) (F_slices_symMergeCmpFunc_int__rows_Sort_c1_k14 n x3 x2 x4 x1 x7 x5 x6 g74_39) (r := r) ?_ ?_
    · intro _ h
      unfold F_slices_symMergeCmpFunc_int__rows_Sort_c1_k14 at h
      conv => whnf
      refine ⟨by unfold gI; decide, ?_⟩
      conv => whnf
      refine SeqA.cut (S := Int × Int) (fun (x8, x9) => [(0, .vsl 0 x1), (1, .p (.int .i64 x2)), (2, .p (.int .i64 x3)), (3, .p (.int .i64 x4)), (4, .p (.clo 39 [PV.hp [PV.sl (slRows valC x5)], PV.hp [PV.sl (boolRows x6)]])), (18, .p (.int .i64 (IntKind.i64.wrap (Int.fdiv (IntKind.u64.wrap (IntKind.i64.wrap (x2 + x4))) (2 ^ (min (Int.toNat (1 : Int)) IntKind.u64.bits)))))), (19, .p (.int .i64 (IntKind.i64.wrap ((IntKind.i64.wrap (Int.fdiv (IntKind.u64.wrap (IntKind.i64.wrap (x2 + x4))) (2 ^ (min (Int.toNat (1 : Int)) IntKind.u64.bits)))) + x3)))), (20, .p (.int .i64 x8)), (21, .p (.int .i64 x9))]) (fun (x8, x9) => [.vec 3 1 (intRows .i64 x7)]) (F_slices_symMergeCmpFunc_int__rows_Sort_c1_k15 n x2 x4 x3 x1 x7 x5 x6 g74_39) (r := r) ?_ ?_
      · intro st h
        obtain ⟨x8, x9⟩ := st
        unfold F_slices_symMergeCmpFunc_int__rows_Sort_c1_k15 at h
        conv => whnf
        refine LoopA.fn [74, 82, 1000001, 1000000] (S := Int × Int) (fun (x10, x11) => [(0, .vsl 0 x1), (1, .p (.int .i64 x2)), (2, .p (.int .i64 x3)), (3, .p (.int .i64 x4)), (4, .p (.clo 39 [PV.hp [PV.sl (slRows valC x5)], PV.hp [PV.sl (boolRows x6)]])), (18, .p (.int .i64 (IntKind.i64.wrap (Int.fdiv (IntKind.u64.wrap (IntKind.i64.wrap (x2 + x4))) (2 ^ (min (Int.toNat (1 : Int)) IntKind.u64.bits)))))), (19, .p (.int .i64 (IntKind.i64.wrap ((IntKind.i64.wrap (Int.fdiv (IntKind.u64.wrap (IntKind.i64.wrap (x2 + x4))) (2 ^ (min (Int.toNat (1 : Int)) IntKind.u64.bits)))) + x3)))), (20, .p (.int .i64 x10)), (21, .p (.int .i64 x11)), (22, .p (.int .i64 (IntKind.i64.wrap ((IntKind.i64.wrap ((IntKind.i64.wrap (Int.fdiv (IntKind.u64.wrap (IntKind.i64.wrap (x2 + x4))) (2 ^ (min (Int.toNat (1 : Int)) IntKind.u64.bits)))) + x3)) - (1 : Int)))))]) (fun (x10, x11) => [.vec 3 1 (intRows .i64 x7)]) (B := F_slices_symMergeCmpFunc_int__rows_Sort_c1_l1 n x2 x4 x3 x1 x7 x5 x6 g74_39) h ⟨[0], [], ⟨rfl, rfl, rfl, rfl⟩, by repeat (first | exact trivial | exact .inl rfl | exact rfl | exact List.not_mem_nil | (refine .inr ?_) | (refine ⟨?_, ?_⟩) | exact List.length_set.symm | decide), by repeat (first | exact trivial | exact .inl rfl | exact rfl | exact List.not_mem_nil | (refine .inr ?_) | (refine ⟨?_, ?_⟩) | exact List.length_set.symm | decide)⟩ ?_
        intro nx1 st h
        obtain ⟨x10, x11⟩ := st
        unfold F_slices_symMergeCmpFunc_int__rows_Sort_c1_l1 at h
        conv => whnf
        refine SeqA.cut (S := Unit) (fun _ => [(0, .vsl 0 x1), (1, .p (.int .i64 x2)), (2, .p (.int .i64 x3)), (3, .p (.int .i64 x4)), (4, .p (.clo 39 [PV.hp [PV.sl (slRows valC x5)], PV.hp [PV.sl (boolRows x6)]])), (18, .p (.int .i64 (IntKind.i64.wrap (Int.fdiv (IntKind.u64.wrap (IntKind.i64.wrap (x2 + x4))) (2 ^ (min (Int.toNat (1 : Int)) IntKind.u64.bits)))))), (19, .p (.int .i64 (IntKind.i64.wrap ((IntKind.i64.wrap (Int.fdiv (IntKind.u64.wrap (IntKind.i64.wrap (x2 + x4))) (2 ^ (min (Int.toNat (1 : Int)) IntKind.u64.bits)))) + x3)))), (20, .p (.int .i64 x10)), (21, .p (.int .i64 x11)), (22, .p (.int .i64 (IntKind.i64.wrap ((IntKind.i64.wrap ((IntKind.i64.wrap (Int.fdiv (IntKind.u64.wrap (IntKind.i64.wrap (x2 + x4))) (2 ^ (min (Int.toNat (1 : Int)) IntKind.u64.bits)))) + x3)) - (1 : Int)))))]) (fun _ => [.vec 3 1 (intRows .i64 x7)]) (F_slices_symMergeCmpFunc_int__rows_Sort_c1_k18 n x2 x4 x3 x10 x11 x1 x7 x5 x6 nx1) (r := r) ?_ ?_
        · intro _ h
          unfold F_slices_symMergeCmpFunc_int__rows_Sort_c1_k18 at h
          conv => whnf
          refine ⟨by unfold gI; decide, ?_⟩
          conv => whnf
          replace h := bnd_some h
          obtain ⟨x12, h7, h⟩ := h
          have hj := natI_some h7
          conv => whnf
          obtain ⟨h6, h⟩ := chk_some h
          refine ⟨x12, ⟨hj, of_decide_eq_true h6⟩, ?_⟩
          conv => whnf
          replace h := bnd_some h
          obtain ⟨x13, h5, h⟩ := h
          refine ⟨_, ⟨rfl, Codec.getN (intC .i64) h5⟩, ?_⟩
          conv => whnf
          replace h := bnd_some h
          obtain ⟨x14, h4, h⟩ := h
          have hj := natI_some h4
          conv => whnf
          obtain ⟨h3, h⟩ := chk_some h
          refine ⟨x14, ⟨hj, of_decide_eq_true h3⟩, ?_⟩
          conv => whnf
          replace h := bnd_some h
          obtain ⟨x15, h2, h⟩ := h
          refine ⟨_, ⟨rfl, Codec.getN (intC .i64) h2⟩, ?_⟩
          conv => whnf
          replace h := bnd_some h
          obtain ⟨x16, h1, h⟩ := h
          refine ⟨_, (F_rows_Sort_c1_ok n _ _ _ _  _ h1), ?_⟩
          conv => whnf
          refine ⟨fun hc => ?_, fun hc => ?_⟩
          · have h := cond_t h hc
            conv => whnf
            exact ⟨((IntKind.i64.wrap ((IntKind.i64.wrap (Int.fdiv (IntKind.u64.wrap (IntKind.i64.wrap (x10 + x11))) (2 ^ (min (Int.toNat (1 : Int)) IntKind.u64.bits)))) + (1 : Int))), x11), h, ⟨[0], [], ⟨rfl, rfl, rfl, rfl⟩, by repeat (first | exact trivial | exact .inl rfl | exact rfl | exact List.not_mem_nil | (refine .inr ?_) | (refine ⟨?_, ?_⟩) | exact List.length_set.symm | decide), by repeat (first | exact trivial | exact .inl rfl | exact rfl | exact List.not_mem_nil | (refine .inr ?_) | (refine ⟨?_, ?_⟩) | exact List.length_set.symm | decide)⟩⟩
          · have h := cond_f h hc
            conv => whnf
            exact ⟨(x10, (IntKind.i64.wrap (Int.fdiv (IntKind.u64.wrap (IntKind.i64.wrap (x10 + x11))) (2 ^ (min (Int.toNat (1 : Int)) IntKind.u64.bits))))), h, ⟨[0], [], ⟨rfl, rfl, rfl, rfl⟩, by repeat (first | exact trivial | exact .inl rfl | exact rfl | exact List.not_mem_nil | (refine .inr ?_) | (refine ⟨?_, ?_⟩) | exact List.length_set.symm | decide), by repeat (first | exact trivial | exact .inl rfl | exact rfl | exact List.not_mem_nil | (refine .inr ?_) | (refine ⟨?_, ?_⟩) | exact List.length_set.symm | decide)⟩⟩
        · conv => whnf
          refine ⟨fun hc => ?_, fun hc => ?_⟩
          · have h := cond_t h hc
            conv => whnf
            exact ⟨(), h, ⟨[0], [], ⟨rfl, rfl, rfl, rfl⟩, by repeat (first | exact trivial | exact .inl rfl | exact rfl | exact List.not_mem_nil | (refine .inr ?_) | (refine ⟨?_, ?_⟩) | exact List.length_set.symm | decide), by repeat (first | exact trivial | exact .inl rfl | exact rfl | exact List.not_mem_nil | (refine .inr ?_) | (refine ⟨?_, ?_⟩) | exact List.length_set.symm | decide)⟩⟩
          · have h := cond_f h hc
            conv => whnf
            refine SeqA.cut (S := List Int) (fun x17 => [(0, .vsl 0 x1), (1, .p (.int .i64 x2)), (3, .p (.int .i64 x4)), (4, .p (.clo 39 [PV.hp [PV.sl (slRows valC x5)], PV.hp [PV.sl (boolRows x6)]])), (18, .p (.int .i64 (IntKind.i64.wrap (Int.fdiv (IntKind.u64.wrap (IntKind.i64.wrap (x2 + x4))) (2 ^ (min (Int.toNat (1 : Int)) IntKind.u64.bits)))))), (20, .p (.int .i64 x10)), (24, .p (.int .i64 (IntKind.i64.wrap ((IntKind.i64.wrap ((IntKind.i64.wrap (Int.fdiv (IntKind.u64.wrap (IntKind.i64.wrap (x2 + x4))) (2 ^ (min (Int.toNat (1 : Int)) IntKind.u64.bits)))) + x3)) - x10))))]) (fun x17 => [.vec 3 1 (intRows .i64 x17)]) (F_slices_symMergeCmpFunc_int__rows_Sort_c1_k19 n x2 x10 x4 g74_39 x1 x5 x6 x3) (r := r) ?_ ?_
            · intro x17 h
              unfold F_slices_symMergeCmpFunc_int__rows_Sort_c1_k19 at h
              conv => whnf
              refine SeqA.cut (S := List Int) (fun x18 => [(0, .vsl 0 x1), (3, .p (.int .i64 x4)), (4, .p (.clo 39 [PV.hp [PV.sl (slRows valC x5)], PV.hp [PV.sl (boolRows x6)]])), (18, .p (.int .i64 (IntKind.i64.wrap (Int.fdiv (IntKind.u64.wrap (IntKind.i64.wrap (x2 + x4))) (2 ^ (min (Int.toNat (1 : Int)) IntKind.u64.bits)))))), (24, .p (.int .i64 (IntKind.i64.wrap ((IntKind.i64.wrap ((IntKind.i64.wrap (Int.fdiv (IntKind.u64.wrap (IntKind.i64.wrap (x2 + x4))) (2 ^ (min (Int.toNat (1 : Int)) IntKind.u64.bits)))) + x3)) - x10))))]) (fun x18 => [.vec 3 1 (intRows .i64 x18)]) (F_slices_symMergeCmpFunc_int__rows_Sort_c1_k20 n x2 x4 x3 x10 g74_39 x1 x5 x6) (r := r) ?_ ?_
              · intro x18 h
                unfold F_slices_symMergeCmpFunc_int__rows_Sort_c1_k20 at h
                conv => whnf
                iterate 3 (refine And.intro (fun h => h) ?_)
                conv => whnf
                refine ⟨fun hc => ?_, fun hc => ?_⟩
                · have h := cond_t h hc
                  conv => whnf
                  replace h := bnd_some h
                  obtain ⟨x19, h8, h⟩ := h
                  refine CallsO.use (g74_39_ok _ _ _ _ _ _ _ _  h8) [0] [] ⟨rfl, rfl, rfl, rfl, rfl, rfl⟩ (by repeat (first | exact trivial | exact .inl rfl | exact rfl | exact List.not_mem_nil | (refine .inr ?_) | (refine ⟨?_, ?_⟩) | exact List.length_set.symm | decide)) (by repeat (first | exact trivial | exact .inl rfl | exact rfl | exact List.not_mem_nil | (refine .inr ?_) | (refine ⟨?_, ?_⟩) | exact List.length_set.symm | decide)) ?_
                  rintro _ _ ⟨rfl, rfl⟩
                  refine ⟨.p (.tup []), [.vec 3 1 (intRows .i64 x19)], rfl, rfl, ?_⟩
                  obtain rfl := Option.some.inj h
                  conv => whnf
                  refine ⟨_, _, ⟨rfl, rfl⟩, ⟨[0], [], ⟨rfl, rfl, rfl, rfl⟩, by repeat (first | exact trivial | exact .inl rfl | exact rfl | exact List.not_mem_nil | (refine .inr ?_) | (refine ⟨?_, ?_⟩) | exact List.length_set.symm | decide), by repeat (first | exact trivial | exact .inl rfl | exact rfl | exact List.not_mem_nil | (refine .inr ?_) | (refine ⟨?_, ?_⟩) | exact List.length_set.symm | decide)⟩⟩
                · have h := cond_f h hc
                  obtain rfl := Option.some.inj h
                  conv => whnf
                  refine ⟨_, _, ⟨rfl, rfl⟩, ⟨[0], [], ⟨rfl, rfl, rfl, rfl⟩, by repeat (first | exact trivial | exact .inl rfl | exact rfl | exact List.not_mem_nil | (refine .inr ?_) | (refine ⟨?_, ?_⟩) | exact List.length_set.symm | decide), by repeat (first | exact trivial | exact .inl rfl | exact rfl | exact List.not_mem_nil | (refine .inr ?_) | (refine ⟨?_, ?_⟩) | exact List.length_set.symm | decide)⟩⟩
              · conv => whnf
                refine And.intro (fun h => h) ?_
                conv => whnf
                iterate 2 (refine And.intro (fun h => h) ?_)
                conv => whnf
                refine ⟨fun hc => ?_, fun hc => ?_⟩
                · have h := cond_t h hc
                  conv => whnf
                  replace h := bnd_some h
                  obtain ⟨x20, h9, h⟩ := h
                  refine CallsO.use (g74_39_ok _ _ _ _ _ _ _ _  h9) [0] [] ⟨rfl, rfl, rfl, rfl, rfl, rfl⟩ (by repeat (first | exact trivial | exact .inl rfl | exact rfl | exact List.not_mem_nil | (refine .inr ?_) | (refine ⟨?_, ?_⟩) | exact List.length_set.symm | decide)) (by repeat (first | exact trivial | exact .inl rfl | exact rfl | exact List.not_mem_nil | (refine .inr ?_) | (refine ⟨?_, ?_⟩) | exact List.length_set.symm | decide)) ?_
                  rintro _ _ ⟨rfl, rfl⟩
                  refine ⟨.p (.tup []), [.vec 3 1 (intRows .i64 x20)], rfl, rfl, ?_⟩
                  conv => whnf
                  exact ⟨x20, h, ⟨[0], [], ⟨rfl, rfl, rfl, rfl⟩, by repeat (first | exact trivial | exact .inl rfl | exact rfl | exact List.not_mem_nil | (refine .inr ?_) | (refine ⟨?_, ?_⟩) | exact List.length_set.symm | decide), by repeat (first | exact trivial | exact .inl rfl | exact rfl | exact List.not_mem_nil | (refine .inr ?_) | (refine ⟨?_, ?_⟩) | exact List.length_set.symm | decide)⟩⟩
                · have h := cond_f h hc
                  conv => whnf
                  exact ⟨x17, h, ⟨[0], [], ⟨rfl, rfl, rfl, rfl⟩, by repeat (first | exact trivial | exact .inl rfl | exact rfl | exact List.not_mem_nil | (refine .inr ?_) | (refine ⟨?_, ?_⟩) | exact List.length_set.symm | decide), by repeat (first | exact trivial | exact .inl rfl | exact rfl | exact List.not_mem_nil | (refine .inr ?_) | (refine ⟨?_, ?_⟩) | exact List.length_set.symm | decide)⟩⟩
            · conv => whnf
              refine And.intro (fun h => h) ?_
              conv => whnf
              iterate 2 (refine And.intro (fun h => h) ?_)
              conv => whnf
              refine ⟨fun hc => ?_, fun hc => ?_⟩
              · have h := cond_t h hc
                conv => whnf
                replace h := bnd_some h
                obtain ⟨x21, h10, h⟩ := h
                refine CallsO.use (F_slices_rotateCmpFunc_int__rows_Sort_c1_ok n _ _ _ _ _ _ _ _  h10) [0] [] ⟨rfl, rfl, rfl, rfl, rfl, rfl⟩ (by repeat (first | exact trivial | exact .inl rfl | exact rfl | exact List.not_mem_nil | (refine .inr ?_) | (refine ⟨?_, ?_⟩) | exact List.length_set.symm | decide)) (by repeat (first | exact trivial | exact .inl rfl | exact rfl | exact List.not_mem_nil | (refine .inr ?_) | (refine ⟨?_, ?_⟩) | exact List.length_set.symm | decide)) ?_
                rintro _ _ ⟨rfl, rfl⟩
                refine ⟨.p (.tup []), [.vec 3 1 (intRows .i64 x21)], rfl, rfl, ?_⟩
                conv => whnf
                exact ⟨x21, h, ⟨[0], [], ⟨rfl, rfl, rfl, rfl⟩, by repeat (first | exact trivial | exact .inl rfl | exact rfl | exact List.not_mem_nil | (refine .inr ?_) | (refine ⟨?_, ?_⟩) | exact List.length_set.symm | decide), by repeat (first | exact trivial | exact .inl rfl | exact rfl | exact List.not_mem_nil | (refine .inr ?_) | (refine ⟨?_, ?_⟩) | exact List.length_set.symm | decide)⟩⟩
              · have h := cond_f h hc
                conv => whnf
                exact ⟨x7, h, ⟨[0], [], ⟨rfl, rfl, rfl, rfl⟩, by repeat (first | exact trivial | exact .inl rfl | exact rfl | exact List.not_mem_nil | (refine .inr ?_) | (refine ⟨?_, ?_⟩) | exact List.length_set.symm | decide), by repeat (first | exact trivial | exact .inl rfl | exact rfl | exact List.not_mem_nil | (refine .inr ?_) | (refine ⟨?_, ?_⟩) | exact List.length_set.symm | decide)⟩⟩
      · conv => whnf
        refine ⟨fun hc => ?_, fun hc => ?_⟩
        · have h := cond_t h hc
          conv => whnf
          exact ⟨((IntKind.i64.wrap ((IntKind.i64.wrap ((IntKind.i64.wrap (Int.fdiv (IntKind.u64.wrap (IntKind.i64.wrap (x2 + x4))) (2 ^ (min (Int.toNat (1 : Int)) IntKind.u64.bits)))) + x3)) - x4)), (IntKind.i64.wrap (Int.fdiv (IntKind.u64.wrap (IntKind.i64.wrap (x2 + x4))) (2 ^ (min (Int.toNat (1 : Int)) IntKind.u64.bits))))), h, ⟨[0], [], ⟨rfl, rfl, rfl, rfl⟩, by repeat (first | exact trivial | exact .inl rfl | exact rfl | exact List.not_mem_nil | (refine .inr ?_) | (refine ⟨?_, ?_⟩) | exact List.length_set.symm | decide), by repeat (first | exact trivial | exact .inl rfl | exact rfl | exact List.not_mem_nil | (refine .inr ?_) | (refine ⟨?_, ?_⟩) | exact List.length_set.symm | decide)⟩⟩
        · have h := cond_f h hc
          conv => whnf
          exact ⟨(x2, x3), h, ⟨[0], [], ⟨rfl, rfl, rfl, rfl⟩, by repeat (first | exact trivial | exact .inl rfl | exact rfl | exact List.not_mem_nil | (refine .inr ?_) | (refine ⟨?_, ?_⟩) | exact List.length_set.symm | decide), by repeat (first | exact trivial | exact .inl rfl | exact rfl | exact List.not_mem_nil | (refine .inr ?_) | (refine ⟨?_, ?_⟩) | exact List.length_set.symm | decide)⟩⟩
    · conv => whnf
      refine ⟨fun hc => ?_, fun hc => ?_⟩
      · have h := cond_t h hc
        conv => whnf
        refine LoopA.fn [74, 82, 1000001, 1000000] (S := Int × Int) (fun (x22, x23) => [(0, .vsl 0 x1), (2, .p (.int .i64 x3)), (4, .p (.clo 39 [PV.hp [PV.sl (slRows valC x5)], PV.hp [PV.sl (boolRows x6)]])), (14, .p (.int .i64 x22)), (15, .p (.int .i64 x23))]) (fun (x22, x23) => [.vec 3 1 (intRows .i64 x7)]) (B := F_slices_symMergeCmpFunc_int__rows_Sort_c1_l2 n x3 x1 x7 x5 x6) h ⟨[0], [], ⟨rfl, rfl, rfl, rfl⟩, by repeat (first | exact trivial | exact .inl rfl | exact rfl | exact List.not_mem_nil | (refine .inr ?_) | (refine ⟨?_, ?_⟩) | exact List.length_set.symm | decide), by repeat (first | exact trivial | exact .inl rfl | exact rfl | exact List.not_mem_nil | (refine .inr ?_) | (refine ⟨?_, ?_⟩) | exact List.length_set.symm | decide)⟩ ?_
        intro nx2 st h
        obtain ⟨x22, x23⟩ := st
        unfold F_slices_symMergeCmpFunc_int__rows_Sort_c1_l2 at h
        conv => whnf
        refine SeqA.cut (S := Unit) (fun _ => [(0, .vsl 0 x1), (2, .p (.int .i64 x3)), (4, .p (.clo 39 [PV.hp [PV.sl (slRows valC x5)], PV.hp [PV.sl (boolRows x6)]])), (14, .p (.int .i64 x22)), (15, .p (.int .i64 x23))]) (fun _ => [.vec 3 1 (intRows .i64 x7)]) (F_slices_symMergeCmpFunc_int__rows_Sort_c1_k23 n x3 x1 x7 x22 x23 x5 x6 nx2) (r := r) ?_ ?_
        · intro _ h
          unfold F_slices_symMergeCmpFunc_int__rows_Sort_c1_k23 at h
          conv => whnf
          refine ⟨by unfold gI; decide, ?_⟩
          conv => whnf
          replace h := bnd_some h
          obtain ⟨x24, h17, h⟩ := h
          have hj := natI_some h17
          conv => whnf
          obtain ⟨h16, h⟩ := chk_some h
          refine ⟨x24, ⟨hj, of_decide_eq_true h16⟩, ?_⟩
          conv => whnf
          replace h := bnd_some h
          obtain ⟨x25, h15, h⟩ := h
          refine ⟨_, ⟨rfl, Codec.getN (intC .i64) h15⟩, ?_⟩
          conv => whnf
          replace h := bnd_some h
          obtain ⟨x26, h14, h⟩ := h
          have hj := natI_some h14
          conv => whnf
          obtain ⟨h13, h⟩ := chk_some h
          refine ⟨x26, ⟨hj, of_decide_eq_true h13⟩, ?_⟩
          conv => whnf
          replace h := bnd_some h
          obtain ⟨x27, h12, h⟩ := h
          refine ⟨_, ⟨rfl, Codec.getN (intC .i64) h12⟩, ?_⟩
          conv => whnf
          replace h := bnd_some h
          obtain ⟨x28, h11, h⟩ := h
          refine ⟨_, (F_rows_Sort_c1_ok n _ _ _ _  _ h11), ?_⟩
          conv => whnf
          refine ⟨fun hc => ?_, fun hc => ?_⟩
          · have h := cond_t h hc
            conv => whnf
            exact ⟨((IntKind.i64.wrap ((IntKind.i64.wrap (Int.fdiv (IntKind.u64.wrap (IntKind.i64.wrap (x22 + x23))) (2 ^ (min (Int.toNat (1 : Int)) IntKind.u64.bits)))) + (1 : Int))), x23), h, ⟨[0], [], ⟨rfl, rfl, rfl, rfl⟩, by repeat (first | exact trivial | exact .inl rfl | exact rfl | exact List.not_mem_nil | (refine .inr ?_) | (refine ⟨?_, ?_⟩) | exact List.length_set.symm | decide), by repeat (first | exact trivial | exact .inl rfl | exact rfl | exact List.not_mem_nil | (refine .inr ?_) | (refine ⟨?_, ?_⟩) | exact List.length_set.symm | decide)⟩⟩
          · have h := cond_f h hc
            conv => whnf
            exact ⟨(x22, (IntKind.i64.wrap (Int.fdiv (IntKind.u64.wrap (IntKind.i64.wrap (x22 + x23))) (2 ^ (min (Int.toNat (1 : Int)) IntKind.u64.bits))))), h, ⟨[0], [], ⟨rfl, rfl, rfl, rfl⟩, by repeat (first | exact trivial | exact .inl rfl | exact rfl | exact List.not_mem_nil | (refine .inr ?_) | (refine ⟨?_, ?_⟩) | exact List.length_set.symm | decide), by repeat (first | exact trivial | exact .inl rfl | exact rfl | exact List.not_mem_nil | (refine .inr ?_) | (refine ⟨?_, ?_⟩) | exact List.length_set.symm | decide)⟩⟩
        · conv => whnf
          refine ⟨fun hc => ?_, fun hc => ?_⟩
          · have h := cond_t h hc
            conv => whnf
            exact ⟨(), h, ⟨[0], [], ⟨rfl, rfl, rfl, rfl⟩, by repeat (first | exact trivial | exact .inl rfl | exact rfl | exact List.not_mem_nil | (refine .inr ?_) | (refine ⟨?_, ?_⟩) | exact List.length_set.symm | decide), by repeat (first | exact trivial | exact .inl rfl | exact rfl | exact List.not_mem_nil | (refine .inr ?_) | (refine ⟨?_, ?_⟩) | exact List.length_set.symm | decide)⟩⟩
          · have h := cond_f h hc
            conv => whnf
            refine LoopA.fn [74, 82, 1000001, 1000000] (S := Int × List Int) (fun (x29, x30) => [(0, .vsl 0 x1), (14, .p (.int .i64 x22)), (17, .p (.int .i64 x29))]) (fun (x29, x30) => [.vec 3 1 (intRows .i64 x30)]) (B := F_slices_symMergeCmpFunc_int__rows_Sort_c1_l3 n x22 x1) h ⟨[0], [], ⟨rfl, rfl, rfl, rfl⟩, by repeat (first | exact trivial | exact .inl rfl | exact rfl | exact List.not_mem_nil | (refine .inr ?_) | (refine ⟨?_, ?_⟩) | exact List.length_set.symm | decide), by repeat (first | exact trivial | exact .inl rfl | exact rfl | exact List.not_mem_nil | (refine .inr ?_) | (refine ⟨?_, ?_⟩) | exact List.length_set.symm | decide)⟩ ?_
            intro nx3 st h
            obtain ⟨x29, x30⟩ := st
            unfold F_slices_symMergeCmpFunc_int__rows_Sort_c1_l3 at h
            conv => whnf
            refine SeqA.cut (S := Unit) (fun _ => [(0, .vsl 0 x1), (14, .p (.int .i64 x22)), (17, .p (.int .i64 x29))]) (fun _ => [.vec 3 1 (intRows .i64 x30)]) (F_slices_symMergeCmpFunc_int__rows_Sort_c1_k26 n x29 x1 x30 nx3) (r := r) ?_ ?_
            · intro _ h
              unfold F_slices_symMergeCmpFunc_int__rows_Sort_c1_k26 at h
              conv => whnf
              replace h := bnd_some h
              obtain ⟨x31, h29, h⟩ := h
              have hj := natI_some h29
              conv => whnf
              obtain ⟨h28, h⟩ := chk_some h
              refine ⟨x31, ⟨hj, of_decide_eq_true h28⟩, ?_⟩
              conv => whnf
              replace h := bnd_some h
              obtain ⟨x32, h27, h⟩ := h
              refine ⟨_, ⟨rfl, Codec.getN (intC .i64) h27⟩, ?_⟩
              conv => whnf
              replace h := bnd_some h
              obtain ⟨x33, h26, h⟩ := h
              have hj := natI_some h26
              conv => whnf
              obtain ⟨h25, h⟩ := chk_some h
              refine ⟨x33, ⟨hj, of_decide_eq_true h25⟩, ?_⟩
              conv => whnf
              replace h := bnd_some h
              obtain ⟨x34, h24, h⟩ := h
              refine ⟨_, ⟨rfl, Codec.getN (intC .i64) h24⟩, ?_⟩
              conv => whnf
              replace h := bnd_some h
              obtain ⟨x35, h23, h⟩ := h
              have hj := natI_some h23
              conv => whnf
              obtain ⟨h22, h⟩ := chk_some h
              refine ⟨x35, ⟨hj, of_decide_eq_true h22⟩, ?_⟩
              conv => whnf
              replace h := bnd_some h
              obtain ⟨x36, h21, h⟩ := h
              refine ⟨_, ⟨rfl, Codec.getN (intC .i64) h21, rfl⟩, ?_⟩
              conv => whnf
              refine ⟨_, Codec.setN (intC .i64) x30 x35 x32, ?_⟩
              conv => whnf
              replace h := bnd_some h
              obtain ⟨x37, h20, h⟩ := h
              have hj := natI_some h20
              conv => whnf
              obtain ⟨h19, h⟩ := chk_some h
              refine ⟨x37, ⟨hj, of_decide_eq_true h19⟩, ?_⟩
              conv => whnf
              replace h := bnd_some h
              obtain ⟨x38, h18, h⟩ := h
              refine ⟨_, ⟨rfl, Codec.getN (intC .i64) h18, rfl⟩, ?_⟩
              conv => whnf
              refine ⟨_, Codec.setN (intC .i64) (x30.set x35 x32) x37 x34, ?_⟩
              conv => whnf
              exact ⟨((IntKind.i64.wrap (x29 - (1 : Int))), ((x30.set x35 x32).set x37 x34)), h, ⟨[0], [], ⟨rfl, rfl, rfl, rfl⟩, by repeat (first | exact trivial | exact .inl rfl | exact rfl | exact List.not_mem_nil | (refine .inr ?_) | (refine ⟨?_, ?_⟩) | exact List.length_set.symm | decide), by repeat (first | exact trivial | exact .inl rfl | exact rfl | exact List.not_mem_nil | (refine .inr ?_) | (refine ⟨?_, ?_⟩) | exact List.length_set.symm | decide)⟩⟩
            · conv => whnf
              refine ⟨fun hc => ?_, fun hc => ?_⟩
              · have h := cond_t h hc
                conv => whnf
                exact ⟨(), h, ⟨[0], [], ⟨rfl, rfl, rfl, rfl⟩, by repeat (first | exact trivial | exact .inl rfl | exact rfl | exact List.not_mem_nil | (refine .inr ?_) | (refine ⟨?_, ?_⟩) | exact List.length_set.symm | decide), by repeat (first | exact trivial | exact .inl rfl | exact rfl | exact List.not_mem_nil | (refine .inr ?_) | (refine ⟨?_, ?_⟩) | exact List.length_set.symm | decide)⟩⟩
              · have h := cond_f h hc
                obtain rfl := Option.some.inj h
                conv => whnf
                refine ⟨_, _, ⟨rfl, rfl⟩, ⟨[0], [], ⟨rfl, rfl, rfl, rfl⟩, by repeat (first | exact trivial | exact .inl rfl | exact rfl | exact List.not_mem_nil | (refine .inr ?_) | (refine ⟨?_, ?_⟩) | exact List.length_set.symm | decide), by repeat (first | exact trivial | exact .inl rfl | exact rfl | exact List.not_mem_nil | (refine .inr ?_) | (refine ⟨?_, ?_⟩) | exact List.length_set.symm | decide)⟩⟩
      · have h := cond_f h hc
        conv => whnf
        exact ⟨(), h, ⟨[0], [], ⟨rfl, rfl, rfl, rfl⟩, by repeat (first | exact trivial | exact .inl rfl | exact rfl | exact List.not_mem_nil | (refine .inr ?_) | (refine ⟨?_, ?_⟩) | exact List.length_set.symm | decide), by repeat (first | exact trivial | exact .inl rfl | exact rfl | exact List.not_mem_nil | (refine .inr ?_) | (refine ⟨?_, ?_⟩) | exact List.length_set.symm | decide)⟩⟩
  · conv => whnf
    refine ⟨fun hc => ?_, fun hc => ?_⟩
    · have h := cond_t h hc
      conv => whnf
      refine LoopA.fn [74, 82, 1000001, 1000000] (S := Int × Int) (fun (x39, x40) => [(0, .vsl 0 x1), (1, .p (.int .i64 x2)), (4, .p (.clo 39 [PV.hp [PV.sl (slRows valC x5)], PV.hp [PV.sl (boolRows x6)]])), (10, .p (.int .i64 x39)), (11, .p (.int .i64 x40))]) (fun (x39, x40) => [.vec 3 1 (intRows .i64 x7)]) (B := F_slices_symMergeCmpFunc_int__rows_Sort_c1_l4 n x1 x7 x2 x5 x6) h ⟨[0], [], ⟨rfl, rfl, rfl, rfl⟩, by repeat (first | exact trivial | exact .inl rfl | exact rfl | exact List.not_mem_nil | (refine .inr ?_) | (refine ⟨?_, ?_⟩) | exact List.length_set.symm | decide), by repeat (first | exact trivial | exact .inl rfl | exact rfl | exact List.not_mem_nil | (refine .inr ?_) | (refine ⟨?_, ?_⟩) | exact List.length_set.symm | decide)⟩ ?_
      intro nx4 st h
      obtain ⟨x39, x40⟩ := st
      unfold F_slices_symMergeCmpFunc_int__rows_Sort_c1_l4 at h
      conv => whnf
      refine SeqA.cut (S := Unit) (fun _ => [(0, .vsl 0 x1), (1, .p (.int .i64 x2)), (4, .p (.clo 39 [PV.hp [PV.sl (slRows valC x5)], PV.hp [PV.sl (boolRows x6)]])), (10, .p (.int .i64 x39)), (11, .p (.int .i64 x40))]) (fun _ => [.vec 3 1 (intRows .i64 x7)]) (F_slices_symMergeCmpFunc_int__rows_Sort_c1_k29 n x39 x40 x1 x7 x2 x5 x6 nx4) (r := r) ?_ ?_
      · intro _ h
        unfold F_slices_symMergeCmpFunc_int__rows_Sort_c1_k29 at h
        conv => whnf
        refine ⟨by unfold gI; decide, ?_⟩
        conv => whnf
        replace h := bnd_some h
        obtain ⟨x41, h36, h⟩ := h
        have hj := natI_some h36
        conv => whnf
        obtain ⟨h35, h⟩ := chk_some h
        refine ⟨x41, ⟨hj, of_decide_eq_true h35⟩, ?_⟩
        conv => whnf
        replace h := bnd_some h
        obtain ⟨x42, h34, h⟩ := h
        refine ⟨_, ⟨rfl, Codec.getN (intC .i64) h34⟩, ?_⟩
        conv => whnf
        replace h := bnd_some h
        obtain ⟨x43, h33, h⟩ := h
        have hj := natI_some h33
        conv => whnf
        obtain ⟨h32, h⟩ := chk_some h
        refine ⟨x43, ⟨hj, of_decide_eq_true h32⟩, ?_⟩
        conv => whnf
        replace h := bnd_some h
        obtain ⟨x44, h31, h⟩ := h
        refine ⟨_, ⟨rfl, Codec.getN (intC .i64) h31⟩, ?_⟩
        conv => whnf
        replace h := bnd_some h
        obtain ⟨x45, h30, h⟩ := h
        refine ⟨_, (F_rows_Sort_c1_ok n _ _ _ _  _ h30), ?_⟩
        conv => whnf
        refine ⟨fun hc => ?_, fun hc => ?_⟩
        · have h := cond_t h hc
          conv => whnf
          exact ⟨((IntKind.i64.wrap ((IntKind.i64.wrap (Int.fdiv (IntKind.u64.wrap (IntKind.i64.wrap (x39 + x40))) (2 ^ (min (Int.toNat (1 : Int)) IntKind.u64.bits)))) + (1 : Int))), x40), h, ⟨[0], [], ⟨rfl, rfl, rfl, rfl⟩, by repeat (first | exact trivial | exact .inl rfl | exact rfl | exact List.not_mem_nil | (refine .inr ?_) | (refine ⟨?_, ?_⟩) | exact List.length_set.symm | decide), by repeat (first | exact trivial | exact .inl rfl | exact rfl | exact List.not_mem_nil | (refine .inr ?_) | (refine ⟨?_, ?_⟩) | exact List.length_set.symm | decide)⟩⟩
        · have h := cond_f h hc
          conv => whnf
          exact ⟨(x39, (IntKind.i64.wrap (Int.fdiv (IntKind.u64.wrap (IntKind.i64.wrap (x39 + x40))) (2 ^ (min (Int.toNat (1 : Int)) IntKind.u64.bits))))), h, ⟨[0], [], ⟨rfl, rfl, rfl, rfl⟩, by repeat (first | exact trivial | exact .inl rfl | exact rfl | exact List.not_mem_nil | (refine .inr ?_) | (refine ⟨?_, ?_⟩) | exact List.length_set.symm | decide), by repeat (first | exact trivial | exact .inl rfl | exact rfl | exact List.not_mem_nil | (refine .inr ?_) | (refine ⟨?_, ?_⟩) | exact List.length_set.symm | decide)⟩⟩
      · conv => whnf
        refine ⟨fun hc => ?_, fun hc => ?_⟩
        · have h := cond_t h hc
          conv => whnf
          exact ⟨(), h, ⟨[0], [], ⟨rfl, rfl, rfl, rfl⟩, by repeat (first | exact trivial | exact .inl rfl | exact rfl | exact List.not_mem_nil | (refine .inr ?_) | (refine ⟨?_, ?_⟩) | exact List.length_set.symm | decide), by repeat (first | exact trivial | exact .inl rfl | exact rfl | exact List.not_mem_nil | (refine .inr ?_) | (refine ⟨?_, ?_⟩) | exact List.length_set.symm | decide)⟩⟩
        · have h := cond_f h hc
          conv => whnf
          refine LoopA.fn [74, 82, 1000001, 1000000] (S := Int × List Int) (fun (x46, x47) => [(0, .vsl 0 x1), (10, .p (.int .i64 x39)), (13, .p (.int .i64 x46))]) (fun (x46, x47) => [.vec 3 1 (intRows .i64 x47)]) (B := F_slices_symMergeCmpFunc_int__rows_Sort_c1_l5 n x39 x1) h ⟨[0], [], ⟨rfl, rfl, rfl, rfl⟩, by repeat (first | exact trivial | exact .inl rfl | exact rfl | exact List.not_mem_nil | (refine .inr ?_) | (refine ⟨?_, ?_⟩) | exact List.length_set.symm | decide), by repeat (first | exact trivial | exact .inl rfl | exact rfl | exact List.not_mem_nil | (refine .inr ?_) | (refine ⟨?_, ?_⟩) | exact List.length_set.symm | decide)⟩ ?_
          intro nx5 st h
          obtain ⟨x46, x47⟩ := st
          unfold F_slices_symMergeCmpFunc_int__rows_Sort_c1_l5 at h
          conv => whnf
          refine SeqA.cut (S := Unit) (fun _ => [(0, .vsl 0 x1), (10, .p (.int .i64 x39)), (13, .p (.int .i64 x46))]) (fun _ => [.vec 3 1 (intRows .i64 x47)]) (F_slices_symMergeCmpFunc_int__rows_Sort_c1_k32 n x46 x1 x47 nx5) (r := r) ?_ ?_
          · intro _ h
            unfold F_slices_symMergeCmpFunc_int__rows_Sort_c1_k32 at h
            conv => whnf
            replace h := bnd_some h
            obtain ⟨x48, h48, h⟩ := h
            have hj := natI_some h48
            conv => whnf
            obtain ⟨h47, h⟩ := chk_some h
            refine ⟨x48, ⟨hj, of_decide_eq_true h47⟩, ?_⟩
            conv => whnf
            replace h := bnd_some h
            obtain ⟨x49, h46, h⟩ := h
            refine ⟨_, ⟨rfl, Codec.getN (intC .i64) h46⟩, ?_⟩
            conv => whnf
            replace h := bnd_some h
            obtain ⟨x50, h45, h⟩ := h
            have hj := natI_some h45
            conv => whnf
            obtain ⟨h44, h⟩ := chk_some h
            refine ⟨x50, ⟨hj, of_decide_eq_true h44⟩, ?_⟩
            conv => whnf
            replace h := bnd_some h
            obtain ⟨x51, h43, h⟩ := h
            refine ⟨_, ⟨rfl, Codec.getN (intC .i64) h43⟩, ?_⟩
            conv => whnf
            replace h := bnd_some h
            obtain ⟨x52, h42, h⟩ := h
            have hj := natI_some h42
            conv => whnf
            obtain ⟨h41, h⟩ := chk_some h
            refine ⟨x52, ⟨hj, of_decide_eq_true h41⟩, ?_⟩
            conv => whnf
            replace h := bnd_some h
            obtain ⟨x53, h40, h⟩ := h
            refine ⟨_, ⟨rfl, Codec.getN (intC .i64) h40, rfl⟩, ?_⟩
            conv => whnf
            refine ⟨_, Codec.setN (intC .i64) x47 x52 x49, ?_⟩
            conv => whnf
            replace h := bnd_some h
            obtain ⟨x54, h39, h⟩ := h
            have hj := natI_some h39
            conv => whnf
            obtain ⟨h38, h⟩ := chk_some h
            refine ⟨x54, ⟨hj, of_decide_eq_true h38⟩, ?_⟩
            conv => whnf
            replace h := bnd_some h
            obtain ⟨x55, h37, h⟩ := h
            refine ⟨_, ⟨rfl, Codec.getN (intC .i64) h37, rfl⟩, ?_⟩
            conv => whnf
            refine ⟨_, Codec.setN (intC .i64) (x47.set x52 x49) x54 x51, ?_⟩
            conv => whnf
            exact ⟨((IntKind.i64.wrap (x46 + (1 : Int))), ((x47.set x52 x49).set x54 x51)), h, ⟨[0], [], ⟨rfl, rfl, rfl, rfl⟩, by repeat (first | exact trivial | exact .inl rfl | exact rfl | exact List.not_mem_nil | (refine .inr ?_) | (refine ⟨?_, ?_⟩) | exact List.length_set.symm | decide), by repeat (first | exact trivial | exact .inl rfl | exact rfl | exact List.not_mem_nil | (refine .inr ?_) | (refine ⟨?_, ?_⟩) | exact List.length_set.symm | decide)⟩⟩
          · conv => whnf
            refine ⟨fun hc => ?_, fun hc => ?_⟩
            · have h := cond_t h hc
              conv => whnf
              exact ⟨(), h, ⟨[0], [], ⟨rfl, rfl, rfl, rfl⟩, by repeat (first | exact trivial | exact .inl rfl | exact rfl | exact List.not_mem_nil | (refine .inr ?_) | (refine ⟨?_, ?_⟩) | exact List.length_set.symm | decide), by repeat (first | exact trivial | exact .inl rfl | exact rfl | exact List.not_mem_nil | (refine .inr ?_) | (refine ⟨?_, ?_⟩) | exact List.length_set.symm | decide)⟩⟩
            · have h := cond_f h hc
              obtain rfl := Option.some.inj h
              conv => whnf
              refine ⟨_, _, ⟨rfl, rfl⟩, ⟨[0], [], ⟨rfl, rfl, rfl, rfl⟩, by repeat (first | exact trivial | exact .inl rfl | exact rfl | exact List.not_mem_nil | (refine .inr ?_) | (refine ⟨?_, ?_⟩) | exact List.length_set.symm | decide), by repeat (first | exact trivial | exact .inl rfl | exact rfl | exact List.not_mem_nil | (refine .inr ?_) | (refine ⟨?_, ?_⟩) | exact List.length_set.symm | decide)⟩⟩
    · have h := cond_f h hc
      conv => whnf
      exact ⟨(), h, ⟨[0], [], ⟨rfl, rfl, rfl, rfl⟩, by repeat (first | exact trivial | exact .inl rfl | exact rfl | exact List.not_mem_nil | (refine .inr ?_) | (refine ⟨?_, ?_⟩) | exact List.length_set.symm | decide), by repeat (first | exact trivial | exact .inl rfl | exact rfl | exact List.not_mem_nil | (refine .inr ?_) | (refine ⟨?_, ?_⟩) | exact List.length_set.symm | decide)⟩⟩

def F_slices_symMergeCmpFunc_int__rows_Sort_c1 : Nat → Nat → Int → Int → Int → (List (List Val)) → (List Bool) → (List Int) → Option ((List Int))
  | 0 => fun _ _ _ _ _ _ _ => none
  | n + 1 => BF_slices_symMergeCmpFunc_int__rows_Sort_c1 n (F_slices_symMergeCmpFunc_int__rows_Sort_c1 n)

set_option maxRecDepth 100000 in
theorem F_slices_symMergeCmpFunc_int__rows_Sort_c1_all (n : Nat) : (∀ (x1 : Nat) (x2 : Int) (x3 : Int) (x4 : Int) (x5 : List (List Val)) (x6 : List Bool) (x7 : List Int) (r : (List Int)), F_slices_symMergeCmpFunc_int__rows_Sort_c1 n x1 x2 x3 x4 x5 x6 x7 = some r → CallsO Tryd.prog 74 [.vsl 0 x1, .p (PV.int .i64 x2), .p (PV.int .i64 x3), .p (PV.int .i64 x4), .p (PV.clo 39 [PV.hp [PV.sl (slRows valC x5)], PV.hp [PV.sl (boolRows x6)]])] [.vec 3 1 (intRows .i64 x7)] 1 (fun v lo => v = R_F_slices_symMergeCmpFunc_int__rows_Sort_c1 x7 r ∧ lo = L_F_slices_symMergeCmpFunc_int__rows_Sort_c1 x7 r)) := by
  induction n with
  | zero => exact (by intros; rename_i h; cases h)
  | succ n ih =>
    have h0 := ih
    exact BF_slices_symMergeCmpFunc_int__rows_Sort_c1_ok n (F_slices_symMergeCmpFunc_int__rows_Sort_c1 n) h0

set_option maxRecDepth 100000 in
theorem F_slices_symMergeCmpFunc_int__rows_Sort_c1_ok (n : Nat) : ∀ (x1 : Nat) (x2 : Int) (x3 : Int) (x4 : Int) (x5 : List (List Val)) (x6 : List Bool) (x7 : List Int) (r : (List Int)), F_slices_symMergeCmpFunc_int__rows_Sort_c1 n x1 x2 x3 x4 x5 x6 x7 = some r → CallsO Tryd.prog 74 [.vsl 0 x1, .p (PV.int .i64 x2), .p (PV.int .i64 x3), .p (PV.int .i64 x4), .p (PV.clo 39 [PV.hp [PV.sl (slRows valC x5)], PV.hp [PV.sl (boolRows x6)]])] [.vec 3 1 (intRows .i64 x7)] 1 (fun v lo => v = R_F_slices_symMergeCmpFunc_int__rows_Sort_c1 x7 r ∧ lo = L_F_slices_symMergeCmpFunc_int__rows_Sort_c1 x7 r) := (F_slices_symMergeCmpFunc_int__rows_Sort_c1_all n)
end W
end
section
open Go Go.Proofs Ax
namespace W
abbrev R_F_slices_stableCmpFunc_int__rows_Sort_c1 (x5 : List Int) (r : (List Int)) : FV := .p (.tup [])

abbrev L_F_slices_stableCmpFunc_int__rows_Sort_c1 (x5 : List Int) (r : (List Int)) : List AObj := [.vec 3 1 (intRows .i64 r)]

def F_slices_stableCmpFunc_int__rows_Sort_c1_k3 (n : Nat) (nx2 : Int × List Int → Option ((List Int))) (x11 : Int) : List Int → Option ((List Int)) := fun x17 =>
 nx2 ((IntKind.i64.wrap (x11 * (2 : Int))), x17)

def F_slices_stableCmpFunc_int__rows_Sort_c1_l3 (n : Nat) (x2 : Int) (x1 : Nat) (x11 : Int) (x3 : List (List Val)) (x4 : List Bool) (nx2 : Int × List Int → Option ((List Int))) : (Int × Int × List Int → Option ((List Int))) → Int × Int × List Int → Option ((List Int)) := fun nx3 (x13, x14, x15) =>
 bif (decide (x14 ≤ x2)) then (
 bnd (F_slices_symMergeCmpFunc_int__rows_Sort_c1 n x1 x13 (IntKind.i64.wrap (x13 + x11)) x14 x3 x4 x15) fun x16 =>
 nx3 (x14, (IntKind.i64.wrap (x14 + (IntKind.i64.wrap ((2 : Int) * x11)))), x16))
else (
 bif (decide ((IntKind.i64.wrap (x13 + x11)) < x2)) then (
 bnd (F_slices_symMergeCmpFunc_int__rows_Sort_c1 n x1 x13 (IntKind.i64.wrap (x13 + x11)) x2 x3 x4 x15) fun x18 =>
 F_slices_stableCmpFunc_int__rows_Sort_c1_k3 n nx2 x11 x18)
else (
 F_slices_stableCmpFunc_int__rows_Sort_c1_k3 n nx2 x11 x15))

def F_slices_stableCmpFunc_int__rows_Sort_c1_l2 (n : Nat) (x2 : Int) (x1 : Nat) (x3 : List (List Val)) (x4 : List Bool) : (Int × List Int → Option ((List Int))) → Int × List Int → Option ((List Int)) := fun nx2 (x11, x12) =>
 bif (decide (x11 < x2)) then (
 loopK (F_slices_stableCmpFunc_int__rows_Sort_c1_l3 n x2 x1 x11 x3 x4 nx2) n ((0 : Int), (IntKind.i64.wrap ((2 : Int) * x11)), x12))
else (
 some x12)

def F_slices_stableCmpFunc_int__rows_Sort_c1_l1 (n : Nat) (x2 : Int) (x1 : Nat) (x3 : List (List Val)) (x4 : List Bool) : (Int × Int × List Int → Option ((List Int))) → Int × Int × List Int → Option ((List Int)) := fun nx1 (x6, x7, x8) =>
 bif (decide (x7 ≤ x2)) then (
 bnd (F_slices_insertionSortCmpFunc_int__rows_Sort_c1 n x1 x6 x7 x3 x4 x8) fun x9 =>
 nx1 (x7, (IntKind.i64.wrap (x7 + (20 : Int))), x9))
else (
 bnd (F_slices_insertionSortCmpFunc_int__rows_Sort_c1 n x1 x6 x2 x3 x4 x8) fun x10 =>
 loopK (F_slices_stableCmpFunc_int__rows_Sort_c1_l2 n x2 x1 x3 x4) n ((20 : Int), x10))

def F_slices_stableCmpFunc_int__rows_Sort_c1 (n : Nat)  (x1 : Nat) (x2 : Int) (x3 : List (List Val)) (x4 : List Bool) (x5 : List Int) : Option ((List Int)) :=
  loopK (F_slices_stableCmpFunc_int__rows_Sort_c1_l1 n x2 x1 x3 x4) n ((0 : Int), (20 : Int), x5)

set_option maxHeartbeats 4000000 in
set_option maxRecDepth 100000 in
theorem F_slices_stableCmpFunc_int__rows_Sort_c1_ok (n : Nat)   : ∀ (x1 : Nat) (x2 : Int) (x3 : List (List Val)) (x4 : List Bool) (x5 : List Int) (r : (List Int)), F_slices_stableCmpFunc_int__rows_Sort_c1 n x1 x2 x3 x4 x5 = some r → CallsO Tryd.prog 59 [.vsl 0 x1, .p (PV.int .i64 x2), .p (PV.clo 39 [PV.hp [PV.sl (slRows valC x3)], PV.hp [PV.sl (boolRows x4)]])] [.vec 3 1 (intRows .i64 x5)] 1 (fun v lo => v = R_F_slices_stableCmpFunc_int__rows_Sort_c1 x5 r ∧ lo = L_F_slices_stableCmpFunc_int__rows_Sort_c1 x5 r) := by
  intro x1 x2 x3 x4 x5 r h
  unfold F_slices_stableCmpFunc_int__rows_Sort_c1 at h
  refine CallsO.of_vc mixed (fun _ _ => Tryd.call59 _ _) Tryd.func59 (by kernel_rfl) (inl := [73, 74, 1000000]) (Nat.le_of_ble_eq_true rfl) ?_
  conv => whnf
  refine LoopA.fn [73, 74, 1000000] (S := Int × Int × List Int) (fun (x6, x7, x8) => [(0, .vsl 0 x1), (1, .p (.int .i64 x2)), (2, .p (.clo 39 [PV.hp [PV.sl (slRows valC x3)], PV.hp [PV.sl (boolRows x4)]])), (6, .p (.int .i64 (20 : Int))), (7, .p (.int .i64 x6)), (8, .p (.int .i64 x7))]) (fun (x6, x7, x8) => [.vec 3 1 (intRows .i64 x8)]) (B := F_slices_stableCmpFunc_int__rows_Sort_c1_l1 n x2 x1 x3 x4) h ⟨[0], [], ⟨rfl, rfl, rfl, rfl⟩, by repeat (first | exact trivial | exact .inl rfl | exact rfl | exact List.not_mem_nil | (refine .inr ?_) | (refine ⟨?_, ?_⟩) | exact List.length_set.symm | decide), by repeat (first | exact trivial | exact .inl rfl | exact rfl | exact List.not_mem_nil | (refine .inr ?_) | (refine ⟨?_, ?_⟩) | exact List.length_set.symm | decide)⟩ ?_
  intro nx1 st h
  obtain ⟨x6, x7, x8⟩ := st
  unfold F_slices_stableCmpFunc_int__rows_Sort_c1_l1 at h
  conv => whnf
  refine ⟨fun hc => ?_, fun hc => ?_⟩
  · have h := cond_t h hc
    conv => whnf
    replace h := bnd_some h
    obtain ⟨x9, h1, h⟩ := h
    refine CallsO.use (F_slices_insertionSortCmpFunc_int__rows_Sort_c1_ok n _ _ _ _ _ _ _  h1) [0] [] ⟨rfl, rfl, rfl, rfl, rfl, rfl⟩ (by repeat (first | exact trivial | exact .inl rfl | exact rfl | exact List.not_mem_nil | (refine .inr ?_) | (refine ⟨?_, ?_⟩) | exact List.length_set.symm | decide)) (by repeat (first | exact trivial | exact .inl rfl | exact rfl | exact List.not_mem_nil | (refine .inr ?_) | (refine ⟨?_, ?_⟩) | exact List.length_set.symm | decide)) ?_
    rintro _ _ ⟨rfl, rfl⟩
    refine ⟨.p (.tup []), [.vec 3 1 (intRows .i64 x9)], rfl, rfl, ?_⟩
    conv => whnf
    exact ⟨(x7, (IntKind.i64.wrap (x7 + (20 : Int))), x9), h, ⟨[0], [], ⟨rfl, rfl, rfl, rfl⟩, by repeat (first | exact trivial | exact .inl rfl | exact rfl | exact List.not_mem_nil | (refine .inr ?_) | (refine ⟨?_, ?_⟩) | exact List.length_set.symm | decide), by repeat (first | exact trivial | exact .inl rfl | exact rfl | exact List.not_mem_nil | (refine .inr ?_) | (refine ⟨?_, ?_⟩) | exact List.length_set.symm | decide)⟩⟩
  · have h := cond_f h hc
    conv => whnf
    replace h := bnd_some h
    obtain ⟨x10, h2, h⟩ := h
    refine CallsO.use (F_slices_insertionSortCmpFunc_int__rows_Sort_c1_ok n _ _ _ _ _ _ _  h2) [0] [] ⟨rfl, rfl, rfl, rfl, rfl, rfl⟩ (by repeat (first | exact trivial | exact .inl rfl | exact rfl | exact List.not_mem_nil | (refine .inr ?_) | (refine ⟨?_, ?_⟩) | exact List.length_set.symm | decide)) (by repeat (first | exact trivial | exact .inl rfl | exact rfl | exact List.not_mem_nil | (refine .inr ?_) | (refine ⟨?_, ?_⟩) | exact List.length_set.symm | decide)) ?_
    rintro _ _ ⟨rfl, rfl⟩
    refine ⟨.p (.tup []), [.vec 3 1 (intRows .i64 x10)], rfl, rfl, ?_⟩
    conv => whnf
    refine LoopA.fn [73, 74, 1000000] (S := Int × List Int) (fun (x11, x12) => [(0, .vsl 0 x1), (1, .p (.int .i64 x2)), (2, .p (.clo 39 [PV.hp [PV.sl (slRows valC x3)], PV.hp [PV.sl (boolRows x4)]])), (6, .p (.int .i64 x11))]) (fun (x11, x12) => [.vec 3 1 (intRows .i64 x12)]) (B := F_slices_stableCmpFunc_int__rows_Sort_c1_l2 n x2 x1 x3 x4) h ⟨[0], [], ⟨rfl, rfl, rfl, rfl⟩, by repeat (first | exact trivial | exact .inl rfl | exact rfl | exact List.not_mem_nil | (refine .inr ?_) | (refine ⟨?_, ?_⟩) | exact List.length_set.symm | decide), by repeat (first | exact trivial | exact .inl rfl | exact rfl | exact List.not_mem_nil | (refine .inr ?_) | (refine ⟨?_, ?_⟩) | exact List.length_set.symm | decide)⟩ ?_
    intro nx2 st h
    obtain ⟨x11, x12⟩ := st
    unfold F_slices_stableCmpFunc_int__rows_Sort_c1_l2 at h
    conv => whnf
    refine ⟨fun hc => ?_, fun hc => ?_⟩
    · have h := cond_t h hc
      conv => whnf
      refine LoopA.fn [73, 74, 1000000] (S := Int × Int × List Int) (fun (x13, x14, x15) => [(0, .vsl 0 x1), (1, .p (.int .i64 x2)), (2, .p (.clo 39 [PV.hp [PV.sl (slRows valC x3)], PV.hp [PV.sl (boolRows x4)]])), (6, .p (.int .i64 x11)), (7, .p (.int .i64 x13)), (8, .p (.int .i64 x14))]) (fun (x13, x14, x15) => [.vec 3 1 (intRows .i64 x15)]) (B := F_slices_stableCmpFunc_int__rows_Sort_c1_l3 n x2 x1 x11 x3 x4 nx2) h ⟨[0], [], ⟨rfl, rfl, rfl, rfl⟩, by repeat (first | exact trivial | exact .inl rfl | exact rfl | exact List.not_mem_nil | (refine .inr ?_) | (refine ⟨?_, ?_⟩) | exact List.length_set.symm | decide), by repeat (first | exact trivial | exact .inl rfl | exact rfl | exact List.not_mem_nil | (refine .inr ?_) | (refine ⟨?_, ?_⟩) | exact List.length_set.symm | decide)⟩ ?_
      intro nx3 st h
      obtain ⟨x13, x14, x15⟩ := st
      unfold F_slices_stableCmpFunc_int__rows_Sort_c1_l3 at h
      conv => whnf
      refine ⟨fun hc => ?_, fun hc => ?_⟩
      · have h := cond_t h hc
        conv => whnf
        replace h := bnd_some h
        obtain ⟨x16, h3, h⟩ := h
        refine CallsO.use (F_slices_symMergeCmpFunc_int__rows_Sort_c1_ok n _ _ _ _ _ _ _ _  h3) [0] [] ⟨rfl, rfl, rfl, rfl, rfl, rfl⟩ (by repeat (first | exact trivial | exact .inl rfl | exact rfl | exact List.not_mem_nil | (refine .inr ?_) | (refine ⟨?_, ?_⟩) | exact List.length_set.symm | decide)) (by repeat (first | exact trivial | exact .inl rfl | exact rfl | exact List.not_mem_nil | (refine .inr ?_) | (refine ⟨?_, ?_⟩) | exact List.length_set.symm | decide)) ?_
        rintro _ _ ⟨rfl, rfl⟩
        refine ⟨.p (.tup []), [.vec 3 1 (intRows .i64 x16)], rfl, rfl, ?_⟩
        conv => whnf
        exact ⟨(x14, (IntKind.i64.wrap (x14 + (IntKind.i64.wrap ((2 : Int) * x11)))), x16), h, ⟨[0], [], ⟨rfl, rfl, rfl, rfl⟩, by repeat (first | exact trivial | exact .inl rfl | exact rfl | exact List.not_mem_nil | (refine .inr ?_) | (refine ⟨?_, ?_⟩) | exact List.length_set.symm | decide), by repeat (first | exact trivial | exact .inl rfl | exact rfl | exact List.not_mem_nil | (refine .inr ?_) | (refine ⟨?_, ?_⟩) | exact List.length_set.symm | decide)⟩⟩
      · have h := cond_f h hc
        conv => whnf
        refine SeqA.cut (S := List Int) (fun x17 => [(0, .vsl 0 x1), (1, .p (.int .i64 x2)), (2, .p (.clo 39 [PV.hp [PV.sl (slRows valC x3)], PV.hp [PV.sl (boolRows x4)]])), (6, .p (.int .i64 x11))]) (fun x17 => [.vec 3 1 (intRows .i64 x17)]) (F_slices_stableCmpFunc_int__rows_Sort_c1_k3 n nx2 x11) (r := r) ?_ ?_
        · intro x17 h
          unfold F_slices_stableCmpFunc_int__rows_Sort_c1_k3 at h
          conv => whnf
          exact ⟨((IntKind.i64.wrap (x11 * (2 : Int))), x17), h, ⟨[0], [], ⟨rfl, rfl, rfl, rfl⟩, by repeat (first | exact trivial | exact .inl rfl | exact rfl | exact List.not_mem_nil | (refine .inr ?_) | (refine ⟨?_, ?_⟩) | exact List.length_set.symm | decide), by repeat (first | exact trivial | exact .inl rfl | exact rfl | exact List.not_mem_nil | (refine .inr ?_) | (refine ⟨?_, ?_⟩) | exact List.length_set.symm | decide)⟩⟩
        · conv => whnf
          refine ⟨fun hc => ?_, fun hc => ?_⟩
          · have h := cond_t h hc
            conv => whnf
            replace h := bnd_some h
            obtain ⟨x18, h4, h⟩ := h
            refine CallsO.use (F_slices_symMergeCmpFunc_int__rows_Sort_c1_ok n _ _ _ _ _ _ _ _  h4) [0] [] ⟨rfl, rfl, rfl, rfl, rfl, rfl⟩ (by repeat (first | exact trivial | exact .inl rfl | exact rfl | exact List.not_mem_nil | (refine .inr ?_) | (refine ⟨?_, ?_⟩) | exact List.length_set.symm | decide)) (by repeat (first | exact trivial | exact .inl rfl | exact rfl | exact List.not_mem_nil | (refine .inr ?_) | (refine ⟨?_, ?_⟩) | exact List.length_set.symm | decide)) ?_
            rintro _ _ ⟨rfl, rfl⟩
            refine ⟨.p (.tup []), [.vec 3 1 (intRows .i64 x18)], rfl, rfl, ?_⟩
            conv => whnf
            exact ⟨x18, h, ⟨[0], [], ⟨rfl, rfl, rfl, rfl⟩, by repeat (first | exact trivial | exact .inl rfl | exact rfl | exact List.not_mem_nil | (refine .inr ?_) | (refine ⟨?_, ?_⟩) | exact List.length_set.symm | decide), by repeat (first | exact trivial | exact .inl rfl | exact rfl | exact List.not_mem_nil | (refine .inr ?_) | (refine ⟨?_, ?_⟩) | exact List.length_set.symm | decide)⟩⟩
          · have h := cond_f h hc
            conv => whnf
            exact ⟨x15, h, ⟨[0], [], ⟨rfl, rfl, rfl, rfl⟩, by repeat (first | exact trivial | exact .inl rfl | exact rfl | exact List.not_mem_nil | (refine .inr ?_) | (refine ⟨?_, ?_⟩) | exact List.length_set.symm | decide), by repeat (first | exact trivial | exact .inl rfl | exact rfl | exact List.not_mem_nil | (refine .inr ?_) | (refine ⟨?_, ?_⟩) | exact List.length_set.symm | decide)⟩⟩
    · have h := cond_f h hc
      obtain rfl := Option.some.inj h
      conv => whnf
      refine ⟨_, _, ⟨rfl, rfl⟩, ⟨[0], [], ⟨rfl, rfl, rfl, rfl⟩, by repeat (first | exact trivial | exact .inl rfl | exact rfl | exact List.not_mem_nil | (refine .inr ?_) | (refine ⟨?_, ?_⟩) | exact List.length_set.symm | decide), by repeat (first | exact trivial | exact .inl rfl | exact rfl | exact List.not_mem_nil | (refine .inr ?_) | (refine ⟨?_, ?_⟩) | exact List.length_set.symm | decide)⟩⟩

abbrev R_F_slices_SortStableFunc_int_int__rows_Sort_c1 (x4 : List Int) (r : (List Int)) : FV := .p (.tup [])

abbrev L_F_slices_SortStableFunc_int_int__rows_Sort_c1 (x4 : List Int) (r : (List Int)) : List AObj := [.vec 3 1 (intRows .i64 r)]

def F_slices_SortStableFunc_int_int__rows_Sort_c1 (n : Nat)  (x1 : Nat) (x2 : List (List Val)) (x3 : List Bool) (x4 : List Int) : Option ((List Int)) :=
  bnd (F_slices_stableCmpFunc_int__rows_Sort_c1 n x1 ((x1 : Nat) : Int) x2 x3 x4) fun x5 =>
  some x5

set_option maxRecDepth 100000 in
theorem F_slices_SortStableFunc_int_int__rows_Sort_c1_ok (n : Nat)   : ∀ (x1 : Nat) (x2 : List (List Val)) (x3 : List Bool) (x4 : List Int) (r : (List Int)), F_slices_SortStableFunc_int_int__rows_Sort_c1 n x1 x2 x3 x4 = some r → CallsO Tryd.prog 38 [.vsl 0 x1, .p (PV.clo 39 [PV.hp [PV.sl (slRows valC x2)], PV.hp [PV.sl (boolRows x3)]])] [.vec 3 1 (intRows .i64 x4)] 1 (fun v lo => v = R_F_slices_SortStableFunc_int_int__rows_Sort_c1 x4 r ∧ lo = L_F_slices_SortStableFunc_int_int__rows_Sort_c1 x4 r) := by
  intro x1 x2 x3 x4 r h
  unfold F_slices_SortStableFunc_int_int__rows_Sort_c1 at h
  refine CallsO.of_vc mixed (fun _ _ => Tryd.call38 _ _) Tryd.func38 (by kernel_rfl) (inl := [59, 1000000]) (Nat.le_of_ble_eq_true rfl) ?_
  conv => whnf
  replace h := bnd_some h
  obtain ⟨x5, h1, h⟩ := h
  refine CallsO.use (F_slices_stableCmpFunc_int__rows_Sort_c1_ok n _ _ _ _ _ _  h1) [0] [] ⟨rfl, rfl, rfl, rfl, rfl, rfl⟩ (by repeat (first | exact trivial | exact .inl rfl | exact rfl | exact List.not_mem_nil | (refine .inr ?_) | (refine ⟨?_, ?_⟩) | exact List.length_set.symm | decide)) (by repeat (first | exact trivial | exact .inl rfl | exact rfl | exact List.not_mem_nil | (refine .inr ?_) | (refine ⟨?_, ?_⟩) | exact List.length_set.symm | decide)) ?_
  rintro _ _ ⟨rfl, rfl⟩
  refine ⟨.p (.tup []), [.vec 3 1 (intRows .i64 x5)], rfl, rfl, ?_⟩
  obtain rfl := Option.some.inj h
  conv => whnf
  refine ⟨_, _, ⟨rfl, rfl⟩, ⟨[0], [], ⟨rfl, rfl, rfl, rfl⟩, by repeat (first | exact trivial | exact .inl rfl | exact rfl | exact List.not_mem_nil | (refine .inr ?_) | (refine ⟨?_, ?_⟩) | exact List.length_set.symm | decide), by repeat (first | exact trivial | exact .inl rfl | exact rfl | exact List.not_mem_nil | (refine .inr ?_) | (refine ⟨?_, ?_⟩) | exact List.length_set.symm | decide)⟩⟩

abbrev R_F_rows_Sort (r : List (List Val)) : PV := PV.sl (slRows valC r)

def F_rows_Sort_l2 (n : Nat) (x4 : Nat) (x9 : List Int) (x1 : List (List Val)) : (List (List Val) × Int → Option (List (List Val))) → List (List Val) × Int → Option (List (List Val)) := fun nx2 (x10, x11) =>
 bif (decide (x11 < ((((intRows .i64 (List.replicate x4 (0 : Int))).length) : Nat) : Int))) then (
 bnd (natI x11) fun x12 =>
 chk (decide (x12 < (intRows .i64 (List.replicate x4 (0 : Int))).length)) (
 bnd (x9[x12]?) fun x13 =>
 bnd (idx x1 x13) fun x14 =>
 bnd (F_rows_copied n x14) fun x15 =>
 chk (decide ((slRows valC (x10 ++ [x15])).length * 24 ≤ 140737488355328)) (
 nx2 ((x10 ++ [x15]), (IntKind.i64.wrap (x11 + (1 : Int)))))))
else (
 some x10)

def F_rows_Sort_l1 (n : Nat) (x4 : Nat) (x2 : List (List Val)) (x3 : List Bool) (x1 : List (List Val)) : (Int × List Int → Option (List (List Val))) → Int × List Int → Option (List (List Val)) := fun nx1 (x5, x6) =>
 bif (decide (x5 < ((((intRows .i64 (List.replicate x4 (0 : Int))).length) : Nat) : Int))) then (
 bnd (natI x5) fun x7 =>
 chk (decide (x7 < (intRows .i64 (List.replicate x4 (0 : Int))).length)) (
 bnd (x6[x7]?) fun x8 =>
 nx1 ((IntKind.i64.wrap (x5 + (1 : Int))), (x6.set x7 x5))))
else (
 bnd (F_slices_SortStableFunc_int_int__rows_Sort_c1 n ((intRows .i64 (List.replicate x4 (0 : Int))).length) x2 x3 x6) fun x9 =>
 loopK (F_rows_Sort_l2 n x4 x9 x1) n (([] : List _), (0 : Int)))

def F_rows_Sort (n : Nat)  (x1 : List (List Val)) (x2 : List (List Val)) (x3 : List Bool) : Option (List (List Val)) :=
  bnd (natI (((slRows valC x1).length : Nat) : Int)) fun x4 =>
  chk (decide (x4 * 8 ≤ 140737488355328)) (
  loopK (F_rows_Sort_l1 n x4 x2 x3 x1) n ((0 : Int), (List.replicate x4 (0 : Int))))

set_option maxHeartbeats 4000000 in
set_option maxRecDepth 100000 in
theorem F_rows_Sort_ok (n : Nat)   : ∀ (x1 : List (List Val)) (x2 : List (List Val)) (x3 : List Bool) (r : List (List Val)), F_rows_Sort n x1 x2 x3 = some r → CallsF Tryd.prog 19 [PV.sl (slRows valC x1), PV.sl (slRows valC x2), PV.sl (boolRows x3)] (R_F_rows_Sort r) := by
  intro x1 x2 x3 r h
  unfold F_rows_Sort at h
  refine CallsF.of_vcN mixed (fun _ _ => Tryd.call19 _ _) Tryd.func19 (by kernel_rfl) (inl := [38, 10000004, 10000005, 10000014, 1000000]) ?_
  conv => whnf
  replace h := bnd_some h
  obtain ⟨x4, h12, h⟩ := h
  have hj := natI_some h12
  conv => whnf
  obtain ⟨h11, h⟩ := chk_some h
  refine ⟨x4, intRows .i64 (List.replicate x4 (0 : Int)), ⟨hj, hj, of_decide_eq_true h11, len_ok h11 (by decide), Codec.made (intC .i64) (0 : Int) x4 rfl, rfl, by decide, rfl⟩, ?_⟩
  conv => whnf
  refine LoopA.fn [38, 10000004, 10000005, 10000014, 1000000] (S := Int × List Int) (fun (x5, x6) => [(0, .p (.sl (slRows valC x1))), (4, .hptr [PV.sl (slRows valC x2)]), (5, .hptr [PV.sl (boolRows x3)]), (7, .vsl 0 ((intRows .i64 (List.replicate x4 (0 : Int))).length)), (16, .p (.int .i64 ((((intRows .i64 (List.replicate x4 (0 : Int))).length) : Nat) : Int))), (17, .p (.int .i64 x5))]) (fun (x5, x6) => [.vec 3 1 (intRows .i64 x6)]) (B := F_rows_Sort_l1 n x4 x2 x3 x1) h ⟨[0], [], ⟨rfl, rfl, rfl, rfl⟩, by repeat (first | exact trivial | exact .inl rfl | exact rfl | exact List.not_mem_nil | (refine .inr ?_) | (refine ⟨?_, ?_⟩) | exact List.length_set.symm | decide), by repeat (first | exact trivial | exact .inl rfl | exact rfl | exact List.not_mem_nil | (refine .inr ?_) | (refine ⟨?_, ?_⟩) | exact List.length_set.symm | decide)⟩ ?_
  intro nx1 st h
  obtain ⟨x5, x6⟩ := st
  unfold F_rows_Sort_l1 at h
  conv => whnf
  refine ⟨fun hc => ?_, fun hc => ?_⟩
  · have h := cond_t h hc
    conv => whnf
    replace h := bnd_some h
    obtain ⟨x7, h3, h⟩ := h
    have hj := natI_some h3
    conv => whnf
    obtain ⟨h2, h⟩ := chk_some h
    refine ⟨x7, ⟨hj, of_decide_eq_true h2⟩, ?_⟩
    conv => whnf
    replace h := bnd_some h
    obtain ⟨x8, h1, h⟩ := h
    refine ⟨_, ⟨rfl, Codec.getN (intC .i64) h1, rfl⟩, ?_⟩
    conv => whnf
    refine ⟨_, Codec.setN (intC .i64) x6 x7 x5, ?_⟩
    conv => whnf
    exact ⟨((IntKind.i64.wrap (x5 + (1 : Int))), (x6.set x7 x5)), h, ⟨[0], [], ⟨rfl, rfl, rfl, rfl⟩, by repeat (first | exact trivial | exact .inl rfl | exact rfl | exact List.not_mem_nil | (refine .inr ?_) | (refine ⟨?_, ?_⟩) | exact List.length_set.symm | decide), by repeat (first | exact trivial | exact .inl rfl | exact rfl | exact List.not_mem_nil | (refine .inr ?_) | (refine ⟨?_, ?_⟩) | exact List.length_set.symm | decide)⟩⟩
  · have h := cond_f h hc
    conv => whnf
    replace h := bnd_some h
    obtain ⟨x9, h4, h⟩ := h
    refine CallsO.use (F_slices_SortStableFunc_int_int__rows_Sort_c1_ok n _ _ _ _ _  h4) [0] [] ⟨rfl, rfl, rfl, rfl, rfl, rfl⟩ (by repeat (first | exact trivial | exact .inl rfl | exact rfl | exact List.not_mem_nil | (refine .inr ?_) | (refine ⟨?_, ?_⟩) | exact List.length_set.symm | decide)) (by repeat (first | exact trivial | exact .inl rfl | exact rfl | exact List.not_mem_nil | (refine .inr ?_) | (refine ⟨?_, ?_⟩) | exact List.length_set.symm | decide)) ?_
    rintro _ _ ⟨rfl, rfl⟩
    refine ⟨.p (.tup []), [.vec 3 1 (intRows .i64 x9)], rfl, rfl, ?_⟩
    conv => whnf
    refine LoopA.fn [38, 10000004, 10000005, 10000014, 1000000] (S := List (List Val) × Int) (fun (x10, x11) => [(0, .p (.sl (slRows valC x1))), (9, .tsl 1 (slRows valC x10)), (28, .vsl 0 ((intRows .i64 (List.replicate x4 (0 : Int))).length)), (29, .p (.int .i64 ((((intRows .i64 (List.replicate x4 (0 : Int))).length) : Nat) : Int))), (30, .p (.int .i64 x11))]) (fun (x10, x11) => [.vec 3 1 (intRows .i64 x9), .tail 37 1 (slRows valC x10).length]) (B := F_rows_Sort_l2 n x4 x9 x1) h ⟨[0, 0], [1], ⟨rfl, rfl, rfl, rfl⟩, by repeat (first | exact trivial | exact .inl rfl | exact rfl | exact List.not_mem_nil | (refine .inr ?_) | (refine ⟨?_, ?_⟩) | exact List.length_set.symm | decide), by repeat (first | exact trivial | exact .inl rfl | exact rfl | exact List.not_mem_nil | (refine .inr ?_) | (refine ⟨?_, ?_⟩) | exact List.length_set.symm | decide)⟩ ?_
    intro nx2 st h
    obtain ⟨x10, x11⟩ := st
    unfold F_rows_Sort_l2 at h
    conv => whnf
    refine ⟨fun hc => ?_, fun hc => ?_⟩
    · have h := cond_t h hc
      conv => whnf
      replace h := bnd_some h
      obtain ⟨x12, h10, h⟩ := h
      have hj := natI_some h10
      conv => whnf
      obtain ⟨h9, h⟩ := chk_some h
      refine ⟨x12, ⟨hj, of_decide_eq_true h9⟩, ?_⟩
      conv => whnf
      replace h := bnd_some h
      obtain ⟨x13, h8, h⟩ := h
      refine ⟨_, ⟨rfl, Codec.getN (intC .i64) h8⟩, ?_⟩
      conv => whnf
      replace h := bnd_some h
      obtain ⟨x14, h7, h⟩ := h
      refine ⟨_, Codec.at_ (slC valC) h7, ?_⟩
      conv => whnf
      replace h := bnd_some h
      obtain ⟨x15, h6, h⟩ := h
      refine ⟨_, (F_rows_copied_ok n _  _ h6), ?_⟩
      conv => whnf
      refine ⟨Codec.one (slC valC) [x15], slRows valC [x15], .inl rfl, ?_⟩
      conv => whnf
      rw [show slRows valC x10 ++ slRows valC [x15] = slRows valC (x10 ++ [x15]) from Codec.append (slC valC) x10 [x15]]
      conv => whnf
      obtain ⟨h5, h⟩ := chk_some h
      refine ⟨⟨Codec.wide (slC valC) (x10 ++ [x15]), of_decide_eq_true h5, len_ok h5 (by decide)⟩, ?_⟩
      conv => whnf
      refine ⟨⟨rfl, rfl, rfl⟩, ?_⟩
      conv => whnf
      exact ⟨((x10 ++ [x15]), (IntKind.i64.wrap (x11 + (1 : Int)))), h, ⟨[0, 2], [], ⟨rfl, rfl, rfl, rfl⟩, by repeat (first | exact trivial | exact .inl rfl | exact rfl | exact List.not_mem_nil | (refine .inr ?_) | (refine ⟨?_, ?_⟩) | exact List.length_set.symm | decide), by repeat (first | exact trivial | exact .inl rfl | exact rfl | exact List.not_mem_nil | (refine .inr ?_) | (refine ⟨?_, ?_⟩) | exact List.length_set.symm | decide)⟩⟩
    · have h := cond_f h hc
      obtain rfl := Option.some.inj h
      conv => whnf
      repeat (first | exact rfl | exact trivial | refine ⟨?_, ?_⟩)

abbrev R_F_slices_Index_string_string (r : Int) : PV := PV.int .i64 r

def F_slices_Index_string_string_l1 (n : Nat) (x1 : List (List UInt8)) (x2 : List UInt8) : (Int → Option (Int)) → Int → Option (Int) := fun nx1 x3 =>
 bif (decide (x3 < (((strs x1).length : Nat) : Int))) then (
 bnd (idx x1 x3) fun x4 =>
 bif (x2 == x4) then (
 some x3)
else (
 nx1 (IntKind.i64.wrap (x3 + (1 : Int)))))
else (
 some (-1 : Int))

def F_slices_Index_string_string (n : Nat)  (x1 : List (List UInt8)) (x2 : List UInt8) : Option (Int) :=
  loopK (F_slices_Index_string_string_l1 n x1 x2) n (0 : Int)

set_option maxRecDepth 100000 in
theorem F_slices_Index_string_string_ok (n : Nat)   : ∀ (x1 : List (List UInt8)) (x2 : List UInt8) (r : Int), F_slices_Index_string_string n x1 x2 = some r → CallsF Tryd.prog 64 [PV.sl (strs x1), PV.str x2] (R_F_slices_Index_string_string r) := by
  intro x1 x2 r h
  unfold F_slices_Index_string_string at h
  refine CallsF.of_vcN mixed (fun _ _ => Tryd.call64 _ _) Tryd.func64 (by kernel_rfl) (inl := [1000000]) ?_
  conv => whnf
  refine LoopA.fn [1000000] (S := Int) (fun x3 => [(0, .p (.sl (strs x1))), (1, .p (.str x2)), (7, .p (.int .i64 (((strs x1).length : Nat) : Int))), (8, .p (.int .i64 x3))]) (fun x3 => []) (B := F_slices_Index_string_string_l1 n x1 x2) h ⟨[], [], ⟨rfl, rfl, rfl, rfl⟩, by repeat (first | exact trivial | exact .inl rfl | exact rfl | exact List.not_mem_nil | (refine .inr ?_) | (refine ⟨?_, ?_⟩) | exact List.length_set.symm | decide), by repeat (first | exact trivial | exact .inl rfl | exact rfl | exact List.not_mem_nil | (refine .inr ?_) | (refine ⟨?_, ?_⟩) | exact List.length_set.symm | decide)⟩ ?_
  intro nx1 x3 h
  unfold F_slices_Index_string_string_l1 at h
  conv => whnf
  refine ⟨fun hc => ?_, fun hc => ?_⟩
  · have h := cond_t h hc
    conv => whnf
    replace h := bnd_some h
    obtain ⟨x4, h1, h⟩ := h
    refine ⟨_, Codec.at_ strC h1, ?_⟩
    conv => whnf
    refine ⟨fun hc => ?_, fun hc => ?_⟩
    · have h := cond_t h hc
      obtain rfl := Option.some.inj h
      conv => whnf
      repeat (first | exact rfl | exact trivial | refine ⟨?_, ?_⟩)
    · have h := cond_f h hc
      conv => whnf
      exact ⟨(IntKind.i64.wrap (x3 + (1 : Int))), h, ⟨[], [], ⟨rfl, rfl, rfl, rfl⟩, by repeat (first | exact trivial | exact .inl rfl | exact rfl | exact List.not_mem_nil | (refine .inr ?_) | (refine ⟨?_, ?_⟩) | exact List.length_set.symm | decide), by repeat (first | exact trivial | exact .inl rfl | exact rfl | exact List.not_mem_nil | (refine .inr ?_) | (refine ⟨?_, ?_⟩) | exact List.length_set.symm | decide)⟩⟩
  · have h := cond_f h hc
    obtain rfl := Option.some.inj h
    conv => whnf
    repeat (first | exact rfl | exact trivial | refine ⟨?_, ?_⟩)

abbrev R_F_slices_Contains_string_string (r : Bool) : PV := PV.bool r

def F_slices_Contains_string_string (n : Nat)  (x1 : List (List UInt8)) (x2 : List UInt8) : Option (Bool) :=
  bnd (F_slices_Index_string_string n x1 x2) fun x3 =>
  some (decide (x3 ≥ (0 : Int)))

set_option maxRecDepth 100000 in
theorem F_slices_Contains_string_string_ok (n : Nat)   : ∀ (x1 : List (List UInt8)) (x2 : List UInt8) (r : Bool), F_slices_Contains_string_string n x1 x2 = some r → CallsF Tryd.prog 51 [PV.sl (strs x1), PV.str x2] (R_F_slices_Contains_string_string r) := by
  intro x1 x2 r h
  unfold F_slices_Contains_string_string at h
  refine CallsF.of_vcN mixed (fun _ _ => Tryd.call51 _ _) Tryd.func51 (by kernel_rfl) (inl := [1000000]) ?_
  conv => whnf
  replace h := bnd_some h
  obtain ⟨x3, h1, h⟩ := h
  refine ⟨_, (F_slices_Index_string_string_ok n _ _  _ h1), ?_⟩
  obtain rfl := Option.some.inj h
  conv => whnf
  repeat (first | exact rfl | exact trivial | refine ⟨?_, ?_⟩)

abbrev R_F_rows_Group_c1 (r : List Val) : PV := PV.sl (Val.rows r)

def F_rows_Group_c1_k3 (n : Nat) (nx1 : List Val × Int → Option (List Val)) (x4 : Int) : List Val → Option (List Val) := fun x5 =>
 nx1 (x5, (IntKind.i64.wrap (x4 + (1 : Int))))

def F_rows_Group_c1_l1 (n : Nat) (x2 : List (List UInt8)) (x1 : List Val) : (List Val × Int → Option (List Val)) → List Val × Int → Option (List Val) := fun nx1 (x3, x4) =>
 bif (decide (x4 < (((strs x2).length : Nat) : Int))) then (
 bnd (idx x2 x4) fun x6 =>
 bif (bif (x6 == ([] : List UInt8)) then (decide (x4 < (((Val.rows x1).length : Nat) : Int))) else false) then (
 bnd (idx x1 x4) fun ⟨x7, x8, x9, x10, x11, x12⟩ =>
 chk (decide ((Val.rows (x3 ++ [Val.mk x7 x8 x9 x10 x11 x12])).length * 88 ≤ 140737488355328)) (
 F_rows_Group_c1_k3 n nx1 x4 (x3 ++ [Val.mk x7 x8 x9 x10 x11 x12])))
else (
 F_rows_Group_c1_k3 n nx1 x4 x3))
else (
 some x3)

def F_rows_Group_c1 (n : Nat)  (x1 : List Val) (x2 : List (List UInt8)) : Option (List Val) :=
  loopK (F_rows_Group_c1_l1 n x2 x1) n (([] : List _), (0 : Int))

set_option maxRecDepth 100000 in
theorem F_rows_Group_c1_ok (n : Nat)   : ∀ (x1 : List Val) (x2 : List (List UInt8)) (r : List Val), F_rows_Group_c1 n x1 x2 = some r → CallsF Tryd.prog 47 [PV.sl (Val.rows x1), PV.hp [PV.sl (strs x2)]] (R_F_rows_Group_c1 r) := by
  intro x1 x2 r h
  unfold F_rows_Group_c1 at h
  refine CallsF.of_vcN mixed (fun _ _ => Tryd.call47 _ _) Tryd.func47 (by kernel_rfl) (inl := [1000000]) ?_
  conv => whnf
  refine LoopA.fn [1000000] (S := List Val × Int) (fun (x3, x4) => [(0, .p (.sl (Val.rows x1))), (4, .tsl 0 (Val.rows x3)), (7, .p (.sl (strs x2))), (8, .p (.int .i64 (((strs x2).length : Nat) : Int))), (9, .p (.int .i64 x4))]) (fun (x3, x4) => [.tail 40 6 (Val.rows x3).length]) (B := F_rows_Group_c1_l1 n x2 x1) h ⟨[0], [0], ⟨rfl, rfl, rfl, rfl⟩, by repeat (first | exact trivial | exact .inl rfl | exact rfl | exact List.not_mem_nil | (refine .inr ?_) | (refine ⟨?_, ?_⟩) | exact List.length_set.symm | decide), by repeat (first | exact trivial | exact .inl rfl | exact rfl | exact List.not_mem_nil | (refine .inr ?_) | (refine ⟨?_, ?_⟩) | exact List.length_set.symm | decide)⟩ ?_
  intro nx1 st h
  obtain ⟨x3, x4⟩ := st
  unfold F_rows_Group_c1_l1 at h
  conv => whnf
  refine ⟨fun hc => ?_, fun hc => ?_⟩
  · have h := cond_t h hc
    conv => whnf
    refine SeqA.cut (S := List Val) (fun x5 => [(0, .p (.sl (Val.rows x1))), (4, .tsl 0 (Val.rows x5)), (7, .p (.sl (strs x2))), (8, .p (.int .i64 (((strs x2).length : Nat) : Int))), (9, .p (.int .i64 x4))]) (fun x5 => [.tail 40 6 (Val.rows x5).length]) (F_rows_Group_c1_k3 n nx1 x4) (r := r) ?_ ?_
    · intro x5 h
      unfold F_rows_Group_c1_k3 at h
      conv => whnf
      exact ⟨(x5, (IntKind.i64.wrap (x4 + (1 : Int)))), h, ⟨[0], [], ⟨rfl, rfl, rfl, rfl⟩, by repeat (first | exact trivial | exact .inl rfl | exact rfl | exact List.not_mem_nil | (refine .inr ?_) | (refine ⟨?_, ?_⟩) | exact List.length_set.symm | decide), by repeat (first | exact trivial | exact .inl rfl | exact rfl | exact List.not_mem_nil | (refine .inr ?_) | (refine ⟨?_, ?_⟩) | exact List.length_set.symm | decide)⟩⟩
    · conv => whnf
      replace h := bnd_some h
      obtain ⟨x6, h3, h⟩ := h
      refine ⟨_, Codec.at_ strC h3, ?_⟩
      conv => whnf
      iterate 4 (refine And.intro (fun h => h) ?_)
      conv => whnf
      refine ⟨fun hc => ?_, fun hc => ?_⟩
      · have h := cond_t h hc
        conv => whnf
        replace h := bnd_some h
        obtain ⟨⟨x7, x8, x9, x10, x11, x12⟩, h2, h⟩ := h
        refine ⟨_, Codec.at_ valC h2, ?_⟩
        conv => whnf
        refine ⟨Codec.one valC [Val.mk x7 x8 x9 x10 x11 x12], Val.rows [Val.mk x7 x8 x9 x10 x11 x12], .inl rfl, ?_⟩
        conv => whnf
        rw [show Val.rows x3 ++ Val.rows [Val.mk x7 x8 x9 x10 x11 x12] = Val.rows (x3 ++ [Val.mk x7 x8 x9 x10 x11 x12]) from Codec.append valC x3 [Val.mk x7 x8 x9 x10 x11 x12]]
        conv => whnf
        obtain ⟨h1, h⟩ := chk_some h
        refine ⟨⟨Codec.wide valC (x3 ++ [Val.mk x7 x8 x9 x10 x11 x12]), of_decide_eq_true h1, len_ok h1 (by decide)⟩, ?_⟩
        conv => whnf
        refine ⟨⟨rfl, rfl, rfl⟩, ?_⟩
        conv => whnf
        exact ⟨(x3 ++ [Val.mk x7 x8 x9 x10 x11 x12]), h, ⟨[1], [], ⟨rfl, rfl, rfl, rfl⟩, by repeat (first | exact trivial | exact .inl rfl | exact rfl | exact List.not_mem_nil | (refine .inr ?_) | (refine ⟨?_, ?_⟩) | exact List.length_set.symm | decide), by repeat (first | exact trivial | exact .inl rfl | exact rfl | exact List.not_mem_nil | (refine .inr ?_) | (refine ⟨?_, ?_⟩) | exact List.length_set.symm | decide)⟩⟩
      · have h := cond_f h hc
        conv => whnf
        exact ⟨x3, h, ⟨[0], [], ⟨rfl, rfl, rfl, rfl⟩, by repeat (first | exact trivial | exact .inl rfl | exact rfl | exact List.not_mem_nil | (refine .inr ?_) | (refine ⟨?_, ?_⟩) | exact List.length_set.symm | decide), by repeat (first | exact trivial | exact .inl rfl | exact rfl | exact List.not_mem_nil | (refine .inr ?_) | (refine ⟨?_, ?_⟩) | exact List.length_set.symm | decide)⟩⟩
  · have h := cond_f h hc
    obtain rfl := Option.some.inj h
    conv => whnf
    repeat (first | exact rfl | exact trivial | refine ⟨?_, ?_⟩)

abbrev R_F_num_Add (r : Int × Int) : PV := PV.tup [PV.int .i64 r.1, PV.int .i64 r.2]

def F_num_Add (n : Nat)  (x1 : Int) (x2 : Int) : Option (Int × Int) :=
  bif (bif ((decide (x1 < (0 : Int))) == (decide (x2 < (0 : Int)))) then (!((decide ((IntKind.i64.wrap (x1 + x2)) < (0 : Int))) == (decide (x1 < (0 : Int))))) else false) then (
  some ((0 : Int), (4 : Int)))
  else (
  some ((IntKind.i64.wrap (x1 + x2)), (0 : Int)))

set_option maxRecDepth 100000 in
theorem F_num_Add_ok (n : Nat)   : ∀ (x1 : Int) (x2 : Int) (r : Int × Int), F_num_Add n x1 x2 = some r → CallsF Tryd.prog 24 [PV.int .i64 x1, PV.int .i64 x2] (R_F_num_Add r) := by
  intro x1 x2 r h
  unfold F_num_Add at h
  refine CallsF.of_vcN mixed (fun _ _ => Tryd.call24 _ _) Tryd.func24 (by kernel_rfl) (inl := [1000000]) ?_
  conv => whnf
  iterate 5 (refine And.intro (fun h => h) ?_)
  conv => whnf
  refine ⟨fun hc => ?_, fun hc => ?_⟩
  · have h := cond_t h hc
    obtain rfl := Option.some.inj h
    conv => whnf
    repeat (first | exact rfl | exact trivial | refine ⟨?_, ?_⟩)
  · have h := cond_f h hc
    obtain rfl := Option.some.inj h
    conv => whnf
    repeat (first | exact rfl | exact trivial | refine ⟨?_, ?_⟩)

abbrev R_F_rows_sum (r : Val × Int) : PV := PV.tup [PV.agg (valC.cells r.1), PV.int .i64 r.2]

def F_rows_sum_l1 (n : Nat) (x1 : List Val) : (Int × Int → Option (Val × Int)) → Int × Int → Option (Val × Int) := fun nx1 (x2, x3) =>
 bif (decide (x3 < (((Val.rows x1).length : Nat) : Int))) then (
 bnd (idx x1 x3) fun ⟨x4, x5, x6, x7, x8, x9⟩ =>
 bif (x4 != (2 : Int)) then (
 some (Val.mk (0 : Int) false (0 : Int) ([] : List UInt8) ([] : List Val) ([] : List (List UInt8)), (3 : Int)))
else (
 bnd (F_num_Add n x2 x6) fun ⟨x10, x11⟩ =>
 bif (x11 != (0 : Int)) then (
 some (Val.mk (0 : Int) false (0 : Int) ([] : List UInt8) ([] : List Val) ([] : List (List UInt8)), x11))
else (
 nx1 (x10, (IntKind.i64.wrap (x3 + (1 : Int)))))))
else (
 some (Val.mk (2 : Int) false x2 ([] : List UInt8) ([] : List Val) ([] : List (List UInt8)), (0 : Int)))

def F_rows_sum (n : Nat)  (x1 : List Val) : Option (Val × Int) :=
  loopK (F_rows_sum_l1 n x1) n ((0 : Int), (0 : Int))

set_option maxRecDepth 100000 in
theorem F_rows_sum_ok (n : Nat)   : ∀ (x1 : List Val) (r : Val × Int), F_rows_sum n x1 = some r → CallsF Tryd.prog 66 [PV.sl (Val.rows x1)] (R_F_rows_sum r) := by
  intro x1 r h
  unfold F_rows_sum at h
  refine CallsF.of_vcN mixed (fun _ _ => Tryd.call66 _ _) Tryd.func66 (by kernel_rfl) (inl := [1000000]) ?_
  conv => whnf
  refine LoopA.fn [1000000] (S := Int × Int) (fun (x2, x3) => [(2, .ptr 0 0), (4, .p (.int .i64 x2)), (9, .p (.sl (Val.rows x1))), (10, .p (.int .i64 (((Val.rows x1).length : Nat) : Int))), (11, .p (.int .i64 x3))]) (fun (x2, x3) => [.box 40 [.p (.int .i64 (0 : Int)), .p (.bool false), .p (.int .i64 (0 : Int)), .p (.str ([] : List UInt8)), .p (.nilsl), .p (.nilsl)]]) (B := F_rows_sum_l1 n x1) h ⟨[0], [], ⟨rfl, rfl, rfl, rfl⟩, by repeat (first | exact trivial | exact .inl rfl | exact rfl | exact List.not_mem_nil | (refine .inr ?_) | (refine ⟨?_, ?_⟩) | exact List.length_set.symm | decide), by repeat (first | exact trivial | exact .inl rfl | exact rfl | exact List.not_mem_nil | (refine .inr ?_) | (refine ⟨?_, ?_⟩) | exact List.length_set.symm | decide)⟩ ?_
  intro nx1 st h
  obtain ⟨x2, x3⟩ := st
  unfold F_rows_sum_l1 at h
  conv => whnf
  refine ⟨fun hc => ?_, fun hc => ?_⟩
  · have h := cond_t h hc
    conv => whnf
    replace h := bnd_some h
    obtain ⟨⟨x4, x5, x6, x7, x8, x9⟩, h2, h⟩ := h
    refine ⟨_, Codec.at_ valC h2, ?_⟩
    conv => whnf
    refine ⟨fun hc => ?_, fun hc => ?_⟩
    · have h := cond_t h hc
      obtain rfl := Option.some.inj h
      conv => whnf
      repeat (first | exact rfl | exact trivial | refine ⟨?_, ?_⟩)
    · have h := cond_f h hc
      conv => whnf
      replace h := bnd_some h
      obtain ⟨⟨x10, x11⟩, h1, h⟩ := h
      refine ⟨_, (F_num_Add_ok n _ _  _ h1), ?_⟩
      conv => whnf
      refine ⟨fun hc => ?_, fun hc => ?_⟩
      · have h := cond_t h hc
        obtain rfl := Option.some.inj h
        conv => whnf
        repeat (first | exact rfl | exact trivial | refine ⟨?_, ?_⟩)
      · have h := cond_f h hc
        conv => whnf
        exact ⟨(x10, (IntKind.i64.wrap (x3 + (1 : Int)))), h, ⟨[0], [], ⟨rfl, rfl, rfl, rfl⟩, by repeat (first | exact trivial | exact .inl rfl | exact rfl | exact List.not_mem_nil | (refine .inr ?_) | (refine ⟨?_, ?_⟩) | exact List.length_set.symm | decide), by repeat (first | exact trivial | exact .inl rfl | exact rfl | exact List.not_mem_nil | (refine .inr ?_) | (refine ⟨?_, ?_⟩) | exact List.length_set.symm | decide)⟩⟩
  · have h := cond_f h hc
    obtain rfl := Option.some.inj h
    conv => whnf
    repeat (first | exact rfl | exact trivial | refine ⟨?_, ?_⟩)

abbrev R_F_slices_MinFunc_api_Value_api_Value__value_Order (r : Val) : PV := PV.agg (valC.cells r)

def F_slices_MinFunc_api_Value_api_Value__value_Order_k3 (n : Nat) (nx1 : Int × Int × Bool × Int × List UInt8 × List Val × List (List UInt8) → Option (Val)) (x8 : Int) : Int × Bool × Int × List UInt8 × List Val × List (List UInt8) → Option (Val) := fun (x15, x16, x17, x18, x19, x20) =>
 nx1 ((IntKind.i64.wrap (x8 + (1 : Int))), x15, x16, x17, x18, x19, x20)

def F_slices_MinFunc_api_Value_api_Value__value_Order_l1 (n : Nat) (x1 : List Val) : (Int × Int × Bool × Int × List UInt8 × List Val × List (List UInt8) → Option (Val)) → Int × Int × Bool × Int × List UInt8 × List Val × List (List UInt8) → Option (Val) := fun nx1 (x8, x9, x10, x11, x12, x13, x14) =>
 bif (decide (x8 < (((Val.rows x1).length : Nat) : Int))) then (
 bnd (idx x1 x8) fun ⟨x21, x22, x23, x24, x25, x26⟩ =>
 bnd (F_value_Order n (Val.mk x21 x22 x23 x24 x25 x26) (Val.mk x9 x10 x11 x12 x13 x14)) fun x27 =>
 bif (decide (x27 < (0 : Int))) then (
 bnd (idx x1 x8) fun ⟨x28, x29, x30, x31, x32, x33⟩ =>
 F_slices_MinFunc_api_Value_api_Value__value_Order_k3 n nx1 x8 (x28, x29, x30, x31, x32, x33))
else (
 F_slices_MinFunc_api_Value_api_Value__value_Order_k3 n nx1 x8 (x9, x10, x11, x12, x13, x14)))
else (
 some (Val.mk x9 x10 x11 x12 x13 x14))

def F_slices_MinFunc_api_Value_api_Value__value_Order (n : Nat)  (x1 : List Val) : Option (Val) :=
  bif (decide ((((Val.rows x1).length : Nat) : Int) < (1 : Int))) then (
  none)
  else (
  bnd (idx x1 (0 : Int)) fun ⟨x2, x3, x4, x5, x6, x7⟩ =>
  loopK (F_slices_MinFunc_api_Value_api_Value__value_Order_l1 n x1) n ((1 : Int), x2, x3, x4, x5, x6, x7))

set_option maxRecDepth 100000 in
theorem F_slices_MinFunc_api_Value_api_Value__value_Order_ok (n : Nat)   : ∀ (x1 : List Val) (r : Val), F_slices_MinFunc_api_Value_api_Value__value_Order n x1 = some r → CallsF Tryd.prog 68 [PV.sl (Val.rows x1), PV.fn 21] (R_F_slices_MinFunc_api_Value_api_Value__value_Order r) := by
  intro x1 r h
  unfold F_slices_MinFunc_api_Value_api_Value__value_Order at h
  refine CallsF.of_vcN mixed (fun _ _ => Tryd.call68 _ _) Tryd.func68 (by kernel_rfl) (inl := [1000000]) ?_
  conv => whnf
  refine SeqA.go ?_
  conv => whnf
  refine ⟨fun hc => ?_, fun hc => ?_⟩
  · have h := cond_t h hc
    cases h
  · have h := cond_f h hc
    conv => whnf
    replace h := bnd_some h
    obtain ⟨⟨x2, x3, x4, x5, x6, x7⟩, h4, h⟩ := h
    refine ⟨_, Codec.at_ valC h4, ?_⟩
    conv => whnf
    refine LoopA.fn [1000000] (S := Int × Int × Bool × Int × List UInt8 × List Val × List (List UInt8)) (fun (x8, x9, x10, x11, x12, x13, x14) => [(0, .p (.sl (Val.rows x1))), (1, .p (.fn 21)), (4, .ptr 0 0), (5, .ptr 1 0), (6, .p (.int .i64 x8))]) (fun (x8, x9, x10, x11, x12, x13, x14) => [.box 40 [.p (.int .i64 (0 : Int)), .p (.bool false), .p (.int .i64 (0 : Int)), .p (.str ([] : List UInt8)), .p (.nilsl), .p (.nilsl)], .box 40 [.p (.int .i64 x9), .p (.bool x10), .p (.int .i64 x11), .p (.str x12), .p (.sl (Val.rows x13)), .p (.sl (strs x14))]]) (B := F_slices_MinFunc_api_Value_api_Value__value_Order_l1 n x1) h ⟨[0, 1], [], ⟨rfl, rfl, rfl, rfl⟩, by repeat (first | exact trivial | exact .inl rfl | exact rfl | exact List.not_mem_nil | (refine .inr ?_) | (refine ⟨?_, ?_⟩) | exact List.length_set.symm | decide), by repeat (first | exact trivial | exact .inl rfl | exact rfl | exact List.not_mem_nil | (refine .inr ?_) | (refine ⟨?_, ?_⟩) | exact List.length_set.symm | decide)⟩ ?_
    intro nx1 st h
    obtain ⟨x8, x9, x10, x11, x12, x13, x14⟩ := st
    unfold F_slices_MinFunc_api_Value_api_Value__value_Order_l1 at h
    conv => whnf
    refine ⟨fun hc => ?_, fun hc => ?_⟩
    · have h := cond_t h hc
      conv => whnf
      refine SeqA.cut (S := Int × Bool × Int × List UInt8 × List Val × List (List UInt8)) (fun (x15, x16, x17, x18, x19, x20) => [(0, .p (.sl (Val.rows x1))), (1, .p (.fn 21)), (4, .ptr 0 0), (5, .ptr 1 0), (6, .p (.int .i64 x8))]) (fun (x15, x16, x17, x18, x19, x20) => [.box 40 [.p (.int .i64 (0 : Int)), .p (.bool false), .p (.int .i64 (0 : Int)), .p (.str ([] : List UInt8)), .p (.nilsl), .p (.nilsl)], .box 40 [.p (.int .i64 x15), .p (.bool x16), .p (.int .i64 x17), .p (.str x18), .p (.sl (Val.rows x19)), .p (.sl (strs x20))]]) (F_slices_MinFunc_api_Value_api_Value__value_Order_k3 n nx1 x8) (r := r) ?_ ?_
      · intro st h
        obtain ⟨x15, x16, x17, x18, x19, x20⟩ := st
        unfold F_slices_MinFunc_api_Value_api_Value__value_Order_k3 at h
        conv => whnf
        exact ⟨((IntKind.i64.wrap (x8 + (1 : Int))), x15, x16, x17, x18, x19, x20), h, ⟨[0, 1], [], ⟨rfl, rfl, rfl, rfl⟩, by repeat (first | exact trivial | exact .inl rfl | exact rfl | exact List.not_mem_nil | (refine .inr ?_) | (refine ⟨?_, ?_⟩) | exact List.length_set.symm | decide), by repeat (first | exact trivial | exact .inl rfl | exact rfl | exact List.not_mem_nil | (refine .inr ?_) | (refine ⟨?_, ?_⟩) | exact List.length_set.symm | decide)⟩⟩
      · conv => whnf
        replace h := bnd_some h
        obtain ⟨⟨x21, x22, x23, x24, x25, x26⟩, h3, h⟩ := h
        refine ⟨_, Codec.at_ valC h3, ?_⟩
        conv => whnf
        replace h := bnd_some h
        obtain ⟨x27, h2, h⟩ := h
        refine ⟨_, (F_value_Order_ok n _ _  _ h2), ?_⟩
        conv => whnf
        refine ⟨fun hc => ?_, fun hc => ?_⟩
        · have h := cond_t h hc
          conv => whnf
          replace h := bnd_some h
          obtain ⟨⟨x28, x29, x30, x31, x32, x33⟩, h1, h⟩ := h
          refine ⟨_, Codec.at_ valC h1, ?_⟩
          conv => whnf
          exact ⟨(x28, x29, x30, x31, x32, x33), h, ⟨[0, 1], [], ⟨rfl, rfl, rfl, rfl⟩, by repeat (first | exact trivial | exact .inl rfl | exact rfl | exact List.not_mem_nil | (refine .inr ?_) | (refine ⟨?_, ?_⟩) | exact List.length_set.symm | decide), by repeat (first | exact trivial | exact .inl rfl | exact rfl | exact List.not_mem_nil | (refine .inr ?_) | (refine ⟨?_, ?_⟩) | exact List.length_set.symm | decide)⟩⟩
        · have h := cond_f h hc
          conv => whnf
          exact ⟨(x9, x10, x11, x12, x13, x14), h, ⟨[0, 1], [], ⟨rfl, rfl, rfl, rfl⟩, by repeat (first | exact trivial | exact .inl rfl | exact rfl | exact List.not_mem_nil | (refine .inr ?_) | (refine ⟨?_, ?_⟩) | exact List.length_set.symm | decide), by repeat (first | exact trivial | exact .inl rfl | exact rfl | exact List.not_mem_nil | (refine .inr ?_) | (refine ⟨?_, ?_⟩) | exact List.length_set.symm | decide)⟩⟩
    · have h := cond_f h hc
      obtain rfl := Option.some.inj h
      conv => whnf
      repeat (first | exact rfl | exact trivial | refine ⟨?_, ?_⟩)

abbrev R_F_slices_MaxFunc_api_Value_api_Value__value_Order (r : Val) : PV := PV.agg (valC.cells r)

def F_slices_MaxFunc_api_Value_api_Value__value_Order_k3 (n : Nat) (nx1 : Int × Int × Bool × Int × List UInt8 × List Val × List (List UInt8) → Option (Val)) (x8 : Int) : Int × Bool × Int × List UInt8 × List Val × List (List UInt8) → Option (Val) := fun (x15, x16, x17, x18, x19, x20) =>
 nx1 ((IntKind.i64.wrap (x8 + (1 : Int))), x15, x16, x17, x18, x19, x20)

def F_slices_MaxFunc_api_Value_api_Value__value_Order_l1 (n : Nat) (x1 : List Val) : (Int × Int × Bool × Int × List UInt8 × List Val × List (List UInt8) → Option (Val)) → Int × Int × Bool × Int × List UInt8 × List Val × List (List UInt8) → Option (Val) := fun nx1 (x8, x9, x10, x11, x12, x13, x14) =>
 bif (decide (x8 < (((Val.rows x1).length : Nat) : Int))) then (
 bnd (idx x1 x8) fun ⟨x21, x22, x23, x24, x25, x26⟩ =>
 bnd (F_value_Order n (Val.mk x21 x22 x23 x24 x25 x26) (Val.mk x9 x10 x11 x12 x13 x14)) fun x27 =>
 bif (decide (x27 > (0 : Int))) then (
 bnd (idx x1 x8) fun ⟨x28, x29, x30, x31, x32, x33⟩ =>
 F_slices_MaxFunc_api_Value_api_Value__value_Order_k3 n nx1 x8 (x28, x29, x30, x31, x32, x33))
else (
 F_slices_MaxFunc_api_Value_api_Value__value_Order_k3 n nx1 x8 (x9, x10, x11, x12, x13, x14)))
else (
 some (Val.mk x9 x10 x11 x12 x13 x14))

def F_slices_MaxFunc_api_Value_api_Value__value_Order (n : Nat)  (x1 : List Val) : Option (Val) :=
  bif (decide ((((Val.rows x1).length : Nat) : Int) < (1 : Int))) then (
  none)
  else (
  bnd (idx x1 (0 : Int)) fun ⟨x2, x3, x4, x5, x6, x7⟩ =>
  loopK (F_slices_MaxFunc_api_Value_api_Value__value_Order_l1 n x1) n ((1 : Int), x2, x3, x4, x5, x6, x7))

set_option maxRecDepth 100000 in
theorem F_slices_MaxFunc_api_Value_api_Value__value_Order_ok (n : Nat)   : ∀ (x1 : List Val) (r : Val), F_slices_MaxFunc_api_Value_api_Value__value_Order n x1 = some r → CallsF Tryd.prog 69 [PV.sl (Val.rows x1), PV.fn 21] (R_F_slices_MaxFunc_api_Value_api_Value__value_Order r) := by
  intro x1 r h
  unfold F_slices_MaxFunc_api_Value_api_Value__value_Order at h
  refine CallsF.of_vcN mixed (fun _ _ => Tryd.call69 _ _) Tryd.func69 (by kernel_rfl) (inl := [1000000]) ?_
  conv => whnf
  refine SeqA.go ?_
  conv => whnf
  refine ⟨fun hc => ?_, fun hc => ?_⟩
  · have h := cond_t h hc
    cases h
  · have h := cond_f h hc
    conv => whnf
    replace h := bnd_some h
    obtain ⟨⟨x2, x3, x4, x5, x6, x7⟩, h4, h⟩ := h
    refine ⟨_, Codec.at_ valC h4, ?_⟩
    conv => whnf
    refine LoopA.fn [1000000] (S := Int × Int × Bool × Int × List UInt8 × List Val × List (List UInt8)) (fun (x8, x9, x10, x11, x12, x13, x14) => [(0, .p (.sl (Val.rows x1))), (1, .p (.fn 21)), (4, .ptr 0 0), (5, .ptr 1 0), (6, .p (.int .i64 x8))]) (fun (x8, x9, x10, x11, x12, x13, x14) => [.box 40 [.p (.int .i64 (0 : Int)), .p (.bool false), .p (.int .i64 (0 : Int)), .p (.str ([] : List UInt8)), .p (.nilsl), .p (.nilsl)], .box 40 [.p (.int .i64 x9), .p (.bool x10), .p (.int .i64 x11), .p (.str x12), .p (.sl (Val.rows x13)), .p (.sl (strs x14))]]) (B := F_slices_MaxFunc_api_Value_api_Value__value_Order_l1 n x1) h ⟨[0, 1], [], ⟨rfl, rfl, rfl, rfl⟩, by repeat (first | exact trivial | exact .inl rfl | exact rfl | exact List.not_mem_nil | (refine .inr ?_) | (refine ⟨?_, ?_⟩) | exact List.length_set.symm | decide), by repeat (first | exact trivial | exact .inl rfl | exact rfl | exact List.not_mem_nil | (refine .inr ?_) | (refine ⟨?_, ?_⟩) | exact List.length_set.symm | decide)⟩ ?_
    intro nx1 st h
    obtain ⟨x8, x9, x10, x11, x12, x13, x14⟩ := st
    unfold F_slices_MaxFunc_api_Value_api_Value__value_Order_l1 at h
    conv => whnf
    refine ⟨fun hc => ?_, fun hc => ?_⟩
    · have h := cond_t h hc
      conv => whnf
      refine SeqA.cut (S := Int × Bool × Int × List UInt8 × List Val × List (List UInt8)) (fun (x15, x16, x17, x18, x19, x20) => [(0, .p (.sl (Val.rows x1))), (1, .p (.fn 21)), (4, .ptr 0 0), (5, .ptr 1 0), (6, .p (.int .i64 x8))]) (fun (x15, x16, x17, x18, x19, x20) => [.box 40 [.p (.int .i64 (0 : Int)), .p (.bool false), .p (.int .i64 (0 : Int)), .p (.str ([] : List UInt8)), .p (.nilsl), .p (.nilsl)], .box 40 [.p (.int .i64 x15), .p (.bool x16), .p (.int .i64 x17), .p (.str x18), .p (.sl (Val.rows x19)), .p (.sl (strs x20))]]) (F_slices_MaxFunc_api_Value_api_Value__value_Order_k3 n nx1 x8) (r := r) ?_ ?_
      · intro st h
        obtain ⟨x15, x16, x17, x18, x19, x20⟩ := st
        unfold F_slices_MaxFunc_api_Value_api_Value__value_Order_k3 at h
        conv => whnf
        exact ⟨((IntKind.i64.wrap (x8 + (1 : Int))), x15, x16, x17, x18, x19, x20), h, ⟨[0, 1], [], ⟨rfl, rfl, rfl, rfl⟩, by repeat (first | exact trivial | exact .inl rfl | exact rfl | exact List.not_mem_nil | (refine .inr ?_) | (refine ⟨?_, ?_⟩) | exact List.length_set.symm | decide), by repeat (first | exact trivial | exact .inl rfl | exact rfl | exact List.not_mem_nil | (refine .inr ?_) | (refine ⟨?_, ?_⟩) | exact List.length_set.symm | decide)⟩⟩
      · conv => whnf
        replace h := bnd_some h
        obtain ⟨⟨x21, x22, x23, x24, x25, x26⟩, h3, h⟩ := h
        refine ⟨_, Codec.at_ valC h3, ?_⟩
        conv => whnf
        replace h := bnd_some h
        obtain ⟨x27, h2, h⟩ := h
        refine ⟨_, (F_value_Order_ok n _ _  _ h2), ?_⟩
        conv => whnf
        refine ⟨fun hc => ?_, fun hc => ?_⟩
        · have h := cond_t h hc
          conv => whnf
          replace h := bnd_some h
          obtain ⟨⟨x28, x29, x30, x31, x32, x33⟩, h1, h⟩ := h
          refine ⟨_, Codec.at_ valC h1, ?_⟩
          conv => whnf
          exact ⟨(x28, x29, x30, x31, x32, x33), h, ⟨[0, 1], [], ⟨rfl, rfl, rfl, rfl⟩, by repeat (first | exact trivial | exact .inl rfl | exact rfl | exact List.not_mem_nil | (refine .inr ?_) | (refine ⟨?_, ?_⟩) | exact List.length_set.symm | decide), by repeat (first | exact trivial | exact .inl rfl | exact rfl | exact List.not_mem_nil | (refine .inr ?_) | (refine ⟨?_, ?_⟩) | exact List.length_set.symm | decide)⟩⟩
        · have h := cond_f h hc
          conv => whnf
          exact ⟨(x9, x10, x11, x12, x13, x14), h, ⟨[0, 1], [], ⟨rfl, rfl, rfl, rfl⟩, by repeat (first | exact trivial | exact .inl rfl | exact rfl | exact List.not_mem_nil | (refine .inr ?_) | (refine ⟨?_, ?_⟩) | exact List.length_set.symm | decide), by repeat (first | exact trivial | exact .inl rfl | exact rfl | exact List.not_mem_nil | (refine .inr ?_) | (refine ⟨?_, ?_⟩) | exact List.length_set.symm | decide)⟩⟩
    · have h := cond_f h hc
      obtain rfl := Option.some.inj h
      conv => whnf
      repeat (first | exact rfl | exact trivial | refine ⟨?_, ?_⟩)

abbrev R_F_rows_gather (r : Val × Int) : PV := PV.tup [PV.agg (valC.cells r.1), PV.int .i64 r.2]

def F_rows_gather (n : Nat)  (x1 : List UInt8) (x2 : List Val) : Option (Val × Int) :=
  bif (x1 == ([99, 111, 117, 110, 116] : List UInt8)) then (
  some (Val.mk (2 : Int) false (((Val.rows x2).length : Nat) : Int) ([] : List UInt8) ([] : List Val) ([] : List (List UInt8)), (0 : Int)))
  else (
  bif (x1 == ([115, 117, 109] : List UInt8)) then (
  bnd (F_rows_sum n x2) fun ⟨⟨x3, x4, x5, x6, x7, x8⟩, x9⟩ =>
  some (Val.mk x3 x4 x5 x6 x7 x8, x9))
  else (
  bif (x1 == ([99, 111, 108, 108, 101, 99, 116] : List UInt8)) then (
  bnd (F_rows_copied n x2) fun x10 =>
  bnd (F_value_Check n (Val.mk (4 : Int) false (0 : Int) ([] : List UInt8) x10 ([] : List (List UInt8)))) fun x11 =>
  bif (x11 != (0 : Int)) then (
  some (Val.mk (0 : Int) false (0 : Int) ([] : List UInt8) ([] : List Val) ([] : List (List UInt8)), (8 : Int)))
  else (
  some (Val.mk (4 : Int) false (0 : Int) ([] : List UInt8) x10 ([] : List (List UInt8)), (0 : Int))))
  else (
  bif ((((Val.rows x2).length : Nat) : Int) == (0 : Int)) then (
  some (Val.mk (0 : Int) false (0 : Int) ([] : List UInt8) ([] : List Val) ([] : List (List UInt8)), (0 : Int)))
  else (
  bif (x1 == ([109, 105, 110] : List UInt8)) then (
  bnd (F_slices_MinFunc_api_Value_api_Value__value_Order n x2) fun ⟨x12, x13, x14, x15, x16, x17⟩ =>
  some (Val.mk x12 x13 x14 x15 x16 x17, (0 : Int)))
  else (
  bnd (F_slices_MaxFunc_api_Value_api_Value__value_Order n x2) fun ⟨x18, x19, x20, x21, x22, x23⟩ =>
  some (Val.mk x18 x19 x20 x21 x22 x23, (0 : Int)))))))

set_option maxHeartbeats 4000000 in
set_option maxRecDepth 100000 in
theorem F_rows_gather_ok (n : Nat)   : ∀ (x1 : List UInt8) (x2 : List Val) (r : Val × Int), F_rows_gather n x1 x2 = some r → CallsF Tryd.prog 55 [PV.str x1, PV.sl (Val.rows x2)] (R_F_rows_gather r) := by
  intro x1 x2 r h
  unfold F_rows_gather at h
  refine CallsF.of_vcN mixed (fun _ _ => Tryd.call55 _ _) Tryd.func55 (by kernel_rfl) (inl := [1000000]) ?_
  conv => whnf
  refine ⟨fun hc => ?_, fun hc => ?_⟩
  · have h := cond_t h hc
    obtain rfl := Option.some.inj h
    conv => whnf
    repeat (first | exact rfl | exact trivial | refine ⟨?_, ?_⟩)
  · have h := cond_f h hc
    conv => whnf
    refine ⟨fun hc => ?_, fun hc => ?_⟩
    · have h := cond_t h hc
      conv => whnf
      replace h := bnd_some h
      obtain ⟨⟨⟨x3, x4, x5, x6, x7, x8⟩, x9⟩, h1, h⟩ := h
      refine ⟨_, (F_rows_sum_ok n _  _ h1), ?_⟩
      obtain rfl := Option.some.inj h
      conv => whnf
      repeat (first | exact rfl | exact trivial | refine ⟨?_, ?_⟩)
    · have h := cond_f h hc
      conv => whnf
      refine ⟨fun hc => ?_, fun hc => ?_⟩
      · have h := cond_t h hc
        conv => whnf
        replace h := bnd_some h
        obtain ⟨x10, h3, h⟩ := h
        refine ⟨_, (F_rows_copied_ok n _  _ h3), ?_⟩
        conv => whnf
        replace h := bnd_some h
        obtain ⟨x11, h2, h⟩ := h
        refine ⟨_, (CallsF.leArgs (F_value_Check_ok n _  _ h2) (by repeat (first | exact rfl | exact trivial | refine ⟨?_, ?_⟩))), ?_⟩
        conv => whnf
        refine ⟨fun hc => ?_, fun hc => ?_⟩
        · have h := cond_t h hc
          obtain rfl := Option.some.inj h
          conv => whnf
          repeat (first | exact rfl | exact trivial | refine ⟨?_, ?_⟩)
        · have h := cond_f h hc
          obtain rfl := Option.some.inj h
          conv => whnf
          repeat (first | exact rfl | exact trivial | refine ⟨?_, ?_⟩)
      · have h := cond_f h hc
        conv => whnf
        refine ⟨fun hc => ?_, fun hc => ?_⟩
        · have h := cond_t h hc
          obtain rfl := Option.some.inj h
          conv => whnf
          repeat (first | exact rfl | exact trivial | refine ⟨?_, ?_⟩)
        · have h := cond_f h hc
          conv => whnf
          refine ⟨fun hc => ?_, fun hc => ?_⟩
          · have h := cond_t h hc
            conv => whnf
            replace h := bnd_some h
            obtain ⟨⟨x12, x13, x14, x15, x16, x17⟩, h4, h⟩ := h
            refine ⟨_, (F_slices_MinFunc_api_Value_api_Value__value_Order_ok n _  _ h4), ?_⟩
            obtain rfl := Option.some.inj h
            conv => whnf
            repeat (first | exact rfl | exact trivial | refine ⟨?_, ?_⟩)
          · have h := cond_f h hc
            conv => whnf
            replace h := bnd_some h
            obtain ⟨⟨x18, x19, x20, x21, x22, x23⟩, h5, h⟩ := h
            refine ⟨_, (F_slices_MaxFunc_api_Value_api_Value__value_Order_ok n _  _ h5), ?_⟩
            obtain rfl := Option.some.inj h
            conv => whnf
            repeat (first | exact rfl | exact trivial | refine ⟨?_, ?_⟩)
end W
end
