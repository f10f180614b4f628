/- A part of the proof. -/
import Derived.ChangeMaps5
import Derived.Deep.DeepHandedRow
import Derived.SevenTiedAt
import Derived.Test.YtajcpfcghhbbnaaDoorCards
import Derived.Test.YtajcpfcghhbbnaaDoorRows
import Derived.Test.YtajcpfcghhbbnaaDoorTie
import Derived.WideShapes
import Derived.Test.YtajcpfcghhbbnaaDoorD
set_option linter.all false
section
open Go Go.Proofs Ax
namespace W
abbrev R_F_rows_Group (r : List (List Val) × Int) : PV := PV.tup [PV.sl (slRows valC r.1), PV.int .i64 r.2]

def F_rows_Group_k9 (n : Nat) (nx2 : Int × List Val → Option (List (List Val) × Int)) (x9 : Int) : List Val → Option (List (List Val) × Int) := fun x11 =>
 nx2 ((IntKind.i64.wrap (x9 + (1 : Int))), x11)

def F_rows_Group_l2 (n : Nat) (x2 : List (List UInt8)) (x6 : List Val) (x8 : List UInt8) (nx1 : Int × List Val → Option (List (List Val) × Int)) (x4 : Int) : (Int × List Val → Option (List (List Val) × Int)) → Int × List Val → Option (List (List Val) × Int) := fun nx2 (x9, x10) =>
 bif (decide (x9 < (((strs x2).length : Nat) : Int))) then (
 bnd (idx x2 x9) fun x12 =>
 bnd (gsome (bif (!(x12 == ([] : List UInt8))) then (decide (x9 < (((Val.rows x6).length : Nat) : Int))) else false) (idx x6 x9)) fun ⟨x13, x14, x15, x16, x17, x18⟩ =>
 bif (bif (bif (!(x12 == ([] : List UInt8))) then (decide (x9 < (((Val.rows x6).length : Nat) : Int))) else false) then (x13 != (0 : Int)) else false) then (
 chk (decide ((mgetD (mset ([] : List UInt8) (0 : Int) ([] : List ((List UInt8) × Int))) x8 (0 : Int)) = 0)) (
 chk (decide ((mgetD (mset ([] : List UInt8) (0 : Int) ([] : List ((List UInt8) × Int))) x8 (0 : Int)) = 0)) (
 chk (decide (x9 = 0)) (
 bnd (idx x6 x9) fun ⟨x19, x20, x21, x22, x23, x24⟩ =>
 chk (decide ((Val.rows (x10 ++ [Val.mk x19 x20 x21 x22 x23 x24])).length * 88 ≤ 140737488355328)) (
 chk (decide (x9 = 0)) (
 F_rows_Group_k9 n nx2 x9 (x10 ++ [Val.mk x19 x20 x21 x22 x23 x24])))))))
else (
 F_rows_Group_k9 n nx2 x9 x10))
else (
 nx1 ((IntKind.i64.wrap (x4 + (1 : Int))), x10))

def F_rows_Group_l4 (n : Nat) (x2 : List (List UInt8)) (x5 : List Val) (x32 : List (List Val)) (nx3 : List (List Val) × Int → Option (List (List Val) × Int)) (x33 : Int) : (List Val × Int → Option (List (List Val) × Int)) → List Val × Int → Option (List (List Val) × Int) := fun nx4 (x34, x35) =>
 bif (decide (x35 < (((strs x2).length : Nat) : Int))) then (
 bnd (idx x2 x35) fun x36 =>
 bif (x36 == ([] : List UInt8)) then (
 none)
else (
 chk (decide (x35 = 0)) (
 bnd (F_rows_gather n x36 x5) fun ⟨⟨x37, x38, x39, x40, x41, x42⟩, x43⟩ =>
 bif (x43 != (0 : Int)) then (
 some (([] : List (List Val)), x43))
else (
 bnd (F_value_Copy n (Val.mk x37 x38 x39 x40 x41 x42)) fun ⟨x44, x45, x46, x47, x48, x49⟩ =>
 chk (decide ((Val.rows (x34 ++ [Val.mk x44 x45 x46 x47 x48 x49])).length * 88 ≤ 140737488355328)) (
 nx4 ((x34 ++ [Val.mk x44 x45 x46 x47 x48 x49]), (IntKind.i64.wrap (x35 + (1 : Int)))))))))
else (
 chk (decide ((slRows valC (x32 ++ [x34])).length * 24 ≤ 140737488355328)) (
 nx3 ((x32 ++ [x34]), (IntKind.i64.wrap (x33 + (1 : Int))))))

def F_rows_Group_l3 (n : Nat) (x2 : List (List UInt8)) (x5 : List Val) : (List (List Val) × Int → Option (List (List Val) × Int)) → List (List Val) × Int → Option (List (List Val) × Int) := fun nx3 (x32, x33) =>
 bif (decide (x33 < ((1 : Nat) : Int))) then (
 chk (decide (x33 = 0)) (
 loopK (F_rows_Group_l4 n x2 x5 x32 nx3 x33) n (([] : List _), (0 : Int))))
else (
 some (x32, (0 : Int)))

def F_rows_Group_l1 (n : Nat) (x1 : List (List Val)) (x2 : List (List UInt8)) : (Int × List Val → Option (List (List Val) × Int)) → Int × List Val → Option (List (List Val) × Int) := fun nx1 (x4, x5) =>
 bif (decide (x4 < (((slRows valC x1).length : Nat) : Int))) then (
 bnd (idx x1 x4) fun x6 =>
 bnd (F_rows_Group_c1 n x6 x2) fun x7 =>
 bnd (F_rows_key n x7) fun x8 =>
 bif (!(mhas (mset ([] : List UInt8) (0 : Int) ([] : List ((List UInt8) × Int))) x8)) then (
 none)
else (
 loopK (F_rows_Group_l2 n x2 x6 x8 nx1 x4) n ((0 : Int), x5)))
else (
 loopK (F_rows_Group_l3 n x2 x5) n (([] : List _), (0 : Int)))

def F_rows_Group (n : Nat)  (x1 : List (List Val)) (x2 : List (List UInt8)) : Option (List (List Val) × Int) :=
  bnd (F_slices_Contains_string_string n x2 ([] : List UInt8)) fun x3 =>
  bif (!x3) then (
  bif (!(mhas ([] : List ((List UInt8) × Int)) ([] : List UInt8))) then (
  chk (decide ((((strs x2).length : Nat) : Int) = 1)) (
  loopK (F_rows_Group_l1 n x1 x2) n ((0 : Int), ([] : List _))))
  else (
  none))
  else (
  none)

set_option maxHeartbeats 4000000 in
set_option maxRecDepth 100000 in
theorem F_rows_Group_ok (n : Nat)   : ∀ (x1 : List (List Val)) (x2 : List (List UInt8)) (r : List (List Val) × Int), F_rows_Group n x1 x2 = some r → CallsF Tryd.prog 23 [PV.sl (slRows valC x1), PV.sl (strs x2)] (R_F_rows_Group r) := by
  intro x1 x2 r h
  unfold F_rows_Group at h
  refine CallsF.of_vcN mixed (fun _ _ => Tryd.call23 _ _) Tryd.func23 (by kernel_rfl) (inl := [48, 49, 52, 53, 10000003, 20000030, 20000045, 40000017, 90000014, 1000000]) ?_
  conv => whnf
  refine CallsI.of_vc mixed (fun _ _ => Tryd.call48 _ _) Tryd.func48 (by kernel_rfl) (inl := [1000000]) ?_
  conv => whnf
  refine SeqA.go ?_
  conv => whnf
  replace h := bnd_some h
  obtain ⟨x3, h22, h⟩ := h
  refine ⟨_, (F_slices_Contains_string_string_ok n _ _  _ h22), ?_⟩
  conv => whnf
  refine ⟨fun hc => ?_, fun hc => ?_⟩
  · have h := cond_t h hc
    conv => whnf
    refine CallsI.of_vc mixed (fun _ _ => Tryd.call49 _ _) Tryd.func49 (by kernel_rfl) (inl := [10000002, 1000000]) ?_
    conv => whnf
    refine CallsI.of_vc mixed (fun _ _ => Tryd.call52 _ _) Tryd.func52 (by kernel_rfl) (inl := [50, 10000039, 20000037, 40000005, 80000039, 85000037, 1000000]) ?_
    conv => whnf
    refine ⟨PV.int .i64 (mgetD ([] : List ((List UInt8) × Int)) ([] : List UInt8) (0 : Int)), (mhas ([] : List ((List UInt8) × Int)) ([] : List UInt8)), ⟨look_D keyStr (PV.int .i64) ([] : List ((List UInt8) × Int)) ([] : List UInt8) (0 : Int), look_b keyStr (PV.int .i64) ([] : List ((List UInt8) × Int)) ([] : List UInt8)⟩, ?_⟩
    conv => whnf
    refine SeqA.go ?_
    conv => whnf
    refine ⟨fun hc => ?_, fun hc => ?_⟩
    · have h := cond_t h hc
      conv => whnf
      refine ⟨_, set_rows keyStr (PV.int .i64) ([] : List UInt8) (0 : Int) ([] : List ((List UInt8) × Int)), ?_⟩
      conv => whnf
      obtain ⟨h1, h⟩ := chk_some h
      refine ⟨.ptr 3 0, [.box 37 [.p (.nilsl)], .box 74 [.p (.nilsl), .bsl 2 0 1 1]], ?_, ?_⟩
      · conv => whnf
        refine CallsI.of_vc mixed (fun _ _ => Tryd.call50 _ _) Tryd.func50 (by kernel_rfl) (inl := [10000006, 30000006, 40000001, 1000000]) ?_
        conv => whnf
        refine ⟨⟨of_decide_eq_true h1, of_decide_eq_true h1, by decide, rfl, by decide⟩, ?_⟩
        exact ⟨rfl, rfl⟩
      conv => whnf
      refine LoopA.fn [48, 49, 52, 53, 10000003, 20000030, 20000045, 40000017, 90000014, 1000000] (S := Int × List Val) (fun (x4, x5) => [(3, .hptr [PV.sl (strs x2)]), (6, .clo 47 (.cap (.hptr [PV.sl (strs x2)]) (.cap0))), (7, .ptr 0 0), (8, .clo 49 (.cap (.hptr [PV.sl (strs x2)]) (.cap0))), (33, .p (.sl (slRows valC x1))), (34, .p (.int .i64 (((slRows valC x1).length : Nat) : Int))), (35, .p (.int .i64 x4))]) (fun (x4, x5) => [.box 81 [.mref 1, .bsl 2 0 1 0], .mp .string (mRows PV.str (PV.int .i64) (mset ([] : List UInt8) (0 : Int) ([] : List ((List UInt8) × Int)))) none, .pbx 71 (.ptr 3 0), .box 74 [.p (.nilsl), .bsl 4 0 1 1], .box 37 [.vsl 5 ((Val.rows x5).length)], .vec 40 6 (Val.rows x5)]) (B := F_rows_Group_l1 n x1 x2) h ⟨[1, 0, 5, 3, 2, 0], [5], ⟨rfl, rfl, rfl, rfl⟩, by repeat (first | exact trivial | (focus (simp only [intRows, boolRows, valRows_len, Codec.length, List.length_map, List.length_set, List.length_append]; done)) | exact .inl rfl | exact rfl | exact List.not_mem_nil | (refine .inr ?_) | (refine ⟨?_, ?_⟩) | exact List.length_set.symm | decide), by repeat (first | exact trivial | (focus (simp only [intRows, boolRows, valRows_len, Codec.length, List.length_map, List.length_set, List.length_append]; done)) | exact .inl rfl | exact rfl | exact List.not_mem_nil | (refine .inr ?_) | (refine ⟨?_, ?_⟩) | exact List.length_set.symm | decide)⟩ ?_
      intro nx1 st h
      obtain ⟨x4, x5⟩ := st
      unfold F_rows_Group_l1 at h
      conv => whnf
      refine ⟨fun hc => ?_, fun hc => ?_⟩
      · have h := cond_t h hc
        conv => whnf
        replace h := bnd_some h
        obtain ⟨x6, h14, h⟩ := h
        refine ⟨_, Codec.at_ (slC valC) h14, ?_⟩
        conv => whnf
        replace h := bnd_some h
        obtain ⟨x7, h13, h⟩ := h
        refine ⟨_, (F_rows_Group_c1_ok n _ _  _ h13), ?_⟩
        conv => whnf
        replace h := bnd_some h
        obtain ⟨x8, h12, h⟩ := h
        refine ⟨_, (F_rows_key_ok n _  _ h12), ?_⟩
        conv => whnf
        refine CallsI.of_vc mixed (fun _ _ => Tryd.call49 _ _) Tryd.func49 (by kernel_rfl) (inl := [10000002, 1000000]) ?_
        conv => whnf
        refine CallsI.of_vc mixed (fun _ _ => Tryd.call52 _ _) Tryd.func52 (by kernel_rfl) (inl := [50, 10000039, 20000037, 40000005, 80000039, 85000037, 1000000]) ?_
        conv => whnf
        refine ⟨PV.int .i64 (mgetD (mset ([] : List UInt8) (0 : Int) ([] : List ((List UInt8) × Int))) x8 (0 : Int)), (mhas (mset ([] : List UInt8) (0 : Int) ([] : List ((List UInt8) × Int))) x8), ⟨look_D keyStr (PV.int .i64) (mset ([] : List UInt8) (0 : Int) ([] : List ((List UInt8) × Int))) x8 (0 : Int), look_b keyStr (PV.int .i64) (mset ([] : List UInt8) (0 : Int) ([] : List ((List UInt8) × Int))) x8⟩, ?_⟩
        conv => whnf
        refine SeqA.go ?_
        conv => whnf
        refine ⟨fun hc => ?_, fun hc => ?_⟩
        · have h := cond_t h hc
          cases h
        · have h := cond_f h hc
          conv => whnf
          refine LoopA.fn [48, 49, 52, 53, 10000003, 20000030, 20000045, 40000017, 90000014, 1000000] (S := Int × List Val) (fun (x9, x10) => [(3, .hptr [PV.sl (strs x2)]), (6, .clo 47 (.cap (.hptr [PV.sl (strs x2)]) (.cap0))), (7, .ptr 0 0), (8, .clo 49 (.cap (.hptr [PV.sl (strs x2)]) (.cap0))), (10, .p (.sl (Val.rows x6))), (11, .p (.int .i64 (mgetD (mset ([] : List UInt8) (0 : Int) ([] : List ((List UInt8) × Int))) x8 (0 : Int)))), (33, .p (.sl (slRows valC x1))), (34, .p (.int .i64 (((slRows valC x1).length : Nat) : Int))), (35, .p (.int .i64 x4)), (51, .p (.sl (strs x2))), (52, .p (.int .i64 (((strs x2).length : Nat) : Int))), (53, .p (.int .i64 x9))]) (fun (x9, x10) => [.box 81 [.mref 1, .bsl 2 0 1 0], .mp .string (mRows PV.str (PV.int .i64) (mset ([] : List UInt8) (0 : Int) ([] : List ((List UInt8) × Int)))) none, .pbx 71 (.ptr 3 0), .box 74 [.p (.nilsl), .bsl 4 0 1 1], .box 37 [.vsl 5 ((Val.rows x10).length)], .vec 40 6 (Val.rows x10)]) (B := F_rows_Group_l2 n x2 x6 x8 nx1 x4) h ⟨[0, 1, 2, 3, 4, 5], [], ⟨rfl, rfl, rfl, rfl⟩, by repeat (first | exact trivial | (focus (simp only [intRows, boolRows, valRows_len, Codec.length, List.length_map, List.length_set, List.length_append]; done)) | exact .inl rfl | exact rfl | exact List.not_mem_nil | (refine .inr ?_) | (refine ⟨?_, ?_⟩) | exact List.length_set.symm | decide), by repeat (first | exact trivial | (focus (simp only [intRows, boolRows, valRows_len, Codec.length, List.length_map, List.length_set, List.length_append]; done)) | exact .inl rfl | exact rfl | exact List.not_mem_nil | (refine .inr ?_) | (refine ⟨?_, ?_⟩) | exact List.length_set.symm | decide)⟩ ?_
          intro nx2 st h
          obtain ⟨x9, x10⟩ := st
          unfold F_rows_Group_l2 at h
          conv => whnf
          refine ⟨fun hc => ?_, fun hc => ?_⟩
          · have h := cond_t h hc
            conv => whnf
            refine SeqA.cut (S := List Val) (fun x11 => [(3, .hptr [PV.sl (strs x2)]), (6, .clo 47 (.cap (.hptr [PV.sl (strs x2)]) (.cap0))), (7, .ptr 0 0), (8, .clo 49 (.cap (.hptr [PV.sl (strs x2)]) (.cap0))), (10, .p (.sl (Val.rows x6))), (11, .p (.int .i64 (mgetD (mset ([] : List UInt8) (0 : Int) ([] : List ((List UInt8) × Int))) x8 (0 : Int)))), (33, .p (.sl (slRows valC x1))), (34, .p (.int .i64 (((slRows valC x1).length : Nat) : Int))), (35, .p (.int .i64 x4)), (51, .p (.sl (strs x2))), (52, .p (.int .i64 (((strs x2).length : Nat) : Int))), (53, .p (.int .i64 x9))]) (fun x11 => [.box 81 [.mref 1, .bsl 2 0 1 0], .mp .string (mRows PV.str (PV.int .i64) (mset ([] : List UInt8) (0 : Int) ([] : List ((List UInt8) × Int)))) none, .pbx 71 (.ptr 3 0), .box 74 [.p (.nilsl), .bsl 4 0 1 1], .box 37 [.vsl 5 ((Val.rows x11).length)], .vec 40 6 (Val.rows x11)]) (F_rows_Group_k9 n nx2 x9) (r := r) ?_ ?_
            · intro x11 h
              unfold F_rows_Group_k9 at h
              conv => whnf
              exact ⟨((IntKind.i64.wrap (x9 + (1 : Int))), x11), h, ⟨[0, 1, 2, 3, 4, 5], [], ⟨rfl, rfl, rfl, rfl⟩, by repeat (first | exact trivial | (focus (simp only [intRows, boolRows, valRows_len, Codec.length, List.length_map, List.length_set, List.length_append]; done)) | exact .inl rfl | exact rfl | exact List.not_mem_nil | (refine .inr ?_) | (refine ⟨?_, ?_⟩) | exact List.length_set.symm | decide), by repeat (first | exact trivial | (focus (simp only [intRows, boolRows, valRows_len, Codec.length, List.length_map, List.length_set, List.length_append]; done)) | exact .inl rfl | exact rfl | exact List.not_mem_nil | (refine .inr ?_) | (refine ⟨?_, ?_⟩) | exact List.length_set.symm | decide)⟩⟩
            · conv => whnf
              replace h := bnd_some h
              obtain ⟨x12, h11, h⟩ := h
              refine ⟨_, Codec.at_ strC h11, ?_⟩
              conv => whnf
              iterate 6 (refine And.intro (fun h => h) ?_)
              conv => whnf
              replace h := bnd_some h
              obtain ⟨⟨x13, x14, x15, x16, x17, x18⟩, h10, h⟩ := h
              refine ⟨_, fun hg => Codec.at_ valC (gsome_some h10 hg), ?_⟩
              conv => whnf
              iterate 4 (refine And.intro (fun h => h) ?_)
              conv => whnf
              refine ⟨fun hc => ?_, fun hc => ?_⟩
              · have h := cond_t h hc
                conv => whnf
                refine ⟨?_, ?_⟩
                · conv => whnf
                  refine ⟨fun hf => absurd hf (by first | decide | simp), fun _ => ?_⟩
                  conv => whnf
                  obtain ⟨h7, h⟩ := chk_some h
                  refine ⟨⟨of_decide_eq_true h7, Nat.zero_lt_one⟩, ?_⟩
                  conv => whnf
                  obtain ⟨h6, h⟩ := chk_some h
                  refine ⟨⟨of_decide_eq_true h6, Nat.zero_lt_one⟩, ?_⟩
                  conv => whnf
                  obtain ⟨h5, h⟩ := chk_some h
                  refine ⟨⟨of_decide_eq_true h5, Nat.zero_lt_one⟩, ?_⟩
                  conv => whnf
                  replace h := bnd_some h
                  obtain ⟨⟨x19, x20, x21, x22, x23, x24⟩, h4, h⟩ := h
                  refine ⟨_, Codec.at_ valC h4, ?_⟩
                  conv => whnf
                  refine ⟨Codec.one valC [Val.mk x19 x20 x21 x22 x23 x24], Val.rows [Val.mk x19 x20 x21 x22 x23 x24], .inl rfl, ?_⟩
                  conv => whnf
                  obtain ⟨h3, h⟩ := chk_some h
                  refine ⟨_, ⟨Codec.append valC x10 [Val.mk x19 x20 x21 x22 x23 x24], rfl, rfl, Codec.wide valC [Val.mk x19 x20 x21 x22 x23 x24], of_decide_eq_true h3, len_ok h3 (by decide)⟩, ?_⟩
                  conv => whnf
                  obtain ⟨h2, h⟩ := chk_some h
                  refine ⟨⟨of_decide_eq_true h2, Nat.zero_lt_one⟩, ?_⟩
                  conv => whnf
                  exact ⟨(x10 ++ [Val.mk x19 x20 x21 x22 x23 x24]), h, ⟨[0, 1, 2, 3, 4, 7], [], ⟨rfl, rfl, rfl, rfl⟩, by repeat (first | exact trivial | (focus (simp only [intRows, boolRows, valRows_len, Codec.length, List.length_map, List.length_set, List.length_append]; done)) | exact .inl rfl | exact rfl | exact List.not_mem_nil | (refine .inr ?_) | (refine ⟨?_, ?_⟩) | exact List.length_set.symm | decide), by repeat (first | exact trivial | (focus (simp only [intRows, boolRows, valRows_len, Codec.length, List.length_map, List.length_set, List.length_append]; done)) | exact .inl rfl | exact rfl | exact List.not_mem_nil | (refine .inr ?_) | (refine ⟨?_, ?_⟩) | exact List.length_set.symm | decide)⟩⟩
                · have h : (chk (decide ((mgetD (mset ([] : List UInt8) (0 : Int) ([] : List ((List UInt8) × Int))) x8 (0 : Int)) = 0)) (
 chk (decide (x9 = 0)) (
 bnd (idx x6 x9) fun ⟨x19, x20, x21, x22, x23, x24⟩ =>
 chk (decide ((Val.rows (x10 ++ [Val.mk (0 : Int) false (0 : Int) ([] : List UInt8) ([] : List Val) ([] : List (List UInt8))])).length * 88 ≤ 140737488355328)) (
 chk (decide (x9 = 0)) (
 bnd (natI ((((Val.rows x10).length) : Nat) : Int)) fun x25 =>
 chk (decide (x25 < (Val.rows (x10 ++ [Val.mk (0 : Int) false (0 : Int) ([] : List UInt8) ([] : List Val) ([] : List (List UInt8))])).length)) (
 bnd ((x10 ++ [Val.mk (0 : Int) false (0 : Int) ([] : List UInt8) ([] : List Val) ([] : List (List UInt8))])[x25]?) fun ⟨x26, x27, x28, x29, x30, x31⟩ =>
 F_rows_Group_k9 n nx2 x9 ((x10 ++ [Val.mk (0 : Int) false (0 : Int) ([] : List UInt8) ([] : List Val) ([] : List (List UInt8))]).set x25 (Val.mk x19 x20 x21 x22 x23 x24)))))))) = some r := by refine Eq.trans ?_ h; simp [List.getElem?_append_right, List.set_append]
                  conv => whnf
                  refine ⟨fun _ => ?_, fun hf => absurd hf (by first | decide | simp)⟩
                  conv => whnf
                  obtain ⟨h9, h⟩ := chk_some h
                  refine ⟨⟨of_decide_eq_true h9, Nat.zero_lt_one⟩, ?_⟩
                  conv => whnf
                  obtain ⟨h8, h⟩ := chk_some h
                  refine ⟨⟨of_decide_eq_true h8, Nat.zero_lt_one⟩, ?_⟩
                  conv => whnf
                  replace h := bnd_some h
                  obtain ⟨⟨x19, x20, x21, x22, x23, x24⟩, h7, h⟩ := h
                  refine ⟨_, Codec.at_ valC h7, ?_⟩
                  conv => whnf
                  refine ⟨by repeat (first | exact List.forall_mem_nil _ | refine List.forall_mem_cons.2 ⟨⟨rfl, rfl⟩, ?_⟩), Val.rows [Val.mk (0 : Int) false (0 : Int) ([] : List UInt8) ([] : List Val) ([] : List (List UInt8))], .inr (by repeat (first | exact rfl | exact trivial | refine ⟨?_, ?_⟩)), ?_⟩
                  conv => whnf
                  obtain ⟨h6, h⟩ := chk_some h
                  refine ⟨_, ⟨Codec.append valC x10 [Val.mk (0 : Int) false (0 : Int) ([] : List UInt8) ([] : List Val) ([] : List (List UInt8))], rfl, rfl, Codec.wide valC [Val.mk (0 : Int) false (0 : Int) ([] : List UInt8) ([] : List Val) ([] : List (List UInt8))], of_decide_eq_true h6, len_ok h6 (by decide)⟩, ?_⟩
                  conv => whnf
                  obtain ⟨h5, h⟩ := chk_some h
                  refine ⟨⟨of_decide_eq_true h5, Nat.zero_lt_one⟩, ?_⟩
                  conv => whnf
                  replace h := bnd_some h
                  obtain ⟨x25, h4, h⟩ := h
                  have hj := natI_some h4
                  conv => whnf
                  obtain ⟨h3, h⟩ := chk_some h
                  refine ⟨x25, ⟨hj, of_decide_eq_true h3⟩, ?_⟩
                  conv => whnf
                  replace h := bnd_some h
                  obtain ⟨⟨x26, x27, x28, x29, x30, x31⟩, h2, h⟩ := h
                  refine ⟨_, ⟨rfl, Codec.getN valC h2, rfl⟩, ?_⟩
                  conv => whnf
                  refine ⟨_, Codec.setN valC (x10 ++ [Val.mk (0 : Int) false (0 : Int) ([] : List UInt8) ([] : List Val) ([] : List (List UInt8))]) x25 (Val.mk x19 x20 x21 x22 x23 x24), ?_⟩
                  conv => whnf
                  exact ⟨((x10 ++ [Val.mk (0 : Int) false (0 : Int) ([] : List UInt8) ([] : List Val) ([] : List (List UInt8))]).set x25 (Val.mk x19 x20 x21 x22 x23 x24)), h, ⟨[0, 1, 2, 3, 4, 7], [], ⟨rfl, rfl, rfl, rfl⟩, by repeat (first | exact trivial | (focus (simp only [intRows, boolRows, valRows_len, Codec.length, List.length_map, List.length_set, List.length_append]; done)) | exact .inl rfl | exact rfl | exact List.not_mem_nil | (refine .inr ?_) | (refine ⟨?_, ?_⟩) | exact List.length_set.symm | decide), by repeat (first | exact trivial | (focus (simp only [intRows, boolRows, valRows_len, Codec.length, List.length_map, List.length_set, List.length_append]; done)) | exact .inl rfl | exact rfl | exact List.not_mem_nil | (refine .inr ?_) | (refine ⟨?_, ?_⟩) | exact List.length_set.symm | decide)⟩⟩
              · have h := cond_f h hc
                conv => whnf
                exact ⟨x10, h, ⟨[0, 1, 2, 3, 4, 5], [], ⟨rfl, rfl, rfl, rfl⟩, by repeat (first | exact trivial | (focus (simp only [intRows, boolRows, valRows_len, Codec.length, List.length_map, List.length_set, List.length_append]; done)) | exact .inl rfl | exact rfl | exact List.not_mem_nil | (refine .inr ?_) | (refine ⟨?_, ?_⟩) | exact List.length_set.symm | decide), by repeat (first | exact trivial | (focus (simp only [intRows, boolRows, valRows_len, Codec.length, List.length_map, List.length_set, List.length_append]; done)) | exact .inl rfl | exact rfl | exact List.not_mem_nil | (refine .inr ?_) | (refine ⟨?_, ?_⟩) | exact List.length_set.symm | decide)⟩⟩
          · have h := cond_f h hc
            conv => whnf
            exact ⟨((IntKind.i64.wrap (x4 + (1 : Int))), x10), h, ⟨[0, 1, 2, 3, 4, 5], [], ⟨rfl, rfl, rfl, rfl⟩, by repeat (first | exact trivial | (focus (simp only [intRows, boolRows, valRows_len, Codec.length, List.length_map, List.length_set, List.length_append]; done)) | exact .inl rfl | exact rfl | exact List.not_mem_nil | (refine .inr ?_) | (refine ⟨?_, ?_⟩) | exact List.length_set.symm | decide), by repeat (first | exact trivial | (focus (simp only [intRows, boolRows, valRows_len, Codec.length, List.length_map, List.length_set, List.length_append]; done)) | exact .inl rfl | exact rfl | exact List.not_mem_nil | (refine .inr ?_) | (refine ⟨?_, ?_⟩) | exact List.length_set.symm | decide)⟩⟩
      · have h := cond_f h hc
        conv => whnf
        refine CallsI.of_vc mixed (fun _ _ => Tryd.call53 _ _) Tryd.func53 (by kernel_rfl) (inl := [1000000]) ?_
        conv => whnf
        refine LoopA.pub 5 rfl ?_
        refine LoopA.fn [48, 49, 52, 53, 10000003, 20000030, 20000045, 40000017, 90000014, 1000000] (S := List (List Val) × Int) (fun (x32, x33) => [(3, .hptr [PV.sl (strs x2)]), (15, .tsl 3 (slRows valC x32)), (132, .bsl 0 0 1 0), (133, .p (.int .i64 ((1 : Nat) : Int))), (134, .p (.int .i64 x33))]) (fun (x32, x33) => [.pbx 71 (.ptr 1 0), .box 74 [.p (.nilsl), .bsl 2 0 1 1], .box 37 [.p (.sl (Val.rows x5))], .tail 37 1 (slRows valC x32).length]) (B := F_rows_Group_l3 n x2 x5) h ⟨[2, 3, 4, 0], [3], ⟨rfl, rfl, rfl, rfl⟩, by repeat (first | exact trivial | (focus (simp only [intRows, boolRows, valRows_len, Codec.length, List.length_map, List.length_set, List.length_append]; done)) | exact .inl rfl | exact rfl | exact List.not_mem_nil | (refine .inr ?_) | (refine ⟨?_, ?_⟩) | exact List.length_set.symm | decide), by repeat (first | exact trivial | (focus (simp only [intRows, boolRows, valRows_len, Codec.length, List.length_map, List.length_set, List.length_append]; done)) | exact .inl rfl | exact rfl | exact List.not_mem_nil | (refine .inr ?_) | (refine ⟨?_, ?_⟩) | exact List.length_set.symm | decide)⟩ ?_
        intro nx3 st h
        obtain ⟨x32, x33⟩ := st
        unfold F_rows_Group_l3 at h
        conv => whnf
        refine ⟨fun hc => ?_, fun hc => ?_⟩
        · have h := cond_t h hc
          conv => whnf
          obtain ⟨h21, h⟩ := chk_some h
          refine ⟨⟨of_decide_eq_true h21, Nat.zero_lt_one⟩, ?_⟩
          conv => whnf
          refine LoopA.fn [48, 49, 52, 53, 10000003, 20000030, 20000045, 40000017, 90000014, 1000000] (S := List Val × Int) (fun (x34, x35) => [(3, .hptr [PV.sl (strs x2)]), (15, .tsl 0 (slRows valC x32)), (17, .ptr 1 0), (18, .tsl 4 (Val.rows x34)), (132, .bsl 2 0 1 0), (133, .p (.int .i64 ((1 : Nat) : Int))), (134, .p (.int .i64 x33)), (138, .p (.sl (strs x2))), (139, .p (.int .i64 (((strs x2).length : Nat) : Int))), (140, .p (.int .i64 x35))]) (fun (x34, x35) => [.tail 37 1 (slRows valC x32).length, .box 74 [.p (.nilsl), .bsl 3 0 1 1], .pbx 71 (.ptr 1 0), .box 37 [.p (.sl (Val.rows x5))], .tail 40 6 (Val.rows x34).length]) (B := F_rows_Group_l4 n x2 x5 x32 nx3 x33) h ⟨[3, 1, 0, 2, 0], [4], ⟨rfl, rfl, rfl, rfl⟩, by repeat (first | exact trivial | (focus (simp only [intRows, boolRows, valRows_len, Codec.length, List.length_map, List.length_set, List.length_append]; done)) | exact .inl rfl | exact rfl | exact List.not_mem_nil | (refine .inr ?_) | (refine ⟨?_, ?_⟩) | exact List.length_set.symm | decide), by repeat (first | exact trivial | (focus (simp only [intRows, boolRows, valRows_len, Codec.length, List.length_map, List.length_set, List.length_append]; done)) | exact .inl rfl | exact rfl | exact List.not_mem_nil | (refine .inr ?_) | (refine ⟨?_, ?_⟩) | exact List.length_set.symm | decide)⟩ ?_
          intro nx4 st h
          obtain ⟨x34, x35⟩ := st
          unfold F_rows_Group_l4 at h
          conv => whnf
          refine ⟨fun hc => ?_, fun hc => ?_⟩
          · have h := cond_t h hc
            conv => whnf
            refine SeqA.go ?_
            conv => whnf
            replace h := bnd_some h
            obtain ⟨x36, h19, h⟩ := h
            refine ⟨_, Codec.at_ strC h19, ?_⟩
            conv => whnf
            refine ⟨fun hc => ?_, fun hc => ?_⟩
            · have h := cond_t h hc
              cases h
            · have h := cond_f h hc
              conv => whnf
              obtain ⟨h18, h⟩ := chk_some h
              refine ⟨⟨of_decide_eq_true h18, Nat.zero_lt_one⟩, ?_⟩
              conv => whnf
              replace h := bnd_some h
              obtain ⟨⟨⟨x37, x38, x39, x40, x41, x42⟩, x43⟩, h17, h⟩ := h
              refine ⟨_, (F_rows_gather_ok n _ _  _ h17), ?_⟩
              conv => whnf
              refine ⟨fun hc => ?_, fun hc => ?_⟩
              · have h := cond_t h hc
                obtain rfl := Option.some.inj h
                conv => whnf
                repeat (first | exact rfl | exact trivial | refine ⟨?_, ?_⟩)
              · have h := cond_f h hc
                conv => whnf
                replace h := bnd_some h
                obtain ⟨⟨x44, x45, x46, x47, x48, x49⟩, h16, h⟩ := h
                refine ⟨_, (F_value_Copy_ok n _  _ h16), ?_⟩
                conv => whnf
                refine ⟨Codec.one valC [Val.mk x44 x45 x46 x47 x48 x49], Val.rows [Val.mk x44 x45 x46 x47 x48 x49], .inl rfl, ?_⟩
                conv => whnf
                rw [show Val.rows x34 ++ Val.rows [Val.mk x44 x45 x46 x47 x48 x49] = Val.rows (x34 ++ [Val.mk x44 x45 x46 x47 x48 x49]) from Codec.append valC x34 [Val.mk x44 x45 x46 x47 x48 x49]]
                conv => whnf
                obtain ⟨h15, h⟩ := chk_some h
                refine ⟨⟨Codec.wide valC (x34 ++ [Val.mk x44 x45 x46 x47 x48 x49]), of_decide_eq_true h15, len_ok h15 (by decide)⟩, ?_⟩
                conv => whnf
                refine ⟨⟨rfl, rfl, rfl⟩, ?_⟩
                conv => whnf
                exact ⟨((x34 ++ [Val.mk x44 x45 x46 x47 x48 x49]), (IntKind.i64.wrap (x35 + (1 : Int)))), h, ⟨[0, 1, 2, 3, 6], [], ⟨rfl, rfl, rfl, rfl⟩, by repeat (first | exact trivial | (focus (simp only [intRows, boolRows, valRows_len, Codec.length, List.length_map, List.length_set, List.length_append]; done)) | exact .inl rfl | exact rfl | exact List.not_mem_nil | (refine .inr ?_) | (refine ⟨?_, ?_⟩) | exact List.length_set.symm | decide), by repeat (first | exact trivial | (focus (simp only [intRows, boolRows, valRows_len, Codec.length, List.length_map, List.length_set, List.length_append]; done)) | exact .inl rfl | exact rfl | exact List.not_mem_nil | (refine .inr ?_) | (refine ⟨?_, ?_⟩) | exact List.length_set.symm | decide)⟩⟩
          · have h := cond_f h hc
            conv => whnf
            refine ⟨Codec.one (slC valC) [x34], slRows valC [x34], .inl rfl, ?_⟩
            conv => whnf
            rw [show slRows valC x32 ++ slRows valC [x34] = slRows valC (x32 ++ [x34]) from Codec.append (slC valC) x32 [x34]]
            conv => whnf
            obtain ⟨h20, h⟩ := chk_some h
            refine ⟨⟨Codec.wide (slC valC) (x32 ++ [x34]), of_decide_eq_true h20, len_ok h20 (by decide)⟩, ?_⟩
            conv => whnf
            refine ⟨⟨rfl, rfl, rfl⟩, ?_⟩
            conv => whnf
            exact ⟨((x32 ++ [x34]), (IntKind.i64.wrap (x33 + (1 : Int)))), h, ⟨[2, 1, 3, 5], [], ⟨rfl, rfl, rfl, rfl⟩, by repeat (first | exact trivial | (focus (simp only [intRows, boolRows, valRows_len, Codec.length, List.length_map, List.length_set, List.length_append]; done)) | exact .inl rfl | exact rfl | exact List.not_mem_nil | (refine .inr ?_) | (refine ⟨?_, ?_⟩) | exact List.length_set.symm | decide), by repeat (first | exact trivial | (focus (simp only [intRows, boolRows, valRows_len, Codec.length, List.length_map, List.length_set, List.length_append]; done)) | exact .inl rfl | exact rfl | exact List.not_mem_nil | (refine .inr ?_) | (refine ⟨?_, ?_⟩) | exact List.length_set.symm | decide)⟩⟩
        · have h := cond_f h hc
          obtain rfl := Option.some.inj h
          conv => whnf
          repeat (first | exact rfl | exact trivial | refine ⟨?_, ?_⟩)
    · have h := cond_f h hc
      cases h
  · have h := cond_f h hc
    cases h

abbrev R_F_rows_all (r : List (List Val)) : PV := PV.sl (slRows valC r)

def F_rows_all_l1 (n : Nat) (x1 : List (List Val)) : (List (List Val) × Int → Option (List (List Val))) → List (List Val) × Int → Option (List (List Val)) := fun nx1 (x2, x3) =>
 bif (decide (x3 < (((slRows valC x1).length : Nat) : Int))) then (
 bnd (idx x1 x3) fun x4 =>
 bnd (F_rows_copied n x4) fun x5 =>
 chk (decide ((slRows valC (x2 ++ [x5])).length * 24 ≤ 140737488355328)) (
 nx1 ((x2 ++ [x5]), (IntKind.i64.wrap (x3 + (1 : Int))))))
else (
 some x2)

def F_rows_all (n : Nat)  (x1 : List (List Val)) : Option (List (List Val)) :=
  loopK (F_rows_all_l1 n x1) n (([] : List _), (0 : Int))

set_option maxRecDepth 100000 in
theorem F_rows_all_ok (n : Nat)   : ∀ (x1 : List (List Val)) (r : List (List Val)), F_rows_all n x1 = some r → CallsF Tryd.prog 34 [PV.sl (slRows valC x1)] (R_F_rows_all r) := by
  intro x1 r h
  unfold F_rows_all at h
  refine CallsF.of_vcN mixed (fun _ _ => Tryd.call34 _ _) Tryd.func34 (by kernel_rfl) (inl := [1000000]) ?_
  conv => whnf
  refine LoopA.fn [1000000] (S := List (List Val) × Int) (fun (x2, x3) => [(3, .tsl 0 (slRows valC x2)), (6, .p (.sl (slRows valC x1))), (7, .p (.int .i64 (((slRows valC x1).length : Nat) : Int))), (8, .p (.int .i64 x3))]) (fun (x2, x3) => [.tail 37 1 (slRows valC x2).length]) (B := F_rows_all_l1 n x1) h ⟨[0], [0], ⟨rfl, rfl, rfl, rfl⟩, by repeat (first | exact trivial | exact .inl rfl | exact rfl | exact List.not_mem_nil | (refine .inr ?_) | (refine ⟨?_, ?_⟩) | exact List.length_set.symm | decide), by repeat (first | exact trivial | exact .inl rfl | exact rfl | exact List.not_mem_nil | (refine .inr ?_) | (refine ⟨?_, ?_⟩) | exact List.length_set.symm | decide)⟩ ?_
  intro nx1 st h
  obtain ⟨x2, x3⟩ := st
  unfold F_rows_all_l1 at h
  conv => whnf
  refine ⟨fun hc => ?_, fun hc => ?_⟩
  · have h := cond_t h hc
    conv => whnf
    replace h := bnd_some h
    obtain ⟨x4, h3, h⟩ := h
    refine ⟨_, Codec.at_ (slC valC) h3, ?_⟩
    conv => whnf
    replace h := bnd_some h
    obtain ⟨x5, h2, h⟩ := h
    refine ⟨_, (F_rows_copied_ok n _  _ h2), ?_⟩
    conv => whnf
    refine ⟨Codec.one (slC valC) [x5], slRows valC [x5], .inl rfl, ?_⟩
    conv => whnf
    rw [show slRows valC x2 ++ slRows valC [x5] = slRows valC (x2 ++ [x5]) from Codec.append (slC valC) x2 [x5]]
    conv => whnf
    obtain ⟨h1, h⟩ := chk_some h
    refine ⟨⟨Codec.wide (slC valC) (x2 ++ [x5]), of_decide_eq_true h1, len_ok h1 (by decide)⟩, ?_⟩
    conv => whnf
    refine ⟨⟨rfl, rfl, rfl⟩, ?_⟩
    conv => whnf
    exact ⟨((x2 ++ [x5]), (IntKind.i64.wrap (x3 + (1 : Int)))), h, ⟨[1], [], ⟨rfl, rfl, rfl, rfl⟩, by repeat (first | exact trivial | exact .inl rfl | exact rfl | exact List.not_mem_nil | (refine .inr ?_) | (refine ⟨?_, ?_⟩) | exact List.length_set.symm | decide), by repeat (first | exact trivial | exact .inl rfl | exact rfl | exact List.not_mem_nil | (refine .inr ?_) | (refine ⟨?_, ?_⟩) | exact List.length_set.symm | decide)⟩⟩
  · have h := cond_f h hc
    obtain rfl := Option.some.inj h
    conv => whnf
    repeat (first | exact rfl | exact trivial | refine ⟨?_, ?_⟩)

abbrev R_F_rows_Slice (r : List (List Val)) : PV := PV.sl (slRows valC r)

def F_rows_Slice (n : Nat)  (x1 : List (List Val)) (x2 : Int) (x3 : Int) : Option (List (List Val)) :=
  bnd (natI (bif decide ((bif decide ((((slRows valC x1).length : Nat) : Int) < x2) then (((slRows valC x1).length : Nat) : Int) else x2) > (0 : Int)) then (bif decide ((((slRows valC x1).length : Nat) : Int) < x2) then (((slRows valC x1).length : Nat) : Int) else x2) else (0 : Int))) fun x4 =>
  chk (decide (x4 ≤ (slRows valC x1).length)) (
  bnd (natI (bif decide ((bif decide ((((slRows valC (x1.drop x4)).length : Nat) : Int) < x3) then (((slRows valC (x1.drop x4)).length : Nat) : Int) else x3) > (0 : Int)) then (bif decide ((((slRows valC (x1.drop x4)).length : Nat) : Int) < x3) then (((slRows valC (x1.drop x4)).length : Nat) : Int) else x3) else (0 : Int))) fun x5 =>
  chk (decide (x5 ≤ (slRows valC (x1.drop x4)).length)) (
  bnd (F_rows_all n ((x1.drop x4).take x5)) fun x6 =>
  some x6))

set_option maxRecDepth 100000 in
theorem F_rows_Slice_ok (n : Nat)   : ∀ (x1 : List (List Val)) (x2 : Int) (x3 : Int) (r : List (List Val)), F_rows_Slice n x1 x2 x3 = some r → CallsF Tryd.prog 13 [PV.sl (slRows valC x1), PV.int .i64 x2, PV.int .i64 x3] (R_F_rows_Slice r) := by
  intro x1 x2 x3 r h
  unfold F_rows_Slice at h
  refine CallsF.of_vcN mixed (fun _ _ => Tryd.call13 _ _) Tryd.func13 (by kernel_rfl) (inl := [1000000]) ?_
  conv => whnf
  replace h := bnd_some h
  obtain ⟨x4, h5, h⟩ := h
  refine ⟨_, natI_some h5, ?_⟩
  conv => whnf
  obtain ⟨h4, h⟩ := chk_some h
  refine ⟨⟨(of_decide_eq_true h4 : (x4 ≤ (slRows valC x1).length)), Nat.le_refl _, Codec.wide (slC valC) x1⟩, ?_⟩
  first | rw [show List.drop x4 (List.take ((slRows valC x1).length) (slRows valC x1)) = slRows valC (x1.drop x4) from Codec.dropAll (slC valC) x1 x4] | rw [show List.drop x4 (List.take (((slC valC).rows x1).length) ((slC valC).rows x1)) = slRows valC (x1.drop x4) from Codec.dropAll (slC valC) x1 x4]
  conv => whnf
  replace h := bnd_some h
  obtain ⟨x5, h3, h⟩ := h
  refine ⟨_, natI_some h3, ?_⟩
  conv => whnf
  obtain ⟨h2, h⟩ := chk_some h
  refine ⟨⟨Nat.zero_le _, (of_decide_eq_true h2 : (x5 ≤ (slRows valC (x1.drop x4)).length)), Codec.wide (slC valC) (x1.drop x4)⟩, ?_⟩
  first | rw [show List.drop 0 (List.take x5 (slRows valC (x1.drop x4))) = slRows valC ((x1.drop x4).take x5) from Codec.take (slC valC) (x1.drop x4) x5] | rw [show List.drop 0 (List.take x5 ((slC valC).rows (x1.drop x4))) = slRows valC ((x1.drop x4).take x5) from Codec.take (slC valC) (x1.drop x4) x5]
  conv => whnf
  replace h := bnd_some h
  obtain ⟨x6, h1, h⟩ := h
  refine ⟨_, (F_rows_all_ok n _  _ h1), ?_⟩
  obtain rfl := Option.some.inj h
  conv => whnf
  repeat (first | exact rfl | exact trivial | refine ⟨?_, ?_⟩)

abbrev R_F_L17_works (r : Bool) : PV := PV.bool r

def F_L17_works (n : Nat)   : Option (Bool) :=
  bnd (F_L17_whole n (2 : Int)) fun ⟨x1, x2, x3, x4, x5, x6⟩ =>
  bnd (F_L17_whole n (1 : Int)) fun ⟨x7, x8, x9, x10, x11, x12⟩ =>
  bnd (F_L17_whole n (2 : Int)) fun ⟨x13, x14, x15, x16, x17, x18⟩ =>
  bnd (F_rows_Unique n [[Val.mk x1 x2 x3 x4 x5 x6], [Val.mk x7 x8 x9 x10 x11 x12], [Val.mk x13 x14 x15 x16 x17 x18]]) fun x19 =>
  bnd (F_rows_Sort n [[Val.mk x1 x2 x3 x4 x5 x6], [Val.mk x7 x8 x9 x10 x11 x12], [Val.mk x13 x14 x15 x16 x17 x18]] [[Val.mk x1 x2 x3 x4 x5 x6], [Val.mk x7 x8 x9 x10 x11 x12], [Val.mk x13 x14 x15 x16 x17 x18]] [false]) fun x20 =>
  bnd (F_rows_Group n [[Val.mk x1 x2 x3 x4 x5 x6], [Val.mk x7 x8 x9 x10 x11 x12], [Val.mk x13 x14 x15 x16 x17 x18]] [([115, 117, 109] : List UInt8)]) fun ⟨x21, x22⟩ =>
  bnd (gsome ((((slRows valC x19).length : Nat) : Int) == (2 : Int)) (idx x19 (0 : Int))) fun x23 =>
  bnd (gsome ((((slRows valC x19).length : Nat) : Int) == (2 : Int)) (idx x23 (0 : Int))) fun ⟨x24, x25, x26, x27, x28, x29⟩ =>
  bnd (gsome (bif (bif ((((slRows valC x19).length : Nat) : Int) == (2 : Int)) then (x26 == (2 : Int)) else false) then ((((slRows valC x20).length : Nat) : Int) == (3 : Int)) else false) (idx x20 (0 : Int))) fun x30 =>
  bnd (gsome (bif (bif ((((slRows valC x19).length : Nat) : Int) == (2 : Int)) then (x26 == (2 : Int)) else false) then ((((slRows valC x20).length : Nat) : Int) == (3 : Int)) else false) (idx x30 (0 : Int))) fun ⟨x31, x32, x33, x34, x35, x36⟩ =>
  bnd (gsome (bif (bif (bif (bif (bif ((((slRows valC x19).length : Nat) : Int) == (2 : Int)) then (x26 == (2 : Int)) else false) then ((((slRows valC x20).length : Nat) : Int) == (3 : Int)) else false) then (x33 == (1 : Int)) else false) then (x22 == (0 : Int)) else false) then ((((slRows valC x21).length : Nat) : Int) == (1 : Int)) else false) (idx x21 (0 : Int))) fun x37 =>
  bnd (gsome (bif (bif (bif (bif (bif ((((slRows valC x19).length : Nat) : Int) == (2 : Int)) then (x26 == (2 : Int)) else false) then ((((slRows valC x20).length : Nat) : Int) == (3 : Int)) else false) then (x33 == (1 : Int)) else false) then (x22 == (0 : Int)) else false) then ((((slRows valC x21).length : Nat) : Int) == (1 : Int)) else false) (idx x37 (0 : Int))) fun ⟨x38, x39, x40, x41, x42, x43⟩ =>
  bnd (gsome (bif (bif (bif (bif (bif (bif ((((slRows valC x19).length : Nat) : Int) == (2 : Int)) then (x26 == (2 : Int)) else false) then ((((slRows valC x20).length : Nat) : Int) == (3 : Int)) else false) then (x33 == (1 : Int)) else false) then (x22 == (0 : Int)) else false) then ((((slRows valC x21).length : Nat) : Int) == (1 : Int)) else false) then (x40 == (5 : Int)) else false) (F_rows_Slice n [[Val.mk x1 x2 x3 x4 x5 x6], [Val.mk x7 x8 x9 x10 x11 x12], [Val.mk x13 x14 x15 x16 x17 x18]] (1 : Int) (1 : Int))) fun x44 =>
  some (bif (bif (bif (bif (bif (bif (bif ((((slRows valC x19).length : Nat) : Int) == (2 : Int)) then (x26 == (2 : Int)) else false) then ((((slRows valC x20).length : Nat) : Int) == (3 : Int)) else false) then (x33 == (1 : Int)) else false) then (x22 == (0 : Int)) else false) then ((((slRows valC x21).length : Nat) : Int) == (1 : Int)) else false) then (x40 == (5 : Int)) else false) then ((((slRows valC x44).length : Nat) : Int) == (1 : Int)) else false)

set_option maxHeartbeats 4000000 in
set_option maxRecDepth 100000 in
theorem F_L17_works_ok (n : Nat)   : ∀  (r : Bool), F_L17_works n  = some r → CallsF Tryd.prog 10 [] (R_F_L17_works r) := by
  intro  r h
  unfold F_L17_works at h
  refine CallsF.of_vcN mixed (fun _ _ => Tryd.call10 _ _) Tryd.func10 (by kernel_rfl) (inl := [1000000]) ?_
  conv => whnf
  replace h := bnd_some h
  obtain ⟨⟨x1, x2, x3, x4, x5, x6⟩, h13, h⟩ := h
  refine ⟨_, (F_L17_whole_ok n _  _ h13), ?_⟩
  conv => whnf
  refine ⟨Codec.one valC [Val.mk x1 x2 x3 x4 x5 x6], Val.rows [Val.mk x1 x2 x3 x4 x5 x6], .inl rfl, ?_⟩
  conv => whnf
  replace h := bnd_some h
  obtain ⟨⟨x7, x8, x9, x10, x11, x12⟩, h12, h⟩ := h
  refine ⟨_, (F_L17_whole_ok n _  _ h12), ?_⟩
  conv => whnf
  refine ⟨Codec.one valC [Val.mk x7 x8 x9 x10 x11 x12], Val.rows [Val.mk x7 x8 x9 x10 x11 x12], .inl rfl, ?_⟩
  conv => whnf
  replace h := bnd_some h
  obtain ⟨⟨x13, x14, x15, x16, x17, x18⟩, h11, h⟩ := h
  refine ⟨_, (F_L17_whole_ok n _  _ h11), ?_⟩
  conv => whnf
  refine ⟨Codec.one valC [Val.mk x13 x14 x15 x16 x17 x18], Val.rows [Val.mk x13 x14 x15 x16 x17 x18], .inl rfl, ?_⟩
  conv => whnf
  refine ⟨Codec.one (slC valC) [[Val.mk x1 x2 x3 x4 x5 x6], [Val.mk x7 x8 x9 x10 x11 x12], [Val.mk x13 x14 x15 x16 x17 x18]], slRows valC [[Val.mk x1 x2 x3 x4 x5 x6], [Val.mk x7 x8 x9 x10 x11 x12], [Val.mk x13 x14 x15 x16 x17 x18]], .inl rfl, ?_⟩
  conv => whnf
  replace h := bnd_some h
  obtain ⟨x19, h10, h⟩ := h
  refine ⟨_, (F_rows_Unique_ok n _  _ h10), ?_⟩
  conv => whnf
  refine ⟨Codec.one boolC [false], boolRows [false], .inl rfl, ?_⟩
  conv => whnf
  replace h := bnd_some h
  obtain ⟨x20, h9, h⟩ := h
  refine ⟨_, (F_rows_Sort_ok n _ _ _  _ h9), ?_⟩
  conv => whnf
  refine ⟨Codec.one strC [([115, 117, 109] : List UInt8)], strs [([115, 117, 109] : List UInt8)], .inl rfl, ?_⟩
  conv => whnf
  replace h := bnd_some h
  obtain ⟨⟨x21, x22⟩, h8, h⟩ := h
  refine ⟨_, (F_rows_Group_ok n _ _  _ h8), ?_⟩
  conv => whnf
  refine And.intro (fun h => h) ?_
  conv => whnf
  replace h := bnd_some h
  obtain ⟨x23, h7, h⟩ := h
  refine ⟨_, fun hg => Codec.at_ (slC valC) (gsome_some h7 hg), ?_⟩
  conv => whnf
  iterate 2 (refine And.intro (fun h => h) ?_)
  conv => whnf
  replace h := bnd_some h
  obtain ⟨⟨x24, x25, x26, x27, x28, x29⟩, h6, h⟩ := h
  refine ⟨_, fun hg => Codec.at_ valC (gsome_some h6 hg), ?_⟩
  conv => whnf
  iterate 8 (refine And.intro (fun h => h) ?_)
  conv => whnf
  replace h := bnd_some h
  obtain ⟨x30, h5, h⟩ := h
  refine ⟨_, fun hg => Codec.at_ (slC valC) (gsome_some h5 hg), ?_⟩
  conv => whnf
  iterate 2 (refine And.intro (fun h => h) ?_)
  conv => whnf
  replace h := bnd_some h
  obtain ⟨⟨x31, x32, x33, x34, x35, x36⟩, h4, h⟩ := h
  refine ⟨_, fun hg => Codec.at_ valC (gsome_some h4 hg), ?_⟩
  conv => whnf
  iterate 10 (refine And.intro (fun h => h) ?_)
  conv => whnf
  replace h := bnd_some h
  obtain ⟨x37, h3, h⟩ := h
  refine ⟨_, fun hg => Codec.at_ (slC valC) (gsome_some h3 hg), ?_⟩
  conv => whnf
  iterate 2 (refine And.intro (fun h => h) ?_)
  conv => whnf
  replace h := bnd_some h
  obtain ⟨⟨x38, x39, x40, x41, x42, x43⟩, h2, h⟩ := h
  refine ⟨_, fun hg => Codec.at_ valC (gsome_some h2 hg), ?_⟩
  conv => whnf
  iterate 5 (refine And.intro (fun h => h) ?_)
  conv => whnf
  replace h := bnd_some h
  obtain ⟨x44, h1, h⟩ := h
  refine ⟨_, fun hg => (F_rows_Slice_ok n _ _ _  _ (gsome_some h1 hg)), ?_⟩
  conv => whnf
  iterate 3 (refine And.intro (fun h => h) ?_)
  obtain rfl := Option.some.inj h
  conv => whnf
  repeat (first | exact rfl | exact trivial | refine ⟨?_, ?_⟩)

abbrev R_F_L17_pairs (r : List (List Val) × List (List Val)) : PV := PV.tup [PV.sl (slRows valC r.1), PV.sl (slRows valC r.2)]

def F_L17_pairs_l1 (n : Nat) (x1 : List (List Val)) : (List (List Val) × List (List Val) × Int → Option (List (List Val) × List (List Val))) → List (List Val) × List (List Val) × Int → Option (List (List Val) × List (List Val)) := fun nx1 (x2, x3, x4) =>
 bif (decide (x4 < (((slRows valC x1).length : Nat) : Int))) then (
 bnd (idx x1 x4) fun x5 =>
 chk (decide (1 ≤ (Val.rows x5).length)) (
 chk (decide ((slRows valC (x2 ++ [(x5.take 1)])).length * 24 ≤ 140737488355328)) (
 bnd (idx x1 x4) fun x6 =>
 chk (decide (1 ≤ (Val.rows x6).length)) (
 chk (decide ((slRows valC (x3 ++ [(x6.drop 1)])).length * 24 ≤ 140737488355328)) (
 nx1 ((x2 ++ [(x5.take 1)]), (x3 ++ [(x6.drop 1)]), (IntKind.i64.wrap (x4 + (1 : Int)))))))))
else (
 some (x2, x3))

def F_L17_pairs (n : Nat)  (x1 : List (List Val)) : Option (List (List Val) × List (List Val)) :=
  loopK (F_L17_pairs_l1 n x1) n (([] : List _), ([] : List _), (0 : Int))

set_option maxRecDepth 100000 in
theorem F_L17_pairs_ok (n : Nat)   : ∀ (x1 : List (List Val)) (r : List (List Val) × List (List Val)), F_L17_pairs n x1 = some r → CallsF Tryd.prog 18 [PV.sl (slRows valC x1)] (R_F_L17_pairs r) := by
  intro x1 r h
  unfold F_L17_pairs at h
  refine CallsF.of_vcN mixed (fun _ _ => Tryd.call18 _ _) Tryd.func18 (by kernel_rfl) (inl := [1000000]) ?_
  conv => whnf
  refine LoopA.fn [1000000] (S := List (List Val) × List (List Val) × Int) (fun (x2, x3, x4) => [(0, .p (.sl (slRows valC x1))), (4, .tsl 0 (slRows valC x2)), (5, .tsl 1 (slRows valC x3)), (6, .p (.int .i64 x4))]) (fun (x2, x3, x4) => [.tail 37 1 (slRows valC x2).length, .tail 37 1 (slRows valC x3).length]) (B := F_L17_pairs_l1 n x1) h ⟨[0, 0], [0, 1], ⟨rfl, rfl, rfl, rfl⟩, by repeat (first | exact trivial | exact .inl rfl | exact rfl | exact List.not_mem_nil | (refine .inr ?_) | (refine ⟨?_, ?_⟩) | exact List.length_set.symm | decide), by repeat (first | exact trivial | exact .inl rfl | exact rfl | exact List.not_mem_nil | (refine .inr ?_) | (refine ⟨?_, ?_⟩) | exact List.length_set.symm | decide)⟩ ?_
  intro nx1 st h
  obtain ⟨x2, x3, x4⟩ := st
  unfold F_L17_pairs_l1 at h
  conv => whnf
  refine ⟨fun hc => ?_, fun hc => ?_⟩
  · have h := cond_t h hc
    conv => whnf
    replace h := bnd_some h
    obtain ⟨x5, h6, h⟩ := h
    refine ⟨_, Codec.at_ (slC valC) h6, ?_⟩
    conv => whnf
    refine ⟨1, rfl, ?_⟩
    conv => whnf
    obtain ⟨h5, h⟩ := chk_some h
    refine ⟨⟨Nat.zero_le _, (of_decide_eq_true h5 : (1 ≤ (Val.rows x5).length)), Codec.wide valC x5⟩, ?_⟩
    first | rw [show List.drop 0 (List.take 1 (Val.rows x5)) = Val.rows (x5.take 1) from Codec.take valC x5 1] | rw [show List.drop 0 (List.take 1 (valC.rows x5)) = Val.rows (x5.take 1) from Codec.take valC x5 1]
    conv => whnf
    refine ⟨Codec.one (slC valC) [(x5.take 1)], slRows valC [(x5.take 1)], .inl rfl, ?_⟩
    conv => whnf
    rw [show slRows valC x2 ++ slRows valC [(x5.take 1)] = slRows valC (x2 ++ [(x5.take 1)]) from Codec.append (slC valC) x2 [(x5.take 1)]]
    conv => whnf
    obtain ⟨h4, h⟩ := chk_some h
    refine ⟨⟨Codec.wide (slC valC) (x2 ++ [(x5.take 1)]), of_decide_eq_true h4, len_ok h4 (by decide)⟩, ?_⟩
    conv => whnf
    refine ⟨⟨rfl, rfl, rfl⟩, ?_⟩
    conv => whnf
    replace h := bnd_some h
    obtain ⟨x6, h3, h⟩ := h
    refine ⟨_, Codec.at_ (slC valC) h3, ?_⟩
    conv => whnf
    refine ⟨1, rfl, ?_⟩
    conv => whnf
    obtain ⟨h2, h⟩ := chk_some h
    refine ⟨⟨(of_decide_eq_true h2 : (1 ≤ (Val.rows x6).length)), Nat.le_refl _, Codec.wide valC x6⟩, ?_⟩
    first | rw [show List.drop 1 (List.take ((Val.rows x6).length) (Val.rows x6)) = Val.rows (x6.drop 1) from Codec.dropAll valC x6 1] | rw [show List.drop 1 (List.take ((valC.rows x6).length) (valC.rows x6)) = Val.rows (x6.drop 1) from Codec.dropAll valC x6 1]
    conv => whnf
    refine ⟨Codec.one (slC valC) [(x6.drop 1)], slRows valC [(x6.drop 1)], .inl rfl, ?_⟩
    conv => whnf
    rw [show slRows valC x3 ++ slRows valC [(x6.drop 1)] = slRows valC (x3 ++ [(x6.drop 1)]) from Codec.append (slC valC) x3 [(x6.drop 1)]]
    conv => whnf
    obtain ⟨h1, h⟩ := chk_some h
    refine ⟨⟨Codec.wide (slC valC) (x3 ++ [(x6.drop 1)]), of_decide_eq_true h1, len_ok h1 (by decide)⟩, ?_⟩
    conv => whnf
    refine ⟨⟨rfl, rfl, rfl⟩, ?_⟩
    conv => whnf
    exact ⟨((x2 ++ [(x5.take 1)]), (x3 ++ [(x6.drop 1)]), (IntKind.i64.wrap (x4 + (1 : Int)))), h, ⟨[2, 3], [], ⟨rfl, rfl, rfl, rfl⟩, by repeat (first | exact trivial | exact .inl rfl | exact rfl | exact List.not_mem_nil | (refine .inr ?_) | (refine ⟨?_, ?_⟩) | exact List.length_set.symm | decide), by repeat (first | exact trivial | exact .inl rfl | exact rfl | exact List.not_mem_nil | (refine .inr ?_) | (refine ⟨?_, ?_⟩) | exact List.length_set.symm | decide)⟩⟩
  · have h := cond_f h hc
    obtain rfl := Option.some.inj h
    conv => whnf
    repeat (first | exact rfl | exact trivial | refine ⟨?_, ?_⟩)

abbrev R_F_R03_place (r : Int) : PV := PV.int .i64 r

def F_R03_place (n : Nat)  (x1 : Int) : Option (Int) :=
  bif (x1 == (5 : Int)) then (
  some (0 : Int))
  else (
  bif (x1 == (6 : Int)) then (
  some (1 : Int))
  else (
  bif (x1 == (7 : Int)) then (
  some (2 : Int))
  else (
  bif (x1 == (4 : Int)) then (
  some (3 : Int))
  else (
  bif (x1 == (3 : Int)) then (
  some (4 : Int))
  else (
  bif (x1 == (1 : Int)) then (
  some (5 : Int))
  else (
  bif (x1 == (2 : Int)) then (
  some (6 : Int))
  else (
  some (7 : Int))))))))

set_option maxRecDepth 100000 in
theorem F_R03_place_ok (n : Nat)   : ∀ (x1 : Int) (r : Int), F_R03_place n x1 = some r → CallsF Tryd.prog 75 [PV.int .i64 x1] (R_F_R03_place r) := by
  intro x1 r h
  unfold F_R03_place at h
  refine CallsF.of_vcN mixed (fun _ _ => Tryd.call75 _ _) Tryd.func75 (by kernel_rfl) (inl := [1000000]) ?_
  conv => whnf
  refine ⟨fun hc => ?_, fun hc => ?_⟩
  · have h := cond_t h hc
    obtain rfl := Option.some.inj h
    conv => whnf
    repeat (first | exact rfl | exact trivial | refine ⟨?_, ?_⟩)
  · have h := cond_f h hc
    conv => whnf
    refine ⟨fun hc => ?_, fun hc => ?_⟩
    · have h := cond_t h hc
      obtain rfl := Option.some.inj h
      conv => whnf
      repeat (first | exact rfl | exact trivial | refine ⟨?_, ?_⟩)
    · have h := cond_f h hc
      conv => whnf
      refine ⟨fun hc => ?_, fun hc => ?_⟩
      · have h := cond_t h hc
        obtain rfl := Option.some.inj h
        conv => whnf
        repeat (first | exact rfl | exact trivial | refine ⟨?_, ?_⟩)
      · have h := cond_f h hc
        conv => whnf
        refine ⟨fun hc => ?_, fun hc => ?_⟩
        · have h := cond_t h hc
          obtain rfl := Option.some.inj h
          conv => whnf
          repeat (first | exact rfl | exact trivial | refine ⟨?_, ?_⟩)
        · have h := cond_f h hc
          conv => whnf
          refine ⟨fun hc => ?_, fun hc => ?_⟩
          · have h := cond_t h hc
            obtain rfl := Option.some.inj h
            conv => whnf
            repeat (first | exact rfl | exact trivial | refine ⟨?_, ?_⟩)
          · have h := cond_f h hc
            conv => whnf
            refine ⟨fun hc => ?_, fun hc => ?_⟩
            · have h := cond_t h hc
              obtain rfl := Option.some.inj h
              conv => whnf
              repeat (first | exact rfl | exact trivial | refine ⟨?_, ?_⟩)
            · have h := cond_f h hc
              conv => whnf
              refine ⟨fun hc => ?_, fun hc => ?_⟩
              · have h := cond_t h hc
                obtain rfl := Option.some.inj h
                conv => whnf
                repeat (first | exact rfl | exact trivial | refine ⟨?_, ?_⟩)
              · have h := cond_f h hc
                obtain rfl := Option.some.inj h
                conv => whnf
                repeat (first | exact rfl | exact trivial | refine ⟨?_, ?_⟩)

abbrev R_F_R03_side (r : Int) : PV := PV.int .i64 r

def F_R03_side (n : Nat)  (x1 : Bool) (x2 : Bool) : Option (Int) :=
  bif x1 then (
  some (-1 : Int))
  else (
  bif x2 then (
  some (1 : Int))
  else (
  some (0 : Int)))

set_option maxRecDepth 100000 in
theorem F_R03_side_ok (n : Nat)   : ∀ (x1 : Bool) (x2 : Bool) (r : Int), F_R03_side n x1 x2 = some r → CallsF Tryd.prog 76 [PV.bool x1, PV.bool x2] (R_F_R03_side r) := by
  intro x1 x2 r h
  unfold F_R03_side at h
  refine CallsF.of_vcN mixed (fun _ _ => Tryd.call76 _ _) Tryd.func76 (by kernel_rfl) (inl := [1000000]) ?_
  conv => whnf
  refine ⟨fun hc => ?_, fun hc => ?_⟩
  · have h := cond_t h hc
    obtain rfl := Option.some.inj h
    conv => whnf
    repeat (first | exact rfl | exact trivial | refine ⟨?_, ?_⟩)
  · have h := cond_f h hc
    conv => whnf
    refine ⟨fun hc => ?_, fun hc => ?_⟩
    · have h := cond_t h hc
      obtain rfl := Option.some.inj h
      conv => whnf
      repeat (first | exact rfl | exact trivial | refine ⟨?_, ?_⟩)
    · have h := cond_f h hc
      obtain rfl := Option.some.inj h
      conv => whnf
      repeat (first | exact rfl | exact trivial | refine ⟨?_, ?_⟩)
end W
end
section
open Go Go.Proofs Ax
namespace W
abbrev R_F_R03_Order (r : Int) : PV := PV.int .i64 r

def F_R03_Order_k7 (n : Nat) (nx1 : Int → Option (Int)) (x20 : Int) : Int → Option (Int) := fun x22 =>
 bif (x22 != (0 : Int)) then (
 some x22)
else (
 nx1 (IntKind.i64.wrap (x20 + (1 : Int))))

def F_R03_Order_k6 (n : Nat) (x5 : List Val) (x20 : Int) (x11 : List Val) (g60 : Val → Val → Option (Int)) (nx1 : Int → Option (Int)) : Int → Option (Int) := fun x21 =>
 bif (x21 == (0 : Int)) then (
 bnd (idx x5 x20) fun ⟨x23, x24, x25, x26, x27, x28⟩ =>
 bnd (idx x11 x20) fun ⟨x29, x30, x31, x32, x33, x34⟩ =>
 bnd (g60 (Val.mk x23 x24 x25 x26 x27 x28) (Val.mk x29 x30 x31 x32 x33 x34)) fun x35 =>
 F_R03_Order_k7 n nx1 x20 x35)
else (
 F_R03_Order_k7 n nx1 x20 x21)

def F_R03_Order_l1 (n : Nat) (x5 : List Val) (x11 : List Val) (x1 : Int) (x6 : List (List UInt8)) (x12 : List (List UInt8)) (g60 : Val → Val → Option (Int)) : (Int → Option (Int)) → Int → Option (Int) := fun nx1 x20 =>
 bif (bif (decide (x20 < (((Val.rows x5).length : Nat) : Int))) then (decide (x20 < (((Val.rows x11).length : Nat) : Int))) else false) then (
 bif (x1 == (5 : Int)) then (
 bnd (idx x6 x20) fun x36 =>
 bnd (idx x12 x20) fun x37 =>
 bnd (idx x6 x20) fun x38 =>
 bnd (idx x12 x20) fun x39 =>
 bnd (F_R03_side n (Op.bytesLess x36 x37) (!(Op.bytesLess x38 x39 || x38 == x39))) fun x40 =>
 F_R03_Order_k6 n x5 x20 x11 g60 nx1 x40)
else (
 F_R03_Order_k6 n x5 x20 x11 g60 nx1 (0 : Int)))
else (
 bnd (F_R03_side n (decide ((((Val.rows x5).length : Nat) : Int) < (((Val.rows x11).length : Nat) : Int))) (decide ((((Val.rows x5).length : Nat) : Int) > (((Val.rows x11).length : Nat) : Int)))) fun x41 =>
 some x41)

def F_R03_Order_k1 (n : Nat) (x3 : Int) (x9 : Int) (x1 : Int) (x4 : List UInt8) (x10 : List UInt8) (x2 : Bool) (x8 : Bool) (x5 : List Val) (x11 : List Val) (x6 : List (List UInt8)) (x12 : List (List UInt8)) (g60 : Val → Val → Option (Int)) : Bool → Option (Int) := fun x16 =>
 bif x16 then (
 bnd (F_R03_side n (decide (x3 < x9)) (decide (x3 > x9))) fun x17 =>
 some x17)
else (
 bif (x1 == (3 : Int)) then (
 bnd (F_R03_side n (Op.bytesLess x4 x10) (!(Op.bytesLess x4 x10 || x4 == x10))) fun x18 =>
 some x18)
else (
 bif (x1 == (1 : Int)) then (
 bnd (F_R03_side n (bif (!x2) then x8 else false) (bif x2 then (!x8) else false)) fun x19 =>
 some x19)
else (
 loopK (F_R03_Order_l1 n x5 x11 x1 x6 x12 g60) n (0 : Int))))

def BF_R03_Order (n : Nat) (g60 : Val → Val → Option (Int)) (a0_ : Val) (a1_ : Val) : Option (Int) :=
  match a0_, a1_ with
  | ⟨x1, x2, x3, x4, x5, x6⟩, ⟨x7, x8, x9, x10, x11, x12⟩ =>
  bnd (F_R03_place n x1) fun x13 =>
  bnd (F_R03_place n x7) fun x14 =>
  bif (x13 != x14) then (
  bnd (F_R03_side n (decide (x13 < x14)) true) fun x15 =>
  some x15)
  else (
  bif (x1 == (2 : Int)) then (
  F_R03_Order_k1 n x3 x9 x1 x4 x10 x2 x8 x5 x11 x6 x12 g60 (x1 == (2 : Int)))
  else (
  bif (x1 == (6 : Int)) then (
  F_R03_Order_k1 n x3 x9 x1 x4 x10 x2 x8 x5 x11 x6 x12 g60 (x1 == (6 : Int)))
  else (
  F_R03_Order_k1 n x3 x9 x1 x4 x10 x2 x8 x5 x11 x6 x12 g60 (x1 == (7 : Int)))))

set_option maxHeartbeats 4000000 in
set_option maxRecDepth 100000 in
theorem BF_R03_Order_ok (n : Nat) (g60 : Val → Val → Option (Int)) (g60_ok : ∀ (a0_ : Val) (a1_ : Val) (r : Int), g60 a0_ a1_ = some r → CallsF Tryd.prog 60 [PV.agg (valC.cells a0_), PV.agg (valC.cells a1_)] (R_F_R03_Order r)) : ∀ (a0_ : Val) (a1_ : Val) (r : Int), BF_R03_Order n g60 a0_ a1_ = some r → CallsF Tryd.prog 60 [PV.agg (valC.cells a0_), PV.agg (valC.cells a1_)] (R_F_R03_Order r) := by
  intro a0_ a1_ r h
  obtain ⟨x1, x2, x3, x4, x5, x6⟩ := a0_
  obtain ⟨x7, x8, x9, x10, x11, x12⟩ := a1_
  unfold BF_R03_Order at h
  refine CallsF.of_vcN mixed (fun _ _ => Tryd.call60 _ _) Tryd.func60 (by kernel_rfl) (inl := [1000000]) ?_
  conv => whnf
  replace h := bnd_some h
  obtain ⟨x13, h15, h⟩ := h
  refine ⟨_, (F_R03_place_ok n _  _ h15), ?_⟩
  conv => whnf
  replace h := bnd_some h
  obtain ⟨x14, h14, h⟩ := h
  refine ⟨_, (F_R03_place_ok n _  _ h14), ?_⟩
  conv => whnf
  refine ⟨fun hc => ?_, fun hc => ?_⟩
  · have h := cond_t h hc
    conv => whnf
    replace h := bnd_some h
    obtain ⟨x15, h1, h⟩ := h
    refine ⟨_, (F_R03_side_ok n _ _  _ h1), ?_⟩
    obtain rfl := Option.some.inj h
    conv => whnf
    repeat (first | exact rfl | exact trivial | refine ⟨?_, ?_⟩)
  · have h := cond_f h hc
    conv => whnf
    refine SeqA.cut (S := Bool) (fun x16 => [(2, .ptr 0 0), (3, .ptr 1 0), (23, .p (.int .i64 x1)), (24, .p (.bool x16))]) (fun x16 => [.box 40 [.p (.int .i64 x1), .p (.bool x2), .p (.int .i64 x3), .p (.str x4), .p (.sl (Val.rows x5)), .p (.sl (strs x6))], .box 40 [.p (.int .i64 x7), .p (.bool x8), .p (.int .i64 x9), .p (.str x10), .p (.sl (Val.rows x11)), .p (.sl (strs x12))]]) (F_R03_Order_k1 n x3 x9 x1 x4 x10 x2 x8 x5 x11 x6 x12 g60) (r := r) ?_ ?_
    · intro x16 h
      unfold F_R03_Order_k1 at h
      conv => whnf
      refine ⟨fun hc => ?_, fun hc => ?_⟩
      · have h := cond_t h hc
        conv => whnf
        replace h := bnd_some h
        obtain ⟨x17, h2, h⟩ := h
        refine ⟨_, (F_R03_side_ok n _ _  _ h2), ?_⟩
        obtain rfl := Option.some.inj h
        conv => whnf
        repeat (first | exact rfl | exact trivial | refine ⟨?_, ?_⟩)
      · have h := cond_f h hc
        conv => whnf
        refine ⟨fun hc => ?_, fun hc => ?_⟩
        · have h := cond_t h hc
          conv => whnf
          replace h := bnd_some h
          obtain ⟨x18, h3, h⟩ := h
          refine ⟨_, (F_R03_side_ok n _ _  _ h3), ?_⟩
          obtain rfl := Option.some.inj h
          conv => whnf
          repeat (first | exact rfl | exact trivial | refine ⟨?_, ?_⟩)
        · have h := cond_f h hc
          conv => whnf
          refine ⟨fun hc => ?_, fun hc => ?_⟩
          · have h := cond_t h hc
            conv => whnf
            iterate 5 (refine And.intro (fun h => h) ?_)
            conv => whnf
            replace h := bnd_some h
            obtain ⟨x19, h4, h⟩ := h
            refine ⟨_, (F_R03_side_ok n _ _  _ h4), ?_⟩
            obtain rfl := Option.some.inj h
            conv => whnf
            repeat (first | exact rfl | exact trivial | refine ⟨?_, ?_⟩)
          · have h := cond_f h hc
            conv => whnf
            refine LoopA.fn [1000000] (S := Int) (fun x20 => [(2, .ptr 0 0), (3, .ptr 1 0), (7, .p (.int .i64 x20))]) (fun x20 => [.box 40 [.p (.int .i64 x1), .p (.bool x2), .p (.int .i64 x3), .p (.str x4), .p (.sl (Val.rows x5)), .p (.sl (strs x6))], .box 40 [.p (.int .i64 x7), .p (.bool x8), .p (.int .i64 x9), .p (.str x10), .p (.sl (Val.rows x11)), .p (.sl (strs x12))]]) (B := F_R03_Order_l1 n x5 x11 x1 x6 x12 g60) h ⟨[0, 1], [], ⟨rfl, rfl, rfl, rfl⟩, by repeat (first | exact trivial | exact .inl rfl | exact rfl | exact List.not_mem_nil | (refine .inr ?_) | (refine ⟨?_, ?_⟩) | exact List.length_set.symm | decide), by repeat (first | exact trivial | exact .inl rfl | exact rfl | exact List.not_mem_nil | (refine .inr ?_) | (refine ⟨?_, ?_⟩) | exact List.length_set.symm | decide)⟩ ?_
            intro nx1 x20 h
            unfold F_R03_Order_l1 at h
            conv => whnf
            iterate 5 (refine And.intro (fun h => h) ?_)
            conv => whnf
            refine ⟨fun hc => ?_, fun hc => ?_⟩
            · have h := cond_t h hc
              conv => whnf
              refine SeqA.cut (S := Int) (fun x21 => [(2, .ptr 0 0), (3, .ptr 1 0), (7, .p (.int .i64 x20)), (8, .p (.int .i64 x21))]) (fun x21 => [.box 40 [.p (.int .i64 x1), .p (.bool x2), .p (.int .i64 x3), .p (.str x4), .p (.sl (Val.rows x5)), .p (.sl (strs x6))], .box 40 [.p (.int .i64 x7), .p (.bool x8), .p (.int .i64 x9), .p (.str x10), .p (.sl (Val.rows x11)), .p (.sl (strs x12))]]) (F_R03_Order_k6 n x5 x20 x11 g60 nx1) (r := r) ?_ ?_
              · intro x21 h
                unfold F_R03_Order_k6 at h
                conv => whnf
                refine SeqA.cut (S := Int) (fun x22 => [(2, .ptr 0 0), (3, .ptr 1 0), (7, .p (.int .i64 x20)), (8, .p (.int .i64 x22))]) (fun x22 => [.box 40 [.p (.int .i64 x1), .p (.bool x2), .p (.int .i64 x3), .p (.str x4), .p (.sl (Val.rows x5)), .p (.sl (strs x6))], .box 40 [.p (.int .i64 x7), .p (.bool x8), .p (.int .i64 x9), .p (.str x10), .p (.sl (Val.rows x11)), .p (.sl (strs x12))]]) (F_R03_Order_k7 n nx1 x20) (r := r) ?_ ?_
                · intro x22 h
                  unfold F_R03_Order_k7 at h
                  conv => whnf
                  refine ⟨fun hc => ?_, fun hc => ?_⟩
                  · have h := cond_t h hc
                    obtain rfl := Option.some.inj h
                    conv => whnf
                    repeat (first | exact rfl | exact trivial | refine ⟨?_, ?_⟩)
                  · have h := cond_f h hc
                    conv => whnf
                    exact ⟨(IntKind.i64.wrap (x20 + (1 : Int))), h, ⟨[0, 1], [], ⟨rfl, rfl, rfl, rfl⟩, by repeat (first | exact trivial | exact .inl rfl | exact rfl | exact List.not_mem_nil | (refine .inr ?_) | (refine ⟨?_, ?_⟩) | exact List.length_set.symm | decide), by repeat (first | exact trivial | exact .inl rfl | exact rfl | exact List.not_mem_nil | (refine .inr ?_) | (refine ⟨?_, ?_⟩) | exact List.length_set.symm | decide)⟩⟩
                · conv => whnf
                  refine ⟨fun hc => ?_, fun hc => ?_⟩
                  · have h := cond_t h hc
                    conv => whnf
                    replace h := bnd_some h
                    obtain ⟨⟨x23, x24, x25, x26, x27, x28⟩, h7, h⟩ := h
                    refine ⟨_, Codec.at_ valC h7, ?_⟩
                    conv => whnf
                    replace h := bnd_some h
                    obtain ⟨⟨x29, x30, x31, x32, x33, x34⟩, h6, h⟩ := h
                    refine ⟨_, Codec.at_ valC h6, ?_⟩
                    conv => whnf
                    replace h := bnd_some h
                    obtain ⟨x35, h5, h⟩ := h
                    refine ⟨_, (g60_ok _ _  _ h5), ?_⟩
                    conv => whnf
                    exact ⟨x35, h, ⟨[0, 1], [], ⟨rfl, rfl, rfl, rfl⟩, by repeat (first | exact trivial | exact .inl rfl | exact rfl | exact List.not_mem_nil | (refine .inr ?_) | (refine ⟨?_, ?_⟩) | exact List.length_set.symm | decide), by repeat (first | exact trivial | exact .inl rfl | exact rfl | exact List.not_mem_nil | (refine .inr ?_) | (refine ⟨?_, ?_⟩) | exact List.length_set.symm | decide)⟩⟩
                  · have h := cond_f h hc
                    conv => whnf
                    exact ⟨x21, h, ⟨[0, 1], [], ⟨rfl, rfl, rfl, rfl⟩, by repeat (first | exact trivial | exact .inl rfl | exact rfl | exact List.not_mem_nil | (refine .inr ?_) | (refine ⟨?_, ?_⟩) | exact List.length_set.symm | decide), by repeat (first | exact trivial | exact .inl rfl | exact rfl | exact List.not_mem_nil | (refine .inr ?_) | (refine ⟨?_, ?_⟩) | exact List.length_set.symm | decide)⟩⟩
              · conv => whnf
                refine ⟨fun hc => ?_, fun hc => ?_⟩
                · have h := cond_t h hc
                  conv => whnf
                  replace h := bnd_some h
                  obtain ⟨x36, h12, h⟩ := h
                  refine ⟨_, Codec.at_ strC h12, ?_⟩
                  conv => whnf
                  replace h := bnd_some h
                  obtain ⟨x37, h11, h⟩ := h
                  refine ⟨_, Codec.at_ strC h11, ?_⟩
                  conv => whnf
                  replace h := bnd_some h
                  obtain ⟨x38, h10, h⟩ := h
                  refine ⟨_, Codec.at_ strC h10, ?_⟩
                  conv => whnf
                  replace h := bnd_some h
                  obtain ⟨x39, h9, h⟩ := h
                  refine ⟨_, Codec.at_ strC h9, ?_⟩
                  conv => whnf
                  replace h := bnd_some h
                  obtain ⟨x40, h8, h⟩ := h
                  refine ⟨_, (F_R03_side_ok n _ _  _ h8), ?_⟩
                  conv => whnf
                  exact ⟨x40, h, ⟨[0, 1], [], ⟨rfl, rfl, rfl, rfl⟩, by repeat (first | exact trivial | exact .inl rfl | exact rfl | exact List.not_mem_nil | (refine .inr ?_) | (refine ⟨?_, ?_⟩) | exact List.length_set.symm | decide), by repeat (first | exact trivial | exact .inl rfl | exact rfl | exact List.not_mem_nil | (refine .inr ?_) | (refine ⟨?_, ?_⟩) | exact List.length_set.symm | decide)⟩⟩
                · have h := cond_f h hc
                  conv => whnf
                  exact ⟨(0 : Int), h, ⟨[0, 1], [], ⟨rfl, rfl, rfl, rfl⟩, by repeat (first | exact trivial | exact .inl rfl | exact rfl | exact List.not_mem_nil | (refine .inr ?_) | (refine ⟨?_, ?_⟩) | exact List.length_set.symm | decide), by repeat (first | exact trivial | exact .inl rfl | exact rfl | exact List.not_mem_nil | (refine .inr ?_) | (refine ⟨?_, ?_⟩) | exact List.length_set.symm | decide)⟩⟩
            · have h := cond_f h hc
              conv => whnf
              replace h := bnd_some h
              obtain ⟨x41, h13, h⟩ := h
              refine ⟨_, (F_R03_side_ok n _ _  _ h13), ?_⟩
              obtain rfl := Option.some.inj h
              conv => whnf
              repeat (first | exact rfl | exact trivial | refine ⟨?_, ?_⟩)
    · conv => whnf
      refine ⟨fun hc => ?_, fun hc => ?_⟩
      · have h := cond_t h hc
        conv => whnf
        exact ⟨(x1 == (2 : Int)), h, ⟨[0, 1], [], ⟨rfl, rfl, rfl, rfl⟩, by repeat (first | exact trivial | exact .inl rfl | exact rfl | exact List.not_mem_nil | (refine .inr ?_) | (refine ⟨?_, ?_⟩) | exact List.length_set.symm | decide), by repeat (first | exact trivial | exact .inl rfl | exact rfl | exact List.not_mem_nil | (refine .inr ?_) | (refine ⟨?_, ?_⟩) | exact List.length_set.symm | decide)⟩⟩
      · have h := cond_f h hc
        conv => whnf
        refine ⟨fun hc => ?_, fun hc => ?_⟩
        · have h := cond_t h hc
          conv => whnf
          exact ⟨(x1 == (6 : Int)), h, ⟨[0, 1], [], ⟨rfl, rfl, rfl, rfl⟩, by repeat (first | exact trivial | exact .inl rfl | exact rfl | exact List.not_mem_nil | (refine .inr ?_) | (refine ⟨?_, ?_⟩) | exact List.length_set.symm | decide), by repeat (first | exact trivial | exact .inl rfl | exact rfl | exact List.not_mem_nil | (refine .inr ?_) | (refine ⟨?_, ?_⟩) | exact List.length_set.symm | decide)⟩⟩
        · have h := cond_f h hc
          conv => whnf
          exact ⟨(x1 == (7 : Int)), h, ⟨[0, 1], [], ⟨rfl, rfl, rfl, rfl⟩, by repeat (first | exact trivial | exact .inl rfl | exact rfl | exact List.not_mem_nil | (refine .inr ?_) | (refine ⟨?_, ?_⟩) | exact List.length_set.symm | decide), by repeat (first | exact trivial | exact .inl rfl | exact rfl | exact List.not_mem_nil | (refine .inr ?_) | (refine ⟨?_, ?_⟩) | exact List.length_set.symm | decide)⟩⟩

def F_R03_Order : Nat → Val → Val → Option (Int)
  | 0 => fun _ _ => none
  | n + 1 => BF_R03_Order n (F_R03_Order n)

set_option maxRecDepth 100000 in
theorem F_R03_Order_all (n : Nat) : (∀ (a0_ : Val) (a1_ : Val) (r : Int), F_R03_Order n a0_ a1_ = some r → CallsF Tryd.prog 60 [PV.agg (valC.cells a0_), PV.agg (valC.cells a1_)] (R_F_R03_Order r)) := by
  induction n with
  | zero => exact (by intros; rename_i h; cases h)
  | succ n ih =>
    have hg60 := ih
    exact BF_R03_Order_ok n (F_R03_Order n) hg60

set_option maxRecDepth 100000 in
theorem F_R03_Order_ok (n : Nat) : ∀ (a0_ : Val) (a1_ : Val) (r : Int), F_R03_Order n a0_ a1_ = some r → CallsF Tryd.prog 60 [PV.agg (valC.cells a0_), PV.agg (valC.cells a1_)] (R_F_R03_Order r) := (F_R03_Order_all n)

abbrev R_F_R17_ahead (r : Bool) : PV := PV.bool r

def F_R17_ahead_k3 (n : Nat) (nx1 : Int → Option (Bool)) (x4 : Int) : Int → Option (Bool) := fun x18 =>
 bif (x18 != (0 : Int)) then (
 some (decide (x18 < (0 : Int))))
else (
 nx1 (IntKind.i64.wrap (x4 + (1 : Int))))

def F_R17_ahead_l1 (n : Nat) (x3 : List Bool) (x1 : List Val) (x2 : List Val) : (Int → Option (Bool)) → Int → Option (Bool) := fun nx1 x4 =>
 bif (decide (x4 < (((boolRows x3).length : Nat) : Int))) then (
 bnd (idx x1 x4) fun ⟨x5, x6, x7, x8, x9, x10⟩ =>
 bnd (idx x2 x4) fun ⟨x11, x12, x13, x14, x15, x16⟩ =>
 bnd (F_R03_Order n (Val.mk x5 x6 x7 x8 x9 x10) (Val.mk x11 x12 x13 x14 x15 x16)) fun x17 =>
 bnd (idx x3 x4) fun x19 =>
 bif x19 then (
 F_R17_ahead_k3 n nx1 x4 (IntKind.i64.wrap ((0 : Int) - x17)))
else (
 F_R17_ahead_k3 n nx1 x4 x17))
else (
 some false)

def F_R17_ahead (n : Nat)  (x1 : List Val) (x2 : List Val) (x3 : List Bool) : Option (Bool) :=
  loopK (F_R17_ahead_l1 n x3 x1 x2) n (0 : Int)

set_option maxRecDepth 100000 in
theorem F_R17_ahead_ok (n : Nat)   : ∀ (x1 : List Val) (x2 : List Val) (x3 : List Bool) (r : Bool), F_R17_ahead n x1 x2 x3 = some r → CallsF Tryd.prog 40 [PV.sl (Val.rows x1), PV.sl (Val.rows x2), PV.sl (boolRows x3)] (R_F_R17_ahead r) := by
  intro x1 x2 x3 r h
  unfold F_R17_ahead at h
  refine CallsF.of_vcN mixed (fun _ _ => Tryd.call40 _ _) Tryd.func40 (by kernel_rfl) (inl := [1000000]) ?_
  conv => whnf
  refine LoopA.fn [1000000] (S := Int) (fun x4 => [(0, .p (.sl (Val.rows x1))), (1, .p (.sl (Val.rows x2))), (2, .p (.sl (boolRows x3))), (7, .p (.int .i64 x4))]) (fun x4 => []) (B := F_R17_ahead_l1 n x3 x1 x2) h ⟨[], [], ⟨rfl, rfl, rfl, rfl⟩, by repeat (first | exact trivial | exact .inl rfl | exact rfl | exact List.not_mem_nil | (refine .inr ?_) | (refine ⟨?_, ?_⟩) | exact List.length_set.symm | decide), by repeat (first | exact trivial | exact .inl rfl | exact rfl | exact List.not_mem_nil | (refine .inr ?_) | (refine ⟨?_, ?_⟩) | exact List.length_set.symm | decide)⟩ ?_
  intro nx1 x4 h
  unfold F_R17_ahead_l1 at h
  conv => whnf
  refine ⟨fun hc => ?_, fun hc => ?_⟩
  · have h := cond_t h hc
    conv => whnf
    replace h := bnd_some h
    obtain ⟨⟨x5, x6, x7, x8, x9, x10⟩, h4, h⟩ := h
    refine ⟨_, Codec.at_ valC h4, ?_⟩
    conv => whnf
    replace h := bnd_some h
    obtain ⟨⟨x11, x12, x13, x14, x15, x16⟩, h3, h⟩ := h
    refine ⟨_, Codec.at_ valC h3, ?_⟩
    conv => whnf
    replace h := bnd_some h
    obtain ⟨x17, h2, h⟩ := h
    refine ⟨_, (F_R03_Order_ok n _ _  _ h2), ?_⟩
    conv => whnf
    refine SeqA.cut (S := Int) (fun x18 => [(0, .p (.sl (Val.rows x1))), (1, .p (.sl (Val.rows x2))), (2, .p (.sl (boolRows x3))), (7, .p (.int .i64 x4)), (8, .p (.int .i64 x18))]) (fun x18 => []) (F_R17_ahead_k3 n nx1 x4) (r := r) ?_ ?_
    · intro x18 h
      unfold F_R17_ahead_k3 at h
      conv => whnf
      refine ⟨fun hc => ?_, fun hc => ?_⟩
      · have h := cond_t h hc
        obtain rfl := Option.some.inj h
        conv => whnf
        repeat (first | exact rfl | exact trivial | refine ⟨?_, ?_⟩)
      · have h := cond_f h hc
        conv => whnf
        exact ⟨(IntKind.i64.wrap (x4 + (1 : Int))), h, ⟨[], [], ⟨rfl, rfl, rfl, rfl⟩, by repeat (first | exact trivial | exact .inl rfl | exact rfl | exact List.not_mem_nil | (refine .inr ?_) | (refine ⟨?_, ?_⟩) | exact List.length_set.symm | decide), by repeat (first | exact trivial | exact .inl rfl | exact rfl | exact List.not_mem_nil | (refine .inr ?_) | (refine ⟨?_, ?_⟩) | exact List.length_set.symm | decide)⟩⟩
    · conv => whnf
      replace h := bnd_some h
      obtain ⟨x19, h1, h⟩ := h
      refine ⟨_, Codec.at_ boolC h1, ?_⟩
      conv => whnf
      refine ⟨fun hc => ?_, fun hc => ?_⟩
      · have h := cond_t h hc
        conv => whnf
        exact ⟨(IntKind.i64.wrap ((0 : Int) - x17)), h, ⟨[], [], ⟨rfl, rfl, rfl, rfl⟩, by repeat (first | exact trivial | exact .inl rfl | exact rfl | exact List.not_mem_nil | (refine .inr ?_) | (refine ⟨?_, ?_⟩) | exact List.length_set.symm | decide), by repeat (first | exact trivial | exact .inl rfl | exact rfl | exact List.not_mem_nil | (refine .inr ?_) | (refine ⟨?_, ?_⟩) | exact List.length_set.symm | decide)⟩⟩
      · have h := cond_f h hc
        conv => whnf
        exact ⟨x17, h, ⟨[], [], ⟨rfl, rfl, rfl, rfl⟩, by repeat (first | exact trivial | exact .inl rfl | exact rfl | exact List.not_mem_nil | (refine .inr ?_) | (refine ⟨?_, ?_⟩) | exact List.length_set.symm | decide), by repeat (first | exact trivial | exact .inl rfl | exact rfl | exact List.not_mem_nil | (refine .inr ?_) | (refine ⟨?_, ?_⟩) | exact List.length_set.symm | decide)⟩⟩
  · have h := cond_f h hc
    obtain rfl := Option.some.inj h
    conv => whnf
    repeat (first | exact rfl | exact trivial | refine ⟨?_, ?_⟩)

abbrev R_F_R17_Sort (r : List (List Val)) : PV := PV.sl (slRows valC r)

def F_R17_Sort_l2 (n : Nat) (x2 : List (List Val)) (x3 : List Bool) (nx1 : List Int × Int → Option (List (List Val))) (x5 : Int) : (Int × List Int → Option (List (List Val))) → Int × List Int → Option (List (List Val)) := fun nx2 (x6, x7) =>
 bnd (gsome (decide (x6 > (0 : Int))) (natI x6)) fun x8 =>
 chk (bif (decide (x6 > (0 : Int))) then decide (x8 < (intRows .i64 x7).length) else true) (
 bnd (gsome (decide (x6 > (0 : Int))) (x7[x8]?)) fun x9 =>
 bnd (gsome (decide (x6 > (0 : Int))) (idx x2 x9)) fun x10 =>
 bnd (gsome (decide (x6 > (0 : Int))) (natI (IntKind.i64.wrap (x6 - (1 : Int))))) fun x11 =>
 chk (bif (decide (x6 > (0 : Int))) then decide (x11 < (intRows .i64 x7).length) else true) (
 bnd (gsome (decide (x6 > (0 : Int))) (x7[x11]?)) fun x12 =>
 bnd (gsome (decide (x6 > (0 : Int))) (idx x2 x12)) fun x13 =>
 bnd (gsome (decide (x6 > (0 : Int))) (F_R17_ahead n x10 x13 x3)) fun x14 =>
 bif (bif (decide (x6 > (0 : Int))) then x14 else false) then (
 bnd (natI x6) fun x15 =>
 chk (decide (x15 < (intRows .i64 x7).length)) (
 bnd (x7[x15]?) fun x16 =>
 bnd (natI (IntKind.i64.wrap (x6 - (1 : Int)))) fun x17 =>
 chk (decide (x17 < (intRows .i64 x7).length)) (
 bnd (x7[x17]?) fun x18 =>
 bnd (natI x6) fun x19 =>
 chk (decide (x19 < (intRows .i64 x7).length)) (
 bnd (x7[x19]?) fun x20 =>
 bnd (natI (IntKind.i64.wrap (x6 - (1 : Int)))) fun x21 =>
 chk (decide (x21 < (intRows .i64 x7).length)) (
 bnd ((x7.set x19 x18)[x21]?) fun x22 =>
 nx2 ((IntKind.i64.wrap (x6 - (1 : Int))), ((x7.set x19 x18).set x21 x16)))))))
else (
 nx1 (x7, (IntKind.i64.wrap (x5 + (1 : Int)))))))

def F_R17_Sort_l3 (n : Nat) (x4 : List Int) (x1 : List (List Val)) : (List (List Val) × Int → Option (List (List Val))) → List (List Val) × Int → Option (List (List Val)) := fun nx3 (x23, x24) =>
 bif (decide (x24 < ((((intRows .i64 x4).length) : Nat) : Int))) then (
 bnd (natI x24) fun x25 =>
 chk (decide (x25 < (intRows .i64 x4).length)) (
 bnd (x4[x25]?) fun x26 =>
 bnd (idx x1 x26) fun x27 =>
 chk (decide ((slRows valC (x23 ++ [x27])).length * 24 ≤ 140737488355328)) (
 nx3 ((x23 ++ [x27]), (IntKind.i64.wrap (x24 + (1 : Int)))))))
else (
 some x23)

def F_R17_Sort_l1 (n : Nat) (x1 : List (List Val)) (x2 : List (List Val)) (x3 : List Bool) : (List Int × Int → Option (List (List Val))) → List Int × Int → Option (List (List Val)) := fun nx1 (x4, x5) =>
 bif (decide (x5 < (((slRows valC x1).length : Nat) : Int))) then (
 chk (decide ((intRows .i64 (x4 ++ [x5])).length * 8 ≤ 140737488355328)) (
 loopK (F_R17_Sort_l2 n x2 x3 nx1 x5) n (x5, (x4 ++ [x5]))))
else (
 loopK (F_R17_Sort_l3 n x4 x1) n (([] : List _), (0 : Int)))

def F_R17_Sort (n : Nat)  (x1 : List (List Val)) (x2 : List (List Val)) (x3 : List Bool) : Option (List (List Val)) :=
  loopK (F_R17_Sort_l1 n x1 x2 x3) n (([] : List _), (0 : Int))

set_option maxHeartbeats 4000000 in
set_option maxRecDepth 100000 in
theorem F_R17_Sort_ok (n : Nat)   : ∀ (x1 : List (List Val)) (x2 : List (List Val)) (x3 : List Bool) (r : List (List Val)), F_R17_Sort n x1 x2 x3 = some r → CallsF Tryd.prog 20 [PV.sl (slRows valC x1), PV.sl (slRows valC x2), PV.sl (boolRows x3)] (R_F_R17_Sort r) := by
  intro x1 x2 x3 r h
  unfold F_R17_Sort at h
  refine CallsF.of_vcN mixed (fun _ _ => Tryd.call20 _ _) Tryd.func20 (by kernel_rfl) (inl := [1000000]) ?_
  conv => whnf
  refine LoopA.fn [1000000] (S := List Int × Int) (fun (x4, x5) => [(0, .p (.sl (slRows valC x1))), (1, .p (.sl (slRows valC x2))), (2, .p (.sl (boolRows x3))), (7, .vsl 0 ((intRows .i64 x4).length)), (8, .p (.int .i64 x5))]) (fun (x4, x5) => [.vec 3 1 (intRows .i64 x4)]) (B := F_R17_Sort_l1 n x1 x2 x3) h ⟨[0], [0], ⟨rfl, rfl, rfl, rfl⟩, by repeat (first | exact trivial | (focus (simp only [intRows, boolRows, valRows_len, Codec.length, List.length_map, List.length_set, List.length_append]; done)) | exact .inl rfl | exact rfl | exact List.not_mem_nil | (refine .inr ?_) | (refine ⟨?_, ?_⟩) | exact List.length_set.symm | decide), by repeat (first | exact trivial | (focus (simp only [intRows, boolRows, valRows_len, Codec.length, List.length_map, List.length_set, List.length_append]; done)) | exact .inl rfl | exact rfl | exact List.not_mem_nil | (refine .inr ?_) | (refine ⟨?_, ?_⟩) | exact List.length_set.symm | decide)⟩ ?_
  intro nx1 st h
  obtain ⟨x4, x5⟩ := st
  unfold F_R17_Sort_l1 at h
  conv => whnf
  refine ⟨fun hc => ?_, fun hc => ?_⟩
  · have h := cond_t h hc
    conv => whnf
    refine ⟨Codec.one (intC .i64) [x5], intRows .i64 [x5], .inl rfl, ?_⟩
    conv => whnf
    obtain ⟨h22, h⟩ := chk_some h
    refine ⟨_, ⟨Codec.append (intC .i64) x4 [x5], rfl, rfl, Codec.wide (intC .i64) [x5], of_decide_eq_true h22, len_ok h22 (by decide)⟩, ?_⟩
    conv => whnf
    refine LoopA.fn [1000000] (S := Int × List Int) (fun (x6, x7) => [(0, .p (.sl (slRows valC x1))), (1, .p (.sl (slRows valC x2))), (2, .p (.sl (boolRows x3))), (7, .vsl 0 ((intRows .i64 x7).length)), (8, .p (.int .i64 x5)), (9, .p (.int .i64 x6))]) (fun (x6, x7) => [.vec 3 1 (intRows .i64 x7)]) (B := F_R17_Sort_l2 n x2 x3 nx1 x5) h ⟨[1], [], ⟨rfl, rfl, rfl, rfl⟩, by repeat (first | exact trivial | (focus (simp only [intRows, boolRows, valRows_len, Codec.length, List.length_map, List.length_set, List.length_append]; done)) | exact .inl rfl | exact rfl | exact List.not_mem_nil | (refine .inr ?_) | (refine ⟨?_, ?_⟩) | exact List.length_set.symm | decide), by repeat (first | exact trivial | (focus (simp only [intRows, boolRows, valRows_len, Codec.length, List.length_map, List.length_set, List.length_append]; done)) | exact .inl rfl | exact rfl | exact List.not_mem_nil | (refine .inr ?_) | (refine ⟨?_, ?_⟩) | exact List.length_set.symm | decide)⟩ ?_
    intro nx2 st h
    obtain ⟨x6, x7⟩ := st
    unfold F_R17_Sort_l2 at h
    conv => whnf
    iterate 2 (refine And.intro (fun h => h) ?_)
    conv => whnf
    replace h := bnd_some h
    obtain ⟨x8, h1, h⟩ := h
    obtain ⟨h2, h⟩ := chk_some h
    refine ⟨x8, fun hg => ⟨natI_some (gsome_some h1 hg), of_decide_eq_true (gd h2 hg)⟩, ?_⟩
    conv => whnf
    refine And.intro (fun h => h) ?_
    conv => whnf
    replace h := bnd_some h
    obtain ⟨x9, h21, h⟩ := h
    refine ⟨_, fun hg => ⟨rfl, Codec.getN (intC .i64) (gsome_some h21 hg)⟩, ?_⟩
    conv => whnf
    iterate 2 (refine And.intro (fun h => h) ?_)
    conv => whnf
    replace h := bnd_some h
    obtain ⟨x10, h20, h⟩ := h
    refine ⟨_, fun hg => Codec.at_ (slC valC) (gsome_some h20 hg), ?_⟩
    conv => whnf
    iterate 4 (refine And.intro (fun h => h) ?_)
    conv => whnf
    replace h := bnd_some h
    obtain ⟨x11, h3, h⟩ := h
    obtain ⟨h4, h⟩ := chk_some h
    refine ⟨x11, fun hg => ⟨natI_some (gsome_some h3 hg), of_decide_eq_true (gd h4 hg)⟩, ?_⟩
    conv => whnf
    refine And.intro (fun h => h) ?_
    conv => whnf
    replace h := bnd_some h
    obtain ⟨x12, h19, h⟩ := h
    refine ⟨_, fun hg => ⟨rfl, Codec.getN (intC .i64) (gsome_some h19 hg)⟩, ?_⟩
    conv => whnf
    iterate 2 (refine And.intro (fun h => h) ?_)
    conv => whnf
    replace h := bnd_some h
    obtain ⟨x13, h18, h⟩ := h
    refine ⟨_, fun hg => Codec.at_ (slC valC) (gsome_some h18 hg), ?_⟩
    conv => whnf
    iterate 4 (refine And.intro (fun h => h) ?_)
    conv => whnf
    replace h := bnd_some h
    obtain ⟨x14, h17, h⟩ := h
    refine ⟨_, fun hg => (F_R17_ahead_ok n _ _ _  _ (gsome_some h17 hg)), ?_⟩
    conv => whnf
    refine And.intro (fun h => h) ?_
    conv => whnf
    refine ⟨fun hc => ?_, fun hc => ?_⟩
    · have h := cond_t h hc
      conv => whnf
      replace h := bnd_some h
      obtain ⟨x15, h16, h⟩ := h
      have hj := natI_some h16
      conv => whnf
      obtain ⟨h15, h⟩ := chk_some h
      refine ⟨x15, ⟨hj, of_decide_eq_true h15⟩, ?_⟩
      conv => whnf
      replace h := bnd_some h
      obtain ⟨x16, h14, h⟩ := h
      refine ⟨_, ⟨rfl, Codec.getN (intC .i64) h14⟩, ?_⟩
      conv => whnf
      replace h := bnd_some h
      obtain ⟨x17, h13, h⟩ := h
      have hj := natI_some h13
      conv => whnf
      obtain ⟨h12, h⟩ := chk_some h
      refine ⟨x17, ⟨hj, of_decide_eq_true h12⟩, ?_⟩
      conv => whnf
      replace h := bnd_some h
      obtain ⟨x18, h11, h⟩ := h
      refine ⟨_, ⟨rfl, Codec.getN (intC .i64) h11⟩, ?_⟩
      conv => whnf
      replace h := bnd_some h
      obtain ⟨x19, h10, h⟩ := h
      have hj := natI_some h10
      conv => whnf
      obtain ⟨h9, h⟩ := chk_some h
      refine ⟨x19, ⟨hj, of_decide_eq_true h9⟩, ?_⟩
      conv => whnf
      replace h := bnd_some h
      obtain ⟨x20, h8, h⟩ := h
      refine ⟨_, ⟨rfl, Codec.getN (intC .i64) h8, rfl⟩, ?_⟩
      conv => whnf
      refine ⟨_, Codec.setN (intC .i64) x7 x19 x18, ?_⟩
      conv => whnf
      replace h := bnd_some h
      obtain ⟨x21, h7, h⟩ := h
      have hj := natI_some h7
      conv => whnf
      obtain ⟨h6, h⟩ := chk_some h
      refine ⟨x21, ⟨hj, of_decide_eq_true h6⟩, ?_⟩
      conv => whnf
      replace h := bnd_some h
      obtain ⟨x22, h5, h⟩ := h
      refine ⟨_, ⟨rfl, Codec.getN (intC .i64) h5, rfl⟩, ?_⟩
      conv => whnf
      refine ⟨_, Codec.setN (intC .i64) (x7.set x19 x18) x21 x16, ?_⟩
      conv => whnf
      exact ⟨((IntKind.i64.wrap (x6 - (1 : Int))), ((x7.set x19 x18).set x21 x16)), h, ⟨[0], [], ⟨rfl, rfl, rfl, rfl⟩, by repeat (first | exact trivial | (focus (simp only [intRows, boolRows, valRows_len, Codec.length, List.length_map, List.length_set, List.length_append]; done)) | exact .inl rfl | exact rfl | exact List.not_mem_nil | (refine .inr ?_) | (refine ⟨?_, ?_⟩) | exact List.length_set.symm | decide), by repeat (first | exact trivial | (focus (simp only [intRows, boolRows, valRows_len, Codec.length, List.length_map, List.length_set, List.length_append]; done)) | exact .inl rfl | exact rfl | exact List.not_mem_nil | (refine .inr ?_) | (refine ⟨?_, ?_⟩) | exact List.length_set.symm | decide)⟩⟩
    · have h := cond_f h hc
      conv => whnf
      exact ⟨(x7, (IntKind.i64.wrap (x5 + (1 : Int)))), h, ⟨[0], [], ⟨rfl, rfl, rfl, rfl⟩, by repeat (first | exact trivial | (focus (simp only [intRows, boolRows, valRows_len, Codec.length, List.length_map, List.length_set, List.length_append]; done)) | exact .inl rfl | exact rfl | exact List.not_mem_nil | (refine .inr ?_) | (refine ⟨?_, ?_⟩) | exact List.length_set.symm | decide), by repeat (first | exact trivial | (focus (simp only [intRows, boolRows, valRows_len, Codec.length, List.length_map, List.length_set, List.length_append]; done)) | exact .inl rfl | exact rfl | exact List.not_mem_nil | (refine .inr ?_) | (refine ⟨?_, ?_⟩) | exact List.length_set.symm | decide)⟩⟩
  · have h := cond_f h hc
    conv => whnf
    refine LoopA.fn [1000000] (S := List (List Val) × Int) (fun (x23, x24) => [(0, .p (.sl (slRows valC x1))), (7, .vsl 0 ((intRows .i64 x4).length)), (11, .tsl 1 (slRows valC x23)), (12, .p (.int .i64 x24))]) (fun (x23, x24) => [.vec 3 1 (intRows .i64 x4), .tail 37 1 (slRows valC x23).length]) (B := F_R17_Sort_l3 n x4 x1) h ⟨[0, 0], [1], ⟨rfl, rfl, rfl, rfl⟩, by repeat (first | exact trivial | (focus (simp only [intRows, boolRows, valRows_len, Codec.length, List.length_map, List.length_set, List.length_append]; done)) | exact .inl rfl | exact rfl | exact List.not_mem_nil | (refine .inr ?_) | (refine ⟨?_, ?_⟩) | exact List.length_set.symm | decide), by repeat (first | exact trivial | (focus (simp only [intRows, boolRows, valRows_len, Codec.length, List.length_map, List.length_set, List.length_append]; done)) | exact .inl rfl | exact rfl | exact List.not_mem_nil | (refine .inr ?_) | (refine ⟨?_, ?_⟩) | exact List.length_set.symm | decide)⟩ ?_
    intro nx3 st h
    obtain ⟨x23, x24⟩ := st
    unfold F_R17_Sort_l3 at h
    conv => whnf
    refine ⟨fun hc => ?_, fun hc => ?_⟩
    · have h := cond_t h hc
      conv => whnf
      replace h := bnd_some h
      obtain ⟨x25, h27, h⟩ := h
      have hj := natI_some h27
      conv => whnf
      obtain ⟨h26, h⟩ := chk_some h
      refine ⟨x25, ⟨hj, of_decide_eq_true h26⟩, ?_⟩
      conv => whnf
      replace h := bnd_some h
      obtain ⟨x26, h25, h⟩ := h
      refine ⟨_, ⟨rfl, Codec.getN (intC .i64) h25⟩, ?_⟩
      conv => whnf
      replace h := bnd_some h
      obtain ⟨x27, h24, h⟩ := h
      refine ⟨_, Codec.at_ (slC valC) h24, ?_⟩
      conv => whnf
      refine ⟨Codec.one (slC valC) [x27], slRows valC [x27], .inl rfl, ?_⟩
      conv => whnf
      rw [show slRows valC x23 ++ slRows valC [x27] = slRows valC (x23 ++ [x27]) from Codec.append (slC valC) x23 [x27]]
      conv => whnf
      obtain ⟨h23, h⟩ := chk_some h
      refine ⟨⟨Codec.wide (slC valC) (x23 ++ [x27]), of_decide_eq_true h23, len_ok h23 (by decide)⟩, ?_⟩
      conv => whnf
      refine ⟨⟨rfl, rfl, rfl⟩, ?_⟩
      conv => whnf
      exact ⟨((x23 ++ [x27]), (IntKind.i64.wrap (x24 + (1 : Int)))), h, ⟨[0, 2], [], ⟨rfl, rfl, rfl, rfl⟩, by repeat (first | exact trivial | (focus (simp only [intRows, boolRows, valRows_len, Codec.length, List.length_map, List.length_set, List.length_append]; done)) | exact .inl rfl | exact rfl | exact List.not_mem_nil | (refine .inr ?_) | (refine ⟨?_, ?_⟩) | exact List.length_set.symm | decide), by repeat (first | exact trivial | (focus (simp only [intRows, boolRows, valRows_len, Codec.length, List.length_map, List.length_set, List.length_append]; done)) | exact .inl rfl | exact rfl | exact List.not_mem_nil | (refine .inr ?_) | (refine ⟨?_, ?_⟩) | exact List.length_set.symm | decide)⟩⟩
    · have h := cond_f h hc
      obtain rfl := Option.some.inj h
      conv => whnf
      repeat (first | exact rfl | exact trivial | refine ⟨?_, ?_⟩)

abbrev R_F_R03_SameNames (r : Bool) : PV := PV.bool r

def F_R03_SameNames_l1 (n : Nat) (x1 : List (List UInt8)) (x2 : List (List UInt8)) : (Int → Option (Bool)) → Int → Option (Bool) := fun nx1 x3 =>
 bif (decide (x3 < (((strs x1).length : Nat) : Int))) then (
 bnd (idx x1 x3) fun x4 =>
 bnd (idx x2 x3) fun x5 =>
 bif (!(x4 == x5)) then (
 some false)
else (
 nx1 (IntKind.i64.wrap (x3 + (1 : Int)))))
else (
 some true)

def F_R03_SameNames (n : Nat)  (x1 : List (List UInt8)) (x2 : List (List UInt8)) : Option (Bool) :=
  bif ((((strs x1).length : Nat) : Int) != (((strs x2).length : Nat) : Int)) then (
  some false)
  else (
  loopK (F_R03_SameNames_l1 n x1 x2) n (0 : Int))

set_option maxRecDepth 100000 in
theorem F_R03_SameNames_ok (n : Nat)   : ∀ (x1 : List (List UInt8)) (x2 : List (List UInt8)) (r : Bool), F_R03_SameNames n x1 x2 = some r → CallsF Tryd.prog 72 [PV.sl (strs x1), PV.sl (strs x2)] (R_F_R03_SameNames r) := by
  intro x1 x2 r h
  unfold F_R03_SameNames at h
  refine CallsF.of_vcN mixed (fun _ _ => Tryd.call72 _ _) Tryd.func72 (by kernel_rfl) (inl := [1000000]) ?_
  conv => whnf
  refine ⟨fun hc => ?_, fun hc => ?_⟩
  · have h := cond_t h hc
    obtain rfl := Option.some.inj h
    conv => whnf
    repeat (first | exact rfl | exact trivial | refine ⟨?_, ?_⟩)
  · have h := cond_f h hc
    conv => whnf
    refine LoopA.fn [1000000] (S := Int) (fun x3 => [(0, .p (.sl (strs x1))), (1, .p (.sl (strs x2))), (5, .p (.int .i64 x3))]) (fun x3 => []) (B := F_R03_SameNames_l1 n x1 x2) h ⟨[], [], ⟨rfl, rfl, rfl, rfl⟩, by repeat (first | exact trivial | exact .inl rfl | exact rfl | exact List.not_mem_nil | (refine .inr ?_) | (refine ⟨?_, ?_⟩) | exact List.length_set.symm | decide), by repeat (first | exact trivial | exact .inl rfl | exact rfl | exact List.not_mem_nil | (refine .inr ?_) | (refine ⟨?_, ?_⟩) | exact List.length_set.symm | decide)⟩ ?_
    intro nx1 x3 h
    unfold F_R03_SameNames_l1 at h
    conv => whnf
    refine ⟨fun hc => ?_, fun hc => ?_⟩
    · have h := cond_t h hc
      conv => whnf
      replace h := bnd_some h
      obtain ⟨x4, h2, h⟩ := h
      refine ⟨_, Codec.at_ strC h2, ?_⟩
      conv => whnf
      replace h := bnd_some h
      obtain ⟨x5, h1, h⟩ := h
      refine ⟨_, Codec.at_ strC h1, ?_⟩
      conv => whnf
      refine ⟨fun hc => ?_, fun hc => ?_⟩
      · have h := cond_t h hc
        obtain rfl := Option.some.inj h
        conv => whnf
        repeat (first | exact rfl | exact trivial | refine ⟨?_, ?_⟩)
      · have h := cond_f h hc
        conv => whnf
        exact ⟨(IntKind.i64.wrap (x3 + (1 : Int))), h, ⟨[], [], ⟨rfl, rfl, rfl, rfl⟩, by repeat (first | exact trivial | exact .inl rfl | exact rfl | exact List.not_mem_nil | (refine .inr ?_) | (refine ⟨?_, ?_⟩) | exact List.length_set.symm | decide), by repeat (first | exact trivial | exact .inl rfl | exact rfl | exact List.not_mem_nil | (refine .inr ?_) | (refine ⟨?_, ?_⟩) | exact List.length_set.symm | decide)⟩⟩
    · have h := cond_f h hc
      obtain rfl := Option.some.inj h
      conv => whnf
      repeat (first | exact rfl | exact trivial | refine ⟨?_, ?_⟩)

abbrev R_F_R03_SameList (r : Bool) : PV := PV.bool r

def F_R03_SameList_l1 (n : Nat) (x1 : List Val) (x2 : List Val) (g58 : Val → Val → Option (Bool)) : (Int → Option (Bool)) → Int → Option (Bool) := fun nx1 x3 =>
 bif (decide (x3 < (((Val.rows x1).length : Nat) : Int))) then (
 bnd (idx x1 x3) fun ⟨x4, x5, x6, x7, x8, x9⟩ =>
 bnd (idx x2 x3) fun ⟨x10, x11, x12, x13, x14, x15⟩ =>
 bnd (g58 (Val.mk x4 x5 x6 x7 x8 x9) (Val.mk x10 x11 x12 x13 x14 x15)) fun x16 =>
 bif (!x16) then (
 some false)
else (
 nx1 (IntKind.i64.wrap (x3 + (1 : Int)))))
else (
 some true)

def BF_R03_SameList (n : Nat) (g35 : (List Val) → (List Val) → Option (Bool)) (g58 : Val → Val → Option (Bool)) (x1 : List Val) (x2 : List Val) : Option (Bool) :=
  bif ((((Val.rows x1).length : Nat) : Int) != (((Val.rows x2).length : Nat) : Int)) then (
  some false)
  else (
  loopK (F_R03_SameList_l1 n x1 x2 g58) n (0 : Int))

abbrev R_F_R03_Same (r : Bool) : PV := PV.bool r

def BF_R03_Same (n : Nat) (g35 : (List Val) → (List Val) → Option (Bool)) (g58 : Val → Val → Option (Bool)) (a0_ : Val) (a1_ : Val) : Option (Bool) :=
  match a0_, a1_ with
  | ⟨x1, x2, x3, x4, x5, x6⟩, ⟨x7, x8, x9, x10, x11, x12⟩ =>
  bnd (gsome (bif (bif (bif (x1 == x7) then (x2 == x8) else false) then (x3 == x9) else false) then (x4 == x10) else false) (F_R03_SameNames n x6 x12)) fun x13 =>
  bnd (gsome (bif (bif (bif (bif (x1 == x7) then (x2 == x8) else false) then (x3 == x9) else false) then (x4 == x10) else false) then x13 else false) (g35 x5 x11)) fun x14 =>
  some (bif (bif (bif (bif (bif (x1 == x7) then (x2 == x8) else false) then (x3 == x9) else false) then (x4 == x10) else false) then x13 else false) then x14 else false)

set_option maxRecDepth 100000 in
theorem BF_R03_SameList_ok (n : Nat) (g35 : (List Val) → (List Val) → Option (Bool)) (g58 : Val → Val → Option (Bool)) (g35_ok : ∀ (x1 : List Val) (x2 : List Val) (r : Bool), g35 x1 x2 = some r → CallsF Tryd.prog 35 [PV.sl (Val.rows x1), PV.sl (Val.rows x2)] (R_F_R03_SameList r)) (g58_ok : ∀ (a0_ : Val) (a1_ : Val) (r : Bool), g58 a0_ a1_ = some r → CallsF Tryd.prog 58 [PV.agg (valC.cells a0_), PV.agg (valC.cells a1_)] (R_F_R03_Same r)) : ∀ (x1 : List Val) (x2 : List Val) (r : Bool), BF_R03_SameList n g35 g58 x1 x2 = some r → CallsF Tryd.prog 35 [PV.sl (Val.rows x1), PV.sl (Val.rows x2)] (R_F_R03_SameList r) := by
  intro x1 x2 r h
  unfold BF_R03_SameList at h
  refine CallsF.of_vcN mixed (fun _ _ => Tryd.call35 _ _) Tryd.func35 (by kernel_rfl) (inl := [1000000]) ?_
  conv => whnf
  refine ⟨fun hc => ?_, fun hc => ?_⟩
  · have h := cond_t h hc
    obtain rfl := Option.some.inj h
    conv => whnf
    repeat (first | exact rfl | exact trivial | refine ⟨?_, ?_⟩)
  · have h := cond_f h hc
    conv => whnf
    refine LoopA.fn [1000000] (S := Int) (fun x3 => [(0, .p (.sl (Val.rows x1))), (1, .p (.sl (Val.rows x2))), (5, .p (.int .i64 x3))]) (fun x3 => []) (B := F_R03_SameList_l1 n x1 x2 g58) h ⟨[], [], ⟨rfl, rfl, rfl, rfl⟩, by repeat (first | exact trivial | exact .inl rfl | exact rfl | exact List.not_mem_nil | (refine .inr ?_) | (refine ⟨?_, ?_⟩) | exact List.length_set.symm | decide), by repeat (first | exact trivial | exact .inl rfl | exact rfl | exact List.not_mem_nil | (refine .inr ?_) | (refine ⟨?_, ?_⟩) | exact List.length_set.symm | decide)⟩ ?_
    intro nx1 x3 h
    unfold F_R03_SameList_l1 at h
    conv => whnf
    refine ⟨fun hc => ?_, fun hc => ?_⟩
    · have h := cond_t h hc
      conv => whnf
      replace h := bnd_some h
      obtain ⟨⟨x4, x5, x6, x7, x8, x9⟩, h3, h⟩ := h
      refine ⟨_, Codec.at_ valC h3, ?_⟩
      conv => whnf
      replace h := bnd_some h
      obtain ⟨⟨x10, x11, x12, x13, x14, x15⟩, h2, h⟩ := h
      refine ⟨_, Codec.at_ valC h2, ?_⟩
      conv => whnf
      replace h := bnd_some h
      obtain ⟨x16, h1, h⟩ := h
      refine ⟨_, (g58_ok _ _  _ h1), ?_⟩
      conv => whnf
      refine ⟨fun hc => ?_, fun hc => ?_⟩
      · have h := cond_t h hc
        obtain rfl := Option.some.inj h
        conv => whnf
        repeat (first | exact rfl | exact trivial | refine ⟨?_, ?_⟩)
      · have h := cond_f h hc
        conv => whnf
        exact ⟨(IntKind.i64.wrap (x3 + (1 : Int))), h, ⟨[], [], ⟨rfl, rfl, rfl, rfl⟩, by repeat (first | exact trivial | exact .inl rfl | exact rfl | exact List.not_mem_nil | (refine .inr ?_) | (refine ⟨?_, ?_⟩) | exact List.length_set.symm | decide), by repeat (first | exact trivial | exact .inl rfl | exact rfl | exact List.not_mem_nil | (refine .inr ?_) | (refine ⟨?_, ?_⟩) | exact List.length_set.symm | decide)⟩⟩
    · have h := cond_f h hc
      obtain rfl := Option.some.inj h
      conv => whnf
      repeat (first | exact rfl | exact trivial | refine ⟨?_, ?_⟩)

set_option maxHeartbeats 4000000 in
set_option maxRecDepth 100000 in
theorem BF_R03_Same_ok (n : Nat) (g35 : (List Val) → (List Val) → Option (Bool)) (g58 : Val → Val → Option (Bool)) (g35_ok : ∀ (x1 : List Val) (x2 : List Val) (r : Bool), g35 x1 x2 = some r → CallsF Tryd.prog 35 [PV.sl (Val.rows x1), PV.sl (Val.rows x2)] (R_F_R03_SameList r)) (g58_ok : ∀ (a0_ : Val) (a1_ : Val) (r : Bool), g58 a0_ a1_ = some r → CallsF Tryd.prog 58 [PV.agg (valC.cells a0_), PV.agg (valC.cells a1_)] (R_F_R03_Same r)) : ∀ (a0_ : Val) (a1_ : Val) (r : Bool), BF_R03_Same n g35 g58 a0_ a1_ = some r → CallsF Tryd.prog 58 [PV.agg (valC.cells a0_), PV.agg (valC.cells a1_)] (R_F_R03_Same r) := by
  intro a0_ a1_ r h
  obtain ⟨x1, x2, x3, x4, x5, x6⟩ := a0_
  obtain ⟨x7, x8, x9, x10, x11, x12⟩ := a1_
  unfold BF_R03_Same at h
  refine CallsF.of_vcN mixed (fun _ _ => Tryd.call58 _ _) Tryd.func58 (by kernel_rfl) (inl := [1000000]) ?_
  conv => whnf
  iterate 19 (refine And.intro (fun h => h) ?_)
  conv => whnf
  replace h := bnd_some h
  obtain ⟨x13, h2, h⟩ := h
  refine ⟨_, fun hg => (F_R03_SameNames_ok n _ _  _ (gsome_some h2 hg)), ?_⟩
  conv => whnf
  iterate 5 (refine And.intro (fun h => h) ?_)
  conv => whnf
  replace h := bnd_some h
  obtain ⟨x14, h1, h⟩ := h
  refine ⟨_, fun hg => (g35_ok _ _  _ (gsome_some h1 hg)), ?_⟩
  conv => whnf
  refine And.intro (fun h => h) ?_
  obtain rfl := Option.some.inj h
  conv => whnf
  repeat (first | exact rfl | exact trivial | refine ⟨?_, ?_⟩)

mutual
def F_R03_SameList : Nat → (List Val) → (List Val) → Option (Bool)
  | 0 => fun _ _ => none
  | n + 1 => BF_R03_SameList n (F_R03_SameList n) (F_R03_Same n)
def F_R03_Same : Nat → Val → Val → Option (Bool)
  | 0 => fun _ _ => none
  | n + 1 => BF_R03_Same n (F_R03_SameList n) (F_R03_Same n)
end

set_option maxRecDepth 100000 in
theorem F_R03_SameList_all (n : Nat) : (∀ (x1 : List Val) (x2 : List Val) (r : Bool), F_R03_SameList n x1 x2 = some r → CallsF Tryd.prog 35 [PV.sl (Val.rows x1), PV.sl (Val.rows x2)] (R_F_R03_SameList r)) ∧ (∀ (a0_ : Val) (a1_ : Val) (r : Bool), F_R03_Same n a0_ a1_ = some r → CallsF Tryd.prog 58 [PV.agg (valC.cells a0_), PV.agg (valC.cells a1_)] (R_F_R03_Same r)) := by
  induction n with
  | zero => exact ⟨(by intros; rename_i h; cases h), (by intros; rename_i h; cases h)⟩
  | succ n ih =>
    obtain ⟨hg35, hg58⟩ := ih
    exact ⟨BF_R03_SameList_ok n (F_R03_SameList n) (F_R03_Same n) hg35 hg58, BF_R03_Same_ok n (F_R03_SameList n) (F_R03_Same n) hg35 hg58⟩

set_option maxRecDepth 100000 in
theorem F_R03_SameList_ok (n : Nat) : ∀ (x1 : List Val) (x2 : List Val) (r : Bool), F_R03_SameList n x1 x2 = some r → CallsF Tryd.prog 35 [PV.sl (Val.rows x1), PV.sl (Val.rows x2)] (R_F_R03_SameList r) := (F_R03_SameList_all n).1

set_option maxRecDepth 100000 in
theorem F_R03_Same_ok (n : Nat) : ∀ (a0_ : Val) (a1_ : Val) (r : Bool), F_R03_Same n a0_ a1_ = some r → CallsF Tryd.prog 58 [PV.agg (valC.cells a0_), PV.agg (valC.cells a1_)] (R_F_R03_Same r) := (F_R03_SameList_all n).2

abbrev R_F_R17_Same (r : Bool) : PV := PV.bool r

def F_R17_Same_l1 (n : Nat) (x1 : List (List Val)) (x2 : List (List Val)) : (Int → Option (Bool)) → Int → Option (Bool) := fun nx1 x3 =>
 bif (decide (x3 < (((slRows valC x1).length : Nat) : Int))) then (
 bnd (idx x1 x3) fun x4 =>
 bnd (idx x2 x3) fun x5 =>
 bnd (F_R03_SameList n x4 x5) fun x6 =>
 bif (!x6) then (
 some false)
else (
 nx1 (IntKind.i64.wrap (x3 + (1 : Int)))))
else (
 some true)

def F_R17_Same (n : Nat)  (x1 : List (List Val)) (x2 : List (List Val)) : Option (Bool) :=
  bif ((((slRows valC x1).length : Nat) : Int) != (((slRows valC x2).length : Nat) : Int)) then (
  some false)
  else (
  loopK (F_R17_Same_l1 n x1 x2) n (0 : Int))

set_option maxRecDepth 100000 in
theorem F_R17_Same_ok (n : Nat)   : ∀ (x1 : List (List Val)) (x2 : List (List Val)) (r : Bool), F_R17_Same n x1 x2 = some r → CallsF Tryd.prog 14 [PV.sl (slRows valC x1), PV.sl (slRows valC x2)] (R_F_R17_Same r) := by
  intro x1 x2 r h
  unfold F_R17_Same at h
  refine CallsF.of_vcN mixed (fun _ _ => Tryd.call14 _ _) Tryd.func14 (by kernel_rfl) (inl := [1000000]) ?_
  conv => whnf
  refine ⟨fun hc => ?_, fun hc => ?_⟩
  · have h := cond_t h hc
    obtain rfl := Option.some.inj h
    conv => whnf
    repeat (first | exact rfl | exact trivial | refine ⟨?_, ?_⟩)
  · have h := cond_f h hc
    conv => whnf
    refine LoopA.fn [1000000] (S := Int) (fun x3 => [(0, .p (.sl (slRows valC x1))), (1, .p (.sl (slRows valC x2))), (5, .p (.int .i64 x3))]) (fun x3 => []) (B := F_R17_Same_l1 n x1 x2) h ⟨[], [], ⟨rfl, rfl, rfl, rfl⟩, by repeat (first | exact trivial | exact .inl rfl | exact rfl | exact List.not_mem_nil | (refine .inr ?_) | (refine ⟨?_, ?_⟩) | exact List.length_set.symm | decide), by repeat (first | exact trivial | exact .inl rfl | exact rfl | exact List.not_mem_nil | (refine .inr ?_) | (refine ⟨?_, ?_⟩) | exact List.length_set.symm | decide)⟩ ?_
    intro nx1 x3 h
    unfold F_R17_Same_l1 at h
    conv => whnf
    refine ⟨fun hc => ?_, fun hc => ?_⟩
    · have h := cond_t h hc
      conv => whnf
      replace h := bnd_some h
      obtain ⟨x4, h3, h⟩ := h
      refine ⟨_, Codec.at_ (slC valC) h3, ?_⟩
      conv => whnf
      replace h := bnd_some h
      obtain ⟨x5, h2, h⟩ := h
      refine ⟨_, Codec.at_ (slC valC) h2, ?_⟩
      conv => whnf
      replace h := bnd_some h
      obtain ⟨x6, h1, h⟩ := h
      refine ⟨_, (F_R03_SameList_ok n _ _  _ h1), ?_⟩
      conv => whnf
      refine ⟨fun hc => ?_, fun hc => ?_⟩
      · have h := cond_t h hc
        obtain rfl := Option.some.inj h
        conv => whnf
        repeat (first | exact rfl | exact trivial | refine ⟨?_, ?_⟩)
      · have h := cond_f h hc
        conv => whnf
        exact ⟨(IntKind.i64.wrap (x3 + (1 : Int))), h, ⟨[], [], ⟨rfl, rfl, rfl, rfl⟩, by repeat (first | exact trivial | exact .inl rfl | exact rfl | exact List.not_mem_nil | (refine .inr ?_) | (refine ⟨?_, ?_⟩) | exact List.length_set.symm | decide), by repeat (first | exact trivial | exact .inl rfl | exact rfl | exact List.not_mem_nil | (refine .inr ?_) | (refine ⟨?_, ?_⟩) | exact List.length_set.symm | decide)⟩⟩
    · have h := cond_f h hc
      obtain rfl := Option.some.inj h
      conv => whnf
      repeat (first | exact rfl | exact trivial | refine ⟨?_, ?_⟩)

abbrev R_F_L17_RowsSorts (r : Bool) : PV := PV.bool r

def F_L17_RowsSorts (n : Nat)  (x1 : List (List Val)) (x2 : List Bool) : Option (Bool) :=
  bnd (F_L17_few n x1 (IntKind.i64.wrap ((1 : Int) + (((boolRows x2).length : Nat) : Int)))) fun x3 =>
  bif (!x3) then (
  bnd (F_L17_works n) fun x4 =>
  some x4)
  else (
  bnd (F_L17_pairs n x1) fun ⟨x5, x6⟩ =>
  bnd (F_rows_Sort n x5 x6 x2) fun x7 =>
  bnd (F_R17_Sort n x5 x6 x2) fun x8 =>
  bnd (F_R17_Same n x7 x8) fun x9 =>
  bnd (gsome x9 (F_L17_works n)) fun x10 =>
  some (bif x9 then x10 else false))

set_option maxRecDepth 100000 in
theorem F_L17_RowsSorts_ok (n : Nat)   : ∀ (x1 : List (List Val)) (x2 : List Bool) (r : Bool), F_L17_RowsSorts n x1 x2 = some r → CallsF Tryd.prog 4 [PV.sl (slRows valC x1), PV.sl (boolRows x2)] (R_F_L17_RowsSorts r) := by
  intro x1 x2 r h
  unfold F_L17_RowsSorts at h
  refine CallsF.of_vcN mixed (fun _ _ => Tryd.call4 _ _) Tryd.func4 (by kernel_rfl) (inl := [1000000]) ?_
  conv => whnf
  replace h := bnd_some h
  obtain ⟨x3, h7, h⟩ := h
  refine ⟨_, (F_L17_few_ok n _ _  _ h7), ?_⟩
  conv => whnf
  refine ⟨fun hc => ?_, fun hc => ?_⟩
  · have h := cond_t h hc
    conv => whnf
    replace h := bnd_some h
    obtain ⟨x4, h1, h⟩ := h
    refine ⟨_, (F_L17_works_ok n  _ h1), ?_⟩
    obtain rfl := Option.some.inj h
    conv => whnf
    repeat (first | exact rfl | exact trivial | refine ⟨?_, ?_⟩)
  · have h := cond_f h hc
    conv => whnf
    replace h := bnd_some h
    obtain ⟨⟨x5, x6⟩, h6, h⟩ := h
    refine ⟨_, (F_L17_pairs_ok n _  _ h6), ?_⟩
    conv => whnf
    replace h := bnd_some h
    obtain ⟨x7, h5, h⟩ := h
    refine ⟨_, (F_rows_Sort_ok n _ _ _  _ h5), ?_⟩
    conv => whnf
    replace h := bnd_some h
    obtain ⟨x8, h4, h⟩ := h
    refine ⟨_, (F_R17_Sort_ok n _ _ _  _ h4), ?_⟩
    conv => whnf
    replace h := bnd_some h
    obtain ⟨x9, h3, h⟩ := h
    refine ⟨_, (F_R17_Same_ok n _ _  _ h3), ?_⟩
    conv => whnf
    replace h := bnd_some h
    obtain ⟨x10, h2, h⟩ := h
    refine ⟨_, fun hg => (F_L17_works_ok n  _ (gsome_some h2 hg)), ?_⟩
    conv => whnf
    refine And.intro (fun h => h) ?_
    obtain rfl := Option.some.inj h
    conv => whnf
    repeat (first | exact rfl | exact trivial | refine ⟨?_, ?_⟩)

abbrev R_F_L17_wide (r : Int) : PV := PV.int .i64 r

def F_L17_wide (n : Nat)  (x1 : List (List Val)) : Option (Int) :=
  bif ((((slRows valC x1).length : Nat) : Int) == (0 : Int)) then (
  some (0 : Int))
  else (
  bnd (idx x1 (0 : Int)) fun x2 =>
  some (((Val.rows x2).length : Nat) : Int))

set_option maxRecDepth 100000 in
theorem F_L17_wide_ok (n : Nat)   : ∀ (x1 : List (List Val)) (r : Int), F_L17_wide n x1 = some r → CallsF Tryd.prog 9 [PV.sl (slRows valC x1)] (R_F_L17_wide r) := by
  intro x1 r h
  unfold F_L17_wide at h
  refine CallsF.of_vcN mixed (fun _ _ => Tryd.call9 _ _) Tryd.func9 (by kernel_rfl) (inl := [1000000]) ?_
  conv => whnf
  refine ⟨fun hc => ?_, fun hc => ?_⟩
  · have h := cond_t h hc
    obtain rfl := Option.some.inj h
    conv => whnf
    repeat (first | exact rfl | exact trivial | refine ⟨?_, ?_⟩)
  · have h := cond_f h hc
    conv => whnf
    replace h := bnd_some h
    obtain ⟨x2, h1, h⟩ := h
    refine ⟨_, Codec.at_ (slC valC) h1, ?_⟩
    obtain rfl := Option.some.inj h
    conv => whnf
    repeat (first | exact rfl | exact trivial | refine ⟨?_, ?_⟩)

abbrev R_F_L17_often (r : Int) : PV := PV.int .i64 r

def F_L17_often_k3 (n : Nat) (nx1 : Int × Int → Option (Int)) (x4 : Int) : Int → Option (Int) := fun x5 =>
 nx1 (x5, (IntKind.i64.wrap (x4 + (1 : Int))))

def F_L17_often_l1 (n : Nat) (x2 : List (List Val)) (x1 : List Val) : (Int × Int → Option (Int)) → Int × Int → Option (Int) := fun nx1 (x3, x4) =>
 bif (decide (x4 < (((slRows valC x2).length : Nat) : Int))) then (
 bnd (idx x2 x4) fun x6 =>
 bnd (F_R03_SameList n x6 x1) fun x7 =>
 bif x7 then (
 F_L17_often_k3 n nx1 x4 (IntKind.i64.wrap (x3 + (1 : Int))))
else (
 F_L17_often_k3 n nx1 x4 x3))
else (
 some x3)

def F_L17_often (n : Nat)  (x1 : List Val) (x2 : List (List Val)) : Option (Int) :=
  loopK (F_L17_often_l1 n x2 x1) n ((0 : Int), (0 : Int))

set_option maxRecDepth 100000 in
theorem F_L17_often_ok (n : Nat)   : ∀ (x1 : List Val) (x2 : List (List Val)) (r : Int), F_L17_often n x1 x2 = some r → CallsF Tryd.prog 22 [PV.sl (Val.rows x1), PV.sl (slRows valC x2)] (R_F_L17_often r) := by
  intro x1 x2 r h
  unfold F_L17_often at h
  refine CallsF.of_vcN mixed (fun _ _ => Tryd.call22 _ _) Tryd.func22 (by kernel_rfl) (inl := [1000000]) ?_
  conv => whnf
  refine LoopA.fn [1000000] (S := Int × Int) (fun (x3, x4) => [(0, .p (.sl (Val.rows x1))), (1, .p (.sl (slRows valC x2))), (5, .p (.int .i64 x3)), (6, .p (.int .i64 x4))]) (fun (x3, x4) => []) (B := F_L17_often_l1 n x2 x1) h ⟨[], [], ⟨rfl, rfl, rfl, rfl⟩, by repeat (first | exact trivial | exact .inl rfl | exact rfl | exact List.not_mem_nil | (refine .inr ?_) | (refine ⟨?_, ?_⟩) | exact List.length_set.symm | decide), by repeat (first | exact trivial | exact .inl rfl | exact rfl | exact List.not_mem_nil | (refine .inr ?_) | (refine ⟨?_, ?_⟩) | exact List.length_set.symm | decide)⟩ ?_
  intro nx1 st h
  obtain ⟨x3, x4⟩ := st
  unfold F_L17_often_l1 at h
  conv => whnf
  refine ⟨fun hc => ?_, fun hc => ?_⟩
  · have h := cond_t h hc
    conv => whnf
    refine SeqA.cut (S := Int) (fun x5 => [(0, .p (.sl (Val.rows x1))), (1, .p (.sl (slRows valC x2))), (5, .p (.int .i64 x5)), (6, .p (.int .i64 x4))]) (fun x5 => []) (F_L17_often_k3 n nx1 x4) (r := r) ?_ ?_
    · intro x5 h
      unfold F_L17_often_k3 at h
      conv => whnf
      exact ⟨(x5, (IntKind.i64.wrap (x4 + (1 : Int)))), h, ⟨[], [], ⟨rfl, rfl, rfl, rfl⟩, by repeat (first | exact trivial | exact .inl rfl | exact rfl | exact List.not_mem_nil | (refine .inr ?_) | (refine ⟨?_, ?_⟩) | exact List.length_set.symm | decide), by repeat (first | exact trivial | exact .inl rfl | exact rfl | exact List.not_mem_nil | (refine .inr ?_) | (refine ⟨?_, ?_⟩) | exact List.length_set.symm | decide)⟩⟩
    · conv => whnf
      replace h := bnd_some h
      obtain ⟨x6, h2, h⟩ := h
      refine ⟨_, Codec.at_ (slC valC) h2, ?_⟩
      conv => whnf
      replace h := bnd_some h
      obtain ⟨x7, h1, h⟩ := h
      refine ⟨_, (F_R03_SameList_ok n _ _  _ h1), ?_⟩
      conv => whnf
      refine ⟨fun hc => ?_, fun hc => ?_⟩
      · have h := cond_t h hc
        conv => whnf
        exact ⟨(IntKind.i64.wrap (x3 + (1 : Int))), h, ⟨[], [], ⟨rfl, rfl, rfl, rfl⟩, by repeat (first | exact trivial | exact .inl rfl | exact rfl | exact List.not_mem_nil | (refine .inr ?_) | (refine ⟨?_, ?_⟩) | exact List.length_set.symm | decide), by repeat (first | exact trivial | exact .inl rfl | exact rfl | exact List.not_mem_nil | (refine .inr ?_) | (refine ⟨?_, ?_⟩) | exact List.length_set.symm | decide)⟩⟩
      · have h := cond_f h hc
        conv => whnf
        exact ⟨x3, h, ⟨[], [], ⟨rfl, rfl, rfl, rfl⟩, by repeat (first | exact trivial | exact .inl rfl | exact rfl | exact List.not_mem_nil | (refine .inr ?_) | (refine ⟨?_, ?_⟩) | exact List.length_set.symm | decide), by repeat (first | exact trivial | exact .inl rfl | exact rfl | exact List.not_mem_nil | (refine .inr ?_) | (refine ⟨?_, ?_⟩) | exact List.length_set.symm | decide)⟩⟩
  · have h := cond_f h hc
    obtain rfl := Option.some.inj h
    conv => whnf
    repeat (first | exact rfl | exact trivial | refine ⟨?_, ?_⟩)
end W
end
section
open Go Go.Proofs Ax
namespace W
abbrev R_F_L17_RowsOrdered (r : Bool) : PV := PV.bool r

def F_L17_RowsOrdered_k3 (n : Nat) (nx1 : Int → Option (Bool)) (x9 : Int) : Unit → Option (Bool) := fun _ =>
 nx1 (IntKind.i64.wrap (x9 + (1 : Int)))

def F_L17_RowsOrdered_l2 (n : Nat) (x2 : Int) (x6 : List (List Val)) (x9 : Int) (nx1 : Int → Option (Bool)) : (Int → Option (Bool)) → Int → Option (Bool) := fun nx2 x10 =>
 bif (decide (x10 < x2)) then (
 bnd (idx x6 (IntKind.i64.wrap (x9 - (1 : Int)))) fun x11 =>
 bnd (idx x11 x10) fun ⟨x12, x13, x14, x15, x16, x17⟩ =>
 bnd (idx x6 x9) fun x18 =>
 bnd (idx x18 x10) fun ⟨x19, x20, x21, x22, x23, x24⟩ =>
 bnd (F_value_Order n (Val.mk x12 x13 x14 x15 x16 x17) (Val.mk x19 x20 x21 x22 x23 x24)) fun x25 =>
 bif (decide (x25 > (0 : Int))) then (
 some false)
else (
 bif (decide (x25 < (0 : Int))) then (
 F_L17_RowsOrdered_k3 n nx1 x9 ())
else (
 nx2 (IntKind.i64.wrap (x10 + (1 : Int))))))
else (
 F_L17_RowsOrdered_k3 n nx1 x9 ())

def F_L17_RowsOrdered_l3 (n : Nat) (x1 : List (List Val)) (x6 : List (List Val)) : (Int → Option (Bool)) → Int → Option (Bool) := fun nx3 x26 =>
 bif (decide (x26 < (((slRows valC x1).length : Nat) : Int))) then (
 bnd (idx x1 x26) fun x27 =>
 bnd (F_L17_often n x27 x1) fun x28 =>
 bnd (idx x1 x26) fun x29 =>
 bnd (F_L17_often n x29 x6) fun x30 =>
 bif (x28 != x30) then (
 some false)
else (
 nx3 (IntKind.i64.wrap (x26 + (1 : Int)))))
else (
 bnd (F_L17_works n) fun x31 =>
 some x31)

def F_L17_RowsOrdered_l1 (n : Nat) (x6 : List (List Val)) (x2 : Int) (x1 : List (List Val)) : (Int → Option (Bool)) → Int → Option (Bool) := fun nx1 x9 =>
 bif (decide (x9 < (((slRows valC x6).length : Nat) : Int))) then (
 loopK (F_L17_RowsOrdered_l2 n x2 x6 x9 nx1) n (0 : Int))
else (
 loopK (F_L17_RowsOrdered_l3 n x1 x6) n (0 : Int))

def F_L17_RowsOrdered (n : Nat)  (x1 : List (List Val)) : Option (Bool) :=
  bnd (F_L17_wide n x1) fun x2 =>
  bnd (F_L17_few n x1 x2) fun x3 =>
  bif (!x3) then (
  bnd (F_L17_works n) fun x4 =>
  some x4)
  else (
  bnd (natI x2) fun x5 =>
  chk (decide (x5 * 1 ≤ 140737488355328)) (
  bnd (F_rows_Sort n x1 x1 (List.replicate x5 false)) fun x6 =>
  bnd (gsome (!((((slRows valC x6).length : Nat) : Int) != (((slRows valC x1).length : Nat) : Int))) (F_rows_Sort n x6 x6 (List.replicate x5 false))) fun x7 =>
  bnd (gsome (!((((slRows valC x6).length : Nat) : Int) != (((slRows valC x1).length : Nat) : Int))) (F_R17_Same n x7 x6)) fun x8 =>
  bif (bif ((((slRows valC x6).length : Nat) : Int) != (((slRows valC x1).length : Nat) : Int)) then true else (!x8)) then (
  some false)
  else (
  loopK (F_L17_RowsOrdered_l1 n x6 x2 x1) n (1 : Int))))

set_option maxHeartbeats 4000000 in
set_option maxRecDepth 100000 in
theorem F_L17_RowsOrdered_ok (n : Nat)   : ∀ (x1 : List (List Val)) (r : Bool), F_L17_RowsOrdered n x1 = some r → CallsF Tryd.prog 5 [PV.sl (slRows valC x1)] (R_F_L17_RowsOrdered r) := by
  intro x1 r h
  unfold F_L17_RowsOrdered at h
  refine CallsF.of_vcN mixed (fun _ _ => Tryd.call5 _ _) Tryd.func5 (by kernel_rfl) (inl := [30000018, 1000000]) ?_
  conv => whnf
  replace h := bnd_some h
  obtain ⟨x2, h18, h⟩ := h
  refine ⟨_, (F_L17_wide_ok n _  _ h18), ?_⟩
  conv => whnf
  replace h := bnd_some h
  obtain ⟨x3, h17, h⟩ := h
  refine ⟨_, (F_L17_few_ok n _ _  _ h17), ?_⟩
  conv => whnf
  refine ⟨fun hc => ?_, fun hc => ?_⟩
  · have h := cond_t h hc
    conv => whnf
    replace h := bnd_some h
    obtain ⟨x4, h1, h⟩ := h
    refine ⟨_, (F_L17_works_ok n  _ h1), ?_⟩
    obtain rfl := Option.some.inj h
    conv => whnf
    repeat (first | exact rfl | exact trivial | refine ⟨?_, ?_⟩)
  · have h := cond_f h hc
    conv => whnf
    replace h := bnd_some h
    obtain ⟨x5, h16, h⟩ := h
    have hj := natI_some h16
    conv => whnf
    obtain ⟨h15, h⟩ := chk_some h
    refine ⟨x5, boolRows (List.replicate x5 false), ⟨hj, hj, of_decide_eq_true h15, len_ok h15 (by decide), Codec.made boolC false x5 rfl, rfl, by decide, rfl⟩, ?_⟩
    conv => whnf
    replace h := bnd_some h
    obtain ⟨x6, h14, h⟩ := h
    refine ⟨_, (F_rows_Sort_ok n _ _ _  _ h14), ?_⟩
    conv => whnf
    iterate 3 (refine And.intro (fun h => h) ?_)
    conv => whnf
    replace h := bnd_some h
    obtain ⟨x7, h13, h⟩ := h
    refine ⟨_, fun hg => (F_rows_Sort_ok n _ _ _  _ (gsome_some h13 hg)), ?_⟩
    conv => whnf
    iterate 2 (refine And.intro (fun h => h) ?_)
    conv => whnf
    replace h := bnd_some h
    obtain ⟨x8, h12, h⟩ := h
    refine ⟨_, fun hg => (F_R17_Same_ok n _ _  _ (gsome_some h12 hg)), ?_⟩
    conv => whnf
    iterate 2 (refine And.intro (fun h => h) ?_)
    conv => whnf
    refine ⟨fun hc => ?_, fun hc => ?_⟩
    · have h := cond_t h hc
      obtain rfl := Option.some.inj h
      conv => whnf
      repeat (first | exact rfl | exact trivial | refine ⟨?_, ?_⟩)
    · have h := cond_f h hc
      conv => whnf
      refine LoopA.fn [30000018, 1000000] (S := Int) (fun x9 => [(0, .p (.sl (slRows valC x1))), (3, .p (.int .i64 x2)), (5, .p (.sl (slRows valC x6))), (6, .p (.int .i64 x9))]) (fun x9 => []) (B := F_L17_RowsOrdered_l1 n x6 x2 x1) h ⟨[], [], ⟨rfl, rfl, rfl, rfl⟩, by repeat (first | exact trivial | exact .inl rfl | exact rfl | exact List.not_mem_nil | (refine .inr ?_) | (refine ⟨?_, ?_⟩) | exact List.length_set.symm | decide), by repeat (first | exact trivial | exact .inl rfl | exact rfl | exact List.not_mem_nil | (refine .inr ?_) | (refine ⟨?_, ?_⟩) | exact List.length_set.symm | decide)⟩ ?_
      intro nx1 x9 h
      unfold F_L17_RowsOrdered_l1 at h
      conv => whnf
      refine ⟨fun hc => ?_, fun hc => ?_⟩
      · have h := cond_t h hc
        conv => whnf
        refine SeqA.cut (S := Unit) (fun _ => [(0, .p (.sl (slRows valC x1))), (3, .p (.int .i64 x2)), (5, .p (.sl (slRows valC x6))), (6, .p (.int .i64 x9))]) (fun _ => []) (F_L17_RowsOrdered_k3 n nx1 x9) (r := r) ?_ ?_
        · intro _ h
          unfold F_L17_RowsOrdered_k3 at h
          conv => whnf
          exact ⟨(IntKind.i64.wrap (x9 + (1 : Int))), h, ⟨[], [], ⟨rfl, rfl, rfl, rfl⟩, by repeat (first | exact trivial | exact .inl rfl | exact rfl | exact List.not_mem_nil | (refine .inr ?_) | (refine ⟨?_, ?_⟩) | exact List.length_set.symm | decide), by repeat (first | exact trivial | exact .inl rfl | exact rfl | exact List.not_mem_nil | (refine .inr ?_) | (refine ⟨?_, ?_⟩) | exact List.length_set.symm | decide)⟩⟩
        · conv => whnf
          refine LoopA.fn [30000018, 1000000] (S := Int) (fun x10 => [(0, .p (.sl (slRows valC x1))), (3, .p (.int .i64 x2)), (5, .p (.sl (slRows valC x6))), (6, .p (.int .i64 x9)), (7, .p (.int .i64 x10))]) (fun x10 => []) (B := F_L17_RowsOrdered_l2 n x2 x6 x9 nx1) h ⟨[], [], ⟨rfl, rfl, rfl, rfl⟩, by repeat (first | exact trivial | exact .inl rfl | exact rfl | exact List.not_mem_nil | (refine .inr ?_) | (refine ⟨?_, ?_⟩) | exact List.length_set.symm | decide), by repeat (first | exact trivial | exact .inl rfl | exact rfl | exact List.not_mem_nil | (refine .inr ?_) | (refine ⟨?_, ?_⟩) | exact List.length_set.symm | decide)⟩ ?_
          intro nx2 x10 h
          unfold F_L17_RowsOrdered_l2 at h
          conv => whnf
          refine ⟨fun hc => ?_, fun hc => ?_⟩
          · have h := cond_t h hc
            conv => whnf
            replace h := bnd_some h
            obtain ⟨x11, h6, h⟩ := h
            refine ⟨_, Codec.at_ (slC valC) h6, ?_⟩
            conv => whnf
            replace h := bnd_some h
            obtain ⟨⟨x12, x13, x14, x15, x16, x17⟩, h5, h⟩ := h
            refine ⟨_, Codec.at_ valC h5, ?_⟩
            conv => whnf
            replace h := bnd_some h
            obtain ⟨x18, h4, h⟩ := h
            refine ⟨_, Codec.at_ (slC valC) h4, ?_⟩
            conv => whnf
            replace h := bnd_some h
            obtain ⟨⟨x19, x20, x21, x22, x23, x24⟩, h3, h⟩ := h
            refine ⟨_, Codec.at_ valC h3, ?_⟩
            conv => whnf
            replace h := bnd_some h
            obtain ⟨x25, h2, h⟩ := h
            refine ⟨_, (F_value_Order_ok n _ _  _ h2), ?_⟩
            conv => whnf
            refine ⟨fun hc => ?_, fun hc => ?_⟩
            · have h := cond_t h hc
              obtain rfl := Option.some.inj h
              conv => whnf
              repeat (first | exact rfl | exact trivial | refine ⟨?_, ?_⟩)
            · have h := cond_f h hc
              conv => whnf
              refine ⟨fun hc => ?_, fun hc => ?_⟩
              · have h := cond_t h hc
                conv => whnf
                exact ⟨(), h, ⟨[], [], ⟨rfl, rfl, rfl, rfl⟩, by repeat (first | exact trivial | exact .inl rfl | exact rfl | exact List.not_mem_nil | (refine .inr ?_) | (refine ⟨?_, ?_⟩) | exact List.length_set.symm | decide), by repeat (first | exact trivial | exact .inl rfl | exact rfl | exact List.not_mem_nil | (refine .inr ?_) | (refine ⟨?_, ?_⟩) | exact List.length_set.symm | decide)⟩⟩
              · have h := cond_f h hc
                conv => whnf
                exact ⟨(IntKind.i64.wrap (x10 + (1 : Int))), h, ⟨[], [], ⟨rfl, rfl, rfl, rfl⟩, by repeat (first | exact trivial | exact .inl rfl | exact rfl | exact List.not_mem_nil | (refine .inr ?_) | (refine ⟨?_, ?_⟩) | exact List.length_set.symm | decide), by repeat (first | exact trivial | exact .inl rfl | exact rfl | exact List.not_mem_nil | (refine .inr ?_) | (refine ⟨?_, ?_⟩) | exact List.length_set.symm | decide)⟩⟩
          · have h := cond_f h hc
            conv => whnf
            exact ⟨(), h, ⟨[], [], ⟨rfl, rfl, rfl, rfl⟩, by repeat (first | exact trivial | exact .inl rfl | exact rfl | exact List.not_mem_nil | (refine .inr ?_) | (refine ⟨?_, ?_⟩) | exact List.length_set.symm | decide), by repeat (first | exact trivial | exact .inl rfl | exact rfl | exact List.not_mem_nil | (refine .inr ?_) | (refine ⟨?_, ?_⟩) | exact List.length_set.symm | decide)⟩⟩
      · have h := cond_f h hc
        conv => whnf
        refine LoopA.fn [30000018, 1000000] (S := Int) (fun x26 => [(0, .p (.sl (slRows valC x1))), (5, .p (.sl (slRows valC x6))), (9, .p (.int .i64 x26))]) (fun x26 => []) (B := F_L17_RowsOrdered_l3 n x1 x6) h ⟨[], [], ⟨rfl, rfl, rfl, rfl⟩, by repeat (first | exact trivial | exact .inl rfl | exact rfl | exact List.not_mem_nil | (refine .inr ?_) | (refine ⟨?_, ?_⟩) | exact List.length_set.symm | decide), by repeat (first | exact trivial | exact .inl rfl | exact rfl | exact List.not_mem_nil | (refine .inr ?_) | (refine ⟨?_, ?_⟩) | exact List.length_set.symm | decide)⟩ ?_
        intro nx3 x26 h
        unfold F_L17_RowsOrdered_l3 at h
        conv => whnf
        refine ⟨fun hc => ?_, fun hc => ?_⟩
        · have h := cond_t h hc
          conv => whnf
          replace h := bnd_some h
          obtain ⟨x27, h10, h⟩ := h
          refine ⟨_, Codec.at_ (slC valC) h10, ?_⟩
          conv => whnf
          replace h := bnd_some h
          obtain ⟨x28, h9, h⟩ := h
          refine ⟨_, (F_L17_often_ok n _ _  _ h9), ?_⟩
          conv => whnf
          replace h := bnd_some h
          obtain ⟨x29, h8, h⟩ := h
          refine ⟨_, Codec.at_ (slC valC) h8, ?_⟩
          conv => whnf
          replace h := bnd_some h
          obtain ⟨x30, h7, h⟩ := h
          refine ⟨_, (F_L17_often_ok n _ _  _ h7), ?_⟩
          conv => whnf
          refine ⟨fun hc => ?_, fun hc => ?_⟩
          · have h := cond_t h hc
            obtain rfl := Option.some.inj h
            conv => whnf
            repeat (first | exact rfl | exact trivial | refine ⟨?_, ?_⟩)
          · have h := cond_f h hc
            conv => whnf
            exact ⟨(IntKind.i64.wrap (x26 + (1 : Int))), h, ⟨[], [], ⟨rfl, rfl, rfl, rfl⟩, by repeat (first | exact trivial | exact .inl rfl | exact rfl | exact List.not_mem_nil | (refine .inr ?_) | (refine ⟨?_, ?_⟩) | exact List.length_set.symm | decide), by repeat (first | exact trivial | exact .inl rfl | exact rfl | exact List.not_mem_nil | (refine .inr ?_) | (refine ⟨?_, ?_⟩) | exact List.length_set.symm | decide)⟩⟩
        · have h := cond_f h hc
          conv => whnf
          replace h := bnd_some h
          obtain ⟨x31, h11, h⟩ := h
          refine ⟨_, (F_L17_works_ok n  _ h11), ?_⟩
          obtain rfl := Option.some.inj h
          conv => whnf
          repeat (first | exact rfl | exact trivial | refine ⟨?_, ?_⟩)

abbrev R_F_L17_RowsParts (r : Bool) : PV := PV.bool r

def F_L17_RowsParts_l1 (n : Nat) (x41 : List (List Val)) (x39 : List (List Val)) (x40 : List (List Val)) : (Int → Option (Bool)) → Int → Option (Bool) := fun nx1 x44 =>
 bif (decide (x44 < (((slRows valC x41).length : Nat) : Int))) then (
 bnd (idx x41 x44) fun x45 =>
 bnd (F_L17_often n x45 x39) fun x46 =>
 bnd (gsome (!(decide (x46 > (0 : Int)))) (idx x41 x44)) fun x47 =>
 bnd (gsome (!(decide (x46 > (0 : Int)))) (F_L17_often n x47 x40)) fun x48 =>
 bnd (gsome (!(bif (decide (x46 > (0 : Int))) then true else (x48 != (1 : Int)))) (idx x41 x44)) fun x49 =>
 bnd (gsome (!(bif (decide (x46 > (0 : Int))) then true else (x48 != (1 : Int)))) (F_L17_often n x49 x41)) fun x50 =>
 bif (bif (bif (decide (x46 > (0 : Int))) then true else (x48 != (1 : Int))) then true else (x50 != (1 : Int))) then (
 some false)
else (
 nx1 (IntKind.i64.wrap (x44 + (1 : Int)))))
else (
 bnd (F_L17_works n) fun x51 =>
 some x51)

def F_L17_RowsParts_k1 (n : Nat) (x1 : List (List Val)) (x2 : List (List Val)) : Unit → Option (Bool) := fun _ =>
 bnd (F_rows_Unique n x1) fun x39 =>
 bnd (F_rows_Unique n x2) fun x40 =>
 bnd (F_rows_Unique n (x1 ++ x2)) fun x41 =>
 bnd (gsome (!(bif (decide ((((slRows valC x41).length : Nat) : Int) > (IntKind.i64.wrap ((((slRows valC x39).length : Nat) : Int) + (((slRows valC x40).length : Nat) : Int))))) then true else (decide ((((slRows valC x41).length : Nat) : Int) < (((slRows valC x39).length : Nat) : Int))))) (natI (((slRows valC x39).length : Nat) : Int))) fun x42 =>
 chk (bif (!(bif (decide ((((slRows valC x41).length : Nat) : Int) > (IntKind.i64.wrap ((((slRows valC x39).length : Nat) : Int) + (((slRows valC x40).length : Nat) : Int))))) then true else (decide ((((slRows valC x41).length : Nat) : Int) < (((slRows valC x39).length : Nat) : Int))))) then decide (x42 ≤ (slRows valC x41).length) else true) (
 bnd (gsome (!(bif (decide ((((slRows valC x41).length : Nat) : Int) > (IntKind.i64.wrap ((((slRows valC x39).length : Nat) : Int) + (((slRows valC x40).length : Nat) : Int))))) then true else (decide ((((slRows valC x41).length : Nat) : Int) < (((slRows valC x39).length : Nat) : Int))))) (F_R17_Same n (x41.take x42) x39)) fun x43 =>
 bif (bif (bif (decide ((((slRows valC x41).length : Nat) : Int) > (IntKind.i64.wrap ((((slRows valC x39).length : Nat) : Int) + (((slRows valC x40).length : Nat) : Int))))) then true else (decide ((((slRows valC x41).length : Nat) : Int) < (((slRows valC x39).length : Nat) : Int)))) then true else (!x43)) then (
 some false)
else (
 loopK (F_L17_RowsParts_l1 n x41 x39 x40) n (((slRows valC x39).length : Nat) : Int)))

def F_L17_RowsParts (n : Nat)  (x1 : List (List Val)) (x2 : List (List Val)) : Option (Bool) :=
  bnd (F_L17_few n x1 (1 : Int)) fun x3 =>
  bnd (gsome (!(!x3)) (F_L17_few n x2 (1 : Int))) fun x4 =>
  bif (bif (!x3) then true else (!x4)) then (
  bnd (F_L17_works n) fun x5 =>
  some x5)
  else (
  chk (decide ((slRows valC x1).length * 24 ≤ 140737488355328)) (
  chk (decide ((slRows valC (x1 ++ x2)).length * 24 ≤ 140737488355328)) (
  bnd (F_rows_Group n x1 [([99, 111, 117, 110, 116] : List UInt8)]) fun ⟨x6, x7⟩ =>
  bnd (F_rows_Group n x2 [([99, 111, 117, 110, 116] : List UInt8)]) fun ⟨x8, x9⟩ =>
  bnd (F_rows_Group n (x1 ++ x2) [([99, 111, 117, 110, 116] : List UInt8)]) fun ⟨x10, x11⟩ =>
  bnd (gsome (!(bif (bif (bif (bif (bif (x7 != (0 : Int)) then true else (x9 != (0 : Int))) then true else (x11 != (0 : Int))) then true else ((((slRows valC x6).length : Nat) : Int) != (1 : Int))) then true else ((((slRows valC x8).length : Nat) : Int) != (1 : Int))) then true else ((((slRows valC x10).length : Nat) : Int) != (1 : Int)))) (idx x10 (0 : Int))) fun x12 =>
  bnd (gsome (!(bif (bif (bif (bif (bif (x7 != (0 : Int)) then true else (x9 != (0 : Int))) then true else (x11 != (0 : Int))) then true else ((((slRows valC x6).length : Nat) : Int) != (1 : Int))) then true else ((((slRows valC x8).length : Nat) : Int) != (1 : Int))) then true else ((((slRows valC x10).length : Nat) : Int) != (1 : Int)))) (idx x12 (0 : Int))) fun ⟨x13, x14, x15, x16, x17, x18⟩ =>
  bnd (gsome (!(bif (bif (bif (bif (bif (x7 != (0 : Int)) then true else (x9 != (0 : Int))) then true else (x11 != (0 : Int))) then true else ((((slRows valC x6).length : Nat) : Int) != (1 : Int))) then true else ((((slRows valC x8).length : Nat) : Int) != (1 : Int))) then true else ((((slRows valC x10).length : Nat) : Int) != (1 : Int)))) (idx x6 (0 : Int))) fun x19 =>
  bnd (gsome (!(bif (bif (bif (bif (bif (x7 != (0 : Int)) then true else (x9 != (0 : Int))) then true else (x11 != (0 : Int))) then true else ((((slRows valC x6).length : Nat) : Int) != (1 : Int))) then true else ((((slRows valC x8).length : Nat) : Int) != (1 : Int))) then true else ((((slRows valC x10).length : Nat) : Int) != (1 : Int)))) (idx x19 (0 : Int))) fun ⟨x20, x21, x22, x23, x24, x25⟩ =>
  bnd (gsome (!(bif (bif (bif (bif (bif (x7 != (0 : Int)) then true else (x9 != (0 : Int))) then true else (x11 != (0 : Int))) then true else ((((slRows valC x6).length : Nat) : Int) != (1 : Int))) then true else ((((slRows valC x8).length : Nat) : Int) != (1 : Int))) then true else ((((slRows valC x10).length : Nat) : Int) != (1 : Int)))) (idx x8 (0 : Int))) fun x26 =>
  bnd (gsome (!(bif (bif (bif (bif (bif (x7 != (0 : Int)) then true else (x9 != (0 : Int))) then true else (x11 != (0 : Int))) then true else ((((slRows valC x6).length : Nat) : Int) != (1 : Int))) then true else ((((slRows valC x8).length : Nat) : Int) != (1 : Int))) then true else ((((slRows valC x10).length : Nat) : Int) != (1 : Int)))) (idx x26 (0 : Int))) fun ⟨x27, x28, x29, x30, x31, x32⟩ =>
  bif (bif (bif (bif (bif (bif (bif (x7 != (0 : Int)) then true else (x9 != (0 : Int))) then true else (x11 != (0 : Int))) then true else ((((slRows valC x6).length : Nat) : Int) != (1 : Int))) then true else ((((slRows valC x8).length : Nat) : Int) != (1 : Int))) then true else ((((slRows valC x10).length : Nat) : Int) != (1 : Int))) then true else (x15 != (IntKind.i64.wrap (x22 + x29)))) then (
  some false)
  else (
  bnd (F_rows_Group n x1 [([115, 117, 109] : List UInt8)]) fun ⟨x33, x34⟩ =>
  bnd (F_rows_Group n x2 [([115, 117, 109] : List UInt8)]) fun ⟨x35, x36⟩ =>
  bnd (F_rows_Group n (x1 ++ x2) [([115, 117, 109] : List UInt8)]) fun ⟨x37, x38⟩ =>
  bif (bif (bif (x34 == (0 : Int)) then (x36 == (0 : Int)) else false) then (x38 == (0 : Int)) else false) then (
  bnd (idx x33 (0 : Int)) fun x52 =>
  bnd (idx x52 (0 : Int)) fun ⟨x53, x54, x55, x56, x57, x58⟩ =>
  bnd (idx x35 (0 : Int)) fun x59 =>
  bnd (idx x59 (0 : Int)) fun ⟨x60, x61, x62, x63, x64, x65⟩ =>
  bnd (F_num_Add n x55 x62) fun ⟨x66, x67⟩ =>
  bnd (gsome (!(x67 != (0 : Int))) (idx x37 (0 : Int))) fun x68 =>
  bnd (gsome (!(x67 != (0 : Int))) (idx x68 (0 : Int))) fun ⟨x69, x70, x71, x72, x73, x74⟩ =>
  bif (bif (x67 != (0 : Int)) then true else (x71 != x66)) then (
  some false)
  else (
  F_L17_RowsParts_k1 n x1 x2 ()))
  else (
  F_L17_RowsParts_k1 n x1 x2 ())))))

set_option maxHeartbeats 4000000 in
set_option maxRecDepth 100000 in
theorem F_L17_RowsParts_ok (n : Nat)   : ∀ (x1 : List (List Val)) (x2 : List (List Val)) (r : Bool), F_L17_RowsParts n x1 x2 = some r → CallsF Tryd.prog 6 [PV.sl (slRows valC x1), PV.sl (slRows valC x2)] (R_F_L17_RowsParts r) := by
  intro x1 x2 r h
  unfold F_L17_RowsParts at h
  refine CallsF.of_vcN mixed (fun _ _ => Tryd.call6 _ _) Tryd.func6 (by kernel_rfl) (inl := [1000000]) ?_
  conv => whnf
  replace h := bnd_some h
  obtain ⟨x3, h37, h⟩ := h
  refine ⟨_, (F_L17_few_ok n _ _  _ h37), ?_⟩
  conv => whnf
  refine And.intro (fun h => h) ?_
  conv => whnf
  replace h := bnd_some h
  obtain ⟨x4, h36, h⟩ := h
  refine ⟨_, fun hg => (F_L17_few_ok n _ _  _ (gsome_some h36 hg)), ?_⟩
  conv => whnf
  iterate 2 (refine And.intro (fun h => h) ?_)
  conv => whnf
  refine ⟨fun hc => ?_, fun hc => ?_⟩
  · have h := cond_t h hc
    conv => whnf
    replace h := bnd_some h
    obtain ⟨x5, h1, h⟩ := h
    refine ⟨_, (F_L17_works_ok n  _ h1), ?_⟩
    obtain rfl := Option.some.inj h
    conv => whnf
    repeat (first | exact rfl | exact trivial | refine ⟨?_, ?_⟩)
  · have h := cond_f h hc
    conv => whnf
    obtain ⟨h35, h⟩ := chk_some h
    refine ⟨⟨Codec.wide (slC valC) x1, of_decide_eq_true h35, len_ok h35 (by decide)⟩, ?_⟩
    conv => whnf
    rw [show slRows valC x1 ++ slRows valC x2 = slRows valC (x1 ++ x2) from Codec.append (slC valC) x1 x2]
    conv => whnf
    obtain ⟨h34, h⟩ := chk_some h
    refine ⟨⟨Codec.wide (slC valC) (x1 ++ x2), of_decide_eq_true h34, len_ok h34 (by decide)⟩, ?_⟩
    conv => whnf
    refine ⟨⟨rfl, rfl, rfl⟩, ?_⟩
    conv => whnf
    refine ⟨Codec.one strC [([99, 111, 117, 110, 116] : List UInt8)], strs [([99, 111, 117, 110, 116] : List UInt8)], .inl rfl, ?_⟩
    conv => whnf
    replace h := bnd_some h
    obtain ⟨⟨x6, x7⟩, h33, h⟩ := h
    refine ⟨_, (F_rows_Group_ok n _ _  _ h33), ?_⟩
    conv => whnf
    replace h := bnd_some h
    obtain ⟨⟨x8, x9⟩, h32, h⟩ := h
    refine ⟨_, (F_rows_Group_ok n _ _  _ h32), ?_⟩
    conv => whnf
    replace h := bnd_some h
    obtain ⟨⟨x10, x11⟩, h31, h⟩ := h
    refine ⟨_, (F_rows_Group_ok n _ _  _ h31), ?_⟩
    conv => whnf
    iterate 14 (refine And.intro (fun h => h) ?_)
    conv => whnf
    replace h := bnd_some h
    obtain ⟨x12, h30, h⟩ := h
    refine ⟨_, fun hg => Codec.at_ (slC valC) (gsome_some h30 hg), ?_⟩
    conv => whnf
    iterate 2 (refine And.intro (fun h => h) ?_)
    conv => whnf
    replace h := bnd_some h
    obtain ⟨⟨x13, x14, x15, x16, x17, x18⟩, h29, h⟩ := h
    refine ⟨_, fun hg => Codec.at_ valC (gsome_some h29 hg), ?_⟩
    conv => whnf
    iterate 3 (refine And.intro (fun h => h) ?_)
    conv => whnf
    replace h := bnd_some h
    obtain ⟨x19, h28, h⟩ := h
    refine ⟨_, fun hg => Codec.at_ (slC valC) (gsome_some h28 hg), ?_⟩
    conv => whnf
    iterate 2 (refine And.intro (fun h => h) ?_)
    conv => whnf
    replace h := bnd_some h
    obtain ⟨⟨x20, x21, x22, x23, x24, x25⟩, h27, h⟩ := h
    refine ⟨_, fun hg => Codec.at_ valC (gsome_some h27 hg), ?_⟩
    conv => whnf
    iterate 3 (refine And.intro (fun h => h) ?_)
    conv => whnf
    replace h := bnd_some h
    obtain ⟨x26, h26, h⟩ := h
    refine ⟨_, fun hg => Codec.at_ (slC valC) (gsome_some h26 hg), ?_⟩
    conv => whnf
    iterate 2 (refine And.intro (fun h => h) ?_)
    conv => whnf
    replace h := bnd_some h
    obtain ⟨⟨x27, x28, x29, x30, x31, x32⟩, h25, h⟩ := h
    refine ⟨_, fun hg => Codec.at_ valC (gsome_some h25 hg), ?_⟩
    conv => whnf
    iterate 7 (refine And.intro (fun h => h) ?_)
    conv => whnf
    refine ⟨fun hc => ?_, fun hc => ?_⟩
    · have h := cond_t h hc
      obtain rfl := Option.some.inj h
      conv => whnf
      repeat (first | exact rfl | exact trivial | refine ⟨?_, ?_⟩)
    · have h := cond_f h hc
      conv => whnf
      refine ⟨Codec.one strC [([115, 117, 109] : List UInt8)], strs [([115, 117, 109] : List UInt8)], .inl rfl, ?_⟩
      conv => whnf
      replace h := bnd_some h
      obtain ⟨⟨x33, x34⟩, h24, h⟩ := h
      refine ⟨_, (F_rows_Group_ok n _ _  _ h24), ?_⟩
      conv => whnf
      refine ⟨Codec.one strC [([115, 117, 109] : List UInt8)], strs [([115, 117, 109] : List UInt8)], .inl rfl, ?_⟩
      conv => whnf
      replace h := bnd_some h
      obtain ⟨⟨x35, x36⟩, h23, h⟩ := h
      refine ⟨_, (F_rows_Group_ok n _ _  _ h23), ?_⟩
      conv => whnf
      refine ⟨Codec.one strC [([115, 117, 109] : List UInt8)], strs [([115, 117, 109] : List UInt8)], .inl rfl, ?_⟩
      conv => whnf
      replace h := bnd_some h
      obtain ⟨⟨x37, x38⟩, h22, h⟩ := h
      refine ⟨_, (F_rows_Group_ok n _ _  _ h22), ?_⟩
      conv => whnf
      refine SeqA.cut (S := Unit) (fun _ => [(0, .p (.sl (slRows valC x1))), (1, .p (.sl (slRows valC x2))), (5, .tsl 0 (slRows valC (x1 ++ x2)))]) (fun _ => [.tail 37 1 (slRows valC (x1 ++ x2)).length]) (F_L17_RowsParts_k1 n x1 x2) (r := r) ?_ ?_
      · intro _ h
        unfold F_L17_RowsParts_k1 at h
        conv => whnf
        replace h := bnd_some h
        obtain ⟨x39, h14, h⟩ := h
        refine ⟨_, (F_rows_Unique_ok n _  _ h14), ?_⟩
        conv => whnf
        replace h := bnd_some h
        obtain ⟨x40, h13, h⟩ := h
        refine ⟨_, (F_rows_Unique_ok n _  _ h13), ?_⟩
        conv => whnf
        replace h := bnd_some h
        obtain ⟨x41, h12, h⟩ := h
        refine ⟨_, (F_rows_Unique_ok n _  _ h12), ?_⟩
        conv => whnf
        iterate 8 (refine And.intro (fun h => h) ?_)
        conv => whnf
        replace h := bnd_some h
        obtain ⟨x42, h11, h⟩ := h
        refine ⟨_, fun hg => natI_some (gsome_some h11 hg), ?_⟩
        conv => whnf
        obtain ⟨h10, h⟩ := chk_some h
        refine ⟨fun hg => ⟨Nat.zero_le _, (of_decide_eq_true (gd h10 hg) : (x42 ≤ (slRows valC x41).length)), Codec.wide (slC valC) x41⟩, ?_⟩
        first | rw [show List.drop 0 (List.take x42 (slRows valC x41)) = slRows valC (x41.take x42) from Codec.take (slC valC) x41 x42] | rw [show List.drop 0 (List.take x42 ((slC valC).rows x41)) = slRows valC (x41.take x42) from Codec.take (slC valC) x41 x42]
        conv => whnf
        iterate 2 (refine And.intro (fun h => h) ?_)
        conv => whnf
        replace h := bnd_some h
        obtain ⟨x43, h9, h⟩ := h
        refine ⟨_, fun hg => (F_R17_Same_ok n _ _  _ (gsome_some h9 hg)), ?_⟩
        conv => whnf
        iterate 2 (refine And.intro (fun h => h) ?_)
        conv => whnf
        refine ⟨fun hc => ?_, fun hc => ?_⟩
        · have h := cond_t h hc
          obtain rfl := Option.some.inj h
          conv => whnf
          repeat (first | exact rfl | exact trivial | refine ⟨?_, ?_⟩)
        · have h := cond_f h hc
          conv => whnf
          refine LoopA.fn [1000000] (S := Int) (fun x44 => [(15, .p (.sl (slRows valC x39))), (16, .p (.sl (slRows valC x40))), (17, .p (.sl (slRows valC x41))), (18, .p (.int .i64 x44))]) (fun x44 => []) (B := F_L17_RowsParts_l1 n x41 x39 x40) h ⟨[], [], ⟨rfl, rfl, rfl, rfl⟩, by repeat (first | exact trivial | exact .inl rfl | exact rfl | exact List.not_mem_nil | (refine .inr ?_) | (refine ⟨?_, ?_⟩) | exact List.length_set.symm | decide), by repeat (first | exact trivial | exact .inl rfl | exact rfl | exact List.not_mem_nil | (refine .inr ?_) | (refine ⟨?_, ?_⟩) | exact List.length_set.symm | decide)⟩ ?_
          intro nx1 x44 h
          unfold F_L17_RowsParts_l1 at h
          conv => whnf
          refine ⟨fun hc => ?_, fun hc => ?_⟩
          · have h := cond_t h hc
            conv => whnf
            replace h := bnd_some h
            obtain ⟨x45, h7, h⟩ := h
            refine ⟨_, Codec.at_ (slC valC) h7, ?_⟩
            conv => whnf
            replace h := bnd_some h
            obtain ⟨x46, h6, h⟩ := h
            refine ⟨_, (F_L17_often_ok n _ _  _ h6), ?_⟩
            conv => whnf
            iterate 2 (refine And.intro (fun h => h) ?_)
            conv => whnf
            replace h := bnd_some h
            obtain ⟨x47, h5, h⟩ := h
            refine ⟨_, fun hg => Codec.at_ (slC valC) (gsome_some h5 hg), ?_⟩
            conv => whnf
            iterate 3 (refine And.intro (fun h => h) ?_)
            conv => whnf
            replace h := bnd_some h
            obtain ⟨x48, h4, h⟩ := h
            refine ⟨_, fun hg => (F_L17_often_ok n _ _  _ (gsome_some h4 hg)), ?_⟩
            conv => whnf
            iterate 4 (refine And.intro (fun h => h) ?_)
            conv => whnf
            replace h := bnd_some h
            obtain ⟨x49, h3, h⟩ := h
            refine ⟨_, fun hg => Codec.at_ (slC valC) (gsome_some h3 hg), ?_⟩
            conv => whnf
            iterate 3 (refine And.intro (fun h => h) ?_)
            conv => whnf
            replace h := bnd_some h
            obtain ⟨x50, h2, h⟩ := h
            refine ⟨_, fun hg => (F_L17_often_ok n _ _  _ (gsome_some h2 hg)), ?_⟩
            conv => whnf
            iterate 2 (refine And.intro (fun h => h) ?_)
            conv => whnf
            refine ⟨fun hc => ?_, fun hc => ?_⟩
            · have h := cond_t h hc
              obtain rfl := Option.some.inj h
              conv => whnf
              repeat (first | exact rfl | exact trivial | refine ⟨?_, ?_⟩)
            · have h := cond_f h hc
              conv => whnf
              exact ⟨(IntKind.i64.wrap (x44 + (1 : Int))), h, ⟨[], [], ⟨rfl, rfl, rfl, rfl⟩, by repeat (first | exact trivial | exact .inl rfl | exact rfl | exact List.not_mem_nil | (refine .inr ?_) | (refine ⟨?_, ?_⟩) | exact List.length_set.symm | decide), by repeat (first | exact trivial | exact .inl rfl | exact rfl | exact List.not_mem_nil | (refine .inr ?_) | (refine ⟨?_, ?_⟩) | exact List.length_set.symm | decide)⟩⟩
          · have h := cond_f h hc
            conv => whnf
            replace h := bnd_some h
            obtain ⟨x51, h8, h⟩ := h
            refine ⟨_, (F_L17_works_ok n  _ h8), ?_⟩
            obtain rfl := Option.some.inj h
            conv => whnf
            repeat (first | exact rfl | exact trivial | refine ⟨?_, ?_⟩)
      · conv => whnf
        refine And.intro (fun h => h) ?_
        conv => whnf
        iterate 3 (refine And.intro (fun h => h) ?_)
        conv => whnf
        refine ⟨fun hc => ?_, fun hc => ?_⟩
        · have h := cond_t h hc
          conv => whnf
          replace h := bnd_some h
          obtain ⟨x52, h21, h⟩ := h
          refine ⟨_, Codec.at_ (slC valC) h21, ?_⟩
          conv => whnf
          replace h := bnd_some h
          obtain ⟨⟨x53, x54, x55, x56, x57, x58⟩, h20, h⟩ := h
          refine ⟨_, Codec.at_ valC h20, ?_⟩
          conv => whnf
          replace h := bnd_some h
          obtain ⟨x59, h19, h⟩ := h
          refine ⟨_, Codec.at_ (slC valC) h19, ?_⟩
          conv => whnf
          replace h := bnd_some h
          obtain ⟨⟨x60, x61, x62, x63, x64, x65⟩, h18, h⟩ := h
          refine ⟨_, Codec.at_ valC h18, ?_⟩
          conv => whnf
          replace h := bnd_some h
          obtain ⟨⟨x66, x67⟩, h17, h⟩ := h
          refine ⟨_, (F_num_Add_ok n _ _  _ h17), ?_⟩
          conv => whnf
          refine And.intro (fun h => h) ?_
          conv => whnf
          replace h := bnd_some h
          obtain ⟨x68, h16, h⟩ := h
          refine ⟨_, fun hg => Codec.at_ (slC valC) (gsome_some h16 hg), ?_⟩
          conv => whnf
          iterate 2 (refine And.intro (fun h => h) ?_)
          conv => whnf
          replace h := bnd_some h
          obtain ⟨⟨x69, x70, x71, x72, x73, x74⟩, h15, h⟩ := h
          refine ⟨_, fun hg => Codec.at_ valC (gsome_some h15 hg), ?_⟩
          conv => whnf
          iterate 5 (refine And.intro (fun h => h) ?_)
          conv => whnf
          refine ⟨fun hc => ?_, fun hc => ?_⟩
          · have h := cond_t h hc
            obtain rfl := Option.some.inj h
            conv => whnf
            repeat (first | exact rfl | exact trivial | refine ⟨?_, ?_⟩)
          · have h := cond_f h hc
            conv => whnf
            exact ⟨(), h, ⟨[1], [], ⟨rfl, rfl, rfl, rfl⟩, by repeat (first | exact trivial | exact .inl rfl | exact rfl | exact List.not_mem_nil | (refine .inr ?_) | (refine ⟨?_, ?_⟩) | exact List.length_set.symm | decide), by repeat (first | exact trivial | exact .inl rfl | exact rfl | exact List.not_mem_nil | (refine .inr ?_) | (refine ⟨?_, ?_⟩) | exact List.length_set.symm | decide)⟩⟩
        · have h := cond_f h hc
          conv => whnf
          exact ⟨(), h, ⟨[1], [], ⟨rfl, rfl, rfl, rfl⟩, by repeat (first | exact trivial | exact .inl rfl | exact rfl | exact List.not_mem_nil | (refine .inr ?_) | (refine ⟨?_, ?_⟩) | exact List.length_set.symm | decide), by repeat (first | exact trivial | exact .inl rfl | exact rfl | exact List.not_mem_nil | (refine .inr ?_) | (refine ⟨?_, ?_⟩) | exact List.length_set.symm | decide)⟩⟩

abbrev R_F_L17_RowsEnds (r : Bool) : PV := PV.bool r

def F_L17_RowsEnds_k3 (n : Nat) (nx1 : Bool × Int → Option (Bool)) (x9 : Int) : Bool → Option (Bool) := fun x10 =>
 nx1 (x10, (IntKind.i64.wrap (x9 + (1 : Int))))

def F_L17_RowsEnds_l1 (n : Nat) (x1 : List (List Val)) (x4 : List (List Val)) (x6 : List (List Val)) : (Bool × Int → Option (Bool)) → Bool × Int → Option (Bool) := fun nx1 (x8, x9) =>
 bif (decide (x9 < (((slRows valC x1).length : Nat) : Int))) then (
 bnd (idx x1 x9) fun x11 =>
 bnd (idx x11 (0 : Int)) fun ⟨x12, x13, x14, x15, x16, x17⟩ =>
 bif (x12 == (0 : Int)) then (
 F_L17_RowsEnds_k3 n nx1 x9 x8)
else (
 bnd (idx x4 (0 : Int)) fun x18 =>
 bnd (idx x18 (0 : Int)) fun ⟨x19, x20, x21, x22, x23, x24⟩ =>
 bnd (idx x1 x9) fun x25 =>
 bnd (idx x25 (0 : Int)) fun ⟨x26, x27, x28, x29, x30, x31⟩ =>
 bnd (F_value_Order n (Val.mk x19 x20 x21 x22 x23 x24) (Val.mk x26 x27 x28 x29 x30 x31)) fun x32 =>
 bnd (gsome (!(decide (x32 > (0 : Int)))) (idx x6 (0 : Int))) fun x33 =>
 bnd (gsome (!(decide (x32 > (0 : Int)))) (idx x33 (0 : Int))) fun ⟨x34, x35, x36, x37, x38, x39⟩ =>
 bnd (gsome (!(decide (x32 > (0 : Int)))) (idx x1 x9)) fun x40 =>
 bnd (gsome (!(decide (x32 > (0 : Int)))) (idx x40 (0 : Int))) fun ⟨x41, x42, x43, x44, x45, x46⟩ =>
 bnd (gsome (!(decide (x32 > (0 : Int)))) (F_value_Order n (Val.mk x34 x35 x36 x37 x38 x39) (Val.mk x41 x42 x43 x44 x45 x46))) fun x47 =>
 bif (bif (decide (x32 > (0 : Int))) then true else (decide (x47 < (0 : Int)))) then (
 some false)
else (
 F_L17_RowsEnds_k3 n nx1 x9 true)))
else (
 bif (!x8) then (
 bnd (idx x4 (0 : Int)) fun x48 =>
 bnd (idx x48 (0 : Int)) fun ⟨x49, x50, x51, x52, x53, x54⟩ =>
 bnd (gsome (x49 == (0 : Int)) (idx x6 (0 : Int))) fun x55 =>
 bnd (gsome (x49 == (0 : Int)) (idx x55 (0 : Int))) fun ⟨x56, x57, x58, x59, x60, x61⟩ =>
 bnd (gsome (bif (x49 == (0 : Int)) then (x56 == (0 : Int)) else false) (F_L17_works n)) fun x62 =>
 some (bif (bif (x49 == (0 : Int)) then (x56 == (0 : Int)) else false) then x62 else false))
else (
 bnd (idx x4 (0 : Int)) fun x63 =>
 bnd (F_L17_often n x63 x1) fun x64 =>
 bnd (gsome (decide (x64 > (0 : Int))) (idx x6 (0 : Int))) fun x65 =>
 bnd (gsome (decide (x64 > (0 : Int))) (F_L17_often n x65 x1)) fun x66 =>
 bnd (gsome (bif (decide (x64 > (0 : Int))) then (decide (x66 > (0 : Int))) else false) (F_L17_works n)) fun x67 =>
 some (bif (bif (decide (x64 > (0 : Int))) then (decide (x66 > (0 : Int))) else false) then x67 else false)))

def F_L17_RowsEnds (n : Nat)  (x1 : List (List Val)) : Option (Bool) :=
  bnd (F_L17_few n x1 (1 : Int)) fun x2 =>
  bif (!x2) then (
  bnd (F_L17_works n) fun x3 =>
  some x3)
  else (
  bnd (F_rows_Group n x1 [([109, 105, 110] : List UInt8)]) fun ⟨x4, x5⟩ =>
  bnd (F_rows_Group n x1 [([109, 97, 120] : List UInt8)]) fun ⟨x6, x7⟩ =>
  bif (bif (bif (bif (x5 != (0 : Int)) then true else (x7 != (0 : Int))) then true else ((((slRows valC x4).length : Nat) : Int) != (1 : Int))) then true else ((((slRows valC x6).length : Nat) : Int) != (1 : Int))) then (
  some false)
  else (
  loopK (F_L17_RowsEnds_l1 n x1 x4 x6) n (false, (0 : Int))))

set_option maxHeartbeats 4000000 in
set_option maxRecDepth 100000 in
theorem F_L17_RowsEnds_ok (n : Nat)   : ∀ (x1 : List (List Val)) (r : Bool), F_L17_RowsEnds n x1 = some r → CallsF Tryd.prog 7 [PV.sl (slRows valC x1)] (R_F_L17_RowsEnds r) := by
  intro x1 r h
  unfold F_L17_RowsEnds at h
  refine CallsF.of_vcN mixed (fun _ _ => Tryd.call7 _ _) Tryd.func7 (by kernel_rfl) (inl := [1000000]) ?_
  conv => whnf
  replace h := bnd_some h
  obtain ⟨x2, h26, h⟩ := h
  refine ⟨_, (F_L17_few_ok n _ _  _ h26), ?_⟩
  conv => whnf
  refine ⟨fun hc => ?_, fun hc => ?_⟩
  · have h := cond_t h hc
    conv => whnf
    replace h := bnd_some h
    obtain ⟨x3, h1, h⟩ := h
    refine ⟨_, (F_L17_works_ok n  _ h1), ?_⟩
    obtain rfl := Option.some.inj h
    conv => whnf
    repeat (first | exact rfl | exact trivial | refine ⟨?_, ?_⟩)
  · have h := cond_f h hc
    conv => whnf
    refine ⟨Codec.one strC [([109, 105, 110] : List UInt8)], strs [([109, 105, 110] : List UInt8)], .inl rfl, ?_⟩
    conv => whnf
    replace h := bnd_some h
    obtain ⟨⟨x4, x5⟩, h25, h⟩ := h
    refine ⟨_, (F_rows_Group_ok n _ _  _ h25), ?_⟩
    conv => whnf
    refine ⟨Codec.one strC [([109, 97, 120] : List UInt8)], strs [([109, 97, 120] : List UInt8)], .inl rfl, ?_⟩
    conv => whnf
    replace h := bnd_some h
    obtain ⟨⟨x6, x7⟩, h24, h⟩ := h
    refine ⟨_, (F_rows_Group_ok n _ _  _ h24), ?_⟩
    conv => whnf
    iterate 8 (refine And.intro (fun h => h) ?_)
    conv => whnf
    refine ⟨fun hc => ?_, fun hc => ?_⟩
    · have h := cond_t h hc
      obtain rfl := Option.some.inj h
      conv => whnf
      repeat (first | exact rfl | exact trivial | refine ⟨?_, ?_⟩)
    · have h := cond_f h hc
      conv => whnf
      refine LoopA.fn [1000000] (S := Bool × Int) (fun (x8, x9) => [(0, .p (.sl (slRows valC x1))), (3, .p (.sl (slRows valC x4))), (5, .p (.sl (slRows valC x6))), (7, .p (.bool x8)), (8, .p (.int .i64 x9))]) (fun (x8, x9) => []) (B := F_L17_RowsEnds_l1 n x1 x4 x6) h ⟨[], [], ⟨rfl, rfl, rfl, rfl⟩, by repeat (first | exact trivial | exact .inl rfl | exact rfl | exact List.not_mem_nil | (refine .inr ?_) | (refine ⟨?_, ?_⟩) | exact List.length_set.symm | decide), by repeat (first | exact trivial | exact .inl rfl | exact rfl | exact List.not_mem_nil | (refine .inr ?_) | (refine ⟨?_, ?_⟩) | exact List.length_set.symm | decide)⟩ ?_
      intro nx1 st h
      obtain ⟨x8, x9⟩ := st
      unfold F_L17_RowsEnds_l1 at h
      conv => whnf
      refine ⟨fun hc => ?_, fun hc => ?_⟩
      · have h := cond_t h hc
        conv => whnf
        refine SeqA.cut (S := Bool) (fun x10 => [(0, .p (.sl (slRows valC x1))), (3, .p (.sl (slRows valC x4))), (5, .p (.sl (slRows valC x6))), (7, .p (.bool x10)), (8, .p (.int .i64 x9))]) (fun x10 => []) (F_L17_RowsEnds_k3 n nx1 x9) (r := r) ?_ ?_
        · intro x10 h
          unfold F_L17_RowsEnds_k3 at h
          conv => whnf
          exact ⟨(x10, (IntKind.i64.wrap (x9 + (1 : Int)))), h, ⟨[], [], ⟨rfl, rfl, rfl, rfl⟩, by repeat (first | exact trivial | exact .inl rfl | exact rfl | exact List.not_mem_nil | (refine .inr ?_) | (refine ⟨?_, ?_⟩) | exact List.length_set.symm | decide), by repeat (first | exact trivial | exact .inl rfl | exact rfl | exact List.not_mem_nil | (refine .inr ?_) | (refine ⟨?_, ?_⟩) | exact List.length_set.symm | decide)⟩⟩
        · conv => whnf
          replace h := bnd_some h
          obtain ⟨x11, h13, h⟩ := h
          refine ⟨_, Codec.at_ (slC valC) h13, ?_⟩
          conv => whnf
          replace h := bnd_some h
          obtain ⟨⟨x12, x13, x14, x15, x16, x17⟩, h12, h⟩ := h
          refine ⟨_, Codec.at_ valC h12, ?_⟩
          conv => whnf
          refine ⟨fun hc => ?_, fun hc => ?_⟩
          · have h := cond_t h hc
            conv => whnf
            exact ⟨x8, h, ⟨[], [], ⟨rfl, rfl, rfl, rfl⟩, by repeat (first | exact trivial | exact .inl rfl | exact rfl | exact List.not_mem_nil | (refine .inr ?_) | (refine ⟨?_, ?_⟩) | exact List.length_set.symm | decide), by repeat (first | exact trivial | exact .inl rfl | exact rfl | exact List.not_mem_nil | (refine .inr ?_) | (refine ⟨?_, ?_⟩) | exact List.length_set.symm | decide)⟩⟩
          · have h := cond_f h hc
            conv => whnf
            replace h := bnd_some h
            obtain ⟨x18, h11, h⟩ := h
            refine ⟨_, Codec.at_ (slC valC) h11, ?_⟩
            conv => whnf
            replace h := bnd_some h
            obtain ⟨⟨x19, x20, x21, x22, x23, x24⟩, h10, h⟩ := h
            refine ⟨_, Codec.at_ valC h10, ?_⟩
            conv => whnf
            replace h := bnd_some h
            obtain ⟨x25, h9, h⟩ := h
            refine ⟨_, Codec.at_ (slC valC) h9, ?_⟩
            conv => whnf
            replace h := bnd_some h
            obtain ⟨⟨x26, x27, x28, x29, x30, x31⟩, h8, h⟩ := h
            refine ⟨_, Codec.at_ valC h8, ?_⟩
            conv => whnf
            replace h := bnd_some h
            obtain ⟨x32, h7, h⟩ := h
            refine ⟨_, (F_value_Order_ok n _ _  _ h7), ?_⟩
            conv => whnf
            refine And.intro (fun h => h) ?_
            conv => whnf
            replace h := bnd_some h
            obtain ⟨x33, h6, h⟩ := h
            refine ⟨_, fun hg => Codec.at_ (slC valC) (gsome_some h6 hg), ?_⟩
            conv => whnf
            iterate 2 (refine And.intro (fun h => h) ?_)
            conv => whnf
            replace h := bnd_some h
            obtain ⟨⟨x34, x35, x36, x37, x38, x39⟩, h5, h⟩ := h
            refine ⟨_, fun hg => Codec.at_ valC (gsome_some h5 hg), ?_⟩
            conv => whnf
            iterate 3 (refine And.intro (fun h => h) ?_)
            conv => whnf
            replace h := bnd_some h
            obtain ⟨x40, h4, h⟩ := h
            refine ⟨_, fun hg => Codec.at_ (slC valC) (gsome_some h4 hg), ?_⟩
            conv => whnf
            iterate 2 (refine And.intro (fun h => h) ?_)
            conv => whnf
            replace h := bnd_some h
            obtain ⟨⟨x41, x42, x43, x44, x45, x46⟩, h3, h⟩ := h
            refine ⟨_, fun hg => Codec.at_ valC (gsome_some h3 hg), ?_⟩
            conv => whnf
            iterate 3 (refine And.intro (fun h => h) ?_)
            conv => whnf
            replace h := bnd_some h
            obtain ⟨x47, h2, h⟩ := h
            refine ⟨_, fun hg => (F_value_Order_ok n _ _  _ (gsome_some h2 hg)), ?_⟩
            conv => whnf
            iterate 2 (refine And.intro (fun h => h) ?_)
            conv => whnf
            refine ⟨fun hc => ?_, fun hc => ?_⟩
            · have h := cond_t h hc
              obtain rfl := Option.some.inj h
              conv => whnf
              repeat (first | exact rfl | exact trivial | refine ⟨?_, ?_⟩)
            · have h := cond_f h hc
              conv => whnf
              exact ⟨true, h, ⟨[], [], ⟨rfl, rfl, rfl, rfl⟩, by repeat (first | exact trivial | exact .inl rfl | exact rfl | exact List.not_mem_nil | (refine .inr ?_) | (refine ⟨?_, ?_⟩) | exact List.length_set.symm | decide), by repeat (first | exact trivial | exact .inl rfl | exact rfl | exact List.not_mem_nil | (refine .inr ?_) | (refine ⟨?_, ?_⟩) | exact List.length_set.symm | decide)⟩⟩
      · have h := cond_f h hc
        conv => whnf
        refine ⟨fun hc => ?_, fun hc => ?_⟩
        · have h := cond_t h hc
          conv => whnf
          replace h := bnd_some h
          obtain ⟨x48, h18, h⟩ := h
          refine ⟨_, Codec.at_ (slC valC) h18, ?_⟩
          conv => whnf
          replace h := bnd_some h
          obtain ⟨⟨x49, x50, x51, x52, x53, x54⟩, h17, h⟩ := h
          refine ⟨_, Codec.at_ valC h17, ?_⟩
          conv => whnf
          refine And.intro (fun h => h) ?_
          conv => whnf
          replace h := bnd_some h
          obtain ⟨x55, h16, h⟩ := h
          refine ⟨_, fun hg => Codec.at_ (slC valC) (gsome_some h16 hg), ?_⟩
          conv => whnf
          iterate 2 (refine And.intro (fun h => h) ?_)
          conv => whnf
          replace h := bnd_some h
          obtain ⟨⟨x56, x57, x58, x59, x60, x61⟩, h15, h⟩ := h
          refine ⟨_, fun hg => Codec.at_ valC (gsome_some h15 hg), ?_⟩
          conv => whnf
          iterate 4 (refine And.intro (fun h => h) ?_)
          conv => whnf
          replace h := bnd_some h
          obtain ⟨x62, h14, h⟩ := h
          refine ⟨_, fun hg => (F_L17_works_ok n  _ (gsome_some h14 hg)), ?_⟩
          conv => whnf
          refine And.intro (fun h => h) ?_
          obtain rfl := Option.some.inj h
          conv => whnf
          repeat (first | exact rfl | exact trivial | refine ⟨?_, ?_⟩)
        · have h := cond_f h hc
          conv => whnf
          replace h := bnd_some h
          obtain ⟨x63, h23, h⟩ := h
          refine ⟨_, Codec.at_ (slC valC) h23, ?_⟩
          conv => whnf
          replace h := bnd_some h
          obtain ⟨x64, h22, h⟩ := h
          refine ⟨_, (F_L17_often_ok n _ _  _ h22), ?_⟩
          conv => whnf
          refine And.intro (fun h => h) ?_
          conv => whnf
          replace h := bnd_some h
          obtain ⟨x65, h21, h⟩ := h
          refine ⟨_, fun hg => Codec.at_ (slC valC) (gsome_some h21 hg), ?_⟩
          conv => whnf
          iterate 3 (refine And.intro (fun h => h) ?_)
          conv => whnf
          replace h := bnd_some h
          obtain ⟨x66, h20, h⟩ := h
          refine ⟨_, fun hg => (F_L17_often_ok n _ _  _ (gsome_some h20 hg)), ?_⟩
          conv => whnf
          iterate 2 (refine And.intro (fun h => h) ?_)
          conv => whnf
          replace h := bnd_some h
          obtain ⟨x67, h19, h⟩ := h
          refine ⟨_, fun hg => (F_L17_works_ok n  _ (gsome_some h19 hg)), ?_⟩
          conv => whnf
          refine And.intro (fun h => h) ?_
          obtain rfl := Option.some.inj h
          conv => whnf
          repeat (first | exact rfl | exact trivial | refine ⟨?_, ?_⟩)
end W
end
section
open Go Ax
namespace W
mutual
def vbig : Val → Nat
  | .mk _ _ _ s l ks => 1 + s.length + vbigL l + (ks.map fun k => 1 + k.length).sum
def vbigL : List Val → Nat
  | [] => 1
  | v :: l => 1 + vbig v + vbigL l
end
def nbig (l : List (List UInt8)) : Nat := (l.map fun k => 1 + k.length).sum
theorem nbig_len (l : List (List UInt8)) : l.length ≤ nbig l := by
  induction l with
  | nil => simp [nbig]
  | cons x l ih => simp only [nbig, List.map_cons, List.sum_cons, List.length_cons] at ih ⊢; omega
theorem wrapP {k : Nat} (h : k + 1 ≤ 1152921504606846976) : IntKind.i64.wrap (((k + 1 : Nat) : Int) - 1) = ((k : Nat) : Int) := by
  rw [wrapC (by omega) (by omega)]; omega
theorem nil_len (x : List UInt8) : (decide (((x.length : Nat) : Int) < 1)) = (x == []) := by
  cases x with
  | nil => rfl
  | cons a x => simp; omega
theorem vkeys_eq (n : Nat) (ks : List (List UInt8)) (c d : Int) (l : List Val) (g : Val → Int → Int → Option (Int × Bool)) (hn : n ≤ 1073741824) : ∀ m k : Nat, k ≤ ks.length → ks.length - k < m → ks.length < n →
    ∃ b, loopK (F_value_keys_l1 n ks) m (k : Int) = some b ∧ loopK (F_R03_may_l2 n ks c l g d) m (k : Int) = bif b then F_R03_may_k1 n l g d c () else some (IntKind.i64.wrap (c + 1), false) := by
  intro m
  induction m with
  | zero => intro k _ h; omega
  | succ m ih =>
    intro k hk hm hl
    rw [loopK_succ, loopK_succ]
    by_cases he : k = ks.length
    · subst he
      refine ⟨true, ?_, ?_⟩
      · simp only [F_value_keys_l1, strs_len, dec_nlt, cond_false]
      · simp only [F_R03_may_l2, strs_len, dec_nlt, cond_false, cond_true]
    · have hkl : k < ks.length := by omega
      obtain ⟨x, hx⟩ : ∃ x, ks[k]? = some x := ⟨_, List.getElem?_eq_getElem hkl⟩
      obtain ⟨b, h1, h2⟩ := ih (k + 1) (by omega) (by omega) hl
      rw [← wrapN (by omega)] at h1 h2
      simp only [F_value_keys_l1, F_R03_may_l2, strs_len, dec_lt hkl, cond_true, idx_nat hx, bnd_eq, nil_len]
      cases hE : x == [] with
      | true => exact ⟨false, by simp, by simp⟩
      | false =>
        simp only [Bool.not_false, gsome_t, bnd_eq, cond_false]
        cases hB : decide (((x.length : Nat) : Int) > 64) with
        | true => exact ⟨false, by simp, by simp⟩
        | false =>
          cases k with
          | zero =>
            refine ⟨b, ?_, ?_⟩
            · simpa using h1
            · simpa using h2
          | succ k =>
            have h0 : decide ((((k + 1 : Nat) : Int)) > 0) = true := decide_eq_true (by omega)
            obtain ⟨y, hy⟩ : ∃ y, ks[k]? = some y := ⟨_, List.getElem?_eq_getElem (by omega)⟩
            simp only [h0, Bool.not_false, Bool.and_true, gsome_t, wrapP (show k + 1 ≤ 1152921504606846976 by omega), idx_nat hy, bnd_eq, cond_true, cond_false, bl_total]
            cases Op.bytesLess y x with
            | false => exact ⟨false, by simp, by simp⟩
            | true => exact ⟨b, by simpa using h1, by simpa using h2⟩
theorem vbigL_len : ∀ l : List Val, l.length < vbigL l
  | [] => by simp [vbigL]
  | x :: l => by have := vbigL_len l; simp only [vbigL, List.length_cons]; omega
theorem vbigL_mem : ∀ {l : List Val} {x : Val}, x ∈ l → vbig x + 2 ≤ vbigL l
  | y :: l, x, h => by
    simp only [vbigL]
    rcases List.mem_cons.1 h with rfl | h
    · have := vbigL_len l; omega
    · have := vbigL_mem h; omega
theorem vloop_eq (n : Nat) (l : List Val) (g g' : Val → Int → Int → Option (Int × Bool)) (d : Int) (hn : n ≤ 1073741824)
    (hg : ∀ v ∈ l, ∀ d c, ∃ r, g v d c = some r ∧ g' v d c = some r) : ∀ m k : Nat, ∀ c : Int, k ≤ l.length → l.length - k < m → l.length < n →
    ∃ r, loopK (F_value_look_l1 n l g d) m (c, true, (k : Int)) = some r ∧ loopK (F_R03_may_l1 n l g' d) m (c, (k : Int)) = some r := by
  intro m
  induction m with
  | zero => intro k _ _ h; omega
  | succ m ih =>
    intro k c hk hm hl
    rw [loopK_succ, loopK_succ]
    by_cases he : k = l.length
    · subst he
      refine ⟨(c, true), ?_, ?_⟩
      · simp only [F_value_look_l1, valRows_len, dec_nlt, cond_false]
      · simp only [F_R03_may_l1, valRows_len, dec_nlt, cond_false]
    · have hkl : k < l.length := by omega
      obtain ⟨x, hx⟩ : ∃ x, l[k]? = some x := ⟨_, List.getElem?_eq_getElem hkl⟩
      obtain ⟨⟨c2, b⟩, h1, h2⟩ := hg x (mem_of hx) (IntKind.i64.wrap (d - 1)) c
      obtain ⟨x1, x2, x3, x4, x5, x6⟩ := x
      simp only [F_value_look_l1, F_R03_may_l1, valRows_len, dec_lt hkl, cond_true, idx_nat hx, bnd_eq, h1, h2]
      rw [wrapN (by omega)]
      cases b with
      | true =>
        obtain ⟨r, h3, h4⟩ := ih (k + 1) c2 (by omega) (by omega) hl
        exact ⟨r, h3, by simpa using h4⟩
      | false =>
        refine ⟨(c2, false), ?_, by simp⟩
        obtain ⟨m, rfl⟩ : ∃ m', m = m' + 1 := ⟨m - 1, by omega⟩
        rw [loopK_succ]
        simp only [F_value_look_l1, Bool.cond_self, cond_false]
theorem bare_eq (n : Nat) {x1 : Int} (h7 : x1 ≤ 7) (x2 : Bool) (x3 : Int) (x4 : List UInt8) (x5 : List Val) (x6 : List (List UInt8)) : F_R03_unused n ⟨x1, x2, x3, x4, x5, x6⟩ = F_value_bare n ⟨x1, x2, x3, x4, x5, x6⟩ := by
  simp only [F_value_bare, F_R03_unused]
  have e6 : decide (x1 ≥ 6) = (x1 == 6 || x1 == 7) := by
    rw [Bool.eq_iff_iff]; simp; omega
  have e5 : decide ((((Val.rows x5).length : Nat) : Int) > 0) = !((((Val.rows x5).length : Nat) : Int) == 0) := by
    generalize (Val.rows x5).length = m
    cases m with
    | zero => rfl
    | succ m => rw [decide_eq_true (by omega), beq_eq_false_iff_ne.2 (by omega)]; rfl
  have a1 : (bif (x1 != 1) then x2 else false) = !(bif (x1 == 1) then true else !x2) := by
    rw [bne]; cases (x1 == 1) <;> cases x2 <;> rfl
  have a2 : (bif (bif (bif (x1 != 2) then (x1 != 6) else false) then (x1 != 7) else false) then (x3 != 0) else false) = !(bif (bif (x1 == 2) then true else decide (x1 ≥ 6)) then true else (x3 == 0)) := by
    rw [e6, bne, bne, bne, bne]; cases (x1 == 2) <;> cases (x1 == 6) <;> cases (x1 == 7) <;> cases (x3 == 0) <;> rfl
  have a3 : (bif (x1 != 3) then (!(x4 == ([] : List UInt8))) else false) = !(bif (x1 == 3) then true else (x4 == ([] : List UInt8))) := by
    rw [bne]; cases (x1 == 3) <;> cases (x4 == ([] : List UInt8)) <;> rfl
  have a4 : (bif (bif (x1 != 4) then (x1 != 5) else false) then decide ((((Val.rows x5).length : Nat) : Int) > 0) else false) = !(bif (bif (x1 == 4) then true else (x1 == 5)) then true else ((((Val.rows x5).length : Nat) : Int) == 0)) := by
    rw [e5, bne, bne]; cases (x1 == 4) <;> cases (x1 == 5) <;> cases ((((Val.rows x5).length : Nat) : Int) == 0) <;> rfl
  rw [a1, a2, a3, a4]
  generalize (bif (x1 == 1) then true else !x2) = A
  generalize (bif (bif (x1 == 2) then true else decide (x1 ≥ 6)) then true else (x3 == 0)) = B
  generalize (bif (x1 == 3) then true else (x4 == ([] : List UInt8))) = C
  generalize (bif (bif (x1 == 4) then true else (x1 == 5)) then true else ((((Val.rows x5).length : Nat) : Int) == 0)) = D
  cases A <;> cases B <;> cases C <;> cases D <;> rfl
theorem look_eq : ∀ n : Nat, n ≤ 1073741824 → ∀ v d c, vbig v < n → ∃ r, F_value_look n v d c = some r ∧ F_R03_may n v d c = some r := by
  intro n
  induction n with
  | zero => intro _ _ _ _ h; omega
  | succ n ih =>
    intro hn v d c hv
    obtain ⟨x1, x2, x3, x4, x5, x6⟩ := v
    have hb : vbigL x5 < n ∧ x6.length < n := by
      have := nbig_len x6
      simp only [nbig] at this
      simp only [vbig] at hv
      have h0 := vbigL_len x5
      omega
    have hl := vbigL_len x5
    have hg : ∀ v ∈ x5, ∀ d c, ∃ r, F_value_look n v d c = some r ∧ F_R03_may n v d c = some r := fun v hm d c => ih (by omega) v d c (by have := vbigL_mem hm; omega)
    have hloop : ∀ c, ∃ r, loopK (F_value_look_l1 n x5 (F_value_look n) d) n (c, true, (0 : Int)) = some r ∧ loopK (F_R03_may_l1 n x5 (F_R03_may n) d) n (c, (0 : Int)) = some r := fun c =>
      vloop_eq n x5 _ _ d (by omega) hg n 0 c (by omega) (by omega) (by omega)
    obtain ⟨kb, hk1, hk2⟩ := vkeys_eq n x6 c d x5 (F_R03_may n) (by omega) n 0 (by omega) (by omega) hb.2
    obtain ⟨r, hr1, hr2⟩ := hloop (IntKind.i64.wrap (c + 1))
    simp only [F_value_look, F_R03_may, BF_value_look, BF_R03_may, F_value_keys]
    generalize hC : IntKind.i64.wrap (c + 1) = C at *
    have hvw : ∃ G : Bool, (bif (bif (bif (decide (d < 1)) then true else (decide (C > 4096))) then true else (decide (x1 < 0))) then true else (decide (x1 > 7))) = G ∧
        (bif (bif (bif (decide (C > 4096)) then true else (decide (d < 1))) then true else (decide (x1 < 0))) then true else (decide (x1 > 7))) = G ∧ (G = false → x1 ≤ 7) := by
      refine ⟨_, rfl, ?_, ?_⟩
      · cases decide (C > 4096) <;> cases decide (d < 1) <;> rfl
      · cases decide (C > 4096) <;> cases decide (d < 1) <;> cases decide (x1 < 0) <;> simp
    obtain ⟨G, hG1, hG2, hG3⟩ := hvw
    rw [hG1, hG2]
    cases G with
    | true => exact ⟨(C, false), by simp, by simp⟩
    | false =>
      have h7 := hG3 rfl
      rw [bare_eq n h7]
      obtain ⟨B, hB⟩ : ∃ B, F_value_bare n ⟨x1, x2, x3, x4, x5, x6⟩ = some B := ⟨_, rfl⟩
      rw [hB]
      have e6 : decide (x1 ≥ 6) = (bif (x1 == 6) then true else (x1 == 7)) := by
        rw [Bool.eq_iff_iff]; simp; omega
      rw [e6]
      cases B with
      | false => exact ⟨(C, false), by simp, by simp⟩
      | true =>
        simp only [Bool.not_false, Bool.not_true, gsome_t, bnd_eq, cond_false, cond_true]
        cases hT : (bif (bif (x1 == 6) then true else (x1 == 7)) then decide (x3 < 1) else false) with
        | true => exact ⟨(C, false), by simp, by simp⟩
        | false =>
          cases h5 : (x1 == 5) with
          | false =>
            refine ⟨r, ?_, ?_⟩
            · simpa using hr1
            · simpa [F_R03_may_k1, hC] using hr2
          | true =>
            cases hN : ((((strs x6).length : Nat) : Int) != (((Val.rows x5).length : Nat) : Int)) with
            | true => exact ⟨(C, false), by simp, by simp⟩
            | false =>
              simp only [Bool.not_false, Bool.and_true, gsome_t, cond_false, cond_true]
              have hk1' : loopK (F_value_keys_l1 n x6) n (0 : Int) = some kb := hk1
              have hk2' : loopK (F_R03_may_l2 n x6 c x5 (F_R03_may n) d) n (0 : Int) = _ := hk2
              rw [hk1', hk2', bnd_eq]
              cases kb with
              | true =>
                refine ⟨r, ?_, ?_⟩
                · simpa using hr1
                · simpa [F_R03_may_k1, hC] using hr2
              | false => exact ⟨(C, false), by simp, by simp⟩
theorem check_eq {n : Nat} (hn : n ≤ 1073741824) {v : Val} (hv : vbig v < n) : ∃ b : Bool, F_value_Check n v = some (bif b then 0 else 20) ∧ F_R03_May n v = some b := by
  obtain ⟨x1, x2, x3, x4, x5, x6⟩ := v
  obtain ⟨⟨c, b⟩, h1, h2⟩ := look_eq n hn _ 32 0 hv
  refine ⟨b, ?_, ?_⟩
  · simp only [F_value_Check, h1, bnd_eq]
    cases b <;> rfl
  · simp only [F_R03_May, h2, bnd_eq]

theorem eqloop {A : Type} {B : (Int → Option Bool) → Int → Option Bool} {l l' : List A} (hlen : l.length = l'.length)
    (step : ∀ (k : Nat) x y nx, l[k]? = some x → l'[k]? = some y → ∃ b, (b = true ↔ x = y) ∧ B nx (k : Int) = bif b then nx ((k + 1 : Nat) : Int) else some false)
    (hend : ∀ nx, B nx (l.length : Int) = some true) {n : Nat} (hn : l.length < n) : ∃ b, loopK B n 0 = some b ∧ (b = true ↔ l = l') := by
  have main : ∀ m k : Nat, k ≤ l.length → l.length - k < m → ∃ b, loopK B m (k : Int) = some b ∧ (b = true ↔ l.drop k = l'.drop k) := by
    intro m
    induction m with
    | zero => intro k _ h; omega
    | succ m ih =>
      intro k hk hm
      rw [loopK_succ]
      by_cases he : k = l.length
      · subst he
        exact ⟨true, hend _, by rw [List.drop_length, hlen, List.drop_length]; simp⟩
      · have h1 : k < l.length := by omega
        have h2 : k < l'.length := by omega
        obtain ⟨b, hb, hs⟩ := step k _ _ (loopK B m) (List.getElem?_eq_getElem h1) (List.getElem?_eq_getElem h2)
        rw [hs, List.drop_eq_getElem_cons h1, List.drop_eq_getElem_cons h2, List.cons.injEq, ← hb]
        cases b with
        | false => exact ⟨false, rfl, by simp⟩
        | true =>
          obtain ⟨b, h3, h4⟩ := ih (k + 1) (by omega) (by omega)
          exact ⟨b, h3, by simpa using h4⟩
  obtain ⟨b, h1, h2⟩ := main n 0 (by omega) (by omega)
  exact ⟨b, h1, by simpa using h2⟩
theorem beq_spec {A : Type} [BEq A] [LawfulBEq A] (x y : A) : ((x == y) = true ↔ x = y) := beq_iff_eq
theorem lens_ne {a b : Nat} : ((((a : Nat) : Int) != ((b : Nat) : Int)) = true) ↔ a ≠ b := by simp [Int.natCast_inj]
theorem F_R03_SameNames_eq {n : Nat} {x y : List (List UInt8)} (h : x.length < n) (hn : n ≤ 1073741824) : ∃ b, F_R03_SameNames n x y = some b ∧ (b = true ↔ x = y) := by
  unfold F_R03_SameNames
  by_cases hl : x.length = y.length
  · have : ((((strs x).length : Nat) : Int) != (((strs y).length : Nat) : Int)) = false := by simp [hl]
    rw [this, cond_false]
    refine eqloop hl (fun k a b nx ha hb => ⟨a == b, beq_iff_eq, ?_⟩) (fun nx => by simp only [F_R03_SameNames_l1, strs_len, dec_nlt, cond_false]) h
    have hk := mem_lt ha
    simp only [F_R03_SameNames_l1, strs_len, dec_lt hk, cond_true, idx_nat ha, idx_nat hb, bnd_eq]
    rw [wrapN (by omega)]
    first | (cases a == b <;> rfl) | (cases h : a == b <;> simp [h, bne])
  · have : ((((strs x).length : Nat) : Int) != (((strs y).length : Nat) : Int)) = true := by rw [strs_len, strs_len]; exact lens_ne.2 hl
    rw [this]
    exact ⟨false, rfl, by simp; intro e; exact hl (congrArg _ e)⟩
theorem same_core {x1 x7 : Int} {x2 x8 : Bool} {x3 x9 : Int} {x4 x10 : List UInt8} {x6 x12 : List (List UInt8)} {x5 x11 : List Val} {N L : Option Bool} {a b : Bool} (hN : N = some a) (ha : a = true ↔ x6 = x12) (hL : L = some b) (hb : b = true ↔ x5 = x11) :
    ∃ r, (bnd (gsome (bif (bif (bif (x1 == x7) then (x2 == x8) else false) then (x3 == x9) else false) then (x4 == x10) else false) N) fun x13 =>
      bnd (gsome (bif (bif (bif (bif (x1 == x7) then (x2 == x8) else false) then (x3 == x9) else false) then (x4 == x10) else false) then x13 else false) L) fun x14 =>
      some (bif (bif (bif (bif (bif (x1 == x7) then (x2 == x8) else false) then (x3 == x9) else false) then (x4 == x10) else false) then x13 else false) then x14 else false)) = some r ∧
    (r = true ↔ Val.mk x1 x2 x3 x4 x5 x6 = Val.mk x7 x8 x9 x10 x11 x12) := by
  subst hN hL
  have e1 : (x1 == x7) = true ↔ x1 = x7 := beq_iff_eq
  have e2 : (x2 == x8) = true ↔ x2 = x8 := beq_iff_eq
  have e3 : (x3 == x9) = true ↔ x3 = x9 := beq_iff_eq
  have e4 : (x4 == x10) = true ↔ x4 = x10 := beq_iff_eq
  rw [Val.mk.injEq, ← e1, ← e2, ← e3, ← e4, ← hb, ← ha]
  cases (x1 == x7) <;> cases (x2 == x8) <;> cases (x3 == x9) <;> cases (x4 == x10) <;> cases a <;> cases b <;> exact ⟨_, rfl, by simp⟩
theorem r03_same : ∀ n : Nat, n ≤ 1073741824 → (∀ v w, vbig v < n → ∃ b, F_R03_Same n v w = some b ∧ (b = true ↔ v = w)) ∧ (∀ l l', vbigL l < n → ∃ b, F_R03_SameList n l l' = some b ∧ (b = true ↔ l = l')) := by
  intro n
  induction n with
  | zero => intro _; exact ⟨fun _ _ h => by omega, fun _ _ h => by omega⟩
  | succ n ih =>
    intro hn
    obtain ⟨ihv, ihl⟩ := ih (by omega)
    refine ⟨fun v w hv => ?_, fun l l' hl => ?_⟩
    · obtain ⟨x1, x2, x3, x4, x5, x6⟩ := v
      obtain ⟨x7, x8, x9, x10, x11, x12⟩ := w
      have hb : vbigL x5 < n ∧ x6.length < n := by
        have := nbig_len x6
        simp only [nbig] at this
        simp only [vbig] at hv
        have h0 := vbigL_len x5
        omega
      obtain ⟨a, ha1, ha2⟩ := F_R03_SameNames_eq (y := x12) hb.2 (by omega)
      obtain ⟨b, hb1, hb2⟩ := ihl x5 x11 hb.1
      simp only [F_R03_Same, BF_R03_Same]
      exact same_core ha1 ha2 hb1 hb2
    · have hlen := vbigL_len l
      simp only [F_R03_SameList, BF_R03_SameList]
      by_cases hll : l.length = l'.length
      · have : ((((Val.rows l).length : Nat) : Int) != (((Val.rows l').length : Nat) : Int)) = false := by simp [hll]
        rw [this, cond_false]
        refine eqloop hll (fun k a b nx ha hb => ?_) (fun nx => by simp only [F_R03_SameList_l1, valRows_len, dec_nlt, cond_false]) (by omega)
        have hk := mem_lt ha
        obtain ⟨r, hr, hr2⟩ := ihv a b (by have := vbigL_mem (mem_of ha); omega)
        refine ⟨r, hr2, ?_⟩
        obtain ⟨x1, x2, x3, x4, x5, x6⟩ := a
        obtain ⟨x7, x8, x9, x10, x11, x12⟩ := b
        simp only [F_R03_SameList_l1, valRows_len, dec_lt hk, cond_true, idx_nat ha, idx_nat hb, bnd_eq, hr]
        rw [wrapN (by omega)]
        cases r <;> rfl
      · have : ((((Val.rows l).length : Nat) : Int) != (((Val.rows l').length : Nat) : Int)) = true := by rw [valRows_len, valRows_len]; exact lens_ne.2 hll
        rw [this]
        exact ⟨false, rfl, by simp; intro e; exact hll (congrArg _ e)⟩
end W
end
section
open Go Ax
namespace W
set_option maxRecDepth 10000

theorem vbig_le : ∀ v : Val, vbig v + 1 ≤ 3 * v.big
  | .mk k b i s l ks => by
    have h := vbigL_le l
    have h2 : ∀ ks : List (List UInt8), (ks.map fun k => 1 + k.length).sum = kbig ks := by
      intro ks
      induction ks with
      | nil => rfl
      | cons a l ih => simp only [List.map_cons, List.sum_cons, kbig, ih]; omega
    simp only [vbig, Val.big, h2]
    omega
where vbigL_le : ∀ l : List Val, vbigL l ≤ 1 + 3 * bigs l
  | [] => by simp [vbigL, bigs]
  | v :: l => by
    have h1 := vbig_le v
    have h2 := vbigL_le l
    simp only [vbigL, bigs]
    omega

theorem keys_right (n : Nat) (ks : List (List UInt8)) (hk : ks.length ≤ 1073741824) : ∀ m i : Nat, i ≤ ks.length → loopK (F_value_keys_l1 n ks) m (i : Int) = some true → ∀ j, i ≤ j → j < ks.length → keyBad ks j = false := by
  intro m
  induction m with
  | zero => intro i _ h; cases h
  | succ m ih =>
    intro i hi h j hij hj
    rw [loopK_succ] at h
    generalize hnx : loopK (F_value_keys_l1 n ks) m = nx at ih h
    unfold F_value_keys_l1 at h
    have hlen : (strs ks).length = ks.length := by simp [strs]
    rw [hlen] at h
    by_cases hlt : i < ks.length
    · rw [decide_eq_true (show (i : Int) < (ks.length : Int) by omega), cond_true] at h
      obtain ⟨x3, h3, h⟩ := bnd_some h
      obtain ⟨x4, h4, h⟩ := bnd_some h
      have e3 : ks[i]? = some x3 := by rw [Ax.idx_nat] at h3; exact h3
      have g3 : ks.getD i [] = x3 := by rw [List.getD_eq_getElem?_getD, e3]; rfl
      cases hc : (bif (bif (bif (x3 == ([] : List UInt8)) then true else (decide (((x3.length : Nat) : Int) > (64 : Int)))) then true else (bif (decide ((i : Int) > (0 : Int))) then (!(Op.bytesLess x4 x3)) else false)) then some false else nx (IntKind.i64.wrap ((i : Int) + (1 : Int)))) with
      | none => rw [hc] at h; cases h
      | some r =>
        cases hb : (bif (bif (x3 == ([] : List UInt8)) then true else (decide (((x3.length : Nat) : Int) > (64 : Int)))) then true else (bif (decide ((i : Int) > (0 : Int))) then (!(Op.bytesLess x4 x3)) else false)) with
        | true => rw [hb] at h; simp at h
        | false =>
          rw [hb, cond_false, wrapN (by omega)] at h
          rcases Nat.lt_or_ge i j with hlt2 | hge
          · exact ih (i + 1) (by omega) h j hlt2 hj
          · obtain rfl : j = i := by omega
            unfold keyBad
            rw [g3]
            by_cases h0 : (j : Nat) = 0
            · subst h0
              simpa using hb
            · have hg : (bif (x3 == ([] : List UInt8)) then true else (decide (((x3.length : Nat) : Int) > (64 : Int)))) = false := by
                cases hx : (bif (x3 == ([] : List UInt8)) then true else (decide (((x3.length : Nat) : Int) > (64 : Int)))) with
                | false => rfl
                | true => rw [hx] at hb; simp at hb
              rw [hg, decide_eq_true (show (j : Int) > 0 by omega)] at h4
              have h4' : idx ks (IntKind.i64.wrap ((j : Int) - 1)) = some x4 := h4
              rw [show IntKind.i64.wrap ((j : Int) - 1) = ((j - 1 : Nat) : Int) by rw [wrapC (by omega) (by omega)]; omega, Ax.idx_nat] at h4'
              have g4 : ks.getD (j - 1) [] = x4 := by rw [List.getD_eq_getElem?_getD, h4']; rfl
              rw [g4]
              exact hb
    · omega

theorem look_right : ∀ (n : Nat), n ≤ 1073741824 → ∀ (v : Val) (d c r : Int), vbig v < n → F_value_look n v d c = some (r, true) → right v = true := by
  intro n
  induction n with
  | zero => intro _ _ _ _ _ h; omega
  | succ n ih =>
    intro hn v d c r hv h
    obtain ⟨x1, x2, x3, x4, x5, x6⟩ := v
    have hb : vbigL x5 < n ∧ x6.length < n := by
      have := nbig_len x6
      simp only [nbig] at this
      simp only [vbig] at hv
      omega
    have hl := vbigL_len x5
    simp only [F_value_look, BF_value_look] at h
    obtain ⟨x9, h9, h⟩ := bnd_some h
    obtain ⟨x10, h10, h⟩ := bnd_some h
    generalize hC : IntKind.i64.wrap (c + 1) = C at *
    revert h
    cases h1 : decide (d < 1) with
    | true => intro h; simp [h1] at h
    | false =>
    cases h2 : decide (C > 4096) with
    | true => intro h; simp [h2] at h
    | false =>
    cases h3 : decide (x1 < 0) with
    | true => intro h; simp [h3] at h
    | false =>
    cases h4 : decide (x1 > 7) with
    | true => intro h; simp [h4] at h
    | false =>
    rw [h1, h2, h3, h4] at h9 h10
    simp only [cond_false, Bool.not_false, gsome_t] at h9
    cases hx9 : x9 with
    | false => intro h; simp [hx9] at h
    | true =>
    subst hx9
    cases h6 : (bif (decide (x1 ≥ 6)) then (decide (x3 < 1)) else false) with
    | true => intro h; simp [h6] at h
    | false =>
    simp only [cond_false, Bool.not_false, Bool.not_true, h6, Bool.true_and] at h10 ⊢
    intro h
    have key : (!(x1 == 5 && (x6.length != x5.length || !keysB x6))) = true ∧ loopK (F_value_look_l1 n x5 (F_value_look n) d) n (C, true, (0 : Int)) = some (r, true) := by
      cases h5 : (x1 == (5 : Int)) with
      | false => rw [h5] at h; exact ⟨by simp, by simpa using h⟩
      | true =>
        rw [h5] at h h10
        simp only [cond_true, Bool.true_and] at h h10
        have el : ((((strs x6).length : Nat) : Int) != (((Val.rows x5).length : Nat) : Int)) = (x6.length != x5.length) := by
          rw [Bool.eq_iff_iff]; simp [strs, Int.natCast_inj]
        rw [el] at h h10
        cases hN : (x6.length != x5.length) with
        | true => rw [hN] at h; simp at h
        | false =>
          rw [hN] at h h10
          simp only [Bool.not_false, gsome_t, cond_false] at h h10
          cases hx : x10 with
          | false => rw [hx] at h; simp at h
          | true =>
            rw [hx] at h h10
            refine ⟨?_, by simpa using h⟩
            have hk : keysB x6 = true := by
              unfold keysB
              rw [List.all_eq_true]
              intro j hj
              rw [keys_right n x6 (by omega) n 0 (Nat.zero_le _) h10 j (Nat.zero_le _) (by simpa using hj)]
              rfl
            simp [hk]
    have hall : ∀ (m i : Nat) (c2 : Int) (ok : Bool), i ≤ x5.length → loopK (F_value_look_l1 n x5 (F_value_look n) d) m (c2, ok, (i : Int)) = some (r, true) → ok = true ∧ ∀ v ∈ x5.drop i, right v = true := by
      intro m
      induction m with
      | zero => intro i _ _ _ h; cases h
      | succ m ihm =>
        intro i c2 ok hi h
        rw [loopK_succ] at h
        generalize loopK (F_value_look_l1 n x5 (F_value_look n) d) m = nx at ihm h
        unfold F_value_look_l1 at h
        simp only [valRows_len] at h
        by_cases hlt : i < x5.length
        · rw [decide_eq_true (show (i : Int) < (x5.length : Int) by omega), cond_true] at h
          cases ok with
          | false => simp at h
          | true =>
            simp only [cond_true] at h
            obtain ⟨⟨a1, a2, a3, a4, a5, a6⟩, hx, h⟩ := bnd_some h
            obtain ⟨⟨c3, ok3⟩, hy, h⟩ := bnd_some h
            have ex : x5[i]? = some (Val.mk a1 a2 a3 a4 a5 a6) := by rw [Ax.idx_nat] at hx; exact hx
            have h' : nx (c3, ok3, IntKind.i64.wrap ((i : Int) + 1)) = some (r, true) := h
            rw [wrapN (by omega)] at h'
            obtain ⟨hok, hr⟩ := ihm (i + 1) c3 ok3 (by omega) h'
            subst hok
            refine ⟨rfl, fun v hv => ?_⟩
            obtain ⟨_, e⟩ := List.getElem?_eq_some_iff.1 ex
            rw [List.drop_eq_getElem_cons hlt, e] at hv
            rcases List.mem_cons.1 hv with rfl | hv
            · exact ih (by omega) _ _ _ _ (by have := vbigL_mem (List.mem_of_getElem? ex); omega) hy
            · exact hr v hv
        · rw [decide_eq_false (show ¬ (i : Int) < (x5.length : Int) by omega)] at h
          simp only [cond_false] at h
          have : x5.drop i = [] := List.drop_eq_nil_of_le (by omega)
          rw [this]
          refine ⟨?_, fun v hv => by simp at hv⟩
          have := Option.some.inj h
          exact (Prod.mk.inj this).2
    obtain ⟨hkey, hloop⟩ := key
    have hr := (hall n 0 C true (Nat.zero_le _) hloop).2
    have hrl : ∀ l : List Val, (∀ v ∈ l, right v = true) → rightL l = true := by
      intro l
      induction l with
      | nil => intro _; rfl
      | cons v l ih => intro h; simp only [rightL, h v (by simp), ih (fun w hw => h w (by simp [hw])), Bool.and_true]
    simp only [right, hrl x5 (by simpa using hr), Bool.and_true]
    have h3' : 0 ≤ x1 := by simpa using h3
    have h4' : x1 ≤ 7 := by simpa using h4
    have hb9 : bareB x1 x2 x3 x4 x5.length x6.length = true := by
      have := Option.some.inj h9
      unfold bareB
      simpa [strs] using this
    have h66 : (!(decide (x1 ≥ 6) && decide (x3 < 1))) = true := by
      cases ha : decide (x1 ≥ 6) with
      | false => rfl
      | true => rw [ha] at h6; simp only [cond_true] at h6; rw [h6]; rfl
    simp only [good1, decide_eq_true h3', decide_eq_true h4', hb9, h66, hkey, Bool.and_self, Bool.true_and]

theorem may_right' {n : Nat} (hn : n ≤ 1073741824) {v : Val} (hv : vbig v < n) (h : F_R03_May n v = some true) : right v = true ∧ F_value_Check n v = some 0 := by
  obtain ⟨b, hb1, hb2⟩ := check_eq hn hv
  obtain rfl : b = true := by rw [h] at hb2; exact (Option.some.inj hb2).symm
  refine ⟨?_, hb1⟩
  obtain ⟨x1, x2, x3, x4, x5, x6⟩ := v
  unfold F_value_Check at hb1
  obtain ⟨⟨x7, x8⟩, h7, hb1⟩ := bnd_some hb1
  cases x8 with
  | false => simp at hb1
  | true => exact look_right n hn _ _ _ _ hv h7
end W
end
section
open Go Ax Go.RowKit
namespace W
set_option maxRecDepth 10000

theorem rep_len {A : Type} (C : Codec A) (k : Nat) (x : A) : (C.rows (List.replicate k x)).length = k := by rw [C.hrows]; simp
theorem set_self {A : Type} {l : List A} {i : Nat} {x : A} (h : l[i]? = some x) : l.set i x = l := by
  obtain ⟨hlt, e⟩ := List.getElem?_eq_some_iff.1 h
  subst e
  exact List.set_getElem_self hlt

theorem copy_id : ∀ n : Nat, n ≤ 1073741824 → ∀ v : Val, vbig v < n → F_value_Copy n v = some v := by
  intro n
  induction n with
  | zero => intro _ _ h; omega
  | succ n ih =>
    intro hn v hv
    obtain ⟨x1, x2, x3, x4, x5, x6⟩ := v
    have hb : vbigL x5 < n ∧ x6.length < n := by
      have := nbig_len x6
      simp only [nbig] at this
      simp only [vbig] at hv
      omega
    have hl := vbigL_len x5
    have hrep : ∀ k : Nat, (Val.rows (List.replicate k (Val.mk (0 : Int) false (0 : Int) ([] : List UInt8) ([] : List Val) ([] : List (List UInt8))))).length = k := fun k => by simp
    have loop : ∀ (m i : Nat), i ≤ x5.length → x5.length - i < m → loopK (F_value_Copy_l1 n x5.length (F_value_Copy n) x6 x1 x2 x3 x4) m ((i : Int), x5) = some (Val.mk x1 x2 x3 x4 x5 x6) := by
      intro m
      induction m with
      | zero => intro i _ h; omega
      | succ m ihm =>
        intro i hi hm
        rw [loopK_succ]
        generalize loopK (F_value_Copy_l1 n x5.length (F_value_Copy n) x6 x1 x2 x3 x4) m = nx at ihm ⊢
        unfold F_value_Copy_l1
        simp only [hrep]
        by_cases hlt : i < x5.length
        · obtain ⟨x, hx⟩ : ∃ x, x5[i]? = some x := ⟨_, List.getElem?_eq_getElem hlt⟩
          have hc := ih (by omega) x (by have := vbigL_mem (List.mem_of_getElem? hx); omega)
          obtain ⟨a1, a2, a3, a4, a5, a6⟩ := x
          rw [decide_eq_true (show (i : Int) < (x5.length : Int) by omega)]
          simp only [cond_true, Ax.natI_nat, bnd_eq, decide_eq_true hlt, chk_t, hx, hc]
          rw [wrapN (by omega), set_self hx]
          exact ihm (i + 1) (by omega) (by omega)
        · rw [decide_eq_false (show ¬ (i : Int) < (x5.length : Int) by omega)]
          simp only [cond_false]
          rw [chk_dec (by simp [strs]; omega)]
    simp only [F_value_Copy, BF_value_Copy, valRows_len, Ax.natI_nat, bnd_eq, List.length_replicate, decide_true, chk_t]
    rw [chk_dec (by omega)]
    exact loop n 0 (Nat.zero_le _) (by omega)

theorem copied_id {n : Nat} (hn : n ≤ 1073741824) {l : List Val} (hl : vbigL l < n) : F_rows_copied n l = some l := by
  have h1 := vbigL_len l
  have loop : ∀ (m i : Nat), i ≤ l.length → l.length - i < m → loopK (F_rows_copied_l1 n l) m (l.take i, (i : Int)) = some l := by
    intro m
    induction m with
    | zero => intro i _ h; omega
    | succ m ihm =>
      intro i hi hm
      rw [loopK_succ]
      generalize loopK (F_rows_copied_l1 n l) m = nx at ihm ⊢
      unfold F_rows_copied_l1
      simp only [valRows_len]
      by_cases hlt : i < l.length
      · obtain ⟨x, hx⟩ : ∃ x, l[i]? = some x := ⟨_, List.getElem?_eq_getElem hlt⟩
        have hc := copy_id n hn x (by have := vbigL_mem (List.mem_of_getElem? hx); omega)
        obtain ⟨a1, a2, a3, a4, a5, a6⟩ := x
        rw [decide_eq_true (show (i : Int) < (l.length : Int) by omega)]
        have e : l.take i ++ [Val.mk a1 a2 a3 a4 a5 a6] = l.take (i + 1) := by rw [List.take_succ, hx]; rfl
        simp only [cond_true, Ax.idx_nat, hx, bnd_eq, hc, e]
        rw [chk_dec (by rw [List.length_take]; omega), wrapN (by omega)]
        exact ihm (i + 1) (by omega) (by omega)
      · rw [decide_eq_false (show ¬ (i : Int) < (l.length : Int) by omega)]
        simp only [cond_false]
        rw [List.take_of_length_le (by omega)]
  unfold F_rows_copied
  simp only [valRows_len, Ax.natI_nat, bnd_eq]
  rw [chk_dec (by omega)]
  exact loop n 0 (Nat.zero_le _) (by omega)

/-! ### Keys -/
theorem shift8 (m a b : Nat) (h : a = b) : u8I (IntKind.u8.wrap (Int.fdiv (m : Int) (2 ^ a))) = some (UInt8.ofNat (m / 2 ^ b)) := by
  subst h
  have e1 : ((m : Int).fdiv (2 ^ a)) = ((m / 2 ^ a : Nat) : Int) := by
    have : (2 : Int) ^ a = ((2 ^ a : Nat) : Int) := by simp
    rw [this, Int.fdiv_eq_ediv_of_nonneg _ (Int.natCast_nonneg _)]
    exact (Int.natCast_ediv m (2 ^ a)).symm
  rw [e1]
  generalize m / 2 ^ a = q
  have e2 : IntKind.u8.wrap (q : Int) = ((q % 256 : Nat) : Int) := by simp [IntKind.wrap, IntKind.bits, IntKind.signed]
  rw [e2]
  unfold u8I
  rw [if_pos (by omega)]
  congr 1
  apply UInt8.toNat.inj
  simp
  omega
theorem eight_eq (n m : Nat) (hn : 20 ≤ n) : F_rank_eight n (m : Int) = some (eightL m) := by
  obtain ⟨n, rfl⟩ : ∃ k, n = k + 20 := ⟨n - 20, by omega⟩
  unfold F_rank_eight
  have w : ∀ i : Nat, i < 8 → IntKind.i64.wrap ((56 : Int) - (IntKind.i64.wrap ((8 : Int) * (i : Int)))) = ((56 - 8 * i : Nat) : Int) := fun i hi => by
    rw [wrapC (i := 8 * (i : Int)) (by omega) (by omega), wrapC (by omega) (by omega)]; omega
  have step : ∀ (k i : Nat) (l : List UInt8), i < 8 → l.length = 8 → loopK (F_rank_eight_l1 (n + 20) m) (k + 1) ((i : Int), l) = loopK (F_rank_eight_l1 (n + 20) m) k (((i + 1 : Nat) : Int), l.set i (UInt8.ofNat (m / 2 ^ (56 - 8 * i)))) := by
    intro k i l hi hl
    rw [loopK_succ]
    generalize loopK (F_rank_eight_l1 (n + 20) m) k = nx
    unfold F_rank_eight_l1
    simp only [w i hi]
    rw [decide_eq_true (show (i : Int) < 8 by omega), cond_true, chk_dec (by omega), Ax.natI_nat, bnd_eq, chk_dec hi, shift8 m _ (56 - 8 * i) (by rw [Int.toNat_natCast]; exact Nat.min_eq_left (by show _ ≤ 64; omega)), bnd_eq, chk_dec (by omega), wrapN (by omega)]
  have s8 := step
  rw [show n + 20 = (n + 11) + 1 + 1 + 1 + 1 + 1 + 1 + 1 + 1 + 1 from rfl]
  have e0 : (0 : Int) = ((0 : Nat) : Int) := rfl
  rw [e0]
  rw [step _ 0 _ (by omega) rfl, step _ 1 _ (by omega) rfl, step _ 2 _ (by omega) rfl, step _ 3 _ (by omega) rfl, step _ 4 _ (by omega) rfl, step _ 5 _ (by omega) rfl, step _ 6 _ (by omega) rfl, step _ 7 _ (by omega) rfl, loopK_succ]
  rfl
theorem countB_le (s : List UInt8) : Lib.countB ⟨s.toArray⟩ ⟨([0] : List UInt8).toArray⟩ ≤ s.length := by
  have := Lib.countB_le ⟨#[0]⟩ (Nat.le_refl _) s.length ⟨s.toArray⟩ (Nat.le_refl _)
  exact this
theorem ended_eq (n : Nat) (s : List UInt8) (hs : s.length ≤ 1073741824) : F_rank_ended n s = some (endedM s) := by
  unfold F_rank_ended F_strings_ReplaceAll
  have := countB_le s
  have h2 := esc_length s
  rw [chk_dec (by omega), chk_dec (by decide), chk_dec (by show _ + _ * 2 ≤ _; omega), bnd_eq, replaceAll_esc, chk_dec (by show (((_ + 2 : Nat)) : Int) ≤ maxI; unfold maxI; omega)]
  rfl

/-- What is asked of sizes and fuel: a value's own size, ten times. -/
theorem lay_both : ∀ n : Nat, n ≤ 1073741824 → ∀ v : Val, right v = true → (20 * v.big + 40 < n → F_rank_lay n v = some (layM v)) ∧ (20 * v.big + 39 < n → ∀ k b i s l ks, v = .mk k b i s l ks → (k = 4 ∨ k = 5) → F_rank_rows n v = some (layM v)) := by
  intro n
  induction n with
  | zero => intro _ _ _; exact ⟨fun h => by omega, fun h => by omega⟩
  | succ n ih =>
    intro hn v hr
    obtain ⟨k, b, i, s, l, ks⟩ := v
    have hg : good1 (.mk k b i s l ks) = true ∧ rightL l = true := by simpa [right] using hr
    have hbig : (Val.mk k b i s l ks).big = 1 + s.length + bigs l + kbig ks := rfl
    have hll := bigs_len l
    have hkl := kbig_len ks
    -- the rows' own text, by the induction's answers for the parts
    have hrows : 20 * (Val.mk k b i s l ks).big + 39 < n + 1 → (k = 4 ∨ k = 5) → F_rank_rows (n + 1) (.mk k b i s l ks) = some (layM (.mk k b i s l ks)) := by
      intro hv hk
      have hlen : k = 5 → ks.length = l.length := by
        intro h5
        rcases good_shape hg.1 with h | h | h | h | h | h | h | h <;> (try (exfalso; omega))
        exact h.2.2.2.2.1
      have part : ∀ x ∈ l, F_rank_lay n x = some (layM x) := fun x hx => by
        have h1 : right x = true := rightL_get hg.2 hx
        have h2 := bigs_mem hx
        exact (ih (by omega) x h1).1 (by omega)
      have lenL : ∀ l : List Val, (layL l).length ≤ 16 * bigs l := layL_length
      have loop : ∀ (m j : Nat) (acc : List UInt8), j ≤ l.length → l.length - j < m → acc.length + 16 * bigs (l.drop j) + 4 * kbig (ks.drop j) + 4 * (l.length - j) + 4 ≤ 140737488355328 →
          loopK (F_rank_rows_l1 n l k ks (F_rank_lay n)) m ((j : Int), acc) = some (acc ++ ((bif k == 5 then layK (l.drop j) (ks.drop j) else layL (l.drop j)) ++ [0])) := by
        intro m
        induction m with
        | zero => intro j _ _ h; omega
        | succ m ihm =>
          intro j acc hj hm hsz
          rw [loopK_succ]
          generalize loopK (F_rank_rows_l1 n l k ks (F_rank_lay n)) m = nx at ihm ⊢
          unfold F_rank_rows_l1
          simp only [valRows_len]
          by_cases hlt : j < l.length
          · obtain ⟨x, hx⟩ : ∃ x, l[j]? = some x := ⟨_, List.getElem?_eq_getElem hlt⟩
            have hp := part x (List.mem_of_getElem? hx)
            have hd : l.drop j = x :: l.drop (j + 1) := by
              obtain ⟨_, e⟩ := List.getElem?_eq_some_iff.1 hx
              rw [List.drop_eq_getElem_cons hlt, e]
            have hxl := layM_length x
            rw [hd] at hsz ⊢
            simp only [bigs] at hsz
            rw [decide_eq_true (show (j : Int) < (l.length : Int) by omega)]
            obtain ⟨a1, a2, a3, a4, a5, a6⟩ := x
            simp only [cond_true, Ax.idx_nat, hx, bnd_eq]
            cases hk5 : (k == (5 : Int)) with
            | true =>
              have hkk : ks.length = l.length := hlen (by simpa using hk5)
              obtain ⟨y, hy⟩ : ∃ y, ks[j]? = some y := ⟨_, List.getElem?_eq_getElem (by omega)⟩
              have hdk : ks.drop j = y :: ks.drop (j + 1) := by
                obtain ⟨_, e⟩ := List.getElem?_eq_some_iff.1 hy
                rw [List.drop_eq_getElem_cons (by omega), e]
              rw [hdk] at hsz ⊢
              simp only [kbig] at hsz
              have hyl : y.length ≤ 1073741824 := by
                have : y.length + 1 + kbig (ks.drop (j + 1)) ≤ kbig ks := by
                  have e : ∀ (q : List (List UInt8)) (c : Nat), kbig (q.drop c) ≤ kbig q := by
                    intro q
                    induction q with
                    | nil => intro c; simp
                    | cons a q ihq =>
                      intro c
                      cases c with
                      | zero => exact Nat.le_refl _
                      | succ c => simp only [List.drop_succ_cons, kbig]; have := ihq c; omega
                  have := e ks j
                  rw [hdk] at this
                  exact this
                omega
              have hen := endedM_length y
              have br : ∀ z : List UInt8, (bRows z).length = z.length := fun z => by simp [bRows]
              simp only [cond_true, hy, bnd_eq, ended_eq n y hyl]
              rw [chk_dec (by rw [br]; simp only [List.length_append, List.length_cons, List.length_nil]; omega), chk_dec (by rw [br]; simp only [List.length_append, List.length_cons, List.length_nil]; omega)]
              unfold F_rank_rows_k4
              rw [hp, bnd_eq, chk_dec (by rw [br]; simp only [List.length_append, List.length_cons, List.length_nil]; omega), wrapN (by omega),
                ihm (j + 1) _ (by omega) (by omega) (by simp only [List.length_append, List.length_cons, List.length_nil]; omega)]
              rw [hk5]
              simp only [cond_true, layK, List.append_assoc, List.cons_append, List.nil_append]
            | false =>
              have br : ∀ z : List UInt8, (bRows z).length = z.length := fun z => by simp [bRows]
              have hkd : kbig (ks.drop (j + 1)) ≤ kbig (ks.drop j) := by
                have e : ∀ (q : List (List UInt8)) (c : Nat), kbig (q.drop (c + 1)) ≤ kbig (q.drop c) := by
                  intro q
                  induction q with
                  | nil => intro c; simp
                  | cons a q ihq =>
                    intro c
                    cases c with
                    | zero => simp only [List.drop_succ_cons, List.drop_zero, kbig]; omega
                    | succ c => simp only [List.drop_succ_cons]; exact ihq c
                exact e ks j
              simp only [cond_false]
              unfold F_rank_rows_k4
              rw [hp, bnd_eq, chk_dec (by rw [br]; simp only [List.length_append]; omega), wrapN (by omega),
                ihm (j + 1) _ (by omega) (by omega) (by simp only [List.length_append]; omega)]
              rw [hk5]
              simp only [cond_false, layL, List.append_assoc]
          · have br : ∀ z : List UInt8, (bRows z).length = z.length := fun z => by simp [bRows]
            rw [decide_eq_false (show ¬ (j : Int) < (l.length : Int) by omega)]
            simp only [cond_false]
            rw [chk_dec (by rw [br]; simp only [List.length_append, List.length_cons, List.length_nil]; omega)]
            have e1 : l.drop j = [] := List.drop_eq_nil_of_le (by omega)
            rw [e1]
            cases hk5 : (k == (5 : Int)) with
            | true =>
              have hkk : ks.length = l.length := hlen (by simpa using hk5)
              have e2 : ks.drop j = [] := List.drop_eq_nil_of_le (by omega)
              rw [e2]; rfl
            | false => rfl
      simp only [F_rank_rows, BF_rank_rows]
      rw [chk_dec (by decide)]
      rcases hk with rfl | rfl
      · unfold F_rank_rows_k1
        have := loop n 0 [4] (Nat.zero_le _) (by omega) (by simp only [List.drop_zero, List.length_cons, List.length_nil]; omega)
        have e0 : ((0 : Nat) : Int) = 0 := rfl
        rw [e0] at this
        simp only [show ((4 : Int) == 5) = false from rfl, cond_false] at this ⊢
        rw [this]
        simp [layM]
      · unfold F_rank_rows_k1
        have := loop n 0 [1] (Nat.zero_le _) (by omega) (by simp only [List.drop_zero, List.length_cons, List.length_nil]; omega)
        have e0 : ((0 : Nat) : Int) = 0 := rfl
        rw [e0] at this
        simp only [show ((5 : Int) == 5) = true from rfl, cond_true] at this ⊢
        rw [chk_dec (by decide), this]
        simp [layM]
    refine ⟨fun hv => ?_, fun hv k' b' i' s' l' ks' e hk => ?_⟩
    · have w64 : IntKind.u64.wrap i = ((bits64 i : Nat) : Int) := wrap64 i
      have hsl : s.length ≤ 1073741824 := by omega
      have h8 : (eightL (bits64 i)).length = 8 := rfl
      have h8' : (eightL (bits64 i ^^^ 9223372036854775808)).length = 8 := rfl
      have hen := endedM_length s
      simp only [F_rank_lay, BF_rank_lay]
      rcases good_shape hg.1 with h | h | h | h | h | h | h | h
      · obtain ⟨rfl, rfl, rfl, rfl, rfl, rfl⟩ := h; rfl
      · obtain ⟨rfl, rfl, rfl, rfl, rfl⟩ := h; cases b <;> rfl
      · obtain ⟨rfl, rfl, rfl, rfl, rfl⟩ := h
        simp only [show ((2 : Int) == 1) = false from rfl, show ((2 : Int) == 2) = true from rfl, cond_false, cond_true]
        rw [xor64 i, eight_eq n _ (by omega), bnd_eq, chk_dec (by rw [h8']; decide)]
        simp [layM]
      · obtain ⟨rfl, rfl, rfl, rfl, rfl⟩ := h
        simp only [show ((3 : Int) == 1) = false from rfl, show ((3 : Int) == 2) = false from rfl, show ((3 : Int) == 3) = true from rfl, cond_false, cond_true]
        rw [ended_eq n s hsl, bnd_eq, chk_dec (by simp only [List.length_cons, List.length_nil]; unfold maxI; omega)]
        simp [layM]
      · obtain ⟨rfl, rfl, rfl, rfl, rfl⟩ := h
        simp only [show ((4 : Int) == 1) = false from rfl, show ((4 : Int) == 2) = false from rfl, show ((4 : Int) == 3) = false from rfl, show ((4 : Int) == 6) = false from rfl, show ((4 : Int) == 7) = false from rfl, show ((4 : Int) == 4) = true from rfl, cond_false, cond_true]
        unfold F_rank_lay_k1
        simp only [cond_true]
        rw [(ih (by omega) _ hr).2 (by omega) 4 false 0 [] l [] rfl (.inl rfl), bnd_eq]
      · obtain ⟨rfl, rfl, rfl, rfl, h5⟩ := h
        simp only [show ((5 : Int) == 1) = false from rfl, show ((5 : Int) == 2) = false from rfl, show ((5 : Int) == 3) = false from rfl, show ((5 : Int) == 6) = false from rfl, show ((5 : Int) == 7) = false from rfl, show ((5 : Int) == 4) = false from rfl, show ((5 : Int) == 5) = true from rfl, cond_false, cond_true]
        unfold F_rank_lay_k1
        simp only [cond_true]
        rw [(ih (by omega) _ hr).2 (by omega) 5 false 0 [] l ks rfl (.inr rfl), bnd_eq]
      · obtain ⟨rfl, rfl, rfl, rfl, rfl, h1⟩ := h
        simp only [show ((6 : Int) == 1) = false from rfl, show ((6 : Int) == 2) = false from rfl, show ((6 : Int) == 3) = false from rfl, show ((6 : Int) == 6) = true from rfl, cond_false, cond_true]
        rw [w64, eight_eq n _ (by omega), bnd_eq, chk_dec (by rw [h8]; decide)]
        simp [layM]
      · obtain ⟨rfl, rfl, rfl, rfl, rfl, h1⟩ := h
        simp only [show ((7 : Int) == 1) = false from rfl, show ((7 : Int) == 2) = false from rfl, show ((7 : Int) == 3) = false from rfl, show ((7 : Int) == 6) = false from rfl, show ((7 : Int) == 7) = true from rfl, cond_false, cond_true]
        rw [w64, eight_eq n _ (by omega), bnd_eq, chk_dec (by rw [h8]; decide)]
        simp [layM]
    · cases e
      exact hrows hv hk
end W
end
section
open Go Ax Go.RowKit
namespace W
set_option maxRecDepth 10000

section
variable {K V : Type} [BEq K] [LawfulBEq K]
theorem mget_set (k s : K) (v : V) : ∀ m : List (K × V), mget s (mset k v m) = if s == k then some v else mget s m
  | [] => by
    simp only [mset, mget]
    cases s == k <;> rfl
  | (k', v') :: m => by
    by_cases h : k = k'
    · subst h
      simp only [mset, beq_self_eq_true, cond_true, mget]
      cases s == k <;> rfl
    · have h' : (k == k') = false := beq_eq_false_iff_ne.2 h
      simp only [mset, h', cond_false, mget, mget_set k s v m]
      by_cases hs : s = k'
      · subst hs
        have : (s == k) = false := beq_eq_false_iff_ne.2 fun e => h e.symm
        simp [this]
      · have : (s == k') = false := beq_eq_false_iff_ne.2 hs
        simp [this]
theorem mhas_set (k s : K) (v : V) (m : List (K × V)) : mhas (mset k v m) s = (s == k || mhas m s) := by
  simp only [mhas, mget_set]
  cases s == k <;> rfl
end

/-- A value that may be, of a size that the fuel n is enough for. -/
structure OkV (n : Nat) (v : Val) : Prop where
  right : right v = true
  range : range64 v = true
  check : F_value_Check n v = some 0
  small : 20 * v.big + 40 < n
/-- A row: of c values that may be. -/
structure OkR (n c : Nat) (r : List Val) : Prop where
  len : r.length = c
  val : ∀ v ∈ r, OkV n v
  small : 40 * bigs r + 40 < n
/-- The size of rows. -/
def rbig : List (List Val) → Nat
  | [] => 0
  | r :: l => 1 + bigs r + rbig l
theorem rbig_mem {l : List (List Val)} {r : List Val} (h : r ∈ l) : bigs r + 1 ≤ rbig l := by
  induction l with
  | nil => cases h
  | cons a l ih =>
    simp only [rbig]
    rcases List.mem_cons.1 h with rfl | h
    · omega
    · have := ih h; omega
theorem rbig_len (l : List (List Val)) : l.length ≤ rbig l := by
  induction l with
  | nil => exact Nat.le_refl _
  | cons a l ih => simp only [rbig, List.length_cons]; omega
theorem rbig_append (l m : List (List Val)) : rbig (l ++ m) = rbig l + rbig m := by
  induction l with
  | nil => simp [rbig]
  | cons a l ih => simp only [List.cons_append, rbig, ih]; omega
structure OkL (n c : Nat) (l : List (List Val)) : Prop where
  row : ∀ r ∈ l, OkR n c r
  small : 60 * rbig l + 1000 < n
  lim : n ≤ 1073741824

theorem vbig3 (v : Val) : vbig v + 1 ≤ 3 * v.big := vbig_le v
theorem vbigL3 (l : List Val) : vbigL l ≤ 1 + 3 * bigs l := vbig_le.vbigL_le l

theorem slen (l : List (List Val)) : (slRows valC l).length = l.length := by simp [slRows]
theorem intLen (l : List Int) : (intRows .i64 l).length = l.length := by simp [intRows]

theorem r03_may_of {n : Nat} (hn : n ≤ 1073741824) {v : Val} (hv : vbig v < n) : ∃ b, F_R03_May n v = some b ∧ (b = true → right v = true ∧ F_value_Check n v = some 0) := by
  obtain ⟨b, h1, h2⟩ := check_eq hn hv
  refine ⟨b, h2, fun hb => ?_⟩
  subst hb
  exact may_right' hn hv h2

/-- Are all values of rows of 64 bits? -/
def rangeR (l : List (List Val)) : Bool := l.all rangeRow
where rangeRow (r : List Val) : Bool := r.all range64

theorem row_loop {n : Nat} (hn : n ≤ 1073741824) {l : List (List Val)} {i c : Nat} {r : List Val} (hr : l[i]? = some r) (hc : r.length = c) (hs : 40 * bigs r + 40 < n) (nx : Int → Option Bool) :
    ∀ m j : Nat, j ≤ c → c - j < m → ∃ b : Bool, loopK (F_R17_May_l2 n (c : Int) l (i : Int) nx) m (j : Int) = (if b = true then nx (IntKind.i64.wrap ((i : Int) + 1)) else some false) ∧ (b = true → ∀ v ∈ r.drop j, right v = true ∧ F_value_Check n v = some 0) := by
  intro m
  induction m with
  | zero => intro j _ h; omega
  | succ m ih =>
    intro j hj hm
    rw [loopK_succ]
    generalize loopK (F_R17_May_l2 n (c : Int) l (i : Int) nx) m = nx2 at ih ⊢
    unfold F_R17_May_l2
    by_cases hlt : j < c
    · obtain ⟨x, hx⟩ : ∃ x, r[j]? = some x := ⟨_, List.getElem?_eq_getElem (by omega)⟩
      have hb := bigs_mem (List.mem_of_getElem? hx)
      have h3 := vbig3 x
      obtain ⟨b, hb1, hb2⟩ := r03_may_of hn (v := x) (by omega)
      have hd : r.drop j = x :: r.drop (j + 1) := by
        obtain ⟨_, e⟩ := List.getElem?_eq_some_iff.1 hx
        rw [List.drop_eq_getElem_cons (by omega), e]
      rw [decide_eq_true (show (j : Int) < (c : Int) by omega)]
      obtain ⟨a1, a2, a3, a4, a5, a6⟩ := x
      have hll := bigs_len r
      simp only [cond_true, Ax.idx_nat, hr, bnd_eq, hx, hb1]
      cases b with
      | false => exact ⟨false, rfl, fun h => by cases h⟩
      | true =>
        simp only [Bool.not_true, cond_false]
        rw [wrapN (by omega)]
        obtain ⟨b, e, hv⟩ := ih (j + 1) (by omega) (by omega)
        refine ⟨b, e, fun h v hm => ?_⟩
        rw [hd] at hm
        rcases List.mem_cons.1 hm with rfl | hm
        · exact hb2 rfl
        · exact hv h v hm
    · rw [decide_eq_false (show ¬ (j : Int) < (c : Int) by omega)]
      refine ⟨true, rfl, fun _ v hm => ?_⟩
      rw [List.drop_eq_nil_of_le (by omega)] at hm
      cases hm

theorem may_rows {n : Nat} (hn : n ≤ 1073741824) {l : List (List Val)} (c : Nat) (hs : 60 * rbig l + 1000 < n) (hcn : c < n) :
    ∃ b, F_R17_May n l (c : Int) = some b ∧ (b = true → ∀ r ∈ l, r.length = c ∧ ∀ v ∈ r, right v = true ∧ F_value_Check n v = some 0) := by
  have hl := rbig_len l
  have loop : ∀ m i : Nat, i ≤ l.length → l.length - i < m → ∃ b, loopK (F_R17_May_l1 n l (c : Int)) m (i : Int) = some b ∧ (b = true → ∀ r ∈ l.drop i, r.length = c ∧ ∀ v ∈ r, right v = true ∧ F_value_Check n v = some 0) := by
    intro m
    induction m with
    | zero => intro i _ h; omega
    | succ m ih =>
      intro i hi hm
      rw [loopK_succ]
      generalize loopK (F_R17_May_l1 n l (c : Int)) m = nx at ih ⊢
      unfold F_R17_May_l1
      simp only [slen]
      by_cases hlt : i < l.length
      · obtain ⟨r, hr⟩ : ∃ x, l[i]? = some x := ⟨_, List.getElem?_eq_getElem hlt⟩
        have hb := rbig_mem (List.mem_of_getElem? hr)
        have hd : l.drop i = r :: l.drop (i + 1) := by
          obtain ⟨_, e⟩ := List.getElem?_eq_some_iff.1 hr
          rw [List.drop_eq_getElem_cons hlt, e]
        rw [decide_eq_true (show (i : Int) < (l.length : Int) by omega)]
        simp only [cond_true, Ax.idx_nat, hr, bnd_eq, valRows_len]
        by_cases hc : r.length = c
        · have e : ((((r.length : Nat) : Int)) != (c : Int)) = false := by simp [hc]
          rw [e, cond_false]
          obtain ⟨b, h1, h2⟩ := row_loop hn hr hc (by omega) nx n 0 (Nat.zero_le _) (by omega)
          rw [show ((0 : Int)) = ((0 : Nat) : Int) from rfl, h1]
          cases b with
          | false => exact ⟨false, rfl, fun h => by cases h⟩
          | true =>
            simp only [if_true]
            rw [wrapN (by omega)]
            obtain ⟨b, e2, h3⟩ := ih (i + 1) (by omega) (by omega)
            refine ⟨b, e2, fun h q hq => ?_⟩
            rw [hd] at hq
            rcases List.mem_cons.1 hq with rfl | hq
            · exact ⟨hc, by simpa using h2 rfl⟩
            · exact h3 h q hq
        · have e : ((((r.length : Nat) : Int)) != (c : Int)) = true := by simp; omega
          rw [e, cond_true]
          exact ⟨false, rfl, fun h => by cases h⟩
      · rw [decide_eq_false (show ¬ (i : Int) < (l.length : Int) by omega)]
        refine ⟨true, rfl, fun _ v hm => ?_⟩
        rw [List.drop_eq_nil_of_le (by omega)] at hm
        cases hm
  obtain ⟨b, h1, h2⟩ := loop n 0 (Nat.zero_le _) (by omega)
  exact ⟨b, h1, by simpa using h2⟩

theorem few_eq {n : Nat} (hn : n ≤ 1073741824) {l : List (List Val)} (c : Nat) (hs : 60 * rbig l + 1000 < n) (hcn : c < n) (hrg : rangeR l = true) :
    ∃ b, F_L17_few n l (c : Int) = some b ∧ (b = true → l.length ≤ 200 ∧ OkL n c l) := by
  obtain ⟨b, h1, h2⟩ := may_rows hn c hs hcn
  unfold F_L17_few
  rw [slen]
  cases hd : decide ((l.length : Int) ≤ 200) with
  | false => exact ⟨false, by simp [gsome], fun h => by cases h⟩
  | true =>
    rw [h1]
    refine ⟨b, by simp [gsome], fun hb => ⟨by have := of_decide_eq_true hd; omega, ⟨fun r hr => ?_, hs, hn⟩⟩⟩
    obtain ⟨h3, h4⟩ := h2 hb r hr
    have hb := rbig_mem hr
    refine ⟨h3, fun v hv => ?_, by omega⟩
    have hb2 := bigs_mem hv
    have hr1 := List.all_eq_true.1 hrg r hr
    exact ⟨(h4 v hv).1, List.all_eq_true.1 hr1 v hv, (h4 v hv).2, by omega⟩
end W
end
section
open Go Go.Proofs Ax Go.WideShapes
namespace W
open Go.Proofs.YtajcpfcghhbbnaaDoor
set_option maxRecDepth 100000
variable {Hd : Type} {enc : TypeId × Value → Hd} {w : World}
theorem reads_str (n : Nat) : ReadsAs enc Tryd.prog w 9 n (fun s : List UInt8 => [PV.str s]) (fun s => s.length + 1) Rows.uptoBulk := by
  intro cs x h
  obtain ⟨s, rfl, rfl, _⟩ := DataW.trod_string Tryd.underlying9 h
  refine ⟨s.data.toList, ?_, by simp [Value.oneCell'], by simp [Rows.uptoBulk]⟩
  simp [RepL, RepP]
theorem wide_val (v : Val) : v.cells.length = 6 := cells_length v
theorem bulk_list : ∀ (l : List Val) (elems : List (DataW Hd)), l.length = elems.length → (∀ (i : Nat) (d : DataW Hd) (v : Val), elems[i]? = some d → l[i]? = some v → v.big ≤ Rows.uptoBulk d) → bigs l ≤ Rows.uptoBulkAll elems
  | [], _, _, _ => Nat.zero_le _
  | v :: l, [], h, _ => by simp at h
  | v :: l, d :: elems, h, hh => by
    have := bulk_list l elems (by simpa using h) fun i d v hd hv => hh (i + 1) d v (by simpa using hd) (by simpa using hv)
    have := hh 0 d v rfl rfl
    simp only [bigs, Rows.uptoBulkAll]; omega
theorem bulk_keys : ∀ (l : List (List UInt8)) (elems : List (DataW Hd)), l.length = elems.length → (∀ (i : Nat) (d : DataW Hd) (v : List UInt8), elems[i]? = some d → l[i]? = some v → v.length + 1 ≤ Rows.uptoBulk d) → kbig l ≤ Rows.uptoBulkAll elems
  | [], _, _, _ => Nat.zero_le _
  | v :: l, [], h, _ => by simp at h
  | v :: l, d :: elems, h, hh => by
    have := bulk_keys l elems (by simpa using h) fun i d v hd hv => hh (i + 1) d v (by simpa using hd) (by simpa using hv)
    have := hh 0 d v rfl rfl
    simp only [kbig, Rows.uptoBulkAll]; omega

abbrev RVal := { v : Val // range64 v = true }
instance : Inhabited RVal := ⟨⟨.mk 0 false 0 [] [] [], rfl⟩⟩
theorem range_list : ∀ l : List RVal, range64L (l.map (·.1)) = true
  | [] => rfl
  | v :: l => by simp only [List.map_cons, range64L, v.2, range_list l, Bool.and_true]
theorem bulk_listR (l : List RVal) (elems : List (DataW Hd)) (h : l.length = elems.length) (hh : ∀ (i : Nat) (d : DataW Hd) (v : RVal), elems[i]? = some d → l[i]? = some v → v.1.big ≤ Rows.uptoBulk d) : bigs (l.map (·.1)) ≤ Rows.uptoBulkAll elems := by
  refine bulk_list (l.map (·.1)) elems (by simpa using h) fun i d v hd hv => ?_
  rw [List.getElem?_map] at hv
  cases hl : l[i]? with
  | none => rw [hl] at hv; cases hv
  | some x => rw [hl] at hv; cases hv; exact hh i d x hd hl

theorem reads_valR (n : Nat) : ReadsAs enc Tryd.prog w 40 n (fun x : RVal => x.1.cells) (fun x => x.1.big) Rows.uptoBulk := by
  induction n using Nat.strongRecOn with
  | ind n ih =>
  intro cs x h
  obtain ⟨xs, m, rfl, rfl, hcl, hxl, hf⟩ := DataW.trod_struct Tryd.underlying40 h
  have f0 := hf 0 _ rfl
  have f1 := hf 1 _ rfl
  have f2 := hf 2 _ rfl
  have f3 := hf 3 _ rfl
  have f4 := hf 4 _ rfl
  have f5 := hf 5 _ rfl
  clear hf
  have c3 : Tryd.prog.cellsOf 3 = 1 := by kernel_rfl
  have c4 : Tryd.prog.cellsOf 4 = 1 := by kernel_rfl
  have c2 : Tryd.prog.cellsOf 2 = 1 := by kernel_rfl
  have c9 : Tryd.prog.cellsOf 9 = 1 := by kernel_rfl
  have c37 : Tryd.prog.cellsOf 37 = 1 := by kernel_rfl
  have c38 : Tryd.prog.cellsOf 38 = 1 := by kernel_rfl
  have c40 : Tryd.prog.cellsOf 40 = 6 := by kernel_rfl
  change DataW.trod enc Tryd.prog w 0 _ true m 3 ((cs.drop 0).take (Tryd.prog.cellsOf 3)) = _ at f0
  rw [c3] at f0
  change DataW.trod enc Tryd.prog w 0 _ true m 4 ((cs.drop 1).take (Tryd.prog.cellsOf 4)) = _ at f1
  rw [c4] at f1
  change DataW.trod enc Tryd.prog w 0 _ true m 2 ((cs.drop 2).take (Tryd.prog.cellsOf 2)) = _ at f2
  rw [c2] at f2
  change DataW.trod enc Tryd.prog w 0 _ true m 9 ((cs.drop 3).take (Tryd.prog.cellsOf 9)) = _ at f3
  rw [c9] at f3
  change DataW.trod enc Tryd.prog w 0 _ true m 37 ((cs.drop 4).take (Tryd.prog.cellsOf 37)) = _ at f4
  rw [c37] at f4
  change DataW.trod enc Tryd.prog w 0 _ true m 38 ((cs.drop 5).take (Tryd.prog.cellsOf 38)) = _ at f5
  rw [c38] at f5
  rw [c40] at hcl
  have hx6 : xs.length = 6 := hxl
  obtain ⟨x0, x1, x2, x3, x4, x5, rfl⟩ : ∃ a b c d e f, xs = [a, b, c, d, e, f] := by
    match xs, hx6 with
    | [a, b, c, d, e, f], _ => exact ⟨a, b, c, d, e, f, rfl⟩
  obtain ⟨v0, v1, v2, v3, v4, v5, rfl⟩ : ∃ a b c d e f, cs = [a, b, c, d, e, f] := by
    match cs, hcl with
    | [a, b, c, d, e, f], _ => exact ⟨a, b, c, d, e, f, rfl⟩
  obtain ⟨k, e0, rfl, _⟩ := DataW.trod_int Tryd.underlying3 f0
  obtain ⟨b, e1, rfl⟩ := DataW.trod_bool Tryd.underlying4 f1
  obtain ⟨i, e2, rfl, hi⟩ := DataW.trod_int Tryd.underlying2 f2
  obtain ⟨s, e3, rfl, _⟩ := DataW.trod_string Tryd.underlying9 f3
  obtain ⟨l, u4, e4, o4, r4, b4⟩ := read_slice (α := RVal) (z := 6) Tryd.underlying37 c40 (by decide) (fun v => cells_length v.1) (fun n hn => ih n (Nat.lt_succ_of_lt hn)) f4
  obtain ⟨ks, u5, e5, o5, r5, b5⟩ := read_slice (α := List UInt8) (z := 1) (row := fun s => [PV.str s]) Tryd.underlying38 c9 (by decide) (fun _ => rfl) (fun n _ => reads_str n) f5
  have er : l.map (fun x : RVal => x.1.cells) = vals (l.map (·.1)) := by simp [vals, List.map_map]
  rw [er] at r4
  cases e0; cases e1; cases e2; cases e3; cases e4; cases e5
  have hr : int64 i = true := by
    have : (IntKind.i64.min ≤ i ∧ i ≤ IntKind.i64.max) := by simpa [Lit.wf] using hi
    have e1 : IntKind.i64.min = -9223372036854775808 := by decide
    have e2 : IntKind.i64.max = 9223372036854775807 := by decide
    rw [e1, e2] at this
    simp only [int64, decide_eq_true_eq]
    omega
  refine ⟨⟨.mk k b i s.data.toList (l.map (·.1)) ks, by simp only [range64, hr, range_list, Bool.and_true]⟩, ?_, ?_, ?_⟩
  · simp only [Val.cells, RepL]
    rw [rows_eq]
    refine ⟨_, _, rfl, by simp [RepP], _, _, rfl, by simp [RepP], _, _, rfl, by simp [RepP], _, _, rfl, by simp [RepP], _, _, rfl, r4, _, _, rfl, r5, rfl⟩
  · intro u hu
    simp only [List.mem_cons, List.not_mem_nil, or_false] at hu
    rcases hu with rfl | rfl | rfl | rfl | rfl | rfl <;> first | rfl | assumption
  · have h4 : bigs (l.map (·.1)) ≤ Rows.uptoBulk x4.1 := by
      rcases b4 with ⟨e, rfl⟩ | ⟨el, rest, e, hl, hb⟩
      · exact Nat.zero_le _
      · rw [e]
        have := bulk_listR l el hl hb
        simp only [Rows.uptoBulk]; omega
    have h5 : kbig ks ≤ Rows.uptoBulk x5.1 := by
      rcases b5 with ⟨e, rfl⟩ | ⟨el, rest, e, hl, hb⟩
      · exact Nat.zero_le _
      · rw [e]
        have := bulk_keys ks el hl hb
        simp only [Rows.uptoBulk]; omega
    simp only [Val.big, Rows.uptoBulk, Rows.uptoBulkAll, List.map_cons, List.map_nil]
    generalize bigs (l.map (·.1)) = B at h4 ⊢
    simp
    omega

/-- A row, its numbers of 64 bits. -/
abbrev RRow := { r : List Val // rangeR.rangeRow r = true }
instance : Inhabited RRow := ⟨⟨[], rfl⟩⟩
theorem row_all (l : List RVal) : rangeR.rangeRow (l.map (·.1)) = true := by
  unfold rangeR.rangeRow
  rw [List.all_eq_true]
  intro v hv
  obtain ⟨x, _, rfl⟩ := List.mem_map.1 hv
  exact x.2
theorem reads_row (n : Nat) : ReadsAs enc Tryd.prog w 37 n (fun r : RRow => [PV.sl (Val.rows r.1)]) (fun r => bigs r.1 + 1) Rows.uptoBulk := by
  intro cs x h
  have c40 : Tryd.prog.cellsOf 40 = 6 := by kernel_rfl
  obtain ⟨l, v, rfl, o, r, b⟩ := read_slice (α := RVal) (z := 6) Tryd.underlying37 c40 (by decide) (fun v => cells_length v.1) (fun m _ => reads_valR m) h
  have er : l.map (fun x : RVal => x.1.cells) = vals (l.map (·.1)) := by simp [vals, List.map_map]
  rw [er] at r
  refine ⟨⟨l.map (·.1), row_all l⟩, ?_, by simpa using o, ?_⟩
  · simp only [RepL]
    rw [rows_eq]
    exact ⟨_, _, rfl, r, rfl⟩
  · rcases b with ⟨e, rfl⟩ | ⟨el, rest, e, hl, hb⟩
    · rw [e]; simp [Rows.uptoBulk, bigs]
    · rw [e]
      have := bulk_listR l el hl hb
      simp only [Rows.uptoBulk]; omega
theorem bulk_rows : ∀ (l : List RRow) (elems : List (DataW Hd)), l.length = elems.length → (∀ (i : Nat) (d : DataW Hd) (v : RRow), elems[i]? = some d → l[i]? = some v → bigs v.1 + 1 ≤ Rows.uptoBulk d) → rbig (l.map (·.1)) ≤ Rows.uptoBulkAll elems
  | [], _, _, _ => Nat.zero_le _
  | v :: l, [], h, _ => by simp at h
  | v :: l, d :: elems, h, hh => by
    have := bulk_rows l elems (by simpa using h) fun i d v hd hv => hh (i + 1) d v (by simpa using hd) (by simpa using hv)
    have := hh 0 d v rfl rfl
    simp only [List.map_cons, rbig, Rows.uptoBulkAll]; omega
theorem reads_rowsR (n : Nat) : ReadsAs enc Tryd.prog w 22 n (fun l : List RRow => [PV.sl (slRows valC (l.map (·.1)))]) (fun l => rbig (l.map (·.1)) + 1) Rows.uptoBulk := by
  intro cs x h
  have c37 : Tryd.prog.cellsOf 37 = 1 := by kernel_rfl
  obtain ⟨l, v, rfl, o, r, b⟩ := read_slice (α := RRow) (z := 1) Tryd.underlying22 c37 (by decide) (fun v => rfl) (fun m _ => reads_row m) h
  have er : l.map (fun r : RRow => [PV.sl (Val.rows r.1)]) = slRows valC (l.map (·.1)) := by simp [slRows, List.map_map]; intros; rfl
  rw [er] at r
  refine ⟨l, ?_, by simpa using o, ?_⟩
  · simp only [RepL]
    exact ⟨_, _, rfl, r, rfl⟩
  · rcases b with ⟨e, rfl⟩ | ⟨el, rest, e, hl, hb⟩
    · rw [e]; simp [Rows.uptoBulk, rbig]
    · rw [e]
      have := bulk_rows l el hl hb
      simp only [Rows.uptoBulk]; omega
theorem rangeR_of (l : List RRow) : rangeR (l.map (·.1)) = true := by
  unfold rangeR
  rw [List.all_eq_true]
  intro v hv
  obtain ⟨x, _, rfl⟩ := List.mem_map.1 hv
  exact x.2
theorem reads_bool (n : Nat) : ReadsAs enc Tryd.prog w 4 n (fun b : Bool => [PV.bool b]) (fun _ => 1) Rows.uptoBulk := by
  intro cs x h
  obtain ⟨b, e, rfl⟩ := DataW.trod_bool Tryd.underlying4 h
  cases e
  exact ⟨b, by simp [RepL, RepP], by simp [Value.oneCell'], by simp [Rows.uptoBulk]⟩
theorem bulk_bools : ∀ (l : List Bool) (elems : List (DataW Hd)), l.length = elems.length → l.length ≤ Rows.uptoBulkAll elems
  | [], _, _ => Nat.zero_le _
  | v :: l, [], h => by simp at h
  | v :: l, d :: elems, h => by
    have h1 := bulk_bools l elems (by simpa using h)
    have h2 : 1 ≤ Rows.uptoBulk d := by cases d with
      | lit x => cases x <;> simp [Rows.uptoBulk]
      | _ => simp [Rows.uptoBulk]
    simp only [List.length_cons, Rows.uptoBulkAll]; omega
theorem reads_bools (n : Nat) : ReadsAs enc Tryd.prog w 31 n (fun l : List Bool => [PV.sl (boolRows l)]) (fun l => l.length + 1) Rows.uptoBulk := by
  intro cs x h
  have c4 : Tryd.prog.cellsOf 4 = 1 := by kernel_rfl
  obtain ⟨l, v, rfl, o, r, b⟩ := read_slice (α := Bool) (z := 1) Tryd.underlying31 c4 (by decide) (fun v => rfl) (fun m _ => reads_bool m) h
  refine ⟨l, ?_, by simpa using o, ?_⟩
  · simp only [RepL]
    exact ⟨_, _, rfl, r, rfl⟩
  · rcases b with ⟨e, rfl⟩ | ⟨el, rest, e, hl, hb⟩
    · rw [e]; simp [Rows.uptoBulk]
    · rw [e]
      have := bulk_bools l el hl
      simp only [Rows.uptoBulk]; omega
theorem reads_argRows {W : World} {v0 : Value} {d0 : DataW Hd} {p : List MemPlace} {b : Nat} (hval : Value.okWide Tryd.prog W .any b 22 v0) (h : DataW.Trod enc Tryd.prog W 0 (fun _ => true) true 22 v0 d0 p) :
    ∃ l : List (List Val), RepP (heapH W) (.sl (slRows valC l)) v0 ∧ rbig l + 1 ≤ Rows.uptoBulk d0 ∧ rangeR l = true := by
  obtain ⟨a, len, cap, rfl⟩ := okWide_slice Tryd.underlying22 hval
  obtain ⟨fuel, h⟩ := h
  obtain ⟨l, r, _, hb⟩ := reads_rowsR fuel _ _ h
  refine ⟨l.map (·.1), ?_, hb, rangeR_of l⟩
  simp only [RepL] at r
  obtain ⟨v, vs, e, r1, _⟩ := r
  cases e
  exact r1
theorem reads_argBools {W : World} {v0 : Value} {d0 : DataW Hd} {p : List MemPlace} {b : Nat} (hval : Value.okWide Tryd.prog W .any b 31 v0) (h : DataW.Trod enc Tryd.prog W 0 (fun _ => true) true 31 v0 d0 p) :
    ∃ l : List Bool, RepP (heapH W) (.sl (boolRows l)) v0 ∧ l.length + 1 ≤ Rows.uptoBulk d0 := by
  obtain ⟨a, len, cap, rfl⟩ := okWide_slice Tryd.underlying31 hval
  obtain ⟨fuel, h⟩ := h
  obtain ⟨l, r, _, hb⟩ := reads_bools fuel _ _ h
  refine ⟨l, ?_, hb⟩
  simp only [RepL] at r
  obtain ⟨v, vs, e, r1, _⟩ := r
  cases e
  exact r1
end W
end
section
namespace W
open Go Go.Proofs Ax Go.RowKit Go.ChangeShapes Go.WideShapes Go.ChangeAt
open Go.Proofs.YtajcpfcghhbbnaaDoor Go.ChangeMaps

theorem own : ownKnob Tryd.prog.godebug = none := by kernel_rfl
theorem laidOut : laidOutB Tryd.prog = true := by kernel_rfl
theorem root {W : World} (h : W.ShapedOpen Tryd.prog) : ∃ m, W.cell? ⟨0, 0, none⟩ = some (.int .i64 m) := Tryd.laysM155.s1_3 W h

/-- A world for the witness: Go's tables hold what they are laid with. -/
def putCells (cs : List Value) : Obj → Obj
  | .cells _ t frozen => .cells cs.toArray t frozen
  | o => o
noncomputable def laidWorld (os : Os) : World :=
  { World.holding Tryd.prog os ⟨#[], #[], []⟩ with heap := ((World.holding Tryd.prog os ⟨#[], #[], []⟩).heap.modify 1 (putCells (cellsD Rows.laid_unicode_utf8_first))).modify 2 (putCells (cellsD (Rows.laid_unicode_utf8_acceptRanges (H := Unit)))) }
abbrev V0 : Value := .slice none 0 0
abbrev D0 (H : Type) : DataW H := .nil
end W
end
section
open Go Ax Go.RowKit
namespace W
set_option maxRecDepth 10000
open Classical

/-! ### Keys of rows -/
def keyR (r : List Val) : List UInt8 := r.flatMap layM
theorem keyR_cons (v : Val) (r : List Val) : keyR (v :: r) = layM v ++ keyR r := rfl
theorem keyR_len (r : List Val) : (keyR r).length ≤ 16 * bigs r := by
  induction r with
  | nil => exact Nat.zero_le _
  | cons v r ih => rw [keyR_cons, List.length_append]; have := layM_length v; simp only [bigs]; omega
theorem key_one {n : Nat} (hn : n ≤ 1073741824) {v : Val} (h : OkV n v) : F_rank_Key n v = some (layM v, 0) := by
  have h1 := (lay_both n hn v h.right).1 h.small
  have h2 := h.check
  obtain ⟨x1, x2, x3, x4, x5, x6⟩ := v
  unfold F_rank_Key
  simp only [h2, bnd_eq, show ((0 : Int) != 0) = false from rfl, cond_false, h1]
theorem bigs_drop_le (r : List Val) (i : Nat) : bigs (r.drop i) ≤ bigs r := by
  induction r generalizing i with
  | nil => simp
  | cons v r ih =>
    cases i with
    | zero => exact Nat.le_refl _
    | succ i => simp only [List.drop_succ_cons, bigs]; have := ih i; omega
theorem key_eq {n : Nat} (hn : n ≤ 1073741824) {r : List Val} (hv : ∀ v ∈ r, OkV n v) (hs : 40 * bigs r + 40 < n) : F_rows_key n r = some (keyR r) := by
  have hl := bigs_len r
  have loop : ∀ m i : Nat, i ≤ r.length → r.length - i < m → loopK (F_rows_key_l1 n r) m (keyR (r.take i), (i : Int)) = some (keyR r) := by
    intro m
    induction m with
    | zero => intro i _ h; omega
    | succ m ih =>
      intro i hi hm
      rw [loopK_succ]
      generalize loopK (F_rows_key_l1 n r) m = nx at ih ⊢
      unfold F_rows_key_l1
      simp only [valRows_len]
      by_cases hlt : i < r.length
      · obtain ⟨x, hx⟩ : ∃ x, r[i]? = some x := ⟨_, List.getElem?_eq_getElem hlt⟩
        have hk := key_one hn (hv x (List.mem_of_getElem? hx))
        have e : keyR (r.take i) ++ layM x = keyR (r.take (i + 1)) := by rw [List.take_succ, hx]; simp [keyR]
        have h16 := keyR_len (r.take (i + 1))
        have hbt : bigs (r.take (i + 1)) ≤ bigs r := by
          have : ∀ (q : List Val) (j : Nat), bigs (q.take j) ≤ bigs q := by
            intro q
            induction q with
            | nil => intro j; simp [bigs]
            | cons a q ihq => intro j; cases j with
              | zero => simp [bigs]
              | succ j => simp only [List.take_succ_cons, bigs]; have := ihq j; omega
          exact this r (i + 1)
        have hlen : (keyR (r.take i)).length + (layM x).length = (keyR (r.take (i + 1))).length := by rw [← e, List.length_append]
        rw [decide_eq_true (show (i : Int) < (r.length : Int) by omega)]
        obtain ⟨a1, a2, a3, a4, a5, a6⟩ := x
        simp only [cond_true, Ax.idx_nat, hx, bnd_eq, hk, show ((0 : Int) != 0) = false from rfl, cond_false]
        unfold F_rows_key_k3
        rw [chk_dec (by unfold maxI; omega), e, wrapN (by omega)]
        exact ih (i + 1) (by omega) (by omega)
      · rw [decide_eq_false (show ¬ (i : Int) < (r.length : Int) by omega)]
        simp only [cond_false]
        rw [List.take_of_length_le (by omega)]
  exact loop n 0 (Nat.zero_le _) (by omega)

theorem lay_inj {v w : Val} {x y : List UInt8} (hv : right v = true) (rv : range64 v = true) (hw : right w = true) (rw' : range64 w = true) (h : layM v ++ x = layM w ++ y) : v = w ∧ x = y := by
  have h1 := rd_lay v x (max (depth v) (depth w)) hv rv (Nat.le_max_left _ _)
  have h2 := rd_lay w y (max (depth v) (depth w)) hw rw' (Nat.le_max_right _ _)
  rw [h, h2] at h1
  have := Option.some.inj h1
  exact ⟨(Prod.mk.inj this).1.symm, (Prod.mk.inj this).2.symm⟩
theorem keyR_inj : ∀ {r s : List Val}, (∀ v ∈ r, right v = true ∧ range64 v = true) → (∀ v ∈ s, right v = true ∧ range64 v = true) → r.length = s.length → keyR r = keyR s → r = s
  | [], [], _, _, _, _ => rfl
  | [], _ :: _, _, _, h, _ => by simp at h
  | _ :: _, [], _, _, h, _ => by simp at h
  | v :: r, w :: s, hr, hs, hl, h => by
    rw [keyR_cons, keyR_cons] at h
    obtain ⟨e1, e2⟩ := lay_inj (hr v (by simp)).1 (hr v (by simp)).2 (hs w (by simp)).1 (hs w (by simp)).2 h
    subst e1
    rw [keyR_inj (fun x hx => hr x (by simp [hx])) (fun x hx => hs x (by simp [hx])) (by simpa using hl) e2]

/-! ### Each once -/
noncomputable def uniqA : List (List Val) → List (List Val) → List (List Val)
  | acc, [] => acc
  | acc, r :: l => if r ∈ acc then uniqA acc l else uniqA (acc ++ [r]) l
noncomputable def uniq (l : List (List Val)) : List (List Val) := uniqA [] l

theorem uniqA_sub {acc l : List (List Val)} {r : List Val} (h : r ∈ uniqA acc l) : r ∈ acc ∨ r ∈ l := by
  induction l generalizing acc with
  | nil => exact .inl h
  | cons a l ih =>
    simp only [uniqA] at h
    split at h
    · rcases ih h with h | h
      · exact .inl h
      · exact .inr (by simp [h])
    · rcases ih h with h | h
      · rcases List.mem_append.1 h with h | h
        · exact .inl h
        · exact .inr (by simp at h; simp [h])
      · exact .inr (by simp [h])

theorem unique_eq {n c : Nat} {l : List (List Val)} (hl : OkL n c l) : F_rows_Unique n l = some (uniq l) := by
  have hn := hl.lim
  have hs := hl.small
  have hll := rbig_len l
  have loop : ∀ (m i : Nat) (out : List (List Val)) (mp : List (List UInt8 × Int)), i ≤ l.length → l.length - i < m → out.length ≤ i → (∀ r ∈ out, OkR n c r) → (∀ key, mhas mp key = true ↔ ∃ r ∈ out, keyR r = key) →
      loopK (F_rows_Unique_l1 n l) m ((i : Int), out, mp) = some (uniqA out (l.drop i)) := by
    intro m
    induction m with
    | zero => intro i _ _ _ h; omega
    | succ m ih =>
      intro i out mp hi hm ho hok hmp
      rw [loopK_succ]
      generalize loopK (F_rows_Unique_l1 n l) m = nx at ih ⊢
      unfold F_rows_Unique_l1
      simp only [slen]
      by_cases hlt : i < l.length
      · obtain ⟨r, hr⟩ : ∃ x, l[i]? = some x := ⟨_, List.getElem?_eq_getElem hlt⟩
        have hrm := List.mem_of_getElem? hr
        have okr := hl.row r hrm
        have hd : l.drop i = r :: l.drop (i + 1) := by
          obtain ⟨_, e⟩ := List.getElem?_eq_some_iff.1 hr
          rw [List.drop_eq_getElem_cons hlt, e]
        have hk := key_eq hn okr.val okr.small
        have h3 := vbigL3 r
        have hcp := copied_id hn (l := r) (by have := okr.small; omega)
        rw [decide_eq_true (show (i : Int) < (l.length : Int) by omega), hd]
        simp only [cond_true, Ax.idx_nat, hr, bnd_eq, hk, uniqA]
        have hin : mhas mp (keyR r) = true ↔ r ∈ out := by
          rw [hmp]
          constructor
          · rintro ⟨q, hq, e⟩
            have okq := hok q hq
            have := keyR_inj (fun v hv => ⟨(okq.val v hv).right, (okq.val v hv).range⟩) (fun v hv => ⟨(okr.val v hv).right, (okr.val v hv).range⟩) (by rw [okq.len, okr.len]) e
            rwa [← this]
          · exact fun h => ⟨r, h, rfl⟩
        cases hh : mhas mp (keyR r) with
        | true =>
          rw [if_pos (hin.1 hh)]
          simp only [Bool.not_true, cond_false]
          unfold F_rows_Unique_k3
          rw [wrapN (by omega)]
          exact ih (i + 1) out mp (by omega) (by omega) (by omega) hok hmp
        | false =>
          rw [if_neg (fun h => by rw [hin.2 h] at hh; cases hh)]
          simp only [Bool.not_false, cond_true]
          unfold F_rows_Unique_c1
          simp only [hcp, bnd_eq]
          rw [chk_dec (by simp; omega)]
          unfold F_rows_Unique_k3
          rw [wrapN (by omega)]
          refine ih (i + 1) (out ++ [r]) _ (by omega) (by omega) (by simp; omega) (fun q hq => ?_) (fun key => ?_)
          · rcases List.mem_append.1 hq with h | h
            · exact hok q h
            · simp at h; subst h; exact okr
          · rw [mhas_set]
            simp only [Bool.or_eq_true, beq_iff_eq, hmp, List.mem_append, List.mem_singleton]
            constructor
            · rintro (rfl | ⟨q, hq, e⟩)
              · exact ⟨r, .inr rfl, rfl⟩
              · exact ⟨q, .inl hq, e⟩
            · rintro ⟨q, hq | rfl, e⟩
              · exact .inr ⟨q, hq, e⟩
              · exact .inl e.symm
      · rw [decide_eq_false (show ¬ (i : Int) < (l.length : Int) by omega), List.drop_eq_nil_of_le (by omega)]
        rfl
  exact loop n 0 [] [] (Nat.zero_le _) (by omega) (Nat.le_refl _) (fun _ h => by cases h) (fun key => by simp [mhas, mget])

/-! ### Sameness -/
theorem sameList_eq {n : Nat} (hn : n ≤ 1073741824) {r s : List Val} (hs : 40 * bigs r + 40 < n) : F_R03_SameList n r s = some (decide (r = s)) := by
  have := vbigL3 r
  obtain ⟨b, h1, h2⟩ := (r03_same n hn).2 r s (by omega)
  rw [h1]
  congr 1
  rw [Bool.eq_iff_iff, h2]
  simp
theorem same_eq {n : Nat} (hn : n ≤ 1073741824) {a b : List (List Val)} (hs : ∀ r ∈ a, 40 * bigs r + 40 < n) (ha : a.length < n) : F_R17_Same n a b = some (decide (a = b)) := by
  unfold F_R17_Same
  simp only [slen]
  by_cases hl : a.length = b.length
  · have e : (((a.length : Nat) : Int) != ((b.length : Nat) : Int)) = false := by simp [hl]
    rw [e, cond_false]
    have loop : ∀ m i : Nat, i ≤ a.length → a.length - i < m → loopK (F_R17_Same_l1 n a b) m (i : Int) = some (decide (a.drop i = b.drop i)) := by
      intro m
      induction m with
      | zero => intro i _ h; omega
      | succ m ih =>
        intro i hi hm
        rw [loopK_succ]
        generalize loopK (F_R17_Same_l1 n a b) m = nx at ih ⊢
        unfold F_R17_Same_l1
        simp only [slen]
        by_cases hlt : i < a.length
        · obtain ⟨r, hr⟩ : ∃ x, a[i]? = some x := ⟨_, List.getElem?_eq_getElem hlt⟩
          obtain ⟨s, hs'⟩ : ∃ x, b[i]? = some x := ⟨_, List.getElem?_eq_getElem (by omega)⟩
          have hd : a.drop i = r :: a.drop (i + 1) := by
            obtain ⟨_, e⟩ := List.getElem?_eq_some_iff.1 hr
            rw [List.drop_eq_getElem_cons hlt, e]
          have hd' : b.drop i = s :: b.drop (i + 1) := by
            obtain ⟨_, e⟩ := List.getElem?_eq_some_iff.1 hs'
            rw [List.drop_eq_getElem_cons (by omega), e]
          rw [decide_eq_true (show (i : Int) < (a.length : Int) by omega), hd, hd']
          simp only [cond_true, Ax.idx_nat, hr, hs', bnd_eq, sameList_eq hn (hs r (List.mem_of_getElem? hr))]
          by_cases hrs : r = s
          · subst hrs
            simp only [decide_true, Bool.not_true, cond_false]
            rw [wrapN (by omega), ih (i + 1) (by omega) (by omega)]
            simp
          · simp only [decide_eq_false hrs, Bool.not_false, cond_true]
            simp [hrs]
        · rw [decide_eq_false (show ¬ (i : Int) < (a.length : Int) by omega), List.drop_eq_nil_of_le (by omega), List.drop_eq_nil_of_le (by omega)]
          simp
    simpa using loop n 0 (Nat.zero_le _) (by omega)
  · have e : (((a.length : Nat) : Int) != ((b.length : Nat) : Int)) = true := by simp; omega
    rw [e, cond_true]
    rw [decide_eq_false (fun h : a = b => hl (by rw [h]))]
noncomputable def cnt (r : List Val) (l : List (List Val)) : Nat := (l.filter fun x => decide (x = r)).length
theorem cnt_cons (r x : List Val) (l : List (List Val)) : cnt r (x :: l) = (if x = r then 1 else 0) + cnt r l := by
  unfold cnt
  by_cases h : x = r
  · simp [h]; omega
  · simp [h]
theorem cnt_append (r : List Val) (l m : List (List Val)) : cnt r (l ++ m) = cnt r l + cnt r m := by simp [cnt]
theorem cnt_zero {r : List Val} {l : List (List Val)} : cnt r l = 0 ↔ r ∉ l := by
  unfold cnt
  rw [List.length_eq_zero_iff, List.filter_eq_nil_iff]
  constructor
  · intro h hm; simpa using h r hm
  · intro h x hx; simp only [decide_eq_true_eq]; rintro rfl; exact h hx
theorem cnt_pos {r : List Val} {l : List (List Val)} : 0 < cnt r l ↔ r ∈ l := by
  have := @cnt_zero r l
  constructor
  · intro h; exact Classical.byContradiction fun hc => by have := this.2 hc; omega
  · intro h; have : cnt r l ≠ 0 := fun e => this.1 e h; omega
theorem cnt_le (r : List Val) (l : List (List Val)) : cnt r l ≤ l.length := List.length_filter_le _ _
theorem often_eq {n : Nat} (hn : n ≤ 1073741824) {l : List (List Val)} {r : List Val} (hs : ∀ r ∈ l, 40 * bigs r + 40 < n) (hl : l.length < n) : F_L17_often n r l = some ((cnt r l : Nat) : Int) := by
  have loop : ∀ m i : Nat, i ≤ l.length → l.length - i < m → loopK (F_L17_often_l1 n l r) m (((cnt r (l.take i) : Nat) : Int), (i : Int)) = some ((cnt r l : Nat) : Int) := by
    intro m
    induction m with
    | zero => intro i _ h; omega
    | succ m ih =>
      intro i hi hm
      rw [loopK_succ]
      generalize loopK (F_L17_often_l1 n l r) m = nx at ih ⊢
      unfold F_L17_often_l1
      simp only [slen]
      by_cases hlt : i < l.length
      · obtain ⟨x, hx⟩ : ∃ x, l[i]? = some x := ⟨_, List.getElem?_eq_getElem hlt⟩
        have ht : l.take (i + 1) = l.take i ++ [x] := by rw [List.take_succ, hx]; rfl
        have hc := cnt_le r (l.take i)
        rw [List.length_take] at hc
        have e1 : cnt r (l.take (i + 1)) = cnt r (l.take i) + (if x = r then 1 else 0) := by rw [ht, cnt_append]; simp [cnt_cons]; rfl
        rw [decide_eq_true (show (i : Int) < (l.length : Int) by omega)]
        simp only [cond_true, Ax.idx_nat, hx, bnd_eq, sameList_eq hn (hs x (List.mem_of_getElem? hx))]
        have := ih (i + 1) (by omega) (by omega)
        rw [e1] at this
        by_cases h : x = r
        · simp only [h, decide_true, cond_true]
          unfold F_L17_often_k3
          rw [wrapN (by omega), wrapN (by omega)]
          simpa [h] using this
        · simp only [decide_eq_false h, cond_false]
          unfold F_L17_often_k3
          rw [wrapN (by omega)]
          simpa [h] using this
      · rw [decide_eq_false (show ¬ (i : Int) < (l.length : Int) by omega)]
        simp only [cond_false]
        rw [List.take_of_length_le (by omega)]
  exact loop n 0 (Nat.zero_le _) (by omega)
end W
end
section
open Go Ax Go.RowKit
namespace W
set_option maxRecDepth 10000

def kindV : Val → Int
  | .mk k _ _ _ _ _ => k
/-- A column's values that are not null. -/
def colS (l : List (List Val)) : List Val := l.flatMap fun r => match r with
  | [v] => if kindV v = 0 then [] else [v]
  | _ => []
theorem colS_append (l m : List (List Val)) : colS (l ++ m) = colS l ++ colS m := by simp [colS]
theorem colS_mem {l : List (List Val)} {v : Val} (h : v ∈ colS l) : [v] ∈ l ∧ kindV v ≠ 0 := by
  obtain ⟨r, hr, hv⟩ := List.mem_flatMap.1 h
  split at hv
  · split at hv
    · cases hv
    · rename_i w hk
      simp at hv
      subst hv
      exact ⟨hr, hk⟩
  · cases hv
theorem colS_big (l : List (List Val)) : bigs (colS l) ≤ rbig l := by
  induction l with
  | nil => exact Nat.le_refl _
  | cons r l ih =>
    have e : bigs (colS (r :: l)) = bigs (colS [r]) + bigs (colS l) := by
      have : colS (r :: l) = colS [r] ++ colS l := by rw [← colS_append]; rfl
      rw [this]
      have h : ∀ a b : List Val, bigs (a ++ b) = bigs a + bigs b := by
        intro a b
        induction a with
        | nil => simp [bigs]
        | cons x a ih => simp only [List.cons_append, bigs, ih]; omega
      rw [h]
    rw [e]
    simp only [rbig]
    have : bigs (colS [r]) ≤ bigs r := by
      unfold colS
      match r with
      | [] => simp [bigs]
      | [v] =>
        by_cases hk : kindV v = 0
        · simp [hk, bigs]
        · simp [hk, bigs]
      | _ :: _ :: _ => simp [bigs]
    omega
theorem colS_len (l : List (List Val)) : (colS l).length ≤ rbig l := Nat.le_trans (bigs_len _) (colS_big l)

theorem two {S R : Type} {B : (S → Option R) → S → Option R} {s0 s1 : S} {r : Option R} {n : Nat} (hn : 2 ≤ n) (h0 : ∀ nx, B nx s0 = nx s1) (h1 : ∀ nx, B nx s1 = r) : loopK B n s0 = r := by
  obtain ⟨n, rfl⟩ : ∃ k, n = k + 1 + 1 := ⟨n - 2, by omega⟩
  rw [loopK_succ, h0, loopK_succ, h1]
theorem ne_beq {a : List UInt8} (ha : a ≠ []) : (a == []) = false := by cases a with
  | nil => exact absurd rfl ha
  | cons _ _ => rfl
theorem w01 : IntKind.i64.wrap ((0 : Int) + 1) = 1 := wrapN (k := 0) (by omega)
theorem one_len (a : List UInt8) : (((strs [a]).length : Nat) : Int) = 1 := rfl
theorem idx0 {A : Type} (x : A) (l : List A) : idx (x :: l) (0 : Int) = some x := rfl
theorem keys_none {n : Nat} (hn : 2 ≤ n) (r : List Val) {a : List UInt8} (ha : a ≠ []) : F_rows_Group_c1 n r [a] = some [] := by
  unfold F_rows_Group_c1
  refine two hn (s1 := ([], 1)) (fun nx => ?_) (fun nx => ?_)
  · unfold F_rows_Group_c1_l1
    simp only [one_len, idx0, bnd_eq, ne_beq ha, show decide ((0 : Int) < 1) = true from rfl, cond_true, cond_false]
    unfold F_rows_Group_c1_k3
    simp only [w01]
    rfl
  · rfl
theorem contains_none {n : Nat} (hn : 2 ≤ n) {a : List UInt8} (ha : a ≠ []) : F_slices_Contains_string_string n [a] [] = some false := by
  have h : F_slices_Index_string_string n [a] [] = some (-1) := by
    unfold F_slices_Index_string_string
    refine two hn (s1 := 1) (fun nx => ?_) (fun nx => ?_)
    · unfold F_slices_Index_string_string_l1
      have e : (([] : List UInt8) == a) = false := by cases a with
        | nil => exact absurd rfl ha
        | cons _ _ => rfl
      simp only [one_len, idx0, bnd_eq, e, cond_true, cond_false, w01]
      rfl
    · rfl
  unfold F_slices_Contains_string_string
  rw [h]; rfl
theorem key_nil {n : Nat} (hn : 1 ≤ n) : F_rows_key n [] = some [] := by
  obtain ⟨n, rfl⟩ : ∃ k, n = k + 1 := ⟨n - 1, by omega⟩
  rfl

theorem group_eq {n : Nat} {l : List (List Val)} (hl : OkL n 1 l) {a : List UInt8} (ha : a ≠ []) {v : Val} {e : Int} (hg : F_rows_gather n a (colS l) = some (v, e)) (hv : vbig v < n) :
    F_rows_Group n l [a] = some (if e = 0 then ([[v]], 0) else ([], e)) := by
  have hn := hl.lim
  have hs := hl.small
  have hll := rbig_len l
  -- the end: one row, or the error
  have out : loopK (F_rows_Group_l3 n [a] (colS l)) n (([] : List (List Val)), (0 : Int)) = some (if e = 0 then ([[v]], 0) else ([], e)) := by
    have inner : ∀ nx, F_rows_Group_l3 n [a] (colS l) nx ([], 0) = if e = 0 then nx ([[v]], 1) else some ([], e) := by
      intro nx
      unfold F_rows_Group_l3
      simp only [show decide ((0 : Int) < ((1 : Nat) : Int)) = true from rfl, cond_true, decide_true, chk_t]
      by_cases he : e = 0
      · rw [if_pos he]
        subst he
        refine two (by omega) (s1 := ([v], 1)) (fun nx4 => ?_) (fun nx4 => ?_)
        · unfold F_rows_Group_l4
          simp only [one_len, idx0, bnd_eq, ne_beq ha, show decide ((0 : Int) < 1) = true from rfl, cond_true, cond_false, decide_true, chk_t, hg]
          have hc := copy_id n hn v hv
          obtain ⟨a1, a2, a3, a4, a5, a6⟩ := v
          simp only [show ((0 : Int) != 0) = false from rfl, cond_false, hc, bnd_eq]
          rw [chk_dec (by simp), w01]
          rfl
        · unfold F_rows_Group_l4
          simp only [one_len, show decide ((1 : Int) < 1) = false from rfl, cond_false]
          rw [chk_dec (by simp [slen]), w01]
          rfl
      · rw [if_neg he]
        obtain ⟨n, rfl⟩ : ∃ k, n = k + 1 := ⟨n - 1, by omega⟩
        rw [loopK_succ]
        generalize loopK (F_rows_Group_l4 (n + 1) [a] (colS l) [] nx 0) n = nx4
        unfold F_rows_Group_l4
        simp only [one_len, idx0, bnd_eq, ne_beq ha, show decide ((0 : Int) < 1) = true from rfl, cond_true, cond_false, decide_true, chk_t, hg]
        obtain ⟨a1, a2, a3, a4, a5, a6⟩ := v
        have : (e != 0) = true := by simp [he]
        simp only [this, cond_true]
        rfl
    by_cases he : e = 0
    · refine two (by omega) (s1 := ([[v]], 1)) (fun nx => ?_) (fun nx => ?_)
      · rw [inner, if_pos he]
      · unfold F_rows_Group_l3
        simp [he]
    · obtain ⟨n, rfl⟩ : ∃ k, n = k + 1 := ⟨n - 1, by omega⟩
      rw [loopK_succ, inner, if_neg he, if_neg he]
  -- the rows, one by one
  have loop : ∀ m i : Nat, i ≤ l.length → l.length - i < m → loopK (F_rows_Group_l1 n l [a]) m ((i : Int), colS (l.take i)) = some (if e = 0 then ([[v]], 0) else ([], e)) := by
    intro m
    induction m with
    | zero => intro i _ h; omega
    | succ m ih =>
      intro i hi hm
      rw [loopK_succ]
      generalize loopK (F_rows_Group_l1 n l [a]) m = nx at ih ⊢
      unfold F_rows_Group_l1
      simp only [slen]
      by_cases hlt : i < l.length
      · obtain ⟨r, hr⟩ : ∃ x, l[i]? = some x := ⟨_, List.getElem?_eq_getElem hlt⟩
        have okr := hl.row r (List.mem_of_getElem? hr)
        have ht : l.take (i + 1) = l.take i ++ [r] := by rw [List.take_succ, hr]; rfl
        obtain ⟨x, rfl⟩ : ∃ x, r = [x] := List.length_eq_one_iff.1 okr.len
        have hcl := colS_len (l.take (i + 1))
        have hrt : rbig (l.take (i + 1)) ≤ rbig l := by
          have e : rbig (l.take (i + 1)) + rbig (l.drop (i + 1)) = rbig l := by rw [← rbig_append, List.take_append_drop]
          omega
        rw [decide_eq_true (show (i : Int) < (l.length : Int) by omega)]
        simp only [cond_true, Ax.idx_nat, hr, bnd_eq, keys_none (by omega : 2 ≤ n) [x] ha, key_nil (by omega : 1 ≤ n), show mhas (mset ([] : List UInt8) (0 : Int) []) [] = true from rfl, Bool.not_true, cond_false]
        have hmg : mgetD (mset ([] : List UInt8) (0 : Int) []) [] 0 = 0 := rfl
        have e1 : colS (l.take (i + 1)) = colS (l.take i) ++ (if kindV x = 0 then [] else [x]) := by rw [ht, colS_append]; simp [colS]
        have nxt := ih (i + 1) (by omega) (by omega)
        rw [e1] at nxt hcl
        refine two (by omega) (s1 := (1, colS (l.take i) ++ (if kindV x = 0 then [] else [x]))) (fun nx2 => ?_) (fun nx2 => ?_)
        · obtain ⟨a1, a2, a3, a4, a5, a6⟩ := x
          unfold F_rows_Group_l2
          have hg : (bif (!(a == ([] : List UInt8))) then (decide ((0 : Int) < (((Val.rows [Val.mk a1 a2 a3 a4 a5 a6]).length : Nat) : Int))) else false) = true := by rw [ne_beq ha]; rfl
          simp only [one_len, show decide ((0 : Int) < 1) = true from rfl, cond_true, idx0, bnd_eq, hg, gsome_t]
          by_cases hk : a1 = 0
          · subst hk
            simp only [show ((0 : Int) != 0) = false from rfl, cond_false]
            unfold F_rows_Group_k9
            rw [w01]
            simp [kindV]
          · have : (a1 != 0) = true := by simp [hk]
            simp only [kindV, hk, if_false, List.length_append, List.length_cons, List.length_nil] at hcl ⊢
            simp only [this, cond_true, hmg, decide_true, chk_t]
            rw [chk_dec (by simp only [valRows_len, List.length_append, List.length_cons, List.length_nil]; omega)]
            unfold F_rows_Group_k9
            rw [w01]
            rfl
        · unfold F_rows_Group_l2
          simp only [one_len, show decide ((1 : Int) < 1) = false from rfl, cond_false]
          rw [wrapN (by omega)]
          exact nxt
      · rw [decide_eq_false (show ¬ (i : Int) < (l.length : Int) by omega)]
        simp only [cond_false]
        rw [List.take_of_length_le (by omega)]
        exact out
  unfold F_rows_Group
  rw [contains_none (by omega) ha, bnd_eq]
  simp only [Bool.not_false, cond_true, show mhas ([] : List (List UInt8 × Int)) ([] : List UInt8) = false from rfl, one_len, decide_true, chk_t]
  exact loop n 0 (Nat.zero_le _) (by omega)
end W
end
