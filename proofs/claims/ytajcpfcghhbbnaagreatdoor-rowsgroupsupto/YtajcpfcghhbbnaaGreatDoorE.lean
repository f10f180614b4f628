/- A part of the proof. -/
import Derived.ChangeMaps5
import Derived.Deep.DeepHandedRow
import Derived.LaidLaws
import Derived.Maps.Own
import Derived.OpenShut
import Derived.SevenTiedAt
import Derived.Test.YtajcpfcghhbbnaaGreatDoorCards
import Derived.Test.YtajcpfcghhbbnaaGreatDoorRows
import Derived.Test.YtajcpfcghhbbnaaGreatDoorTie
import Derived.WideShapes
import Derived.Test.YtajcpfcghhbbnaaGreatDoorD
set_option linter.all false
section
open Go Go.Proofs Ax Go.RowKit
namespace W
theorem calm_kept {L : Nat} {H0 H : PH L} {w0 w w' : World} (c : Calm H0 w0 H w) (k : Kept L w w') (hL : w0.heap.size ≤ L) (s : SatH H w') : Calm H0 w0 H w' :=
  ⟨c.le, s, ⟨k.os.trans c.keep.os, k.tape.trans c.keep.tape, k.output.trans c.keep.output, Nat.le_trans c.keep.size k.size, fun b hb hn => (k.block b (by omega)).trans (c.keep.block b hb hn)⟩, c.new⟩
theorem row_cells {L : Nat} {H : PH L} {r : List Val} {rp : Option Addr} {n rc : Nat} (h : RepP H (.sl (Val.rows r)) (.slice rp n rc)) : ∃ rb ro, (r ≠ [] → rp = some ⟨rb, ro, none⟩) ∧ ∀ (c : Nat) (x : Val), r[c]? = some x → ∃ us, RepL H (valC.cells x) us ∧ ∀ j u, us[j]? = some u → H rb (ro + c * 6 + j) = some u := by
  simp only [RepP] at h
  rcases h with ⟨e, _⟩ | ⟨b, o, z, cap, e, _, rr⟩
  · have : r = [] := by cases r with | nil => rfl | cons _ _ => cases e
    subst this
    exact ⟨0, 0, fun h => absurd rfl h, fun c x hx => by simp at hx⟩
  · cases e
    refine ⟨b, o, fun _ => rfl, fun c x hx => ?_⟩
    have h1 : (Val.rows r)[c]? = some x.cells := by rw [rows_eq, vals, List.getElem?_map, hx]; rfl
    obtain ⟨e1, us, h2, h3⟩ := rr.get h1
    rw [cells_length] at e1
    subst e1
    exact ⟨us, h2, h3⟩
theorem str_cells {L : Nat} {H : PH L} {r : List (List UInt8)} {rp : Option Addr} {n rc : Nat} (h : RepP H (.sl (strs r)) (.slice rp n rc)) : ∃ rb ro, (r ≠ [] → rp = some ⟨rb, ro, none⟩) ∧ ∀ (c : Nat) (a : List UInt8), r[c]? = some a → H rb (ro + c) = some (.string ⟨a.toArray⟩) := by
  simp only [RepP] at h
  rcases h with ⟨e, _⟩ | ⟨b, o, z, cap, e, _, rr⟩
  · have : r = [] := by cases r with | nil => rfl | cons _ _ => cases e
    subst this
    exact ⟨0, 0, fun h => absurd rfl h, fun c x hx => by simp at hx⟩
  · cases e
    refine ⟨b, o, fun _ => rfl, fun c a hx => ?_⟩
    have h1 : (strs r)[c]? = some [.str a] := by simp only [strs, List.getElem?_map, hx, Option.map_some]
    obtain ⟨e1, us, h2, h3⟩ := rr.get h1
    have e1 : z = 1 := by simpa using e1.symm
    subst e1
    obtain ⟨u, _, rfl, h2, rfl⟩ := h2
    have h2 : u = .string ⟨a.toArray⟩ := h2
    subst h2
    simpa using h3 0 _ rfl
theorem seat_one {L : Nat} {H : PH L} {w : World} {na : Nat} {G : List Grp} {sb mb : Nat} {vo : Value} {gb cb : Nat → Nat} {vf : Nat → Value} {vv : Nat → Nat → Value} {lab : Nat → Option Tag} (h : GSt Tryz.prog TG H w na G sb mb vo gb cb vf vv lab) (nd : (G.map (·.key)).Nodup)
    (k : List UInt8) (hk : k.length ≤ maxLen) (br ba : Nat) (p pa : Option Addr) (n c ca : Nat) (hr : w.cell? ⟨br, 0, none⟩ = some (.slice p n c)) (ha : w.cell? ⟨ba, 0, none⟩ = some (.slice pa na ca)) (hn : na < 11728124029610) (hG : G.length < 1000000000) {r : List Val} (hf : RepP H (.sl (Val.rows r)) (.slice p n c)) :
    Calls Tryz.prog 23 #[.pointer (some ⟨sb, 0, none⟩), .string ⟨k.toArray⟩, .func (.func 21) #[] #[.pointer (some ⟨br, 0, none⟩), .pointer (some ⟨ba, 0, none⟩)]] w fun e w' => ∃ b, e = .returned (.tuple #[.int .i64 ((((seatG na k r G).map (·.key)).idxOf k : Nat) : Int), .bool b]) ∧
      (∃ vo' gb' cb' vf' vv' lab', GSt Tryz.prog TG H w' na (seatG na k r G) sb mb vo' gb' cb' vf' vv' lab') ∧ Kept L w w' :=
  (seat_call h nd k hk br ba p pa n c ca hr ha hn hG hf).mono fun e w' hh => by
    rcases hh with ⟨hm, rfl, rfl⟩ | ⟨hm, rfl, vo', gb', cb', vf', vv', lab', hE, hK⟩
    · rw [seat_old hm]
      exact ⟨_, rfl, ⟨_, _, _, _, _, _, h⟩, Kept.refl _ _⟩
    · obtain ⟨e1, e2⟩ := seat_new (na := na) (r := r) hm
      rw [e2, e1]
      exact ⟨_, rfl, ⟨_, _, _, _, _, _, hE⟩, hK⟩
set_option maxHeartbeats 8000000 in
set_option maxRecDepth 100000 in
theorem row_round (t0 t1 t2 t4 t5 t9 t10 t11 t12 t13 t14 t15 t16 t17 t18 t19 t20 t21 t22 t23 t24 t25 t26 t27 t28 t29 t30 t31 t32 t34 t36 t37 t38 t39 t40 t41 t42 t43 t44 t45 t46 t47 t48 t49 t50 t51 t52 t53 t54 t55 t56 t57 t58 t59 t60 t61 t62 t63 t64 t65 t66 t67 t68 t69 t70 t71 t72 t73 t74 t75 t76 t77 t78 t79 t80 t81 t82 t83 t84 t85 t86 t87 t88 t89 t90 t91 t92 t93 t94 t95 t96 t97 t98 t99 t100 t101 t102 t103 t104 t105 t106 t107 t108 t109 t110 t111 t112 t113 t114 t115 t116 t117 t118 t119 t120 t121 t122 t123 t124 t125 t126 t127 t128 t129 t130 t131 t132 t133 t134 t135 t136 t137 t138 t139 t140 t141 t142 t143 t144 t145 t146 t147 t148 t149 t150 t151 t152 t153 t154 t155 t156 t157 t158 t159 t160 t161 t162 t163 t164 t165 t166 t167 t168 t169 t170 t171 t172 t173 t174 t175 t176 t177 t178 t179 t180 t181 t182 t183 t184 : Value) {L : Nat} {H0 H : PH L} {w0 w : World} {G : List Grp} {sb mb : Nat} {vo : Value} {gb cb : Nat → Nat} {vf : Nat → Value} {vv : Nat → Nat → Value} {lab : Nat → Option Tag} {aggs : List (List UInt8)} (h : GSt Tryz.prog TG H w aggs.length G sb mb vo gb cb vf vv lab)
    (nd : (G.map (·.key)).Nodup) (c0 : Calm H0 w0 H w) (hL : w0.heap.size ≤ L) {n : Nat} {r : List Val} {G' : List Grp} (hst : rowStep n aggs G r = some G') {ba lb lo ln lc j : Nat} (hj : (j : Int) < (ln : Int)) {va vr : Value} (hba : H ba 0 = some va) (raggs : RepP H (.sl (strs aggs)) va) (hna : aggs.length < 1000000000)
    (hrow : H lb (lo + j) = some vr) (rr : RepP H (.sl (Val.rows r)) vr)
    (Q : Exit → Act → World → Prop) (hQ : ∀ d v c a w, Q (.panic c) (a.put d v) w → Q (.panic c) a w)
    (hK : ∀ (x10 x11 x12 x13 x14 x37 x38 x39 x40 x41 x42 x43 x44 x45 x46 x47 x48 x49 x50 x51 x52 x53 x54 x55 x56 x57 x58 x59 x60 x61 x62 x63 x64 x65 x66 x67 x68 x69 x70 x71 x72 x73 x74 x75 x76 x77 x78 x79 x80 x81 x82 x83 x84 x85 x86 x87 x88 x89 x90 x91 x92 x93 x94 x95 x96 x97 x98 x99 x100 x101 x102 x103 x104 x105 x106 x107 x108 x109 x110 x111 x112 x113 x114 x115 x116 x117 x118 x119 x120 x121 x122 x123 x124 x125 x126 x127 x128 x129 x130 : Value) (H' : PH L) (w' : World), PH.le H H' → Calm H0 w0 H' w' → (∃ vo' gb' cb' vf' vv' lab', GSt Tryz.prog TG H' w' aggs.length G' sb mb vo' gb' cb' vf' vv' lab') → Q .normal { tmps := #[t0, t1, t2, .pointer (some ⟨ba, 0, none⟩), t4, t5, .func (.func 18) #[] #[.pointer (some ⟨ba, 0, none⟩)], .pointer (some ⟨sb, 0, none⟩), .func (.func 20) #[] #[.pointer (some ⟨ba, 0, none⟩)], t9, x10, x11, x12, x13, x14, t15, t16, t17, t18, t19, t20, t21, t22, t23, t24, t25, t26, t27, t28, t29, t30, t31, t32, .slice (some ⟨lb, lo, none⟩) ln lc, t34, .int .i64 (j : Int), t36, x37, x38, x39, x40, x41, x42, x43, x44, x45, x46, x47, x48, x49, x50, x51, x52, x53, x54, x55, x56, x57, x58, x59, x60, x61, x62, x63, x64, x65, x66, x67, x68, x69, x70, x71, x72, x73, x74, x75, x76, x77, x78, x79, x80, x81, x82, x83, x84, x85, x86, x87, x88, x89, x90, x91, x92, x93, x94, x95, x96, x97, x98, x99, x100, x101, x102, x103, x104, x105, x106, x107, x108, x109, x110, x111, x112, x113, x114, x115, x116, x117, x118, x119, x120, x121, x122, x123, x124, x125, x126, x127, x128, x129, x130, t131, t132, t133, t134, t135, t136, t137, t138, t139, t140, t141, t142, t143, t144, t145, t146, t147, t148, t149, t150, t151, t152, t153, t154, t155, t156, t157, t158, t159, t160, t161, t162, t163, t164, t165, t166, t167, t168, t169, t170, t171, t172, t173, t174, t175, t176, t177, t178, t179, t180, t181, t182, t183, t184], defers := [] } w') :
    (pick [1,1,1,1,1,0,1,0,0,1,1,0,0] (bodyOf Tryz.f8.body)).wp Tryz.prog Q { tmps := #[t0, t1, t2, .pointer (some ⟨ba, 0, none⟩), t4, t5, .func (.func 18) #[] #[.pointer (some ⟨ba, 0, none⟩)], .pointer (some ⟨sb, 0, none⟩), .func (.func 20) #[] #[.pointer (some ⟨ba, 0, none⟩)], t9, t10, t11, t12, t13, t14, t15, t16, t17, t18, t19, t20, t21, t22, t23, t24, t25, t26, t27, t28, t29, t30, t31, t32, .slice (some ⟨lb, lo, none⟩) ln lc, t34, .int .i64 (j : Int), t36, t37, t38, t39, t40, t41, t42, t43, t44, t45, t46, t47, t48, t49, t50, t51, t52, t53, t54, t55, t56, t57, t58, t59, t60, t61, t62, t63, t64, t65, t66, t67, t68, t69, t70, t71, t72, t73, t74, t75, t76, t77, t78, t79, t80, t81, t82, t83, t84, t85, t86, t87, t88, t89, t90, t91, t92, t93, t94, t95, t96, t97, t98, t99, t100, t101, t102, t103, t104, t105, t106, t107, t108, t109, t110, t111, t112, t113, t114, t115, t116, t117, t118, t119, t120, t121, t122, t123, t124, t125, t126, t127, t128, t129, t130, t131, t132, t133, t134, t135, t136, t137, t138, t139, t140, t141, t142, t143, t144, t145, t146, t147, t148, t149, t150, t151, t152, t153, t154, t155, t156, t157, t158, t159, t160, t161, t162, t163, t164, t165, t166, t167, t168, t169, t170, t171, t172, t173, t174, t175, t176, t177, t178, t179, t180, t181, t182, t183, t184], defers := [] } w := by
  obtain ⟨rp, rc, rfl⟩ := sl_form rr
  obtain ⟨ap, ac, rfl⟩ := sl_form raggs
  rw [strs_length] at *
  rw [rows_length] at *
  obtain ⟨ks, hks, hst⟩ := bnd_some hst
  obtain ⟨k, hk, hst⟩ := bnd_some hst
  obtain ⟨z1, hst⟩ := chk_some hst
  obtain ⟨z2, hst⟩ := chk_some hst
  obtain ⟨z3, hst⟩ := chk_some hst
  obtain ⟨g, hgi, hst⟩ : ∃ g, (seatG aggs.length k r G)[((seatG aggs.length k r G).map (·.key)).idxOf k]? = some g ∧ chk (shortG g) (some ((seatG aggs.length k r G).set (((seatG aggs.length k r G).map (·.key)).idxOf k) { g with cols := colsTo aggs r g.cols aggs.length })) = some G' := by
    split at hst
    · rename_i g hg; exact ⟨g, hg, hst⟩
    · cases hst
  obtain ⟨hsh, hst⟩ := chk_some hst
  obtain rfl := Option.some.inj hst
  have b0 : (0 : Int) ≤ (j : Int) := by omega
  have e0 := (h.sat.cell _ _ _ hrow).1
  have m18 := (F_rows_Group_c1_ok n _ _ _ hks).calls (fun _ _ => Tryz.call18 _ _) h.sat (vs := [.slice rp r.length rc, .pointer (some ⟨ba, 0, none⟩)]) ⟨_, _, rfl, rr, _, _, rfl, ⟨ba, 0, [.slice ap aggs.length ac], rfl, ⟨_, [], rfl, raggs, rfl⟩, fun q u hu => by
    match q, hu with
    | 0, hu => simp at hu; subst hu; simpa using hba⟩, rfl⟩
  simp only [pick, bodyOf, Tryz.f8]
  go_wp2_with (first
    | (go_at_call 18; refine m18.mono ?_; rintro e w1 ⟨vk, H1, rfl, k1, r1⟩
       have hg1 := h.calm k1
       have m24 := (F_rows_key_ok n _ _ hk).calls (fun _ _ => Tryz.call24 _ _) hg1.sat (vs := [vk]) ⟨_, _, rfl, r1, rfl⟩)
    | (go_at_call 24; refine m24.mono ?_; rintro e w2 ⟨vk2, H2, rfl, k2, r2⟩
       have r2 : vk2 = .string ⟨k.toArray⟩ := r2
       subst r2
       have hg2 := hg1.calm k2)
    | (go_at_call 20; refine (maker_call _ _ _ _ _).mono ?_; rintro e w3 ⟨rfl, rfl⟩
       have hg3 := hg2.below (w' := w2.alloc (.cells #[.slice rp r.length rc] 34)) ((Below.refl _ w2).alloc (Nat.le_refl _) _)
       have d0 := hg3.sat.cell _ _ _ (k2.le _ _ _ (k1.le _ _ _ hba))
       have d1 : (w2.alloc (.cells #[.slice rp r.length rc] 34)).cell? ⟨w2.heap.size, 0, none⟩ = some (.slice rp r.length rc) := by rw [World.cell?_alloc_new]; rfl
       have m23 := seat_one hg3 nd k (of_decide_eq_true z1) w2.heap.size ba rp ap r.length rc ac d1 d0.1 (by omega) (of_decide_eq_true z2) (r := r) (RepP.mono k2.le (RepP.mono k1.le rr)))
    | (go_at_call 23; refine m23.mono ?_; rintro e w4 ⟨bb, rfl, ⟨vo4, gb4, cb4, vf4, vv4, lab4, hg4⟩, hk4⟩
       have d4 := (hg4.sat.cell _ _ _ (k2.le _ _ _ (k1.le _ _ _ hba))).1))
  have rr2 := RepP.mono k2.le (RepP.mono k1.le rr)
  have ra2 := RepP.mono k2.le (RepP.mono k1.le raggs)
  obtain ⟨rb, ro, hrp, hrw⟩ := row_cells rr2
  obtain ⟨ab, ao, hap, hag⟩ := str_cells ra2
  have hln : ∀ (c : Nat) (cl : List Val), c ≤ aggs.length → ∀ q : Nat, (colsTo aggs r g.cols c)[q]? = some cl → cl.length < 1000000000 := fun c cl _ q hq => by
    obtain ⟨cl0, h1, h2⟩ := cols_short aggs r g.cols c q cl hq
    have h3 := List.all_eq_true.1 hsh cl0 (List.mem_of_getElem? h1)
    have h3 := of_decide_eq_true h3
    split at h2 <;> omega
  refine cols_loop _ _ _ _ _ _ _ _ _ _ _ _ _ _ _ _ _ _ _ _ _ _ _ _ _ _ _ _ _ _ _ _ _ _ _ _ _ _ _ _ _ _ _ _ _ _ _ _ _ _ _ _ _ _ _ _ _ _ _ _ _ _ _ _ _ _ _ _ _ _ _ _ _ _ _ _ _ _ _ _ _ _ _ _ _ _ _ _ _ _ _ _ _ _ _ _ _ _ _ _ _ _ _ _ _ _ _ _ _ _ _ _ _ _ _ _ _ _ _ _ _ _ _ _ _ _ _ _ _ _ _ _ _ _ _ _ _ _ _ _ _ _ _ _ _ _ _ _ _ _ _ _ _ _ _ _ _ _ _ _ _ _ _ _ _ _ _ _ _ _ _ _ _ _ _ _ _ _ _ hg4 hgi hrp hap hln hna (of_decide_eq_true z3) hrw hag _ (fun d v c a w hh => by first | exact hQ d v c a w hh | exact hh) ?_
  intro y13 y14 y53 y54 y55 y56 y57 y58 y59 y60 y61 y62 y63 y64 y65 y66 y67 y68 y69 y70 y71 y72 y73 y74 y75 y76 y77 y78 y79 y80 y81 y82 y83 y84 y85 y86 y87 y88 y89 y90 y91 y92 y93 y94 y95 y96 y97 y98 y99 y100 y101 y102 y103 y104 y105 y106 y107 y108 y109 y110 y111 y112 y113 y114 y115 y116 y117 y118 y119 y120 y121 y122 y123 y124 y125 y126 y127 y128 y129 y130 w' hG hkk
  obtain ⟨vv5, lab5, hG⟩ := hG
  have cA := ((c0.trans k1).trans k2).trans (calm_under hg2.sat ((Below.refl _ w2).alloc (Nat.le_refl _) (.cells #[.slice rp r.length rc] 34)))
  have cB := calm_kept cA (hk4.trans hkk) hL hG.sat
  exact hK _ _ _ _ _ _ _ _ _ _ _ _ _ _ _ _ _ _ _ _ _ _ _ _ _ _ _ _ _ _ _ _ _ _ _ _ _ _ _ _ _ _ _ _ _ _ _ _ _ _ _ _ _ _ _ _ _ _ _ _ _ _ _ _ _ _ _ _ _ _ _ _ _ _ _ _ _ _ _ _ _ _ _ _ _ _ _ _ _ _ _ _ _ _ _ _ _ _ _ H2 w' (fun b o u hu => k2.le _ _ _ (k1.le _ _ _ hu)) cB ⟨_, _, _, _, _, _, hG⟩
end W
end
section
open Go Go.Proofs Ax Go.RowKit
namespace W
def rowsG (n : Nat) (aggs : List (List UInt8)) : List (List Val) → List Grp → Option (List Grp)
  | [], G => some G
  | r :: l, G => bnd (rowStep n aggs G r) fun G' => rowsG n aggs l G'
theorem rowStep_nodup {n : Nat} {aggs : List (List UInt8)} {G G' : List Grp} {r : List Val} (h : rowStep n aggs G r = some G') (nd : (G.map (·.key)).Nodup) : (G'.map (·.key)).Nodup := by
  obtain ⟨ks, _, h⟩ := bnd_some h
  obtain ⟨k, _, h⟩ := bnd_some h
  obtain ⟨_, h⟩ := chk_some h
  obtain ⟨_, h⟩ := chk_some h
  obtain ⟨_, h⟩ := chk_some h
  split at h
  · rename_i g hg
    obtain ⟨_, h⟩ := chk_some h
    obtain rfl := Option.some.inj h
    rw [set_keys hg]
    exact seatG_nodup nd
  · cases h
set_option maxHeartbeats 8000000 in
set_option maxRecDepth 100000 in
theorem rows_loop (t0 t1 t2 t4 t5 t9 t10 t11 t12 t13 t14 t15 t16 t17 t18 t19 t20 t21 t22 t23 t24 t25 t26 t27 t28 t29 t30 t31 t32 t36 t37 t38 t39 t40 t41 t42 t43 t44 t45 t46 t47 t48 t49 t50 t51 t52 t53 t54 t55 t56 t57 t58 t59 t60 t61 t62 t63 t64 t65 t66 t67 t68 t69 t70 t71 t72 t73 t74 t75 t76 t77 t78 t79 t80 t81 t82 t83 t84 t85 t86 t87 t88 t89 t90 t91 t92 t93 t94 t95 t96 t97 t98 t99 t100 t101 t102 t103 t104 t105 t106 t107 t108 t109 t110 t111 t112 t113 t114 t115 t116 t117 t118 t119 t120 t121 t122 t123 t124 t125 t126 t127 t128 t129 t130 t131 t132 t133 t134 t135 t136 t137 t138 t139 t140 t141 t142 t143 t144 t145 t146 t147 t148 t149 t150 t151 t152 t153 t154 t155 t156 t157 t158 t159 t160 t161 t162 t163 t164 t165 t166 t167 t168 t169 t170 t171 t172 t173 t174 t175 t176 t177 t178 t179 t180 t181 t182 t183 t184 : Value) {L : Nat} {H0 H1 : PH L} {w0 w : World} {G Gf : List Grp} {sb mb : Nat} {vo : Value} {gb cb : Nat → Nat} {vf : Nat → Value} {vv : Nat → Nat → Value} {lab : Nat → Option Tag} {aggs : List (List UInt8)} (h : GSt Tryz.prog TG H1 w aggs.length G sb mb vo gb cb vf vv lab)
    (nd : (G.map (·.key)).Nodup) (c0 : Calm H0 w0 H1 w) (hL : w0.heap.size ≤ L) {n : Nat} {l : List (List Val)} (hst : rowsG n aggs l G = some Gf) {ba lb lo lc : Nat} {lp : Option Addr} (hlp : l ≠ [] → lp = some ⟨lb, lo, none⟩) (hln : l.length < 1000000000) {va : Value} (hba : H1 ba 0 = some va) (raggs : RepP H1 (.sl (strs aggs)) va) (hna : aggs.length < 1000000000)
    (hrow : ∀ (j : Nat) (r : List Val), l[j]? = some r → ∃ vr, H1 lb (lo + j) = some vr ∧ RepP H1 (.sl (Val.rows r)) vr)
    (Q : Exit → Act → World → Prop) (hQ : ∀ d v c a w, Q (.panic c) (a.put d v) w → Q (.panic c) a w)
    (hK : ∀ (x10 x11 x12 x13 x14 x35 x36 x37 x38 x39 x40 x41 x42 x43 x44 x45 x46 x47 x48 x49 x50 x51 x52 x53 x54 x55 x56 x57 x58 x59 x60 x61 x62 x63 x64 x65 x66 x67 x68 x69 x70 x71 x72 x73 x74 x75 x76 x77 x78 x79 x80 x81 x82 x83 x84 x85 x86 x87 x88 x89 x90 x91 x92 x93 x94 x95 x96 x97 x98 x99 x100 x101 x102 x103 x104 x105 x106 x107 x108 x109 x110 x111 x112 x113 x114 x115 x116 x117 x118 x119 x120 x121 x122 x123 x124 x125 x126 x127 x128 x129 x130 x131 : Value) (H' : PH L) (w' : World), PH.le H1 H' → Calm H0 w0 H' w' → (∃ vo' gb' cb' vf' vv' lab', GSt Tryz.prog TG H' w' aggs.length Gf sb mb vo' gb' cb' vf' vv' lab') → Q (.exit 0) { tmps := #[t0, t1, t2, .pointer (some ⟨ba, 0, none⟩), t4, t5, .func (.func 18) #[] #[.pointer (some ⟨ba, 0, none⟩)], .pointer (some ⟨sb, 0, none⟩), .func (.func 20) #[] #[.pointer (some ⟨ba, 0, none⟩)], t9, x10, x11, x12, x13, x14, t15, t16, t17, t18, t19, t20, t21, t22, t23, t24, t25, t26, t27, t28, t29, t30, t31, t32, .slice lp l.length lc, .int .i64 (l.length : Int), x35, x36, x37, x38, x39, x40, x41, x42, x43, x44, x45, x46, x47, x48, x49, x50, x51, x52, x53, x54, x55, x56, x57, x58, x59, x60, x61, x62, x63, x64, x65, x66, x67, x68, x69, x70, x71, x72, x73, x74, x75, x76, x77, x78, x79, x80, x81, x82, x83, x84, x85, x86, x87, x88, x89, x90, x91, x92, x93, x94, x95, x96, x97, x98, x99, x100, x101, x102, x103, x104, x105, x106, x107, x108, x109, x110, x111, x112, x113, x114, x115, x116, x117, x118, x119, x120, x121, x122, x123, x124, x125, x126, x127, x128, x129, x130, x131, t132, t133, t134, t135, t136, t137, t138, t139, t140, t141, t142, t143, t144, t145, t146, t147, t148, t149, t150, t151, t152, t153, t154, t155, t156, t157, t158, t159, t160, t161, t162, t163, t164, t165, t166, t167, t168, t169, t170, t171, t172, t173, t174, t175, t176, t177, t178, t179, t180, t181, t182, t183, t184], defers := [] } w') :
    (pick [1,1,1,1,1,0,1,0] (bodyOf Tryz.f8.body)).wp Tryz.prog Q { tmps := #[t0, t1, t2, .pointer (some ⟨ba, 0, none⟩), t4, t5, .func (.func 18) #[] #[.pointer (some ⟨ba, 0, none⟩)], .pointer (some ⟨sb, 0, none⟩), .func (.func 20) #[] #[.pointer (some ⟨ba, 0, none⟩)], t9, t10, t11, t12, t13, t14, t15, t16, t17, t18, t19, t20, t21, t22, t23, t24, t25, t26, t27, t28, t29, t30, t31, t32, .slice lp l.length lc, .int .i64 (l.length : Int), .int .i64 0, t36, t37, t38, t39, t40, t41, t42, t43, t44, t45, t46, t47, t48, t49, t50, t51, t52, t53, t54, t55, t56, t57, t58, t59, t60, t61, t62, t63, t64, t65, t66, t67, t68, t69, t70, t71, t72, t73, t74, t75, t76, t77, t78, t79, t80, t81, t82, t83, t84, t85, t86, t87, t88, t89, t90, t91, t92, t93, t94, t95, t96, t97, t98, t99, t100, t101, t102, t103, t104, t105, t106, t107, t108, t109, t110, t111, t112, t113, t114, t115, t116, t117, t118, t119, t120, t121, t122, t123, t124, t125, t126, t127, t128, t129, t130, t131, t132, t133, t134, t135, t136, t137, t138, t139, t140, t141, t142, t143, t144, t145, t146, t147, t148, t149, t150, t151, t152, t153, t154, t155, t156, t157, t158, t159, t160, t161, t162, t163, t164, t165, t166, t167, t168, t169, t170, t171, t172, t173, t174, t175, t176, t177, t178, t179, t180, t181, t182, t183, t184], defers := [] } w := by
  simp only [pick, bodyOf, Tryz.f8]
  go_loopw [35] (fun v wr => ∃ (j : Nat), v = .int .i64 (j : Int) ∧ j ≤ l.length ∧ ∃ (H : PH L) (G1 : List Grp), PH.le H1 H ∧ Calm H0 w0 H wr ∧ (G1.map (·.key)).Nodup ∧ rowsG n aggs (l.drop j) G1 = some Gf ∧ ∃ vo' gb' cb' vf' vv' lab', GSt Tryz.prog TG H wr aggs.length G1 sb mb vo' gb' cb' vf' vv' lab') (fun v _ => l.length - (intOf' v).toNat)
  case atStart => exact ⟨0, rfl, Nat.zero_le _, H1, G, PH.le.refl H1, c0, nd, hst, _, _, _, _, _, _, h⟩
  case round =>
    obtain ⟨j, rfl, hjn, H, G1, le1, c1, nd1, hs1, vo1, gb1, cb1, vf1, vv1, lab1, h1⟩ := hrel
    have b0 : (0 : Int) ≤ (j : Int) := by omega
    rcases Nat.lt_or_ge j l.length with hlt | hge
    · obtain rfl := hlp (List.ne_nil_of_length_pos (by omega))
      have b1 : (j : Int) < (l.length : Int) := by omega
      obtain ⟨r, hr⟩ : ∃ r, l[j]? = some r := ⟨_, List.getElem?_eq_getElem hlt⟩
      have hd : l.drop j = r :: l.drop (j + 1) := by
        rw [List.drop_eq_getElem_cons hlt, (List.getElem?_eq_some_iff.1 hr).2]
      rw [hd] at hs1
      obtain ⟨G2, hG2, hs2⟩ := bnd_some hs1
      obtain ⟨vr, hv1, hv2⟩ := hrow j r hr
      iterate 16 go_step
      refine row_round _ _ _ _ _ _ _ _ _ _ _ _ _ _ _ _ _ _ _ _ _ _ _ _ _ _ _ _ _ _ _ _ _ _ _ _ _ _ _ _ _ _ _ _ _ _ _ _ _ _ _ _ _ _ _ _ _ _ _ _ _ _ _ _ _ _ _ _ _ _ _ _ _ _ _ _ _ _ _ _ _ _ _ _ _ _ _ _ _ _ _ _ _ _ _ _ _ _ _ _ _ _ _ _ _ _ _ _ _ _ _ _ _ _ _ _ _ _ _ _ _ _ _ _ _ _ _ _ _ _ _ _ _ _ _ _ _ _ _ _ _ _ _ _ _ _ _ _ _ _ _ _ _ _ _ _ _ _ _ _ _ _ _ _ _ _ _ _ _ _ _ _ _ _ _ _ _ _ _ h1 nd1 c1 hL hG2 b1 (le1 _ _ _ hba) (RepP.mono le1 raggs) hna (le1 _ _ _ hv1) (RepP.mono le1 hv2) _ (fun d v c a w hh => by first | exact hQ d v c a w hh | exact hh) ?_
      intro y10 y11 y12 y13 y14 y37 y38 y39 y40 y41 y42 y43 y44 y45 y46 y47 y48 y49 y50 y51 y52 y53 y54 y55 y56 y57 y58 y59 y60 y61 y62 y63 y64 y65 y66 y67 y68 y69 y70 y71 y72 y73 y74 y75 y76 y77 y78 y79 y80 y81 y82 y83 y84 y85 y86 y87 y88 y89 y90 y91 y92 y93 y94 y95 y96 y97 y98 y99 y100 y101 y102 y103 y104 y105 y106 y107 y108 y109 y110 y111 y112 y113 y114 y115 y116 y117 y118 y119 y120 y121 y122 y123 y124 y125 y126 y127 y128 y129 y130 H2 w2 le2 c2 hG3
      go_wp2
      go_roundw
      case rel => exact ⟨j + 1, by congr 1 <;> omega, hlt, H2, G2, fun b o u hu => le2 _ _ _ (le1 _ _ _ hu), c2, rowStep_nodup hG2 nd1, hs2, hG3⟩
      case measure => simp [intOf']; omega
    · obtain rfl : j = l.length := by omega
      rw [List.drop_length] at hs1
      obtain rfl := Option.some.inj hs1
      go_wp2
      exact hK _ _ _ _ _ _ _ _ _ _ _ _ _ _ _ _ _ _ _ _ _ _ _ _ _ _ _ _ _ _ _ _ _ _ _ _ _ _ _ _ _ _ _ _ _ _ _ _ _ _ _ _ _ _ _ _ _ _ _ _ _ _ _ _ _ _ _ _ _ _ _ _ _ _ _ _ _ _ _ _ _ _ _ _ _ _ _ _ _ _ _ _ _ _ _ _ _ _ _ _ _ _ H _ le1 c1 ⟨_, _, _, _, _, _, h1⟩
end W
end
section
open Go
namespace Ax
theorem wk {nb:Nat} {E:Env} {lo:List AObj} {E':Env} {lo':List AObj} (l fresh:List Nat) (h:weakD nb l fresh lo' = true ∧ l.length = lo'.length ∧ namesE lo'.length E' = true ∧ namesO lo'.length lo' = true:=by exact ⟨rfl,rfl,rfl,rfl⟩)
  (h1:leAll E (πOf l) fresh E':=by repeat (first | exact trivial | exact .inl rfl | exact rfl | exact List.not_mem_nil | (refine .inr ?_) | (refine ⟨?_,?_⟩) | exact List.length_set.symm | decide))
  (h2:leObs lo (πOf l) fresh 0 lo':=by repeat (first | exact trivial | exact .inl rfl | exact rfl | exact List.not_mem_nil | (refine .inr ?_) | (refine ⟨?_,?_⟩) | exact List.length_set.symm | decide)):WeakK nb E lo E' lo':=⟨l,fresh,h,h1,h2⟩
theorem fin {P:Prop} (h:P:=by repeat (first | exact rfl | exact trivial | refine ⟨?_,?_⟩)):P:=h
theorem ifc {R:Type} {c:Bool} {a b:Option R} {r:R} {P Q:Prop} (h:(bif c then a else b) = some r) (f:c = true → a = some r → P) (g:c = false → b = some r → Q):(c = true → P) ∧ (c = false → Q) :=
 ⟨fun hc=>f hc (cond_t h hc),fun hc=>g hc (cond_f h hc)⟩
theorem sj {A:Type} {a b:A} (h:some a = some b):a = b:=Option.some.inj h
end Ax
end
section
open Go Go.Proofs Ax
namespace Ax
theorem LoopA.fnI {P : Program} (inl : List Nat) {N nb : Nat} {body : Code} {K : KA} {E : Env} {lo : List AObj} {S R : Type} (I : S → Prop) (fr : S → Env) (ob : S → List AObj) {B : (S → Option R) → S → Option R} {n : Nat} {s0 : S} {r : R}
    (h : loopK B n s0 = some r) (h0 : I s0) (hw : WeakK nb E lo (fr s0) (ob s0))
    (round : ∀ (next : S → Option R) (s : S), I s → B next s = some r → vc P inl N nb body (fun x E' lo' => match x with
      | .normal => ∃ s', (I s' ∧ next s' = some r) ∧ WeakK nb E' lo' (fr s') (ob s')
      | .exit i => K (.exit i) E' lo'
      | .ret => K .ret E' lo') (fr s) (ob s)) : LoopA P inl N nb body K E lo := by
  intro hm hd Lw bs ρ H a w hb sat
  subst hb
  obtain ⟨ρ', sat'⟩ := hw.sat sat
  refine wp_loop_ghost (I := fun n a w => ∃ s ρ H, (I s ∧ loopK B n s = some r) ∧ Sat bs N ρ H (lookD (fr s)) (ob s) a w) n ⟨s0, ρ', H, ⟨h0, h⟩, sat'⟩ fun n a w ⟨s, ρ, H, ⟨hI, hs⟩, sat⟩ => ?_
  cases n with
  | zero => cases hs
  | succ n =>
    refine wp_mono (vc_sound hm body _ _ _ hd (round (loopK B n) s hI hs) bs ρ H a w rfl sat) fun e a w p => ?_
    obtain ⟨x, ρ2, H2, E2, lo2, hx, sat2, k⟩ := p
    cases x <;> cases e <;> simp only [AXis] at hx
    · obtain ⟨s', hok', hwk⟩ := k
      obtain ⟨ρ3, sat3⟩ := hwk.sat sat2
      exact ⟨n, Nat.lt_succ_self _, s', ρ3, H2, hok', sat3⟩
    · exact ⟨.exit _, ρ2, H2, E2, lo2, hx, sat2, k⟩
    · exact ⟨.ret, ρ2, H2, E2, lo2, trivial, sat2, k⟩
def nsRows (l : List (List Val)) : List (List PV) := l.map fun x => [PV.nsl (Val.rowsN x)]
def nsC : Codec (List Val) := { cells := fun x => [.nsl (Val.rowsN x)], rows := nsRows, z := 1, hrows := fun _ => rfl, hz := fun _ => rfl, hone := fun _ => rfl }
theorem wrap_succ {x : Nat} (h : x < 140737488355328) : IntKind.i64.wrap ((x : Int) + 1) = ((x + 1 : Nat) : Int) := by
  rw [wrap_ok _ (by omega) (by omega)]; omega
end Ax
namespace W
set_option maxRecDepth 100000 in
theorem BF_value_Copy_new (n : Nat) (g26 : Val → Option (Val)) (g26_ok : ∀ (a0_ : Val) (r : Val), g26 a0_ = some r → CallsF Tryz.prog 26 [PV.agg (valC.cells a0_)] (PV.agg r.cellsN)) : ∀ (a0_ : Val) (r : Val), BF_value_Copy n g26 a0_ = some r → CallsF Tryz.prog 26 [PV.agg (valC.cells a0_)] (PV.agg r.cellsN) := by
  intro a0_ r h
  obtain ⟨x1, x2, x3, x4, x5, x6⟩ := a0_
  unfold BF_value_Copy at h
  refine CallsF.of_vcNew mixed (fun _ _ => Tryz.call26 _ _) Tryz.func26 (by kernel_rfl) (inl := [45, 10000008, 1000000]) ?_
  conv => whnf
  replace h := bnd_some h
  obtain ⟨x7, h11, h⟩ := h
  have hj := natI_some h11
  conv => whnf
  obtain ⟨h10, h⟩ := chk_some h
  refine ⟨x7, Val.rows (List.replicate x7 (Val.mk (0 : Int) false (0 : Int) ([] : List UInt8) ([] : List Val) ([] : List (List UInt8)))), ⟨hj, hj, of_decide_eq_true h10, len_ok h10 (by decide), Codec.madeN valC (Val.mk (0 : Int) false (0 : Int) ([] : List UInt8) ([] : List Val) ([] : List (List UInt8))) x7 (by repeat (first | exact rfl | exact trivial | refine ⟨?_, ?_⟩)), rfl, by decide, rfl⟩, ?_⟩
  conv => whnf
  obtain ⟨h9, h⟩ := chk_some h
  have hlen : x5.length = (Val.rows (List.replicate x7 (Val.mk (0 : Int) false (0 : Int) ([] : List UInt8) ([] : List Val) ([] : List (List UInt8))))).length := by rw [← rows_length]; exact of_decide_eq_true h9
  have hbig : x5.length < 140737488355328 := by have h1 := of_decide_eq_true h10; rw [rows_length] at hj; omega
  refine ⟨⟨rfl, of_decide_eq_true h9, Codec.wide valC x5⟩, ?_⟩
  conv => whnf
  refine LoopA.fnI [45, 10000008, 1000000] (S := Int × List Val) (fun s => 0 ≤ s.1 ∧ s.2.length = x5.length) (fun (x8, x9) => [(1, .ptr 0 0), (2, .ptr 1 0), (3, .vsl 2 ((Val.rows (List.replicate x7 (Val.mk (0 : Int) false (0 : Int) ([] : List UInt8) ([] : List Val) ([] : List (List UInt8))))).length)), (14, .p (.int .i64 ((((Val.rows (List.replicate x7 (Val.mk (0 : Int) false (0 : Int) ([] : List UInt8) ([] : List Val) ([] : List (List UInt8))))).length) : Nat) : Int))), (15, .p (.int .i64 x8))]) (fun (x8, x9) => [.box 36 [.p (.int .i64 x1), .p (.bool x2), .p (.int .i64 x3), .p (.str x4), .p (.sl (Val.rows x5)), .p (.sl (strs x6))], .box 36 [.p (.int .i64 (0 : Int)), .p (.bool false), .p (.int .i64 (0 : Int)), .p (.str ([] : List UInt8)), .p (.nilsl), .p (.nilsl)], .vec 36 6 (mixR x8.toNat x9)]) (B := F_value_Copy_l1 n x7 g26 x6 x1 x2 x3 x4) h ⟨Int.le_refl _, rfl⟩ ⟨[0, 1, 2], [], ⟨rfl, rfl, rfl, rfl⟩, by repeat (first | exact trivial | exact .inl rfl | exact rfl | exact List.not_mem_nil | (refine .inr ?_) | (refine ⟨?_, ?_⟩) | exact List.length_set.symm | decide), by repeat (first | exact trivial | exact .inl rfl | exact rfl | exact List.not_mem_nil | (refine .inr ?_) | (refine ⟨?_, ?_⟩) | exact List.length_set.symm | exact mix_zero x5 | decide)⟩ ?_
  intro nx1 st hI h
  obtain ⟨x8, x9⟩ := st
  have hI1 : 0 ≤ x8 := hI.1
  have hI2 : x9.length = x5.length := hI.2
  unfold F_value_Copy_l1 at h
  conv => whnf
  refine ⟨fun hc => ?_, fun hc => ?_⟩
  · replace h := cond_t h hc
    conv => whnf
    replace h := bnd_some h
    obtain ⟨x10, h7, h⟩ := h
    have hj := natI_some h7
    subst hj
    conv => whnf
    obtain ⟨h6, h⟩ := chk_some h
    refine ⟨x10, ⟨rfl, of_decide_eq_true h6⟩, ?_⟩
    conv => whnf
    replace h := bnd_some h
    obtain ⟨⟨x11, x12, x13, x14, x15, x16⟩, h5, h⟩ := h
    refine ⟨_, ⟨rfl, mix_get h5⟩, ?_⟩
    conv => whnf
    replace h := bnd_some h
    obtain ⟨⟨x17, x18, x19, x20, x21, x22⟩, h4, h⟩ := h
    refine ⟨_, (g26_ok _  _ h4), ?_⟩
    conv => whnf
    replace h := bnd_some h
    obtain ⟨x23, h3, h⟩ := h
    obtain rfl : x10 = x23 := by have := natI_some h3; omega
    conv => whnf
    obtain ⟨h2, h⟩ := chk_some h
    refine ⟨x10, ⟨rfl, of_decide_eq_true h2⟩, ?_⟩
    conv => whnf
    replace h := bnd_some h
    obtain ⟨⟨x24, x25, x26, x27, x28, x29⟩, h1, h⟩ := h
    refine ⟨_, ⟨rfl, mix_get h1, rfl⟩, ?_⟩
    conv => whnf
    have hx10 : x10 < x9.length := (List.getElem?_eq_some_iff.1 h1).1
    refine ⟨_, mix_set hx10 (Val.mk x17 x18 x19 x20 x21 x22), ?_⟩
    conv => whnf
    have hw : IntKind.i64.wrap ((x10 : Int) + 1) = ((x10 + 1 : Nat) : Int) := wrap_succ (by omega)
    exact ⟨((IntKind.i64.wrap ((x10 : Int) + (1 : Int))), (x9.set x10 (Val.mk x17 x18 x19 x20 x21 x22))), ⟨⟨by rw [hw]; exact Int.natCast_nonneg _, by rw [List.length_set]; exact hI2⟩, h⟩, ⟨[0, 1, 2], [], ⟨rfl, rfl, rfl, rfl⟩, by repeat (first | exact trivial | exact .inl rfl | exact rfl | exact List.not_mem_nil | (refine .inr ?_) | (refine ⟨?_, ?_⟩) | exact List.length_set.symm | decide), by repeat (first | exact trivial | exact .inl rfl | exact rfl | exact List.not_mem_nil | (refine .inr ?_) | (refine ⟨?_, ?_⟩) | exact List.length_set.symm | exact congrArg (fun k => mixR k _) (by rw [hw]; rfl) | decide)⟩⟩
  · replace h := cond_f h hc
    conv => whnf
    obtain ⟨h8, h⟩ := chk_some h
    have hge : x9.length ≤ x8.toNat := by
      have h1 := of_decide_eq_false hc
      rw [← hlen] at h1
      omega
    have hend := mix_end hge
    refine CallsO.use (Clone_ok x6 (of_decide_eq_true h8)) [] [] ⟨rfl, rfl, rfl, rfl, rfl, rfl⟩ (by repeat (first | exact trivial | exact .inl rfl | exact rfl | exact List.not_mem_nil | (refine .inr ?_) | (refine ⟨?_, ?_⟩) | exact List.length_set.symm | decide)) (by repeat (first | exact trivial | exact .inl rfl | exact rfl | exact List.not_mem_nil | (refine .inr ?_) | (refine ⟨?_, ?_⟩) | exact List.length_set.symm | decide)) ?_
    rintro _ _ ⟨rfl, rfl⟩
    refine ⟨.tsl 3 (strs x6), [.box 36 [.p (.int .i64 x1), .p (.bool x2), .p (.int .i64 x3), .p (.str x4), .vsl 2 ((Val.rows (List.replicate x7 (Val.mk (0 : Int) false (0 : Int) ([] : List UInt8) ([] : List Val) ([] : List (List UInt8))))).length), .p (.sl (strs x6))], .box 36 [.p (.int .i64 (0 : Int)), .p (.bool false), .p (.int .i64 (0 : Int)), .p (.str ([] : List UInt8)), .p (.nilsl), .p (.nilsl)], .vec 36 6 (mixR x8.toNat x9), .tail 9 1 (strs x6).length], rfl, rfl, ?_⟩
    obtain rfl := Option.some.inj h
    conv => whnf
    rw [hend]
    repeat (first | exact rfl | exact trivial | refine ⟨?_, ?_⟩)
set_option maxRecDepth 100000 in
theorem F_value_Copy_new (n : Nat) : ∀ (v r : Val), F_value_Copy n v = some r → CallsF Tryz.prog 26 [PV.agg (valC.cells v)] (PV.agg r.cellsN) := by
  induction n with
  | zero => intro v r h; cases h
  | succ n ih => exact BF_value_Copy_new n (F_value_Copy n) ih
end W
end
section
open Go Go.Proofs Ax Go.RowKit
namespace W
def cellOf (n : Nat) (a : List UInt8) (g : Grp) (c : Nat) : Option (Val × Int) :=
  if a = [] then bnd g.first[c]? fun x => bnd (F_value_Copy n x) fun y => some (y, 0)
  else bnd g.cols[c]? fun cl => bnd (F_rows_gather n a cl) fun r => if r.2 = 0 then bnd (F_value_Copy n r.1) fun y => some (y, 0) else some (r.1, r.2)
def tellC (n : Nat) (g : Grp) : Nat → List (List UInt8) → List Val → Option (List Val × Int)
  | _, [], row => some (row, 0)
  | c, a :: l, row => bnd (cellOf n a g c) fun r => if r.2 = 0 then chk (decide (row.length < 1000000000)) (tellC n g (c + 1) l (row ++ [r.1])) else some (row, r.2)
theorem copy_agg {Lw : Nat} {H : PH Lw} {v : Value} {y : Val} (h : RepP H (.agg y.cellsN) v) : ∃ us, v = .agg us.toArray ∧ RepL H y.cellsN us := by
  simp only [RepP] at h
  obtain ⟨us, h1, h2⟩ := h
  exact ⟨us, h1, h2⟩
theorem tup_form {Lw : Nat} {H : PH Lw} {v : Value} {x : Val} {e : Int} (h : RepP H (.tup [.agg (valC.cells x), .int .i64 e]) v) : ∃ us, v = .tuple #[.agg us.toArray, .int .i64 e] ∧ RepL H (valC.cells x) us := by
  simp only [RepP, RepL] at h
  obtain ⟨_, rfl, _, _, rfl, ⟨us, rfl, h2⟩, _, _, rfl, rfl, rfl⟩ := h
  exact ⟨us, rfl, h2⟩
set_option maxHeartbeats 8000000 in
set_option maxRecDepth 100000 in
theorem tell_row (t0 t1 t2 t4 t5 t6 t7 t8 t9 t10 t11 t12 t13 t14 t15 t16 t19 t20 t21 t22 t23 t24 t25 t26 t27 t28 t29 t30 t31 t32 t33 t34 t35 t36 t37 t38 t39 t40 t41 t42 t43 t44 t45 t46 t47 t48 t49 t50 t51 t52 t53 t54 t55 t56 t57 t58 t59 t60 t61 t62 t63 t64 t65 t66 t67 t68 t69 t70 t71 t72 t73 t74 t75 t76 t77 t78 t79 t80 t81 t82 t83 t84 t85 t86 t87 t88 t89 t90 t91 t92 t93 t94 t95 t96 t97 t98 t99 t100 t101 t102 t103 t104 t105 t106 t107 t108 t109 t110 t111 t112 t113 t114 t115 t116 t117 t118 t119 t120 t121 t122 t123 t124 t125 t126 t127 t128 t129 t130 t131 t132 t133 t134 t135 t136 t137 t141 t142 t143 t144 t145 t146 t147 t148 t149 t150 t151 t152 t153 t154 t155 t156 t157 t158 t159 t160 t161 t162 t163 t164 t165 t166 t167 t168 t169 t170 t171 t172 t173 t174 t175 t176 t177 t178 t179 t180 t181 t182 t183 t184 : Value) {L : Nat} {H0 H : PH L} {w0 w : World} {G : List Grp} {vo : Value} {gb cb : Nat → Nat} {vf : Nat → Value} {vv : Nat → Nat → Value} {N : Nat} {outs : List (List Val)} {vu : Value} {aggs : List (List UInt8)} (h : Ph TG H0 w0 H w aggs.length G vo gb cb vf vv N [] (.slice none 0 0) outs vu)
    {i : Nat} {g : Grp} (hg : G[i]? = some g) {n : Nat} {r : List Val × Int} (hst : tellC n g 0 aggs [] = some r) {ba ab ao ac : Nat} {ap : Option Addr} (hap : aggs ≠ [] → ap = some ⟨ab, ao, none⟩) (hna : aggs.length < 1000000000)
    (hag : ∀ (c : Nat) (a : List UInt8), aggs[c]? = some a → H ab (ao + c) = some (.string ⟨a.toArray⟩))
    (Q : Exit → Act → World → Prop) (hQ : ∀ d v c a w, Q (.panic c) (a.put d v) w → Q (.panic c) a w)
    (hK : ∀ (x4 x5 x19 x20 x21 x22 x140 x141 x142 x143 x144 x145 x146 x147 x148 x149 x150 x151 x152 x153 x154 x155 x156 x157 x158 x159 x160 x161 x162 x163 x164 x165 x166 x167 x168 x169 x170 x171 x172 x173 x174 x175 x176 x177 x178 : Value) (H' : PH L) (w' : World) (vr' : Value), r.2 = 0 → PH.le H H' → Ph TG H0 w0 H' w' aggs.length G vo gb cb vf vv N r.1 vr' outs vu → Q (.exit 6) { tmps := #[t0, t1, t2, .pointer (some ⟨ba, 0, none⟩), x4, x5, t6, t7, t8, t9, t10, t11, t12, t13, t14, t15, t16, .pointer (some ⟨gb i, 0, none⟩), vr', x19, x20, x21, x22, t23, t24, t25, t26, t27, t28, t29, t30, t31, t32, t33, t34, t35, t36, t37, t38, t39, t40, t41, t42, t43, t44, t45, t46, t47, t48, t49, t50, t51, t52, t53, t54, t55, t56, t57, t58, t59, t60, t61, t62, t63, t64, t65, t66, t67, t68, t69, t70, t71, t72, t73, t74, t75, t76, t77, t78, t79, t80, t81, t82, t83, t84, t85, t86, t87, t88, t89, t90, t91, t92, t93, t94, t95, t96, t97, t98, t99, t100, t101, t102, t103, t104, t105, t106, t107, t108, t109, t110, t111, t112, t113, t114, t115, t116, t117, t118, t119, t120, t121, t122, t123, t124, t125, t126, t127, t128, t129, t130, t131, t132, t133, t134, t135, t136, t137, .slice ap aggs.length ac, .int .i64 (aggs.length : Int), x140, x141, x142, x143, x144, x145, x146, x147, x148, x149, x150, x151, x152, x153, x154, x155, x156, x157, x158, x159, x160, x161, x162, x163, x164, x165, x166, x167, x168, x169, x170, x171, x172, x173, x174, x175, x176, x177, x178, t179, t180, t181, t182, t183, t184], defers := [] } w')
    (hE : ∀ (x19 x20 x21 x22 x140 x141 x142 x143 x144 x145 x146 x147 x148 x149 x150 x151 x152 x153 x154 x155 x156 x157 x158 x159 x160 x161 x162 x163 x164 x165 x166 x167 x168 x169 x170 x171 x172 x173 x174 x175 x176 x177 x178 x18 : Value) (H' : PH L) (w' : World), r.2 ≠ 0 → Calm H0 w0 H' w' → Q .ret { tmps := #[t0, t1, t2, .pointer (some ⟨ba, 0, none⟩), .slice none 0 0, .int .i64 r.2, t6, t7, t8, t9, t10, t11, t12, t13, t14, t15, t16, .pointer (some ⟨gb i, 0, none⟩), x18, x19, x20, x21, x22, t23, t24, t25, t26, t27, t28, t29, t30, t31, t32, t33, t34, t35, t36, t37, t38, t39, t40, t41, t42, t43, t44, t45, t46, t47, t48, t49, t50, t51, t52, t53, t54, t55, t56, t57, t58, t59, t60, t61, t62, t63, t64, t65, t66, t67, t68, t69, t70, t71, t72, t73, t74, t75, t76, t77, t78, t79, t80, t81, t82, t83, t84, t85, t86, t87, t88, t89, t90, t91, t92, t93, t94, t95, t96, t97, t98, t99, t100, t101, t102, t103, t104, t105, t106, t107, t108, t109, t110, t111, t112, t113, t114, t115, t116, t117, t118, t119, t120, t121, t122, t123, t124, t125, t126, t127, t128, t129, t130, t131, t132, t133, t134, t135, t136, t137, .slice ap aggs.length ac, .int .i64 (aggs.length : Int), x140, x141, x142, x143, x144, x145, x146, x147, x148, x149, x150, x151, x152, x153, x154, x155, x156, x157, x158, x159, x160, x161, x162, x163, x164, x165, x166, x167, x168, x169, x170, x171, x172, x173, x174, x175, x176, x177, x178, t179, t180, t181, t182, t183, t184], defers := [] } w') :
    (pick [1,1,1,1,1,1,1,0,1,0,0,1,1,0,0,1,1,0,1,0] (bodyOf Tryz.f8.body)).wp Tryz.prog Q { tmps := #[t0, t1, t2, .pointer (some ⟨ba, 0, none⟩), t4, t5, t6, t7, t8, t9, t10, t11, t12, t13, t14, t15, t16, .pointer (some ⟨gb i, 0, none⟩), .slice none 0 0, t19, t20, t21, t22, t23, t24, t25, t26, t27, t28, t29, t30, t31, t32, t33, t34, t35, t36, t37, t38, t39, t40, t41, t42, t43, t44, t45, t46, t47, t48, t49, t50, t51, t52, t53, t54, t55, t56, t57, t58, t59, t60, t61, t62, t63, t64, t65, t66, t67, t68, t69, t70, t71, t72, t73, t74, t75, t76, t77, t78, t79, t80, t81, t82, t83, t84, t85, t86, t87, t88, t89, t90, t91, t92, t93, t94, t95, t96, t97, t98, t99, t100, t101, t102, t103, t104, t105, t106, t107, t108, t109, t110, t111, t112, t113, t114, t115, t116, t117, t118, t119, t120, t121, t122, t123, t124, t125, t126, t127, t128, t129, t130, t131, t132, t133, t134, t135, t136, t137, .slice ap aggs.length ac, .int .i64 (aggs.length : Int), .int .i64 0, t141, t142, t143, t144, t145, t146, t147, t148, t149, t150, t151, t152, t153, t154, t155, t156, t157, t158, t159, t160, t161, t162, t163, t164, t165, t166, t167, t168, t169, t170, t171, t172, t173, t174, t175, t176, t177, t178, t179, t180, t181, t182, t183, t184], defers := [] } w := by
  simp only [pick, bodyOf, Tryz.f8]
  go_loopw [140, 18] (fun v vr wr => ∃ (c : Nat) (row : List Val) (H1 : PH L), v = .int .i64 (c : Int) ∧ c ≤ aggs.length ∧ tellC n g c (aggs.drop c) row = some r ∧ PH.le H H1 ∧ Ph TG H0 w0 H1 wr aggs.length G vo gb cb vf vv N row vr outs vu) (fun v _ _ => aggs.length - (intOf' v).toNat)
  case atStart => exact ⟨0, [], H, rfl, Nat.zero_le _, hst, PH.le.refl H, h⟩
  case round =>
    obtain ⟨c, row, H1, rfl, hcn, hs1, le1, h1⟩ := hrel
    have b0 : (0 : Int) ≤ (c : Int) := by omega
    rcases Nat.lt_or_ge c aggs.length with hlt | hge
    · obtain rfl := hap (List.ne_nil_of_length_pos (by omega))
      obtain ⟨a, ha⟩ : ∃ a, aggs[c]? = some a := ⟨_, List.getElem?_eq_getElem hlt⟩
      have hd : aggs.drop c = a :: aggs.drop (c + 1) := by
        rw [List.drop_eq_getElem_cons hlt, (List.getElem?_eq_some_iff.1 ha).2]
      rw [hd] at hs1
      obtain ⟨q, hq, hs2⟩ := bnd_some hs1
      have hga := (h1.calm.sat.cell _ _ _ (le1 _ _ _ (hag c a ha))).1
      have b1 : (c : Int) < (aggs.length : Int) := by omega
      have hi : i < G.length := (List.getElem?_eq_some_iff.1 hg).1
      have hgc := h1.fix.grp i hi
      have k0 := cell_blk hgc.1 0 rfl
      have k1 := cell_blk hgc.1 1 rfl
      by_cases he : a = []
      · subst he
        unfold cellOf at hq
        rw [if_pos rfl] at hq
        obtain ⟨x, hx, hq⟩ := bnd_some hq
        obtain ⟨y, hy, hq⟩ := bnd_some hq
        obtain rfl := Option.some.inj hq
        simp only [if_true] at hs2
        obtain ⟨z1, hs2⟩ := chk_some hs2
        have z1 := of_decide_eq_true z1
        have rf := h1.fix.fst i g hg
        obtain ⟨fp, fc, hvf⟩ := sl_form rf
        rw [rows_length] at hvf
        rw [hvf] at k0 rf
        obtain ⟨rb, ro, hrp, hrw⟩ := row_cells rf
        have hfl : c < g.first.length := (List.getElem?_eq_some_iff.1 hx).1
        obtain rfl := hrp (List.ne_nil_of_length_pos (by omega))
        obtain ⟨us, hu, hus⟩ := hrw c x hx
        have hfi : (c : Int) < (g.first.length : Int) := by omega
        obtain ⟨k, ii, bb, ss, pp, qq, n1, c1, m1, e1, rfl⟩ := val_form hu
        have gc : ∀ j u, [Value.int .i64 k, .bool bb, .int .i64 ii, .string ss, .slice pp n1 c1, .slice qq m1 e1][j]? = some u → wr.cell? ⟨rb, ro + c * 6 + j, none⟩ = some u := fun j u hj => (h1.calm.sat.cell _ _ _ (hus j u hj)).1
        have g0 : wr.cell? ⟨rb, ro + c * 6, none⟩ = some (.int .i64 k) := gc 0 _ rfl
        have g1 := gc 1 _ rfl
        have g2 := gc 2 _ rfl
        have g3 := gc 3 _ rfl
        have g4 := gc 4 _ rfl
        have g5 := gc 5 _ rfl
        have m26 := (F_value_Copy_new n _ _ hy).calls (fun _ _ => Tryz.call26 _ _) h1.calm.sat (vs := [.agg #[.int .i64 k, .bool bb, .int .i64 ii, .string ss, .slice pp n1 c1, .slice qq m1 e1]]) (by simp only [RepL]; exact ⟨_, _, rfl, rep_agg hu (by rw [show (valC.cells x).length = 6 from cells_length x]; decide), rfl⟩)
        obtain ⟨i0, hi0, hz0, hz1, hz2⟩ := info36
        clear gc
        go_wp2_with (first
          | (go_at_call 26; refine m26.mono ?_; rintro e w1 ⟨vk, H2, rfl, c2, r2⟩
             obtain ⟨us2, rfl, hu2⟩ := copy_agg r2
             obtain ⟨k2, ii2, bb2, ss2, pp2, qq2, n2, cc2, m2, e2, rfl⟩ := repn_form hu2
             have h2 := h1.call c2
             have h3 := h2.below (w' := w1.alloc (.cells #[.int .i64 k2, .bool bb2, .int .i64 ii2, .string ss2, .slice pp2 n2 cc2, .slice qq2 m2 e2] 36)) ((Below.refl _ w1).alloc (Nat.le_refl _) _)
             obtain ⟨xs, x1, x2⟩ := h3.row
             have hN := h3.low.2.2)
          | (refine wpList_append_lies _ rfl _ _ 34 rfl N 36 i0 _ 6 88 Tryz.underlying34 hi0 hz0 hz1 hz2 rfl (by omega) _ row.length xs (by rfl) x1 ⟨w1.heap.size, 0, none⟩ 1 1 [.int .i64 k2, .bool bb2, .int .i64 ii2, .string ss2, .slice pp2 n2 cc2, .slice qq2 m2 e2] (by rfl) (by rfl) (cells_new w1 _ _) (by simp [Value.oneCell']) (by omega) (by unfold maxLen; omega) (by omega) (by simpa using hN) _ rfl ?_
             intro gg cap w3 hown hgrow hat hlt3))
        go_roundw
        case rel => exact ⟨c + 1, row ++ [y], H2, by congr 1 <;> omega, hlt, hs2, fun b o u hu => c2.le _ _ _ (le1 _ _ _ hu), h3.push ⟨x1, x2⟩ hu2 hown hgrow (hat.imp (fun e => e.symm) fun e => by rw [e]; rfl)⟩
        case measure => simp [intOf']; omega
      · have hne : ¬ ((⟨a.toArray⟩ : ByteArray) = ⟨#[]⟩) := fun e => he (by have := congrArg (fun b : ByteArray => b.data.toList) e; simpa using this)
        have hie : a.isEmpty = false := by cases a with | nil => exact absurd rfl he | cons _ _ => rfl
        unfold cellOf at hq
        rw [if_neg he] at hq
        obtain ⟨cl, hcl, hq⟩ := bnd_some hq
        obtain ⟨⟨gv, ge⟩, hgr, hq⟩ := bnd_some hq
        have rc := h1.fix.col i g c cl hg hcl
        obtain ⟨cp, cc, hvv⟩ := sl_form rc
        rw [rows_length] at hvv
        have k2 : wr.cell? ⟨cb i, c, none⟩ = some (vv i c) := cell_blk (h1.fix.arr i hi).1 c (by rw [List.getElem?_toArray, List.getElem?_map, List.getElem?_range hlt]; rfl)
        rw [hvv] at k2 rc
        have m27 := (F_rows_gather_ok n _ _ _ hgr).calls (fun _ _ => Tryz.call27 _ _) h1.calm.sat (vs := [.string ⟨a.toArray⟩, .slice cp cl.length cc]) (by simp only [RepL]; exact ⟨_, _, rfl, by simp only [RepP], _, _, rfl, rc, rfl⟩)
        obtain ⟨i0, hi0, hz0, hz1, hz2⟩ := info36
        by_cases hge0 : ge = 0
        · subst hge0
          simp only [if_true] at hq
          obtain ⟨y, hy, hq⟩ := bnd_some hq
          obtain rfl := Option.some.inj hq
          simp only [if_true] at hs2
          obtain ⟨z1, hs2⟩ := chk_some hs2
          have z1 := of_decide_eq_true z1
          go_wp2_with (first
            | (go_at_call 27; refine m27.mono ?_; rintro e w1 ⟨vk, H2, rfl, c2, r2⟩
               obtain ⟨us, rfl, hu⟩ := tup_form r2
               obtain ⟨k, ii, bb, ss, pp, qq, n1, c1, m1, e1, rfl⟩ := val_form hu
               have h2 := (h1.call c2).below (w' := w1.alloc (.cells #[.int .i64 k, .bool bb, .int .i64 ii, .string ss, .slice pp n1 c1, .slice qq m1 e1] 36)) ((Below.refl _ w1).alloc (Nat.le_refl _) _)
               have m26 := (F_value_Copy_new n _ _ hy).calls (fun _ _ => Tryz.call26 _ _) h2.calm.sat (vs := [.agg #[.int .i64 k, .bool bb, .int .i64 ii, .string ss, .slice pp n1 c1, .slice qq m1 e1]]) (by simp only [RepL]; exact ⟨_, _, rfl, rep_agg hu (by rw [show (valC.cells gv).length = 6 from cells_length gv]; decide), rfl⟩))
            | (go_at_call 26; refine m26.mono ?_; rintro e w2 ⟨vk, H3, rfl, c3, r3⟩
               obtain ⟨us2, rfl, hu2⟩ := copy_agg r3
               obtain ⟨k2, ii2, bb2, ss2, pp2, qq2, n2, cc2, m2, e2, rfl⟩ := repn_form hu2
               have h3 := (h2.call c3).below (w' := w2.alloc (.cells #[.int .i64 k2, .bool bb2, .int .i64 ii2, .string ss2, .slice pp2 n2 cc2, .slice qq2 m2 e2] 36)) ((Below.refl _ w2).alloc (Nat.le_refl _) _)
               obtain ⟨xs, x1, x2⟩ := h3.row
               have hN := h3.low.2.2)
            | (refine wpList_append_lies _ rfl _ _ 34 rfl N 36 i0 _ 6 88 Tryz.underlying34 hi0 hz0 hz1 hz2 rfl (by omega) _ row.length xs (by rfl) x1 ⟨w2.heap.size, 0, none⟩ 1 1 [.int .i64 k2, .bool bb2, .int .i64 ii2, .string ss2, .slice pp2 n2 cc2, .slice qq2 m2 e2] (by rfl) (by rfl) (cells_new w2 _ _) (by simp [Value.oneCell']) (by omega) (by unfold maxLen; omega) (by omega) (by simpa using hN) _ rfl ?_
               intro gg cap w3 hown hgrow hat hlt3))
          go_roundw
          case rel => exact ⟨c + 1, row ++ [y], H3, by congr 1 <;> omega, hlt, hs2, fun b o u hu => c3.le _ _ _ (c2.le _ _ _ (le1 _ _ _ hu)), h3.push ⟨x1, x2⟩ hu2 hown hgrow (hat.imp (fun e => e.symm) fun e => by rw [e]; rfl)⟩
          case measure => simp [intOf']; omega
        · rw [if_neg hge0] at hq
          obtain rfl := Option.some.inj hq
          rw [if_neg hge0] at hs2
          obtain rfl := Option.some.inj hs2
          have hgb : (ge != 0) = true := by simpa using hge0
          go_wp2_with (first
            | (go_at_call 27; refine m27.mono ?_; rintro e w1 ⟨vk, H2, rfl, c2, r2⟩
               obtain ⟨us, rfl, hu⟩ := tup_form r2
               obtain ⟨k, ii, bb, ss, pp, qq, n1, c1, m1, e1, rfl⟩ := val_form hu
               have h2 := (h1.call c2).below (w' := w1.alloc (.cells #[.int .i64 k, .bool bb, .int .i64 ii, .string ss, .slice pp n1 c1, .slice qq m1 e1] 36)) ((Below.refl _ w1).alloc (Nat.le_refl _) _)))
          exact hE _ _ _ _ _ _ _ _ _ _ _ _ _ _ _ _ _ _ _ _ _ _ _ _ _ _ _ _ _ _ _ _ _ _ _ _ _ _ _ _ _ _ _ _ H2 _ hge0 h2.calm
    · obtain rfl : c = aggs.length := by omega
      rw [List.drop_length] at hs1
      obtain rfl := Option.some.inj hs1
      go_wp2
      exact hK _ _ _ _ _ _ _ _ _ _ _ _ _ _ _ _ _ _ _ _ _ _ _ _ _ _ _ _ _ _ _ _ _ _ _ _ _ _ _ _ _ _ _ _ _ H1 _ _ trivial le1 h1
end W
end
section
open Go Go.Proofs Ax Go.RowKit
namespace W
def tellG (n : Nat) (aggs : List (List UInt8)) : List Grp → List (List Val) → Option (List (List Val) × Int)
  | [], outs => some (outs, 0)
  | g :: G, outs => bnd (tellC n g 0 aggs []) fun q => if q.2 = 0 then chk (decide (outs.length < 1000000000)) (tellG n aggs G (outs ++ [q.1])) else some ([], q.2)
set_option maxHeartbeats 8000000 in
set_option maxRecDepth 100000 in
theorem tell_all (t0 t1 t2 t4 t5 t6 t7 t8 t9 t10 t11 t12 t13 t14 t16 t17 t18 t19 t20 t21 t22 t23 t24 t25 t26 t27 t28 t29 t30 t31 t32 t33 t34 t35 t36 t37 t38 t39 t40 t41 t42 t43 t44 t45 t46 t47 t48 t49 t50 t51 t52 t53 t54 t55 t56 t57 t58 t59 t60 t61 t62 t63 t64 t65 t66 t67 t68 t69 t70 t71 t72 t73 t74 t75 t76 t77 t78 t79 t80 t81 t82 t83 t84 t85 t86 t87 t88 t89 t90 t91 t92 t93 t94 t95 t96 t97 t98 t99 t100 t101 t102 t103 t104 t105 t106 t107 t108 t109 t110 t111 t112 t113 t114 t115 t116 t117 t118 t119 t120 t121 t122 t123 t124 t125 t126 t127 t128 t129 t130 t131 t135 t136 t137 t138 t139 t140 t141 t142 t143 t144 t145 t146 t147 t148 t149 t150 t151 t152 t153 t154 t155 t156 t157 t158 t159 t160 t161 t162 t163 t164 t165 t166 t167 t168 t169 t170 t171 t172 t173 t174 t175 t176 t177 t178 t179 t180 t181 t182 t183 t184 : Value) {L : Nat} {H0 H : PH L} {w0 w : World} {G : List Grp} {vo : Value} {gb cb : Nat → Nat} {vf : Nat → Value} {vv : Nat → Nat → Value} {N : Nat} {aggs : List (List UInt8)} (h : Ph TG H0 w0 H w aggs.length G vo gb cb vf vv N [] (.slice none 0 0) [] (.slice none 0 0))
    {n : Nat} {r : List (List Val) × Int} (hst : tellG n aggs G [] = some r) (hG : G.length < 1000000000) {ba : Nat} {va : Value} (hba : H ba 0 = some va) (raggs : RepP H (.sl (strs aggs)) va) (hna : aggs.length < 1000000000)
    (Q : Exit → Act → World → Prop) (hQ : ∀ d v c a w, Q (.panic c) (a.put d v) w → Q (.panic c) a w)
    (hK : ∀ (x4 x5 x17 x18 x19 x20 x21 x22 x134 x135 x136 x137 x138 x139 x140 x141 x142 x143 x144 x145 x146 x147 x148 x149 x150 x151 x152 x153 x154 x155 x156 x157 x158 x159 x160 x161 x162 x163 x164 x165 x166 x167 x168 x169 x170 x171 x172 x173 x174 x175 x176 x177 x178 x179 x180 x181 x182 x183 : Value) (H' : PH L) (w' : World) (vu' : Value), r.2 = 0 → Calm H0 w0 H' w' → RepP H' (.nsl (nsRows r.1)) vu' → Q (.exit 4) { tmps := #[t0, t1, t2, .pointer (some ⟨ba, 0, none⟩), x4, x5, t6, t7, t8, t9, t10, t11, t12, t13, t14, vu', t16, x17, x18, x19, x20, x21, x22, t23, t24, t25, t26, t27, t28, t29, t30, t31, t32, t33, t34, t35, t36, t37, t38, t39, t40, t41, t42, t43, t44, t45, t46, t47, t48, t49, t50, t51, t52, t53, t54, t55, t56, t57, t58, t59, t60, t61, t62, t63, t64, t65, t66, t67, t68, t69, t70, t71, t72, t73, t74, t75, t76, t77, t78, t79, t80, t81, t82, t83, t84, t85, t86, t87, t88, t89, t90, t91, t92, t93, t94, t95, t96, t97, t98, t99, t100, t101, t102, t103, t104, t105, t106, t107, t108, t109, t110, t111, t112, t113, t114, t115, t116, t117, t118, t119, t120, t121, t122, t123, t124, t125, t126, t127, t128, t129, t130, t131, vo, .int .i64 (G.length : Int), x134, x135, x136, x137, x138, x139, x140, x141, x142, x143, x144, x145, x146, x147, x148, x149, x150, x151, x152, x153, x154, x155, x156, x157, x158, x159, x160, x161, x162, x163, x164, x165, x166, x167, x168, x169, x170, x171, x172, x173, x174, x175, x176, x177, x178, x179, x180, x181, x182, x183, t184], defers := [] } w')
    (hE : ∀ (x17 x18 x19 x20 x21 x22 x134 x135 x136 x137 x138 x139 x140 x141 x142 x143 x144 x145 x146 x147 x148 x149 x150 x151 x152 x153 x154 x155 x156 x157 x158 x159 x160 x161 x162 x163 x164 x165 x166 x167 x168 x169 x170 x171 x172 x173 x174 x175 x176 x177 x178 x179 x180 x181 x182 x183 x15 : Value) (H' : PH L) (w' : World), r.1 = [] → r.2 ≠ 0 → Calm H0 w0 H' w' → Q .ret { tmps := #[t0, t1, t2, .pointer (some ⟨ba, 0, none⟩), .slice none 0 0, .int .i64 r.2, t6, t7, t8, t9, t10, t11, t12, t13, t14, x15, t16, x17, x18, x19, x20, x21, x22, t23, t24, t25, t26, t27, t28, t29, t30, t31, t32, t33, t34, t35, t36, t37, t38, t39, t40, t41, t42, t43, t44, t45, t46, t47, t48, t49, t50, t51, t52, t53, t54, t55, t56, t57, t58, t59, t60, t61, t62, t63, t64, t65, t66, t67, t68, t69, t70, t71, t72, t73, t74, t75, t76, t77, t78, t79, t80, t81, t82, t83, t84, t85, t86, t87, t88, t89, t90, t91, t92, t93, t94, t95, t96, t97, t98, t99, t100, t101, t102, t103, t104, t105, t106, t107, t108, t109, t110, t111, t112, t113, t114, t115, t116, t117, t118, t119, t120, t121, t122, t123, t124, t125, t126, t127, t128, t129, t130, t131, vo, .int .i64 (G.length : Int), x134, x135, x136, x137, x138, x139, x140, x141, x142, x143, x144, x145, x146, x147, x148, x149, x150, x151, x152, x153, x154, x155, x156, x157, x158, x159, x160, x161, x162, x163, x164, x165, x166, x167, x168, x169, x170, x171, x172, x173, x174, x175, x176, x177, x178, x179, x180, x181, x182, x183, t184], defers := [] } w') :
    (pick [1,1,1,1,1,1,1,0,1,0] (bodyOf Tryz.f8.body)).wp Tryz.prog Q { tmps := #[t0, t1, t2, .pointer (some ⟨ba, 0, none⟩), t4, t5, t6, t7, t8, t9, t10, t11, t12, t13, t14, .slice none 0 0, t16, t17, t18, t19, t20, t21, t22, t23, t24, t25, t26, t27, t28, t29, t30, t31, t32, t33, t34, t35, t36, t37, t38, t39, t40, t41, t42, t43, t44, t45, t46, t47, t48, t49, t50, t51, t52, t53, t54, t55, t56, t57, t58, t59, t60, t61, t62, t63, t64, t65, t66, t67, t68, t69, t70, t71, t72, t73, t74, t75, t76, t77, t78, t79, t80, t81, t82, t83, t84, t85, t86, t87, t88, t89, t90, t91, t92, t93, t94, t95, t96, t97, t98, t99, t100, t101, t102, t103, t104, t105, t106, t107, t108, t109, t110, t111, t112, t113, t114, t115, t116, t117, t118, t119, t120, t121, t122, t123, t124, t125, t126, t127, t128, t129, t130, t131, vo, .int .i64 (G.length : Int), .int .i64 0, t135, t136, t137, t138, t139, t140, t141, t142, t143, t144, t145, t146, t147, t148, t149, t150, t151, t152, t153, t154, t155, t156, t157, t158, t159, t160, t161, t162, t163, t164, t165, t166, t167, t168, t169, t170, t171, t172, t173, t174, t175, t176, t177, t178, t179, t180, t181, t182, t183, t184], defers := [] } w := by
  obtain ⟨po, co, rfl⟩ : ∃ po co, vo = .slice po G.length co := by
    rcases h.fix.ord.2 with ⟨rfl, e⟩ | ⟨g, cap, cur, rfl, _⟩
    · exact ⟨none, 0, by rw [e]⟩
    · exact ⟨_, _, rfl⟩
  obtain ⟨ap, ac, rfl⟩ := sl_form raggs
  rw [strs_length] at *
  obtain ⟨ab, ao, hap, hag⟩ := str_cells raggs
  simp only [pick, bodyOf, Tryz.f8]
  go_loopw [134, 15] (fun v vu wr => ∃ (j : Nat) (outs : List (List Val)) (H1 : PH L), v = .int .i64 (j : Int) ∧ j ≤ G.length ∧ tellG n aggs (G.drop j) outs = some r ∧ PH.le H H1 ∧ Ph TG H0 w0 H1 wr aggs.length G (.slice po G.length co) gb cb vf vv N [] (.slice none 0 0) outs vu) (fun v _ _ => G.length - (intOf' v).toNat)
  case atStart => exact ⟨0, [], H, rfl, Nat.zero_le _, hst, PH.le.refl H, h⟩
  case round =>
    obtain ⟨j, outs, H1, rfl, hjn, hs1, le1, h1⟩ := hrel
    have b0 : (0 : Int) ≤ (j : Int) := by omega
    rcases Nat.lt_or_ge j G.length with hlt | hge
    · obtain ⟨g, hg⟩ : ∃ g, G[j]? = some g := ⟨_, List.getElem?_eq_getElem hlt⟩
      have hd : G.drop j = g :: G.drop (j + 1) := by
        rw [List.drop_eq_getElem_cons hlt, (List.getElem?_eq_some_iff.1 hg).2]
      rw [hd] at hs1
      obtain ⟨q, hq, hs2⟩ := bnd_some hs1
      have b1 : (j : Int) < (G.length : Int) := by omega
      obtain ⟨ob, rfl⟩ : ∃ ob, po = some ⟨ob, 0, none⟩ := by
        rcases h1.fix.ord.2 with ⟨_, e⟩ | ⟨g', cap, cur, e, _⟩
        · omega
        · injection e with e1; exact ⟨g', e1⟩
      have k0 : wr.cell? ⟨ob, j, none⟩ = some (.pointer (some ⟨gb j, 0, none⟩)) := by
        have := h1.fix.ord.cells (g := ob) rfl j (.pointer (some ⟨gb j, 0, none⟩)) (by rw [List.getElem?_map, List.getElem?_range hlt]; rfl)
        rwa [Addr.add_lit, Nat.zero_add] at this
      have k1 := (h1.calm.sat.cell _ _ _ (le1 _ _ _ hba)).1
      go_wp2
      refine tell_row _ _ _ _ _ _ _ _ _ _ _ _ _ _ _ _ _ _ _ _ _ _ _ _ _ _ _ _ _ _ _ _ _ _ _ _ _ _ _ _ _ _ _ _ _ _ _ _ _ _ _ _ _ _ _ _ _ _ _ _ _ _ _ _ _ _ _ _ _ _ _ _ _ _ _ _ _ _ _ _ _ _ _ _ _ _ _ _ _ _ _ _ _ _ _ _ _ _ _ _ _ _ _ _ _ _ _ _ _ _ _ _ _ _ _ _ _ _ _ _ _ _ _ _ _ _ _ _ _ _ _ _ _ _ _ _ _ _ _ _ _ _ _ _ _ _ _ _ _ _ _ _ _ _ _ _ _ _ _ _ _ _ _ _ _ _ _ _ _ _ _ _ _ _ _ _ _ _ _ h1 hg hq hap hna (fun c a hc => le1 _ _ _ (hag c a hc)) _ (fun d v c a w hh => by first | exact hQ d v c a w hh | exact hh) ?_ ?_
      · intro y4 y5 y19 y20 y21 y22 y140 y141 y142 y143 y144 y145 y146 y147 y148 y149 y150 y151 y152 y153 y154 y155 y156 y157 y158 y159 y160 y161 y162 y163 y164 y165 y166 y167 y168 y169 y170 y171 y172 y173 y174 y175 y176 y177 y178 H2 w2 vr2 hq0 le2 h2
        rw [if_pos hq0] at hs2
        obtain ⟨z1, hs2⟩ := chk_some hs2
        have z1 := of_decide_eq_true z1
        obtain ⟨rp, rc, hvr⟩ : ∃ rp rc, vr2 = .slice rp q.1.length rc := by
          obtain ⟨xs, x1, _⟩ := h2.row
          rcases x1.2 with ⟨rfl, e⟩ | ⟨g, cap, cur, rfl, _⟩
          · exact ⟨none, 0, by rw [e]⟩
          · exact ⟨_, _, rfl⟩
        subst hvr
        have h3 := h2.below (w' := w2.alloc (.cells #[.slice rp q.1.length rc] 34)) ((Below.refl _ w2).alloc (Nat.le_refl _) _)
        obtain ⟨ys, y1, y2⟩ := h3.out
        have hN := h3.low.2.2
        obtain ⟨i0, hi0, hz0, hz1, hz2⟩ := info34
        go_wp2_with (refine wpList_append_lies _ rfl _ _ 22 rfl N 34 i0 _ 1 24 Tryz.underlying22 hi0 hz0 hz1 hz2 rfl (by omega) _ outs.length ys (by rfl) y1 ⟨w2.heap.size, 0, none⟩ 1 1 [.slice rp q.1.length rc] (by rfl) (by rfl) (cells_new w2 _ _) (by simp [Value.oneCell']) (by omega) (by unfold maxLen; omega) (by omega) (by simpa using hN) _ rfl ?_
                     intro gg cap w3 hown hgrow hat hlt3)
        go_roundw
        case rel =>
          obtain ⟨H3, le3, h4⟩ := h3.done ⟨y1, y2⟩ hown hgrow (hat.imp (fun e => e.symm) fun e => by rw [e]; rfl)
          exact ⟨j + 1, outs ++ [q.1], H3, by congr 1 <;> omega, hlt, hs2, fun b o u hu => le3 _ _ _ (le2 _ _ _ (le1 _ _ _ hu)), h4⟩
        case measure => simp [intOf']; omega
      · intro y19 y20 y21 y22 y140 y141 y142 y143 y144 y145 y146 y147 y148 y149 y150 y151 y152 y153 y154 y155 y156 y157 y158 y159 y160 y161 y162 y163 y164 y165 y166 y167 y168 y169 y170 y171 y172 y173 y174 y175 y176 y177 y178 y18 H2 w2 hq0 c2
        rw [if_neg hq0] at hs2
        obtain rfl := Option.some.inj hs2
        exact hE _ _ _ _ _ _ _ _ _ _ _ _ _ _ _ _ _ _ _ _ _ _ _ _ _ _ _ _ _ _ _ _ _ _ _ _ _ _ _ _ _ _ _ _ _ _ _ _ _ _ _ _ _ _ _ _ _ H2 _ rfl hq0 c2
    · obtain rfl : j = G.length := by omega
      rw [List.drop_length] at hs1
      obtain rfl := Option.some.inj hs1
      go_wp2
      obtain ⟨H2, c2, r2⟩ := h1.finish
      exact hK _ _ _ _ _ _ _ _ _ _ _ _ _ _ _ _ _ _ _ _ _ _ _ _ _ _ _ _ _ _ _ _ _ _ _ _ _ _ _ _ _ _ _ _ _ _ _ _ _ _ _ _ _ _ _ _ _ _ H2 _ _ trivial c2 r2
end W
end
section
open Go Go.Proofs Ax Go.RowKit
namespace Ax
mutual
theorem RepP.low {Lw L : Nat} (hL : Lw ≤ L) {H : Nat → Nat → Option Value} : ∀ {p : PV} {v : Value}, RepP (Lw := L) H p v → RepP (Lw := Lw) H p v
  | .bool _, _, x | .int .., _, x | .str _, _, x | .nilsl, _, x | .nilp, _, x | .fn _, _, x | .nilfn, _, x | .nili, _, x | .nilmap, _, x => by
    simp only [RepP] at *; exact x
  | .agg cs, v, x => by
    simp only [RepP] at *
    obtain ⟨vs, e, r⟩ := x
    exact ⟨vs, e, RepL.low hL r⟩
  | .tup cs, v, x => by
    simp only [RepP] at *
    obtain ⟨vs, e, r⟩ := x
    exact ⟨vs, e, RepL.low hL r⟩
  | .nsl rows, v, x => by
    simp only [RepP] at *
    rcases x with ⟨rfl, x⟩ | ⟨b, o, z, cap, e, l, ⟨q, q'⟩, r⟩
    · exact .inl ⟨rfl, x⟩
    · exact .inr ⟨b, o, z, cap, e, l, ⟨Nat.le_trans hL q, q'⟩, RepR.low hL r⟩
  | .sl rows, v, x => by
    simp only [RepP] at *
    rcases x with ⟨rfl, x⟩ | ⟨b, o, z, cap, e, l, r⟩
    · exact .inl ⟨rfl, x⟩
    · exact .inr ⟨b, o, z, cap, e, l, RepR.low hL r⟩
  | .ifc t p, v, x => by
    simp only [RepP] at *
    obtain ⟨u, e, r⟩ := x
    exact ⟨u, e, RepP.low hL r⟩
  | .hp row, v, x => by
    simp only [RepP] at *
    obtain ⟨b, o, vs, e, r, c⟩ := x
    exact ⟨b, o, vs, e, RepL.low hL r, c⟩
  | .clo f cs, v, x => by
    simp only [RepP] at *
    obtain ⟨vs, e, r⟩ := x
    exact ⟨vs, e, RepL.low hL r⟩
  | .bfn f cs, v, x => by
    simp only [RepP] at *
    obtain ⟨vs, e, r⟩ := x
    exact ⟨vs, e, RepL.low hL r⟩
  | .ifo n t p, v, x => by
    simp only [RepP] at *
    rcases x with x | ⟨e, u, e', r⟩
    · exact .inl x
    · exact .inr ⟨e, u, e', RepP.low hL r⟩
theorem RepL.low {Lw L : Nat} (hL : Lw ≤ L) {H : Nat → Nat → Option Value} : ∀ {cs : List PV} {vs : List Value}, RepL (Lw := L) H cs vs → RepL (Lw := Lw) H cs vs
  | [], _, x => by simp only [RepL] at *; exact x
  | c :: cs, vs, x => by
    simp only [RepL] at *
    obtain ⟨v, vs', e, r, rs⟩ := x
    exact ⟨v, vs', e, RepP.low hL r, RepL.low hL rs⟩
theorem RepR.low {Lw L : Nat} (hL : Lw ≤ L) {H : Nat → Nat → Option Value} {b z : Nat} : ∀ {o : Nat} {rows : List (List PV)}, RepR (Lw := L) H b z o rows → RepR (Lw := Lw) H b z o rows
  | _, [], _ => by simp only [RepR]
  | o, r :: rs, x => by
    simp only [RepR] at *
    obtain ⟨e, ⟨vs, q, c⟩, x'⟩ := x
    exact ⟨e, ⟨vs, RepL.low hL q, c⟩, RepR.low hL x'⟩
end
end Ax
namespace W
def F_rows_Group (n : Nat) (l : List (List Val)) (aggs : List (List UInt8)) : Option (List (List Val) × Int) :=
  bnd (F_slices_Contains_string_string n aggs []) fun b =>
  chk (decide (aggs.length < 1000000000)) (chk (decide (l.length < 1000000000)) (
  bnd (rowsG n aggs l (if b = true then [] else [⟨[], [], List.replicate aggs.length []⟩])) fun G =>
  chk (decide (G.length < 1000000000)) (tellG n aggs G [])))
def boxH {Lw : Nat} (H : PH Lw) (ba : Nat) (v : Value) : Nat → Nat → Option Value := fun b o => if b = ba ∧ o = 0 then some v else H b o
theorem box_calm {Lw : Nat} {H : PH Lw} {w : World} (s : SatH H w) {v : Value} (h1 : v.cells = #[v]) (ho : v.oneCell' = true) (t : TypeId) : Calm H w (boxH H w.heap.size v : PH Lw) (w.alloc (.cells #[v] t)) := by
  have hle : PH.le H (boxH H w.heap.size v : PH Lw) := fun b o u hu => by
    unfold boxH
    rw [if_neg (fun e => by have := s.lt hu; omega)]
    exact hu
  refine ⟨hle, ⟨fun b o u hu => ?_, s.root.mono hle, Nat.le_trans s.low (by simp), fun b o u hu hb => ?_⟩, ⟨rfl, rfl, rfl, by simp, fun b hb _ => heap_alloc_old _ _ hb⟩, fun b o u hu => ?_⟩
  · unfold boxH at hu
    split at hu
    · rename_i e
      obtain ⟨rfl, rfl⟩ := e
      obtain rfl := Option.some.inj hu
      exact ⟨by rw [World.cell?_alloc_new]; rfl, ho⟩
    · obtain ⟨c1, c2⟩ := s.cell b o u hu
      exact ⟨(World.cell?_alloc_some w ⟨b, o, none⟩ _ (by rw [c1]; rfl)).trans c1, c2⟩
  · unfold boxH at hu
    split at hu
    · rename_i e
      obtain ⟨rfl, rfl⟩ := e
      exact NotFrozen.of (alloc_at w _ _ rfl)
    · exact (s.nf b o u hu hb).block (heap_alloc_old _ _ (s.lt hu))
  · unfold boxH at hu
    split at hu
    · rename_i e; exact .inr (by omega)
    · exact .inl ⟨u, hu⟩
theorem sat_top {La : Nat} {H : PH La} {w : World} (s : SatH H w) : SatH (Lw := w.heap.size) H w :=
  ⟨s.cell, s.root, Nat.le_refl _, fun b o v hv hb => absurd (s.lt hv) (by omega)⟩
theorem calm_top {Lw : Nat} {H H' : Nat → Nat → Option Value} {w w' : World} (s : SatH (Lw := Lw) H w) (c : Calm (Lw := w.heap.size) H w H' w') : Calm (Lw := Lw) H w H' w' :=
  ⟨c.le, ⟨c.sat.cell, c.sat.root, Nat.le_trans s.low c.keep.size, fun b o v hv hb => by
    rcases Nat.lt_or_ge b w.heap.size with h | h
    · rcases c.new b o v hv with ⟨u, hu⟩ | h2
      · obtain rfl : u = v := Option.some.inj ((c.le b o u hu).symm.trans hv)
        exact (s.nf b o u hu hb).block (c.keep.block b h id)
      · omega
    · exact c.sat.nf b o v hv h⟩, c.keep, c.new⟩
theorem wk_slRows : ∀ l : List (List Val), wkR (slRows valC l) = slRows valC l
  | [] => rfl
  | r :: l => by
    show wkR ([.sl (Val.rows r)] :: slRows valC l) = [.sl (Val.rows r)] :: slRows valC l
    simp only [wkR, wkL, wkP, wk_sameR, wk_slRows l]
theorem wk_nsRows : ∀ l : List (List Val), wkR (nsRows l) = slRows valC l
  | [] => rfl
  | r :: l => by
    show wkR ([.nsl (Val.rowsN r)] :: nsRows l) = [.sl (Val.rows r)] :: slRows valC l
    simp only [wkR, wkL, wkP, wk_rows, wk_nsRows l]
theorem rows_cells {L : Nat} {H : PH L} {l : List (List Val)} {rp : Option Addr} {n rc : Nat} (h : RepP H (.sl (slRows valC l)) (.slice rp n rc)) : ∃ rb ro, (l ≠ [] → rp = some ⟨rb, ro, none⟩) ∧ ∀ (c : Nat) (r : List Val), l[c]? = some r → ∃ vr, H rb (ro + c) = some vr ∧ RepP H (.sl (Val.rows r)) vr := by
  simp only [RepP] at h
  rcases h with ⟨e, _⟩ | ⟨b, o, z, cap, e, _, rr⟩
  · have : l = [] := by simpa [slRows] using e
    subst this
    exact ⟨0, 0, fun h => absurd rfl h, fun c x hx => by simp at hx⟩
  · cases e
    refine ⟨b, o, fun _ => rfl, fun c x hx => ?_⟩
    obtain ⟨e1, us, h2, h3⟩ := rr.get (Codec.getN (slC valC) hx)
    have e1 : z = 1 := by simpa [slC] using e1.symm
    subst e1
    simp only [slC, RepL] at h2
    obtain ⟨y, _, rfl, h4, rfl⟩ := h2
    exact ⟨y, by simpa using h3 0 y rfl, h4⟩
set_option maxHeartbeats 16000000 in
set_option maxRecDepth 100000 in
theorem group_call {n : Nat} {l : List (List Val)} {aggs : List (List UInt8)} {r : List (List Val) × Int} (hF : F_rows_Group n l aggs = some r) {Lw : Nat} {H : PH Lw} {w : World} {vl va : Value} (hs : SatH H w) (rl : RepP H (.sl (slRows valC l)) vl) (ra : RepP H (.sl (strs aggs)) va) :
    Calls Tryz.prog 8 #[vl, va] w fun e w' => ∃ (v : Value) (H' : PH Lw), e = .returned v ∧ Calm H w H' w' ∧ RepP H' (.tup [.nsl (nsRows r.1), .int .i64 r.2]) v := by
  obtain ⟨b, hb, hF1⟩ := bnd_some hF
  obtain ⟨y1, hF2⟩ := chk_some hF1
  obtain ⟨y2, hF3⟩ := chk_some hF2
  obtain ⟨G, hG, hF4⟩ := bnd_some hF3
  obtain ⟨y3, hT⟩ := chk_some hF4
  clear hF hF1 hF2 hF3 hF4
  have y1 := of_decide_eq_true y1
  have y2 := of_decide_eq_true y2
  have y3 := of_decide_eq_true y3
  obtain ⟨lp, lc, rfl⟩ := sl_form rl
  obtain ⟨ap, ac, rfl⟩ := sl_form ra
  have hll : (slRows valC l).length = l.length := by simp [slRows]
  rw [hll] at rl ⊢
  rw [strs_length] at ra ⊢
  have cB := box_calm hs (v := .slice ap aggs.length ac) rfl rfl 23
  generalize hHB : (boxH H w.heap.size (.slice ap aggs.length ac) : Nat → Nat → Option Value) = HB at cB
  have hba : HB w.heap.size 0 = some (.slice ap aggs.length ac) := by rw [← hHB]; simp [boxH]
  generalize hw1 : w.alloc (.cells #[.slice ap aggs.length ac] 23) = w1 at cB
  have hz1 : w1.heap.size = w.heap.size + 1 := by rw [← hw1]; simp
  have s1 := sat_top cB.sat
  have rl1 : RepP (Lw := w1.heap.size) HB (.sl (slRows valC l)) (.slice lp l.length lc) := by
    have := RepP.base (L' := w1.heap.size) (H' := HB) (fun b o v hv => hv) (RepP.mono cB.le rl)
    simpa only [wkP, wk_slRows] using this
  have ra1 : RepP (Lw := w1.heap.size) HB (.sl (strs aggs)) (.slice ap aggs.length ac) := by
    have := RepP.base (L' := w1.heap.size) (H' := HB) (fun b o v hv => hv) (RepP.mono cB.le ra)
    simpa only [wkP, wk_strs] using this
  obtain ⟨lb, lo, hlp, hrow⟩ := rows_cells rl1
  have k2 : Below w1.heap.size w1 ((w1.alloc (.map #[] 0)).alloc (.cells #[.map (some w1.heap.size), .slice none 0 0] 57)) := ⟨rfl, rfl, rfl, by simp; omega, fun b hb => (heap_alloc_old _ _ (by simp; omega)).trans (heap_alloc_old _ _ hb)⟩
  have c2 := calm_under s1 k2
  have g2 := GSt.start (P := Tryz.prog) (T := TG) (na := aggs.length) c2.sat (sb := w1.heap.size + 1) (mb := w1.heap.size) (alloc_at _ _ _ (by simp)) ((World.ownsMap_made w1 _ _ _).alloc _) ⟨by omega, fun o u hu => by have := s1.lt hu; omega⟩ ⟨Nat.le_refl _, fun o u hu => by have := s1.lt hu; omega⟩ (by simp) (by simp; omega) (by omega)
  generalize hw2 : (w1.alloc (.map #[] 0)).alloc (.cells #[.map (some w1.heap.size), .slice none 0 0] 57) = w2 at c2 g2
  have m22 := (F_slices_Contains_string_string_ok n _ _ _ hb).calls (fun _ _ => Tryz.call22 _ _) c2.sat (vs := [.slice ap aggs.length ac, .string ⟨#[]⟩]) (by simp only [RepL]; exact ⟨_, _, rfl, ra1, _, _, rfl, by simp only [RepP], rfl⟩)
  have q0 := (c2.sat.cell _ _ _ hba).1
  have hlow : Lw ≤ w1.heap.size := cB.sat.low
  clear hz1
  cases b
  · rw [if_neg (by decide)] at hG
    go_enter Tryz.func8, Tryz.ntmps8
    go_wp2_with (first
      | (go_at_call 19; refine (newSeats_call w1).mono ?_; rintro e w2' ⟨rfl, rfl⟩; rw [hw2])
      | (go_at_call 22; refine m22.mono ?_; rintro e w3 ⟨vb, H3, rfl, c3, r3⟩; simp only [RepP] at r3; subst r3
         have g3 := g2.calm c3
         have cc3 := c2.trans c3
         have q3 := (c3.sat.cell _ _ _ (c3.le _ _ _ hba)).1)
      | (go_at_call 20; refine (maker_call none 0 0 w.heap.size w3).mono ?_; rintro e w4 ⟨rfl, rfl⟩))
    have k4 := (Below.refl w3.heap.size w3).alloc (Nat.le_refl _) (.cells #[.slice none 0 0] 34)
    have g4 := g3.below k4
    have d0 := (g4.sat.cell _ _ _ (c3.le _ _ _ hba)).1
    have d1 : (w3.alloc (.cells #[.slice none 0 0] 34)).cell? ⟨w3.heap.size, 0, none⟩ = some (.slice none 0 0) := by rw [World.cell?_alloc_new]; rfl
    have m23 := seat_one g4 (by simp) [] (by simp) w3.heap.size w.heap.size none ap 0 0 ac d1 d0 (by omega) (by simp) (r := []) (by simp only [RepP]; exact .inl ⟨rfl, .inl trivial⟩)
    have e23 : seatG aggs.length [] [] [] = [⟨[], [], List.replicate aggs.length []⟩] := if_neg (by simp)
    rw [e23] at m23
    refine m23.mono ?_
    rintro e w5 ⟨bb, rfl, ⟨vo5, gb5, cb5, vf5, vv5, lab5, g5⟩, hk5⟩
    have cc5 := calm_kept (cc3.trans (calm_under g3.sat k4)) hk5 (Nat.le_refl _) g5.sat
    go_wp2
    refine rows_loop _ _ _ _ _ _ _ _ _ _ _ _ _ _ _ _ _ _ _ _ _ _ _ _ _ _ _ _ _ _ _ _ _ _ _ _ _ _ _ _ _ _ _ _ _ _ _ _ _ _ _ _ _ _ _ _ _ _ _ _ _ _ _ _ _ _ _ _ _ _ _ _ _ _ _ _ _ _ _ _ _ _ _ _ _ _ _ _ _ _ _ _ _ _ _ _ _ _ _ _ _ _ _ _ _ _ _ _ _ _ _ _ _ _ _ _ _ _ _ _ _ _ _ _ _ _ _ _ _ _ _ _ _ _ _ _ _ _ _ _ _ _ _ _ _ _ _ _ _ _ _ _ _ _ _ _ _ _ _ _ _ _ _ _ _ _ _ _ _ _ _ _ _ _ _ _ _ _ g5 (by simp) cc5 (Nat.le_refl _) hG hlp y2 (c3.le _ _ _ hba) (RepP.mono c3.le ra1) y1 (fun j r hj => by
      obtain ⟨vr, h1, h2⟩ := hrow j r hj
      exact ⟨vr, c3.le _ _ _ h1, RepP.mono c3.le h2⟩) _ (fun d v c a w hh => by obtain ⟨_, _, _, h, _⟩ := hh; cases h) ?_
    intro y10 y11 y12 y13 y14 y35 y36 y37 y38 y39 y40 y41 y42 y43 y44 y45 y46 y47 y48 y49 y50 y51 y52 y53 y54 y55 y56 y57 y58 y59 y60 y61 y62 y63 y64 y65 y66 y67 y68 y69 y70 y71 y72 y73 y74 y75 y76 y77 y78 y79 y80 y81 y82 y83 y84 y85 y86 y87 y88 y89 y90 y91 y92 y93 y94 y95 y96 y97 y98 y99 y100 y101 y102 y103 y104 y105 y106 y107 y108 y109 y110 y111 y112 y113 y114 y115 y116 y117 y118 y119 y120 y121 y122 y123 y124 y125 y126 y127 y128 y129 y130 y131 H6 w6 le6 c6 ⟨vo6, gb6, cb6, vf6, vv6, lab6, g6⟩
    have m25 := end_call g6
    obtain ⟨po, co, hvo⟩ : ∃ po co, vo6 = .slice po G.length co := by
      rcases g6.ord.2 with ⟨rfl, e⟩ | ⟨g, cap, cur, rfl, _⟩
      · exact ⟨none, 0, by rw [e]⟩
      · exact ⟨_, _, rfl⟩
    subst hvo
    go_wp2_with (go_at_call 25; refine m25.mono ?_; rintro e w7 ⟨rfl, hgr⟩
                 obtain ⟨H7, le7, c7, fix7⟩ := g6.fix (Nat.le_refl _) c6 hgr
                 have ph := Ph.start fix7 (Nat.le_refl _) c7)
    refine tell_all _ _ _ _ _ _ _ _ _ _ _ _ _ _ _ _ _ _ _ _ _ _ _ _ _ _ _ _ _ _ _ _ _ _ _ _ _ _ _ _ _ _ _ _ _ _ _ _ _ _ _ _ _ _ _ _ _ _ _ _ _ _ _ _ _ _ _ _ _ _ _ _ _ _ _ _ _ _ _ _ _ _ _ _ _ _ _ _ _ _ _ _ _ _ _ _ _ _ _ _ _ _ _ _ _ _ _ _ _ _ _ _ _ _ _ _ _ _ _ _ _ _ _ _ _ _ _ _ _ _ _ _ _ _ _ _ _ _ _ _ _ _ _ _ _ _ _ _ _ _ _ _ _ _ _ _ _ _ _ _ _ _ _ _ _ _ _ _ _ _ _ _ _ _ _ _ _ _ _ _ ph hT y3 (le7 _ _ _ (le6 _ _ _ (c3.le _ _ _ hba))) (RepP.mono le7 (RepP.mono le6 (RepP.mono c3.le ra1))) y1 _ (fun d v c a w hh => by obtain ⟨_, _, _, h, _⟩ := hh; cases h) ?_ ?_
    · intro z4 z5 z17 z18 z19 z20 z21 z22 z134 z135 z136 z137 z138 z139 z140 z141 z142 z143 z144 z145 z146 z147 z148 z149 z150 z151 z152 z153 z154 z155 z156 z157 z158 z159 z160 z161 z162 z163 z164 z165 z166 z167 z168 z169 z170 z171 z172 z173 z174 z175 z176 z177 z178 z179 z180 z181 z182 z183 H8 w8 vu hr0 c8 r8
      go_wp2
      go_ret2
      refine ⟨_, H8, rfl, cB.trans (calm_top cB.sat c8), ?_⟩
      simp only [RepP, RepL]
      exact ⟨[vu, .int .i64 0], rfl, _, _, rfl, RepP.low hlow r8, _, _, rfl, by rw [hr0], rfl⟩
    · intro z17 z18 z19 z20 z21 z22 z134 z135 z136 z137 z138 z139 z140 z141 z142 z143 z144 z145 z146 z147 z148 z149 z150 z151 z152 z153 z154 z155 z156 z157 z158 z159 z160 z161 z162 z163 z164 z165 z166 z167 z168 z169 z170 z171 z172 z173 z174 z175 z176 z177 z178 z179 z180 z181 z182 z183 y15 H8 w8 hr1 hr2 c8
      go_ret2
      refine ⟨_, H8, rfl, cB.trans (calm_top cB.sat c8), ?_⟩
      simp only [RepP, RepL]
      exact ⟨[.slice none 0 0, .int .i64 r.2], rfl, _, _, rfl, .inl ⟨by rw [hr1]; rfl, .inl rfl⟩, _, _, rfl, rfl, rfl⟩
  · rw [if_pos rfl] at hG
    go_enter Tryz.func8, Tryz.ntmps8
    go_wp2_with (first
      | (go_at_call 19; refine (newSeats_call w1).mono ?_; rintro e w2' ⟨rfl, rfl⟩; rw [hw2])
      | (go_at_call 22; refine m22.mono ?_; rintro e w3 ⟨vb, H3, rfl, c3, r3⟩; simp only [RepP] at r3; subst r3
         have g3 := g2.calm c3
         have cc3 := c2.trans c3
         have q3 := (c3.sat.cell _ _ _ (c3.le _ _ _ hba)).1))
    refine rows_loop _ _ _ _ _ _ _ _ _ _ _ _ _ _ _ _ _ _ _ _ _ _ _ _ _ _ _ _ _ _ _ _ _ _ _ _ _ _ _ _ _ _ _ _ _ _ _ _ _ _ _ _ _ _ _ _ _ _ _ _ _ _ _ _ _ _ _ _ _ _ _ _ _ _ _ _ _ _ _ _ _ _ _ _ _ _ _ _ _ _ _ _ _ _ _ _ _ _ _ _ _ _ _ _ _ _ _ _ _ _ _ _ _ _ _ _ _ _ _ _ _ _ _ _ _ _ _ _ _ _ _ _ _ _ _ _ _ _ _ _ _ _ _ _ _ _ _ _ _ _ _ _ _ _ _ _ _ _ _ _ _ _ _ _ _ _ _ _ _ _ _ _ _ _ _ _ _ _ g3 (by simp) cc3 (Nat.le_refl _) hG hlp y2 (c3.le _ _ _ hba) (RepP.mono c3.le ra1) y1 (fun j r hj => by
      obtain ⟨vr, h1, h2⟩ := hrow j r hj
      exact ⟨vr, c3.le _ _ _ h1, RepP.mono c3.le h2⟩) _ (fun d v c a w hh => by obtain ⟨_, _, _, h, _⟩ := hh; cases h) ?_
    intro y10 y11 y12 y13 y14 y35 y36 y37 y38 y39 y40 y41 y42 y43 y44 y45 y46 y47 y48 y49 y50 y51 y52 y53 y54 y55 y56 y57 y58 y59 y60 y61 y62 y63 y64 y65 y66 y67 y68 y69 y70 y71 y72 y73 y74 y75 y76 y77 y78 y79 y80 y81 y82 y83 y84 y85 y86 y87 y88 y89 y90 y91 y92 y93 y94 y95 y96 y97 y98 y99 y100 y101 y102 y103 y104 y105 y106 y107 y108 y109 y110 y111 y112 y113 y114 y115 y116 y117 y118 y119 y120 y121 y122 y123 y124 y125 y126 y127 y128 y129 y130 y131 H6 w6 le6 c6 ⟨vo6, gb6, cb6, vf6, vv6, lab6, g6⟩
    have m25 := end_call g6
    obtain ⟨po, co, hvo⟩ : ∃ po co, vo6 = .slice po G.length co := by
      rcases g6.ord.2 with ⟨rfl, e⟩ | ⟨g, cap, cur, rfl, _⟩
      · exact ⟨none, 0, by rw [e]⟩
      · exact ⟨_, _, rfl⟩
    subst hvo
    go_wp2_with (go_at_call 25; refine m25.mono ?_; rintro e w7 ⟨rfl, hgr⟩
                 obtain ⟨H7, le7, c7, fix7⟩ := g6.fix (Nat.le_refl _) c6 hgr
                 have ph := Ph.start fix7 (Nat.le_refl _) c7)
    refine tell_all _ _ _ _ _ _ _ _ _ _ _ _ _ _ _ _ _ _ _ _ _ _ _ _ _ _ _ _ _ _ _ _ _ _ _ _ _ _ _ _ _ _ _ _ _ _ _ _ _ _ _ _ _ _ _ _ _ _ _ _ _ _ _ _ _ _ _ _ _ _ _ _ _ _ _ _ _ _ _ _ _ _ _ _ _ _ _ _ _ _ _ _ _ _ _ _ _ _ _ _ _ _ _ _ _ _ _ _ _ _ _ _ _ _ _ _ _ _ _ _ _ _ _ _ _ _ _ _ _ _ _ _ _ _ _ _ _ _ _ _ _ _ _ _ _ _ _ _ _ _ _ _ _ _ _ _ _ _ _ _ _ _ _ _ _ _ _ _ _ _ _ _ _ _ _ _ _ _ _ _ ph hT y3 (le7 _ _ _ (le6 _ _ _ (c3.le _ _ _ hba))) (RepP.mono le7 (RepP.mono le6 (RepP.mono c3.le ra1))) y1 _ (fun d v c a w hh => by obtain ⟨_, _, _, h, _⟩ := hh; cases h) ?_ ?_
    · intro z4 z5 z17 z18 z19 z20 z21 z22 z134 z135 z136 z137 z138 z139 z140 z141 z142 z143 z144 z145 z146 z147 z148 z149 z150 z151 z152 z153 z154 z155 z156 z157 z158 z159 z160 z161 z162 z163 z164 z165 z166 z167 z168 z169 z170 z171 z172 z173 z174 z175 z176 z177 z178 z179 z180 z181 z182 z183 H8 w8 vu hr0 c8 r8
      go_wp2
      go_ret2
      refine ⟨_, H8, rfl, cB.trans (calm_top cB.sat c8), ?_⟩
      simp only [RepP, RepL]
      exact ⟨[vu, .int .i64 0], rfl, _, _, rfl, RepP.low hlow r8, _, _, rfl, by rw [hr0], rfl⟩
    · intro z17 z18 z19 z20 z21 z22 z134 z135 z136 z137 z138 z139 z140 z141 z142 z143 z144 z145 z146 z147 z148 z149 z150 z151 z152 z153 z154 z155 z156 z157 z158 z159 z160 z161 z162 z163 z164 z165 z166 z167 z168 z169 z170 z171 z172 z173 z174 z175 z176 z177 z178 z179 z180 z181 z182 z183 y15 H8 w8 hr1 hr2 c8
      go_ret2
      refine ⟨_, H8, rfl, cB.trans (calm_top cB.sat c8), ?_⟩
      simp only [RepP, RepL]
      exact ⟨[.slice none 0 0, .int .i64 r.2], rfl, _, _, rfl, .inl ⟨by rw [hr1]; rfl, .inl rfl⟩, _, _, rfl, rfl, rfl⟩
set_option maxRecDepth 100000 in
theorem F_rows_Group_new (n : Nat) : ∀ (l : List (List Val)) (aggs : List (List UInt8)) (r : List (List Val) × Int), F_rows_Group n l aggs = some r → CallsF Tryz.prog 8 [PV.sl (slRows valC l), PV.sl (strs aggs)] (PV.tup [.nsl (nsRows r.1), .int .i64 r.2]) := by
  intro l aggs r h Lw H w vs hs rl
  simp only [RepL] at rl
  obtain ⟨vl, _, rfl, rl, va, _, rfl, ra, rfl⟩ := rl
  show CallUpon Tryz.prog H w _ ((callFunc 8 #[vl, va]).run Tryz.prog w)
  rw [Tryz.call8]
  exact ⟨rfl, group_call h hs rl ra⟩
abbrev R_F_rows_Group (r : List (List Val) × Int) : PV := PV.tup [PV.sl (slRows valC r.1), PV.int .i64 r.2]
set_option maxRecDepth 100000 in
theorem F_rows_Group_ok (n : Nat) : ∀ (l : List (List Val)) (aggs : List (List UInt8)) (r : List (List Val) × Int), F_rows_Group n l aggs = some r → CallsF Tryz.prog 8 [PV.sl (slRows valC l), PV.sl (strs aggs)] (R_F_rows_Group r) := by
  intro l aggs r h Lw H w vs hs rl
  simp only [RepL] at rl
  obtain ⟨vl, _, rfl, rl, va, _, rfl, ra, rfl⟩ := rl
  show CallUpon Tryz.prog H w _ ((callFunc 8 #[vl, va]).run Tryz.prog w)
  rw [Tryz.call8]
  refine ⟨rfl, (group_call h hs rl ra).mono ?_⟩
  rintro e w' ⟨v, H', rfl, c, q⟩
  refine ⟨v, H', rfl, c, ?_⟩
  have := RepP.base (L' := Lw) (H' := H') (fun _ _ _ h => h) q
  simpa only [wkP, wkL, wk_nsRows] using this
end W
end
section
open Go Go.Proofs Ax
namespace W
abbrev R_F_rows_all (r:List (List Val)):PV:=PV.sl (slRows valC r)
def F_rows_all_l1 (n:Nat) (x1:List (List Val)):(List (List Val) × Int → Option (List (List Val))) → List (List Val) × Int → Option (List (List Val)):=fun nx1 (x2,x3) =>
 bif (decide (x3 < (((slRows valC x1).length:Nat):Int))) then (
 bnd (idx x1 x3) fun x4 =>
 bnd (F_rows_copied n x4) fun x5 =>
 chk (decide ((slRows valC (x2 ++ [x5])).length * 24 ≤ 140737488355328)) (
 nx1 ((x2 ++ [x5]),(IntKind.i64.wrap (x3 + (1:Int))))))
else (
 some x2)
def F_rows_all (n:Nat)  (x1:List (List Val)):Option (List (List Val)) :=
 loopK (F_rows_all_l1 n x1) n (([]:List _),(0:Int))
set_option maxRecDepth 100000 in
theorem F_rows_all_ok (n:Nat)   : ∀ (x1:List (List Val)) (r:List (List Val)),F_rows_all n x1 = some r → CallsF Tryz.prog 42 [PV.sl (slRows valC x1)] (R_F_rows_all r):=by
 intro x1 r h
 unfold F_rows_all at h
 refine CallsF.of_vcN mixed (fun _ _=>Tryz.call42 _ _) Tryz.func42 (by kernel_rfl) (inl:=[1000000]) ?_
 conv=>whnf
 refine LoopA.fn [1000000] (S:=List (List Val) × Int) (fun (x2,x3)=>[(3,.tsl 0 (slRows valC x2)),(6,.p (.sl (slRows valC x1))),(7,.p (.int .i64 (((slRows valC x1).length:Nat):Int))),(8,.p (.int .i64 x3))]) (fun (x2,x3)=>[.tail 34 1 (slRows valC x2).length]) (B:=F_rows_all_l1 n x1) h ⟨[0],[0],⟨rfl,rfl,rfl,rfl⟩,by repeat (first | exact trivial | exact .inl rfl | exact rfl | exact List.not_mem_nil | (refine .inr ?_) | (refine ⟨?_,?_⟩) | exact List.length_set.symm | decide),by repeat (first | exact trivial | exact .inl rfl | exact rfl | exact List.not_mem_nil | (refine .inr ?_) | (refine ⟨?_,?_⟩) | exact List.length_set.symm | decide)⟩ ?_
 intro nx1 st h
 obtain ⟨x2,x3⟩:=st
 unfold F_rows_all_l1 at h
 conv=>whnf
 refine ⟨fun hc=>?_,fun hc=>?_⟩
 ·replace h:=cond_t h hc
  conv=>whnf
  replace h:=bnd_some h
  obtain ⟨x4,h3,h⟩:=h
  refine ⟨_,Codec.at_ (slC valC) h3,?_⟩
  conv=>whnf
  replace h:=bnd_some h
  obtain ⟨x5,h2,h⟩:=h
  refine ⟨_,(F_rows_copied_ok n _  _ h2),?_⟩
  conv=>whnf
  refine ⟨Codec.one (slC valC) [x5],slRows valC [x5],.inl rfl,?_⟩
  conv=>whnf
  rw [show slRows valC x2 ++ slRows valC [x5] = slRows valC (x2 ++ [x5]) from Codec.append (slC valC) x2 [x5]]
  conv=>whnf
  obtain ⟨h1,h⟩:=chk_some h
  refine ⟨⟨Codec.wide (slC valC) (x2 ++ [x5]),of_decide_eq_true h1,len_ok h1 (by decide)⟩,?_⟩
  conv=>whnf
  refine ⟨⟨rfl,rfl,rfl⟩,?_⟩
  conv=>whnf
  exact ⟨((x2 ++ [x5]),(IntKind.i64.wrap (x3 + (1:Int)))),h,⟨[1],[],⟨rfl,rfl,rfl,rfl⟩,by repeat (first | exact trivial | exact .inl rfl | exact rfl | exact List.not_mem_nil | (refine .inr ?_) | (refine ⟨?_,?_⟩) | exact List.length_set.symm | decide),by repeat (first | exact trivial | exact .inl rfl | exact rfl | exact List.not_mem_nil | (refine .inr ?_) | (refine ⟨?_,?_⟩) | exact List.length_set.symm | decide)⟩⟩
 ·replace h:=cond_f h hc
  obtain rfl:=Option.some.inj h
  conv=>whnf
  repeat (first | exact rfl | exact trivial | refine ⟨?_,?_⟩)
abbrev R_F_rows_Slice (r:List (List Val)):PV:=PV.sl (slRows valC r)
def F_rows_Slice (n:Nat)  (x1:List (List Val)) (x2:Int) (x3:Int):Option (List (List Val)) :=
 bnd (natI (bif decide ((bif decide ((((slRows valC x1).length:Nat):Int) < x2) then (((slRows valC x1).length:Nat):Int) else x2) > (0:Int)) then (bif decide ((((slRows valC x1).length:Nat):Int) < x2) then (((slRows valC x1).length:Nat):Int) else x2) else (0:Int))) fun x4 =>
 chk (decide (x4 ≤ (slRows valC x1).length)) (
 bnd (natI (bif decide ((bif decide ((((slRows valC (x1.drop x4)).length:Nat):Int) < x3) then (((slRows valC (x1.drop x4)).length:Nat):Int) else x3) > (0:Int)) then (bif decide ((((slRows valC (x1.drop x4)).length:Nat):Int) < x3) then (((slRows valC (x1.drop x4)).length:Nat):Int) else x3) else (0:Int))) fun x5 =>
 chk (decide (x5 ≤ (slRows valC (x1.drop x4)).length)) (
 bnd (F_rows_all n ((x1.drop x4).take x5)) fun x6 =>
 some x6))
set_option maxRecDepth 100000 in
theorem F_rows_Slice_ok (n:Nat)   : ∀ (x1:List (List Val)) (x2:Int) (x3:Int) (r:List (List Val)),F_rows_Slice n x1 x2 x3 = some r → CallsF Tryz.prog 16 [PV.sl (slRows valC x1),PV.int .i64 x2,PV.int .i64 x3] (R_F_rows_Slice r):=by
 intro x1 x2 x3 r h
 unfold F_rows_Slice at h
 refine CallsF.of_vcN mixed (fun _ _=>Tryz.call16 _ _) Tryz.func16 (by kernel_rfl) (inl:=[1000000]) ?_
 conv=>whnf
 replace h:=bnd_some h
 obtain ⟨x4,h5,h⟩:=h
 refine ⟨_,natI_some h5,?_⟩
 conv=>whnf
 obtain ⟨h4,h⟩:=chk_some h
 refine ⟨⟨(of_decide_eq_true h4:(x4 ≤ (slRows valC x1).length)),Nat.le_refl _,Codec.wide (slC valC) x1⟩,?_⟩
 first | rw [show List.drop x4 (List.take ((slRows valC x1).length) (slRows valC x1)) = slRows valC (x1.drop x4) from Codec.dropAll (slC valC) x1 x4] | rw [show List.drop x4 (List.take (((slC valC).rows x1).length) ((slC valC).rows x1)) = slRows valC (x1.drop x4) from Codec.dropAll (slC valC) x1 x4]
 conv=>whnf
 replace h:=bnd_some h
 obtain ⟨x5,h3,h⟩:=h
 refine ⟨_,natI_some h3,?_⟩
 conv=>whnf
 obtain ⟨h2,h⟩:=chk_some h
 refine ⟨⟨Nat.zero_le _,(of_decide_eq_true h2:(x5 ≤ (slRows valC (x1.drop x4)).length)),Codec.wide (slC valC) (x1.drop x4)⟩,?_⟩
 first | rw [show List.drop 0 (List.take x5 (slRows valC (x1.drop x4))) = slRows valC ((x1.drop x4).take x5) from Codec.take (slC valC) (x1.drop x4) x5] | rw [show List.drop 0 (List.take x5 ((slC valC).rows (x1.drop x4))) = slRows valC ((x1.drop x4).take x5) from Codec.take (slC valC) (x1.drop x4) x5]
 conv=>whnf
 replace h:=bnd_some h
 obtain ⟨x6,h1,h⟩:=h
 refine ⟨_,(F_rows_all_ok n _  _ h1),?_⟩
 obtain rfl:=Option.some.inj h
 conv=>whnf
 repeat (first | exact rfl | exact trivial | refine ⟨?_,?_⟩)
abbrev R_F_L17_works (r:Bool):PV:=PV.bool r
def F_L17_works (n:Nat)   : Option (Bool) :=
 bnd (F_L17_whole n (2:Int)) fun ⟨x1,x2,x3,x4,x5,x6⟩ =>
 bnd (F_L17_whole n (1:Int)) fun ⟨x7,x8,x9,x10,x11,x12⟩ =>
 bnd (F_L17_whole n (2:Int)) fun ⟨x13,x14,x15,x16,x17,x18⟩ =>
 bnd (F_rows_Unique n [[Val.mk x1 x2 x3 x4 x5 x6],[Val.mk x7 x8 x9 x10 x11 x12],[Val.mk x13 x14 x15 x16 x17 x18]]) fun x19 =>
 bnd (F_rows_Sort n [[Val.mk x1 x2 x3 x4 x5 x6],[Val.mk x7 x8 x9 x10 x11 x12],[Val.mk x13 x14 x15 x16 x17 x18]] [[Val.mk x1 x2 x3 x4 x5 x6],[Val.mk x7 x8 x9 x10 x11 x12],[Val.mk x13 x14 x15 x16 x17 x18]] [false]) fun x20 =>
 bnd (F_rows_Group n [[Val.mk x1 x2 x3 x4 x5 x6],[Val.mk x7 x8 x9 x10 x11 x12],[Val.mk x13 x14 x15 x16 x17 x18]] [([115,117,109]:List UInt8)]) fun ⟨x21,x22⟩ =>
 bnd (gsome ((((slRows valC x19).length:Nat):Int) == (2:Int)) (idx x19 (0:Int))) fun x23 =>
 bnd (gsome ((((slRows valC x19).length:Nat):Int) == (2:Int)) (idx x23 (0:Int))) fun ⟨x24,x25,x26,x27,x28,x29⟩ =>
 bnd (gsome (bif (bif ((((slRows valC x19).length:Nat):Int) == (2:Int)) then (x26 == (2:Int)) else false) then ((((slRows valC x20).length:Nat):Int) == (3:Int)) else false) (idx x20 (0:Int))) fun x30 =>
 bnd (gsome (bif (bif ((((slRows valC x19).length:Nat):Int) == (2:Int)) then (x26 == (2:Int)) else false) then ((((slRows valC x20).length:Nat):Int) == (3:Int)) else false) (idx x30 (0:Int))) fun ⟨x31,x32,x33,x34,x35,x36⟩ =>
 bnd (gsome (bif (bif (bif (bif (bif ((((slRows valC x19).length:Nat):Int) == (2:Int)) then (x26 == (2:Int)) else false) then ((((slRows valC x20).length:Nat):Int) == (3:Int)) else false) then (x33 == (1:Int)) else false) then (x22 == (0:Int)) else false) then ((((slRows valC x21).length:Nat):Int) == (1:Int)) else false) (idx x21 (0:Int))) fun x37 =>
 bnd (gsome (bif (bif (bif (bif (bif ((((slRows valC x19).length:Nat):Int) == (2:Int)) then (x26 == (2:Int)) else false) then ((((slRows valC x20).length:Nat):Int) == (3:Int)) else false) then (x33 == (1:Int)) else false) then (x22 == (0:Int)) else false) then ((((slRows valC x21).length:Nat):Int) == (1:Int)) else false) (idx x37 (0:Int))) fun ⟨x38,x39,x40,x41,x42,x43⟩ =>
 bnd (gsome (bif (bif (bif (bif (bif (bif ((((slRows valC x19).length:Nat):Int) == (2:Int)) then (x26 == (2:Int)) else false) then ((((slRows valC x20).length:Nat):Int) == (3:Int)) else false) then (x33 == (1:Int)) else false) then (x22 == (0:Int)) else false) then ((((slRows valC x21).length:Nat):Int) == (1:Int)) else false) then (x40 == (5:Int)) else false) (F_rows_Slice n [[Val.mk x1 x2 x3 x4 x5 x6],[Val.mk x7 x8 x9 x10 x11 x12],[Val.mk x13 x14 x15 x16 x17 x18]] (1:Int) (1:Int))) fun x44 =>
 some (bif (bif (bif (bif (bif (bif (bif ((((slRows valC x19).length:Nat):Int) == (2:Int)) then (x26 == (2:Int)) else false) then ((((slRows valC x20).length:Nat):Int) == (3:Int)) else false) then (x33 == (1:Int)) else false) then (x22 == (0:Int)) else false) then ((((slRows valC x21).length:Nat):Int) == (1:Int)) else false) then (x40 == (5:Int)) else false) then ((((slRows valC x44).length:Nat):Int) == (1:Int)) else false)
set_option maxHeartbeats 20000000 in
set_option maxRecDepth 100000 in
theorem F_L17_works_ok (n:Nat)   : ∀  (r:Bool),F_L17_works n  = some r → CallsF Tryz.prog 6 [] (R_F_L17_works r):=by
 intro  r h
 unfold F_L17_works at h
 refine CallsF.of_vcN mixed (fun _ _=>Tryz.call6 _ _) Tryz.func6 (by kernel_rfl) (inl:=[1000000]) ?_
 conv=>whnf
 replace h:=bnd_some h
 obtain ⟨⟨x1,x2,x3,x4,x5,x6⟩,h13,h⟩:=h
 refine ⟨_,(F_L17_whole_ok n _  _ h13),?_⟩
 conv=>whnf
 refine ⟨Codec.one valC [Val.mk x1 x2 x3 x4 x5 x6],Val.rows [Val.mk x1 x2 x3 x4 x5 x6],.inl rfl,?_⟩
 conv=>whnf
 replace h:=bnd_some h
 obtain ⟨⟨x7,x8,x9,x10,x11,x12⟩,h12,h⟩:=h
 refine ⟨_,(F_L17_whole_ok n _  _ h12),?_⟩
 conv=>whnf
 refine ⟨Codec.one valC [Val.mk x7 x8 x9 x10 x11 x12],Val.rows [Val.mk x7 x8 x9 x10 x11 x12],.inl rfl,?_⟩
 conv=>whnf
 replace h:=bnd_some h
 obtain ⟨⟨x13,x14,x15,x16,x17,x18⟩,h11,h⟩:=h
 refine ⟨_,(F_L17_whole_ok n _  _ h11),?_⟩
 conv=>whnf
 refine ⟨Codec.one valC [Val.mk x13 x14 x15 x16 x17 x18],Val.rows [Val.mk x13 x14 x15 x16 x17 x18],.inl rfl,?_⟩
 conv=>whnf
 refine ⟨Codec.one (slC valC) [[Val.mk x1 x2 x3 x4 x5 x6],[Val.mk x7 x8 x9 x10 x11 x12],[Val.mk x13 x14 x15 x16 x17 x18]],slRows valC [[Val.mk x1 x2 x3 x4 x5 x6],[Val.mk x7 x8 x9 x10 x11 x12],[Val.mk x13 x14 x15 x16 x17 x18]],.inl rfl,?_⟩
 conv=>whnf
 replace h:=bnd_some h
 obtain ⟨x19,h10,h⟩:=h
 refine ⟨_,(F_rows_Unique_ok n _  _ h10),?_⟩
 conv=>whnf
 refine ⟨Codec.one boolC [false],boolRows [false],.inl rfl,?_⟩
 conv=>whnf
 replace h:=bnd_some h
 obtain ⟨x20,h9,h⟩:=h
 refine ⟨_,(F_rows_Sort_ok n _ _ _  _ h9),?_⟩
 conv=>whnf
 refine ⟨Codec.one strC [([115,117,109]:List UInt8)],strs [([115,117,109]:List UInt8)],.inl rfl,?_⟩
 conv=>whnf
 replace h:=bnd_some h
 obtain ⟨⟨x21,x22⟩,h8,h⟩:=h
 refine ⟨_,(F_rows_Group_ok n _ _  _ h8),?_⟩
 conv=>whnf
 refine And.intro (fun h=>h) ?_
 conv=>whnf
 replace h:=bnd_some h
 obtain ⟨x23,h7,h⟩:=h
 refine ⟨_,fun hg=>Codec.at_ (slC valC) (gsome_some h7 hg),?_⟩
 conv=>whnf
 iterate 2 (refine And.intro (fun h=>h) ?_)
 conv=>whnf
 replace h:=bnd_some h
 obtain ⟨⟨x24,x25,x26,x27,x28,x29⟩,h6,h⟩:=h
 refine ⟨_,fun hg=>Codec.at_ valC (gsome_some h6 hg),?_⟩
 conv=>whnf
 iterate 8 (refine And.intro (fun h=>h) ?_)
 conv=>whnf
 replace h:=bnd_some h
 obtain ⟨x30,h5,h⟩:=h
 refine ⟨_,fun hg=>Codec.at_ (slC valC) (gsome_some h5 hg),?_⟩
 conv=>whnf
 iterate 2 (refine And.intro (fun h=>h) ?_)
 conv=>whnf
 replace h:=bnd_some h
 obtain ⟨⟨x31,x32,x33,x34,x35,x36⟩,h4,h⟩:=h
 refine ⟨_,fun hg=>Codec.at_ valC (gsome_some h4 hg),?_⟩
 conv=>whnf
 iterate 10 (refine And.intro (fun h=>h) ?_)
 conv=>whnf
 replace h:=bnd_some h
 obtain ⟨x37,h3,h⟩:=h
 refine ⟨_,fun hg=>Codec.at_ (slC valC) (gsome_some h3 hg),?_⟩
 conv=>whnf
 iterate 2 (refine And.intro (fun h=>h) ?_)
 conv=>whnf
 replace h:=bnd_some h
 obtain ⟨⟨x38,x39,x40,x41,x42,x43⟩,h2,h⟩:=h
 refine ⟨_,fun hg=>Codec.at_ valC (gsome_some h2 hg),?_⟩
 conv=>whnf
 iterate 5 (refine And.intro (fun h=>h) ?_)
 conv=>whnf
 replace h:=bnd_some h
 obtain ⟨x44,h1,h⟩:=h
 refine ⟨_,fun hg=>(F_rows_Slice_ok n _ _ _  _ (gsome_some h1 hg)),?_⟩
 conv=>whnf
 iterate 3 (refine And.intro (fun h=>h) ?_)
 obtain rfl:=Option.some.inj h
 conv=>whnf
 repeat (first | exact rfl | exact trivial | refine ⟨?_,?_⟩)
abbrev R_F_R03_Copy (r:Val):PV:=PV.agg (valC.cells r)
def F_R03_Copy_l1 (n:Nat) (x5:List Val) (g17:Val → Option (Val)) (x6:List (List UInt8)) (x1:Int) (x2:Bool) (x3:Int) (x4:List UInt8):(List Val × Int → Option (Val)) → List Val × Int → Option (Val):=fun nx1 (x7,x8) =>
 bif (decide (x8 < (((Val.rows x5).length:Nat):Int))) then (
 bnd (idx x5 x8) fun ⟨x9,x10,x11,x12,x13,x14⟩ =>
 bnd (g17 (Val.mk x9 x10 x11 x12 x13 x14)) fun ⟨x15,x16,x17,x18,x19,x20⟩ =>
 chk (decide ((Val.rows (x7 ++ [Val.mk x15 x16 x17 x18 x19 x20])).length * 88 ≤ 140737488355328)) (
 nx1 ((x7 ++ [Val.mk x15 x16 x17 x18 x19 x20]),(IntKind.i64.wrap (x8 + (1:Int))))))
else (
 chk (decide ((strs x6).length * 16 ≤ 140737488355328)) (
 some (Val.mk x1 x2 x3 x4 x7 x6)))
def BF_R03_Copy (n:Nat) (g17:Val → Option (Val)) (a0_:Val):Option (Val) :=
 match a0_ with
 | ⟨x1,x2,x3,x4,x5,x6⟩ =>
 loopK (F_R03_Copy_l1 n x5 g17 x6 x1 x2 x3 x4) n (([]:List _),(0:Int))
set_option maxRecDepth 100000 in
theorem BF_R03_Copy_ok (n:Nat) (g17:Val → Option (Val)) (g17_ok:∀ (a0_:Val) (r:Val),g17 a0_ = some r → CallsF Tryz.prog 17 [PV.agg (valC.cells a0_)] (R_F_R03_Copy r)):∀ (a0_:Val) (r:Val),BF_R03_Copy n g17 a0_ = some r → CallsF Tryz.prog 17 [PV.agg (valC.cells a0_)] (R_F_R03_Copy r):=by
 intro a0_ r h
 obtain ⟨x1,x2,x3,x4,x5,x6⟩:=a0_
 unfold BF_R03_Copy at h
 refine CallsF.of_vcN mixed (fun _ _=>Tryz.call17 _ _) Tryz.func17 (by kernel_rfl) (inl:=[1000000]) ?_
 conv=>whnf
 refine LoopA.fn [1000000] (S:=List Val × Int) (fun (x7,x8)=>[(1,.ptr 0 0),(2,.ptr 1 0),(3,.tsl 2 (Val.rows x7)),(4,.p (.int .i64 x8))]) (fun (x7,x8)=>[.box 36 [.p (.int .i64 x1),.p (.bool x2),.p (.int .i64 x3),.p (.str x4),.p (.sl (Val.rows x5)),.p (.sl (strs x6))],.box 36 [.p (.int .i64 (0:Int)),.p (.bool false),.p (.int .i64 (0:Int)),.p (.str ([]:List UInt8)),.p (.nilsl),.p (.nilsl)],.tail 36 6 (Val.rows x7).length]) (B:=F_R03_Copy_l1 n x5 g17 x6 x1 x2 x3 x4) h ⟨[0,1,0],[2],⟨rfl,rfl,rfl,rfl⟩,by repeat (first | exact trivial | exact .inl rfl | exact rfl | exact List.not_mem_nil | (refine .inr ?_) | (refine ⟨?_,?_⟩) | exact List.length_set.symm | decide),by repeat (first | exact trivial | exact .inl rfl | exact rfl | exact List.not_mem_nil | (refine .inr ?_) | (refine ⟨?_,?_⟩) | exact List.length_set.symm | decide)⟩ ?_
 intro nx1 st h
 obtain ⟨x7,x8⟩:=st
 unfold F_R03_Copy_l1 at h
 conv=>whnf
 refine ⟨fun hc=>?_,fun hc=>?_⟩
 ·replace h:=cond_t h hc
  conv=>whnf
  replace h:=bnd_some h
  obtain ⟨⟨x9,x10,x11,x12,x13,x14⟩,h3,h⟩:=h
  refine ⟨_,Codec.at_ valC h3,?_⟩
  conv=>whnf
  replace h:=bnd_some h
  obtain ⟨⟨x15,x16,x17,x18,x19,x20⟩,h2,h⟩:=h
  refine ⟨_,(g17_ok _  _ h2),?_⟩
  conv=>whnf
  refine ⟨Codec.one valC [Val.mk x15 x16 x17 x18 x19 x20],Val.rows [Val.mk x15 x16 x17 x18 x19 x20],.inl rfl,?_⟩
  conv=>whnf
  rw [show Val.rows x7 ++ Val.rows [Val.mk x15 x16 x17 x18 x19 x20] = Val.rows (x7 ++ [Val.mk x15 x16 x17 x18 x19 x20]) from Codec.append valC x7 [Val.mk x15 x16 x17 x18 x19 x20]]
  conv=>whnf
  obtain ⟨h1,h⟩:=chk_some h
  refine ⟨⟨Codec.wide valC (x7 ++ [Val.mk x15 x16 x17 x18 x19 x20]),of_decide_eq_true h1,len_ok h1 (by decide)⟩,?_⟩
  conv=>whnf
  refine ⟨⟨rfl,rfl,rfl⟩,?_⟩
  conv=>whnf
  exact ⟨((x7 ++ [Val.mk x15 x16 x17 x18 x19 x20]),(IntKind.i64.wrap (x8 + (1:Int)))),h,⟨[0,1,3],[],⟨rfl,rfl,rfl,rfl⟩,by repeat (first | exact trivial | exact .inl rfl | exact rfl | exact List.not_mem_nil | (refine .inr ?_) | (refine ⟨?_,?_⟩) | exact List.length_set.symm | decide),by repeat (first | exact trivial | exact .inl rfl | exact rfl | exact List.not_mem_nil | (refine .inr ?_) | (refine ⟨?_,?_⟩) | exact List.length_set.symm | decide)⟩⟩
 ·replace h:=cond_f h hc
  conv=>whnf
  obtain ⟨h4,h⟩:=chk_some h
  refine ⟨⟨Codec.wide strC x6,of_decide_eq_true h4,len_ok h4 (by decide)⟩,?_⟩
  obtain rfl:=Option.some.inj h
  conv=>whnf
  repeat (first | exact rfl | exact trivial | refine ⟨?_,?_⟩)
def F_R03_Copy:Nat → Val → Option (Val)
 | 0=>fun _=>none
 | n + 1=>BF_R03_Copy n (F_R03_Copy n)
set_option maxRecDepth 100000 in
theorem F_R03_Copy_all (n:Nat):(∀ (a0_:Val) (r:Val),F_R03_Copy n a0_ = some r → CallsF Tryz.prog 17 [PV.agg (valC.cells a0_)] (R_F_R03_Copy r)):=by
 induction n with
 | zero=>exact (by intros; rename_i h; cases h)
 | succ n ih =>
  have hg17:=ih
  exact BF_R03_Copy_ok n (F_R03_Copy n) hg17
set_option maxRecDepth 100000 in
theorem F_R03_Copy_ok (n:Nat):∀ (a0_:Val) (r:Val),F_R03_Copy n a0_ = some r → CallsF Tryz.prog 17 [PV.agg (valC.cells a0_)] (R_F_R03_Copy r):=(F_R03_Copy_all n)
abbrev R_F_R17_Copy (r:List (List Val)):PV:=PV.sl (slRows valC r)
def F_R17_Copy_l2 (n:Nat) (x1:List (List Val)) (x3:Int) (x2:List (List Val)) (nx1:List (List Val) × Int → Option (List (List Val))):(List Val × Int → Option (List (List Val))) → List Val × Int → Option (List (List Val)):=fun nx2 (x4,x5) =>
 bnd (idx x1 x3) fun x6 =>
 bif (decide (x5 < (((Val.rows x6).length:Nat):Int))) then (
 bnd (idx x1 x3) fun x7 =>
 bnd (idx x7 x5) fun ⟨x8,x9,x10,x11,x12,x13⟩ =>
 bnd (F_R03_Copy n (Val.mk x8 x9 x10 x11 x12 x13)) fun ⟨x14,x15,x16,x17,x18,x19⟩ =>
 chk (decide ((Val.rows (x4 ++ [Val.mk x14 x15 x16 x17 x18 x19])).length * 88 ≤ 140737488355328)) (
 nx2 ((x4 ++ [Val.mk x14 x15 x16 x17 x18 x19]),(IntKind.i64.wrap (x5 + (1:Int))))))
else (
 chk (decide ((slRows valC (x2 ++ [x4])).length * 24 ≤ 140737488355328)) (
 nx1 ((x2 ++ [x4]),(IntKind.i64.wrap (x3 + (1:Int))))))
def F_R17_Copy_l1 (n:Nat) (x1:List (List Val)):(List (List Val) × Int → Option (List (List Val))) → List (List Val) × Int → Option (List (List Val)):=fun nx1 (x2,x3) =>
 bif (decide (x3 < (((slRows valC x1).length:Nat):Int))) then (
 loopK (F_R17_Copy_l2 n x1 x3 x2 nx1) n (([]:List _),(0:Int)))
else (
 some x2)
def F_R17_Copy (n:Nat)  (x1:List (List Val)):Option (List (List Val)) :=
 loopK (F_R17_Copy_l1 n x1) n (([]:List _),(0:Int))
set_option maxRecDepth 100000 in
theorem F_R17_Copy_ok (n:Nat)   : ∀ (x1:List (List Val)) (r:List (List Val)),F_R17_Copy n x1 = some r → CallsF Tryz.prog 7 [PV.sl (slRows valC x1)] (R_F_R17_Copy r):=by
 intro x1 r h
 unfold F_R17_Copy at h
 refine CallsF.of_vcN mixed (fun _ _=>Tryz.call7 _ _) Tryz.func7 (by kernel_rfl) (inl:=[1000000]) ?_
 conv=>whnf
 refine LoopA.fn [1000000] (S:=List (List Val) × Int) (fun (x2,x3)=>[(0,.p (.sl (slRows valC x1))),(3,.tsl 0 (slRows valC x2)),(4,.p (.int .i64 x3))]) (fun (x2,x3)=>[.tail 34 1 (slRows valC x2).length]) (B:=F_R17_Copy_l1 n x1) h ⟨[0],[0],⟨rfl,rfl,rfl,rfl⟩,by repeat (first | exact trivial | exact .inl rfl | exact rfl | exact List.not_mem_nil | (refine .inr ?_) | (refine ⟨?_,?_⟩) | exact List.length_set.symm | decide),by repeat (first | exact trivial | exact .inl rfl | exact rfl | exact List.not_mem_nil | (refine .inr ?_) | (refine ⟨?_,?_⟩) | exact List.length_set.symm | decide)⟩ ?_
 intro nx1 st h
 obtain ⟨x2,x3⟩:=st
 unfold F_R17_Copy_l1 at h
 conv=>whnf
 refine ⟨fun hc=>?_,fun hc=>?_⟩
 ·replace h:=cond_t h hc
  conv=>whnf
  refine LoopA.fn [1000000] (S:=List Val × Int) (fun (x4,x5)=>[(0,.p (.sl (slRows valC x1))),(3,.tsl 0 (slRows valC x2)),(4,.p (.int .i64 x3)),(5,.tsl 1 (Val.rows x4)),(6,.p (.int .i64 x5))]) (fun (x4,x5)=>[.tail 34 1 (slRows valC x2).length,.tail 36 6 (Val.rows x4).length]) (B:=F_R17_Copy_l2 n x1 x3 x2 nx1) h ⟨[0,0],[1],⟨rfl,rfl,rfl,rfl⟩,by repeat (first | exact trivial | exact .inl rfl | exact rfl | exact List.not_mem_nil | (refine .inr ?_) | (refine ⟨?_,?_⟩) | exact List.length_set.symm | decide),by repeat (first | exact trivial | exact .inl rfl | exact rfl | exact List.not_mem_nil | (refine .inr ?_) | (refine ⟨?_,?_⟩) | exact List.length_set.symm | decide)⟩ ?_
  intro nx2 st h
  obtain ⟨x4,x5⟩:=st
  unfold F_R17_Copy_l2 at h
  conv=>whnf
  replace h:=bnd_some h
  obtain ⟨x6,h6,h⟩:=h
  refine ⟨_,Codec.at_ (slC valC) h6,?_⟩
  conv=>whnf
  refine ⟨fun hc=>?_,fun hc=>?_⟩
  ·replace h:=cond_t h hc
   conv=>whnf
   replace h:=bnd_some h
   obtain ⟨x7,h4,h⟩:=h
   refine ⟨_,Codec.at_ (slC valC) h4,?_⟩
   conv=>whnf
   replace h:=bnd_some h
   obtain ⟨⟨x8,x9,x10,x11,x12,x13⟩,h3,h⟩:=h
   refine ⟨_,Codec.at_ valC h3,?_⟩
   conv=>whnf
   replace h:=bnd_some h
   obtain ⟨⟨x14,x15,x16,x17,x18,x19⟩,h2,h⟩:=h
   refine ⟨_,(F_R03_Copy_ok n _  _ h2),?_⟩
   conv=>whnf
   refine ⟨Codec.one valC [Val.mk x14 x15 x16 x17 x18 x19],Val.rows [Val.mk x14 x15 x16 x17 x18 x19],.inl rfl,?_⟩
   conv=>whnf
   rw [show Val.rows x4 ++ Val.rows [Val.mk x14 x15 x16 x17 x18 x19] = Val.rows (x4 ++ [Val.mk x14 x15 x16 x17 x18 x19]) from Codec.append valC x4 [Val.mk x14 x15 x16 x17 x18 x19]]
   conv=>whnf
   obtain ⟨h1,h⟩:=chk_some h
   refine ⟨⟨Codec.wide valC (x4 ++ [Val.mk x14 x15 x16 x17 x18 x19]),of_decide_eq_true h1,len_ok h1 (by decide)⟩,?_⟩
   conv=>whnf
   refine ⟨⟨rfl,rfl,rfl⟩,?_⟩
   conv=>whnf
   exact ⟨((x4 ++ [Val.mk x14 x15 x16 x17 x18 x19]),(IntKind.i64.wrap (x5 + (1:Int)))),h,⟨[0,2],[],⟨rfl,rfl,rfl,rfl⟩,by repeat (first | exact trivial | exact .inl rfl | exact rfl | exact List.not_mem_nil | (refine .inr ?_) | (refine ⟨?_,?_⟩) | exact List.length_set.symm | decide),by repeat (first | exact trivial | exact .inl rfl | exact rfl | exact List.not_mem_nil | (refine .inr ?_) | (refine ⟨?_,?_⟩) | exact List.length_set.symm | decide)⟩⟩
  ·replace h:=cond_f h hc
   conv=>whnf
   refine ⟨Codec.one (slC valC) [x4],slRows valC [x4],.inl rfl,?_⟩
   conv=>whnf
   rw [show slRows valC x2 ++ slRows valC [x4] = slRows valC (x2 ++ [x4]) from Codec.append (slC valC) x2 [x4]]
   conv=>whnf
   obtain ⟨h5,h⟩:=chk_some h
   refine ⟨⟨Codec.wide (slC valC) (x2 ++ [x4]),of_decide_eq_true h5,len_ok h5 (by decide)⟩,?_⟩
   conv=>whnf
   refine ⟨⟨rfl,rfl,rfl⟩,?_⟩
   conv=>whnf
   exact ⟨((x2 ++ [x4]),(IntKind.i64.wrap (x3 + (1:Int)))),h,⟨[2],[],⟨rfl,rfl,rfl,rfl⟩,by repeat (first | exact trivial | exact .inl rfl | exact rfl | exact List.not_mem_nil | (refine .inr ?_) | (refine ⟨?_,?_⟩) | exact List.length_set.symm | decide),by repeat (first | exact trivial | exact .inl rfl | exact rfl | exact List.not_mem_nil | (refine .inr ?_) | (refine ⟨?_,?_⟩) | exact List.length_set.symm | decide)⟩⟩
 ·replace h:=cond_f h hc
  obtain rfl:=Option.some.inj h
  conv=>whnf
  repeat (first | exact rfl | exact trivial | refine ⟨?_,?_⟩)
abbrev R_F_R17_keys (r:List Val):PV:=PV.sl (Val.rows r)
def F_R17_keys_k3 (n:Nat) (nx1:List Val × Int → Option (List Val)) (x4:Int):List Val → Option (List Val):=fun x5 =>
 nx1 (x5,(IntKind.i64.wrap (x4 + (1:Int))))
def F_R17_keys_l1 (n:Nat) (x2:List (List UInt8)) (x1:List Val):(List Val × Int → Option (List Val)) → List Val × Int → Option (List Val):=fun nx1 (x3,x4) =>
 bif (decide (x4 < (((strs x2).length:Nat):Int))) then (
 bnd (idx x2 x4) fun x6 =>
 bif (x6 == ([]:List UInt8)) then (
 bnd (idx x1 x4) fun ⟨x7,x8,x9,x10,x11,x12⟩ =>
 chk (decide ((Val.rows (x3 ++ [Val.mk x7 x8 x9 x10 x11 x12])).length * 88 ≤ 140737488355328)) (
 F_R17_keys_k3 n nx1 x4 (x3 ++ [Val.mk x7 x8 x9 x10 x11 x12])))
else (
 F_R17_keys_k3 n nx1 x4 x3))
else (
 some x3)
def F_R17_keys (n:Nat)  (x1:List Val) (x2:List (List UInt8)):Option (List Val) :=
 loopK (F_R17_keys_l1 n x2 x1) n (([]:List _),(0:Int))
set_option maxRecDepth 100000 in
theorem F_R17_keys_ok (n:Nat)   : ∀ (x1:List Val) (x2:List (List UInt8)) (r:List Val),F_R17_keys n x1 x2 = some r → CallsF Tryz.prog 28 [PV.sl (Val.rows x1),PV.sl (strs x2)] (R_F_R17_keys r):=by
 intro x1 x2 r h
 unfold F_R17_keys at h
 refine CallsF.of_vcN mixed (fun _ _=>Tryz.call28 _ _) Tryz.func28 (by kernel_rfl) (inl:=[1000000]) ?_
 conv=>whnf
 refine LoopA.fn [1000000] (S:=List Val × Int) (fun (x3,x4)=>[(0,.p (.sl (Val.rows x1))),(1,.p (.sl (strs x2))),(5,.tsl 0 (Val.rows x3)),(6,.p (.int .i64 x4))]) (fun (x3,x4)=>[.tail 36 6 (Val.rows x3).length]) (B:=F_R17_keys_l1 n x2 x1) h ⟨[0],[0],⟨rfl,rfl,rfl,rfl⟩,by repeat (first | exact trivial | exact .inl rfl | exact rfl | exact List.not_mem_nil | (refine .inr ?_) | (refine ⟨?_,?_⟩) | exact List.length_set.symm | decide),by repeat (first | exact trivial | exact .inl rfl | exact rfl | exact List.not_mem_nil | (refine .inr ?_) | (refine ⟨?_,?_⟩) | exact List.length_set.symm | decide)⟩ ?_
 intro nx1 st h
 obtain ⟨x3,x4⟩:=st
 unfold F_R17_keys_l1 at h
 conv=>whnf
 refine ⟨fun hc=>?_,fun hc=>?_⟩
 ·replace h:=cond_t h hc
  conv=>whnf
  refine SeqA.cut (S:=List Val) (fun x5=>[(0,.p (.sl (Val.rows x1))),(1,.p (.sl (strs x2))),(5,.tsl 0 (Val.rows x5)),(6,.p (.int .i64 x4))]) (fun x5=>[.tail 36 6 (Val.rows x5).length]) (F_R17_keys_k3 n nx1 x4) (r:=r) ?_ ?_
  ·intro x5 h
   unfold F_R17_keys_k3 at h
   conv=>whnf
   exact ⟨(x5,(IntKind.i64.wrap (x4 + (1:Int)))),h,⟨[0],[],⟨rfl,rfl,rfl,rfl⟩,by repeat (first | exact trivial | exact .inl rfl | exact rfl | exact List.not_mem_nil | (refine .inr ?_) | (refine ⟨?_,?_⟩) | exact List.length_set.symm | decide),by repeat (first | exact trivial | exact .inl rfl | exact rfl | exact List.not_mem_nil | (refine .inr ?_) | (refine ⟨?_,?_⟩) | exact List.length_set.symm | decide)⟩⟩
  ·conv=>whnf
   replace h:=bnd_some h
   obtain ⟨x6,h3,h⟩:=h
   refine ⟨_,Codec.at_ strC h3,?_⟩
   conv=>whnf
   refine ⟨fun hc=>?_,fun hc=>?_⟩
   ·replace h:=cond_t h hc
    conv=>whnf
    replace h:=bnd_some h
    obtain ⟨⟨x7,x8,x9,x10,x11,x12⟩,h2,h⟩:=h
    refine ⟨_,Codec.at_ valC h2,?_⟩
    conv=>whnf
    refine ⟨Codec.one valC [Val.mk x7 x8 x9 x10 x11 x12],Val.rows [Val.mk x7 x8 x9 x10 x11 x12],.inl rfl,?_⟩
    conv=>whnf
    rw [show Val.rows x3 ++ Val.rows [Val.mk x7 x8 x9 x10 x11 x12] = Val.rows (x3 ++ [Val.mk x7 x8 x9 x10 x11 x12]) from Codec.append valC x3 [Val.mk x7 x8 x9 x10 x11 x12]]
    conv=>whnf
    obtain ⟨h1,h⟩:=chk_some h
    refine ⟨⟨Codec.wide valC (x3 ++ [Val.mk x7 x8 x9 x10 x11 x12]),of_decide_eq_true h1,len_ok h1 (by decide)⟩,?_⟩
    conv=>whnf
    refine ⟨⟨rfl,rfl,rfl⟩,?_⟩
    conv=>whnf
    exact ⟨(x3 ++ [Val.mk x7 x8 x9 x10 x11 x12]),h,⟨[1],[],⟨rfl,rfl,rfl,rfl⟩,by repeat (first | exact trivial | exact .inl rfl | exact rfl | exact List.not_mem_nil | (refine .inr ?_) | (refine ⟨?_,?_⟩) | exact List.length_set.symm | decide),by repeat (first | exact trivial | exact .inl rfl | exact rfl | exact List.not_mem_nil | (refine .inr ?_) | (refine ⟨?_,?_⟩) | exact List.length_set.symm | decide)⟩⟩
   ·replace h:=cond_f h hc
    conv=>whnf
    exact ⟨x3,h,⟨[0],[],⟨rfl,rfl,rfl,rfl⟩,by repeat (first | exact trivial | exact .inl rfl | exact rfl | exact List.not_mem_nil | (refine .inr ?_) | (refine ⟨?_,?_⟩) | exact List.length_set.symm | decide),by repeat (first | exact trivial | exact .inl rfl | exact rfl | exact List.not_mem_nil | (refine .inr ?_) | (refine ⟨?_,?_⟩) | exact List.length_set.symm | decide)⟩⟩
 ·replace h:=cond_f h hc
  obtain rfl:=Option.some.inj h
  conv=>whnf
  repeat (first | exact rfl | exact trivial | refine ⟨?_,?_⟩)
abbrev R_F_R03_SameNames (r:Bool):PV:=PV.bool r
def F_R03_SameNames_l1 (n:Nat) (x1:List (List UInt8)) (x2:List (List UInt8)):(Int → Option (Bool)) → Int → Option (Bool):=fun nx1 x3 =>
 bif (decide (x3 < (((strs x1).length:Nat):Int))) then (
 bnd (idx x1 x3) fun x4 =>
 bnd (idx x2 x3) fun x5 =>
 bif (!(x4 == x5)) then (
 some false)
else (
 nx1 (IntKind.i64.wrap (x3 + (1:Int)))))
else (
 some true)
def F_R03_SameNames (n:Nat)  (x1:List (List UInt8)) (x2:List (List UInt8)):Option (Bool) :=
 bif ((((strs x1).length:Nat):Int) != (((strs x2).length:Nat):Int)) then (
 some false)
 else (
 loopK (F_R03_SameNames_l1 n x1 x2) n (0:Int))
set_option maxRecDepth 100000 in
theorem F_R03_SameNames_ok (n:Nat)   : ∀ (x1:List (List UInt8)) (x2:List (List UInt8)) (r:Bool),F_R03_SameNames n x1 x2 = some r → CallsF Tryz.prog 65 [PV.sl (strs x1),PV.sl (strs x2)] (R_F_R03_SameNames r):=by
 intro x1 x2 r h
 unfold F_R03_SameNames at h
 refine CallsF.of_vcN mixed (fun _ _=>Tryz.call65 _ _) Tryz.func65 (by kernel_rfl) (inl:=[1000000]) ?_
 conv=>whnf
 refine ⟨fun hc=>?_,fun hc=>?_⟩
 ·replace h:=cond_t h hc
  obtain rfl:=Option.some.inj h
  conv=>whnf
  repeat (first | exact rfl | exact trivial | refine ⟨?_,?_⟩)
 ·replace h:=cond_f h hc
  conv=>whnf
  refine LoopA.fn [1000000] (S:=Int) (fun x3=>[(0,.p (.sl (strs x1))),(1,.p (.sl (strs x2))),(5,.p (.int .i64 x3))]) (fun x3=>[]) (B:=F_R03_SameNames_l1 n x1 x2) h ⟨[],[],⟨rfl,rfl,rfl,rfl⟩,by repeat (first | exact trivial | exact .inl rfl | exact rfl | exact List.not_mem_nil | (refine .inr ?_) | (refine ⟨?_,?_⟩) | exact List.length_set.symm | decide),by repeat (first | exact trivial | exact .inl rfl | exact rfl | exact List.not_mem_nil | (refine .inr ?_) | (refine ⟨?_,?_⟩) | exact List.length_set.symm | decide)⟩ ?_
  intro nx1 x3 h
  unfold F_R03_SameNames_l1 at h
  conv=>whnf
  refine ⟨fun hc=>?_,fun hc=>?_⟩
  ·replace h:=cond_t h hc
   conv=>whnf
   replace h:=bnd_some h
   obtain ⟨x4,h2,h⟩:=h
   refine ⟨_,Codec.at_ strC h2,?_⟩
   conv=>whnf
   replace h:=bnd_some h
   obtain ⟨x5,h1,h⟩:=h
   refine ⟨_,Codec.at_ strC h1,?_⟩
   conv=>whnf
   refine ⟨fun hc=>?_,fun hc=>?_⟩
   ·replace h:=cond_t h hc
    obtain rfl:=Option.some.inj h
    conv=>whnf
    repeat (first | exact rfl | exact trivial | refine ⟨?_,?_⟩)
   ·replace h:=cond_f h hc
    conv=>whnf
    exact ⟨(IntKind.i64.wrap (x3 + (1:Int))),h,⟨[],[],⟨rfl,rfl,rfl,rfl⟩,by repeat (first | exact trivial | exact .inl rfl | exact rfl | exact List.not_mem_nil | (refine .inr ?_) | (refine ⟨?_,?_⟩) | exact List.length_set.symm | decide),by repeat (first | exact trivial | exact .inl rfl | exact rfl | exact List.not_mem_nil | (refine .inr ?_) | (refine ⟨?_,?_⟩) | exact List.length_set.symm | decide)⟩⟩
  ·replace h:=cond_f h hc
   obtain rfl:=Option.some.inj h
   conv=>whnf
   repeat (first | exact rfl | exact trivial | refine ⟨?_,?_⟩)
end W
end
section
open Go Go.Proofs Ax
namespace W
abbrev R_F_R03_SameList (r:Bool):PV:=PV.bool r
def F_R03_SameList_l1 (n:Nat) (x1:List Val) (x2:List Val) (g51:Val → Val → Option (Bool)):(Int → Option (Bool)) → Int → Option (Bool):=fun nx1 x3 =>
 bif (decide (x3 < (((Val.rows x1).length:Nat):Int))) then (
 bnd (idx x1 x3) fun ⟨x4,x5,x6,x7,x8,x9⟩ =>
 bnd (idx x2 x3) fun ⟨x10,x11,x12,x13,x14,x15⟩ =>
 bnd (g51 (Val.mk x4 x5 x6 x7 x8 x9) (Val.mk x10 x11 x12 x13 x14 x15)) fun x16 =>
 bif (!x16) then (
 some false)
else (
 nx1 (IntKind.i64.wrap (x3 + (1:Int)))))
else (
 some true)
def BF_R03_SameList (n:Nat) (g30:(List Val) → (List Val) → Option (Bool)) (g51:Val → Val → Option (Bool)) (x1:List Val) (x2:List Val):Option (Bool) :=
 bif ((((Val.rows x1).length:Nat):Int) != (((Val.rows x2).length:Nat):Int)) then (
 some false)
 else (
 loopK (F_R03_SameList_l1 n x1 x2 g51) n (0:Int))
abbrev R_F_R03_Same (r:Bool):PV:=PV.bool r
def BF_R03_Same (n:Nat) (g30:(List Val) → (List Val) → Option (Bool)) (g51:Val → Val → Option (Bool)) (a0_:Val) (a1_:Val):Option (Bool) :=
 match a0_,a1_ with
 | ⟨x1,x2,x3,x4,x5,x6⟩,⟨x7,x8,x9,x10,x11,x12⟩ =>
 bnd (gsome (bif (bif (bif (x1 == x7) then (x2 == x8) else false) then (x3 == x9) else false) then (x4 == x10) else false) (F_R03_SameNames n x6 x12)) fun x13 =>
 bnd (gsome (bif (bif (bif (bif (x1 == x7) then (x2 == x8) else false) then (x3 == x9) else false) then (x4 == x10) else false) then x13 else false) (g30 x5 x11)) fun x14 =>
 some (bif (bif (bif (bif (bif (x1 == x7) then (x2 == x8) else false) then (x3 == x9) else false) then (x4 == x10) else false) then x13 else false) then x14 else false)
set_option maxRecDepth 100000 in
theorem BF_R03_SameList_ok (n:Nat) (g30:(List Val) → (List Val) → Option (Bool)) (g51:Val → Val → Option (Bool)) (g30_ok:∀ (x1:List Val) (x2:List Val) (r:Bool),g30 x1 x2 = some r → CallsF Tryz.prog 30 [PV.sl (Val.rows x1),PV.sl (Val.rows x2)] (R_F_R03_SameList r)) (g51_ok:∀ (a0_:Val) (a1_:Val) (r:Bool),g51 a0_ a1_ = some r → CallsF Tryz.prog 51 [PV.agg (valC.cells a0_),PV.agg (valC.cells a1_)] (R_F_R03_Same r)):∀ (x1:List Val) (x2:List Val) (r:Bool),BF_R03_SameList n g30 g51 x1 x2 = some r → CallsF Tryz.prog 30 [PV.sl (Val.rows x1),PV.sl (Val.rows x2)] (R_F_R03_SameList r):=by
 intro x1 x2 r h
 unfold BF_R03_SameList at h
 refine CallsF.of_vcN mixed (fun _ _=>Tryz.call30 _ _) Tryz.func30 (by kernel_rfl) (inl:=[1000000]) ?_
 conv=>whnf
 refine ⟨fun hc=>?_,fun hc=>?_⟩
 ·replace h:=cond_t h hc
  obtain rfl:=Option.some.inj h
  conv=>whnf
  repeat (first | exact rfl | exact trivial | refine ⟨?_,?_⟩)
 ·replace h:=cond_f h hc
  conv=>whnf
  refine LoopA.fn [1000000] (S:=Int) (fun x3=>[(0,.p (.sl (Val.rows x1))),(1,.p (.sl (Val.rows x2))),(5,.p (.int .i64 x3))]) (fun x3=>[]) (B:=F_R03_SameList_l1 n x1 x2 g51) h ⟨[],[],⟨rfl,rfl,rfl,rfl⟩,by repeat (first | exact trivial | exact .inl rfl | exact rfl | exact List.not_mem_nil | (refine .inr ?_) | (refine ⟨?_,?_⟩) | exact List.length_set.symm | decide),by repeat (first | exact trivial | exact .inl rfl | exact rfl | exact List.not_mem_nil | (refine .inr ?_) | (refine ⟨?_,?_⟩) | exact List.length_set.symm | decide)⟩ ?_
  intro nx1 x3 h
  unfold F_R03_SameList_l1 at h
  conv=>whnf
  refine ⟨fun hc=>?_,fun hc=>?_⟩
  ·replace h:=cond_t h hc
   conv=>whnf
   replace h:=bnd_some h
   obtain ⟨⟨x4,x5,x6,x7,x8,x9⟩,h3,h⟩:=h
   refine ⟨_,Codec.at_ valC h3,?_⟩
   conv=>whnf
   replace h:=bnd_some h
   obtain ⟨⟨x10,x11,x12,x13,x14,x15⟩,h2,h⟩:=h
   refine ⟨_,Codec.at_ valC h2,?_⟩
   conv=>whnf
   replace h:=bnd_some h
   obtain ⟨x16,h1,h⟩:=h
   refine ⟨_,(g51_ok _ _  _ h1),?_⟩
   conv=>whnf
   refine ⟨fun hc=>?_,fun hc=>?_⟩
   ·replace h:=cond_t h hc
    obtain rfl:=Option.some.inj h
    conv=>whnf
    repeat (first | exact rfl | exact trivial | refine ⟨?_,?_⟩)
   ·replace h:=cond_f h hc
    conv=>whnf
    exact ⟨(IntKind.i64.wrap (x3 + (1:Int))),h,⟨[],[],⟨rfl,rfl,rfl,rfl⟩,by repeat (first | exact trivial | exact .inl rfl | exact rfl | exact List.not_mem_nil | (refine .inr ?_) | (refine ⟨?_,?_⟩) | exact List.length_set.symm | decide),by repeat (first | exact trivial | exact .inl rfl | exact rfl | exact List.not_mem_nil | (refine .inr ?_) | (refine ⟨?_,?_⟩) | exact List.length_set.symm | decide)⟩⟩
  ·replace h:=cond_f h hc
   obtain rfl:=Option.some.inj h
   conv=>whnf
   repeat (first | exact rfl | exact trivial | refine ⟨?_,?_⟩)
set_option maxHeartbeats 20000000 in
set_option maxRecDepth 100000 in
theorem BF_R03_Same_ok (n:Nat) (g30:(List Val) → (List Val) → Option (Bool)) (g51:Val → Val → Option (Bool)) (g30_ok:∀ (x1:List Val) (x2:List Val) (r:Bool),g30 x1 x2 = some r → CallsF Tryz.prog 30 [PV.sl (Val.rows x1),PV.sl (Val.rows x2)] (R_F_R03_SameList r)) (g51_ok:∀ (a0_:Val) (a1_:Val) (r:Bool),g51 a0_ a1_ = some r → CallsF Tryz.prog 51 [PV.agg (valC.cells a0_),PV.agg (valC.cells a1_)] (R_F_R03_Same r)):∀ (a0_:Val) (a1_:Val) (r:Bool),BF_R03_Same n g30 g51 a0_ a1_ = some r → CallsF Tryz.prog 51 [PV.agg (valC.cells a0_),PV.agg (valC.cells a1_)] (R_F_R03_Same r):=by
 intro a0_ a1_ r h
 obtain ⟨x1,x2,x3,x4,x5,x6⟩:=a0_
 obtain ⟨x7,x8,x9,x10,x11,x12⟩:=a1_
 unfold BF_R03_Same at h
 refine CallsF.of_vcN mixed (fun _ _=>Tryz.call51 _ _) Tryz.func51 (by kernel_rfl) (inl:=[1000000]) ?_
 conv=>whnf
 iterate 19 (refine And.intro (fun h=>h) ?_)
 conv=>whnf
 replace h:=bnd_some h
 obtain ⟨x13,h2,h⟩:=h
 refine ⟨_,fun hg=>(F_R03_SameNames_ok n _ _  _ (gsome_some h2 hg)),?_⟩
 conv=>whnf
 iterate 5 (refine And.intro (fun h=>h) ?_)
 conv=>whnf
 replace h:=bnd_some h
 obtain ⟨x14,h1,h⟩:=h
 refine ⟨_,fun hg=>(g30_ok _ _  _ (gsome_some h1 hg)),?_⟩
 conv=>whnf
 refine And.intro (fun h=>h) ?_
 obtain rfl:=Option.some.inj h
 conv=>whnf
 repeat (first | exact rfl | exact trivial | refine ⟨?_,?_⟩)
mutual
def F_R03_SameList:Nat → (List Val) → (List Val) → Option (Bool)
 | 0=>fun _ _=>none
 | n + 1=>BF_R03_SameList n (F_R03_SameList n) (F_R03_Same n)
def F_R03_Same:Nat → Val → Val → Option (Bool)
 | 0=>fun _ _=>none
 | n + 1=>BF_R03_Same n (F_R03_SameList n) (F_R03_Same n)
end
set_option maxRecDepth 100000 in
theorem F_R03_SameList_all (n:Nat):(∀ (x1:List Val) (x2:List Val) (r:Bool),F_R03_SameList n x1 x2 = some r → CallsF Tryz.prog 30 [PV.sl (Val.rows x1),PV.sl (Val.rows x2)] (R_F_R03_SameList r)) ∧ (∀ (a0_:Val) (a1_:Val) (r:Bool),F_R03_Same n a0_ a1_ = some r → CallsF Tryz.prog 51 [PV.agg (valC.cells a0_),PV.agg (valC.cells a1_)] (R_F_R03_Same r)):=by
 induction n with
 | zero=>exact ⟨(by intros; rename_i h; cases h),(by intros; rename_i h; cases h)⟩
 | succ n ih =>
  obtain ⟨hg30,hg51⟩:=ih
  exact ⟨BF_R03_SameList_ok n (F_R03_SameList n) (F_R03_Same n) hg30 hg51,BF_R03_Same_ok n (F_R03_SameList n) (F_R03_Same n) hg30 hg51⟩
set_option maxRecDepth 100000 in
theorem F_R03_SameList_ok (n:Nat):∀ (x1:List Val) (x2:List Val) (r:Bool),F_R03_SameList n x1 x2 = some r → CallsF Tryz.prog 30 [PV.sl (Val.rows x1),PV.sl (Val.rows x2)] (R_F_R03_SameList r):=(F_R03_SameList_all n).1
abbrev R_F_R17_Among (r:Int):PV:=PV.int .i64 r
def F_R17_Among_l1 (n:Nat) (x2:List (List Val)) (x1:List Val):(Int → Option (Int)) → Int → Option (Int):=fun nx1 x3 =>
 bif (decide (x3 < (((slRows valC x2).length:Nat):Int))) then (
 bnd (idx x2 x3) fun x4 =>
 bnd (F_R03_SameList n x4 x1) fun x5 =>
 bif x5 then (
 some x3)
else (
 nx1 (IntKind.i64.wrap (x3 + (1:Int)))))
else (
 some (-1:Int))
def F_R17_Among (n:Nat)  (x1:List Val) (x2:List (List Val)):Option (Int) :=
 loopK (F_R17_Among_l1 n x2 x1) n (0:Int)
set_option maxRecDepth 100000 in
theorem F_R17_Among_ok (n:Nat)   : ∀ (x1:List Val) (x2:List (List Val)) (r:Int),F_R17_Among n x1 x2 = some r → CallsF Tryz.prog 50 [PV.sl (Val.rows x1),PV.sl (slRows valC x2)] (R_F_R17_Among r):=by
 intro x1 x2 r h
 unfold F_R17_Among at h
 refine CallsF.of_vcN mixed (fun _ _=>Tryz.call50 _ _) Tryz.func50 (by kernel_rfl) (inl:=[1000000]) ?_
 conv=>whnf
 refine LoopA.fn [1000000] (S:=Int) (fun x3=>[(0,.p (.sl (Val.rows x1))),(1,.p (.sl (slRows valC x2))),(5,.p (.int .i64 x3))]) (fun x3=>[]) (B:=F_R17_Among_l1 n x2 x1) h ⟨[],[],⟨rfl,rfl,rfl,rfl⟩,by repeat (first | exact trivial | exact .inl rfl | exact rfl | exact List.not_mem_nil | (refine .inr ?_) | (refine ⟨?_,?_⟩) | exact List.length_set.symm | decide),by repeat (first | exact trivial | exact .inl rfl | exact rfl | exact List.not_mem_nil | (refine .inr ?_) | (refine ⟨?_,?_⟩) | exact List.length_set.symm | decide)⟩ ?_
 intro nx1 x3 h
 unfold F_R17_Among_l1 at h
 conv=>whnf
 refine ⟨fun hc=>?_,fun hc=>?_⟩
 ·replace h:=cond_t h hc
  conv=>whnf
  replace h:=bnd_some h
  obtain ⟨x4,h2,h⟩:=h
  refine ⟨_,Codec.at_ (slC valC) h2,?_⟩
  conv=>whnf
  replace h:=bnd_some h
  obtain ⟨x5,h1,h⟩:=h
  refine ⟨_,(F_R03_SameList_ok n _ _  _ h1),?_⟩
  conv=>whnf
  refine ⟨fun hc=>?_,fun hc=>?_⟩
  ·replace h:=cond_t h hc
   obtain rfl:=Option.some.inj h
   conv=>whnf
   repeat (first | exact rfl | exact trivial | refine ⟨?_,?_⟩)
  ·replace h:=cond_f h hc
   conv=>whnf
   exact ⟨(IntKind.i64.wrap (x3 + (1:Int))),h,⟨[],[],⟨rfl,rfl,rfl,rfl⟩,by repeat (first | exact trivial | exact .inl rfl | exact rfl | exact List.not_mem_nil | (refine .inr ?_) | (refine ⟨?_,?_⟩) | exact List.length_set.symm | decide),by repeat (first | exact trivial | exact .inl rfl | exact rfl | exact List.not_mem_nil | (refine .inr ?_) | (refine ⟨?_,?_⟩) | exact List.length_set.symm | decide)⟩⟩
 ·replace h:=cond_f h hc
  obtain rfl:=Option.some.inj h
  conv=>whnf
  repeat (first | exact rfl | exact trivial | refine ⟨?_,?_⟩)
abbrev R_F_R01_Add (r:Int × Int):PV:=PV.tup [PV.int .i64 r.1,PV.int .i64 r.2]
def F_R01_Add (n:Nat)  (x1:Int) (x2:Int):Option (Int × Int) :=
 bif (bif (bif (decide (x2 > (0:Int))) then (decide (x1 > (IntKind.i64.wrap ((9223372036854775807:Int) - x2)))) else false) then true else (bif (decide (x2 < (0:Int))) then (decide (x1 < (IntKind.i64.wrap ((-9223372036854775808:Int) - x2)))) else false)) then (
 some ((0:Int),(4:Int)))
 else (
 some ((IntKind.i64.wrap (x1 + x2)),(0:Int)))
set_option maxRecDepth 100000 in
theorem F_R01_Add_ok (n:Nat)   : ∀ (x1:Int) (x2:Int) (r:Int × Int),F_R01_Add n x1 x2 = some r → CallsF Tryz.prog 52 [PV.int .i64 x1,PV.int .i64 x2] (R_F_R01_Add r):=by
 intro x1 x2 r h
 unfold F_R01_Add at h
 refine CallsF.of_vcN mixed (fun _ _=>Tryz.call52 _ _) Tryz.func52 (by kernel_rfl) (inl:=[1000000]) ?_
 conv=>whnf
 iterate 12 (refine And.intro (fun h=>h) ?_)
 conv=>whnf
 refine ⟨fun hc=>?_,fun hc=>?_⟩
 ·replace h:=cond_t h hc
  obtain rfl:=Option.some.inj h
  conv=>whnf
  repeat (first | exact rfl | exact trivial | refine ⟨?_,?_⟩)
 ·replace h:=cond_f h hc
  obtain rfl:=Option.some.inj h
  conv=>whnf
  repeat (first | exact rfl | exact trivial | refine ⟨?_,?_⟩)
abbrev R_F_R03_place (r:Int):PV:=PV.int .i64 r
def F_R03_place (n:Nat)  (x1:Int):Option (Int) :=
 bif (x1 == (5:Int)) then (
 some (0:Int))
 else (
 bif (x1 == (6:Int)) then (
 some (1:Int))
 else (
 bif (x1 == (7:Int)) then (
 some (2:Int))
 else (
 bif (x1 == (4:Int)) then (
 some (3:Int))
 else (
 bif (x1 == (3:Int)) then (
 some (4:Int))
 else (
 bif (x1 == (1:Int)) then (
 some (5:Int))
 else (
 bif (x1 == (2:Int)) then (
 some (6:Int))
 else (
 some (7:Int))))))))
set_option maxRecDepth 100000 in
theorem F_R03_place_ok (n:Nat)   : ∀ (x1:Int) (r:Int),F_R03_place n x1 = some r → CallsF Tryz.prog 66 [PV.int .i64 x1] (R_F_R03_place r):=by
 intro x1 r h
 unfold F_R03_place at h
 refine CallsF.of_vcN mixed (fun _ _=>Tryz.call66 _ _) Tryz.func66 (by kernel_rfl) (inl:=[1000000]) ?_
 conv=>whnf
 refine ⟨fun hc=>?_,fun hc=>?_⟩
 ·replace h:=cond_t h hc
  obtain rfl:=Option.some.inj h
  conv=>whnf
  repeat (first | exact rfl | exact trivial | refine ⟨?_,?_⟩)
 ·replace h:=cond_f h hc
  conv=>whnf
  refine ⟨fun hc=>?_,fun hc=>?_⟩
  ·replace h:=cond_t h hc
   obtain rfl:=Option.some.inj h
   conv=>whnf
   repeat (first | exact rfl | exact trivial | refine ⟨?_,?_⟩)
  ·replace h:=cond_f h hc
   conv=>whnf
   refine ⟨fun hc=>?_,fun hc=>?_⟩
   ·replace h:=cond_t h hc
    obtain rfl:=Option.some.inj h
    conv=>whnf
    repeat (first | exact rfl | exact trivial | refine ⟨?_,?_⟩)
   ·replace h:=cond_f h hc
    conv=>whnf
    refine ⟨fun hc=>?_,fun hc=>?_⟩
    ·replace h:=cond_t h hc
     obtain rfl:=Option.some.inj h
     conv=>whnf
     repeat (first | exact rfl | exact trivial | refine ⟨?_,?_⟩)
    ·replace h:=cond_f h hc
     conv=>whnf
     refine ⟨fun hc=>?_,fun hc=>?_⟩
     ·replace h:=cond_t h hc
      obtain rfl:=Option.some.inj h
      conv=>whnf
      repeat (first | exact rfl | exact trivial | refine ⟨?_,?_⟩)
     ·replace h:=cond_f h hc
      conv=>whnf
      refine ⟨fun hc=>?_,fun hc=>?_⟩
      ·replace h:=cond_t h hc
       obtain rfl:=Option.some.inj h
       conv=>whnf
       repeat (first | exact rfl | exact trivial | refine ⟨?_,?_⟩)
      ·replace h:=cond_f h hc
       conv=>whnf
       refine ⟨fun hc=>?_,fun hc=>?_⟩
       ·replace h:=cond_t h hc
        obtain rfl:=Option.some.inj h
        conv=>whnf
        repeat (first | exact rfl | exact trivial | refine ⟨?_,?_⟩)
       ·replace h:=cond_f h hc
        obtain rfl:=Option.some.inj h
        conv=>whnf
        repeat (first | exact rfl | exact trivial | refine ⟨?_,?_⟩)
abbrev R_F_R03_side (r:Int):PV:=PV.int .i64 r
def F_R03_side (n:Nat)  (x1:Bool) (x2:Bool):Option (Int) :=
 bif x1 then (
 some (-1:Int))
 else (
 bif x2 then (
 some (1:Int))
 else (
 some (0:Int)))
set_option maxRecDepth 100000 in
theorem F_R03_side_ok (n:Nat)   : ∀ (x1:Bool) (x2:Bool) (r:Int),F_R03_side n x1 x2 = some r → CallsF Tryz.prog 67 [PV.bool x1,PV.bool x2] (R_F_R03_side r):=by
 intro x1 x2 r h
 unfold F_R03_side at h
 refine CallsF.of_vcN mixed (fun _ _=>Tryz.call67 _ _) Tryz.func67 (by kernel_rfl) (inl:=[1000000]) ?_
 conv=>whnf
 refine ⟨fun hc=>?_,fun hc=>?_⟩
 ·replace h:=cond_t h hc
  obtain rfl:=Option.some.inj h
  conv=>whnf
  repeat (first | exact rfl | exact trivial | refine ⟨?_,?_⟩)
 ·replace h:=cond_f h hc
  conv=>whnf
  refine ⟨fun hc=>?_,fun hc=>?_⟩
  ·replace h:=cond_t h hc
   obtain rfl:=Option.some.inj h
   conv=>whnf
   repeat (first | exact rfl | exact trivial | refine ⟨?_,?_⟩)
  ·replace h:=cond_f h hc
   obtain rfl:=Option.some.inj h
   conv=>whnf
   repeat (first | exact rfl | exact trivial | refine ⟨?_,?_⟩)
abbrev R_F_R03_Order (r:Int):PV:=PV.int .i64 r
def F_R03_Order_k7 (n:Nat) (nx1:Int → Option (Int)) (x20:Int):Int → Option (Int):=fun x22 =>
 bif (x22 != (0:Int)) then (
 some x22)
else (
 nx1 (IntKind.i64.wrap (x20 + (1:Int))))
def F_R03_Order_k6 (n:Nat) (x5:List Val) (x20:Int) (x11:List Val) (g53:Val → Val → Option (Int)) (nx1:Int → Option (Int)):Int → Option (Int):=fun x21 =>
 bif (x21 == (0:Int)) then (
 bnd (idx x5 x20) fun ⟨x23,x24,x25,x26,x27,x28⟩ =>
 bnd (idx x11 x20) fun ⟨x29,x30,x31,x32,x33,x34⟩ =>
 bnd (g53 (Val.mk x23 x24 x25 x26 x27 x28) (Val.mk x29 x30 x31 x32 x33 x34)) fun x35 =>
 F_R03_Order_k7 n nx1 x20 x35)
else (
 F_R03_Order_k7 n nx1 x20 x21)
def F_R03_Order_l1 (n:Nat) (x5:List Val) (x11:List Val) (x1:Int) (x6:List (List UInt8)) (x12:List (List UInt8)) (g53:Val → Val → Option (Int)):(Int → Option (Int)) → Int → Option (Int):=fun nx1 x20 =>
 bif (bif (decide (x20 < (((Val.rows x5).length:Nat):Int))) then (decide (x20 < (((Val.rows x11).length:Nat):Int))) else false) then (
 bif (x1 == (5:Int)) then (
 bnd (idx x6 x20) fun x36 =>
 bnd (idx x12 x20) fun x37 =>
 bnd (idx x6 x20) fun x38 =>
 bnd (idx x12 x20) fun x39 =>
 bnd (F_R03_side n (Op.bytesLess x36 x37) (!(Op.bytesLess x38 x39 || x38 == x39))) fun x40 =>
 F_R03_Order_k6 n x5 x20 x11 g53 nx1 x40)
else (
 F_R03_Order_k6 n x5 x20 x11 g53 nx1 (0:Int)))
else (
 bnd (F_R03_side n (decide ((((Val.rows x5).length:Nat):Int) < (((Val.rows x11).length:Nat):Int))) (decide ((((Val.rows x5).length:Nat):Int) > (((Val.rows x11).length:Nat):Int)))) fun x41 =>
 some x41)
def F_R03_Order_k1 (n:Nat) (x3:Int) (x9:Int) (x1:Int) (x4:List UInt8) (x10:List UInt8) (x2:Bool) (x8:Bool) (x5:List Val) (x11:List Val) (x6:List (List UInt8)) (x12:List (List UInt8)) (g53:Val → Val → Option (Int)):Bool → Option (Int):=fun x16 =>
 bif x16 then (
 bnd (F_R03_side n (decide (x3 < x9)) (decide (x3 > x9))) fun x17 =>
 some x17)
else (
 bif (x1 == (3:Int)) then (
 bnd (F_R03_side n (Op.bytesLess x4 x10) (!(Op.bytesLess x4 x10 || x4 == x10))) fun x18 =>
 some x18)
else (
 bif (x1 == (1:Int)) then (
 bnd (F_R03_side n (bif (!x2) then x8 else false) (bif x2 then (!x8) else false)) fun x19 =>
 some x19)
else (
 loopK (F_R03_Order_l1 n x5 x11 x1 x6 x12 g53) n (0:Int))))
def BF_R03_Order (n:Nat) (g53:Val → Val → Option (Int)) (a0_:Val) (a1_:Val):Option (Int) :=
 match a0_,a1_ with
 | ⟨x1,x2,x3,x4,x5,x6⟩,⟨x7,x8,x9,x10,x11,x12⟩ =>
 bnd (F_R03_place n x1) fun x13 =>
 bnd (F_R03_place n x7) fun x14 =>
 bif (x13 != x14) then (
 bnd (F_R03_side n (decide (x13 < x14)) true) fun x15 =>
 some x15)
 else (
 bif (x1 == (2:Int)) then (
 F_R03_Order_k1 n x3 x9 x1 x4 x10 x2 x8 x5 x11 x6 x12 g53 (x1 == (2:Int)))
 else (
 bif (x1 == (6:Int)) then (
 F_R03_Order_k1 n x3 x9 x1 x4 x10 x2 x8 x5 x11 x6 x12 g53 (x1 == (6:Int)))
 else (
 F_R03_Order_k1 n x3 x9 x1 x4 x10 x2 x8 x5 x11 x6 x12 g53 (x1 == (7:Int)))))
set_option maxHeartbeats 20000000 in
set_option maxRecDepth 100000 in
theorem BF_R03_Order_ok (n:Nat) (g53:Val → Val → Option (Int)) (g53_ok:∀ (a0_:Val) (a1_:Val) (r:Int),g53 a0_ a1_ = some r → CallsF Tryz.prog 53 [PV.agg (valC.cells a0_),PV.agg (valC.cells a1_)] (R_F_R03_Order r)):∀ (a0_:Val) (a1_:Val) (r:Int),BF_R03_Order n g53 a0_ a1_ = some r → CallsF Tryz.prog 53 [PV.agg (valC.cells a0_),PV.agg (valC.cells a1_)] (R_F_R03_Order r):=by
 intro a0_ a1_ r h
 obtain ⟨x1,x2,x3,x4,x5,x6⟩:=a0_
 obtain ⟨x7,x8,x9,x10,x11,x12⟩:=a1_
 unfold BF_R03_Order at h
 refine CallsF.of_vcN mixed (fun _ _=>Tryz.call53 _ _) Tryz.func53 (by kernel_rfl) (inl:=[1000000]) ?_
 conv=>whnf
 replace h:=bnd_some h
 obtain ⟨x13,h15,h⟩:=h
 refine ⟨_,(F_R03_place_ok n _  _ h15),?_⟩
 conv=>whnf
 replace h:=bnd_some h
 obtain ⟨x14,h14,h⟩:=h
 refine ⟨_,(F_R03_place_ok n _  _ h14),?_⟩
 conv=>whnf
 refine ⟨fun hc=>?_,fun hc=>?_⟩
 ·replace h:=cond_t h hc
  conv=>whnf
  replace h:=bnd_some h
  obtain ⟨x15,h1,h⟩:=h
  refine ⟨_,(F_R03_side_ok n _ _  _ h1),?_⟩
  obtain rfl:=Option.some.inj h
  conv=>whnf
  repeat (first | exact rfl | exact trivial | refine ⟨?_,?_⟩)
 ·replace h:=cond_f h hc
  conv=>whnf
  refine SeqA.cut (S:=Bool) (fun x16=>[(2,.ptr 0 0),(3,.ptr 1 0),(23,.p (.int .i64 x1)),(24,.p (.bool x16))]) (fun x16=>[.box 36 [.p (.int .i64 x1),.p (.bool x2),.p (.int .i64 x3),.p (.str x4),.p (.sl (Val.rows x5)),.p (.sl (strs x6))],.box 36 [.p (.int .i64 x7),.p (.bool x8),.p (.int .i64 x9),.p (.str x10),.p (.sl (Val.rows x11)),.p (.sl (strs x12))]]) (F_R03_Order_k1 n x3 x9 x1 x4 x10 x2 x8 x5 x11 x6 x12 g53) (r:=r) ?_ ?_
  ·intro x16 h
   unfold F_R03_Order_k1 at h
   conv=>whnf
   refine ⟨fun hc=>?_,fun hc=>?_⟩
   ·replace h:=cond_t h hc
    conv=>whnf
    replace h:=bnd_some h
    obtain ⟨x17,h2,h⟩:=h
    refine ⟨_,(F_R03_side_ok n _ _  _ h2),?_⟩
    obtain rfl:=Option.some.inj h
    conv=>whnf
    repeat (first | exact rfl | exact trivial | refine ⟨?_,?_⟩)
   ·replace h:=cond_f h hc
    conv=>whnf
    refine ⟨fun hc=>?_,fun hc=>?_⟩
    ·replace h:=cond_t h hc
     conv=>whnf
     replace h:=bnd_some h
     obtain ⟨x18,h3,h⟩:=h
     refine ⟨_,(F_R03_side_ok n _ _  _ h3),?_⟩
     obtain rfl:=Option.some.inj h
     conv=>whnf
     repeat (first | exact rfl | exact trivial | refine ⟨?_,?_⟩)
    ·replace h:=cond_f h hc
     conv=>whnf
     refine ⟨fun hc=>?_,fun hc=>?_⟩
     ·replace h:=cond_t h hc
      conv=>whnf
      iterate 5 (refine And.intro (fun h=>h) ?_)
      conv=>whnf
      replace h:=bnd_some h
      obtain ⟨x19,h4,h⟩:=h
      refine ⟨_,(F_R03_side_ok n _ _  _ h4),?_⟩
      obtain rfl:=Option.some.inj h
      conv=>whnf
      repeat (first | exact rfl | exact trivial | refine ⟨?_,?_⟩)
     ·replace h:=cond_f h hc
      conv=>whnf
      refine LoopA.fn [1000000] (S:=Int) (fun x20=>[(2,.ptr 0 0),(3,.ptr 1 0),(7,.p (.int .i64 x20))]) (fun x20=>[.box 36 [.p (.int .i64 x1),.p (.bool x2),.p (.int .i64 x3),.p (.str x4),.p (.sl (Val.rows x5)),.p (.sl (strs x6))],.box 36 [.p (.int .i64 x7),.p (.bool x8),.p (.int .i64 x9),.p (.str x10),.p (.sl (Val.rows x11)),.p (.sl (strs x12))]]) (B:=F_R03_Order_l1 n x5 x11 x1 x6 x12 g53) h ⟨[0,1],[],⟨rfl,rfl,rfl,rfl⟩,by repeat (first | exact trivial | exact .inl rfl | exact rfl | exact List.not_mem_nil | (refine .inr ?_) | (refine ⟨?_,?_⟩) | exact List.length_set.symm | decide),by repeat (first | exact trivial | exact .inl rfl | exact rfl | exact List.not_mem_nil | (refine .inr ?_) | (refine ⟨?_,?_⟩) | exact List.length_set.symm | decide)⟩ ?_
      intro nx1 x20 h
      unfold F_R03_Order_l1 at h
      conv=>whnf
      iterate 5 (refine And.intro (fun h=>h) ?_)
      conv=>whnf
      refine ⟨fun hc=>?_,fun hc=>?_⟩
      ·replace h:=cond_t h hc
       conv=>whnf
       refine SeqA.cut (S:=Int) (fun x21=>[(2,.ptr 0 0),(3,.ptr 1 0),(7,.p (.int .i64 x20)),(8,.p (.int .i64 x21))]) (fun x21=>[.box 36 [.p (.int .i64 x1),.p (.bool x2),.p (.int .i64 x3),.p (.str x4),.p (.sl (Val.rows x5)),.p (.sl (strs x6))],.box 36 [.p (.int .i64 x7),.p (.bool x8),.p (.int .i64 x9),.p (.str x10),.p (.sl (Val.rows x11)),.p (.sl (strs x12))]]) (F_R03_Order_k6 n x5 x20 x11 g53 nx1) (r:=r) ?_ ?_
       ·intro x21 h
        unfold F_R03_Order_k6 at h
        conv=>whnf
        refine SeqA.cut (S:=Int) (fun x22=>[(2,.ptr 0 0),(3,.ptr 1 0),(7,.p (.int .i64 x20)),(8,.p (.int .i64 x22))]) (fun x22=>[.box 36 [.p (.int .i64 x1),.p (.bool x2),.p (.int .i64 x3),.p (.str x4),.p (.sl (Val.rows x5)),.p (.sl (strs x6))],.box 36 [.p (.int .i64 x7),.p (.bool x8),.p (.int .i64 x9),.p (.str x10),.p (.sl (Val.rows x11)),.p (.sl (strs x12))]]) (F_R03_Order_k7 n nx1 x20) (r:=r) ?_ ?_
        ·intro x22 h
         unfold F_R03_Order_k7 at h
         conv=>whnf
         refine ⟨fun hc=>?_,fun hc=>?_⟩
         ·replace h:=cond_t h hc
          obtain rfl:=Option.some.inj h
          conv=>whnf
          repeat (first | exact rfl | exact trivial | refine ⟨?_,?_⟩)
         ·replace h:=cond_f h hc
          conv=>whnf
          exact ⟨(IntKind.i64.wrap (x20 + (1:Int))),h,⟨[0,1],[],⟨rfl,rfl,rfl,rfl⟩,by repeat (first | exact trivial | exact .inl rfl | exact rfl | exact List.not_mem_nil | (refine .inr ?_) | (refine ⟨?_,?_⟩) | exact List.length_set.symm | decide),by repeat (first | exact trivial | exact .inl rfl | exact rfl | exact List.not_mem_nil | (refine .inr ?_) | (refine ⟨?_,?_⟩) | exact List.length_set.symm | decide)⟩⟩
        ·conv=>whnf
         refine ⟨fun hc=>?_,fun hc=>?_⟩
         ·replace h:=cond_t h hc
          conv=>whnf
          replace h:=bnd_some h
          obtain ⟨⟨x23,x24,x25,x26,x27,x28⟩,h7,h⟩:=h
          refine ⟨_,Codec.at_ valC h7,?_⟩
          conv=>whnf
          replace h:=bnd_some h
          obtain ⟨⟨x29,x30,x31,x32,x33,x34⟩,h6,h⟩:=h
          refine ⟨_,Codec.at_ valC h6,?_⟩
          conv=>whnf
          replace h:=bnd_some h
          obtain ⟨x35,h5,h⟩:=h
          refine ⟨_,(g53_ok _ _  _ h5),?_⟩
          conv=>whnf
          exact ⟨x35,h,⟨[0,1],[],⟨rfl,rfl,rfl,rfl⟩,by repeat (first | exact trivial | exact .inl rfl | exact rfl | exact List.not_mem_nil | (refine .inr ?_) | (refine ⟨?_,?_⟩) | exact List.length_set.symm | decide),by repeat (first | exact trivial | exact .inl rfl | exact rfl | exact List.not_mem_nil | (refine .inr ?_) | (refine ⟨?_,?_⟩) | exact List.length_set.symm | decide)⟩⟩
         ·replace h:=cond_f h hc
          conv=>whnf
          exact ⟨x21,h,⟨[0,1],[],⟨rfl,rfl,rfl,rfl⟩,by repeat (first | exact trivial | exact .inl rfl | exact rfl | exact List.not_mem_nil | (refine .inr ?_) | (refine ⟨?_,?_⟩) | exact List.length_set.symm | decide),by repeat (first | exact trivial | exact .inl rfl | exact rfl | exact List.not_mem_nil | (refine .inr ?_) | (refine ⟨?_,?_⟩) | exact List.length_set.symm | decide)⟩⟩
       ·conv=>whnf
        refine ⟨fun hc=>?_,fun hc=>?_⟩
        ·replace h:=cond_t h hc
         conv=>whnf
         replace h:=bnd_some h
         obtain ⟨x36,h12,h⟩:=h
         refine ⟨_,Codec.at_ strC h12,?_⟩
         conv=>whnf
         replace h:=bnd_some h
         obtain ⟨x37,h11,h⟩:=h
         refine ⟨_,Codec.at_ strC h11,?_⟩
         conv=>whnf
         replace h:=bnd_some h
         obtain ⟨x38,h10,h⟩:=h
         refine ⟨_,Codec.at_ strC h10,?_⟩
         conv=>whnf
         replace h:=bnd_some h
         obtain ⟨x39,h9,h⟩:=h
         refine ⟨_,Codec.at_ strC h9,?_⟩
         conv=>whnf
         replace h:=bnd_some h
         obtain ⟨x40,h8,h⟩:=h
         refine ⟨_,(F_R03_side_ok n _ _  _ h8),?_⟩
         conv=>whnf
         exact ⟨x40,h,⟨[0,1],[],⟨rfl,rfl,rfl,rfl⟩,by repeat (first | exact trivial | exact .inl rfl | exact rfl | exact List.not_mem_nil | (refine .inr ?_) | (refine ⟨?_,?_⟩) | exact List.length_set.symm | decide),by repeat (first | exact trivial | exact .inl rfl | exact rfl | exact List.not_mem_nil | (refine .inr ?_) | (refine ⟨?_,?_⟩) | exact List.length_set.symm | decide)⟩⟩
        ·replace h:=cond_f h hc
         conv=>whnf
         exact ⟨(0:Int),h,⟨[0,1],[],⟨rfl,rfl,rfl,rfl⟩,by repeat (first | exact trivial | exact .inl rfl | exact rfl | exact List.not_mem_nil | (refine .inr ?_) | (refine ⟨?_,?_⟩) | exact List.length_set.symm | decide),by repeat (first | exact trivial | exact .inl rfl | exact rfl | exact List.not_mem_nil | (refine .inr ?_) | (refine ⟨?_,?_⟩) | exact List.length_set.symm | decide)⟩⟩
      ·replace h:=cond_f h hc
       conv=>whnf
       replace h:=bnd_some h
       obtain ⟨x41,h13,h⟩:=h
       refine ⟨_,(F_R03_side_ok n _ _  _ h13),?_⟩
       obtain rfl:=Option.some.inj h
       conv=>whnf
       repeat (first | exact rfl | exact trivial | refine ⟨?_,?_⟩)
  ·conv=>whnf
   refine ⟨fun hc=>?_,fun hc=>?_⟩
   ·replace h:=cond_t h hc
    conv=>whnf
    exact ⟨(x1 == (2:Int)),h,⟨[0,1],[],⟨rfl,rfl,rfl,rfl⟩,by repeat (first | exact trivial | exact .inl rfl | exact rfl | exact List.not_mem_nil | (refine .inr ?_) | (refine ⟨?_,?_⟩) | exact List.length_set.symm | decide),by repeat (first | exact trivial | exact .inl rfl | exact rfl | exact List.not_mem_nil | (refine .inr ?_) | (refine ⟨?_,?_⟩) | exact List.length_set.symm | decide)⟩⟩
   ·replace h:=cond_f h hc
    conv=>whnf
    refine ⟨fun hc=>?_,fun hc=>?_⟩
    ·replace h:=cond_t h hc
     conv=>whnf
     exact ⟨(x1 == (6:Int)),h,⟨[0,1],[],⟨rfl,rfl,rfl,rfl⟩,by repeat (first | exact trivial | exact .inl rfl | exact rfl | exact List.not_mem_nil | (refine .inr ?_) | (refine ⟨?_,?_⟩) | exact List.length_set.symm | decide),by repeat (first | exact trivial | exact .inl rfl | exact rfl | exact List.not_mem_nil | (refine .inr ?_) | (refine ⟨?_,?_⟩) | exact List.length_set.symm | decide)⟩⟩
    ·replace h:=cond_f h hc
     conv=>whnf
     exact ⟨(x1 == (7:Int)),h,⟨[0,1],[],⟨rfl,rfl,rfl,rfl⟩,by repeat (first | exact trivial | exact .inl rfl | exact rfl | exact List.not_mem_nil | (refine .inr ?_) | (refine ⟨?_,?_⟩) | exact List.length_set.symm | decide),by repeat (first | exact trivial | exact .inl rfl | exact rfl | exact List.not_mem_nil | (refine .inr ?_) | (refine ⟨?_,?_⟩) | exact List.length_set.symm | decide)⟩⟩
def F_R03_Order:Nat → Val → Val → Option (Int)
 | 0=>fun _ _=>none
 | n + 1=>BF_R03_Order n (F_R03_Order n)
set_option maxRecDepth 100000 in
theorem F_R03_Order_all (n:Nat):(∀ (a0_:Val) (a1_:Val) (r:Int),F_R03_Order n a0_ a1_ = some r → CallsF Tryz.prog 53 [PV.agg (valC.cells a0_),PV.agg (valC.cells a1_)] (R_F_R03_Order r)):=by
 induction n with
 | zero=>exact (by intros; rename_i h; cases h)
 | succ n ih =>
  have hg53:=ih
  exact BF_R03_Order_ok n (F_R03_Order n) hg53
set_option maxRecDepth 100000 in
theorem F_R03_Order_ok (n:Nat):∀ (a0_:Val) (a1_:Val) (r:Int),F_R03_Order n a0_ a1_ = some r → CallsF Tryz.prog 53 [PV.agg (valC.cells a0_),PV.agg (valC.cells a1_)] (R_F_R03_Order r):=(F_R03_Order_all n)
abbrev R_F_R17_one (r:Val × Int):PV:=PV.tup [PV.agg (valC.cells r.1),PV.int .i64 r.2]
def F_R17_one_l1 (n:Nat) (x2:List Val):(Int × Int → Option (Val × Int)) → Int × Int → Option (Val × Int):=fun nx1 (x4,x5) =>
 bif (decide (x5 < (((Val.rows x2).length:Nat):Int))) then (
 bnd (idx x2 x5) fun ⟨x6,x7,x8,x9,x10,x11⟩ =>
 bif (x6 != (2:Int)) then (
 some (Val.mk (0:Int) false (0:Int) ([]:List UInt8) ([]:List Val) ([]:List (List UInt8)),(3:Int)))
else (
 bnd (idx x2 x5) fun ⟨x12,x13,x14,x15,x16,x17⟩ =>
 bnd (F_R01_Add n x4 x14) fun ⟨x18,x19⟩ =>
 bif (x19 != (0:Int)) then (
 some (Val.mk (0:Int) false (0:Int) ([]:List UInt8) ([]:List Val) ([]:List (List UInt8)),x19))
else (
 nx1 (x18,(IntKind.i64.wrap (x5 + (1:Int)))))))
else (
 some (Val.mk (2:Int) false x4 ([]:List UInt8) ([]:List Val) ([]:List (List UInt8)),(0:Int)))
def F_R17_one_k2 (n:Nat) (nx2:Int × Int × Bool × Int × List UInt8 × List Val × List (List UInt8) → Option (Val × Int)) (x20:Int):Int × Bool × Int × List UInt8 × List Val × List (List UInt8) → Option (Val × Int):=fun (x27,x28,x29,x30,x31,x32) =>
 nx2 ((IntKind.i64.wrap (x20 + (1:Int))),x27,x28,x29,x30,x31,x32)
def F_R17_one_l2 (n:Nat) (x2:List Val) (x1:List UInt8):(Int × Int × Bool × Int × List UInt8 × List Val × List (List UInt8) → Option (Val × Int)) → Int × Int × Bool × Int × List UInt8 × List Val × List (List UInt8) → Option (Val × Int):=fun nx2 (x20,x21,x22,x23,x24,x25,x26) =>
 bif (decide (x20 < (((Val.rows x2).length:Nat):Int))) then (
 bnd (idx x2 x20) fun ⟨x33,x34,x35,x36,x37,x38⟩ =>
 bnd (F_R03_Order n (Val.mk x33 x34 x35 x36 x37 x38) (Val.mk x21 x22 x23 x24 x25 x26)) fun x39 =>
 bif (bif (bif (x20 == (0:Int)) then true else (bif (x1 == ([109,105,110]:List UInt8)) then (decide (x39 < (0:Int))) else false)) then true else (bif (x1 == ([109,97,120]:List UInt8)) then (decide (x39 > (0:Int))) else false)) then (
 bnd (idx x2 x20) fun ⟨x40,x41,x42,x43,x44,x45⟩ =>
 F_R17_one_k2 n nx2 x20 (x40,x41,x42,x43,x44,x45))
else (
 F_R17_one_k2 n nx2 x20 (x21,x22,x23,x24,x25,x26)))
else (
 some (Val.mk x21 x22 x23 x24 x25 x26,(0:Int)))
def F_R17_one (n:Nat)  (x1:List UInt8) (x2:List Val):Option (Val × Int) :=
 bif (x1 == ([99,111,117,110,116]:List UInt8)) then (
 some (Val.mk (2:Int) false (((Val.rows x2).length:Nat):Int) ([]:List UInt8) ([]:List Val) ([]:List (List UInt8)),(0:Int)))
 else (
 bif (x1 == ([99,111,108,108,101,99,116]:List UInt8)) then (
 bnd (F_R03_May n (Val.mk (4:Int) false (0:Int) ([]:List UInt8) x2 ([]:List (List UInt8)))) fun x3 =>
 bif (!x3) then (
 some (Val.mk (0:Int) false (0:Int) ([]:List UInt8) ([]:List Val) ([]:List (List UInt8)),(8:Int)))
 else (
 some (Val.mk (4:Int) false (0:Int) ([]:List UInt8) x2 ([]:List (List UInt8)),(0:Int))))
 else (
 bif (x1 == ([115,117,109]:List UInt8)) then (
 loopK (F_R17_one_l1 n x2) n ((0:Int),(0:Int)))
 else (
 loopK (F_R17_one_l2 n x2 x1) n ((0:Int),(0:Int),false,(0:Int),([]:List UInt8),([]:List _),([]:List _)))))
set_option maxHeartbeats 20000000 in
set_option maxRecDepth 100000 in
theorem F_R17_one_ok (n:Nat)   : ∀ (x1:List UInt8) (x2:List Val) (r:Val × Int),F_R17_one n x1 x2 = some r → CallsF Tryz.prog 31 [PV.str x1,PV.sl (Val.rows x2)] (R_F_R17_one r):=by
 intro x1 x2 r h
 unfold F_R17_one at h
 refine CallsF.of_vcN mixed (fun _ _=>Tryz.call31 _ _) Tryz.func31 (by kernel_rfl) (inl:=[1000000]) ?_
 conv=>whnf
 refine ⟨fun hc=>?_,fun hc=>?_⟩
 ·replace h:=cond_t h hc
  obtain rfl:=Option.some.inj h
  conv=>whnf
  repeat (first | exact rfl | exact trivial | refine ⟨?_,?_⟩)
 ·replace h:=cond_f h hc
  conv=>whnf
  refine ⟨fun hc=>?_,fun hc=>?_⟩
  ·replace h:=cond_t h hc
   conv=>whnf
   replace h:=bnd_some h
   obtain ⟨x3,h1,h⟩:=h
   refine ⟨_,(CallsF.leArgs (F_R03_May_ok n _  _ h1) (by repeat (first | exact rfl | exact trivial | refine ⟨?_,?_⟩))),?_⟩
   conv=>whnf
   refine ⟨fun hc=>?_,fun hc=>?_⟩
   ·replace h:=cond_t h hc
    obtain rfl:=Option.some.inj h
    conv=>whnf
    repeat (first | exact rfl | exact trivial | refine ⟨?_,?_⟩)
   ·replace h:=cond_f h hc
    obtain rfl:=Option.some.inj h
    conv=>whnf
    repeat (first | exact rfl | exact trivial | refine ⟨?_,?_⟩)
  ·replace h:=cond_f h hc
   conv=>whnf
   refine ⟨fun hc=>?_,fun hc=>?_⟩
   ·replace h:=cond_t h hc
    conv=>whnf
    refine LoopA.fn [1000000] (S:=Int × Int) (fun (x4,x5)=>[(1,.p (.sl (Val.rows x2))),(4,.ptr 0 0),(7,.p (.int .i64 x4)),(8,.p (.int .i64 x5))]) (fun (x4,x5)=>[.box 36 [.p (.int .i64 (0:Int)),.p (.bool false),.p (.int .i64 (0:Int)),.p (.str ([]:List UInt8)),.p (.nilsl),.p (.nilsl)]]) (B:=F_R17_one_l1 n x2) h ⟨[0],[],⟨rfl,rfl,rfl,rfl⟩,by repeat (first | exact trivial | exact .inl rfl | exact rfl | exact List.not_mem_nil | (refine .inr ?_) | (refine ⟨?_,?_⟩) | exact List.length_set.symm | decide),by repeat (first | exact trivial | exact .inl rfl | exact rfl | exact List.not_mem_nil | (refine .inr ?_) | (refine ⟨?_,?_⟩) | exact List.length_set.symm | decide)⟩ ?_
    intro nx1 st h
    obtain ⟨x4,x5⟩:=st
    unfold F_R17_one_l1 at h
    conv=>whnf
    refine ⟨fun hc=>?_,fun hc=>?_⟩
    ·replace h:=cond_t h hc
     conv=>whnf
     replace h:=bnd_some h
     obtain ⟨⟨x6,x7,x8,x9,x10,x11⟩,h4,h⟩:=h
     refine ⟨_,Codec.at_ valC h4,?_⟩
     conv=>whnf
     refine ⟨fun hc=>?_,fun hc=>?_⟩
     ·replace h:=cond_t h hc
      obtain rfl:=Option.some.inj h
      conv=>whnf
      repeat (first | exact rfl | exact trivial | refine ⟨?_,?_⟩)
     ·replace h:=cond_f h hc
      conv=>whnf
      replace h:=bnd_some h
      obtain ⟨⟨x12,x13,x14,x15,x16,x17⟩,h3,h⟩:=h
      refine ⟨_,Codec.at_ valC h3,?_⟩
      conv=>whnf
      replace h:=bnd_some h
      obtain ⟨⟨x18,x19⟩,h2,h⟩:=h
      refine ⟨_,(F_R01_Add_ok n _ _  _ h2),?_⟩
      conv=>whnf
      refine ⟨fun hc=>?_,fun hc=>?_⟩
      ·replace h:=cond_t h hc
       obtain rfl:=Option.some.inj h
       conv=>whnf
       repeat (first | exact rfl | exact trivial | refine ⟨?_,?_⟩)
      ·replace h:=cond_f h hc
       conv=>whnf
       exact ⟨(x18,(IntKind.i64.wrap (x5 + (1:Int)))),h,⟨[0],[],⟨rfl,rfl,rfl,rfl⟩,by repeat (first | exact trivial | exact .inl rfl | exact rfl | exact List.not_mem_nil | (refine .inr ?_) | (refine ⟨?_,?_⟩) | exact List.length_set.symm | decide),by repeat (first | exact trivial | exact .inl rfl | exact rfl | exact List.not_mem_nil | (refine .inr ?_) | (refine ⟨?_,?_⟩) | exact List.length_set.symm | decide)⟩⟩
    ·replace h:=cond_f h hc
     obtain rfl:=Option.some.inj h
     conv=>whnf
     repeat (first | exact rfl | exact trivial | refine ⟨?_,?_⟩)
   ·replace h:=cond_f h hc
    conv=>whnf
    refine LoopA.fn [1000000] (S:=Int × Int × Bool × Int × List UInt8 × List Val × List (List UInt8)) (fun (x20,x21,x22,x23,x24,x25,x26)=>[(0,.p (.str x1)),(1,.p (.sl (Val.rows x2))),(4,.ptr 0 0),(11,.ptr 1 0),(12,.p (.int .i64 x20))]) (fun (x20,x21,x22,x23,x24,x25,x26)=>[.box 36 [.p (.int .i64 (0:Int)),.p (.bool false),.p (.int .i64 (0:Int)),.p (.str ([]:List UInt8)),.p (.nilsl),.p (.nilsl)],.box 36 [.p (.int .i64 x21),.p (.bool x22),.p (.int .i64 x23),.p (.str x24),.p (.sl (Val.rows x25)),.p (.sl (strs x26))]]) (B:=F_R17_one_l2 n x2 x1) h ⟨[0,1],[],⟨rfl,rfl,rfl,rfl⟩,by repeat (first | exact trivial | exact .inl rfl | exact rfl | exact List.not_mem_nil | (refine .inr ?_) | (refine ⟨?_,?_⟩) | exact List.length_set.symm | decide),by repeat (first | exact trivial | exact .inl rfl | exact rfl | exact List.not_mem_nil | (refine .inr ?_) | (refine ⟨?_,?_⟩) | exact List.length_set.symm | decide)⟩ ?_
    intro nx2 st h
    obtain ⟨x20,x21,x22,x23,x24,x25,x26⟩:=st
    unfold F_R17_one_l2 at h
    conv=>whnf
    refine ⟨fun hc=>?_,fun hc=>?_⟩
    ·replace h:=cond_t h hc
     conv=>whnf
     refine SeqA.cut (S:=Int × Bool × Int × List UInt8 × List Val × List (List UInt8)) (fun (x27,x28,x29,x30,x31,x32)=>[(0,.p (.str x1)),(1,.p (.sl (Val.rows x2))),(4,.ptr 0 0),(11,.ptr 1 0),(12,.p (.int .i64 x20))]) (fun (x27,x28,x29,x30,x31,x32)=>[.box 36 [.p (.int .i64 (0:Int)),.p (.bool false),.p (.int .i64 (0:Int)),.p (.str ([]:List UInt8)),.p (.nilsl),.p (.nilsl)],.box 36 [.p (.int .i64 x27),.p (.bool x28),.p (.int .i64 x29),.p (.str x30),.p (.sl (Val.rows x31)),.p (.sl (strs x32))]]) (F_R17_one_k2 n nx2 x20) (r:=r) ?_ ?_
     ·intro st h
      obtain ⟨x27,x28,x29,x30,x31,x32⟩:=st
      unfold F_R17_one_k2 at h
      conv=>whnf
      exact ⟨((IntKind.i64.wrap (x20 + (1:Int))),x27,x28,x29,x30,x31,x32),h,⟨[0,1],[],⟨rfl,rfl,rfl,rfl⟩,by repeat (first | exact trivial | exact .inl rfl | exact rfl | exact List.not_mem_nil | (refine .inr ?_) | (refine ⟨?_,?_⟩) | exact List.length_set.symm | decide),by repeat (first | exact trivial | exact .inl rfl | exact rfl | exact List.not_mem_nil | (refine .inr ?_) | (refine ⟨?_,?_⟩) | exact List.length_set.symm | decide)⟩⟩
     ·conv=>whnf
      replace h:=bnd_some h
      obtain ⟨⟨x33,x34,x35,x36,x37,x38⟩,h7,h⟩:=h
      refine ⟨_,Codec.at_ valC h7,?_⟩
      conv=>whnf
      replace h:=bnd_some h
      obtain ⟨x39,h6,h⟩:=h
      refine ⟨_,(F_R03_Order_ok n _ _  _ h6),?_⟩
      conv=>whnf
      iterate 12 (refine And.intro (fun h=>h) ?_)
      conv=>whnf
      refine ⟨fun hc=>?_,fun hc=>?_⟩
      ·replace h:=cond_t h hc
       conv=>whnf
       replace h:=bnd_some h
       obtain ⟨⟨x40,x41,x42,x43,x44,x45⟩,h5,h⟩:=h
       refine ⟨_,Codec.at_ valC h5,?_⟩
       conv=>whnf
       exact ⟨(x40,x41,x42,x43,x44,x45),h,⟨[0,1],[],⟨rfl,rfl,rfl,rfl⟩,by repeat (first | exact trivial | exact .inl rfl | exact rfl | exact List.not_mem_nil | (refine .inr ?_) | (refine ⟨?_,?_⟩) | exact List.length_set.symm | decide),by repeat (first | exact trivial | exact .inl rfl | exact rfl | exact List.not_mem_nil | (refine .inr ?_) | (refine ⟨?_,?_⟩) | exact List.length_set.symm | decide)⟩⟩
      ·replace h:=cond_f h hc
       conv=>whnf
       exact ⟨(x21,x22,x23,x24,x25,x26),h,⟨[0,1],[],⟨rfl,rfl,rfl,rfl⟩,by repeat (first | exact trivial | exact .inl rfl | exact rfl | exact List.not_mem_nil | (refine .inr ?_) | (refine ⟨?_,?_⟩) | exact List.length_set.symm | decide),by repeat (first | exact trivial | exact .inl rfl | exact rfl | exact List.not_mem_nil | (refine .inr ?_) | (refine ⟨?_,?_⟩) | exact List.length_set.symm | decide)⟩⟩
    ·replace h:=cond_f h hc
     obtain rfl:=Option.some.inj h
     conv=>whnf
     repeat (first | exact rfl | exact trivial | refine ⟨?_,?_⟩)
end W
end
section
open Go Go.Proofs Ax
namespace W
abbrev R_F_R17_Group (r:List (List Val) × Int):PV:=PV.tup [PV.sl (slRows valC r.1),PV.int .i64 r.2]
def F_R17_Group_k3 (n:Nat) (nx2:List (List Val) × Int → Option (List (List Val) × Int)) (x8:Int):List (List Val) → Option (List (List Val) × Int):=fun x9 =>
 nx2 (x9,(IntKind.i64.wrap (x8 + (1:Int))))
def F_R17_Group_k64 (n:Nat) (nx4:List Val × Int × Int → Option (List (List Val) × Int)) (x18:Int):List Val × Int → Option (List (List Val) × Int):=fun (x19,x20) =>
 nx4 (x19,x20,(IntKind.i64.wrap (x18 + (1:Int))))
def F_R17_Group_k67 (n:Nat) (nx5:List Val × Int → Option (List (List Val) × Int)) (x30:Int):List Val → Option (List (List Val) × Int):=fun x31 =>
 nx5 (x31,(IntKind.i64.wrap (x30 + (1:Int))))
def F_R17_Group_l5 (n:Nat) (x1:List (List Val)) (x18:Int) (x2:List (List UInt8)) (x13:List (List Val)) (x15:Int) (x16:List Val) (nx4:List Val × Int × Int → Option (List (List Val) × Int)) (x17:Int):(List Val × Int → Option (List (List Val) × Int)) → List Val × Int → Option (List (List Val) × Int):=fun nx5 (x29,x30) =>
 bif (decide (x30 < (((slRows valC x1).length:Nat):Int))) then (
 bnd (idx x1 x30) fun x32 =>
 bnd (idx x32 x18) fun ⟨x33,x34,x35,x36,x37,x38⟩ =>
 bnd (gsome (x33 != (0:Int)) (idx x1 x30)) fun x39 =>
 bnd (gsome (x33 != (0:Int)) (F_R17_keys n x39 x2)) fun x40 =>
 bnd (gsome (x33 != (0:Int)) (idx x13 x15)) fun x41 =>
 bnd (gsome (x33 != (0:Int)) (F_R03_SameList n x40 x41)) fun x42 =>
 bif (bif (x33 != (0:Int)) then x42 else false) then (
 bnd (idx x1 x30) fun x43 =>
 bnd (idx x43 x18) fun ⟨x44,x45,x46,x47,x48,x49⟩ =>
 chk (decide ((Val.rows (x29 ++ [Val.mk x44 x45 x46 x47 x48 x49])).length * 88 ≤ 140737488355328)) (
 F_R17_Group_k67 n nx5 x30 (x29 ++ [Val.mk x44 x45 x46 x47 x48 x49])))
else (
 F_R17_Group_k67 n nx5 x30 x29))
else (
 bnd (idx x2 x18) fun x50 =>
 bnd (F_R17_one n x50 x29) fun ⟨⟨x51,x52,x53,x54,x55,x56⟩,x57⟩ =>
 bif (x57 != (0:Int)) then (
 some (([]:List (List Val)),x57))
else (
 chk (decide ((Val.rows (x16 ++ [Val.mk x51 x52 x53 x54 x55 x56])).length * 88 ≤ 140737488355328)) (
 F_R17_Group_k64 n nx4 x18 ((x16 ++ [Val.mk x51 x52 x53 x54 x55 x56]),x17))))
def F_R17_Group_l4 (n:Nat) (x2:List (List UInt8)) (x13:List (List Val)) (x15:Int) (x1:List (List Val)) (x14:List (List Val)) (nx3:List (List Val) × Int → Option (List (List Val) × Int)):(List Val × Int × Int → Option (List (List Val) × Int)) → List Val × Int × Int → Option (List (List Val) × Int):=fun nx4 (x16,x17,x18) =>
 bif (decide (x18 < (((strs x2).length:Nat):Int))) then (
 bnd (idx x2 x18) fun x21 =>
 bif (x21 == ([]:List UInt8)) then (
 bnd (idx x13 x15) fun x22 =>
 bnd (idx x22 x17) fun ⟨x23,x24,x25,x26,x27,x28⟩ =>
 chk (decide ((Val.rows (x16 ++ [Val.mk x23 x24 x25 x26 x27 x28])).length * 88 ≤ 140737488355328)) (
 F_R17_Group_k64 n nx4 x18 ((x16 ++ [Val.mk x23 x24 x25 x26 x27 x28]),(IntKind.i64.wrap (x17 + (1:Int))))))
else (
 loopK (F_R17_Group_l5 n x1 x18 x2 x13 x15 x16 nx4 x17) n (([]:List _),(0:Int))))
else (
 chk (decide ((slRows valC (x14 ++ [x16])).length * 24 ≤ 140737488355328)) (
 nx3 ((x14 ++ [x16]),(IntKind.i64.wrap (x15 + (1:Int))))))
def F_R17_Group_l3 (n:Nat) (x13:List (List Val)) (x2:List (List UInt8)) (x1:List (List Val)):(List (List Val) × Int → Option (List (List Val) × Int)) → List (List Val) × Int → Option (List (List Val) × Int):=fun nx3 (x14,x15) =>
 bif (decide (x15 < (((slRows valC x13).length:Nat):Int))) then (
 loopK (F_R17_Group_l4 n x2 x13 x15 x1 x14 nx3) n (([]:List _),(0:Int),(0:Int)))
else (
 some (x14,(0:Int)))
def F_R17_Group_k4 (n:Nat) (x2:List (List UInt8)) (x1:List (List Val)):List (List Val) → Option (List (List Val) × Int):=fun x13 =>
 loopK (F_R17_Group_l3 n x13 x2 x1) n (([]:List _),(0:Int))
def F_R17_Group_l2 (n:Nat) (x3:List (List Val)) (x2:List (List UInt8)) (x1:List (List Val)):(List (List Val) × Int → Option (List (List Val) × Int)) → List (List Val) × Int → Option (List (List Val) × Int):=fun nx2 (x7,x8) =>
 bif (decide (x8 < (((slRows valC x3).length:Nat):Int))) then (
 bnd (idx x3 x8) fun x10 =>
 bnd (F_R17_Among n x10 x7) fun x11 =>
 bif (decide (x11 < (0:Int))) then (
 bnd (idx x3 x8) fun x12 =>
 chk (decide ((slRows valC (x7 ++ [x12])).length * 24 ≤ 140737488355328)) (
 F_R17_Group_k3 n nx2 x8 (x7 ++ [x12])))
else (
 F_R17_Group_k3 n nx2 x8 x7))
else (
 bnd (gsome ((((slRows valC x7).length:Nat):Int) == (0:Int)) (natI (((strs x2).length:Nat):Int))) fun x58 =>
 chk (bif ((((slRows valC x7).length:Nat):Int) == (0:Int)) then decide (x58 * 88 ≤ 140737488355328) else true) (
 bnd (gsome ((((slRows valC x7).length:Nat):Int) == (0:Int)) (F_R17_keys n (List.replicate x58 (Val.mk (0:Int) false (0:Int) ([]:List UInt8) ([]:List Val) ([]:List (List UInt8)))) x2)) fun x59 =>
 bif (bif ((((slRows valC x7).length:Nat):Int) == (0:Int)) then ((((Val.rows x59).length:Nat):Int) == (0:Int)) else false) then (
 chk (decide ((slRows valC (x7 ++ [([]:List Val)])).length * 24 ≤ 140737488355328)) (
 F_R17_Group_k4 n x2 x1 (x7 ++ [([]:List Val)])))
else (
 F_R17_Group_k4 n x2 x1 x7)))
def F_R17_Group_l1 (n:Nat) (x1:List (List Val)) (x2:List (List UInt8)):(List (List Val) × Int → Option (List (List Val) × Int)) → List (List Val) × Int → Option (List (List Val) × Int):=fun nx1 (x3,x4) =>
 bif (decide (x4 < (((slRows valC x1).length:Nat):Int))) then (
 bnd (idx x1 x4) fun x5 =>
 bnd (F_R17_keys n x5 x2) fun x6 =>
 chk (decide ((slRows valC (x3 ++ [x6])).length * 24 ≤ 140737488355328)) (
 nx1 ((x3 ++ [x6]),(IntKind.i64.wrap (x4 + (1:Int))))))
else (
 loopK (F_R17_Group_l2 n x3 x2 x1) n (([]:List _),(0:Int)))
def F_R17_Group (n:Nat)  (x1:List (List Val)) (x2:List (List UInt8)):Option (List (List Val) × Int) :=
 loopK (F_R17_Group_l1 n x1 x2) n (([]:List _),(0:Int))
set_option maxHeartbeats 20000000 in
set_option maxRecDepth 100000 in
theorem F_R17_Group_ok (n:Nat)   : ∀ (x1:List (List Val)) (x2:List (List UInt8)) (r:List (List Val) × Int),F_R17_Group n x1 x2 = some r → CallsF Tryz.prog 9 [PV.sl (slRows valC x1),PV.sl (strs x2)] (R_F_R17_Group r):=by
 intro x1 x2 r h
 unfold F_R17_Group at h
 refine CallsF.of_vcN mixed (fun _ _=>Tryz.call9 _ _) Tryz.func9 (by kernel_rfl) (inl:=[29,1000000]) ?_
 conv=>whnf
 refine LoopA.fn [29,1000000] (S:=List (List Val) × Int) (fun (x3,x4)=>[(0,.p (.sl (slRows valC x1))),(1,.p (.sl (strs x2))),(6,.tsl 0 (slRows valC x3)),(7,.p (.int .i64 x4))]) (fun (x3,x4)=>[.tail 34 1 (slRows valC x3).length]) (B:=F_R17_Group_l1 n x1 x2) h ⟨[0],[0],⟨rfl,rfl,rfl,rfl⟩,by repeat (first | exact trivial | exact .inl rfl | exact rfl | exact List.not_mem_nil | (refine .inr ?_) | (refine ⟨?_,?_⟩) | exact List.length_set.symm | decide),by repeat (first | exact trivial | exact .inl rfl | exact rfl | exact List.not_mem_nil | (refine .inr ?_) | (refine ⟨?_,?_⟩) | exact List.length_set.symm | decide)⟩ ?_
 intro nx1 st h
 obtain ⟨x3,x4⟩:=st
 unfold F_R17_Group_l1 at h
 conv=>whnf
 refine ⟨fun hc=>?_,fun hc=>?_⟩
 ·replace h:=cond_t h hc
  conv=>whnf
  replace h:=bnd_some h
  obtain ⟨x5,h3,h⟩:=h
  refine ⟨_,Codec.at_ (slC valC) h3,?_⟩
  conv=>whnf
  replace h:=bnd_some h
  obtain ⟨x6,h2,h⟩:=h
  refine ⟨_,(F_R17_keys_ok n _ _  _ h2),?_⟩
  conv=>whnf
  refine ⟨Codec.one (slC valC) [x6],slRows valC [x6],.inl rfl,?_⟩
  conv=>whnf
  rw [show slRows valC x3 ++ slRows valC [x6] = slRows valC (x3 ++ [x6]) from Codec.append (slC valC) x3 [x6]]
  conv=>whnf
  obtain ⟨h1,h⟩:=chk_some h
  refine ⟨⟨Codec.wide (slC valC) (x3 ++ [x6]),of_decide_eq_true h1,len_ok h1 (by decide)⟩,?_⟩
  conv=>whnf
  refine ⟨⟨rfl,rfl,rfl⟩,?_⟩
  conv=>whnf
  exact ⟨((x3 ++ [x6]),(IntKind.i64.wrap (x4 + (1:Int)))),h,⟨[1],[],⟨rfl,rfl,rfl,rfl⟩,by repeat (first | exact trivial | exact .inl rfl | exact rfl | exact List.not_mem_nil | (refine .inr ?_) | (refine ⟨?_,?_⟩) | exact List.length_set.symm | decide),by repeat (first | exact trivial | exact .inl rfl | exact rfl | exact List.not_mem_nil | (refine .inr ?_) | (refine ⟨?_,?_⟩) | exact List.length_set.symm | decide)⟩⟩
 ·replace h:=cond_f h hc
  conv=>whnf
  refine CallsI.of_vc mixed (fun _ _=>Tryz.call29 _ _) Tryz.func29 (by kernel_rfl) (inl:=[1000000]) ?_
  conv=>whnf
  refine LoopA.fn [1000000] (S:=List (List Val) × Int) (fun (x7,x8)=>[(0,.tsl 0 (slRows valC x3)),(3,.tsl 1 (slRows valC x7)),(4,.p (.int .i64 x8))]) (fun (x7,x8)=>[.tail 34 1 (slRows valC x3).length,.tail 34 1 (slRows valC x7).length]) (B:=F_R17_Group_l2 n x3 x2 x1) h ⟨[0,0],[1],⟨rfl,rfl,rfl,rfl⟩,by repeat (first | exact trivial | exact .inl rfl | exact rfl | exact List.not_mem_nil | (refine .inr ?_) | (refine ⟨?_,?_⟩) | exact List.length_set.symm | decide),by repeat (first | exact trivial | exact .inl rfl | exact rfl | exact List.not_mem_nil | (refine .inr ?_) | (refine ⟨?_,?_⟩) | exact List.length_set.symm | decide)⟩ ?_
  intro nx2 st h
  obtain ⟨x7,x8⟩:=st
  unfold F_R17_Group_l2 at h
  conv=>whnf
  refine ⟨fun hc=>?_,fun hc=>?_⟩
  ·replace h:=cond_t h hc
   conv=>whnf
   refine SeqA.cut (S:=List (List Val)) (fun x9=>[(0,.tsl 0 (slRows valC x3)),(3,.tsl 1 (slRows valC x9)),(4,.p (.int .i64 x8))]) (fun x9=>[.tail 34 1 (slRows valC x3).length,.tail 34 1 (slRows valC x9).length]) (F_R17_Group_k3 n nx2 x8) (r:=r) ?_ ?_
   ·intro x9 h
    unfold F_R17_Group_k3 at h
    conv=>whnf
    exact ⟨(x9,(IntKind.i64.wrap (x8 + (1:Int)))),h,⟨[0,1],[],⟨rfl,rfl,rfl,rfl⟩,by repeat (first | exact trivial | exact .inl rfl | exact rfl | exact List.not_mem_nil | (refine .inr ?_) | (refine ⟨?_,?_⟩) | exact List.length_set.symm | decide),by repeat (first | exact trivial | exact .inl rfl | exact rfl | exact List.not_mem_nil | (refine .inr ?_) | (refine ⟨?_,?_⟩) | exact List.length_set.symm | decide)⟩⟩
   ·conv=>whnf
    replace h:=bnd_some h
    obtain ⟨x10,h7,h⟩:=h
    refine ⟨_,Codec.at_ (slC valC) h7,?_⟩
    conv=>whnf
    replace h:=bnd_some h
    obtain ⟨x11,h6,h⟩:=h
    refine ⟨_,(F_R17_Among_ok n _ _  _ h6),?_⟩
    conv=>whnf
    refine ⟨fun hc=>?_,fun hc=>?_⟩
    ·replace h:=cond_t h hc
     conv=>whnf
     replace h:=bnd_some h
     obtain ⟨x12,h5,h⟩:=h
     refine ⟨_,Codec.at_ (slC valC) h5,?_⟩
     conv=>whnf
     refine ⟨Codec.one (slC valC) [x12],slRows valC [x12],.inl rfl,?_⟩
     conv=>whnf
     rw [show slRows valC x7 ++ slRows valC [x12] = slRows valC (x7 ++ [x12]) from Codec.append (slC valC) x7 [x12]]
     conv=>whnf
     obtain ⟨h4,h⟩:=chk_some h
     refine ⟨⟨Codec.wide (slC valC) (x7 ++ [x12]),of_decide_eq_true h4,len_ok h4 (by decide)⟩,?_⟩
     conv=>whnf
     refine ⟨⟨rfl,rfl,rfl⟩,?_⟩
     conv=>whnf
     exact ⟨(x7 ++ [x12]),h,⟨[0,2],[],⟨rfl,rfl,rfl,rfl⟩,by repeat (first | exact trivial | exact .inl rfl | exact rfl | exact List.not_mem_nil | (refine .inr ?_) | (refine ⟨?_,?_⟩) | exact List.length_set.symm | decide),by repeat (first | exact trivial | exact .inl rfl | exact rfl | exact List.not_mem_nil | (refine .inr ?_) | (refine ⟨?_,?_⟩) | exact List.length_set.symm | decide)⟩⟩
    ·replace h:=cond_f h hc
     conv=>whnf
     exact ⟨x7,h,⟨[0,1],[],⟨rfl,rfl,rfl,rfl⟩,by repeat (first | exact trivial | exact .inl rfl | exact rfl | exact List.not_mem_nil | (refine .inr ?_) | (refine ⟨?_,?_⟩) | exact List.length_set.symm | decide),by repeat (first | exact trivial | exact .inl rfl | exact rfl | exact List.not_mem_nil | (refine .inr ?_) | (refine ⟨?_,?_⟩) | exact List.length_set.symm | decide)⟩⟩
  ·replace h:=cond_f h hc
   conv=>whnf
   refine SeqA.cut (S:=List (List Val)) (fun x13=>[(0,.p (.sl (slRows valC x1))),(1,.p (.sl (strs x2))),(6,.tsl 0 (slRows valC x13))]) (fun x13=>[.tail 34 1 (slRows valC x13).length]) (F_R17_Group_k4 n x2 x1) (r:=r) ?_ ?_
   ·intro x13 h
    unfold F_R17_Group_k4 at h
    conv=>whnf
    refine LoopA.fn [29,1000000] (S:=List (List Val) × Int) (fun (x14,x15)=>[(0,.p (.sl (slRows valC x1))),(1,.p (.sl (strs x2))),(6,.tsl 0 (slRows valC x13)),(8,.tsl 1 (slRows valC x14)),(9,.p (.int .i64 x15))]) (fun (x14,x15)=>[.tail 34 1 (slRows valC x13).length,.tail 34 1 (slRows valC x14).length]) (B:=F_R17_Group_l3 n x13 x2 x1) h ⟨[0,0],[1],⟨rfl,rfl,rfl,rfl⟩,by repeat (first | exact trivial | exact .inl rfl | exact rfl | exact List.not_mem_nil | (refine .inr ?_) | (refine ⟨?_,?_⟩) | exact List.length_set.symm | decide),by repeat (first | exact trivial | exact .inl rfl | exact rfl | exact List.not_mem_nil | (refine .inr ?_) | (refine ⟨?_,?_⟩) | exact List.length_set.symm | decide)⟩ ?_
    intro nx3 st h
    obtain ⟨x14,x15⟩:=st
    unfold F_R17_Group_l3 at h
    conv=>whnf
    refine ⟨fun hc=>?_,fun hc=>?_⟩
    ·replace h:=cond_t h hc
     conv=>whnf
     refine LoopA.fn [29,1000000] (S:=List Val × Int × Int) (fun (x16,x17,x18)=>[(0,.p (.sl (slRows valC x1))),(1,.p (.sl (strs x2))),(6,.tsl 0 (slRows valC x13)),(8,.tsl 1 (slRows valC x14)),(9,.p (.int .i64 x15)),(10,.tsl 2 (Val.rows x16)),(11,.p (.int .i64 x17)),(12,.p (.int .i64 x18))]) (fun (x16,x17,x18)=>[.tail 34 1 (slRows valC x13).length,.tail 34 1 (slRows valC x14).length,.tail 36 6 (Val.rows x16).length]) (B:=F_R17_Group_l4 n x2 x13 x15 x1 x14 nx3) h ⟨[0,1,0],[2],⟨rfl,rfl,rfl,rfl⟩,by repeat (first | exact trivial | exact .inl rfl | exact rfl | exact List.not_mem_nil | (refine .inr ?_) | (refine ⟨?_,?_⟩) | exact List.length_set.symm | decide),by repeat (first | exact trivial | exact .inl rfl | exact rfl | exact List.not_mem_nil | (refine .inr ?_) | (refine ⟨?_,?_⟩) | exact List.length_set.symm | decide)⟩ ?_
     intro nx4 st h
     obtain ⟨x16,x17,x18⟩:=st
     unfold F_R17_Group_l4 at h
     conv=>whnf
     refine ⟨fun hc=>?_,fun hc=>?_⟩
     ·replace h:=cond_t h hc
      conv=>whnf
      refine SeqA.cut (S:=List Val × Int) (fun (x19,x20)=>[(0,.p (.sl (slRows valC x1))),(1,.p (.sl (strs x2))),(6,.tsl 0 (slRows valC x13)),(8,.tsl 1 (slRows valC x14)),(9,.p (.int .i64 x15)),(10,.tsl 2 (Val.rows x19)),(11,.p (.int .i64 x20)),(12,.p (.int .i64 x18))]) (fun (x19,x20)=>[.tail 34 1 (slRows valC x13).length,.tail 34 1 (slRows valC x14).length,.tail 36 6 (Val.rows x19).length]) (F_R17_Group_k64 n nx4 x18) (r:=r) ?_ ?_
      ·intro st h
       obtain ⟨x19,x20⟩:=st
       unfold F_R17_Group_k64 at h
       conv=>whnf
       exact ⟨(x19,x20,(IntKind.i64.wrap (x18 + (1:Int)))),h,⟨[0,1,2],[],⟨rfl,rfl,rfl,rfl⟩,by repeat (first | exact trivial | exact .inl rfl | exact rfl | exact List.not_mem_nil | (refine .inr ?_) | (refine ⟨?_,?_⟩) | exact List.length_set.symm | decide),by repeat (first | exact trivial | exact .inl rfl | exact rfl | exact List.not_mem_nil | (refine .inr ?_) | (refine ⟨?_,?_⟩) | exact List.length_set.symm | decide)⟩⟩
      ·conv=>whnf
       replace h:=bnd_some h
       obtain ⟨x21,h23,h⟩:=h
       refine ⟨_,Codec.at_ strC h23,?_⟩
       conv=>whnf
       refine ⟨fun hc=>?_,fun hc=>?_⟩
       ·replace h:=cond_t h hc
        conv=>whnf
        replace h:=bnd_some h
        obtain ⟨x22,h10,h⟩:=h
        refine ⟨_,Codec.at_ (slC valC) h10,?_⟩
        conv=>whnf
        replace h:=bnd_some h
        obtain ⟨⟨x23,x24,x25,x26,x27,x28⟩,h9,h⟩:=h
        refine ⟨_,Codec.at_ valC h9,?_⟩
        conv=>whnf
        refine ⟨Codec.one valC [Val.mk x23 x24 x25 x26 x27 x28],Val.rows [Val.mk x23 x24 x25 x26 x27 x28],.inl rfl,?_⟩
        conv=>whnf
        rw [show Val.rows x16 ++ Val.rows [Val.mk x23 x24 x25 x26 x27 x28] = Val.rows (x16 ++ [Val.mk x23 x24 x25 x26 x27 x28]) from Codec.append valC x16 [Val.mk x23 x24 x25 x26 x27 x28]]
        conv=>whnf
        obtain ⟨h8,h⟩:=chk_some h
        refine ⟨⟨Codec.wide valC (x16 ++ [Val.mk x23 x24 x25 x26 x27 x28]),of_decide_eq_true h8,len_ok h8 (by decide)⟩,?_⟩
        conv=>whnf
        refine ⟨⟨rfl,rfl,rfl⟩,?_⟩
        conv=>whnf
        exact ⟨((x16 ++ [Val.mk x23 x24 x25 x26 x27 x28]),(IntKind.i64.wrap (x17 + (1:Int)))),h,⟨[0,1,3],[],⟨rfl,rfl,rfl,rfl⟩,by repeat (first | exact trivial | exact .inl rfl | exact rfl | exact List.not_mem_nil | (refine .inr ?_) | (refine ⟨?_,?_⟩) | exact List.length_set.symm | decide),by repeat (first | exact trivial | exact .inl rfl | exact rfl | exact List.not_mem_nil | (refine .inr ?_) | (refine ⟨?_,?_⟩) | exact List.length_set.symm | decide)⟩⟩
       ·replace h:=cond_f h hc
        conv=>whnf
        refine LoopA.fn [29,1000000] (S:=List Val × Int) (fun (x29,x30)=>[(0,.p (.sl (slRows valC x1))),(1,.p (.sl (strs x2))),(6,.tsl 0 (slRows valC x13)),(8,.tsl 1 (slRows valC x14)),(9,.p (.int .i64 x15)),(10,.tsl 2 (Val.rows x16)),(11,.p (.int .i64 x17)),(12,.p (.int .i64 x18)),(13,.tsl 3 (Val.rows x29)),(14,.p (.int .i64 x30))]) (fun (x29,x30)=>[.tail 34 1 (slRows valC x13).length,.tail 34 1 (slRows valC x14).length,.tail 36 6 (Val.rows x16).length,.tail 36 6 (Val.rows x29).length]) (B:=F_R17_Group_l5 n x1 x18 x2 x13 x15 x16 nx4 x17) h ⟨[0,1,2,0],[3],⟨rfl,rfl,rfl,rfl⟩,by repeat (first | exact trivial | exact .inl rfl | exact rfl | exact List.not_mem_nil | (refine .inr ?_) | (refine ⟨?_,?_⟩) | exact List.length_set.symm | decide),by repeat (first | exact trivial | exact .inl rfl | exact rfl | exact List.not_mem_nil | (refine .inr ?_) | (refine ⟨?_,?_⟩) | exact List.length_set.symm | decide)⟩ ?_
        intro nx5 st h
        obtain ⟨x29,x30⟩:=st
        unfold F_R17_Group_l5 at h
        conv=>whnf
        refine ⟨fun hc=>?_,fun hc=>?_⟩
        ·replace h:=cond_t h hc
         conv=>whnf
         refine SeqA.cut (S:=List Val) (fun x31=>[(0,.p (.sl (slRows valC x1))),(1,.p (.sl (strs x2))),(6,.tsl 0 (slRows valC x13)),(8,.tsl 1 (slRows valC x14)),(9,.p (.int .i64 x15)),(10,.tsl 2 (Val.rows x16)),(11,.p (.int .i64 x17)),(12,.p (.int .i64 x18)),(13,.tsl 3 (Val.rows x31)),(14,.p (.int .i64 x30))]) (fun x31=>[.tail 34 1 (slRows valC x13).length,.tail 34 1 (slRows valC x14).length,.tail 36 6 (Val.rows x16).length,.tail 36 6 (Val.rows x31).length]) (F_R17_Group_k67 n nx5 x30) (r:=r) ?_ ?_
         ·intro x31 h
          unfold F_R17_Group_k67 at h
          conv=>whnf
          exact ⟨(x31,(IntKind.i64.wrap (x30 + (1:Int)))),h,⟨[0,1,2,3],[],⟨rfl,rfl,rfl,rfl⟩,by repeat (first | exact trivial | exact .inl rfl | exact rfl | exact List.not_mem_nil | (refine .inr ?_) | (refine ⟨?_,?_⟩) | exact List.length_set.symm | decide),by repeat (first | exact trivial | exact .inl rfl | exact rfl | exact List.not_mem_nil | (refine .inr ?_) | (refine ⟨?_,?_⟩) | exact List.length_set.symm | decide)⟩⟩
         ·conv=>whnf
          replace h:=bnd_some h
          obtain ⟨x32,h19,h⟩:=h
          refine ⟨_,Codec.at_ (slC valC) h19,?_⟩
          conv=>whnf
          replace h:=bnd_some h
          obtain ⟨⟨x33,x34,x35,x36,x37,x38⟩,h18,h⟩:=h
          refine ⟨_,Codec.at_ valC h18,?_⟩
          conv=>whnf
          iterate 2 (refine And.intro (fun h=>h) ?_)
          conv=>whnf
          replace h:=bnd_some h
          obtain ⟨x39,h17,h⟩:=h
          refine ⟨_,fun hg=>Codec.at_ (slC valC) (gsome_some h17 hg),?_⟩
          conv=>whnf
          iterate 3 (refine And.intro (fun h=>h) ?_)
          conv=>whnf
          replace h:=bnd_some h
          obtain ⟨x40,h16,h⟩:=h
          refine ⟨_,fun hg=>(F_R17_keys_ok n _ _  _ (gsome_some h16 hg)),?_⟩
          conv=>whnf
          iterate 2 (refine And.intro (fun h=>h) ?_)
          conv=>whnf
          replace h:=bnd_some h
          obtain ⟨x41,h15,h⟩:=h
          refine ⟨_,fun hg=>Codec.at_ (slC valC) (gsome_some h15 hg),?_⟩
          conv=>whnf
          iterate 3 (refine And.intro (fun h=>h) ?_)
          conv=>whnf
          replace h:=bnd_some h
          obtain ⟨x42,h14,h⟩:=h
          refine ⟨_,fun hg=>(F_R03_SameList_ok n _ _  _ (gsome_some h14 hg)),?_⟩
          conv=>whnf
          refine And.intro (fun h=>h) ?_
          conv=>whnf
          refine ⟨fun hc=>?_,fun hc=>?_⟩
          ·replace h:=cond_t h hc
           conv=>whnf
           replace h:=bnd_some h
           obtain ⟨x43,h13,h⟩:=h
           refine ⟨_,Codec.at_ (slC valC) h13,?_⟩
           conv=>whnf
           replace h:=bnd_some h
           obtain ⟨⟨x44,x45,x46,x47,x48,x49⟩,h12,h⟩:=h
           refine ⟨_,Codec.at_ valC h12,?_⟩
           conv=>whnf
           refine ⟨Codec.one valC [Val.mk x44 x45 x46 x47 x48 x49],Val.rows [Val.mk x44 x45 x46 x47 x48 x49],.inl rfl,?_⟩
           conv=>whnf
           rw [show Val.rows x29 ++ Val.rows [Val.mk x44 x45 x46 x47 x48 x49] = Val.rows (x29 ++ [Val.mk x44 x45 x46 x47 x48 x49]) from Codec.append valC x29 [Val.mk x44 x45 x46 x47 x48 x49]]
           conv=>whnf
           obtain ⟨h11,h⟩:=chk_some h
           refine ⟨⟨Codec.wide valC (x29 ++ [Val.mk x44 x45 x46 x47 x48 x49]),of_decide_eq_true h11,len_ok h11 (by decide)⟩,?_⟩
           conv=>whnf
           refine ⟨⟨rfl,rfl,rfl⟩,?_⟩
           conv=>whnf
           exact ⟨(x29 ++ [Val.mk x44 x45 x46 x47 x48 x49]),h,⟨[0,1,2,4],[],⟨rfl,rfl,rfl,rfl⟩,by repeat (first | exact trivial | exact .inl rfl | exact rfl | exact List.not_mem_nil | (refine .inr ?_) | (refine ⟨?_,?_⟩) | exact List.length_set.symm | decide),by repeat (first | exact trivial | exact .inl rfl | exact rfl | exact List.not_mem_nil | (refine .inr ?_) | (refine ⟨?_,?_⟩) | exact List.length_set.symm | decide)⟩⟩
          ·replace h:=cond_f h hc
           conv=>whnf
           exact ⟨x29,h,⟨[0,1,2,3],[],⟨rfl,rfl,rfl,rfl⟩,by repeat (first | exact trivial | exact .inl rfl | exact rfl | exact List.not_mem_nil | (refine .inr ?_) | (refine ⟨?_,?_⟩) | exact List.length_set.symm | decide),by repeat (first | exact trivial | exact .inl rfl | exact rfl | exact List.not_mem_nil | (refine .inr ?_) | (refine ⟨?_,?_⟩) | exact List.length_set.symm | decide)⟩⟩
        ·replace h:=cond_f h hc
         conv=>whnf
         replace h:=bnd_some h
         obtain ⟨x50,h22,h⟩:=h
         refine ⟨_,Codec.at_ strC h22,?_⟩
         conv=>whnf
         replace h:=bnd_some h
         obtain ⟨⟨⟨x51,x52,x53,x54,x55,x56⟩,x57⟩,h21,h⟩:=h
         refine ⟨_,(F_R17_one_ok n _ _  _ h21),?_⟩
         conv=>whnf
         refine ⟨fun hc=>?_,fun hc=>?_⟩
         ·replace h:=cond_t h hc
          obtain rfl:=Option.some.inj h
          conv=>whnf
          repeat (first | exact rfl | exact trivial | refine ⟨?_,?_⟩)
         ·replace h:=cond_f h hc
          conv=>whnf
          refine ⟨Codec.one valC [Val.mk x51 x52 x53 x54 x55 x56],Val.rows [Val.mk x51 x52 x53 x54 x55 x56],.inl rfl,?_⟩
          conv=>whnf
          rw [show Val.rows x16 ++ Val.rows [Val.mk x51 x52 x53 x54 x55 x56] = Val.rows (x16 ++ [Val.mk x51 x52 x53 x54 x55 x56]) from Codec.append valC x16 [Val.mk x51 x52 x53 x54 x55 x56]]
          conv=>whnf
          obtain ⟨h20,h⟩:=chk_some h
          refine ⟨⟨Codec.wide valC (x16 ++ [Val.mk x51 x52 x53 x54 x55 x56]),of_decide_eq_true h20,len_ok h20 (by decide)⟩,?_⟩
          conv=>whnf
          refine ⟨⟨rfl,rfl,rfl⟩,?_⟩
          conv=>whnf
          exact ⟨((x16 ++ [Val.mk x51 x52 x53 x54 x55 x56]),x17),h,⟨[0,1,5],[],⟨rfl,rfl,rfl,rfl⟩,by repeat (first | exact trivial | exact .inl rfl | exact rfl | exact List.not_mem_nil | (refine .inr ?_) | (refine ⟨?_,?_⟩) | exact List.length_set.symm | decide),by repeat (first | exact trivial | exact .inl rfl | exact rfl | exact List.not_mem_nil | (refine .inr ?_) | (refine ⟨?_,?_⟩) | exact List.length_set.symm | decide)⟩⟩
     ·replace h:=cond_f h hc
      conv=>whnf
      refine ⟨Codec.one (slC valC) [x16],slRows valC [x16],.inl rfl,?_⟩
      conv=>whnf
      rw [show slRows valC x14 ++ slRows valC [x16] = slRows valC (x14 ++ [x16]) from Codec.append (slC valC) x14 [x16]]
      conv=>whnf
      obtain ⟨h24,h⟩:=chk_some h
      refine ⟨⟨Codec.wide (slC valC) (x14 ++ [x16]),of_decide_eq_true h24,len_ok h24 (by decide)⟩,?_⟩
      conv=>whnf
      refine ⟨⟨rfl,rfl,rfl⟩,?_⟩
      conv=>whnf
      exact ⟨((x14 ++ [x16]),(IntKind.i64.wrap (x15 + (1:Int)))),h,⟨[0,3],[],⟨rfl,rfl,rfl,rfl⟩,by repeat (first | exact trivial | exact .inl rfl | exact rfl | exact List.not_mem_nil | (refine .inr ?_) | (refine ⟨?_,?_⟩) | exact List.length_set.symm | decide),by repeat (first | exact trivial | exact .inl rfl | exact rfl | exact List.not_mem_nil | (refine .inr ?_) | (refine ⟨?_,?_⟩) | exact List.length_set.symm | decide)⟩⟩
    ·replace h:=cond_f h hc
     obtain rfl:=Option.some.inj h
     conv=>whnf
     repeat (first | exact rfl | exact trivial | refine ⟨?_,?_⟩)
   ·conv=>whnf
    refine And.intro (fun h=>h) ?_
    conv=>whnf
    iterate 2 (refine And.intro (fun h=>h) ?_)
    conv=>whnf
    replace h:=bnd_some h
    obtain ⟨x58,h25,h⟩:=h
    obtain ⟨h26,h⟩:=chk_some h
    refine ⟨x58,Val.rows (List.replicate x58 (Val.mk (0:Int) false (0:Int) ([]:List UInt8) ([]:List Val) ([]:List (List UInt8)))),fun hg=>⟨natI_some (gsome_some h25 hg),natI_some (gsome_some h25 hg),of_decide_eq_true (gd h26 hg),len_ok (gd h26 hg) (by decide)⟩,⟨Codec.madeN valC (Val.mk (0:Int) false (0:Int) ([]:List UInt8) ([]:List Val) ([]:List (List UInt8))) x58 (by repeat (first | exact rfl | exact trivial | refine ⟨?_,?_⟩)),rfl,by decide,rfl⟩,?_⟩
    conv=>whnf
    iterate 2 (refine And.intro (fun h=>h) ?_)
    conv=>whnf
    replace h:=bnd_some h
    obtain ⟨x59,h28,h⟩:=h
    refine ⟨_,fun hg=>(F_R17_keys_ok n _ _  _ (gsome_some h28 hg)),?_⟩
    conv=>whnf
    iterate 3 (refine And.intro (fun h=>h) ?_)
    conv=>whnf
    refine ⟨fun hc=>?_,fun hc=>?_⟩
    ·replace h:=cond_t h hc
     conv=>whnf
     refine ⟨by repeat (first | exact List.forall_mem_nil _ | refine List.forall_mem_cons.2 ⟨⟨rfl,rfl⟩,?_⟩),slRows valC [([]:List Val)],.inr (by repeat (first | exact rfl | exact trivial | refine ⟨?_,?_⟩)),?_⟩
     conv=>whnf
     rw [show slRows valC x7 ++ slRows valC [([]:List Val)] = slRows valC (x7 ++ [([]:List Val)]) from Codec.append (slC valC) x7 [([]:List Val)]]
     conv=>whnf
     obtain ⟨h27,h⟩:=chk_some h
     refine ⟨⟨Codec.wide (slC valC) (x7 ++ [([]:List Val)]),of_decide_eq_true h27,len_ok h27 (by decide)⟩,?_⟩
     conv=>whnf
     refine ⟨⟨rfl,rfl,rfl⟩,?_⟩
     conv=>whnf
     exact ⟨(x7 ++ [([]:List Val)]),h,⟨[3],[],⟨rfl,rfl,rfl,rfl⟩,by repeat (first | exact trivial | exact .inl rfl | exact rfl | exact List.not_mem_nil | (refine .inr ?_) | (refine ⟨?_,?_⟩) | exact List.length_set.symm | decide),by repeat (first | exact trivial | exact .inl rfl | exact rfl | exact List.not_mem_nil | (refine .inr ?_) | (refine ⟨?_,?_⟩) | exact List.length_set.symm | decide)⟩⟩
    ·replace h:=cond_f h hc
     conv=>whnf
     exact ⟨x7,h,⟨[1],[],⟨rfl,rfl,rfl,rfl⟩,by repeat (first | exact trivial | exact .inl rfl | exact rfl | exact List.not_mem_nil | (refine .inr ?_) | (refine ⟨?_,?_⟩) | exact List.length_set.symm | decide),by repeat (first | exact trivial | exact .inl rfl | exact rfl | exact List.not_mem_nil | (refine .inr ?_) | (refine ⟨?_,?_⟩) | exact List.length_set.symm | decide)⟩⟩
abbrev R_F_R17_Same (r:Bool):PV:=PV.bool r
def F_R17_Same_l1 (n:Nat) (x1:List (List Val)) (x2:List (List Val)):(Int → Option (Bool)) → Int → Option (Bool):=fun nx1 x3 =>
 bif (decide (x3 < (((slRows valC x1).length:Nat):Int))) then (
 bnd (idx x1 x3) fun x4 =>
 bnd (idx x2 x3) fun x5 =>
 bnd (F_R03_SameList n x4 x5) fun x6 =>
 bif (!x6) then (
 some false)
else (
 nx1 (IntKind.i64.wrap (x3 + (1:Int)))))
else (
 some true)
def F_R17_Same (n:Nat)  (x1:List (List Val)) (x2:List (List Val)):Option (Bool) :=
 bif ((((slRows valC x1).length:Nat):Int) != (((slRows valC x2).length:Nat):Int)) then (
 some false)
 else (
 loopK (F_R17_Same_l1 n x1 x2) n (0:Int))
set_option maxRecDepth 100000 in
theorem F_R17_Same_ok (n:Nat)   : ∀ (x1:List (List Val)) (x2:List (List Val)) (r:Bool),F_R17_Same n x1 x2 = some r → CallsF Tryz.prog 10 [PV.sl (slRows valC x1),PV.sl (slRows valC x2)] (R_F_R17_Same r):=by
 intro x1 x2 r h
 unfold F_R17_Same at h
 refine CallsF.of_vcN mixed (fun _ _=>Tryz.call10 _ _) Tryz.func10 (by kernel_rfl) (inl:=[1000000]) ?_
 conv=>whnf
 refine ⟨fun hc=>?_,fun hc=>?_⟩
 ·replace h:=cond_t h hc
  obtain rfl:=Option.some.inj h
  conv=>whnf
  repeat (first | exact rfl | exact trivial | refine ⟨?_,?_⟩)
 ·replace h:=cond_f h hc
  conv=>whnf
  refine LoopA.fn [1000000] (S:=Int) (fun x3=>[(0,.p (.sl (slRows valC x1))),(1,.p (.sl (slRows valC x2))),(5,.p (.int .i64 x3))]) (fun x3=>[]) (B:=F_R17_Same_l1 n x1 x2) h ⟨[],[],⟨rfl,rfl,rfl,rfl⟩,by repeat (first | exact trivial | exact .inl rfl | exact rfl | exact List.not_mem_nil | (refine .inr ?_) | (refine ⟨?_,?_⟩) | exact List.length_set.symm | decide),by repeat (first | exact trivial | exact .inl rfl | exact rfl | exact List.not_mem_nil | (refine .inr ?_) | (refine ⟨?_,?_⟩) | exact List.length_set.symm | decide)⟩ ?_
  intro nx1 x3 h
  unfold F_R17_Same_l1 at h
  conv=>whnf
  refine ⟨fun hc=>?_,fun hc=>?_⟩
  ·replace h:=cond_t h hc
   conv=>whnf
   replace h:=bnd_some h
   obtain ⟨x4,h3,h⟩:=h
   refine ⟨_,Codec.at_ (slC valC) h3,?_⟩
   conv=>whnf
   replace h:=bnd_some h
   obtain ⟨x5,h2,h⟩:=h
   refine ⟨_,Codec.at_ (slC valC) h2,?_⟩
   conv=>whnf
   replace h:=bnd_some h
   obtain ⟨x6,h1,h⟩:=h
   refine ⟨_,(F_R03_SameList_ok n _ _  _ h1),?_⟩
   conv=>whnf
   refine ⟨fun hc=>?_,fun hc=>?_⟩
   ·replace h:=cond_t h hc
    obtain rfl:=Option.some.inj h
    conv=>whnf
    repeat (first | exact rfl | exact trivial | refine ⟨?_,?_⟩)
   ·replace h:=cond_f h hc
    conv=>whnf
    exact ⟨(IntKind.i64.wrap (x3 + (1:Int))),h,⟨[],[],⟨rfl,rfl,rfl,rfl⟩,by repeat (first | exact trivial | exact .inl rfl | exact rfl | exact List.not_mem_nil | (refine .inr ?_) | (refine ⟨?_,?_⟩) | exact List.length_set.symm | decide),by repeat (first | exact trivial | exact .inl rfl | exact rfl | exact List.not_mem_nil | (refine .inr ?_) | (refine ⟨?_,?_⟩) | exact List.length_set.symm | decide)⟩⟩
  ·replace h:=cond_f h hc
   obtain rfl:=Option.some.inj h
   conv=>whnf
   repeat (first | exact rfl | exact trivial | refine ⟨?_,?_⟩)
end W
end
section
open Go Ax
namespace W
mutual
def vbig:Val → Nat
 | .mk _ _ _ s l ks=>1 + s.length + vbigL l + (ks.map fun k=>1 + k.length).sum
def vbigL:List Val → Nat
 | []=>1
 | v :: l=>1 + vbig v + vbigL l
end
def nbig (l:List (List UInt8)):Nat:=(l.map fun k=>1 + k.length).sum
theorem nbig_len (l:List (List UInt8)):l.length ≤ nbig l:=by
 induction l with
 | nil=>simp [nbig]
 | cons x l ih=>simp only [nbig,List.map_cons,List.sum_cons,List.length_cons] at ih ⊢; omega
theorem wrapP {k:Nat} (h:k + 1 ≤ 1152921504606846976):IntKind.i64.wrap (((k + 1:Nat):Int) - 1) = ((k:Nat):Int):=by
 rw [wrapC (by omega) (by omega)]; omega
theorem nil_len (x:List UInt8):(decide (((x.length:Nat):Int) < 1)) = (x == []):=by
 cases x with
 | nil=>rfl
 | cons a x=>simp; omega
theorem vkeys_eq (n:Nat) (ks:List (List UInt8)) (c d:Int) (l:List Val) (g:Val → Int → Int → Option (Int × Bool)) (hn:n ≤ 1073741824):∀ m k:Nat,k ≤ ks.length → ks.length - k < m → ks.length < n →
  ∃ b,loopK (F_value_keys_l1 n ks) m (k:Int) = some b ∧ loopK (F_R03_may_l2 n ks c l g d) m (k:Int) = bif b then F_R03_may_k1 n l g d c () else some (IntKind.i64.wrap (c + 1),false):=by
 intro m
 induction m with
 | zero=>intro k _ h; omega
 | succ m ih =>
  intro k hk hm hl
  rw [loopK_succ,loopK_succ]
  by_cases he:k = ks.length
  ·subst he
   refine ⟨true,?_,?_⟩
   ·simp only [F_value_keys_l1,strs_len,dec_nlt,cond_false]
   ·simp only [F_R03_may_l2,strs_len,dec_nlt,cond_false,cond_true]
  ·have hkl:k < ks.length:=by omega
   obtain ⟨x,hx⟩:∃ x,ks[k]? = some x:=⟨_,List.getElem?_eq_getElem hkl⟩
   obtain ⟨b,h1,h2⟩:=ih (k + 1) (by omega) (by omega) hl
   rw [← wrapN (by omega)] at h1 h2
   simp only [F_value_keys_l1,F_R03_may_l2,strs_len,dec_lt hkl,cond_true,idx_nat hx,bnd_eq,nil_len]
   cases hE:x == [] with
   | true=>exact ⟨false,by simp,by simp⟩
   | false =>
    simp only [Bool.not_false,gsome_t,bnd_eq,cond_false]
    cases hB:decide (((x.length:Nat):Int) > 64) with
    | true=>exact ⟨false,by simp,by simp⟩
    | false =>
     cases k with
     | zero =>
      refine ⟨b,?_,?_⟩
      ·simpa using h1
      ·simpa using h2
     | succ k =>
      have h0:decide ((((k + 1:Nat):Int)) > 0) = true:=decide_eq_true (by omega)
      obtain ⟨y,hy⟩:∃ y,ks[k]? = some y:=⟨_,List.getElem?_eq_getElem (by omega)⟩
      simp only [h0,Bool.not_false,Bool.and_true,gsome_t,wrapP (show k + 1 ≤ 1152921504606846976 by omega),idx_nat hy,bnd_eq,cond_true,cond_false,bl_total]
      cases Op.bytesLess y x with
      | false=>exact ⟨false,by simp,by simp⟩
      | true=>exact ⟨b,by simpa using h1,by simpa using h2⟩
theorem vbigL_len:∀ l:List Val,l.length < vbigL l
 | []=>by simp [vbigL]
 | x :: l=>by have:=vbigL_len l; simp only [vbigL,List.length_cons]; omega
theorem vbigL_mem:∀ {l:List Val} {x:Val},x ∈ l → vbig x + 2 ≤ vbigL l
 | y :: l,x,h=>by
  simp only [vbigL]
  rcases List.mem_cons.1 h with rfl | h
  ·have:=vbigL_len l; omega
  ·have:=vbigL_mem h; omega
theorem vloop_eq (n:Nat) (l:List Val) (g g':Val → Int → Int → Option (Int × Bool)) (d:Int) (hn:n ≤ 1073741824)
  (hg:∀ v ∈ l,∀ d c,∃ r,g v d c = some r ∧ g' v d c = some r):∀ m k:Nat,∀ c:Int,k ≤ l.length → l.length - k < m → l.length < n →
  ∃ r,loopK (F_value_look_l1 n l g d) m (c,true,(k:Int)) = some r ∧ loopK (F_R03_may_l1 n l g' d) m (c,(k:Int)) = some r:=by
 intro m
 induction m with
 | zero=>intro k _ _ h; omega
 | succ m ih =>
  intro k c hk hm hl
  rw [loopK_succ,loopK_succ]
  by_cases he:k = l.length
  ·subst he
   refine ⟨(c,true),?_,?_⟩
   ·simp only [F_value_look_l1,valRows_len,dec_nlt,cond_false]
   ·simp only [F_R03_may_l1,valRows_len,dec_nlt,cond_false]
  ·have hkl:k < l.length:=by omega
   obtain ⟨x,hx⟩:∃ x,l[k]? = some x:=⟨_,List.getElem?_eq_getElem hkl⟩
   obtain ⟨⟨c2,b⟩,h1,h2⟩:=hg x (mem_of hx) (IntKind.i64.wrap (d - 1)) c
   obtain ⟨x1,x2,x3,x4,x5,x6⟩:=x
   simp only [F_value_look_l1,F_R03_may_l1,valRows_len,dec_lt hkl,cond_true,idx_nat hx,bnd_eq,h1,h2]
   rw [wrapN (by omega)]
   cases b with
   | true =>
    obtain ⟨r,h3,h4⟩:=ih (k + 1) c2 (by omega) (by omega) hl
    exact ⟨r,h3,by simpa using h4⟩
   | false =>
    refine ⟨(c2,false),?_,by simp⟩
    obtain ⟨m,rfl⟩:∃ m',m = m' + 1:=⟨m - 1,by omega⟩
    rw [loopK_succ]
    simp only [F_value_look_l1,Bool.cond_self,cond_false]
theorem bare_eq (n:Nat) {x1:Int} (h7:x1 ≤ 7) (x2:Bool) (x3:Int) (x4:List UInt8) (x5:List Val) (x6:List (List UInt8)):F_R03_unused n ⟨x1,x2,x3,x4,x5,x6⟩ = F_value_bare n ⟨x1,x2,x3,x4,x5,x6⟩:=by
 simp only [F_value_bare,F_R03_unused]
 have e6:decide (x1 ≥ 6) = (x1 == 6 || x1 == 7):=by
  rw [Bool.eq_iff_iff]; simp; omega
 have e5:decide ((((Val.rows x5).length:Nat):Int) > 0) = !((((Val.rows x5).length:Nat):Int) == 0):=by
  generalize (Val.rows x5).length = m
  cases m with
  | zero=>rfl
  | succ m=>rw [decide_eq_true (by omega),beq_eq_false_iff_ne.2 (by omega)]; rfl
 have a1:(bif (x1 != 1) then x2 else false) = !(bif (x1 == 1) then true else !x2):=by
  rw [bne]; cases (x1 == 1) <;> cases x2 <;> rfl
 have a2:(bif (bif (bif (x1 != 2) then (x1 != 6) else false) then (x1 != 7) else false) then (x3 != 0) else false) = !(bif (bif (x1 == 2) then true else decide (x1 ≥ 6)) then true else (x3 == 0)):=by
  rw [e6,bne,bne,bne,bne]; cases (x1 == 2) <;> cases (x1 == 6) <;> cases (x1 == 7) <;> cases (x3 == 0) <;> rfl
 have a3:(bif (x1 != 3) then (!(x4 == ([]:List UInt8))) else false) = !(bif (x1 == 3) then true else (x4 == ([]:List UInt8))):=by
  rw [bne]; cases (x1 == 3) <;> cases (x4 == ([]:List UInt8)) <;> rfl
 have a4:(bif (bif (x1 != 4) then (x1 != 5) else false) then decide ((((Val.rows x5).length:Nat):Int) > 0) else false) = !(bif (bif (x1 == 4) then true else (x1 == 5)) then true else ((((Val.rows x5).length:Nat):Int) == 0)):=by
  rw [e5,bne,bne]; cases (x1 == 4) <;> cases (x1 == 5) <;> cases ((((Val.rows x5).length:Nat):Int) == 0) <;> rfl
 rw [a1,a2,a3,a4]
 generalize (bif (x1 == 1) then true else !x2) = A
 generalize (bif (bif (x1 == 2) then true else decide (x1 ≥ 6)) then true else (x3 == 0)) = B
 generalize (bif (x1 == 3) then true else (x4 == ([]:List UInt8))) = C
 generalize (bif (bif (x1 == 4) then true else (x1 == 5)) then true else ((((Val.rows x5).length:Nat):Int) == 0)) = D
 cases A <;> cases B <;> cases C <;> cases D <;> rfl
theorem look_eq:∀ n:Nat,n ≤ 1073741824 → ∀ v d c,vbig v < n → ∃ r,F_value_look n v d c = some r ∧ F_R03_may n v d c = some r:=by
 intro n
 induction n with
 | zero=>intro _ _ _ _ h; omega
 | succ n ih =>
  intro hn v d c hv
  obtain ⟨x1,x2,x3,x4,x5,x6⟩:=v
  have hb:vbigL x5 < n ∧ x6.length < n:=by
   have:=nbig_len x6
   simp only [nbig] at this
   simp only [vbig] at hv
   have h0:=vbigL_len x5
   omega
  have hl:=vbigL_len x5
  have hg:∀ v ∈ x5,∀ d c,∃ r,F_value_look n v d c = some r ∧ F_R03_may n v d c = some r:=fun v hm d c=>ih (by omega) v d c (by have:=vbigL_mem hm; omega)
  have hloop:∀ c,∃ r,loopK (F_value_look_l1 n x5 (F_value_look n) d) n (c,true,(0:Int)) = some r ∧ loopK (F_R03_may_l1 n x5 (F_R03_may n) d) n (c,(0:Int)) = some r:=fun c =>
   vloop_eq n x5 _ _ d (by omega) hg n 0 c (by omega) (by omega) (by omega)
  obtain ⟨kb,hk1,hk2⟩:=vkeys_eq n x6 c d x5 (F_R03_may n) (by omega) n 0 (by omega) (by omega) hb.2
  obtain ⟨r,hr1,hr2⟩:=hloop (IntKind.i64.wrap (c + 1))
  simp only [F_value_look,F_R03_may,BF_value_look,BF_R03_may,F_value_keys]
  generalize hC:IntKind.i64.wrap (c + 1) = C at *
  have hvw:∃ G:Bool,(bif (bif (bif (decide (d < 1)) then true else (decide (C > 4096))) then true else (decide (x1 < 0))) then true else (decide (x1 > 7))) = G ∧
    (bif (bif (bif (decide (C > 4096)) then true else (decide (d < 1))) then true else (decide (x1 < 0))) then true else (decide (x1 > 7))) = G ∧ (G = false → x1 ≤ 7):=by
   refine ⟨_,rfl,?_,?_⟩
   ·cases decide (C > 4096) <;> cases decide (d < 1) <;> rfl
   ·cases decide (C > 4096) <;> cases decide (d < 1) <;> cases decide (x1 < 0) <;> simp
  obtain ⟨G,hG1,hG2,hG3⟩:=hvw
  rw [hG1,hG2]
  cases G with
  | true=>exact ⟨(C,false),by simp,by simp⟩
  | false =>
   have h7:=hG3 rfl
   rw [bare_eq n h7]
   obtain ⟨B,hB⟩:∃ B,F_value_bare n ⟨x1,x2,x3,x4,x5,x6⟩ = some B:=⟨_,rfl⟩
   rw [hB]
   have e6:decide (x1 ≥ 6) = (bif (x1 == 6) then true else (x1 == 7)):=by
    rw [Bool.eq_iff_iff]; simp; omega
   rw [e6]
   cases B with
   | false=>exact ⟨(C,false),by simp,by simp⟩
   | true =>
    simp only [Bool.not_false,Bool.not_true,gsome_t,bnd_eq,cond_false,cond_true]
    cases hT:(bif (bif (x1 == 6) then true else (x1 == 7)) then decide (x3 < 1) else false) with
    | true=>exact ⟨(C,false),by simp,by simp⟩
    | false =>
     cases h5:(x1 == 5) with
     | false =>
      refine ⟨r,?_,?_⟩
      ·simpa using hr1
      ·simpa [F_R03_may_k1,hC] using hr2
     | true =>
      cases hN:((((strs x6).length:Nat):Int) != (((Val.rows x5).length:Nat):Int)) with
      | true=>exact ⟨(C,false),by simp,by simp⟩
      | false =>
       simp only [Bool.not_false,Bool.and_true,gsome_t,cond_false,cond_true]
       have hk1':loopK (F_value_keys_l1 n x6) n (0:Int) = some kb:=hk1
       have hk2':loopK (F_R03_may_l2 n x6 c x5 (F_R03_may n) d) n (0:Int) = _:=hk2
       rw [hk1',hk2',bnd_eq]
       cases kb with
       | true =>
        refine ⟨r,?_,?_⟩
        ·simpa using hr1
        ·simpa [F_R03_may_k1,hC] using hr2
       | false=>exact ⟨(C,false),by simp,by simp⟩
theorem check_eq {n:Nat} (hn:n ≤ 1073741824) {v:Val} (hv:vbig v < n):∃ b:Bool,F_value_Check n v = some (bif b then 0 else 20) ∧ F_R03_May n v = some b:=by
 obtain ⟨x1,x2,x3,x4,x5,x6⟩:=v
 obtain ⟨⟨c,b⟩,h1,h2⟩:=look_eq n hn _ 32 0 hv
 refine ⟨b,?_,?_⟩
 ·simp only [F_value_Check,h1,bnd_eq]
  cases b <;> rfl
 ·simp only [F_R03_May,h2,bnd_eq]
theorem eqloop {A:Type} {B:(Int → Option Bool) → Int → Option Bool} {l l':List A} (hlen:l.length = l'.length)
  (step:∀ (k:Nat) x y nx,l[k]? = some x → l'[k]? = some y → ∃ b,(b = true ↔ x = y) ∧ B nx (k:Int) = bif b then nx ((k + 1:Nat):Int) else some false)
  (hend:∀ nx,B nx (l.length:Int) = some true) {n:Nat} (hn:l.length < n):∃ b,loopK B n 0 = some b ∧ (b = true ↔ l = l'):=by
 have main:∀ m k:Nat,k ≤ l.length → l.length - k < m → ∃ b,loopK B m (k:Int) = some b ∧ (b = true ↔ l.drop k = l'.drop k):=by
  intro m
  induction m with
  | zero=>intro k _ h; omega
  | succ m ih =>
   intro k hk hm
   rw [loopK_succ]
   by_cases he:k = l.length
   ·subst he
    exact ⟨true,hend _,by rw [List.drop_length,hlen,List.drop_length]; simp⟩
   ·have h1:k < l.length:=by omega
    have h2:k < l'.length:=by omega
    obtain ⟨b,hb,hs⟩:=step k _ _ (loopK B m) (List.getElem?_eq_getElem h1) (List.getElem?_eq_getElem h2)
    rw [hs,List.drop_eq_getElem_cons h1,List.drop_eq_getElem_cons h2,List.cons.injEq,← hb]
    cases b with
    | false=>exact ⟨false,rfl,by simp⟩
    | true =>
     obtain ⟨b,h3,h4⟩:=ih (k + 1) (by omega) (by omega)
     exact ⟨b,h3,by simpa using h4⟩
 obtain ⟨b,h1,h2⟩:=main n 0 (by omega) (by omega)
 exact ⟨b,h1,by simpa using h2⟩
theorem lens_ne {a b:Nat}:((((a:Nat):Int) != ((b:Nat):Int)) = true) ↔ a ≠ b:=by simp [Int.natCast_inj]
theorem F_R03_SameNames_eq {n:Nat} {x y:List (List UInt8)} (h:x.length < n) (hn:n ≤ 1073741824):∃ b,F_R03_SameNames n x y = some b ∧ (b = true ↔ x = y):=by
 unfold F_R03_SameNames
 by_cases hl:x.length = y.length
 ·have:((((strs x).length:Nat):Int) != (((strs y).length:Nat):Int)) = false:=by simp [hl]
  rw [this,cond_false]
  refine eqloop hl (fun k a b nx ha hb=>⟨a == b,beq_iff_eq,?_⟩) (fun nx=>by simp only [F_R03_SameNames_l1,strs_len,dec_nlt,cond_false]) h
  have hk:=mem_lt ha
  simp only [F_R03_SameNames_l1,strs_len,dec_lt hk,cond_true,idx_nat ha,idx_nat hb,bnd_eq]
  rw [wrapN (by omega)]
  first | (cases a == b <;> rfl) | (cases h:a == b <;> simp [h,bne])
 ·have:((((strs x).length:Nat):Int) != (((strs y).length:Nat):Int)) = true:=by rw [strs_len,strs_len]; exact lens_ne.2 hl
  rw [this]
  exact ⟨false,rfl,by simp; intro e; exact hl (congrArg _ e)⟩
theorem same_core {x1 x7:Int} {x2 x8:Bool} {x3 x9:Int} {x4 x10:List UInt8} {x6 x12:List (List UInt8)} {x5 x11:List Val} {N L:Option Bool} {a b:Bool} (hN:N = some a) (ha:a = true ↔ x6 = x12) (hL:L = some b) (hb:b = true ↔ x5 = x11) :
  ∃ r,(bnd (gsome (bif (bif (bif (x1 == x7) then (x2 == x8) else false) then (x3 == x9) else false) then (x4 == x10) else false) N) fun x13 =>
   bnd (gsome (bif (bif (bif (bif (x1 == x7) then (x2 == x8) else false) then (x3 == x9) else false) then (x4 == x10) else false) then x13 else false) L) fun x14 =>
   some (bif (bif (bif (bif (bif (x1 == x7) then (x2 == x8) else false) then (x3 == x9) else false) then (x4 == x10) else false) then x13 else false) then x14 else false)) = some r ∧
  (r = true ↔ Val.mk x1 x2 x3 x4 x5 x6 = Val.mk x7 x8 x9 x10 x11 x12):=by
 subst hN hL
 have e1:(x1 == x7) = true ↔ x1 = x7:=beq_iff_eq
 have e2:(x2 == x8) = true ↔ x2 = x8:=beq_iff_eq
 have e3:(x3 == x9) = true ↔ x3 = x9:=beq_iff_eq
 have e4:(x4 == x10) = true ↔ x4 = x10:=beq_iff_eq
 rw [Val.mk.injEq,← e1,← e2,← e3,← e4,← hb,← ha]
 cases (x1 == x7) <;> cases (x2 == x8) <;> cases (x3 == x9) <;> cases (x4 == x10) <;> cases a <;> cases b <;> exact ⟨_,rfl,by simp⟩
theorem r03_same:∀ n:Nat,n ≤ 1073741824 → (∀ v w,vbig v < n → ∃ b,F_R03_Same n v w = some b ∧ (b = true ↔ v = w)) ∧ (∀ l l',vbigL l < n → ∃ b,F_R03_SameList n l l' = some b ∧ (b = true ↔ l = l')):=by
 intro n
 induction n with
 | zero=>intro _; exact ⟨fun _ _ h=>by omega,fun _ _ h=>by omega⟩
 | succ n ih =>
  intro hn
  obtain ⟨ihv,ihl⟩:=ih (by omega)
  refine ⟨fun v w hv=>?_,fun l l' hl=>?_⟩
  ·obtain ⟨x1,x2,x3,x4,x5,x6⟩:=v
   obtain ⟨x7,x8,x9,x10,x11,x12⟩:=w
   have hb:vbigL x5 < n ∧ x6.length < n:=by
    have:=nbig_len x6
    simp only [nbig] at this
    simp only [vbig] at hv
    have h0:=vbigL_len x5
    omega
   obtain ⟨a,ha1,ha2⟩:=F_R03_SameNames_eq (y:=x12) hb.2 (by omega)
   obtain ⟨b,hb1,hb2⟩:=ihl x5 x11 hb.1
   simp only [F_R03_Same,BF_R03_Same]
   exact same_core ha1 ha2 hb1 hb2
  ·have hlen:=vbigL_len l
   simp only [F_R03_SameList,BF_R03_SameList]
   by_cases hll:l.length = l'.length
   ·have:((((Val.rows l).length:Nat):Int) != (((Val.rows l').length:Nat):Int)) = false:=by simp [hll]
    rw [this,cond_false]
    refine eqloop hll (fun k a b nx ha hb=>?_) (fun nx=>by simp only [F_R03_SameList_l1,valRows_len,dec_nlt,cond_false]) (by omega)
    have hk:=mem_lt ha
    obtain ⟨r,hr,hr2⟩:=ihv a b (by have:=vbigL_mem (mem_of ha); omega)
    refine ⟨r,hr2,?_⟩
    obtain ⟨x1,x2,x3,x4,x5,x6⟩:=a
    obtain ⟨x7,x8,x9,x10,x11,x12⟩:=b
    simp only [F_R03_SameList_l1,valRows_len,dec_lt hk,cond_true,idx_nat ha,idx_nat hb,bnd_eq,hr]
    rw [wrapN (by omega)]
    cases r <;> rfl
   ·have:((((Val.rows l).length:Nat):Int) != (((Val.rows l').length:Nat):Int)) = true:=by rw [valRows_len,valRows_len]; exact lens_ne.2 hll
    rw [this]
    exact ⟨false,rfl,by simp; intro e; exact hll (congrArg _ e)⟩
end W
end
section
open Go Ax
namespace W
set_option maxRecDepth 10000
theorem vbig_le:∀ v:Val,vbig v + 1 ≤ 3 * v.big
 | .mk k b i s l ks=>by
  have h:=vbigL_le l
  have h2:∀ ks:List (List UInt8),(ks.map fun k=>1 + k.length).sum = kbig ks:=by
   intro ks
   induction ks with
   | nil=>rfl
   | cons a l ih=>simp only [List.map_cons,List.sum_cons,kbig,ih]; omega
  simp only [vbig,Val.big,h2]
  omega
where vbigL_le:∀ l:List Val,vbigL l ≤ 1 + 3 * bigs l
 | []=>by simp [vbigL,bigs]
 | v :: l=>by
  have h1:=vbig_le v
  have h2:=vbigL_le l
  simp only [vbigL,bigs]
  omega
theorem keys_right (n:Nat) (ks:List (List UInt8)) (hk:ks.length ≤ 1073741824):∀ m i:Nat,i ≤ ks.length → loopK (F_value_keys_l1 n ks) m (i:Int) = some true → ∀ j,i ≤ j → j < ks.length → keyBad ks j = false:=by
 intro m
 induction m with
 | zero=>intro i _ h; cases h
 | succ m ih =>
  intro i hi h j hij hj
  rw [loopK_succ] at h
  generalize hnx:loopK (F_value_keys_l1 n ks) m = nx at ih h
  unfold F_value_keys_l1 at h
  have hlen:(strs ks).length = ks.length:=by simp [strs]
  rw [hlen] at h
  by_cases hlt:i < ks.length
  ·rw [decide_eq_true (show (i:Int) < (ks.length:Int) by omega),cond_true] at h
   obtain ⟨x3,h3,h⟩:=bnd_some h
   obtain ⟨x4,h4,h⟩:=bnd_some h
   have e3:ks[i]? = some x3:=by rw [Ax.idx_nat] at h3; exact h3
   have g3:ks.getD i [] = x3:=by rw [List.getD_eq_getElem?_getD,e3]; rfl
   cases hc:(bif (bif (bif (x3 == ([]:List UInt8)) then true else (decide (((x3.length:Nat):Int) > (64:Int)))) then true else (bif (decide ((i:Int) > (0:Int))) then (!(Op.bytesLess x4 x3)) else false)) then some false else nx (IntKind.i64.wrap ((i:Int) + (1:Int)))) with
   | none=>rw [hc] at h; cases h
   | some r =>
    cases hb:(bif (bif (x3 == ([]:List UInt8)) then true else (decide (((x3.length:Nat):Int) > (64:Int)))) then true else (bif (decide ((i:Int) > (0:Int))) then (!(Op.bytesLess x4 x3)) else false)) with
    | true=>rw [hb] at h; simp at h
    | false =>
     rw [hb,cond_false,wrapN (by omega)] at h
     rcases Nat.lt_or_ge i j with hlt2 | hge
     ·exact ih (i + 1) (by omega) h j hlt2 hj
     ·obtain rfl:j = i:=by omega
      unfold keyBad
      rw [g3]
      by_cases h0:(j:Nat) = 0
      ·subst h0
       simpa using hb
      ·have hg:(bif (x3 == ([]:List UInt8)) then true else (decide (((x3.length:Nat):Int) > (64:Int)))) = false:=by
        cases hx:(bif (x3 == ([]:List UInt8)) then true else (decide (((x3.length:Nat):Int) > (64:Int)))) with
        | false=>rfl
        | true=>rw [hx] at hb; simp at hb
       rw [hg,decide_eq_true (show (j:Int) > 0 by omega)] at h4
       have h4':idx ks (IntKind.i64.wrap ((j:Int) - 1)) = some x4:=h4
       rw [show IntKind.i64.wrap ((j:Int) - 1) = ((j - 1:Nat):Int) by rw [wrapC (by omega) (by omega)]; omega,Ax.idx_nat] at h4'
       have g4:ks.getD (j - 1) [] = x4:=by rw [List.getD_eq_getElem?_getD,h4']; rfl
       rw [g4]
       exact hb
  ·omega
theorem look_right:∀ (n:Nat),n ≤ 1073741824 → ∀ (v:Val) (d c r:Int),vbig v < n → F_value_look n v d c = some (r,true) → right v = true:=by
 intro n
 induction n with
 | zero=>intro _ _ _ _ _ h; omega
 | succ n ih =>
  intro hn v d c r hv h
  obtain ⟨x1,x2,x3,x4,x5,x6⟩:=v
  have hb:vbigL x5 < n ∧ x6.length < n:=by
   have:=nbig_len x6
   simp only [nbig] at this
   simp only [vbig] at hv
   omega
  have hl:=vbigL_len x5
  simp only [F_value_look,BF_value_look] at h
  obtain ⟨x9,h9,h⟩:=bnd_some h
  obtain ⟨x10,h10,h⟩:=bnd_some h
  generalize hC:IntKind.i64.wrap (c + 1) = C at *
  revert h
  cases h1:decide (d < 1) with
  | true=>intro h; simp [h1] at h
  | false =>
  cases h2:decide (C > 4096) with
  | true=>intro h; simp [h2] at h
  | false =>
  cases h3:decide (x1 < 0) with
  | true=>intro h; simp [h3] at h
  | false =>
  cases h4:decide (x1 > 7) with
  | true=>intro h; simp [h4] at h
  | false =>
  rw [h1,h2,h3,h4] at h9 h10
  simp only [cond_false,Bool.not_false,gsome_t] at h9
  cases hx9:x9 with
  | false=>intro h; simp [hx9] at h
  | true =>
  subst hx9
  cases h6:(bif (decide (x1 ≥ 6)) then (decide (x3 < 1)) else false) with
  | true=>intro h; simp [h6] at h
  | false =>
  simp only [cond_false,Bool.not_false,Bool.not_true,h6,Bool.true_and] at h10 ⊢
  intro h
  have key:(!(x1 == 5 && (x6.length != x5.length || !keysB x6))) = true ∧ loopK (F_value_look_l1 n x5 (F_value_look n) d) n (C,true,(0:Int)) = some (r,true):=by
   cases h5:(x1 == (5:Int)) with
   | false=>rw [h5] at h; exact ⟨by simp,by simpa using h⟩
   | true =>
    rw [h5] at h h10
    simp only [cond_true,Bool.true_and] at h h10
    have el:((((strs x6).length:Nat):Int) != (((Val.rows x5).length:Nat):Int)) = (x6.length != x5.length):=by
     rw [Bool.eq_iff_iff]; simp [strs,Int.natCast_inj]
    rw [el] at h h10
    cases hN:(x6.length != x5.length) with
    | true=>rw [hN] at h; simp at h
    | false =>
     rw [hN] at h h10
     simp only [Bool.not_false,gsome_t,cond_false] at h h10
     cases hx:x10 with
     | false=>rw [hx] at h; simp at h
     | true =>
      rw [hx] at h h10
      refine ⟨?_,by simpa using h⟩
      have hk:keysB x6 = true:=by
       unfold keysB
       rw [List.all_eq_true]
       intro j hj
       rw [keys_right n x6 (by omega) n 0 (Nat.zero_le _) h10 j (Nat.zero_le _) (by simpa using hj)]
       rfl
      simp [hk]
  have hall:∀ (m i:Nat) (c2:Int) (ok:Bool),i ≤ x5.length → loopK (F_value_look_l1 n x5 (F_value_look n) d) m (c2,ok,(i:Int)) = some (r,true) → ok = true ∧ ∀ v ∈ x5.drop i,right v = true:=by
   intro m
   induction m with
   | zero=>intro i _ _ _ h; cases h
   | succ m ihm =>
    intro i c2 ok hi h
    rw [loopK_succ] at h
    generalize loopK (F_value_look_l1 n x5 (F_value_look n) d) m = nx at ihm h
    unfold F_value_look_l1 at h
    simp only [valRows_len] at h
    by_cases hlt:i < x5.length
    ·rw [decide_eq_true (show (i:Int) < (x5.length:Int) by omega),cond_true] at h
     cases ok with
     | false=>simp at h
     | true =>
      simp only [cond_true] at h
      obtain ⟨⟨a1,a2,a3,a4,a5,a6⟩,hx,h⟩:=bnd_some h
      obtain ⟨⟨c3,ok3⟩,hy,h⟩:=bnd_some h
      have ex:x5[i]? = some (Val.mk a1 a2 a3 a4 a5 a6):=by rw [Ax.idx_nat] at hx; exact hx
      have h':nx (c3,ok3,IntKind.i64.wrap ((i:Int) + 1)) = some (r,true):=h
      rw [wrapN (by omega)] at h'
      obtain ⟨hok,hr⟩:=ihm (i + 1) c3 ok3 (by omega) h'
      subst hok
      refine ⟨rfl,fun v hv=>?_⟩
      obtain ⟨_,e⟩:=List.getElem?_eq_some_iff.1 ex
      rw [List.drop_eq_getElem_cons hlt,e] at hv
      rcases List.mem_cons.1 hv with rfl | hv
      ·exact ih (by omega) _ _ _ _ (by have:=vbigL_mem (List.mem_of_getElem? ex); omega) hy
      ·exact hr v hv
    ·rw [decide_eq_false (show ¬ (i:Int) < (x5.length:Int) by omega)] at h
     simp only [cond_false] at h
     have:x5.drop i = []:=List.drop_eq_nil_of_le (by omega)
     rw [this]
     refine ⟨?_,fun v hv=>by simp at hv⟩
     have:=Option.some.inj h
     exact (Prod.mk.inj this).2
  obtain ⟨hkey,hloop⟩:=key
  have hr:=(hall n 0 C true (Nat.zero_le _) hloop).2
  have hrl:∀ l:List Val,(∀ v ∈ l,right v = true) → rightL l = true:=by
   intro l
   induction l with
   | nil=>intro _; rfl
   | cons v l ih=>intro h; simp only [rightL,h v (by simp),ih (fun w hw=>h w (by simp [hw])),Bool.and_true]
  simp only [right,hrl x5 (by simpa using hr),Bool.and_true]
  have h3':0 ≤ x1:=by simpa using h3
  have h4':x1 ≤ 7:=by simpa using h4
  have hb9:bareB x1 x2 x3 x4 x5.length x6.length = true:=by
   have:=Option.some.inj h9
   unfold bareB
   simpa [strs] using this
  have h66:(!(decide (x1 ≥ 6) && decide (x3 < 1))) = true:=by
   cases ha:decide (x1 ≥ 6) with
   | false=>rfl
   | true=>rw [ha] at h6; simp only [cond_true] at h6; rw [h6]; rfl
  simp only [good1,decide_eq_true h3',decide_eq_true h4',hb9,h66,hkey,Bool.and_self,Bool.true_and]
theorem may_right' {n:Nat} (hn:n ≤ 1073741824) {v:Val} (hv:vbig v < n) (h:F_R03_May n v = some true):right v = true ∧ F_value_Check n v = some 0:=by
 obtain ⟨b,hb1,hb2⟩:=check_eq hn hv
 obtain rfl:b = true:=by rw [h] at hb2; exact (Option.some.inj hb2).symm
 refine ⟨?_,hb1⟩
 obtain ⟨x1,x2,x3,x4,x5,x6⟩:=v
 unfold F_value_Check at hb1
 obtain ⟨⟨x7,x8⟩,h7,hb1⟩:=bnd_some hb1
 cases x8 with
 | false=>simp at hb1
 | true=>exact look_right n hn _ _ _ _ hv h7
end W
end
section
open Go Ax Go.RowKit
namespace W
set_option maxRecDepth 10000
theorem set_self {A:Type} {l:List A} {i:Nat} {x:A} (h:l[i]? = some x):l.set i x = l:=by
 obtain ⟨hlt,e⟩:=List.getElem?_eq_some_iff.1 h
 subst e
 exact List.set_getElem_self hlt
theorem copy_id:∀ n:Nat,n ≤ 1073741824 → ∀ v:Val,vbig v < n → F_value_Copy n v = some v:=by
 intro n
 induction n with
 | zero=>intro _ _ h; omega
 | succ n ih =>
  intro hn v hv
  obtain ⟨x1,x2,x3,x4,x5,x6⟩:=v
  have hb:vbigL x5 < n ∧ x6.length < n:=by
   have:=nbig_len x6
   simp only [nbig] at this
   simp only [vbig] at hv
   omega
  have hl:=vbigL_len x5
  have hrep:∀ k:Nat,(Val.rows (List.replicate k (Val.mk (0:Int) false (0:Int) ([]:List UInt8) ([]:List Val) ([]:List (List UInt8))))).length = k:=fun k=>by simp
  have loop:∀ (m i:Nat),i ≤ x5.length → x5.length - i < m → loopK (F_value_Copy_l1 n x5.length (F_value_Copy n) x6 x1 x2 x3 x4) m ((i:Int),x5) = some (Val.mk x1 x2 x3 x4 x5 x6):=by
   intro m
   induction m with
   | zero=>intro i _ h; omega
   | succ m ihm =>
    intro i hi hm
    rw [loopK_succ]
    generalize loopK (F_value_Copy_l1 n x5.length (F_value_Copy n) x6 x1 x2 x3 x4) m = nx at ihm ⊢
    unfold F_value_Copy_l1
    simp only [hrep]
    by_cases hlt:i < x5.length
    ·obtain ⟨x,hx⟩:∃ x,x5[i]? = some x:=⟨_,List.getElem?_eq_getElem hlt⟩
     have hc:=ih (by omega) x (by have:=vbigL_mem (List.mem_of_getElem? hx); omega)
     obtain ⟨a1,a2,a3,a4,a5,a6⟩:=x
     rw [decide_eq_true (show (i:Int) < (x5.length:Int) by omega)]
     simp only [cond_true,Ax.natI_nat,bnd_eq,decide_eq_true hlt,chk_t,hx,hc]
     rw [wrapN (by omega),set_self hx]
     exact ihm (i + 1) (by omega) (by omega)
    ·rw [decide_eq_false (show ¬ (i:Int) < (x5.length:Int) by omega)]
     simp only [cond_false]
     rw [chk_dec (by simp [strs]; omega)]
  simp only [F_value_Copy,BF_value_Copy,valRows_len,Ax.natI_nat,bnd_eq,List.length_replicate,decide_true,chk_t]
  rw [chk_dec (by omega)]
  exact loop n 0 (Nat.zero_le _) (by omega)
theorem copied_id {n:Nat} (hn:n ≤ 1073741824) {l:List Val} (hl:vbigL l < n):F_rows_copied n l = some l:=by
 have h1:=vbigL_len l
 have loop:∀ (m i:Nat),i ≤ l.length → l.length - i < m → loopK (F_rows_copied_l1 n l) m (l.take i,(i:Int)) = some l:=by
  intro m
  induction m with
  | zero=>intro i _ h; omega
  | succ m ihm =>
   intro i hi hm
   rw [loopK_succ]
   generalize loopK (F_rows_copied_l1 n l) m = nx at ihm ⊢
   unfold F_rows_copied_l1
   simp only [valRows_len]
   by_cases hlt:i < l.length
   ·obtain ⟨x,hx⟩:∃ x,l[i]? = some x:=⟨_,List.getElem?_eq_getElem hlt⟩
    have hc:=copy_id n hn x (by have:=vbigL_mem (List.mem_of_getElem? hx); omega)
    obtain ⟨a1,a2,a3,a4,a5,a6⟩:=x
    rw [decide_eq_true (show (i:Int) < (l.length:Int) by omega)]
    have e:l.take i ++ [Val.mk a1 a2 a3 a4 a5 a6] = l.take (i + 1):=by rw [List.take_succ,hx]; rfl
    simp only [cond_true,Ax.idx_nat,hx,bnd_eq,hc,e]
    rw [chk_dec (by rw [List.length_take]; omega),wrapN (by omega)]
    exact ihm (i + 1) (by omega) (by omega)
   ·rw [decide_eq_false (show ¬ (i:Int) < (l.length:Int) by omega)]
    simp only [cond_false]
    rw [List.take_of_length_le (by omega)]
 unfold F_rows_copied
 simp only [valRows_len,Ax.natI_nat,bnd_eq]
 rw [chk_dec (by omega)]
 exact loop n 0 (Nat.zero_le _) (by omega)
theorem shift8 (m a b:Nat) (h:a = b):u8I (IntKind.u8.wrap (Int.fdiv (m:Int) (2 ^ a))) = some (UInt8.ofNat (m / 2 ^ b)):=by
 subst h
 have e1:((m:Int).fdiv (2 ^ a)) = ((m / 2 ^ a:Nat):Int):=by
  have:(2:Int) ^ a = ((2 ^ a:Nat):Int):=by simp
  rw [this,Int.fdiv_eq_ediv_of_nonneg _ (Int.natCast_nonneg _)]
  exact (Int.natCast_ediv m (2 ^ a)).symm
 rw [e1]
 generalize m / 2 ^ a = q
 have e2:IntKind.u8.wrap (q:Int) = ((q % 256:Nat):Int):=by simp [IntKind.wrap,IntKind.bits,IntKind.signed]
 rw [e2]
 unfold u8I
 rw [if_pos (by omega)]
 congr 1
 apply UInt8.toNat.inj
 simp
 omega
theorem eight_eq (n m:Nat) (hn:20 ≤ n):F_rank_eight n (m:Int) = some (eightL m):=by
 obtain ⟨n,rfl⟩:∃ k,n = k + 20:=⟨n - 20,by omega⟩
 unfold F_rank_eight
 have w:∀ i:Nat,i < 8 → IntKind.i64.wrap ((56:Int) - (IntKind.i64.wrap ((8:Int) * (i:Int)))) = ((56 - 8 * i:Nat):Int):=fun i hi=>by
  rw [wrapC (i:=8 * (i:Int)) (by omega) (by omega),wrapC (by omega) (by omega)]; omega
 have step:∀ (k i:Nat) (l:List UInt8),i < 8 → l.length = 8 → loopK (F_rank_eight_l1 (n + 20) m) (k + 1) ((i:Int),l) = loopK (F_rank_eight_l1 (n + 20) m) k (((i + 1:Nat):Int),l.set i (UInt8.ofNat (m / 2 ^ (56 - 8 * i)))):=by
  intro k i l hi hl
  rw [loopK_succ]
  generalize loopK (F_rank_eight_l1 (n + 20) m) k = nx
  unfold F_rank_eight_l1
  simp only [w i hi]
  rw [decide_eq_true (show (i:Int) < 8 by omega),cond_true,chk_dec (by omega),Ax.natI_nat,bnd_eq,chk_dec hi,shift8 m _ (56 - 8 * i) (by rw [Int.toNat_natCast]; exact Nat.min_eq_left (by show _ ≤ 64; omega)),bnd_eq,chk_dec (by omega),wrapN (by omega)]
 have s8:=step
 rw [show n + 20 = (n + 11) + 1 + 1 + 1 + 1 + 1 + 1 + 1 + 1 + 1 from rfl]
 have e0:(0:Int) = ((0:Nat):Int):=rfl
 rw [e0]
 rw [step _ 0 _ (by omega) rfl,step _ 1 _ (by omega) rfl,step _ 2 _ (by omega) rfl,step _ 3 _ (by omega) rfl,step _ 4 _ (by omega) rfl,step _ 5 _ (by omega) rfl,step _ 6 _ (by omega) rfl,step _ 7 _ (by omega) rfl,loopK_succ]
 rfl
theorem countB_le (s:List UInt8):Lib.countB ⟨s.toArray⟩ ⟨([0]:List UInt8).toArray⟩ ≤ s.length:=by
 have:=Lib.countB_le ⟨#[0]⟩ (Nat.le_refl _) s.length ⟨s.toArray⟩ (Nat.le_refl _)
 exact this
theorem ended_eq (n:Nat) (s:List UInt8) (hs:s.length ≤ 1073741824):F_rank_ended n s = some (endedM s):=by
 unfold F_rank_ended F_strings_ReplaceAll
 have:=countB_le s
 have h2:=esc_length s
 rw [chk_dec (by omega),chk_dec (by decide),chk_dec (by show _ + _ * 2 ≤ _; omega),bnd_eq,replaceAll_esc,chk_dec (by show (((_ + 2:Nat)):Int) ≤ maxI; unfold maxI; omega)]
 rfl
theorem lay_both:∀ n:Nat,n ≤ 1073741824 → ∀ v:Val,right v = true → (20 * v.big + 40 < n → F_rank_lay n v = some (layM v)) ∧ (20 * v.big + 39 < n → ∀ k b i s l ks,v = .mk k b i s l ks → (k = 4 ∨ k = 5) → F_rank_rows n v = some (layM v)):=by
 intro n
 induction n with
 | zero=>intro _ _ _; exact ⟨fun h=>by omega,fun h=>by omega⟩
 | succ n ih =>
  intro hn v hr
  obtain ⟨k,b,i,s,l,ks⟩:=v
  have hg:good1 (.mk k b i s l ks) = true ∧ rightL l = true:=by simpa [right] using hr
  have hbig:(Val.mk k b i s l ks).big = 1 + s.length + bigs l + kbig ks:=rfl
  have hll:=bigs_len l
  have hkl:=kbig_len ks
  have hrows:20 * (Val.mk k b i s l ks).big + 39 < n + 1 → (k = 4 ∨ k = 5) → F_rank_rows (n + 1) (.mk k b i s l ks) = some (layM (.mk k b i s l ks)):=by
   intro hv hk
   have hlen:k = 5 → ks.length = l.length:=by
    intro h5
    rcases good_shape hg.1 with h | h | h | h | h | h | h | h <;> (try (exfalso; omega))
    exact h.2.2.2.2.1
   have part:∀ x ∈ l,F_rank_lay n x = some (layM x):=fun x hx=>by
    have h1:right x = true:=rightL_get hg.2 hx
    have h2:=bigs_mem hx
    exact (ih (by omega) x h1).1 (by omega)
   have lenL:∀ l:List Val,(layL l).length ≤ 16 * bigs l:=layL_length
   have loop:∀ (m j:Nat) (acc:List UInt8),j ≤ l.length → l.length - j < m → acc.length + 16 * bigs (l.drop j) + 4 * kbig (ks.drop j) + 4 * (l.length - j) + 4 ≤ 140737488355328 →
     loopK (F_rank_rows_l1 n l k ks (F_rank_lay n)) m ((j:Int),acc) = some (acc ++ ((bif k == 5 then layK (l.drop j) (ks.drop j) else layL (l.drop j)) ++ [0])):=by
    intro m
    induction m with
    | zero=>intro j _ _ h; omega
    | succ m ihm =>
     intro j acc hj hm hsz
     rw [loopK_succ]
     generalize loopK (F_rank_rows_l1 n l k ks (F_rank_lay n)) m = nx at ihm ⊢
     unfold F_rank_rows_l1
     simp only [valRows_len]
     by_cases hlt:j < l.length
     ·obtain ⟨x,hx⟩:∃ x,l[j]? = some x:=⟨_,List.getElem?_eq_getElem hlt⟩
      have hp:=part x (List.mem_of_getElem? hx)
      have hd:l.drop j = x :: l.drop (j + 1):=by
       obtain ⟨_,e⟩:=List.getElem?_eq_some_iff.1 hx
       rw [List.drop_eq_getElem_cons hlt,e]
      have hxl:=layM_length x
      rw [hd] at hsz ⊢
      simp only [bigs] at hsz
      rw [decide_eq_true (show (j:Int) < (l.length:Int) by omega)]
      obtain ⟨a1,a2,a3,a4,a5,a6⟩:=x
      simp only [cond_true,Ax.idx_nat,hx,bnd_eq]
      cases hk5:(k == (5:Int)) with
      | true =>
       have hkk:ks.length = l.length:=hlen (by simpa using hk5)
       obtain ⟨y,hy⟩:∃ y,ks[j]? = some y:=⟨_,List.getElem?_eq_getElem (by omega)⟩
       have hdk:ks.drop j = y :: ks.drop (j + 1):=by
        obtain ⟨_,e⟩:=List.getElem?_eq_some_iff.1 hy
        rw [List.drop_eq_getElem_cons (by omega),e]
       rw [hdk] at hsz ⊢
       simp only [kbig] at hsz
       have hyl:y.length ≤ 1073741824:=by
        have:y.length + 1 + kbig (ks.drop (j + 1)) ≤ kbig ks:=by
         have e:∀ (q:List (List UInt8)) (c:Nat),kbig (q.drop c) ≤ kbig q:=by
          intro q
          induction q with
          | nil=>intro c; simp
          | cons a q ihq =>
           intro c
           cases c with
           | zero=>exact Nat.le_refl _
           | succ c=>simp only [List.drop_succ_cons,kbig]; have:=ihq c; omega
         have:=e ks j
         rw [hdk] at this
         exact this
        omega
       have hen:=endedM_length y
       have br:∀ z:List UInt8,(bRows z).length = z.length:=fun z=>by simp [bRows]
       simp only [cond_true,hy,bnd_eq,ended_eq n y hyl]
       rw [chk_dec (by rw [br]; simp only [List.length_append,List.length_cons,List.length_nil]; omega),chk_dec (by rw [br]; simp only [List.length_append,List.length_cons,List.length_nil]; omega)]
       unfold F_rank_rows_k4
       rw [hp,bnd_eq,chk_dec (by rw [br]; simp only [List.length_append,List.length_cons,List.length_nil]; omega),wrapN (by omega),
        ihm (j + 1) _ (by omega) (by omega) (by simp only [List.length_append,List.length_cons,List.length_nil]; omega)]
       rw [hk5]
       simp only [cond_true,layK,List.append_assoc,List.cons_append,List.nil_append]
      | false =>
       have br:∀ z:List UInt8,(bRows z).length = z.length:=fun z=>by simp [bRows]
       have hkd:kbig (ks.drop (j + 1)) ≤ kbig (ks.drop j):=by
        have e:∀ (q:List (List UInt8)) (c:Nat),kbig (q.drop (c + 1)) ≤ kbig (q.drop c):=by
         intro q
         induction q with
         | nil=>intro c; simp
         | cons a q ihq =>
          intro c
          cases c with
          | zero=>simp only [List.drop_succ_cons,List.drop_zero,kbig]; omega
          | succ c=>simp only [List.drop_succ_cons]; exact ihq c
        exact e ks j
       simp only [cond_false]
       unfold F_rank_rows_k4
       rw [hp,bnd_eq,chk_dec (by rw [br]; simp only [List.length_append]; omega),wrapN (by omega),
        ihm (j + 1) _ (by omega) (by omega) (by simp only [List.length_append]; omega)]
       rw [hk5]
       simp only [cond_false,layL,List.append_assoc]
     ·have br:∀ z:List UInt8,(bRows z).length = z.length:=fun z=>by simp [bRows]
      rw [decide_eq_false (show ¬ (j:Int) < (l.length:Int) by omega)]
      simp only [cond_false]
      rw [chk_dec (by rw [br]; simp only [List.length_append,List.length_cons,List.length_nil]; omega)]
      have e1:l.drop j = []:=List.drop_eq_nil_of_le (by omega)
      rw [e1]
      cases hk5:(k == (5:Int)) with
      | true =>
       have hkk:ks.length = l.length:=hlen (by simpa using hk5)
       have e2:ks.drop j = []:=List.drop_eq_nil_of_le (by omega)
       rw [e2]; rfl
      | false=>rfl
   simp only [F_rank_rows,BF_rank_rows]
   rw [chk_dec (by decide)]
   rcases hk with rfl | rfl
   ·unfold F_rank_rows_k1
    have:=loop n 0 [4] (Nat.zero_le _) (by omega) (by simp only [List.drop_zero,List.length_cons,List.length_nil]; omega)
    have e0:((0:Nat):Int) = 0:=rfl
    rw [e0] at this
    simp only [show ((4:Int) == 5) = false from rfl,cond_false] at this ⊢
    rw [this]
    simp [layM]
   ·unfold F_rank_rows_k1
    have:=loop n 0 [1] (Nat.zero_le _) (by omega) (by simp only [List.drop_zero,List.length_cons,List.length_nil]; omega)
    have e0:((0:Nat):Int) = 0:=rfl
    rw [e0] at this
    simp only [show ((5:Int) == 5) = true from rfl,cond_true] at this ⊢
    rw [chk_dec (by decide),this]
    simp [layM]
  refine ⟨fun hv=>?_,fun hv k' b' i' s' l' ks' e hk=>?_⟩
  ·have w64:IntKind.u64.wrap i = ((bits64 i:Nat):Int):=wrap64 i
   have hsl:s.length ≤ 1073741824:=by omega
   have h8:(eightL (bits64 i)).length = 8:=rfl
   have h8':(eightL (bits64 i ^^^ 9223372036854775808)).length = 8:=rfl
   have hen:=endedM_length s
   simp only [F_rank_lay,BF_rank_lay]
   rcases good_shape hg.1 with h | h | h | h | h | h | h | h
   ·obtain ⟨rfl,rfl,rfl,rfl,rfl,rfl⟩:=h; rfl
   ·obtain ⟨rfl,rfl,rfl,rfl,rfl⟩:=h; cases b <;> rfl
   ·obtain ⟨rfl,rfl,rfl,rfl,rfl⟩:=h
    simp only [show ((2:Int) == 1) = false from rfl,show ((2:Int) == 2) = true from rfl,cond_false,cond_true]
    rw [xor64 i,eight_eq n _ (by omega),bnd_eq,chk_dec (by rw [h8']; decide)]
    simp [layM]
   ·obtain ⟨rfl,rfl,rfl,rfl,rfl⟩:=h
    simp only [show ((3:Int) == 1) = false from rfl,show ((3:Int) == 2) = false from rfl,show ((3:Int) == 3) = true from rfl,cond_false,cond_true]
    rw [ended_eq n s hsl,bnd_eq,chk_dec (by simp only [List.length_cons,List.length_nil]; unfold maxI; omega)]
    simp [layM]
   ·obtain ⟨rfl,rfl,rfl,rfl,rfl⟩:=h
    simp only [show ((4:Int) == 1) = false from rfl,show ((4:Int) == 2) = false from rfl,show ((4:Int) == 3) = false from rfl,show ((4:Int) == 6) = false from rfl,show ((4:Int) == 7) = false from rfl,show ((4:Int) == 4) = true from rfl,cond_false,cond_true]
    unfold F_rank_lay_k1
    simp only [cond_true]
    rw [(ih (by omega) _ hr).2 (by omega) 4 false 0 [] l [] rfl (.inl rfl),bnd_eq]
   ·obtain ⟨rfl,rfl,rfl,rfl,h5⟩:=h
    simp only [show ((5:Int) == 1) = false from rfl,show ((5:Int) == 2) = false from rfl,show ((5:Int) == 3) = false from rfl,show ((5:Int) == 6) = false from rfl,show ((5:Int) == 7) = false from rfl,show ((5:Int) == 4) = false from rfl,show ((5:Int) == 5) = true from rfl,cond_false,cond_true]
    unfold F_rank_lay_k1
    simp only [cond_true]
    rw [(ih (by omega) _ hr).2 (by omega) 5 false 0 [] l ks rfl (.inr rfl),bnd_eq]
   ·obtain ⟨rfl,rfl,rfl,rfl,rfl,h1⟩:=h
    simp only [show ((6:Int) == 1) = false from rfl,show ((6:Int) == 2) = false from rfl,show ((6:Int) == 3) = false from rfl,show ((6:Int) == 6) = true from rfl,cond_false,cond_true]
    rw [w64,eight_eq n _ (by omega),bnd_eq,chk_dec (by rw [h8]; decide)]
    simp [layM]
   ·obtain ⟨rfl,rfl,rfl,rfl,rfl,h1⟩:=h
    simp only [show ((7:Int) == 1) = false from rfl,show ((7:Int) == 2) = false from rfl,show ((7:Int) == 3) = false from rfl,show ((7:Int) == 6) = false from rfl,show ((7:Int) == 7) = true from rfl,cond_false,cond_true]
    rw [w64,eight_eq n _ (by omega),bnd_eq,chk_dec (by rw [h8]; decide)]
    simp [layM]
  ·cases e
   exact hrows hv hk
end W
end
section
open Go Ax Go.RowKit
namespace W
set_option maxRecDepth 10000
section
variable {K V:Type} [BEq K] [LawfulBEq K]
end
structure OkV (n:Nat) (v:Val):Prop where
 right:right v = true
 range:range64 v = true
 check:F_value_Check n v = some 0
 small:20 * v.big + 40 < n
structure OkR (n c:Nat) (r:List Val):Prop where
 len:r.length = c
 val:∀ v ∈ r,OkV n v
 small:40 * bigs r + 40 < n
def rbig:List (List Val) → Nat
 | []=>0
 | r :: l=>1 + bigs r + rbig l
theorem rbig_mem {l:List (List Val)} {r:List Val} (h:r ∈ l):bigs r + 1 ≤ rbig l:=by
 induction l with
 | nil=>cases h
 | cons a l ih =>
  simp only [rbig]
  rcases List.mem_cons.1 h with rfl | h
  ·omega
  ·have:=ih h; omega
theorem rbig_len (l:List (List Val)):l.length ≤ rbig l:=by
 induction l with
 | nil=>exact Nat.le_refl _
 | cons a l ih=>simp only [rbig,List.length_cons]; omega
structure OkL (n c:Nat) (l:List (List Val)):Prop where
 row:∀ r ∈ l,OkR n c r
 small:60 * rbig l + 1000 < n
 lim:n ≤ 1073741824
theorem vbig3 (v:Val):vbig v + 1 ≤ 3 * v.big:=vbig_le v
theorem vbigL3 (l:List Val):vbigL l ≤ 1 + 3 * bigs l:=vbig_le.vbigL_le l
theorem slen (l:List (List Val)):(slRows valC l).length = l.length:=by simp [slRows]
theorem r03_may_of {n:Nat} (hn:n ≤ 1073741824) {v:Val} (hv:vbig v < n):∃ b,F_R03_May n v = some b ∧ (b = true → right v = true ∧ F_value_Check n v = some 0):=by
 obtain ⟨b,h1,h2⟩:=check_eq hn hv
 refine ⟨b,h2,fun hb=>?_⟩
 subst hb
 exact may_right' hn hv h2
def rangeR (l:List (List Val)):Bool:=l.all rangeRow
where rangeRow (r:List Val):Bool:=r.all range64
theorem row_loop {n:Nat} (hn:n ≤ 1073741824) {l:List (List Val)} {i c:Nat} {r:List Val} (hr:l[i]? = some r) (hc:r.length = c) (hs:40 * bigs r + 40 < n) (nx:Int → Option Bool) :
  ∀ m j:Nat,j ≤ c → c - j < m → ∃ b:Bool,loopK (F_R17_May_l2 n (c:Int) l (i:Int) nx) m (j:Int) = (if b = true then nx (IntKind.i64.wrap ((i:Int) + 1)) else some false) ∧ (b = true → ∀ v ∈ r.drop j,right v = true ∧ F_value_Check n v = some 0):=by
 intro m
 induction m with
 | zero=>intro j _ h; omega
 | succ m ih =>
  intro j hj hm
  rw [loopK_succ]
  generalize loopK (F_R17_May_l2 n (c:Int) l (i:Int) nx) m = nx2 at ih ⊢
  unfold F_R17_May_l2
  by_cases hlt:j < c
  ·obtain ⟨x,hx⟩:∃ x,r[j]? = some x:=⟨_,List.getElem?_eq_getElem (by omega)⟩
   have hb:=bigs_mem (List.mem_of_getElem? hx)
   have h3:=vbig3 x
   obtain ⟨b,hb1,hb2⟩:=r03_may_of hn (v:=x) (by omega)
   have hd:r.drop j = x :: r.drop (j + 1):=by
    obtain ⟨_,e⟩:=List.getElem?_eq_some_iff.1 hx
    rw [List.drop_eq_getElem_cons (by omega),e]
   rw [decide_eq_true (show (j:Int) < (c:Int) by omega)]
   obtain ⟨a1,a2,a3,a4,a5,a6⟩:=x
   have hll:=bigs_len r
   simp only [cond_true,Ax.idx_nat,hr,bnd_eq,hx,hb1]
   cases b with
   | false=>exact ⟨false,rfl,fun h=>by cases h⟩
   | true =>
    simp only [Bool.not_true,cond_false]
    rw [wrapN (by omega)]
    obtain ⟨b,e,hv⟩:=ih (j + 1) (by omega) (by omega)
    refine ⟨b,e,fun h v hm=>?_⟩
    rw [hd] at hm
    rcases List.mem_cons.1 hm with rfl | hm
    ·exact hb2 rfl
    ·exact hv h v hm
  ·rw [decide_eq_false (show ¬ (j:Int) < (c:Int) by omega)]
   refine ⟨true,rfl,fun _ v hm=>?_⟩
   rw [List.drop_eq_nil_of_le (by omega)] at hm
   cases hm
theorem may_rows {n:Nat} (hn:n ≤ 1073741824) {l:List (List Val)} (c:Nat) (hs:60 * rbig l + 1000 < n) (hcn:c < n) :
  ∃ b,F_R17_May n l (c:Int) = some b ∧ (b = true → ∀ r ∈ l,r.length = c ∧ ∀ v ∈ r,right v = true ∧ F_value_Check n v = some 0):=by
 have hl:=rbig_len l
 have loop:∀ m i:Nat,i ≤ l.length → l.length - i < m → ∃ b,loopK (F_R17_May_l1 n l (c:Int)) m (i:Int) = some b ∧ (b = true → ∀ r ∈ l.drop i,r.length = c ∧ ∀ v ∈ r,right v = true ∧ F_value_Check n v = some 0):=by
  intro m
  induction m with
  | zero=>intro i _ h; omega
  | succ m ih =>
   intro i hi hm
   rw [loopK_succ]
   generalize loopK (F_R17_May_l1 n l (c:Int)) m = nx at ih ⊢
   unfold F_R17_May_l1
   simp only [slen]
   by_cases hlt:i < l.length
   ·obtain ⟨r,hr⟩:∃ x,l[i]? = some x:=⟨_,List.getElem?_eq_getElem hlt⟩
    have hb:=rbig_mem (List.mem_of_getElem? hr)
    have hd:l.drop i = r :: l.drop (i + 1):=by
     obtain ⟨_,e⟩:=List.getElem?_eq_some_iff.1 hr
     rw [List.drop_eq_getElem_cons hlt,e]
    rw [decide_eq_true (show (i:Int) < (l.length:Int) by omega)]
    simp only [cond_true,Ax.idx_nat,hr,bnd_eq,valRows_len]
    by_cases hc:r.length = c
    ·have e:((((r.length:Nat):Int)) != (c:Int)) = false:=by simp [hc]
     rw [e,cond_false]
     obtain ⟨b,h1,h2⟩:=row_loop hn hr hc (by omega) nx n 0 (Nat.zero_le _) (by omega)
     rw [show ((0:Int)) = ((0:Nat):Int) from rfl,h1]
     cases b with
     | false=>exact ⟨false,rfl,fun h=>by cases h⟩
     | true =>
      simp only [if_true]
      rw [wrapN (by omega)]
      obtain ⟨b,e2,h3⟩:=ih (i + 1) (by omega) (by omega)
      refine ⟨b,e2,fun h q hq=>?_⟩
      rw [hd] at hq
      rcases List.mem_cons.1 hq with rfl | hq
      ·exact ⟨hc,by simpa using h2 rfl⟩
      ·exact h3 h q hq
    ·have e:((((r.length:Nat):Int)) != (c:Int)) = true:=by simp; omega
     rw [e,cond_true]
     exact ⟨false,rfl,fun h=>by cases h⟩
   ·rw [decide_eq_false (show ¬ (i:Int) < (l.length:Int) by omega)]
    refine ⟨true,rfl,fun _ v hm=>?_⟩
    rw [List.drop_eq_nil_of_le (by omega)] at hm
    cases hm
 obtain ⟨b,h1,h2⟩:=loop n 0 (Nat.zero_le _) (by omega)
 exact ⟨b,h1,by simpa using h2⟩
theorem few_eq {n:Nat} (hn:n ≤ 1073741824) {l:List (List Val)} (c:Nat) (hs:60 * rbig l + 1000 < n) (hcn:c < n) (hrg:rangeR l = true) :
  ∃ b,F_L17_few n l (c:Int) = some b ∧ (b = true → l.length ≤ 200 ∧ OkL n c l):=by
 obtain ⟨b,h1,h2⟩:=may_rows hn c hs hcn
 unfold F_L17_few
 rw [slen]
 cases hd:decide ((l.length:Int) ≤ 200) with
 | false=>exact ⟨false,by simp [gsome],fun h=>by cases h⟩
 | true =>
  rw [h1]
  refine ⟨b,by simp [gsome],fun hb=>⟨by have:=of_decide_eq_true hd; omega,⟨fun r hr=>?_,hs,hn⟩⟩⟩
  obtain ⟨h3,h4⟩:=h2 hb r hr
  have hb:=rbig_mem hr
  refine ⟨h3,fun v hv=>?_,by omega⟩
  have hb2:=bigs_mem hv
  have hr1:=List.all_eq_true.1 hrg r hr
  exact ⟨(h4 v hv).1,List.all_eq_true.1 hr1 v hv,(h4 v hv).2,by omega⟩
end W
end
section
open Go Go.Proofs Ax Go.WideShapes
namespace W
open Go.Proofs.YtajcpfcghhbbnaaGreatDoor
set_option maxRecDepth 100000
variable {Hd:Type} {enc:TypeId × Value → Hd} {w:World}
theorem reads_str (n:Nat):ReadsAs enc Tryz.prog w 9 n (fun s:List UInt8=>[PV.str s]) (fun s=>s.length + 1) Rows.uptoBulk:=by
 intro cs x h
 obtain ⟨s,rfl,rfl,_⟩:=DataW.trod_string Tryz.underlying9 h
 refine ⟨s.data.toList,?_,by simp [Value.oneCell'],by simp [Rows.uptoBulk]⟩
 simp [RepL,RepP]
theorem bulk_list:∀ (l:List Val) (elems:List (DataW Hd)),l.length = elems.length → (∀ (i:Nat) (d:DataW Hd) (v:Val),elems[i]? = some d → l[i]? = some v → v.big ≤ Rows.uptoBulk d) → bigs l ≤ Rows.uptoBulkAll elems
 | [],_,_,_=>Nat.zero_le _
 | v :: l,[],h,_=>by simp at h
 | v :: l,d :: elems,h,hh=>by
  have:=bulk_list l elems (by simpa using h) fun i d v hd hv=>hh (i + 1) d v (by simpa using hd) (by simpa using hv)
  have:=hh 0 d v rfl rfl
  simp only [bigs,Rows.uptoBulkAll]; omega
theorem bulk_keys:∀ (l:List (List UInt8)) (elems:List (DataW Hd)),l.length = elems.length → (∀ (i:Nat) (d:DataW Hd) (v:List UInt8),elems[i]? = some d → l[i]? = some v → v.length + 1 ≤ Rows.uptoBulk d) → kbig l ≤ Rows.uptoBulkAll elems
 | [],_,_,_=>Nat.zero_le _
 | v :: l,[],h,_=>by simp at h
 | v :: l,d :: elems,h,hh=>by
  have:=bulk_keys l elems (by simpa using h) fun i d v hd hv=>hh (i + 1) d v (by simpa using hd) (by simpa using hv)
  have:=hh 0 d v rfl rfl
  simp only [kbig,Rows.uptoBulkAll]; omega
abbrev RVal:={ v:Val // range64 v = true }
instance:Inhabited RVal:=⟨⟨.mk 0 false 0 [] [] [],rfl⟩⟩
theorem range_list:∀ l:List RVal,range64L (l.map (·.1)) = true
 | []=>rfl
 | v :: l=>by simp only [List.map_cons,range64L,v.2,range_list l,Bool.and_true]
theorem bulk_listR (l:List RVal) (elems:List (DataW Hd)) (h:l.length = elems.length) (hh:∀ (i:Nat) (d:DataW Hd) (v:RVal),elems[i]? = some d → l[i]? = some v → v.1.big ≤ Rows.uptoBulk d):bigs (l.map (·.1)) ≤ Rows.uptoBulkAll elems:=by
 refine bulk_list (l.map (·.1)) elems (by simpa using h) fun i d v hd hv=>?_
 rw [List.getElem?_map] at hv
 cases hl:l[i]? with
 | none=>rw [hl] at hv; cases hv
 | some x=>rw [hl] at hv; cases hv; exact hh i d x hd hl
theorem reads_valR (n:Nat):ReadsAs enc Tryz.prog w 36 n (fun x:RVal=>x.1.cells) (fun x=>x.1.big) Rows.uptoBulk:=by
 induction n using Nat.strongRecOn with
 | ind n ih =>
 intro cs x h
 obtain ⟨xs,m,rfl,rfl,hcl,hxl,hf⟩:=DataW.trod_struct Tryz.underlying36 h
 have f0:=hf 0 _ rfl
 have f1:=hf 1 _ rfl
 have f2:=hf 2 _ rfl
 have f3:=hf 3 _ rfl
 have f4:=hf 4 _ rfl
 have f5:=hf 5 _ rfl
 clear hf
 have c3:Tryz.prog.cellsOf 3 = 1:=by kernel_rfl
 have c4:Tryz.prog.cellsOf 4 = 1:=by kernel_rfl
 have c2:Tryz.prog.cellsOf 2 = 1:=by kernel_rfl
 have c9:Tryz.prog.cellsOf 9 = 1:=by kernel_rfl
 have c34:Tryz.prog.cellsOf 34 = 1:=by kernel_rfl
 have c23:Tryz.prog.cellsOf 23 = 1:=by kernel_rfl
 have c36:Tryz.prog.cellsOf 36 = 6:=by kernel_rfl
 change DataW.trod enc Tryz.prog w 0 _ true m 3 ((cs.drop 0).take (Tryz.prog.cellsOf 3)) = _ at f0
 rw [c3] at f0
 change DataW.trod enc Tryz.prog w 0 _ true m 4 ((cs.drop 1).take (Tryz.prog.cellsOf 4)) = _ at f1
 rw [c4] at f1
 change DataW.trod enc Tryz.prog w 0 _ true m 2 ((cs.drop 2).take (Tryz.prog.cellsOf 2)) = _ at f2
 rw [c2] at f2
 change DataW.trod enc Tryz.prog w 0 _ true m 9 ((cs.drop 3).take (Tryz.prog.cellsOf 9)) = _ at f3
 rw [c9] at f3
 change DataW.trod enc Tryz.prog w 0 _ true m 34 ((cs.drop 4).take (Tryz.prog.cellsOf 34)) = _ at f4
 rw [c34] at f4
 change DataW.trod enc Tryz.prog w 0 _ true m 23 ((cs.drop 5).take (Tryz.prog.cellsOf 23)) = _ at f5
 rw [c23] at f5
 rw [c36] at hcl
 have hx6:xs.length = 6:=hxl
 obtain ⟨x0,x1,x2,x3,x4,x5,rfl⟩:∃ a b c d e f,xs = [a,b,c,d,e,f]:=by
  match xs,hx6 with
  | [a,b,c,d,e,f],_=>exact ⟨a,b,c,d,e,f,rfl⟩
 obtain ⟨v0,v1,v2,v3,v4,v5,rfl⟩:∃ a b c d e f,cs = [a,b,c,d,e,f]:=by
  match cs,hcl with
  | [a,b,c,d,e,f],_=>exact ⟨a,b,c,d,e,f,rfl⟩
 obtain ⟨k,e0,rfl,_⟩:=DataW.trod_int Tryz.underlying3 f0
 obtain ⟨b,e1,rfl⟩:=DataW.trod_bool Tryz.underlying4 f1
 obtain ⟨i,e2,rfl,hi⟩:=DataW.trod_int Tryz.underlying2 f2
 obtain ⟨s,e3,rfl,_⟩:=DataW.trod_string Tryz.underlying9 f3
 obtain ⟨l,u4,e4,o4,r4,b4⟩:=read_slice (α:=RVal) (z:=6) Tryz.underlying34 c36 (by decide) (fun v=>cells_length v.1) (fun n hn=>ih n (Nat.lt_succ_of_lt hn)) f4
 obtain ⟨ks,u5,e5,o5,r5,b5⟩:=read_slice (α:=List UInt8) (z:=1) (row:=fun s=>[PV.str s]) Tryz.underlying23 c9 (by decide) (fun _=>rfl) (fun n _=>reads_str n) f5
 have er:l.map (fun x:RVal=>x.1.cells) = vals (l.map (·.1)):=by simp [vals]
 rw [er] at r4
 cases e0; cases e1; cases e2; cases e3; cases e4; cases e5
 have hr:int64 i = true:=by
  have:(IntKind.i64.min ≤ i ∧ i ≤ IntKind.i64.max):=by simpa [Lit.wf] using hi
  have e1:IntKind.i64.min = -9223372036854775808:=by decide
  have e2:IntKind.i64.max = 9223372036854775807:=by decide
  rw [e1,e2] at this
  simp only [int64,decide_eq_true_eq]
  omega
 refine ⟨⟨.mk k b i s.data.toList (l.map (·.1)) ks,by simp only [range64,hr,range_list,Bool.and_true]⟩,?_,?_,?_⟩
 ·simp only [Val.cells,RepL]
  rw [rows_eq]
  refine ⟨_,_,rfl,by simp [RepP],_,_,rfl,by simp [RepP],_,_,rfl,by simp [RepP],_,_,rfl,by simp [RepP],_,_,rfl,r4,_,_,rfl,r5,rfl⟩
 ·intro u hu
  simp only [List.mem_cons,List.not_mem_nil,or_false] at hu
  rcases hu with rfl | rfl | rfl | rfl | rfl | rfl <;> first | rfl | assumption
 ·have h4:bigs (l.map (·.1)) ≤ Rows.uptoBulk x4.1:=by
   rcases b4 with ⟨e,rfl⟩ | ⟨el,rest,e,hl,hb⟩
   ·exact Nat.zero_le _
   ·rw [e]
    have:=bulk_listR l el hl hb
    simp only [Rows.uptoBulk]; omega
  have h5:kbig ks ≤ Rows.uptoBulk x5.1:=by
   rcases b5 with ⟨e,rfl⟩ | ⟨el,rest,e,hl,hb⟩
   ·exact Nat.zero_le _
   ·rw [e]
    have:=bulk_keys ks el hl hb
    simp only [Rows.uptoBulk]; omega
  simp only [Val.big,Rows.uptoBulk,Rows.uptoBulkAll,List.map_cons,List.map_nil]
  generalize bigs (l.map (·.1)) = B at h4 ⊢
  simp
  omega
abbrev RRow:={ r:List Val // rangeR.rangeRow r = true }
instance:Inhabited RRow:=⟨⟨[],rfl⟩⟩
theorem row_all (l:List RVal):rangeR.rangeRow (l.map (·.1)) = true:=by
 unfold rangeR.rangeRow
 rw [List.all_eq_true]
 intro v hv
 obtain ⟨x,_,rfl⟩:=List.mem_map.1 hv
 exact x.2
theorem reads_row (n:Nat):ReadsAs enc Tryz.prog w 34 n (fun r:RRow=>[PV.sl (Val.rows r.1)]) (fun r=>bigs r.1 + 1) Rows.uptoBulk:=by
 intro cs x h
 have c36:Tryz.prog.cellsOf 36 = 6:=by kernel_rfl
 obtain ⟨l,v,rfl,o,r,b⟩:=read_slice (α:=RVal) (z:=6) Tryz.underlying34 c36 (by decide) (fun v=>cells_length v.1) (fun m _=>reads_valR m) h
 have er:l.map (fun x:RVal=>x.1.cells) = vals (l.map (·.1)):=by simp [vals]
 rw [er] at r
 refine ⟨⟨l.map (·.1),row_all l⟩,?_,by simpa using o,?_⟩
 ·simp only [RepL]
  rw [rows_eq]
  exact ⟨_,_,rfl,r,rfl⟩
 ·rcases b with ⟨e,rfl⟩ | ⟨el,rest,e,hl,hb⟩
  ·rw [e]; simp [Rows.uptoBulk,bigs]
  ·rw [e]
   have:=bulk_listR l el hl hb
   simp only [Rows.uptoBulk]; omega
theorem bulk_rows:∀ (l:List RRow) (elems:List (DataW Hd)),l.length = elems.length → (∀ (i:Nat) (d:DataW Hd) (v:RRow),elems[i]? = some d → l[i]? = some v → bigs v.1 + 1 ≤ Rows.uptoBulk d) → rbig (l.map (·.1)) ≤ Rows.uptoBulkAll elems
 | [],_,_,_=>Nat.zero_le _
 | v :: l,[],h,_=>by simp at h
 | v :: l,d :: elems,h,hh=>by
  have:=bulk_rows l elems (by simpa using h) fun i d v hd hv=>hh (i + 1) d v (by simpa using hd) (by simpa using hv)
  have:=hh 0 d v rfl rfl
  simp only [List.map_cons,rbig,Rows.uptoBulkAll]; omega
theorem reads_rowsR (n:Nat):ReadsAs enc Tryz.prog w 22 n (fun l:List RRow=>[PV.sl (slRows valC (l.map (·.1)))]) (fun l=>rbig (l.map (·.1)) + 1) Rows.uptoBulk:=by
 intro cs x h
 have c34:Tryz.prog.cellsOf 34 = 1:=by kernel_rfl
 obtain ⟨l,v,rfl,o,r,b⟩:=read_slice (α:=RRow) (z:=1) Tryz.underlying22 c34 (by decide) (fun v=>rfl) (fun m _=>reads_row m) h
 have er:l.map (fun r:RRow=>[PV.sl (Val.rows r.1)]) = slRows valC (l.map (·.1)):=by simp [slRows]; intros; rfl
 rw [er] at r
 refine ⟨l,?_,by simpa using o,?_⟩
 ·simp only [RepL]
  exact ⟨_,_,rfl,r,rfl⟩
 ·rcases b with ⟨e,rfl⟩ | ⟨el,rest,e,hl,hb⟩
  ·rw [e]; simp [Rows.uptoBulk,rbig]
  ·rw [e]
   have:=bulk_rows l el hl hb
   simp only [Rows.uptoBulk]; omega
theorem rangeR_of (l:List RRow):rangeR (l.map (·.1)) = true:=by
 unfold rangeR
 rw [List.all_eq_true]
 intro v hv
 obtain ⟨x,_,rfl⟩:=List.mem_map.1 hv
 exact x.2
theorem reads_argRows {W:World} {v0:Value} {d0:DataW Hd} {p:List MemPlace} {b:Nat} (hval:Value.okWide Tryz.prog W .any b 22 v0) (h:DataW.Trod enc Tryz.prog W 0 (fun _=>true) true 22 v0 d0 p) :
  ∃ l:List (List Val),RepP (heapH W) (.sl (slRows valC l)) v0 ∧ rbig l + 1 ≤ Rows.uptoBulk d0 ∧ rangeR l = true:=by
 obtain ⟨a,len,cap,rfl⟩:=okWide_slice Tryz.underlying22 hval
 obtain ⟨fuel,h⟩:=h
 obtain ⟨l,r,_,hb⟩:=reads_rowsR fuel _ _ h
 refine ⟨l.map (·.1),?_,hb,rangeR_of l⟩
 simp only [RepL] at r
 obtain ⟨v,vs,e,r1,_⟩:=r
 cases e
 exact r1
theorem reads_strs (n:Nat):ReadsAs enc Tryz.prog w 23 n (fun l:List (List UInt8)=>[PV.sl (strs l)]) (fun l=>l.length + 1) Rows.uptoBulk:=by
 intro cs x h
 have c9:Tryz.prog.cellsOf 9 = 1:=by kernel_rfl
 obtain ⟨l,v,rfl,o,r,b⟩:=read_slice (α:=List UInt8) (z:=1) (row:=fun s=>[PV.str s]) Tryz.underlying23 c9 (by decide) (fun _=>rfl) (fun n _=>reads_str n) h
 refine ⟨l,?_,by simpa using o,?_⟩
 ·simp only [RepL]
  exact ⟨_,_,rfl,r,rfl⟩
 ·rcases b with ⟨e,rfl⟩ | ⟨el,rest,e,hl,hb⟩
  ·rw [e]; simp [Rows.uptoBulk]
  ·rw [e]
   have:=bulk_keys l el hl hb
   have h2:∀ q:List (List UInt8),q.length ≤ kbig q:=fun q=>by
    induction q with
    | nil=>exact Nat.le_refl _
    | cons a q ih=>simp only [kbig,List.length_cons]; omega
   have:=h2 l
   simp only [Rows.uptoBulk]; omega
theorem reads_argStrs {W:World} {v0:Value} {d0:DataW Hd} {p:List MemPlace} {b:Nat} (hval:Value.okWide Tryz.prog W .any b 23 v0) (h:DataW.Trod enc Tryz.prog W 0 (fun _=>true) true 23 v0 d0 p) :
  ∃ l:List (List UInt8),RepP (heapH W) (.sl (strs l)) v0 ∧ l.length + 1 ≤ Rows.uptoBulk d0:=by
 obtain ⟨a,len,cap,rfl⟩:=okWide_slice Tryz.underlying23 hval
 obtain ⟨fuel,h⟩:=h
 obtain ⟨l,r,_,hb⟩:=reads_strs fuel _ _ h
 refine ⟨l,?_,hb⟩
 simp only [RepL] at r
 obtain ⟨v,vs,e,r1,_⟩:=r
 cases e
 exact r1
end W
end
section
namespace W
open Go Go.Proofs Ax Go.RowKit Go.ChangeShapes Go.WideShapes Go.ChangeAt
open Go.Proofs.YtajcpfcghhbbnaaGreatDoor Go.ChangeMaps
theorem own:ownKnob Tryz.prog.godebug = none:=by kernel_rfl
theorem laidOut:laidOutB Tryz.prog = true:=by kernel_rfl
theorem root {W:World} (h:W.ShapedOpen Tryz.prog):∃ m,W.cell? ⟨0,0,none⟩ = some (.int .i64 m) :=
 cell_of_shapedOpen_int (zero:=#[.int .i64 0]) (t:=3) h (of_decide_eq_true (by kernel_rfl)) (by kernel_rfl) rfl (by kernel_rfl) (by kernel_rfl) Tryz.underlying3
def putCells (cs:List Value):Obj → Obj
 | .cells _ t frozen=>.cells cs.toArray t frozen
 | o=>o
noncomputable def laidWorld (os:Os):World :=
 { World.holding Tryz.prog os ⟨#[],#[],[]⟩ with heap:=((World.holding Tryz.prog os ⟨#[],#[],[]⟩).heap.modify 1 (putCells (cellsD Rows.laid_unicode_utf8_first))).modify 2 (putCells (cellsD (Rows.laid_unicode_utf8_acceptRanges (H:=Unit)))) }
abbrev V0:Value:=.slice none 0 0
abbrev D0 (H:Type):DataW H:=.nil
end W
end
section
open Go Ax Go.RowKit
namespace W
set_option maxRecDepth 10000
open Classical
def keyR (r:List Val):List UInt8:=r.flatMap layM
theorem keyR_cons (v:Val) (r:List Val):keyR (v :: r) = layM v ++ keyR r:=rfl
theorem keyR_len (r:List Val):(keyR r).length ≤ 16 * bigs r:=by
 induction r with
 | nil=>exact Nat.zero_le _
 | cons v r ih=>rw [keyR_cons,List.length_append]; have:=layM_length v; simp only [bigs]; omega
theorem key_one {n:Nat} (hn:n ≤ 1073741824) {v:Val} (h:OkV n v):F_rank_Key n v = some (layM v,0):=by
 have h1:=(lay_both n hn v h.right).1 h.small
 have h2:=h.check
 obtain ⟨x1,x2,x3,x4,x5,x6⟩:=v
 unfold F_rank_Key
 simp only [h2,bnd_eq,show ((0:Int) != 0) = false from rfl,cond_false,h1]
theorem bigs_drop_le (r:List Val) (i:Nat):bigs (r.drop i) ≤ bigs r:=by
 induction r generalizing i with
 | nil=>simp
 | cons v r ih =>
  cases i with
  | zero=>exact Nat.le_refl _
  | succ i=>simp only [List.drop_succ_cons,bigs]; have:=ih i; omega
theorem key_eq {n:Nat} (hn:n ≤ 1073741824) {r:List Val} (hv:∀ v ∈ r,OkV n v) (hs:40 * bigs r + 40 < n):F_rows_key n r = some (keyR r):=by
 have hl:=bigs_len r
 have loop:∀ m i:Nat,i ≤ r.length → r.length - i < m → loopK (F_rows_key_l1 n r) m (keyR (r.take i),(i:Int)) = some (keyR r):=by
  intro m
  induction m with
  | zero=>intro i _ h; omega
  | succ m ih =>
   intro i hi hm
   rw [loopK_succ]
   generalize loopK (F_rows_key_l1 n r) m = nx at ih ⊢
   unfold F_rows_key_l1
   simp only [valRows_len]
   by_cases hlt:i < r.length
   ·obtain ⟨x,hx⟩:∃ x,r[i]? = some x:=⟨_,List.getElem?_eq_getElem hlt⟩
    have hk:=key_one hn (hv x (List.mem_of_getElem? hx))
    have e:keyR (r.take i) ++ layM x = keyR (r.take (i + 1)):=by rw [List.take_succ,hx]; simp [keyR]
    have h16:=keyR_len (r.take (i + 1))
    have hbt:bigs (r.take (i + 1)) ≤ bigs r:=by
     have:∀ (q:List Val) (j:Nat),bigs (q.take j) ≤ bigs q:=by
      intro q
      induction q with
      | nil=>intro j; simp [bigs]
      | cons a q ihq=>intro j; cases j with
       | zero=>simp [bigs]
       | succ j=>simp only [List.take_succ_cons,bigs]; have:=ihq j; omega
     exact this r (i + 1)
    have hlen:(keyR (r.take i)).length + (layM x).length = (keyR (r.take (i + 1))).length:=by rw [← e,List.length_append]
    rw [decide_eq_true (show (i:Int) < (r.length:Int) by omega)]
    obtain ⟨a1,a2,a3,a4,a5,a6⟩:=x
    simp only [cond_true,Ax.idx_nat,hx,bnd_eq,hk,show ((0:Int) != 0) = false from rfl,cond_false]
    unfold F_rows_key_k3
    rw [chk_dec (by unfold maxI; omega),e,wrapN (by omega)]
    exact ih (i + 1) (by omega) (by omega)
   ·rw [decide_eq_false (show ¬ (i:Int) < (r.length:Int) by omega)]
    simp only [cond_false]
    rw [List.take_of_length_le (by omega)]
 exact loop n 0 (Nat.zero_le _) (by omega)
theorem lay_inj {v w:Val} {x y:List UInt8} (hv:right v = true) (rv:range64 v = true) (hw:right w = true) (rw':range64 w = true) (h:layM v ++ x = layM w ++ y):v = w ∧ x = y:=by
 have h1:=rd_lay v x (max (depth v) (depth w)) hv rv (Nat.le_max_left _ _)
 have h2:=rd_lay w y (max (depth v) (depth w)) hw rw' (Nat.le_max_right _ _)
 rw [h,h2] at h1
 have:=Option.some.inj h1
 exact ⟨(Prod.mk.inj this).1.symm,(Prod.mk.inj this).2.symm⟩
theorem keyR_inj:∀ {r s:List Val},(∀ v ∈ r,right v = true ∧ range64 v = true) → (∀ v ∈ s,right v = true ∧ range64 v = true) → r.length = s.length → keyR r = keyR s → r = s
 | [],[],_,_,_,_=>rfl
 | [],_ :: _,_,_,h,_=>by simp at h
 | _ :: _,[],_,_,h,_=>by simp at h
 | v :: r,w :: s,hr,hs,hl,h=>by
  rw [keyR_cons,keyR_cons] at h
  obtain ⟨e1,e2⟩:=lay_inj (hr v (by simp)).1 (hr v (by simp)).2 (hs w (by simp)).1 (hs w (by simp)).2 h
  subst e1
  rw [keyR_inj (fun x hx=>hr x (by simp [hx])) (fun x hx=>hs x (by simp [hx])) (by simpa using hl) e2]
noncomputable def uniqA:List (List Val) → List (List Val) → List (List Val)
 | acc,[]=>acc
 | acc,r :: l=>if r ∈ acc then uniqA acc l else uniqA (acc ++ [r]) l
noncomputable def uniq (l:List (List Val)):List (List Val):=uniqA [] l
theorem sameList_eq {n:Nat} (hn:n ≤ 1073741824) {r s:List Val} (hs:40 * bigs r + 40 < n):F_R03_SameList n r s = some (decide (r = s)):=by
 have:=vbigL3 r
 obtain ⟨b,h1,h2⟩:=(r03_same n hn).2 r s (by omega)
 rw [h1]
 congr 1
 rw [Bool.eq_iff_iff,h2]
 simp
end W
end
section
open Go Ax Go.RowKit
namespace W
open Classical Go.Proofs
set_option maxRecDepth 10000
def intV:Val → Int
 | .mk _ _ i _ _ _=>i
def intVal (i:Int):Val:=.mk 2 false i [] [] []
theorem count_eq (n:Nat) (c:List Val):F_rows_gather n [99,111,117,110,116] c = some (intVal ((c.length:Nat):Int),0):=by
 unfold F_rows_gather
 simp [intVal]
theorem add_eq (n:Nat) {a b:Int} (ha:int64 a = true) (hb:int64 b = true):F_num_Add n a b = some (if int64 (a + b) = true then (a + b,0) else (0,4)):=by
 simp only [int64,decide_eq_true_eq] at ha hb ⊢
 have w:∀ s:Int,IntKind.i64.wrap s = (if s % 18446744073709551616 < 9223372036854775808 then s % 18446744073709551616 else s % 18446744073709551616 - 18446744073709551616):=by
  intro s
  simp only [IntKind.wrap,IntKind.bits,IntKind.signed]
  simp
  split <;> split <;> omega
 unfold F_num_Add
 rw [w]
 generalize hs:a + b = s
 by_cases hin:-9223372036854775808 ≤ s ∧ s < 9223372036854775808
 ·rw [if_pos hin]
  have e:(if s % 18446744073709551616 < 9223372036854775808 then s % 18446744073709551616 else s % 18446744073709551616 - 18446744073709551616) = s:=by split <;> omega
  rw [e]
  have:(bif ((decide (a < (0:Int))) == (decide (b < (0:Int)))) then (!((decide (s < (0:Int))) == (decide (a < (0:Int))))) else false) = false:=by
   by_cases h1:a < 0 <;> by_cases h2:b < 0 <;> simp [h1,h2] <;> omega
  rw [this]
  rfl
 ·rw [if_neg hin]
  have:(bif ((decide (a < (0:Int))) == (decide (b < (0:Int)))) then (!((decide ((if s % 18446744073709551616 < 9223372036854775808 then s % 18446744073709551616 else s % 18446744073709551616 - 18446744073709551616) < (0:Int))) == (decide (a < (0:Int))))) else false) = true:=by
   have hc:(a < 0 ∧ b < 0) ∨ (0 ≤ a ∧ 0 ≤ b):=by omega
   rcases hc with ⟨h1,h2⟩ | ⟨h1,h2⟩
   ·have e:¬ (if s % 18446744073709551616 < 9223372036854775808 then s % 18446744073709551616 else s % 18446744073709551616 - 18446744073709551616) < 0:=by split <;> omega
    simp [h1,h2,e]
   ·have e:(if s % 18446744073709551616 < 9223372036854775808 then s % 18446744073709551616 else s % 18446744073709551616 - 18446744073709551616) < 0:=by split <;> omega
    have h1':¬ a < 0:=by omega
    have h2':¬ b < 0:=by omega
    simp [h1',h2',e]
  rw [this]
  rfl
def sumS (acc:Int):List Val → Val × Int
 | []=>(intVal acc,0)
 | v :: l=>if kindV v = 2 then (if int64 (acc + intV v) = true then sumS (acc + intV v) l else (nullV,4)) else (nullV,3)
theorem sumS_val {l:List Val}:∀ {acc:Int},∃ i,(sumS acc l).1 = intVal i ∨ (sumS acc l).1 = nullV:=by
 induction l with
 | nil=>intro acc; exact ⟨acc,.inl rfl⟩
 | cons x l ih =>
  intro acc
  simp only [sumS]
  split
  ·split
   ·exact ih
   ·exact ⟨0,.inr rfl⟩
  ·exact ⟨0,.inr rfl⟩
theorem sum_eq {n:Nat} {c:List Val} (hr:∀ v ∈ c,range64 v = true) (hc:c.length < n) (hn:n ≤ 1073741824):F_rows_gather n [115,117,109] c = some (sumS 0 c):=by
 have loop:∀ (m i:Nat) (acc:Int),i ≤ c.length → c.length - i < m → int64 acc = true → loopK (F_rows_sum_l1 n c) m (acc,(i:Int)) = some (sumS acc (c.drop i)):=by
  intro m
  induction m with
  | zero=>intro i _ _ h; omega
  | succ m ih =>
   intro i acc hi hm ha
   rw [loopK_succ]
   generalize loopK (F_rows_sum_l1 n c) m = nx at ih ⊢
   unfold F_rows_sum_l1
   simp only [valRows_len]
   by_cases hlt:i < c.length
   ·obtain ⟨x,hx⟩:∃ x,c[i]? = some x:=⟨_,List.getElem?_eq_getElem hlt⟩
    have hrx:=hr x (List.mem_of_getElem? hx)
    have hd:c.drop i = x :: c.drop (i + 1):=by
     obtain ⟨_,e⟩:=List.getElem?_eq_some_iff.1 hx
     rw [List.drop_eq_getElem_cons hlt,e]
    rw [decide_eq_true (show (i:Int) < (c.length:Int) by omega),hd]
    obtain ⟨a1,a2,a3,a4,a5,a6⟩:=x
    have h3:int64 a3 = true:=by simp only [range64,Bool.and_eq_true] at hrx; exact hrx.1
    simp only [cond_true,Ax.idx_nat,hx,bnd_eq,sumS,kindV,intV]
    by_cases hk:a1 = 2
    ·subst hk
     simp only [show ((2:Int) != 2) = false from rfl,cond_false,add_eq n ha h3,bnd_eq,if_true]
     by_cases hin:int64 (acc + a3) = true
     ·simp only [hin,if_true,show ((0:Int) != 0) = false from rfl,cond_false]
      rw [wrapN (by omega)]
      exact ih (i + 1) _ (by omega) (by omega) hin
     ·simp only [hin,if_false]
      first | done | rfl
    ·have:(a1 != 2) = true:=by simp [hk]
     simp only [this,cond_true,hk,if_false]
     first | done | rfl
   ·rw [decide_eq_false (show ¬ (i:Int) < (c.length:Int) by omega),List.drop_eq_nil_of_le (by omega)]
    rfl
 have hs:F_rows_sum n c = some (sumS 0 c):=loop n 0 0 (Nat.zero_le _) (by omega) rfl
 unfold F_rows_gather
 rw [show (([115,117,109]:List UInt8) == [99,111,117,110,116]) = false from rfl,show (([115,117,109]:List UInt8) == [115,117,109]) = true from rfl]
 simp only [cond_false,cond_true,hs,bnd_eq]
 obtain ⟨⟨_,_,_,_,_,_⟩,_⟩:=sumS 0 c
 rfl
theorem idx0 {A:Type} (x:A) (l:List A):idx (x :: l) (0:Int) = some x:=rfl
def kc (v w:Val):Int:=cb (layM v) (layM w)
theorem order_eq {n:Nat} {v w:Val} (hn:n ≤ 1073741824) (hv:OkV n v) (hw:OkV n w):F_value_Order n v w = some (kc v w):=by
 obtain ⟨c,h1,h2⟩:=F_value_Order_eq v.big n v w (Nat.le_refl _) (by have:=hv.small; omega) (by have:=hv.small; omega) hv.right hw.right hv.range hw.range
 rw [h1]
 have:=h2 [] []
 rw [List.append_nil,List.append_nil,show cb [] [] = 0 from rfl,th_r0] at this
 unfold kc
 rw [this]
def minS (b:Val):List Val → Val
 | []=>b
 | x :: l=>if kc x b < 0 then minS x l else minS b l
def maxS (b:Val):List Val → Val
 | []=>b
 | x :: l=>if kc x b > 0 then maxS x l else maxS b l
theorem min_eq {n:Nat} (hn:n ≤ 1073741824) {v:Val} {l:List Val} (hv:∀ x ∈ v :: l,OkV n x) (hl:l.length + 1 < n):F_slices_MinFunc_api_Value_api_Value__value_Order n (v :: l) = some (minS v l):=by
 have loop:∀ (m i:Nat) (b:Val),i ≤ l.length → l.length - i < m → OkV n b → loopK (F_slices_MinFunc_api_Value_api_Value__value_Order_l1 n (v :: l)) m (((i + 1:Nat):Int),match b with | .mk k b i s l ks=>(k,b,i,s,l,ks)) = some (minS b (l.drop i)):=by
  intro m
  induction m with
  | zero=>intro i _ _ h; omega
  | succ m ih =>
   intro i b hi hm hb
   rw [loopK_succ]
   generalize loopK (F_slices_MinFunc_api_Value_api_Value__value_Order_l1 n (v :: l)) m = nx at ih ⊢
   unfold F_slices_MinFunc_api_Value_api_Value__value_Order_l1
   simp only [valRows_len]
   obtain ⟨b1,b2,b3,b4,b5,b6⟩:=b
   by_cases hlt:i < l.length
   ·obtain ⟨x,hx⟩:∃ x,l[i]? = some x:=⟨_,List.getElem?_eq_getElem hlt⟩
    have hx':(v :: l)[i + 1]? = some x:=by simpa using hx
    have okx:=hv x (List.mem_of_getElem? hx')
    have ho:=order_eq hn okx hb
    have hd:l.drop i = x :: l.drop (i + 1):=by
     obtain ⟨_,e⟩:=List.getElem?_eq_some_iff.1 hx
     rw [List.drop_eq_getElem_cons hlt,e]
    have nxt:=ih (i + 1) x (by omega) (by omega) okx
    have nxb:=ih (i + 1) _ (by omega) (by omega) hb
    rw [decide_eq_true (show ((i + 1:Nat):Int) < ((v :: l).length:Int) by simp; omega),hd]
    obtain ⟨a1,a2,a3,a4,a5,a6⟩:=x
    simp only [cond_true,Ax.idx_nat,hx',bnd_eq,ho,minS]
    by_cases hk:kc (Val.mk a1 a2 a3 a4 a5 a6) (Val.mk b1 b2 b3 b4 b5 b6) < 0
    ·simp only [hk,decide_true,cond_true,if_true]
     unfold F_slices_MinFunc_api_Value_api_Value__value_Order_k3
     rw [wrapN (by omega)]
     exact nxt
    ·simp only [hk,decide_false,cond_false,if_false]
     unfold F_slices_MinFunc_api_Value_api_Value__value_Order_k3
     rw [wrapN (by omega)]
     exact nxb
   ·rw [decide_eq_false (show ¬ ((i + 1:Nat):Int) < ((v :: l).length:Int) by simp; omega),List.drop_eq_nil_of_le (by omega)]
    rfl
 unfold F_slices_MinFunc_api_Value_api_Value__value_Order
 have:=loop n 0 v (Nat.zero_le _) (by omega) (hv v (by simp))
 obtain ⟨a1,a2,a3,a4,a5,a6⟩:=v
 rw [valRows_len,decide_eq_false (by simp; omega)]
 simp only [cond_false,idx0,bnd_eq]
 exact this
theorem max_eq {n:Nat} (hn:n ≤ 1073741824) {v:Val} {l:List Val} (hv:∀ x ∈ v :: l,OkV n x) (hl:l.length + 1 < n):F_slices_MaxFunc_api_Value_api_Value__value_Order n (v :: l) = some (maxS v l):=by
 have loop:∀ (m i:Nat) (b:Val),i ≤ l.length → l.length - i < m → OkV n b → loopK (F_slices_MaxFunc_api_Value_api_Value__value_Order_l1 n (v :: l)) m (((i + 1:Nat):Int),match b with | .mk k b i s l ks=>(k,b,i,s,l,ks)) = some (maxS b (l.drop i)):=by
  intro m
  induction m with
  | zero=>intro i _ _ h; omega
  | succ m ih =>
   intro i b hi hm hb
   rw [loopK_succ]
   generalize loopK (F_slices_MaxFunc_api_Value_api_Value__value_Order_l1 n (v :: l)) m = nx at ih ⊢
   unfold F_slices_MaxFunc_api_Value_api_Value__value_Order_l1
   simp only [valRows_len]
   obtain ⟨b1,b2,b3,b4,b5,b6⟩:=b
   by_cases hlt:i < l.length
   ·obtain ⟨x,hx⟩:∃ x,l[i]? = some x:=⟨_,List.getElem?_eq_getElem hlt⟩
    have hx':(v :: l)[i + 1]? = some x:=by simpa using hx
    have okx:=hv x (List.mem_of_getElem? hx')
    have ho:=order_eq hn okx hb
    have hd:l.drop i = x :: l.drop (i + 1):=by
     obtain ⟨_,e⟩:=List.getElem?_eq_some_iff.1 hx
     rw [List.drop_eq_getElem_cons hlt,e]
    have nxt:=ih (i + 1) x (by omega) (by omega) okx
    have nxb:=ih (i + 1) _ (by omega) (by omega) hb
    rw [decide_eq_true (show ((i + 1:Nat):Int) < ((v :: l).length:Int) by simp; omega),hd]
    obtain ⟨a1,a2,a3,a4,a5,a6⟩:=x
    simp only [cond_true,Ax.idx_nat,hx',bnd_eq,ho,maxS]
    by_cases hk:kc (Val.mk a1 a2 a3 a4 a5 a6) (Val.mk b1 b2 b3 b4 b5 b6) > 0
    ·simp only [hk,decide_true,cond_true,if_true]
     unfold F_slices_MaxFunc_api_Value_api_Value__value_Order_k3
     rw [wrapN (by omega)]
     exact nxt
    ·simp only [hk,decide_false,cond_false,if_false]
     unfold F_slices_MaxFunc_api_Value_api_Value__value_Order_k3
     rw [wrapN (by omega)]
     exact nxb
   ·rw [decide_eq_false (show ¬ ((i + 1:Nat):Int) < ((v :: l).length:Int) by simp; omega),List.drop_eq_nil_of_le (by omega)]
    rfl
 unfold F_slices_MaxFunc_api_Value_api_Value__value_Order
 have:=loop n 0 v (Nat.zero_le _) (by omega) (hv v (by simp))
 obtain ⟨a1,a2,a3,a4,a5,a6⟩:=v
 rw [valRows_len,decide_eq_false (by simp; omega)]
 simp only [cond_false,idx0,bnd_eq]
 exact this
def leastS:List Val → Val
 | []=>nullV
 | v :: l=>minS v l
def mostS:List Val → Val
 | []=>nullV
 | v :: l=>maxS v l
theorem gmin_eq {n:Nat} (hn:n ≤ 1073741824) {c:List Val} (hv:∀ x ∈ c,OkV n x) (hl:c.length + 1 < n):F_rows_gather n [109,105,110] c = some (leastS c,0):=by
 unfold F_rows_gather
 rw [show (([109,105,110]:List UInt8) == [99,111,117,110,116]) = false from rfl,show (([109,105,110]:List UInt8) == [115,117,109]) = false from rfl,show (([109,105,110]:List UInt8) == [99,111,108,108,101,99,116]) = false from rfl,show (([109,105,110]:List UInt8) == [109,105,110]) = true from rfl]
 simp only [cond_false,cond_true,valRows_len]
 cases c with
 | nil=>rfl
 | cons v l =>
  have e:(((((v :: l).length:Nat):Int)) == 0) = false:=by simp; omega
  rw [e,cond_false,min_eq hn hv (by simp at hl; omega),bnd_eq]
  simp only [leastS]
  obtain ⟨_,_,_,_,_,_⟩:=minS v l
  rfl
theorem gmax_eq {n:Nat} (hn:n ≤ 1073741824) {c:List Val} (hv:∀ x ∈ c,OkV n x) (hl:c.length + 1 < n):F_rows_gather n [109,97,120] c = some (mostS c,0):=by
 unfold F_rows_gather
 rw [show (([109,97,120]:List UInt8) == [99,111,117,110,116]) = false from rfl,show (([109,97,120]:List UInt8) == [115,117,109]) = false from rfl,show (([109,97,120]:List UInt8) == [99,111,108,108,101,99,116]) = false from rfl,show (([109,97,120]:List UInt8) == [109,105,110]) = false from rfl]
 simp only [cond_false,valRows_len]
 cases c with
 | nil=>rfl
 | cons v l =>
  have e:(((((v :: l).length:Nat):Int)) == 0) = false:=by simp; omega
  rw [e,cond_false,max_eq hn hv (by simp at hl; omega),bnd_eq]
  simp only [mostS]
  obtain ⟨_,_,_,_,_,_⟩:=maxS v l
  rfl
end W
end
section
open Go Go.Proofs Ax Go.RowKit
namespace W
set_option maxRecDepth 10000
theorem side_int (n:Nat) (a b:Int):F_R03_side n (decide (a < b)) (decide (a > b)) = some (cmpI a b):=by
 unfold F_R03_side cmpI
 by_cases h1:a < b
 ·simp [h1]
 ·by_cases h2:b < a
  ·simp [h1,h2]
  ·simp [h1,h2]
theorem side_str (n:Nat) (a b:List UInt8):F_R03_side n (Op.bytesLess a b) (!(Op.bytesLess a b || a == b)) = some (cb a b):=by
 obtain ⟨h1,h2,h3⟩:=cb_facts a b
 unfold F_R03_side
 rw [h1,h2]
 rcases h3 with h | h | h <;> rw [h] <;> rfl
theorem side_bool (n:Nat) (b b':Bool):F_R03_side n (bif (!b) then b' else false) (bif b then (!b') else false) = some (cmpI (if b then 1 else 0) (if b' then 1 else 0)):=by
 cases b <;> cases b' <;> rfl
theorem z0:((0:Int) == 0) = true:=rfl
theorem R03_place (n:Nat) (k:Int) (h0:0 ≤ k) (h1:k ≤ 7):F_R03_place n k = some (mark k):=by
 have:k = 0 ∨ k = 1 ∨ k = 2 ∨ k = 3 ∨ k = 4 ∨ k = 5 ∨ k = 6 ∨ k = 7:=by omega
 rcases this with h | h | h | h | h | h | h | h <;> subst h <;> rfl
section
variable {n:Nat} {g:Val → Val → Option Int} {l l':List Val} {ks ks':List (List UInt8)}
theorem R03_list (hn:10 ≤ n) (hl:l.length ≤ 1099511627776) (hg:∀ (i:Nat) (v v':Val),l[i]? = some v → l'[i]? = some v' → ∃ c,g v v' = some c ∧ Ord v v' c) :
  ∀ (k i:Nat),l.length - i < k → i ≤ l.length → i ≤ l'.length → ∃ c,loopK (F_R03_Order_l1 n l l' 4 [] [] g) k (i:Int) = some c ∧
   ∀ r r',cb (layL (l.drop i) ++ 0 :: r) (layL (l'.drop i) ++ 0 :: r') = th c (cb r r'):=by
 intro k
 induction k with
 | zero=>intro i h; omega
 | succ k ih =>
  intro i hk hi hi'
  rw [loopK_succ]
  generalize loopK (F_R03_Order_l1 n l l' 4 [] [] g) k = nx at ih ⊢
  unfold F_R03_Order_l1
  simp only [valRows_len]
  rcases Nat.lt_or_ge i l.length with h | h
  ·have d:decide ((i:Int) < (l.length:Int)) = true:=by simp; omega
   obtain ⟨⟨k1,b1,i1,s1,l1,ks1⟩,hv⟩:∃ v,l[i]? = some v:=⟨_,List.getElem?_eq_getElem h⟩
   rcases Nat.lt_or_ge i l'.length with h' | h'
   ·have d':decide ((i:Int) < (l'.length:Int)) = true:=by simp; omega
    obtain ⟨⟨k2,b2,i2,s2,l2,ks2⟩,hv'⟩:∃ v,l'[i]? = some v:=⟨_,List.getElem?_eq_getElem h'⟩
    obtain ⟨c,hc,ho⟩:=hg i _ _ hv hv'
    have e4:((4:Int) == 5) = false:=rfl
    simp only [d,d',cond_true,e4,cond_false]
    unfold F_R03_Order_k6
    simp only [z0,cond_true,Ax.idx_nat,hv,hv',bnd_eq,hc]
    unfold F_R03_Order_k7
    by_cases h0:c = 0
    ·subst h0
     have:((0:Int) != 0) = false:=rfl
     rw [this,cond_false,wrap_nat i (by omega)]
     obtain ⟨c',hc',ho'⟩:=ih (i + 1) (by omega) h h'
     refine ⟨c',hc',fun r r'=>?_⟩
     rw [drop_consV hv,drop_consV hv']
     simp only [layL,List.append_assoc]
     rw [ho,th_zero,ho']
    ·have:(c != 0) = true:=by simpa using h0
     rw [this,cond_true]
     refine ⟨c,rfl,fun r r'=>?_⟩
     rw [drop_consV hv,drop_consV hv']
     simp only [layL,List.append_assoc]
     rw [ho,th_ne _ h0,th_ne _ h0]
   ·have d':decide ((i:Int) < (l'.length:Int)) = false:=by simp; omega
    simp only [d,d',cond_true,cond_false,side_int,bnd_eq]
    refine ⟨_,rfl,fun r r'=>?_⟩
    rw [drop_consV hv,List.drop_eq_nil_of_le h']
    have hc:cmpI (l.length:Int) (l'.length:Int) = 1:=by unfold cmpI; rw [if_neg (by omega),if_pos (by omega)]
    rw [hc]
    simp only [layL,List.nil_append,List.append_assoc]
    rw [(cb_head0 _ _ _).2]
    rfl
  ·have hil:i = l.length:=by omega
   have d:decide ((i:Int) < (l.length:Int)) = false:=by simp; omega
   simp only [d,cond_false,side_int,bnd_eq]
   refine ⟨_,rfl,fun r r'=>?_⟩
   rw [List.drop_eq_nil_of_le h]
   rcases Nat.lt_or_ge i l'.length with h' | h'
   ·obtain ⟨v',hv'⟩:∃ v,l'[i]? = some v:=⟨_,List.getElem?_eq_getElem h'⟩
    have hc:cmpI (l.length:Int) (l'.length:Int) = -1:=by unfold cmpI; rw [if_pos (by omega)]
    rw [hc,drop_consV hv']
    simp only [layL,List.nil_append,List.append_assoc]
    rw [(cb_head0 _ _ _).1]
    rfl
   ·have:l.length = l'.length:=by omega
    rw [this,cmpI_self,List.drop_eq_nil_of_le h']
    simp only [layL,List.nil_append,cb_same]
    rfl
theorem R03_map (hn:10 ≤ n) (hl:l.length ≤ 1099511627776) (hk1:ks.length = l.length) (hk2:ks'.length = l'.length) (hg:∀ (i:Nat) (v v':Val),l[i]? = some v → l'[i]? = some v' → ∃ c,g v v' = some c ∧ Ord v v' c) :
  ∀ (k i:Nat),l.length - i < k → i ≤ l.length → i ≤ l'.length → ∃ c,loopK (F_R03_Order_l1 n l l' 5 ks ks' g) k (i:Int) = some c ∧
   ∀ r r',cb (layK (l.drop i) (ks.drop i) ++ 0 :: r) (layK (l'.drop i) (ks'.drop i) ++ 0 :: r') = th c (cb r r'):=by
 intro k
 induction k with
 | zero=>intro i h; omega
 | succ k ih =>
  intro i hk hi hi'
  rw [loopK_succ]
  generalize loopK (F_R03_Order_l1 n l l' 5 ks ks' g) k = nx at ih ⊢
  unfold F_R03_Order_l1
  simp only [valRows_len]
  rcases Nat.lt_or_ge i l.length with h | h
  ·have d:decide ((i:Int) < (l.length:Int)) = true:=by simp; omega
   obtain ⟨⟨k1,b1,i1,s1,l1,ks1⟩,hv⟩:∃ v,l[i]? = some v:=⟨_,List.getElem?_eq_getElem h⟩
   obtain ⟨key,hkey⟩:∃ v,ks[i]? = some v:=⟨_,List.getElem?_eq_getElem (by omega)⟩
   rcases Nat.lt_or_ge i l'.length with h' | h'
   ·have d':decide ((i:Int) < (l'.length:Int)) = true:=by simp; omega
    obtain ⟨⟨k2,b2,i2,s2,l2,ks2⟩,hv'⟩:∃ v,l'[i]? = some v:=⟨_,List.getElem?_eq_getElem h'⟩
    obtain ⟨key',hkey'⟩:∃ v,ks'[i]? = some v:=⟨_,List.getElem?_eq_getElem (by omega)⟩
    obtain ⟨c,hc,ho⟩:=hg i _ _ hv hv'
    have e4:((5:Int) == 5) = true:=rfl
    simp only [d,d',cond_true,e4,Ax.idx_nat,hkey,hkey',bnd_eq,side_str]
    have e:F_R03_Order_k6 n l (i:Int) l' g nx (cb key key') = F_R03_Order_k7 n nx (i:Int) (th (cb key key') c):=by
     unfold F_R03_Order_k6
     by_cases h0:cb key key' = 0
     ·rw [h0,th_zero]
      simp only [z0,cond_true,Ax.idx_nat,hv,hv',bnd_eq,hc]
     ·rw [show (cb key key' == 0) = false by simpa using h0,th_ne _ h0]
      rfl
    rw [e]
    unfold F_R03_Order_k7
    have step:∀ x y,cb (layK ((.mk k1 b1 i1 s1 l1 ks1) :: l.drop (i + 1)) (key :: ks.drop (i + 1)) ++ x) (layK ((.mk k2 b2 i2 s2 l2 ks2) :: l'.drop (i + 1)) (key' :: ks'.drop (i + 1)) ++ y) =
      th (th (cb key key') c) (cb (layK (l.drop (i + 1)) (ks.drop (i + 1)) ++ x) (layK (l'.drop (i + 1)) (ks'.drop (i + 1)) ++ y)):=by
     intro x y
     simp only [layK,List.append_assoc,List.cons_append]
     rw [cb_same,cb_ended,ho,th_assoc]
    by_cases h0:th (cb key key') c = 0
    ·rw [h0] at step ⊢
     have:((0:Int) != 0) = false:=rfl
     rw [this,cond_false,wrap_nat i (by omega)]
     obtain ⟨c',hc',ho'⟩:=ih (i + 1) (by omega) h h'
     refine ⟨c',hc',fun r r'=>?_⟩
     rw [drop_consV hv,drop_consV hv',drop_consK hkey,drop_consK hkey',step,th_zero,ho']
    ·have:(th (cb key key') c != 0) = true:=by simpa using h0
     rw [this,cond_true]
     refine ⟨_,rfl,fun r r'=>?_⟩
     rw [drop_consV hv,drop_consV hv',drop_consK hkey,drop_consK hkey',step,th_ne _ h0,th_ne _ h0]
   ·have d':decide ((i:Int) < (l'.length:Int)) = false:=by simp; omega
    simp only [d,d',cond_true,cond_false,side_int,bnd_eq]
    refine ⟨_,rfl,fun r r'=>?_⟩
    rw [drop_consV hv,drop_consK hkey,List.drop_eq_nil_of_le h']
    have hc:cmpI (l.length:Int) (l'.length:Int) = 1:=by unfold cmpI; rw [if_neg (by omega),if_pos (by omega)]
    rw [hc]
    simp only [layK,List.nil_append,List.append_assoc,List.cons_append]
    rw [cb_gt _ _ (by decide)]
    rfl
  ·have hil:i = l.length:=by omega
   have d:decide ((i:Int) < (l.length:Int)) = false:=by simp; omega
   simp only [d,cond_false,side_int,bnd_eq]
   refine ⟨_,rfl,fun r r'=>?_⟩
   rw [List.drop_eq_nil_of_le h]
   rcases Nat.lt_or_ge i l'.length with h' | h'
   ·obtain ⟨v',hv'⟩:∃ v,l'[i]? = some v:=⟨_,List.getElem?_eq_getElem h'⟩
    obtain ⟨key',hkey'⟩:∃ v,ks'[i]? = some v:=⟨_,List.getElem?_eq_getElem (by omega)⟩
    have hc:cmpI (l.length:Int) (l'.length:Int) = -1:=by unfold cmpI; rw [if_pos (by omega)]
    rw [hc,drop_consV hv',drop_consK hkey']
    simp only [layK,List.nil_append,List.append_assoc,List.cons_append]
    rw [cb_lt _ _ (by decide)]
    rfl
   ·have:l.length = l'.length:=by omega
    rw [this,cmpI_self,List.drop_eq_nil_of_le h']
    simp only [layK,List.nil_append,cb_same]
    rfl
end
set_option maxHeartbeats 4000000 in
theorem R03_eq:∀ (m n:Nat) (a b:Val),a.big ≤ m → m ≤ 1099511627776 → m + 20 ≤ n → right a = true → right b = true → range64 a = true → range64 b = true → ∃ c,F_R03_Order n a b = some c ∧ Ord a b c:=by
 intro m
 induction m with
 | zero=>intro n a b h; exact absurd a.big_pos (by omega)
 | succ m ih =>
  rintro n ⟨k,b,i,s,l,ks⟩ ⟨k',b',i',s',l',ks'⟩ ha hm hn hr hr' hi hi'
  obtain ⟨n,rfl⟩:∃ j,n = j + 1:=⟨n - 1,by omega⟩
  have hbig:1 + s.length + bigs l + kbig ks ≤ m + 1:=ha
  have hll:=bigs_len l
  show ∃ c,BF_R03_Order n (F_R03_Order n) _ _ = some c ∧ _
  have hg:∀ (x:Nat) (v v':Val),l[x]? = some v → l'[x]? = some v' → rightL l = true → rightL l' = true → range64L l = true → range64L l' = true → ∃ c,F_R03_Order n v v' = some c ∧ Ord v v' c:=by
   intro x v v' hv hv' h1 h2 h3 h4
   have hb:=bigs_mem (List.mem_of_getElem? hv)
   exact ih n v v' (by omega) (by omega) (by omega) (rightL_get h1 (List.mem_of_getElem? hv)) (rightL_get h2 (List.mem_of_getElem? hv')) (rangeL_get h3 (List.mem_of_getElem? hv)) (rangeL_get h4 (List.mem_of_getElem? hv'))
  unfold BF_R03_Order
  obtain ⟨_,_,_,_,h0,h1⟩:=lay_mark hr
  obtain ⟨_,_,_,_,h0',h1'⟩:=lay_mark hr'
  simp only
  rw [R03_place n k h0 h1,R03_place n k' h0' h1']
  simp only [bnd_eq]
  by_cases hk:k = k'
  ·subst hk
   have e:(mark k != mark k) = false:=by simp
   simp only [e,cond_false]
   simp only [right,Bool.and_eq_true] at hr hr'
   simp only [range64,Bool.and_eq_true] at hi hi'
   have split:∀ R,F_R03_Order_k1 n i i' k s s' b b' l l' ks ks' (F_R03_Order n) ((k == 2) || (k == 6) || (k == 7)) = R →
     (bif (k == (2:Int)) then F_R03_Order_k1 n i i' k s s' b b' l l' ks ks' (F_R03_Order n) (k == (2:Int)) else bif (k == (6:Int)) then F_R03_Order_k1 n i i' k s s' b b' l l' ks ks' (F_R03_Order n) (k == (6:Int)) else F_R03_Order_k1 n i i' k s s' b b' l l' ks ks' (F_R03_Order n) (k == (7:Int))) = R:=by
    intro R h
    rw [← h]
    cases k == (2:Int) <;> cases k == (6:Int) <;> rfl
   rcases good_shape hr.1 with ⟨rfl,rfl,rfl,rfl,rfl,rfl⟩ | ⟨rfl,rfl,rfl,rfl,rfl⟩ | ⟨rfl,rfl,rfl,rfl,rfl⟩ | ⟨rfl,rfl,rfl,rfl,rfl⟩ | ⟨rfl,rfl,rfl,rfl,rfl⟩ | ⟨rfl,rfl,rfl,rfl,hkl,_⟩ | ⟨rfl,rfl,rfl,rfl,rfl,hi1⟩ | ⟨rfl,rfl,rfl,rfl,rfl,hi1⟩
   ·rcases good_shape hr'.1 with ⟨_,rfl,rfl,rfl,rfl,rfl⟩ | h | h | h | h | h | h | h <;> try exact absurd h.1 (by decide)
    refine ⟨0,split _ ?_,fun r r'=>by show cb (8 :: r) (8 :: r') = _; rw [cb_same]; rfl⟩
    obtain ⟨m',rfl⟩:∃ j,n = j + 1:=⟨n - 1,by omega⟩
    rfl
   ·rcases good_shape hr'.1 with h | ⟨_,rfl,rfl,rfl,rfl⟩ | h | h | h | h | h | h <;> try exact absurd h.1 (by decide)
    refine ⟨_,split _ (show bnd (F_R03_side n (bif (!b) then b' else false) (bif b then (!b') else false)) (fun x=>some x) = _ by rw [side_bool]; rfl),fun r r'=>?_⟩
    cases b <;> cases b'
    ·show cb (6 :: 0 :: r) (6 :: 0 :: r') = _; rw [cb_same,cb_same]; rfl
    ·show cb (6 :: 0 :: r) (6 :: 1 :: r') = _; rw [cb_same,cb_lt _ _ (by decide)]; rfl
    ·show cb (6 :: 1 :: r) (6 :: 0 :: r') = _; rw [cb_same,cb_gt _ _ (by decide)]; rfl
    ·show cb (6 :: 1 :: r) (6 :: 1 :: r') = _; rw [cb_same,cb_same]; rfl
   ·rcases good_shape hr'.1 with h | h | ⟨_,rfl,rfl,rfl,rfl⟩ | h | h | h | h | h <;> try exact absurd h.1 (by decide)
    refine ⟨_,split _ (show bnd (F_R03_side n (decide (i < i')) (decide (i > i'))) (fun x=>some x) = _ by rw [side_int]; rfl),fun r r'=>?_⟩
    show cb (7 :: (eightL (bits64 i ^^^ 9223372036854775808) ++ r)) (7 :: (eightL (bits64 i' ^^^ 9223372036854775808) ++ r')) = _
    rw [cb_same,cb_eight _ _ (off_lt i) (off_lt i'),off_ord i i' hi.1 hi'.1]
   ·rcases good_shape hr'.1 with h | h | h | ⟨_,rfl,rfl,rfl,rfl⟩ | h | h | h | h <;> try exact absurd h.1 (by decide)
    refine ⟨_,split _ (show bnd (F_R03_side n (Op.bytesLess s s') (!(Op.bytesLess s s' || s == s'))) (fun x=>some x) = _ by rw [side_str]; rfl),fun r r'=>?_⟩
    show cb (5 :: (endedM s ++ r)) (5 :: (endedM s' ++ r')) = _
    rw [cb_same,cb_ended]
   ·rcases good_shape hr'.1 with h | h | h | h | ⟨_,rfl,rfl,rfl,rfl⟩ | h | h | h <;> try exact absurd h.1 (by decide)
    obtain ⟨c,hc,ho⟩:=R03_list (n:=n) (g:=F_R03_Order n) (l:=l) (l':=l') (by omega) (by omega) (fun x v v' hv hv'=>hg x v v' hv hv' hr.2 hr'.2 hi.2 hi'.2) n 0 (by omega) (by omega) (by omega)
    refine ⟨c,split _ hc,fun r r'=>?_⟩
    have e1:∀ (l:List Val) (r:List UInt8),layM (.mk 4 false 0 [] l []) ++ r = 4 :: (layL l ++ 0 :: r):=fun l r=>by
     show (4 :: layL l ++ [0]) ++ r = _
     simp
    rw [e1,e1,cb_same]
    exact ho r r'
   ·rcases good_shape hr'.1 with h | h | h | h | h | ⟨_,rfl,rfl,rfl,hkl',_⟩ | h | h <;> try exact absurd h.1 (by decide)
    obtain ⟨c,hc,ho⟩:=R03_map (n:=n) (g:=F_R03_Order n) (l:=l) (l':=l') (ks:=ks) (ks':=ks') (by omega) (by omega) hkl hkl' (fun x v v' hv hv'=>hg x v v' hv hv' hr.2 hr'.2 hi.2 hi'.2) n 0 (by omega) (by omega) (by omega)
    refine ⟨c,split _ hc,fun r r'=>?_⟩
    have e1:∀ (l:List Val) (ks:List (List UInt8)) (r:List UInt8),layM (.mk 5 false 0 [] l ks) ++ r = 1 :: (layK l ks ++ 0 :: r):=fun l ks r=>by
     show (1 :: layK l ks ++ [0]) ++ r = _
     simp
    rw [e1,e1,cb_same]
    exact ho r r'
   ·rcases good_shape hr'.1 with h | h | h | h | h | h | ⟨_,rfl,rfl,rfl,rfl,hi1'⟩ | h <;> try exact absurd h.1 (by decide)
    refine ⟨_,split _ (show bnd (F_R03_side n (decide (i < i')) (decide (i > i'))) (fun x=>some x) = _ by rw [side_int]; rfl),fun r r'=>?_⟩
    show cb (2 :: (eightL (bits64 i) ++ r)) (2 :: (eightL (bits64 i') ++ r')) = _
    rw [cb_same,cb_eight _ _ (bits64_lt i) (bits64_lt i'),pos_bits i hi.1 hi1,pos_bits i' hi'.1 hi1']
   ·rcases good_shape hr'.1 with h | h | h | h | h | h | h | ⟨_,rfl,rfl,rfl,rfl,hi1'⟩ <;> try exact absurd h.1 (by decide)
    refine ⟨_,split _ (show bnd (F_R03_side n (decide (i < i')) (decide (i > i'))) (fun x=>some x) = _ by rw [side_int]; rfl),fun r r'=>?_⟩
    show cb (3 :: (eightL (bits64 i) ++ r)) (3 :: (eightL (bits64 i') ++ r')) = _
    rw [cb_same,cb_eight _ _ (bits64_lt i) (bits64_lt i'),pos_bits i hi.1 hi1,pos_bits i' hi'.1 hi1']
  ·have hm:mark k ≠ mark k':=fun e=>hk (mark_inj h0 h1 h0' h1' e)
   have e:(mark k != mark k') = true:=by simpa using hm
   simp only [e,cond_true]
   refine ⟨cmpI (mark k) (mark k'),?_,ord_kinds hr hr' hk⟩
   unfold F_R03_side cmpI
   by_cases h:mark k < mark k'
   ·simp [h]
   ·have:mark k' < mark k:=by omega
    simp [h,this]
theorem r03_order_eq {n:Nat} {v w:Val} (hn:n ≤ 1073741824) (hv:OkV n v) (hw:OkV n w):F_R03_Order n v w = some (kc v w):=by
 obtain ⟨c,h1,h2⟩:=R03_eq v.big n v w (Nat.le_refl _) (by have:=hv.small; omega) (by have:=hv.small; omega) hv.right hw.right hv.range hw.range
 rw [h1]
 have:=h2 [] []
 rw [List.append_nil,List.append_nil,show cb [] [] = 0 from rfl,th_r0] at this
 unfold kc
 rw [this]
end W
end
section
open Go Ax Go.RowKit
namespace W
set_option maxRecDepth 10000
open Classical Go.Proofs
theorem radd_eq (n:Nat) {a b:Int} (ha:int64 a = true) (hb:int64 b = true):F_R01_Add n a b = some (if int64 (a + b) = true then (a + b,0) else (0,4)):=by
 simp only [int64,decide_eq_true_eq] at ha hb ⊢
 have w:∀ s:Int,-9223372036854775808 ≤ s → s < 9223372036854775808 → IntKind.i64.wrap s = s:=by
  intro s h1 h2
  simp only [IntKind.wrap,IntKind.bits,IntKind.signed]
  simp
  split <;> omega
 unfold F_R01_Add
 by_cases hp:b > 0
 ·have hn:¬ b < 0:=by omega
  simp only [hp,hn,decide_true,decide_false,cond_true,cond_false]
  rw [w _ (by omega) (by omega)]
  by_cases h:a > 9223372036854775807 - b
  ·rw [decide_eq_true h,cond_true,if_neg (by omega)]
   rfl
  ·rw [decide_eq_false h]
   simp only [cond_false]
   rw [if_pos (by omega),w _ (by omega) (by omega)]
 ·by_cases hn:b < 0
  ·simp only [hp,hn,decide_true,decide_false,cond_true,cond_false]
   rw [w _ (by omega) (by omega)]
   by_cases h:a < -9223372036854775808 - b
   ·rw [decide_eq_true h,if_neg (by omega)]
    rfl
   ·rw [decide_eq_false h]
    simp only [cond_false]
    rw [if_pos (by omega),w _ (by omega) (by omega)]
  ·simp only [hp,hn,decide_false,cond_false]
   rw [if_pos (by omega),w _ (by omega) (by omega)]
theorem rsum_eq {n:Nat} {c:List Val} (hr:∀ v ∈ c,range64 v = true) (hc:c.length < n) (hn:n ≤ 1073741824):F_R17_one n [115,117,109] c = some (sumS 0 c):=by
 have loop:∀ (m i:Nat) (acc:Int),i ≤ c.length → c.length - i < m → int64 acc = true → loopK (F_R17_one_l1 n c) m (acc,(i:Int)) = some (sumS acc (c.drop i)):=by
  intro m
  induction m with
  | zero=>intro i _ _ h; omega
  | succ m ih =>
   intro i acc hi hm ha
   rw [loopK_succ]
   generalize loopK (F_R17_one_l1 n c) m = nx at ih ⊢
   unfold F_R17_one_l1
   simp only [valRows_len]
   by_cases hlt:i < c.length
   ·obtain ⟨x,hx⟩:∃ x,c[i]? = some x:=⟨_,List.getElem?_eq_getElem hlt⟩
    have hrx:=hr x (List.mem_of_getElem? hx)
    have hd:c.drop i = x :: c.drop (i + 1):=by
     obtain ⟨_,e⟩:=List.getElem?_eq_some_iff.1 hx
     rw [List.drop_eq_getElem_cons hlt,e]
    rw [decide_eq_true (show (i:Int) < (c.length:Int) by omega),hd]
    obtain ⟨a1,a2,a3,a4,a5,a6⟩:=x
    have h3:int64 a3 = true:=by simp only [range64,Bool.and_eq_true] at hrx; exact hrx.1
    simp only [cond_true,Ax.idx_nat,hx,bnd_eq,sumS,kindV,intV]
    by_cases hk:a1 = 2
    ·subst hk
     simp only [show ((2:Int) != 2) = false from rfl,cond_false,radd_eq n ha h3,bnd_eq,if_true]
     by_cases hin:int64 (acc + a3) = true
     ·simp only [hin,if_true,show ((0:Int) != 0) = false from rfl,cond_false]
      rw [wrapN (by omega)]
      exact ih (i + 1) _ (by omega) (by omega) hin
     ·simp only [hin,if_false]
      first | done | rfl
    ·have:(a1 != 2) = true:=by simp [hk]
     simp only [this,cond_true,hk,if_false]
     first | done | rfl
   ·rw [decide_eq_false (show ¬ (i:Int) < (c.length:Int) by omega),List.drop_eq_nil_of_le (by omega)]
    rfl
 unfold F_R17_one
 rw [show (([115,117,109]:List UInt8) == [99,111,117,110,116]) = false from rfl,show (([115,117,109]:List UInt8) == [99,111,108,108,101,99,116]) = false from rfl,show (([115,117,109]:List UInt8) == [115,117,109]) = true from rfl]
 simp only [cond_false,cond_true]
 exact loop n 0 0 (Nat.zero_le _) (by omega) rfl
theorem okNull {n:Nat} (hn:100 ≤ n) (hn2:n ≤ 1073741824):OkV n nullV:=by
 refine ⟨rfl,rfl,?_,by simp [nullV,Val.big,bigs,kbig]; omega⟩
 obtain ⟨k,rfl⟩:∃ k,n = k + 10:=⟨n - 10,by omega⟩
 rfl
theorem rbest_eq {n:Nat} (h100:100 ≤ n) (hn:n ≤ 1073741824) {c:List Val} (hv:∀ x ∈ c,OkV n x) (hl:c.length + 1 < n):F_R17_one n [109,105,110] c = some (leastS c,0) ∧ F_R17_one n [109,97,120] c = some (mostS c,0):=by
 have nul:=okNull h100 hn
 have w01:IntKind.i64.wrap ((0:Int) + 1) = 1:=wrapN (k:=0) (by omega)
 constructor
 ·unfold F_R17_one
  rw [show (([109,105,110]:List UInt8) == [99,111,117,110,116]) = false from rfl,show (([109,105,110]:List UInt8) == [99,111,108,108,101,99,116]) = false from rfl,show (([109,105,110]:List UInt8) == [115,117,109]) = false from rfl]
  simp only [cond_false]
  cases c with
  | nil =>
   obtain ⟨k,rfl⟩:∃ k,n = k + 10:=⟨n - 10,by omega⟩
   rfl
  | cons v l =>
   simp only [List.length_cons] at hl
   have loop:∀ (m i:Nat) (b:Val),i ≤ l.length → l.length - i < m → OkV n b → loopK (F_R17_one_l2 n (v :: l) [109,105,110]) m (((i + 1:Nat):Int),match b with | .mk k b i s l ks=>(k,b,i,s,l,ks)) = some (minS b (l.drop i),0):=by
    intro m
    induction m with
    | zero=>intro i _ _ h; omega
    | succ m ih =>
     intro i b hi hm hb
     rw [loopK_succ]
     generalize loopK (F_R17_one_l2 n (v :: l) [109,105,110]) m = nx at ih ⊢
     unfold F_R17_one_l2
     simp only [valRows_len]
     obtain ⟨b1,b2,b3,b4,b5,b6⟩:=b
     by_cases hlt:i < l.length
     ·obtain ⟨x,hx⟩:∃ x,l[i]? = some x:=⟨_,List.getElem?_eq_getElem hlt⟩
      have hx':(v :: l)[i + 1]? = some x:=by simpa using hx
      have okx:=hv x (List.mem_of_getElem? hx')
      have ho:=r03_order_eq hn okx hb
      have hd:l.drop i = x :: l.drop (i + 1):=by
       obtain ⟨_,e⟩:=List.getElem?_eq_some_iff.1 hx
       rw [List.drop_eq_getElem_cons hlt,e]
      have nxt:=ih (i + 1) x (by omega) (by omega) okx
      have nxb:=ih (i + 1) _ (by omega) (by omega) hb
      rw [decide_eq_true (show ((i + 1:Nat):Int) < ((v :: l).length:Int) by simp; omega),hd]
      obtain ⟨a1,a2,a3,a4,a5,a6⟩:=x
      have z:(((i + 1:Nat):Int) == 0) = false:=by simp; omega
      simp only [cond_true,cond_false,Ax.idx_nat,hx',bnd_eq,ho,minS,z,show (([109,105,110]:List UInt8) == [109,105,110]) = true from rfl,show (([109,105,110]:List UInt8) == [109,97,120]) = false from rfl]
      by_cases hk:kc (Val.mk a1 a2 a3 a4 a5 a6) (Val.mk b1 b2 b3 b4 b5 b6) < 0
      ·simp only [hk,decide_true,cond_true,if_true]
       unfold F_R17_one_k2
       simp only []
       rw [wrapN (by omega)]
       exact nxt
      ·simp only [hk,decide_false,cond_false,if_false]
       unfold F_R17_one_k2
       simp only []
       rw [wrapN (by omega)]
       exact nxb
     ·rw [decide_eq_false (show ¬ ((i + 1:Nat):Int) < ((v :: l).length:Int) by simp; omega),List.drop_eq_nil_of_le (by omega)]
      rfl
   obtain ⟨m,rfl⟩:∃ m,n = m + 1:=⟨n - 1,by omega⟩
   have ho:=r03_order_eq hn (hv v (by simp)) nul
   have h1:=loop m 0 v (Nat.zero_le _) (by omega) (hv v (by simp))
   rw [loopK_succ]
   generalize loopK (F_R17_one_l2 (m + 1) (v :: l) [109,105,110]) m = nx at h1 ⊢
   unfold F_R17_one_l2
   simp only [valRows_len]
   rw [decide_eq_true (show (0:Int) < ((v :: l).length:Int) by simp only [List.length_cons]; omega)]
   obtain ⟨a1,a2,a3,a4,a5,a6⟩:=v
   simp only [cond_true,idx0,bnd_eq]
   rw [ho]
   simp only [bnd_eq,show ((0:Int) == 0) = true from rfl,cond_true]
   unfold F_R17_one_k2
   simp only []
   rw [w01]
   exact h1
 ·unfold F_R17_one
  rw [show (([109,97,120]:List UInt8) == [99,111,117,110,116]) = false from rfl,show (([109,97,120]:List UInt8) == [99,111,108,108,101,99,116]) = false from rfl,show (([109,97,120]:List UInt8) == [115,117,109]) = false from rfl]
  simp only [cond_false]
  cases c with
  | nil =>
   obtain ⟨k,rfl⟩:∃ k,n = k + 10:=⟨n - 10,by omega⟩
   rfl
  | cons v l =>
   simp only [List.length_cons] at hl
   have loop:∀ (m i:Nat) (b:Val),i ≤ l.length → l.length - i < m → OkV n b → loopK (F_R17_one_l2 n (v :: l) [109,97,120]) m (((i + 1:Nat):Int),match b with | .mk k b i s l ks=>(k,b,i,s,l,ks)) = some (maxS b (l.drop i),0):=by
    intro m
    induction m with
    | zero=>intro i _ _ h; omega
    | succ m ih =>
     intro i b hi hm hb
     rw [loopK_succ]
     generalize loopK (F_R17_one_l2 n (v :: l) [109,97,120]) m = nx at ih ⊢
     unfold F_R17_one_l2
     simp only [valRows_len]
     obtain ⟨b1,b2,b3,b4,b5,b6⟩:=b
     by_cases hlt:i < l.length
     ·obtain ⟨x,hx⟩:∃ x,l[i]? = some x:=⟨_,List.getElem?_eq_getElem hlt⟩
      have hx':(v :: l)[i + 1]? = some x:=by simpa using hx
      have okx:=hv x (List.mem_of_getElem? hx')
      have ho:=r03_order_eq hn okx hb
      have hd:l.drop i = x :: l.drop (i + 1):=by
       obtain ⟨_,e⟩:=List.getElem?_eq_some_iff.1 hx
       rw [List.drop_eq_getElem_cons hlt,e]
      have nxt:=ih (i + 1) x (by omega) (by omega) okx
      have nxb:=ih (i + 1) _ (by omega) (by omega) hb
      rw [decide_eq_true (show ((i + 1:Nat):Int) < ((v :: l).length:Int) by simp; omega),hd]
      obtain ⟨a1,a2,a3,a4,a5,a6⟩:=x
      have z:(((i + 1:Nat):Int) == 0) = false:=by simp; omega
      simp only [cond_true,cond_false,Ax.idx_nat,hx',bnd_eq,ho,maxS,z,show (([109,97,120]:List UInt8) == [109,105,110]) = false from rfl,show (([109,97,120]:List UInt8) == [109,97,120]) = true from rfl]
      by_cases hk:kc (Val.mk a1 a2 a3 a4 a5 a6) (Val.mk b1 b2 b3 b4 b5 b6) > 0
      ·simp only [hk,decide_true,cond_true,if_true]
       unfold F_R17_one_k2
       simp only []
       rw [wrapN (by omega)]
       exact nxt
      ·simp only [hk,decide_false,cond_false,if_false]
       unfold F_R17_one_k2
       simp only []
       rw [wrapN (by omega)]
       exact nxb
     ·rw [decide_eq_false (show ¬ ((i + 1:Nat):Int) < ((v :: l).length:Int) by simp; omega),List.drop_eq_nil_of_le (by omega)]
      rfl
   obtain ⟨m,rfl⟩:∃ m,n = m + 1:=⟨n - 1,by omega⟩
   have ho:=r03_order_eq hn (hv v (by simp)) nul
   have h1:=loop m 0 v (Nat.zero_le _) (by omega) (hv v (by simp))
   rw [loopK_succ]
   generalize loopK (F_R17_one_l2 (m + 1) (v :: l) [109,97,120]) m = nx at h1 ⊢
   unfold F_R17_one_l2
   simp only [valRows_len]
   rw [decide_eq_true (show (0:Int) < ((v :: l).length:Int) by simp only [List.length_cons]; omega)]
   obtain ⟨a1,a2,a3,a4,a5,a6⟩:=v
   simp only [cond_true,idx0,bnd_eq]
   rw [ho]
   simp only [bnd_eq,show ((0:Int) == 0) = true from rfl,cond_true]
   unfold F_R17_one_k2
   simp only []
   rw [w01]
   exact h1
theorem minS_in:∀ (l:List Val) (b:Val),minS b l = b ∨ minS b l ∈ l
 | [],b=>.inl rfl
 | x :: l,b=>by
  simp only [minS]
  split
  ·rcases minS_in l x with h | h
   ·exact .inr (by rw [h]; simp)
   ·exact .inr (by simp [h])
  ·rcases minS_in l b with h | h
   ·exact .inl h
   ·exact .inr (by simp [h])
theorem maxS_in:∀ (l:List Val) (b:Val),maxS b l = b ∨ maxS b l ∈ l
 | [],b=>.inl rfl
 | x :: l,b=>by
  simp only [maxS]
  split
  ·rcases maxS_in l x with h | h
   ·exact .inr (by rw [h]; simp)
   ·exact .inr (by simp [h])
  ·rcases maxS_in l b with h | h
   ·exact .inl h
   ·exact .inr (by simp [h])
def knownA:List (List UInt8):=[[],[99,111,117,110,116],[115,117,109],[109,105,110],[109,97,120],[99,111,108,108,101,99,116]]
theorem agg_both {n:Nat} (h100:100 ≤ n) (hn:n ≤ 1073741824) {a:List UInt8} (ha:a ∈ knownA) (hne:a ≠ []) {c:List Val} (hv:∀ x ∈ c,OkV n x) (hl:vbigL c + 10 < n) :
  ∃ r:Val × Int,F_rows_gather n a c = some r ∧ F_R17_one n a c = some r ∧ vbig r.1 < n ∧ r.1.big ≤ 1 + bigs c:=by
 have hlen:=vbigL_len c
 have okb:∀ v,OkV n v → vbig v < n:=fun v h=>by have:=h.small; have:=vbig_le v; omega
 have nul:=okNull h100 hn
 simp only [knownA,List.mem_cons,List.not_mem_nil,or_false] at ha
 rcases ha with rfl | rfl | rfl | rfl | rfl | rfl
 ·exact absurd rfl hne
 ·refine ⟨(intVal (c.length:Int),0),count_eq n c,?_,by simp [intVal,vbig,vbigL]; omega,by simp [intVal,Val.big,bigs,kbig]⟩
  unfold F_R17_one
  simp [intVal]
 ·refine ⟨_,sum_eq (fun v h=>(hv v h).range) (by omega) hn,rsum_eq (fun v h=>(hv v h).range) (by omega) hn,?_,?_⟩
  ·obtain ⟨i,h | h⟩:=@sumS_val c 0 <;> rw [h] <;> simp [intVal,nullV,vbig,vbigL] <;> omega
  ·obtain ⟨i,h | h⟩:=@sumS_val c 0 <;> rw [h] <;> simp [intVal,nullV,Val.big,bigs,kbig]
 ·refine ⟨_,gmin_eq hn hv (by omega),(rbest_eq h100 hn hv (by omega)).1,okb _ ?_,?_⟩
  ·cases c with
   | nil=>exact nul
   | cons v l =>
    rcases minS_in l v with h | h
    ·simp only [leastS,h]; exact hv v (by simp)
    ·exact hv _ (by simp only [leastS]; simp [h])
  ·cases c with
   | nil=>simp [leastS,nullV,Val.big,bigs,kbig]
   | cons v l =>
    simp only [leastS,bigs]
    rcases minS_in l v with h | h
    ·rw [h]; omega
    ·have:=bigs_mem h; omega
 ·refine ⟨_,gmax_eq hn hv (by omega),(rbest_eq h100 hn hv (by omega)).2,okb _ ?_,?_⟩
  ·cases c with
   | nil=>exact nul
   | cons v l =>
    rcases maxS_in l v with h | h
    ·simp only [mostS,h]; exact hv v (by simp)
    ·exact hv _ (by simp only [mostS]; simp [h])
  ·cases c with
   | nil=>simp [mostS,nullV,Val.big,bigs,kbig]
   | cons v l =>
    simp only [mostS,bigs]
    rcases maxS_in l v with h | h
    ·rw [h]; omega
    ·have:=bigs_mem h; omega
 ·have hb:vbig (.mk 4 false 0 [] c []) < n:=by simp [vbig,nbig]; omega
  obtain ⟨b,h1,h2⟩:=check_eq hn hb
  have hc:=copied_id hn (l:=c) (by omega)
  cases b with
  | true =>
   refine ⟨(.mk 4 false 0 [] c [],0),?_,?_,hb,by simp [Val.big,kbig]⟩
   ·unfold F_rows_gather
    rw [show (([99,111,108,108,101,99,116]:List UInt8) == [99,111,117,110,116]) = false from rfl,show (([99,111,108,108,101,99,116]:List UInt8) == [115,117,109]) = false from rfl,show (([99,111,108,108,101,99,116]:List UInt8) == [99,111,108,108,101,99,116]) = true from rfl]
    simp only [cond_false,cond_true,hc,bnd_eq,h1]
    rfl
   ·unfold F_R17_one
    rw [show (([99,111,108,108,101,99,116]:List UInt8) == [99,111,117,110,116]) = false from rfl,show (([99,111,108,108,101,99,116]:List UInt8) == [99,111,108,108,101,99,116]) = true from rfl]
    simp only [cond_false,cond_true,h2,bnd_eq]
    rfl
  | false =>
   refine ⟨(nullV,8),?_,?_,okb _ nul,by simp [nullV,Val.big,bigs,kbig]⟩
   ·unfold F_rows_gather
    rw [show (([99,111,108,108,101,99,116]:List UInt8) == [99,111,117,110,116]) = false from rfl,show (([99,111,108,108,101,99,116]:List UInt8) == [115,117,109]) = false from rfl,show (([99,111,108,108,101,99,116]:List UInt8) == [99,111,108,108,101,99,116]) = true from rfl]
    simp only [cond_false,cond_true,hc,bnd_eq,h1]
    rfl
   ·unfold F_R17_one
    rw [show (([99,111,108,108,101,99,116]:List UInt8) == [99,111,117,110,116]) = false from rfl,show (([99,111,108,108,101,99,116]:List UInt8) == [99,111,108,108,101,99,116]) = true from rfl]
    simp only [cond_false,cond_true,h2,bnd_eq]
    rfl
end W
end
