/- A part of the proof. -/
import Derived.Deep.LoopGhost
import Derived.Laws.Externs
import Derived.Laws.IdiomCopy
import Derived.Laws.OwnMore
import Derived.Lib.AppendStr
import Derived.Lib.Builder
import Derived.Lib.ConvBytes
import Derived.Shelf.Strings.Builder1
import Derived.Test.YtajcpfcghhbbnaaGreatDoorA
set_option linter.all false
section
namespace Ax
open Go
variable {Lw:Nat}
section
variable {P:Program} {w:World}
theorem append_run {t ty e:TypeId} {i:TypeInfo} {z:Value} (ht:P.underlying t = some (.slice e)) (hi:P.info? e = some i) (hz:i.zero = some z) (hzs:z.cells.size = i.size)
  {v:Value} {n:Nat} {xs:List Value} (hown:w.ownsRow 0 e i.size v n xs)
  {x:Value} {m:Nat} {news:List Value} (hl:news.length = m * i.size) (h1:∀ u ∈ news,u.oneCell' = true)
  (hx:(m = 0 ∧ x = .slice none 0 0) ∨ ∃ a c,x = .slice (some a) m c ∧ ∀ j u,news[j]? = some u → w.cell? (a.add j) = some u)
  (h63:n + m ≤ 9223372036854775807) (hbytes:(n + m) * i.bytes ≤ 140737488355328) :
  ∃ v' w',(Builtin.append_ #[t,t] ty #[v,x]).run P w = .ok v' w' ∧ w'.ownsRow 0 e i.size v' (n + m) (xs ++ news) ∧
   ((blkOf v' = blkOf v ∧ (∀ g,blkOf v = some g → Keep (fun b=>b = g) w w') ∧ (blkOf v = none → w' = w)) ∨ (blkOf v' = some w.heap.size ∧ Keep (fun b=>b = w.heap.size) w w')):=by
 have hlen:(xs ++ news).length = (n + m) * i.size:=by rw [List.length_append,hown.1,hl,Nat.add_mul]
 have h63':n + m ≤ maxLen:=by unfold maxLen; omega
 rcases hx with ⟨rfl,rfl⟩ | ⟨ad,c,rfl,hnews⟩
 ·have hn:news = []:=List.eq_nil_of_length_eq_zero (by simpa using hl)
  subst hn
  refine ⟨v,w,run_append_owned_none (P:=P) (w:=w) 0 t ty e i i.size ht hi v n xs hown,by simpa using hown,.inl ⟨rfl,fun g _=>Keep.refl _ w,fun _=>rfl⟩⟩
 have grown:∀ (old:Nat),(w.drew.alloc (.cells (xs.toArray ++ news.toArray ++ Builtin.zeroCells z.cells (grownCap w (n + m) old e - (n + m))) e)).ownsRow 0 e i.size
    (.slice (some ⟨w.heap.size,0,none⟩) (n + m) (grownCap w (n + m) old e)) (n + m) (xs ++ news):=by
  intro old
  have hge:=grownCap_ge w (n + m) old e
  have hcm:grownCap w (n + m) old e ≤ maxLen:=grownCap_le_maxLen w (n + m) old e h63'
  refine ⟨hlen,.inr ⟨w.heap.size,_,_,rfl,Nat.zero_le _,heap_alloc_new w.drew _,hge,hcm,?_,?_⟩⟩
  ·simp only [Array.size_append,List.size_toArray,size_zeroCells,hzs,hown.1,hl,← Nat.add_mul]
   congr 1
   omega
  ·simp only [Array.toList_append,List.append_assoc]
   rw [← List.append_assoc,← hlen]
   exact List.take_left
 rcases hown.2 with ⟨rfl,rfl⟩ | ⟨g,cap,cur,rfl,hbg,hg,hnc,hcm,hcs,htake⟩
 ·have hxs:xs = []:=List.eq_nil_of_length_eq_zero (by simpa using hown.1)
  subst hxs
  by_cases hm:m = 0
  ·subst hm
   have hn:news = []:=List.eq_nil_of_length_eq_zero (by simpa using hl)
   subst hn
   refine ⟨.slice none 0 0,w,?_,World.ownsRow_nil w 0 e i.size,.inl ⟨rfl,fun g _=>Keep.refl _ w,fun _=>rfl⟩⟩
   simp [Builtin.append_,run_underlying ht,Go.sizeOf,typeInfo,hi,Builtin.lenOf,Builtin.firstCells,loadCells,loadCellsFrom]
  ·have hr:=run_append_nil (P:=P) w t ty e i z ht hi hz ad m c news hl hnews (by omega) (by omega) (by have hb:=hbytes; simp only [Nat.zero_add] at hb; omega)
   have hgr:=grown 0
   simp only [Nat.zero_add,List.nil_append,Array.empty_append] at hgr ⊢
   exact ⟨_,_,hr,hgr,.inr ⟨rfl,keep_drew_alloc w _ _⟩⟩
 ·by_cases hroom:n + m ≤ cap
  ·have hfit:n * i.size + news.length ≤ cur.size:=by rw [hl,hcs,← Nat.add_mul]; exact Nat.mul_le_mul_right _ hroom
   have hr:=run_append_room (P:=P) w t ty e i ht hi g n cap cur hg ad m c news hl hnews h1 hroom hfit
   refine ⟨_,_,hr,⟨hlen,.inr ⟨g,cap,_,rfl,hbg,setRow_heap w g cur _ e _ hg,hroom,hcm,?_,?_⟩⟩,.inl ⟨rfl,fun g' hg'=>?_,fun h=>by simp [blkOf] at h⟩⟩
   ·simp only [List.size_toArray,List.length_append,List.length_take,List.length_drop,Array.length_toList]
    omega
   ·rw [htake,← hlen]
    exact List.take_left
   ·simp [blkOf] at hg'
    subst hg'
    exact ⟨rfl,rfl,rfl,by simp,fun k _ hk=>setRow_other w g k _ hk⟩
  ·have holds:∀ j u,xs[j]? = some u → w.cell? ((⟨g,0,none⟩:Addr).add j) = some u:=hown.cells (g:=g) rfl
   have hr:=run_append_grow (P:=P) w t ty e i z ht hi hz ⟨g,0,none⟩ n cap xs hown.1 holds ad m c news hl hnews (by omega) (by omega) (growslice_fits (by omega) hbytes)
   exact ⟨_,_,hr,grown cap,.inr ⟨rfl,keep_drew_alloc w _ _⟩⟩
theorem append_run_string {t u ty e:TypeId} {i:TypeInfo} (ht:P.underlying t = some (.slice e)) (hu:P.underlying u = some .string) (hi:P.info? e = some i) (hz:i.zero = some (.int .u8 0)) (hsz:i.size = 1)
  {v:Value} {n:Nat} {xs:List Value} (hown:w.ownsRow 0 e 1 v n xs) (str:List UInt8)
  (h63:n + str.length ≤ 9223372036854775807) (hbytes:(n + str.length) * i.bytes ≤ 140737488355328) :
  ∃ v' w',(Builtin.append_ #[t,u] ty #[v,.string ⟨str.toArray⟩]).run P w = .ok v' w' ∧ w'.ownsRow 0 e 1 v' (n + str.length) (xs ++ Lib.strCells ⟨str.toArray⟩) ∧
   ((blkOf v' = blkOf v ∧ (∀ g,blkOf v = some g → Keep (fun b=>b = g) w w') ∧ (blkOf v = none → w' = w)) ∨ (blkOf v' = some w.heap.size ∧ Keep (fun b=>b = w.heap.size) w w')):=by
 have hs:(⟨str.toArray⟩:ByteArray).size = str.length:=size_lit str
 generalize hsg:(⟨str.toArray⟩:ByteArray) = sb at *
 have hl:(Lib.strCells sb).length = str.length:=by rw [Lib.strCells_length,hs]
 have hlen:(xs ++ Lib.strCells sb).length = (n + str.length) * 1:=by rw [List.length_append,hown.1,hl,Nat.mul_one,Nat.mul_one]
 have h63':n + str.length ≤ maxLen:=by unfold maxLen; omega
 have grown:∀ (old:Nat),(w.drew.alloc (.cells (xs.toArray ++ (Lib.strCells sb).toArray ++ Builtin.zeroCells (Value.int .u8 0).cells (grownCap w (n + str.length) old e - (n + str.length))) e)).ownsRow 0 e 1
    (.slice (some ⟨w.heap.size,0,none⟩) (n + str.length) (grownCap w (n + str.length) old e)) (n + str.length) (xs ++ Lib.strCells sb):=by
  intro old
  have hge:=grownCap_ge w (n + str.length) old e
  have hcm:grownCap w (n + str.length) old e ≤ maxLen:=grownCap_le_maxLen w (n + str.length) old e h63'
  refine ⟨hlen,.inr ⟨w.heap.size,_,_,rfl,Nat.zero_le _,heap_alloc_new w.drew _,hge,hcm,?_,?_⟩⟩
  ·have h1:(Value.int .u8 0).cells.size = 1:=rfl
   simp only [Array.size_append,List.size_toArray,size_zeroCells,h1,hown.1,hl]
   omega
  ·simp only [Array.toList_append,List.append_assoc]
   rw [← List.append_assoc,← hlen]
   exact List.take_left
 rcases hown.2 with ⟨rfl,rfl⟩ | ⟨g,cap,cur,rfl,hbg,hg,hnc,hcm,hcs,htake⟩
 ·have hxs:xs = []:=List.eq_nil_of_length_eq_zero (by simpa using hown.1)
  subst hxs
  by_cases hm:str.length = 0
  ·have hn:Lib.strCells sb = []:=List.eq_nil_of_length_eq_zero (by omega)
   refine ⟨.slice none 0 0,w,?_,by rw [hm,hn]; exact World.ownsRow_nil w 0 e 1,.inl ⟨rfl,fun g _=>Keep.refl _ w,fun _=>rfl⟩⟩
   simp [Builtin.append_,run_underlying ht,run_underlying hu,Go.sizeOf,typeInfo,hi,Builtin.lenOf,Builtin.firstCells,hs,hm]
  ·have hr:=run_append_nil_string (P:=P) w t u ty e i (.int .u8 0) ht hu hi hz sb (by omega) (by omega) (by rw [hs]; have hb:=hbytes; simp only [Nat.zero_add] at hb; omega)
   have hgr:=grown 0
   simp only [Nat.zero_add,List.nil_append,Array.empty_append] at hgr ⊢
   have e1:sb.data.map (fun b=>Value.int .u8 b.toNat) = (Lib.strCells sb).toArray:=by
    apply Array.ext'
    simp [Lib.strCells]
   rw [e1,hs] at hr
   exact ⟨_,_,hr,hgr,.inr ⟨rfl,keep_drew_alloc w _ _⟩⟩
 ·by_cases hroom:n + str.length ≤ cap
  ·have hfit:n + sb.size ≤ cur.size:=by rw [hs]; omega
   have hr:=Lib.run_append_room_string (P:=P) w t u ty e i ht hu hi hsz g n cap cur hg sb (by omega) hfit
   rw [hs] at hr
   refine ⟨_,_,hr,⟨hlen,.inr ⟨g,cap,_,rfl,hbg,setRow_heap w g cur _ e _ hg,hroom,hcm,?_,?_⟩⟩,.inl ⟨rfl,fun g' hg'=>?_,fun h=>by simp [blkOf] at h⟩⟩
   ·simp only [List.size_toArray,List.length_append,List.length_take,List.length_drop,Array.length_toList,hl]
    omega
   ·rw [Nat.mul_one] at htake
    rw [htake,← hlen]
    exact List.take_left
   ·simp [blkOf] at hg'
    subst hg'
    exact ⟨rfl,rfl,rfl,by simp,fun k _ hk=>setRow_other w g k _ hk⟩
  ·have holds:∀ j u,xs[j]? = some u → w.cell? ((⟨g,0,none⟩:Addr).add j) = some u:=hown.cells (g:=g) rfl
   have hr:=Lib.run_append_grow_string (P:=P) w t u ty e i (.int .u8 0) ht hu hi hz ⟨g,0,none⟩ n cap xs (by rw [hsz]; exact hown.1) holds sb (by omega) (by omega) (growslice_fits (by omega) (by rw [hs]; exact hbytes))
   rw [hs] at hr
   exact ⟨_,_,hr,grown cap,.inr ⟨rfl,keep_drew_alloc w _ _⟩⟩
theorem bRows_V (H:(PH Lw)):∀ (l:List UInt8),RepV H 1 (bRows l) (Lib.strCells ⟨l.toArray⟩)
 | []=>by simp [bRows,RepV,Lib.strCells]
 | b :: l=>by
  have:=bRows_V H l
  simp only [bRows,List.map_cons,RepV]
  refine ⟨rfl,[.int .u8 b.toNat],Lib.strCells ⟨l.toArray⟩,by simp [Lib.strCells],?_,this⟩
  simp [RepL,RepP]
theorem rowsOf_spec {f:FV} {R:List (List PV) → Prop} (h:rowsOf f R):∃ rows,R rows ∧ ∀ ⦃Lw:Nat⦄ (ρ:List Value) (H:(PH Lw)) (x:Value),RepF ρ H f x → RepP H (.sl rows) x:=by
 unfold rowsOf at h
 split at h
 ·exact ⟨_,h,fun _ _ _ _ r=>r⟩
 ·exact ⟨_,h,fun _ _ _ _ r=>r.2⟩
 ·refine ⟨[],h,fun _ _ _ _ r=>?_⟩
  simp only [RepF,RepP] at r ⊢
  exact .inl ⟨trivial,.inl r⟩
 ·exact h.elim
def grownH (H:(PH Lw)) (v:Value) (ys:List Value):(PH Lw):=fun b o=>if blkOf v = some b ∧ o < ys.length then ys[o]? else H b o
theorem append_world {bs:(Base Lw)} {ρ:List Value} {H:(PH Lw)} {lo:List AObj} (s:SatW bs ρ H lo w) {e:TypeId} {z:Nat} {v:Value} {n:Nat} {xs:List Value} (hown:w.ownsRow 0 e z v n xs)
  (hxs:∀ b,blkOf v = some b → (∀ j u,xs[j]? = some u → H b j = some u) ∧ ∀ o,n * z ≤ o → H b o = none)
  (hfree:∀ (g:Nat),blkOf v = some g → ∀ (k:Nat) (o':AObj) (v':Value),lo[k]? = some o' → ρ[k]? = some v' → o'.live = true → blkOf v' ≠ some g)
  (howns:∀ g,blkOf v = some g → bs.S g ∨ bs.w0.heap.size ≤ g)
  {w':World} {v':Value} {m:Nat} {news:List Value} (hnl:news.length = m * z) (h1:∀ u ∈ xs ++ news,u.oneCell' = true)
  (hown':w'.ownsRow 0 e z v' (n + m) (xs ++ news))
  (hk:(blkOf v' = blkOf v ∧ (∀ g,blkOf v = some g → Keep (fun b=>b = g) w w') ∧ (blkOf v = none → w' = w)) ∨ (blkOf v' = some w.heap.size ∧ Keep (fun b=>b = w.heap.size) w w')) :
  PH.le H (grownH H v' (xs ++ news)) ∧ SatW bs (ρ ++ [v']) (grownH H v' (xs ++ news)) (lo ++ [.tail e z (n + m)]) w':=by
 have hlen:(xs ++ news).length = (n + m) * z:=hown'.1
 have hin:∀ b o u,blkOf v' = some b → H b o = some u → o < xs.length ∧ (xs ++ news)[o]? = some u:=by
  intro b o u hb hu
  rcases hk with ⟨e1,_⟩ | ⟨e1,_⟩
  ·rw [e1] at hb
   obtain ⟨h2,h3⟩:=hxs b hb
   have hlt:o < xs.length:=by
    rw [hown.1]
    rcases Nat.lt_or_ge o (n * z) with h | h
    ·exact h
    ·rw [h3 o h] at hu; cases hu
   refine ⟨hlt,?_⟩
   rw [List.getElem?_append_left hlt]
   have:=h2 o _ (List.getElem?_eq_getElem hlt)
   rw [hu] at this
   rw [List.getElem?_eq_getElem hlt,← Option.some.inj this]
  ·rw [e1] at hb
   cases hb
   exact absurd (s.sath.lt hu) (Nat.lt_irrefl _)
 have hle:PH.le H (grownH H v' (xs ++ news)):=by
  intro b o u hu
  unfold grownH
  split
  ·rename_i hc; exact (hin b o u hc.1 hu).2
  ·exact hu
 refine ⟨hle,?_⟩
 have hcell:∀ g,blkOf v' = some g → ∀ o u,(xs ++ news)[o]? = some u → w'.cell? ⟨g,o,none⟩ = some u:=by
  intro g hg o u hu
  have:=hown'.cells (g:=g) (by
   rcases hown'.2 with ⟨rfl,_⟩ | ⟨g',cap,cur,rfl,_⟩
   ·simp [blkOf] at hg
   ·simpa [blkOf,Value.ownBlock] using hg) o u hu
  rwa [Addr.add_lit,Nat.zero_add] at this
 have hsat:SatH (grownH H v' (xs ++ news)) w':=by
  refine ⟨?_,s.sath.root.mono hle,by rcases hk with ⟨_,k1,k2⟩ | ⟨_,k1⟩; { cases hv:blkOf v with | none=>rw [k2 hv]; exact s.sath.low | some g=>exact Nat.le_trans s.sath.low (k1 g hv).size }; { exact Nat.le_trans s.sath.low k1.size },?_⟩
  rotate_left
  ·intro b o u hu hL
   by_cases hbv:blkOf v' = some b
   ·exact .own hown' hbv
   ·unfold grownH at hu
    rw [if_neg (fun hc=>hbv hc.1)] at hu
    have hlt:=s.sath.lt hu
    refine (s.sath.nf b o u hu hL).block ?_
    rcases hk with ⟨e1,k1,k2⟩ | ⟨e1,k1⟩
    ·cases hv:blkOf v with
     | none=>rw [k2 hv]
     | some g=>exact (k1 g hv).block b hlt (fun e=>hbv (by rw [e1,hv,e]))
    ·exact k1.block b hlt (by omega)
  intro b o u hu
  unfold grownH at hu
  split at hu
  ·rename_i hc
   exact ⟨hcell b hc.1 o u hu,h1 u (List.mem_of_getElem? hu)⟩
  ·rename_i hc
   obtain ⟨hcl,hone⟩:=s.sath.cell b o u hu
   refine ⟨?_,hone⟩
   have hbne:blkOf v' ≠ some b:=fun hb=>hc ⟨hb,by have:=(hin b o u hb hu).1; rw [List.length_append]; omega⟩
   have hlt:=s.sath.lt hu
   rcases hk with ⟨e1,k1,k2⟩ | ⟨e1,k1⟩
   ·cases hv:blkOf v with
    | none=>rw [k2 hv]; exact hcl
    | some g =>
     rw [World.cell?_of_block (w:=w) (a:=⟨b,o,none⟩) ((k1 g hv).block b hlt (fun e=>hbne (by rw [e1,hv,e])))]
     exact hcl
   ·rw [World.cell?_of_block (w:=w) (a:=⟨b,o,none⟩) (k1.block b hlt (by omega))]
    exact hcl
 have hok:∀ ρ,ObjOk ρ (grownH H v' (xs ++ news)) w' v' (.tail e z (n + m)):=by
  intro ρ
  refine ⟨xs ++ news,hown',fun b hb=>⟨fun j u hu=>?_,fun o ho=>?_⟩⟩
  ·unfold grownH
   rw [if_pos ⟨hb,(List.getElem?_eq_some_iff.1 hu).1⟩]
   exact hu
  ·unfold grownH
   rw [if_neg (by rw [hlen]; omega)]
   cases hx:H b o with
   | none=>rfl
   | some u =>
    have:=(hin b o u hb hx).1
    rw [hown.1] at this
    have:n * z ≤ (n + m) * z:=Nat.mul_le_mul_right _ (by omega)
    omega
 have hnew:∀ b o u,grownH H v' (xs ++ news) b o = some u → (∃ u,H b o = some u) ∨ blkOf v' = some b:=by
  intro b o u hu
  unfold grownH at hu
  split at hu
  ·rename_i hc; exact .inr hc.1
  ·exact .inl ⟨u,hu⟩
 rcases hk with ⟨e1,k1,k2⟩ | ⟨e1,k1⟩
 ·cases hv:blkOf v with
  | none =>
   have hw:=k2 hv
   subst hw
   rw [hv] at e1
   refine s.push (g:=w'.heap.size) (.inr e1) (s.fresh (Nat.le_refl _)) (.inr s.keep.size) hle hsat (fun b o u hu=>?_) (Keep.refl _ _) (hok _)
   rcases hnew b o u hu with h | h
   ·exact .inl h
   ·rw [e1] at h; cases h
  | some g =>
   rw [hv] at e1
   refine s.push (g:=g) (.inl e1) (hfree g hv) (howns g hv) hle hsat (fun b o u hu=>?_) (k1 g hv) (hok _)
   rcases hnew b o u hu with h | h
   ·exact .inl h
   ·rw [e1] at h; exact .inr (Option.some.inj h).symm
 ·refine s.push (g:=w.heap.size) (.inl e1) (s.fresh (Nat.le_refl _)) (.inr s.keep.size) hle hsat (fun b o u hu=>?_) k1 (hok _)
  rcases hnew b o u hu with h | h
  ·exact .inl h
  ·rw [e1] at h; exact .inr (Option.some.inj h).symm
theorem append_rep {H:(PH Lw)} {v':Value} {e:TypeId} {z:Nat} {rows:List (List PV)} {ys:List Value} {w':World} (hv:RepV H z rows ys) (hle:PH.le H (grownH H v' ys))
  (hown:w'.ownsRow 0 e z v' rows.length ys):RepP (grownH H v' ys) (.sl rows) v':=by
 simp only [RepP]
 rcases hown.2 with ⟨rfl,hn⟩ | ⟨g,cap,cur,rfl,_,_,hnc,_⟩
 ·exact .inl ⟨List.eq_nil_of_length_eq_zero hn,.inl rfl⟩
 ·refine .inr ⟨g,0,z,cap,rfl,hnc,(hv.mono hle).unflat fun j u hu=>?_⟩
  unfold grownH
  rw [if_pos ⟨by simp [blkOf],by have:=(List.getElem?_eq_some_iff.1 hu).1; omega⟩]
  simpa using hu
theorem RepV.one {H:(PH Lw)} {w:World} (s:SatH H w) {b o:Nat} {vs:List Value} (c:∀ j u,vs[j]? = some u → H b (o + j) = some u):∀ u ∈ vs,u.oneCell' = true:=fun u hu=>by
 obtain ⟨j,hj⟩:=List.getElem?_of_mem hu
 exact (s _ _ _ (c j u hj)).2
theorem cut_run {H:PH Lw} (sath:SatH H w) {t ty e:TypeId} {i:TypeInfo} {z:Value} (ht:P.underlying t = some (.slice e)) (hi:P.info? e = some i) (hz:i.zero = some z) (hzs:z.cells.size = i.size)
  {rows news:List (List PV)} {sv xv:Value} (rs:RepP H (.sl rows) sv) (hp:∃ p n,sv = .slice p n n) (rx:RepP H (.sl news) xv) (hall:∀ r ∈ rows ++ news,r.length = i.size)
  (h63:(rows ++ news).length ≤ 9223372036854775807) (hbytes:(rows ++ news).length * i.bytes ≤ 140737488355328) :
  ∃ v' w',(Builtin.append_ #[t,t] ty #[sv,xv]).run P w = .ok v' w' ∧ ((news = [] ∧ v' = sv ∧ w' = w) ∨
   ∃ ys:List Value,RepV H i.size (rows ++ news) ys ∧ (∀ u ∈ ys,u.oneCell' = true) ∧ w'.ownsRow 0 e i.size v' (rows ++ news).length ys ∧ blkOf v' = some w.heap.size ∧ Keep (fun b=>b = w.heap.size) w w'):=by
 obtain ⟨p,n,rfl⟩:=hp
 have nothing:∀ (q:Option Addr) (c:Nat),xv = .slice q 0 c → (Builtin.append_ #[t,t] ty #[.slice p n n,xv]).run P w = .ok (.slice p n n) w:=by
  rintro q c rfl
  cases p <;> cases q <;> simp [Builtin.append_,run_underlying ht,Go.sizeOf,typeInfo,hi,Builtin.lenOf,Builtin.firstCells,loadCells,loadCellsFrom,storeCells]
 rcases sl_flat rx (fun r hr=>hall r (by simp [hr])) with ⟨rfl,rfl | ⟨a',cap',rfl⟩⟩ | ⟨b,o,cap,vs,rfl,_,hv,hc⟩
 ·exact ⟨_,_,nothing none 0 rfl,.inl ⟨rfl,rfl,rfl⟩⟩
 ·exact ⟨_,_,nothing (some a') cap' rfl,.inl ⟨rfl,rfl,rfl⟩⟩
 by_cases hn0:news = []
 ·subst hn0
  exact ⟨_,_,nothing _ _ rfl,.inl ⟨rfl,rfl,rfl⟩⟩
 have hpos:0 < news.length:=List.length_pos_iff.2 hn0
 rw [List.length_append] at h63 hbytes
 have hcell:∀ j u,vs[j]? = some u → w.cell? ((⟨b,o,none⟩:Addr).add j) = some u:=fun j u hu=>by rw [Addr.add_lit]; exact (sath.cell _ _ _ (hc j u hu)).1
 have hone:=RepV.one sath hc
 have grown:∀ (xs:List Value) (old:Nat),RepV H i.size rows xs → (∀ u ∈ xs,u.oneCell' = true) → ∃ ys:List Value,RepV H i.size (rows ++ news) ys ∧ (∀ u ∈ ys,u.oneCell' = true) ∧
   (w.drew.alloc (.cells (xs.toArray ++ vs.toArray ++ Builtin.zeroCells z.cells (grownCap w (rows.length + news.length) old e - (rows.length + news.length))) e)).ownsRow 0 e i.size
    (.slice (some ⟨w.heap.size,0,none⟩) (rows.length + news.length) (grownCap w (rows.length + news.length) old e)) (rows ++ news).length ys:=by
  intro xs old hx h1
  have hge:=grownCap_ge w (rows.length + news.length) old e
  have hcm:grownCap w (rows.length + news.length) old e ≤ maxLen:=grownCap_le_maxLen w (rows.length + news.length) old e (by unfold maxLen; omega)
  have hyl:=(hx.append hv).length
  refine ⟨xs ++ vs,hx.append hv,fun u hu=>(List.mem_append.1 hu).elim (h1 u) (hone u),hyl,.inr ⟨w.heap.size,_,_,by rw [List.length_append],Nat.zero_le _,heap_alloc_new w.drew _,by rw [List.length_append]; exact hge,hcm,?_,?_⟩⟩
  ·simp only [Array.size_append,List.size_toArray,size_zeroCells,hzs,hx.length,hv.length,← Nat.add_mul]
   congr 1
   omega
  ·simp only [Array.toList_append,List.append_assoc]
   rw [← List.append_assoc,← hyl]
   exact List.take_left
 rcases sl_flat rs (fun r hr=>hall r (by simp [hr])) with ⟨rfl,e1 | ⟨a',cap',e1⟩⟩ | ⟨b',o',cap',us,e1,_,hu,hcu⟩
 ·cases e1
  have hr:=run_append_nil (P:=P) w t ty e i z ht hi hz ⟨b,o,none⟩ news.length cap vs hv.length hcell hpos (by simp at h63; omega) (by simp at hbytes; omega)
  obtain ⟨ys,h1,h2,h3⟩:=grown [] 0 rfl (by simp)
  simp only [List.length_nil,Nat.zero_add,List.nil_append,Array.empty_append] at h1 h2 h3 ⊢
  exact ⟨_,_,hr,.inr ⟨ys,h1,h2,h3,rfl,keep_drew_alloc w _ _⟩⟩
 ·cases e1
  have hr:=run_append_grow (P:=P) w t ty e i z ht hi hz a' 0 0 [] (by simp) (fun j u hu=>by simp at hu) ⟨b,o,none⟩ news.length cap vs hv.length hcell (by omega) (by simp at h63; omega) (growslice_fits (by omega) (by simpa using hbytes))
  obtain ⟨ys,h1,h2,h3⟩:=grown [] 0 rfl (by simp)
  simp only [List.length_nil,List.nil_append] at hr h1 h2 h3 ⊢
  exact ⟨_,_,hr,.inr ⟨ys,h1,h2,h3,rfl,keep_drew_alloc w _ _⟩⟩
 ·cases e1
  have hr:=run_append_grow (P:=P) w t ty e i z ht hi hz ⟨b',o',none⟩ rows.length rows.length us hu.length (fun j u h=>by rw [Addr.add_lit]; exact (sath.cell _ _ _ (hcu j u h)).1) ⟨b,o,none⟩ news.length cap vs hv.length hcell (by omega) (by omega) (growslice_fits (by omega) hbytes)
  obtain ⟨ys,h1,h2,h3⟩:=grown us rows.length hu (RepV.one sath hcu)
  exact ⟨_,_,hr,.inr ⟨ys,h1,h2,h3,rfl,keep_drew_alloc w _ _⟩⟩
theorem run_newVar {w:World} {t:TypeId} {v:Value}:(newVar t v).run P w = .ok ⟨w.heap.size,0,none⟩ (w.alloc (.cells v.cells t)):=by
 simp [newVar,newRow]
theorem run_storeVar {w:World} {t bt:TypeId} {i:TypeInfo} (hi:P.info? t = some i) {b off:Nat} {cur:List Value} (hg:w.heap[b]? = some (.cells cur.toArray bt (0,0))) {x:Value}
  (hn:x.cells.size = i.size) (hoff:off + x.cells.size ≤ cur.length) (h1:∀ u ∈ x.cells.toList,u.oneCell' = true) :
  (Instr.storeAt t (.pointer (some ⟨b,off,none⟩)) x).run P w = .ok () (w.setRow b (cur.take off ++ x.cells.toList ++ cur.drop (off + x.cells.size)).toArray):=by
 have:=run_storeCells_at P b off bt x.cells.toList 0 cur.toArray w hg (by simpa using hoff) h1
 simp only [Nat.add_zero,Array.length_toList] at this
 simp [Instr.storeAt,Instr.sureAddr,storeVar,Go.sizeOf,typeInfo,hi,hn]
 rw [this]
 simp [hn]
theorem beq_of {a b:Nat} (h:Nat.beq a b = true):a = b:=Nat.eq_of_beq_eq_true h
theorem zeroA_cells {H:(PH Lw)}:∀ {l:List UInt8} {vs:List Value},RepL H (l.map fun b=>PV.int .u8 b.toNat) vs → ∀ (j:Nat) (c:UInt8),l[j]? = some c → vs[j]? = some (.int .u8 (c.toNat:Int))
 | [],_,_,j,c,h=>by simp at h
 | b :: l,vs,r,j,c,h=>by
  simp only [List.map_cons,RepL,RepP] at r
  obtain ⟨v,vs',rfl,rfl,rs⟩:=r
  cases j with
  | zero=>simp at h; subst h; rfl
  | succ j=>simpa using zeroA_cells rs j c (by simpa using h)
theorem kAllocA_spec {t:TypeId} {lo:List AObj} {R:FV → List AObj → Prop} (h:kAllocA P t lo R) :
  ∃ fv lo',R fv lo' ∧ EffRel true lo lo' ∧ ∀ ⦃Lw:Nat⦄ (bs:(Base Lw)) (ρ:List Value) (H:(PH Lw)) (w:World),SatW bs ρ H lo w → ∃ v w',(Instr.alloc t true (.tuple #[])).run P w = .ok v w' ∧ After bs ρ H fv lo' v w':=by
 unfold kAllocA at h
 obtain ⟨i,z,ps,hi,hz,h,hps⟩:=zeroK_spec h
 obtain ⟨l,rfl,h⟩:=h
 have h:=lenK_spec h
 have h:=snocK_spec h
 refine ⟨_,_,h,EffRel.push _,fun Lw bs ρ H w s=>?_⟩
 refine ⟨.pointer (some ⟨w.heap.size,0,none⟩),w.alloc (.cells z.cells t),?_,ρ ++ [.slice (some ⟨w.heap.size,0,none⟩) l.length l.length],H,List.prefix_append _ _,PH.le.refl H,?_,?_⟩
 ·simp only [Instr.alloc,Sem.run_bind,zeroValue,typeInfo,run_program,hi,hz,run_newVar,Result.andThen_ok,Sem.run_pure]
 ·refine s.push (g:=w.heap.size) (.inl rfl) (s.fresh (Nat.le_refl _)) (.inr s.keep.size) (PH.le.refl H) (satH_alloc s.sath _) (fun b o v h=>.inl ⟨v,h⟩) (keep_alloc w _ _) ?_
  refine ⟨w.heap.size,z.cells,t,l.length,0,0,rfl,heap_alloc_new w _,.inr (Nat.le_refl _),fun j c hc=>?_,fun o=>?_⟩
  ·have:=zeroA_cells (hps H) j c hc
   simpa using this
  ·cases hx:H w.heap.size o with
   | none=>rfl
   | some x=>exact absurd (s.sath.lt hx) (Nat.lt_irrefl _)
 ·exact ⟨w.heap.size,l.length,l.length,by simp [← s.hlen],by simp⟩
theorem storeV_core {bs:(Base Lw)} {ρ:List Value} {H:(PH Lw)} {lo:List AObj} (s:SatW bs ρ H lo w) {t:TypeId} {ti:TypeInfo} (hi:P.info? t = some ti) {k i off b n cap z:Nat} {e:TypeId} {o:AObj} {rows:List (List PV)} {row ps:List PV} {xv:Value} {xs:List Value}
  (ho:lo[k]? = some o) (hol:o.live = true) (hρ:ρ[k]? = some (.slice (some ⟨b,0,none⟩) n cap)) (hown:w.ownsRow 0 e z (.slice (some ⟨b,0,none⟩) n cap) rows.length xs) (hr:RepV H z rows xs) (h1:∀ u ∈ xs,u.oneCell' = true) (hh:∀ o,H b o = none)
  (hrow:rows[i]? = some row) (hone:ps.all oneP = true) (hle:off + ps.length ≤ row.length) (hn:ps.length = ti.size) (rl:RepL H ps xv.cells.toList) :
  ∃ w',(Instr.storeAt t (.pointer (some ⟨b,i * z + off,none⟩)) xv).run P w = .ok () w' ∧ (∀ o',ObjOk ρ H w' (.slice (some ⟨b,0,none⟩) n cap) o' → SatW bs ρ H (lo.set k o') w') ∧
   w'.ownsRow 0 e z (.slice (some ⟨b,0,none⟩) n cap) (rows.set i (row.take off ++ ps ++ row.drop (off + ps.length))).length (xs.take (i * z + off) ++ xv.cells.toList ++ xs.drop (i * z + off + xv.cells.size)) ∧
   RepV H z (rows.set i (row.take off ++ ps ++ row.drop (off + ps.length))) (xs.take (i * z + off) ++ xv.cells.toList ++ xs.drop (i * z + off + xv.cells.size)) ∧
   (∀ u ∈ xs.take (i * z + off) ++ xv.cells.toList ++ xs.drop (i * z + off + xv.cells.size),u.oneCell' = true) ∧ i * z + off + ps.length ≤ xs.length ∧ xv.cells.size = ps.length ∧ row.length = z:=by
 rcases hown.2 with ⟨e',_⟩ | ⟨g,cap',cur,e',_,hg,hnc,hm,hs,ht⟩
 ·cases e'
 ·cases e'
  have hlen:=rl.length
  have hzr:row.length = z:=by
   have hmem:=List.mem_of_getElem? hrow
   have:∀ {rows:List (List PV)} {vs:List Value},RepV H z rows vs → ∀ r ∈ rows,r.length = z:=by
    intro rows
    induction rows with
    | nil=>intro vs _ r hr; cases hr
    | cons q qs ih =>
     intro vs x r hr
     obtain ⟨hz,_,_,_,_,y⟩:=x
     rcases List.mem_cons.1 hr with rfl | hr
     ·exact hz
     ·exact ih y r hr
   exact this hr row hmem
  have hil:i < rows.length:=(List.getElem?_eq_some_iff.1 hrow).1
  have hxl:xs.length = rows.length * z:=hr.length
  have hiz:i * z + z ≤ rows.length * z:=by
   rw [← Nat.succ_mul]; exact Nat.mul_le_mul_right _ hil
  have hcl:rows.length * z ≤ cur.toList.length:=by
   have h2:cur.toList.length = cur.size:=by simp
   rw [h2,hs]; exact Nat.mul_le_mul_right _ hnc
  have hsz:xv.cells.size = ps.length:=by simpa using hlen
  have hone':∀ u ∈ xv.cells.toList,u.oneCell' = true:=RepL.one (fun c hc=>(List.all_eq_true.1 hone) c hc) rl
  have hrun:=run_storeVar (P:=P) (w:=w) (t:=t) (bt:=e) (cur:=cur.toList) hi (by simpa using hg) (x:=xv) (off:=i * z + off) (by omega) (by omega) hone'
  have hnew:(cur.toList.take (i * z + off) ++ xv.cells.toList ++ cur.toList.drop (i * z + off + xv.cells.size)).take (rows.length * z) = xs.take (i * z + off) ++ xv.cells.toList ++ xs.drop (i * z + off + xv.cells.size):=by
   rw [take_over (by omega) (by simp) hcl,ht]
  have hover:=hr.over (off:=off) hrow rl (by omega)
  have hrl:(rows.set i (row.take off ++ ps ++ row.drop (off + ps.length))).length = rows.length:=by simp
  refine ⟨_,hrun,fun o' hok=>s.upd (k:=k) (b:=b) ho hρ hol rfl hh ⟨rfl,rfl,rfl,by simp,fun x _ hx=>setRow_other w b x _ hx⟩ hok,?_,?_,?_,by omega,hsz,hzr⟩
  ·refine ⟨?_,.inr ⟨b,cap,(cur.toList.take (i * z + off) ++ xv.cells.toList ++ cur.toList.drop (i * z + off + xv.cells.size)).toArray,by rw [hrl],Nat.zero_le _,setRow_heap w b _ _ e _ (by simpa using hg),by rw [hrl]; exact hnc,hm,?_,?_⟩⟩
   ·rw [hrl]
    simp only [List.length_append,List.length_take,List.length_drop,Array.length_toList]
    omega
   ·simp only [List.size_toArray,List.length_append,List.length_take,List.length_drop,Array.length_toList] at hcl ⊢
    omega
   ·rw [hrl]; exact hnew
  ·simpa using hover
  ·intro u hu
   rcases List.mem_append.1 hu with hu | hu
   ·rcases List.mem_append.1 hu with hu | hu
    ·exact h1 u (List.mem_of_mem_take hu)
    ·exact hone' u hu
   ·exact h1 u (List.mem_of_mem_drop hu)
theorem setCells_heap {b:Nat} {e:TypeId} {fz:Nat × Nat}:∀ (vs:List Value) (o:Nat) (w:World) (cs:Array Value),w.heap[b]? = some (.cells cs e fz) →
  ∃ cs',(w.setCells b o vs).heap[b]? = some (.cells cs' e fz) ∧ cs'.size = cs.size ∧ (∀ k,k < o → cs'[k]? = cs[k]?) ∧ (∀ j v,vs[j]? = some v → o + j < cs.size → cs'[o + j]? = some v) ∧ Keep (fun x=>x = b) w (w.setCells b o vs)
 | [],o,w,cs,h=>⟨cs,h,rfl,fun _ _=>rfl,fun j v hv=>by simp at hv,Keep.refl _ _⟩
 | v :: vs,o,w,cs,h=>by
  have h1:(w.setCell ⟨b,o,none⟩ v).heap[b]? = some (.cells (cs.setIfInBounds o v) e fz):=by
   simp [World.setCell,Array.getElem?_modify,h]
  have hk:Keep (fun x=>x = b) w (w.setCell ⟨b,o,none⟩ v):=⟨rfl,rfl,rfl,by simp [World.setCell],fun x _ hx=>by
   have:b ≠ x:=fun e=>hx e.symm
   simp [World.setCell,Array.getElem?_modify,this]⟩
  obtain ⟨cs',a1,a2,a3,a4,a5⟩:=setCells_heap vs (o + 1) (w.setCell ⟨b,o,none⟩ v) _ h1
  refine ⟨cs',a1,by simpa using a2,fun k hk=>?_,fun j u hu hj=>?_,hk.trans a5⟩
  ·rw [a3 k (by omega),Array.getElem?_setIfInBounds,if_neg (by omega)]
  ·cases j with
   | zero =>
    simp only [List.getElem?_cons_zero,Option.some.injEq] at hu
    subst hu
    rw [Nat.add_zero] at hj ⊢
    rw [a3 o (by omega),Array.getElem?_setIfInBounds,if_pos rfl,if_pos hj]
   | succ j =>
    rw [show o + (j + 1) = o + 1 + j from by omega]
    exact a4 j u (by simpa using hu) (by simpa using (by omega:o + 1 + j < cs.size))
theorem kStoreE_sound {lo:List AObj} {t:TypeId} {k z i off:Nat} {x:FV} {R:FV → List AObj → Prop} (h:kStoreE P t lo k z i off x R) :
  ∃ fv lo',R fv lo' ∧ lo'.length = lo.length ∧ ∀ ⦃Lw:Nat⦄ (bs:(Base Lw)) (ρ:List Value) (H:(PH Lw)) (w:World) (a xv:Value),SatW bs ρ H lo w → RepF ρ H (.eptr k z i off) a → RepF ρ H x xv →
   ∃ w',(Instr.storeAt t a xv).run P w = .ok () w' ∧ After bs ρ H fv lo' undef w':=by
 unfold kStoreE at h
 have h0:=cellsK_spec h; clear h; obtain ⟨cs,h,hcs⟩:=h0
 have h0:=frzL_spec h; clear h; obtain ⟨ps,h,hps⟩:=h0
 have h0:=lenK_spec h; clear h; have h:=h0; clear h0
 have h0:=typeK_spec h; clear h; obtain ⟨d,ti,hd,hi,h⟩:=h0
 split at h
 ·rename_i hn
  have hn:=beq_of hn
  have h0:=nthK_spec h; clear h; obtain ⟨o,ho,h⟩:=h0
  split at h
  ·rename_i e z' rows
   obtain ⟨row,⟨rfl,hrow,hone⟩,h⟩:=h
   obtain ⟨h,hle⟩:=overP_spec h
   obtain ⟨rows',hrows,h⟩:=h
   obtain ⟨h,hk⟩:=setK_spec h
   refine ⟨_,_,h,by simp,fun Lw bs ρ H w a xv s ra rx=>?_⟩
   obtain ⟨b,n,cap,hρ,rfl⟩:=ra
   obtain ⟨xs,hown,hr,h1,hh⟩:=s.objs k _ _ ho hρ
   obtain ⟨w',hrun,hup,c1,c2,c3,_⟩:=storeV_core s hi ho rfl hρ hown hr h1 (hh b rfl) hrow hone hle (by omega) (hps ρ H _ (hcs ρ H xv rx))
   subst hrows
   exact ⟨w',hrun,ρ,H,List.prefix_refl _,PH.le.refl H,hup _ ⟨_,c1,c2,c3,fun b' hb'=>by cases hb'; exact hh b rfl⟩,by simp [RepF,RepP,RepL,undef]⟩
  ·rename_i e z' rows j kt
   obtain ⟨row,kt',⟨rfl,hrow,hone,hcase⟩,h⟩:=h
   obtain ⟨h,hle⟩:=overP_spec h
   obtain ⟨rows',hrows,h⟩:=h
   obtain ⟨h,hk⟩:=setK_spec h
   refine ⟨_,_,h,by simp,fun Lw bs ρ H w a xv s ra rx=>?_⟩
   obtain ⟨b,n,cap,hρ,rfl⟩:=ra
   obtain ⟨xs,hown,hr,h1,hh,hl⟩:=s.objs k _ _ ho hρ
   obtain ⟨w',hrun,hup,c1,c2,c3,c4,c5,c6⟩:=storeV_core s hi ho rfl hρ hown hr h1 (hh b rfl) hrow hone hle (by omega) (hps ρ H _ (hcs ρ H xv rx))
   subst hrows
   refine ⟨w',hrun,ρ,H,List.prefix_refl _,PH.le.refl H,hup _ ⟨_,c1,c2,c3,fun b' hb'=>by cases hb'; exact hh b rfl,fun u hu=>?_⟩,by simp [RepF,RepP,RepL,undef]⟩
   rw [List.length_set] at hu
   have hil:i < rows.length:=(List.getElem?_eq_some_iff.1 hrow).1
   rcases hcase with ⟨hjz,hout,rfl⟩ | ⟨rfl,hlast,rows3,rfl⟩
   ·refine hl u ?_
    have hp:(rows.length - 1) * z' + j < i * z' + off ∨ i * z' + off + xv.cells.size ≤ (rows.length - 1) * z' + j:=by
     rcases Nat.lt_or_ge i (rows.length - 1) with hlt | hge
     ·right
      have:(i + 1) * z' ≤ (rows.length - 1) * z':=Nat.mul_le_mul_right _ hlt
      rw [Nat.add_mul] at this
      omega
     ·have:i = rows.length - 1:=by omega
      subst this
      rcases hout with h | h
      ·right; omega
      ·left; omega
    rcases hp with hp | hp
    ·rw [List.append_assoc,List.getElem?_append_left (by rw [List.length_take]; omega),List.getElem?_take,if_pos hp] at hu
     exact hu
    ·rw [List.getElem?_append_right (by simp only [List.length_append,List.length_take,Array.length_toList]; omega),List.getElem?_drop] at hu
     rw [← hu]
     congr 1
     simp only [List.length_append,List.length_take,Array.length_toList]
     omega
   ·have hi':i = rows.length - 1:=by omega
    subst hi'
    have hx1:xv.cells.toList = [xv]:=by rw [(oneF_cells (f:=.tsl kt' rows3) rfl rx).1]
    rw [hx1,List.append_assoc,List.getElem?_append_right (by rw [List.length_take]; omega),List.length_take,Nat.min_eq_left (by omega),Nat.sub_self] at hu
    simp at hu
    rw [← hu]
    exact rx.1
  ·rename_i l
   split at h
   ·have h0:=h; clear h; obtain ⟨c,l',⟨rfl,rfl,hil,hnc,hl'⟩,h⟩:=h0
    have h0:=setK_spec h; clear h; obtain ⟨h,hk⟩:=h0
    subst hnc
    refine ⟨_,_,h,by simp,fun Lw bs ρ H w a xv s ra rx=>?_⟩
    obtain ⟨b,n0,cap,hρ,rfl⟩:=ra
    obtain ⟨b',cs,e',cap',lo',hi',e1,hg,hlo,h2,hH⟩:=s.objs k _ _ ho hρ
    cases e1
    have rl:=hps ρ H _ (hcs ρ H xv rx)
    simp only [RepL,RepP] at rl
    obtain ⟨v0,vs',ev,rfl,rfl⟩:=rl
    have hsz:xv.cells.size = 1:=by
     have:xv.cells.toList.length = 1:=by rw [ev]; rfl
     simpa using this
    have hcell:(w.cell? ⟨b,i,none⟩).isSome = true:=by
     simp only [World.cell?,hg]
     rw [h2 i _ (List.getElem?_eq_getElem hil)]
     rfl
    have hfz:w.frozen? ⟨b,i,none⟩ = false:=by
     simp only [World.frozen?,hg]
     have:¬ (lo' ≤ i ∧ i < hi'):=by omega
     simpa using fun h1=>Nat.le_of_not_lt fun h2=>this ⟨h1,h2⟩
    have hrun:(Instr.storeAt t (.pointer (some ⟨b,i * 1 + 0,none⟩)) xv).run P w = .ok () (w.setCell ⟨b,i,none⟩ (.int .u8 (c.toNat:Int))):=by
     have h3:=run_storeCells_cells (P:=P) b i [.int .u8 (c.toNat:Int)] 0 w (fun j hj=>by
      have:j = 0:=by simpa using hj
      subst this
      simpa using hcell) (fun j hj=>by
      have:j = 0:=by simpa using hj
      subst this
      simpa using hfz) (by simp [Value.oneCell'])
     simp only [Nat.add_zero] at h3
     have hti:ti.size = 1:=by
      have:[PV.int .u8 (c.toNat:Int)].length = ti.size:=by simpa using hn
      simpa using this.symm
     simp [Instr.storeAt,Instr.sureAddr,storeVar,Go.sizeOf,typeInfo,hi,hti,hsz,ev,h3,World.setCells]
    have hset:(w.setCell ⟨b,i,none⟩ (.int .u8 (c.toNat:Int))).heap[b]? = some (.cells (cs.setIfInBounds i (.int .u8 (c.toNat:Int))) e' (lo',hi')):=by
     simp [World.setCell,Array.getElem?_modify,hg]
    refine ⟨_,hrun,ρ,H,List.prefix_refl _,PH.le.refl H,?_,by simp [RepF,RepP,RepL,undef]⟩
    refine s.upd (k:=k) (b:=b) ho hρ rfl rfl hH ⟨rfl,rfl,rfl,by simp [World.setCell],fun x _ hx=>?_⟩ ?_
    ·have:b ≠ x:=fun e=>hx e.symm
     simp [World.setCell,Array.getElem?_modify,this]
    ·subst hl'
     refine ⟨b,_,e',cap,lo',hi',by simp,hset,by simpa using hlo,fun j c' hc'=>?_,hH⟩
     rw [List.getElem?_set] at hc'
     rw [Array.getElem?_setIfInBounds]
     split at hc'
     ·rename_i hij
      subst hij
      cases hc'
      have hcs':i < cs.size:=by
       have:=h2 i _ (List.getElem?_eq_getElem hil)
       exact (Array.getElem?_eq_some_iff.1 this).1
      simp [hcs']
     ·rename_i hij
      simp only [hij,if_false]
      exact h2 j c' hc'
   ·have h0:=h; clear h; obtain ⟨l',⟨rfl,rfl,rfl,hll,hpe⟩,h⟩:=h0
    have h0:=setK_spec h; clear h; obtain ⟨h,hk⟩:=h0
    refine ⟨_,_,h,by simp,fun Lw bs ρ H w a xv s ra rx=>?_⟩
    obtain ⟨b,n0,cap,hρ,rfl⟩:=ra
    obtain ⟨b',cs,e',cap',lo',hi',e1,hg,hlo,h2,hH⟩:=s.objs k _ _ ho hρ
    cases e1
    have rl:=hps ρ H _ (hcs ρ H xv rx)
    rw [hpe] at rl
    have hvl:xv.cells.toList.length = l.length:=by rw [rl.length,List.length_map,hll]
    have hsz:xv.cells.size = l.length:=by simpa using hvl
    have hcz:l.length ≤ cs.size:=by
     rcases Nat.eq_zero_or_pos l.length with h0 | h0
     ·omega
     ·have:=h2 (l.length - 1) _ (List.getElem?_eq_getElem (by omega))
      have:=(Array.getElem?_eq_some_iff.1 this).1
      omega
    have hone':∀ u ∈ xv.cells.toList,u.oneCell' = true:=by
     intro u hu
     obtain ⟨j,hj⟩:=List.getElem?_of_mem hu
     have hjl:j < l'.length:=by have:=(List.getElem?_eq_some_iff.1 hj).1; omega
     have:=zeroA_cells rl j _ (List.getElem?_eq_getElem hjl)
     rw [hj] at this
     cases this
     rfl
    have hrun:(Instr.storeAt t (.pointer (some ⟨b,0 * 1 + 0,none⟩)) xv).run P w = .ok () (w.setCells b 0 xv.cells.toList):=by
     have h3:=run_storeCells_cells (P:=P) b 0 xv.cells.toList 0 w (fun j hj=>by
      simp only [World.cell?,hg]
      have:j < l.length:=by omega
      rw [show 0 + 0 + j = j from by omega]
      rw [h2 j _ (List.getElem?_eq_getElem this)]
      rfl) (fun j hj=>by
      simp only [World.frozen?,hg]
      have:¬ (lo' ≤ 0 + 0 + j ∧ 0 + 0 + j < hi'):=by omega
      simpa using fun h1=>Nat.le_of_not_lt fun h2=>this ⟨by simpa using h1,by simpa using h2⟩) hone'
     have hti:ti.size = l.length:=by
      have:ps.length = ti.size:=by simpa using hn
      rw [← this,hpe,List.length_map,hll]
     simp only [Nat.add_zero] at h3
     simp [Instr.storeAt,Instr.sureAddr,storeVar,Go.sizeOf,typeInfo,hi,hti,hsz,h3]
    obtain ⟨cs',a1,a2,_,a4,a5⟩:=setCells_heap xv.cells.toList 0 w cs hg
    refine ⟨_,hrun,ρ,H,List.prefix_refl _,PH.le.refl H,?_,by simp [RepF,RepP,RepL,undef]⟩
    refine s.upd (k:=k) (b:=b) ho hρ rfl rfl hH a5 ?_
    refine ⟨b,cs',e',cap,lo',hi',by rw [hll],a1,by rw [hll]; exact hlo,fun j c' hc'=>?_,hH⟩
    have hj:=(List.getElem?_eq_some_iff.1 hc').1
    have:=a4 j _ (zeroA_cells rl j c' hc') (by omega)
    simpa using this
  ·exact h.elim
 ·exact h.elim
theorem kBuildT_spec {E:Env} {lo:List AObj} {t:TypeId} {n:Nat} {parts:List (Nat × Operand)} {R:FV → List AObj → Prop} (h:kBuildT P E lo t n parts R) :
  ∃ fv lo',R fv lo' ∧ EffRel true lo lo' ∧ ∀ ⦃Lw:Nat⦄ (bs:(Base Lw)) (ρ:List Value) (H:(PH Lw)) (w:World) (eval:Operand → Value),SatW bs ρ H lo w → (∀ x ∈ parts.map (·.2),RepF ρ H (evF (lookD E) x) (eval x)) →
   ∃ v w',(Instr.buildSlice t n (parts.map fun (i,x)=>(i,eval x)).toArray).run P w = .ok v w' ∧ After bs ρ H fv lo' v w':=by
 unfold kBuildT at h
 have h0:=elemK_spec h; clear h; obtain ⟨e,i,hu,hi,h⟩:=h0
 have h0:=kBuildSlice_core h; clear h; obtain ⟨e',i',rows,hu',hi',h,hn,hmax,hs⟩:=h0
 have e1:e' = e:=by rw [hu] at hu'; cases hu'; rfl
 subst e1
 have e2:i' = i:=Option.some.inj (hi'.symm.trans hi)
 subst e2
 simp only at h
 have h:=lenK_spec h
 have h:=snocK_spec h
 refine ⟨_,_,h,EffRel.push _,fun Lw bs ρ H w eval s hx=>?_⟩
 obtain ⟨xs,hr,hv,hone⟩:=hs trivial ρ H w eval hx
 have hown':(w.alloc (.cells xs.toArray e')).ownsRow 0 e' i'.size (.slice (some ⟨w.heap.size,0,none⟩) n n) (0 + rows.length) ([] ++ xs):=by
  rw [Nat.zero_add,List.nil_append]
  refine ⟨hv.length,.inr ⟨w.heap.size,n,xs.toArray,by rw [hn],Nat.zero_le _,heap_alloc_new w _,by rw [hn]; exact Nat.le_refl _,hmax,by simp [hv.length,hn],?_⟩⟩
  rw [← hv.length]
  exact List.take_length
 obtain ⟨hle,sat⟩:=append_world s (World.ownsRow_nil w 0 e' i'.size) (fun b hb=>by simp [blkOf] at hb) (fun g hg=>by simp [blkOf] at hg) (fun g hg=>by simp [blkOf] at hg) hv.length (by simpa using hone) hown' (.inr ⟨rfl,keep_alloc w _ _⟩)
 simp only [Nat.zero_add,List.nil_append] at hown' sat hle
 exact ⟨_,_,hr,_,_,List.prefix_append _ _,hle,sat,by simp [← s.hlen],append_rep hv hle hown'⟩
theorem kBuildVG_spec {gr:Bool} {E:Env} {lo:List AObj} {t:TypeId} {n:Nat} {parts:List (Nat × Operand)} {R:FV → List AObj → Prop} (h:kBuildVG P gr E lo t n parts R) :
  ∃ fv lo',R fv lo' ∧ EffRel true lo lo' ∧ ∀ ⦃Lw:Nat⦄ (bs:(Base Lw)) (ρ:List Value) (H:(PH Lw)) (w:World) (eval:Operand → Value),SatW bs ρ H lo w → (∀ x ∈ parts.map (·.2),RepF ρ H (evF (lookD E) x) (eval x)) →
   ∃ v w',(Instr.buildSlice t n (parts.map fun (i,x)=>(i,eval x)).toArray).run P w = .ok v w' ∧ After bs ρ H fv lo' v w':=by
 cases gr with
 | true=>exact kBuildT_spec h
 | false=>exact kBuildV_spec h
theorem kConvV_spec {src dst:TypeId} {lo:List AObj} {x:FV} {R:FV → List AObj → Prop} (h:kConvV P src dst lo x R) :
  ∃ fv lo',R fv lo' ∧ ∀ ⦃Lw:Nat⦄ (bs:(Base Lw)) (ρ:List Value) (H:(PH Lw)) (w:World) (v:Value),SatW bs ρ H lo w → RepF ρ H x v → ∃ u w',(convert src dst v).run P w = .ok u w' ∧ After bs ρ H fv lo' u w':=by
 unfold kConvV at h
 split at h
 ·rename_i l
  split at h
  ·rename_i us hs
   split at h
   ·rename_i e hd
    split at h
    ·rename_i he
     have h0:=lenK_spec h; clear h; have h:=h0; clear h0
     have h0:=snocK_spec h; clear h; have h:=h0; clear h0
     refine ⟨_,_,h,fun Lw bs ρ H w v s rx=>?_⟩
     have ev:=rep_str rx
     subst ev
     refine ⟨_,_,Lib.run_convert_string_bytes w src dst e ⟨l.toArray⟩ hs hd he,?_⟩
     have hk:Keep (fun b=>b = w.heap.size) w (Lib.bytesWorld w e ⟨l.toArray⟩):=by
      refine ⟨?_,?_,?_,by rw [Lib.bytesWorld_size]; omega,fun k hk _=>Lib.bytesWorld_at_old w e _ k hk⟩ <;> simp [Lib.bytesWorld,World.freeze,World.alloc,World.drew,-World.alloc_eq,-World.drew_eq]
     have hz:(⟨l.toArray⟩:ByteArray).size = l.length:=ByteArray.size_mk_toArray l
     refine ⟨ρ ++ [.slice (some ⟨w.heap.size,0,none⟩) (⟨l.toArray⟩:ByteArray).size (grownCap w (⟨l.toArray⟩:ByteArray).size 0 e)],H,List.prefix_append _ _,PH.le.refl H,?_,?_⟩
     ·refine s.push (g:=w.heap.size) (.inl rfl) (s.fresh (Nat.le_refl _)) (.inr s.keep.size) (PH.le.refl H) (s.sath.block hk.size fun b o v hv=>Lib.bytesWorld_at_old w e _ b (s.sath.lt hv)) (fun b o v h=>.inl ⟨v,h⟩) hk ?_
      refine ⟨w.heap.size,_,e,_,_,_,by rw [hz],Lib.bytesWorld_at_new w e _,?_,?_,fun o=>?_⟩
      ·exact .inl (by simp [Lib.bytesCells])
      ·intro j c hc
       have hj:=(List.getElem?_eq_some_iff.1 hc).1
       simp only [Lib.bytesCells]
       rw [Array.getElem?_append_left (by simpa using hj)]
       simp [hc]
      ·cases hx:H w.heap.size o with
       | none=>rfl
       | some x=>exact absurd (s.sath.lt hx) (Nat.lt_irrefl _)
     ·simp only [RepF]
      refine ⟨by simp [← s.hlen],.inr ⟨w.heap.size,_,by rw [hz]⟩⟩
    ·exact h.elim
   ·exact h.elim
  ·exact h.elim
 ·exact h.elim
theorem append_vec {bs:(Base Lw)} {ρ:List Value} {H:(PH Lw)} {lo:List AObj} (s:SatW bs ρ H lo w) {t ty e:TypeId} {i:TypeInfo} {zv:Value} (hu:P.underlying t = some (.slice e)) (hi:P.info? e = some i) (hz:i.zero = some zv) (hzs:zv.cells.size = i.size)
  {k0:Nat} {rows:List (List PV)} {v:Value} (ho:lo[k0]? = some (.vec e i.size rows)) (hρ:ρ[k0]? = some v) {news:List (List PV)} {x:Value} (rx:RepP H (.sl news) x) (hall:∀ r ∈ news,r.length = i.size)
  (hb:(rows ++ news).length * i.bytes ≤ 140737488355328) (h63:(rows ++ news).length ≤ 9223372036854775807) :
  ∃ v' w',(Builtin.append_ #[t,t] ty #[v,x]).run P w = .ok v' w' ∧ After bs ρ H (.vsl (lo.set k0 .dead).length (rows ++ news).length) (lo.set k0 .dead ++ [.vec e i.size (rows ++ news)]) v' w':=by
 obtain ⟨xs,hown,hrv,h1,hh⟩:=s.objs k0 _ _ ho hρ
 have run:∃ vs:List Value,RepV H i.size news vs ∧ (∀ u ∈ vs,u.oneCell' = true) ∧
   ((news.length = 0 ∧ x = .slice none 0 0) ∨ ∃ a c,x = .slice (some a) news.length c ∧ ∀ j u,vs[j]? = some u → w.cell? (a.add j) = some u):=by
  rcases sl_flat rx hall with ⟨rfl,ex | ⟨a',cap',ex⟩⟩ | ⟨b,o,cap,vs,ex,_,hv,hc⟩
  ·exact ⟨[],rfl,by simp,.inl ⟨rfl,ex⟩⟩
  ·exact ⟨[],rfl,by simp,.inr ⟨a',cap',ex,fun j u hu=>by simp at hu⟩⟩
  ·exact ⟨vs,hv,RepV.one s.sath hc,.inr ⟨⟨b,o,none⟩,cap,ex,fun j u hu=>by rw [Addr.add_lit]; exact (s.sath.cell _ _ _ (hc j u hu)).1⟩⟩
 obtain ⟨vs,hv,hone,hxx⟩:=run
 rw [List.length_append] at hb h63
 obtain ⟨v',w',hr,hown',hk⟩:=append_run (P:=P) (w:=w) (ty:=ty) hu hi hz hzs hown hv.length hone hxx h63 hb
 refine ⟨v',w',hr,?_⟩
 have sk:=s.kill k0
 have hfree:∀ g,blkOf v = some g → ∀ (k:Nat) (o':AObj) (u:Value),(lo.set k0 .dead)[k]? = some o' → ρ[k]? = some u → o'.live = true → blkOf u ≠ some g:=by
  intro g hg k o' u hk' hu' hl
  rw [List.getElem?_set] at hk'
  split at hk'
  ·split at hk'
   ·cases hk'; simp [AObj.live] at hl
   ·cases hk'
  ·rename_i hne
   exact s.excl k0 k _ o' _ u g ho hk' hρ hu' hne rfl hl hg
 have hV:∀ {a b:List (List PV)} {us ws:List Value},RepV H i.size a us → RepV H i.size b ws → RepV H i.size (a ++ b) (us ++ ws):=fun x y=>x.append y
 have hall1:∀ u ∈ xs ++ vs,u.oneCell' = true:=fun u hu'=>by
  rcases List.mem_append.1 hu' with h | h
  ·exact h1 u h
  ·exact hone u h
 have hvsl:RepF (ρ ++ [v']) H (.vsl (lo.set k0 .dead).length (rows ++ news).length) v':=by
  refine ⟨by simp [← s.hlen],?_⟩
  rw [List.length_append]
  rcases hown'.2 with ⟨rfl,h0⟩ | ⟨g,cap,cur,rfl,_⟩
  ·exact .inl ⟨h0,rfl⟩
  ·exact .inr ⟨g,cap,rfl⟩
 have hok:(∀ b,blkOf v' = some b → ∀ o,H b o = none) → ObjOk (ρ ++ [v']) H w' v' (.vec e i.size (rows ++ news)):=fun hn =>
  ⟨xs ++ vs,by rw [List.length_append]; exact hown',hV hrv hv,hall1,hn⟩
 refine ⟨ρ ++ [v'],H,List.prefix_append _ _,PH.le.refl H,?_,hvsl⟩
 rcases hk with ⟨e1,k1,k2⟩ | ⟨e1,k1⟩
 ·cases hvb:blkOf v with
  | none =>
   have hw:=k2 hvb
   subst hw
   rw [hvb] at e1
   exact sk.push (g:=w'.heap.size) (.inr e1) (sk.fresh (Nat.le_refl _)) (.inr sk.keep.size) (PH.le.refl H) sk.sath (fun b o u hu=>.inl ⟨u,hu⟩) (Keep.refl _ _) (hok (fun b hb'=>by rw [e1] at hb'; cases hb'))
  | some g =>
   rw [hvb] at e1
   refine sk.push (g:=g) (.inl e1) (hfree g hvb) (s.own k0 _ _ g ho hρ rfl hvb) (PH.le.refl H) (s.sath.block (k1 g hvb).size fun b o u hu'=>(k1 g hvb).block b (s.sath.lt hu') (fun e=>by subst e; rw [hh _ hvb o] at hu'; cases hu')) (fun b o u hu=>.inl ⟨u,hu⟩) (k1 g hvb) (hok (fun b hb'=>by rw [e1] at hb'; cases hb'; exact hh _ hvb))
 ·have hnew:∀ o,H w.heap.size o = none:=fun o=>by
   cases hx:H w.heap.size o with
   | none=>rfl
   | some u=>exact absurd (s.sath.lt hx) (Nat.lt_irrefl _)
  refine sk.push (g:=w.heap.size) (.inl e1) (sk.fresh (Nat.le_refl _)) (.inr sk.keep.size) (PH.le.refl H) (s.sath.block k1.size fun b o u hu'=>k1.block b (s.sath.lt hu') (fun e=>by have:=s.sath.lt hu'; omega)) (fun b o u hu=>.inl ⟨u,hu⟩) k1 (hok (fun b hb'=>by rw [e1] at hb'; cases hb'; exact hnew))
theorem append_vl {bs:(Base Lw)} {ρ:List Value} {H:(PH Lw)} {lo:List AObj} (s:SatW bs ρ H lo w) {t ty e e2:TypeId} {i:TypeInfo} {zv:Value} (hu:P.underlying t = some (.slice e)) (hi:P.info? e = some i) (hz:i.zero = some zv) (hzs:zv.cells.size = i.size)
  {k0 j kt0 z2:Nat} {rows rows':List (List PV)} {r:List PV} {v:Value} (ho:lo[k0]? = some (.vl e i.size rows j kt0)) (hρ:ρ[k0]? = some v) {news:List (List PV)} {x:Value} (rx:RepP H (.sl news) x) (hall:∀ r ∈ news,r.length = i.size)
  (hle:rows ++ news = rows' ∨ nleR (rows ++ news) rows') (hnew:news = [r]) (hrj:r[j]? = some .nilsl) (hb:rows'.length * i.bytes ≤ 140737488355328) (h63:rows'.length ≤ 9223372036854775807) :
  ∃ v' w',(Builtin.append_ #[t,t] ty #[v,x]).run P w = .ok v' w' ∧ After bs ρ H (.vsl (lo.set k0 AObj.dead ++ [AObj.tail e2 z2 0]).length rows'.length) (lo.set k0 .dead ++ [AObj.tail e2 z2 0] ++ [.vl e i.size rows' j (lo.set k0 .dead).length]) v' w':=by
 have hlen:(rows ++ news).length = rows'.length:=by
  rcases hle with h | h
  ·rw [h]
  ·exact nleR_length h
 have hkl:k0 < lo.length:=(List.getElem?_eq_some_iff.1 ho).1
 have s1:=s.view ho rfl (o':=.vec e i.size rows) rfl (fun v hv ok=>vl_vec ok)
 have s2:SatW bs (ρ ++ [.slice none 0 0]) H (lo.set k0 (.vec e i.size rows) ++ [.tail e2 z2 0]) w :=
  s1.push (g:=w.heap.size) (.inr rfl) (s1.fresh (Nat.le_refl _)) (.inr s1.keep.size) (PH.le.refl H) s1.sath (fun b o u hu=>.inl ⟨u,hu⟩) (Keep.refl _ _) ⟨[],World.ownsRow_nil w 0 e2 z2,fun b hb=>by simp [blkOf] at hb⟩
 have ho2:(lo.set k0 (.vec e i.size rows) ++ [AObj.tail e2 z2 0])[k0]? = some (.vec e i.size rows):=by
  rw [List.getElem?_append_left (by simpa using hkl)]; simp [hkl]
 have hρ2:(ρ ++ [Value.slice none 0 0])[k0]? = some v:=by
  rw [List.getElem?_append_left (List.getElem?_eq_some_iff.1 hρ).1]; exact hρ
 obtain ⟨v',w',hr,ρ3,H3,hpre,hH,s3,rv⟩:=append_vec (ty:=ty) s2 hu hi hz hzs ho2 hρ2 rx hall (by rw [hlen]; exact hb) (by rw [hlen]; exact h63)
 have hset:(lo.set k0 (.vec e i.size rows) ++ [AObj.tail e2 z2 0]).set k0 .dead = lo.set k0 .dead ++ [.tail e2 z2 0]:=by
  rw [List.set_append_left _ _ (by simpa using hkl),List.set_set]
 rw [hset] at s3 rv
 have hρt:ρ3[(lo.set k0 AObj.dead).length]? = some (.slice none 0 0):=by
  obtain ⟨l,rfl⟩:=hpre
  rw [List.length_set,← s.hlen]
  simp
 have s4:=s3.view (k:=(lo.set k0 AObj.dead ++ [AObj.tail e2 z2 0]).length) (o:=.vec e i.size (rows ++ news)) (o':=.vl e i.size rows' j (lo.set k0 AObj.dead).length) (by simp) rfl rfl (fun u hu ok=>by
  obtain ⟨xs,h1,h2,h3,h4⟩:=ok
  refine ⟨xs,by rw [← hlen]; exact h1,h2.le hle,h3,h4,fun c hc=>?_⟩
  rw [hρt]
  subst hnew
  have hlast:(rows ++ [r])[rows'.length - 1]? = some r:=by
   rw [← hlen]; simp
  obtain ⟨a,ra,ha⟩:=h2.get hlast
  obtain ⟨q,hq,rq⟩:=ra.get hrj
  have:=ha j q hq
  rw [hc] at this
  cases this
  simp only [RepP] at rq
  rw [rq])
 have hset2:(lo.set k0 AObj.dead ++ [AObj.tail e2 z2 0] ++ [AObj.vec e i.size (rows ++ news)]).set (lo.set k0 AObj.dead ++ [AObj.tail e2 z2 0]).length (.vl e i.size rows' j (lo.set k0 AObj.dead).length) = lo.set k0 .dead ++ [.tail e2 z2 0] ++ [.vl e i.size rows' j (lo.set k0 .dead).length]:=by
  rw [List.set_append_right _ _ (Nat.le_refl _),Nat.sub_self]; rfl
 rw [hset2] at s4
 obtain ⟨l,hl⟩:=hpre
 rw [hlen] at rv
 exact ⟨v',w',hr,ρ3,H3,⟨[.slice none 0 0] ++ l,by rw [← hl]; simp⟩,hH,s4,rv⟩
theorem kEff_sound {o:Oper} {E:Env} {lo:List AObj} {R:FV → List AObj → Prop} (h:kEff P o.op E lo R):∃ fv lo',R fv lo' ∧ EffRel (mildO o.op) lo lo' ∧ StepSem P o (lookD E) lo none fv lo':=by
 obtain ⟨dst,op,ty,pos,after,guard⟩:=o
 simp only at h
 unfold kEff at h
 split at h
 ·
  rename_i t x
  have h0:=evS_spec h; clear h; obtain ⟨x',h,hx'⟩:=h0
  have h0:=cellsK_spec h; clear h; obtain ⟨cs,h,hcs⟩:=h0
  split at h
  ·rename_i h1
   have h:=lenK_spec h
   have h:=snocK_spec h
   refine ⟨_,_,h,EffRel.push _,fun hg Lw bs ρ H w eval s hx=>?_⟩
   have rc:=hcs ρ H _ (hx' ρ H _ hg (hx x (by simp [Op.operands])))
   simp only [execOp,Instr.box,Sem.run_bind,run_newVar,Result.andThen_ok,Sem.run_pure]
   refine ⟨_,H,List.prefix_append _ _,PH.le.refl H,s.pushBox (t:=t) rc,?_⟩
   exact ⟨w.heap.size,by simp [← s.hlen],rfl⟩
  ·exact h.elim
 ·
  rename_i t
  obtain ⟨i,z,ps,hi,hz,h,hps⟩:=zeroK_spec h
  have h:=mapP_spec h
  split at h
  ·rename_i h1
   have h:=lenK_spec h
   have h:=snocK_spec h
   refine ⟨_,_,h,EffRel.push _,fun hg Lw bs ρ H w eval s hx=>?_⟩
   simp only [execOp,Instr.alloc,Sem.run_bind,zeroValue,typeInfo,run_program,hi,hz,run_newVar,Result.andThen_ok,Sem.run_pure]
   refine ⟨_,H,List.prefix_append _ _,PH.le.refl H,s.pushBox (t:=t) (RepFL.of_RepL (hps H)),?_⟩
   exact ⟨w.heap.size,by simp [← s.hlen],rfl⟩
  ·exact h.elim
 ·
  rename_i t a x
  have h0:=evS_spec h; clear h; obtain ⟨a',h,ha'⟩:=h0
  have h0:=evS_spec h; clear h; obtain ⟨x',h,hx'⟩:=h0
  split at h
  ·rename_i k off
   have h0:=cellsK_spec h; clear h; obtain ⟨cs,h,hcs⟩:=h0
   split at h
   ·rename_i h1
    have h:=lenK_spec h
    obtain ⟨d,i,hd,hi,h⟩:=typeK_spec h
    split at h
    ·rename_i hn
     have hn:=beq_of hn
     have h0:=nthK_spec h; clear h; obtain ⟨ob,hob,h⟩:=h0
     split at h
     ·rename_i bt cells
      obtain ⟨h,hlen⟩:=overK_spec h
      obtain ⟨h,hk⟩:=setK_spec h
      refine ⟨_,_,h,EffRel.set _ _,fun hg Lw bs ρ H w eval s hx=>?_⟩
      obtain ⟨b,hb,e⟩:=ha' ρ H _ hg (hx a (by simp [Op.operands]))
      have rc:=hcs ρ H _ (hx' ρ H _ hg (hx x (by simp [Op.operands])))
      obtain ⟨b',vs,e',hg',rcells,hH⟩:=s.objs k _ _ hob hb
      cases e'
      have hsz:(eval x).cells.size = cs.length:=by have:=rc.length; simpa using this
      have hr:=run_storeVar (P:=P) (w:=w) (t:=t) (bt:=bt) hi hg' (x:=eval x) (off:=off) (by omega) (by rw [rcells.length]; omega) (allOne_spec h1 rc)
      simp only [execOp,e,Sem.run_bind,hr,Result.andThen_ok,Sem.run_pure]
      refine ⟨ρ,H,List.prefix_refl _,PH.le.refl H,s.setBox hob hb hg' hH ?_,by simp [RepF,RepP,RepL,undef]⟩
      rw [hsz]
      exact ((rcells.take off).append rc).append (rcells.drop _)
     ·exact h.elim
    ·exact h.elim
   ·exact h.elim
  ·rename_i k z i off
   have h0:=kStoreE_sound h; clear h; obtain ⟨fv,lo',h,hl,hs⟩:=h0
   refine ⟨fv,lo',h,EffRel.len hl,fun hg Lw bs ρ H w eval s hx=>?_⟩
   obtain ⟨w',hr,af⟩:=hs bs ρ H w _ _ s (ha' ρ H _ hg (hx a (by simp [Op.operands]))) (hx' ρ H _ hg (hx x (by simp [Op.operands])))
   simp only [execOp,Sem.run_bind,hr,Result.andThen_ok,Sem.run_pure]
   exact af
  ·exact h.elim
 ·
  rename_i sx xx t t'
  split at h
  ·rename_i htt
   have htt:=beq_of htt
   subst htt
   have h0:=evS_spec h; clear h; obtain ⟨s',h,hs'⟩:=h0
   have h0:=evS_spec h; clear h; obtain ⟨x',h,hx'⟩:=h0
   have h0:=rowsOf_spec h; clear h; obtain ⟨news,h,hnews⟩:=h0
   split at h
   ·rename_i k0 n0
    unfold kAppendV at h
    have h0:=elemK_spec h; clear h; obtain ⟨e,i,hu,hi,h⟩:=h0
    split at h
    ·exact h.elim
    ·split at h
     ·rename_i i' hi'
      have:i' = i:=Option.some.inj (hi'.symm.trans hi)
      subst this
      split at h
      ·rename_i zv hzv
       split at h
       ·rename_i hzs
        have hzs:=beq_of hzs
        have h0:=nthK_spec h; clear h; obtain ⟨ob,hob,h⟩:=h0
        split at h
        ·rename_i e' z' rows
         obtain ⟨rows',⟨rfl,he,hz,hall,hb,h63⟩,h⟩:=h
         subst he; subst hz
         obtain ⟨h,hk0⟩:=setK_spec h
         have h:=lenK_spec h
         have h:=snocK_spec h
         refine ⟨_,_,h,EffRel.kill _ hob rfl,fun hg Lw bs ρ H w eval s hx=>?_⟩
         obtain ⟨hρ,_⟩:=hs' ρ H _ hg (hx sx (by simp [Op.operands,Call.operands]))
         have rx:=hnews ρ H _ (hx' ρ H _ hg (hx xx (by simp [Op.operands,Call.operands])))
         obtain ⟨v',w',hr,af⟩:=append_vec (ty:=ty) s hu hi hzv hzs hob hρ rx hall hb h63
         simp only [execOp,resolve,invoke,builtin,Sem.run_bind,Sem.run_pure,Result.andThen_ok,List.map_toArray,List.map_cons,List.map_nil,hr]
         rw [Nat.zero_add]
         exact af
        ·rename_i e' z' rows j kt0
         obtain ⟨rows',r,e2,z2,⟨hle,⟨hnew,hrj⟩,rfl,rfl,hall,hb,h63⟩,h⟩:=h
         obtain ⟨h,hk0⟩:=setK_spec h
         have h:=lenK_spec h
         have h:=snocK_spec h
         have h:=lenK_spec h
         have h:=snocK_spec h
         refine ⟨_,_,h,EffRel.trans (EffRel.kill _ hob rfl) (EffRel.push _),fun hg Lw bs ρ H w eval s hx=>?_⟩
         obtain ⟨hρ,_⟩:=hs' ρ H _ hg (hx sx (by simp [Op.operands,Call.operands]))
         have rx:=hnews ρ H _ (hx' ρ H _ hg (hx xx (by simp [Op.operands,Call.operands])))
         obtain ⟨v',w',hr,af⟩:=append_vl (ty:=ty) (e2:=e2) (z2:=z2) s hu hi hzv hzs hob hρ rx hall hle hnew hrj hb h63
         simp only [execOp,resolve,invoke,builtin,Sem.run_bind,Sem.run_pure,Result.andThen_ok,List.map_toArray,List.map_cons,List.map_nil,hr]
         simp only [Nat.zero_add]
         exact af
        ·exact h.elim
       ·exact h.elim
      ·exact h.elim
     ·exact h.elim
   have h0:=elemK_spec h; clear h; obtain ⟨e,i,hu,hi,h⟩:=h0
   split at h
   ·exact h.elim
   ·split at h
    ·rename_i i' hi'
     have:i' = i:=Option.some.inj (hi'.symm.trans hi)
     subst this
     split at h
     ·rename_i zv hzv
      split at h
      ·rename_i hzs
       have hzs:=beq_of hzs
       split at h
       ·
        obtain ⟨⟨hall,hb,h63⟩,h⟩:=h
        have h:=lenK_spec h
        have h:=snocK_spec h
        refine ⟨_,_,h,EffRel.push _,fun hg Lw bs ρ H w eval s hx=>?_⟩
        have es:eval sx = .slice none 0 0:=by
         have:=hs' ρ H _ hg (hx sx (by simp [Op.operands,Call.operands]))
         simpa [RepF,RepP] using this
        have rx:=hnews ρ H _ (hx' ρ H _ hg (hx xx (by simp [Op.operands,Call.operands])))
        have run:∃ vs:List Value,RepV H i'.size news vs ∧ (∀ u ∈ vs,u.oneCell' = true) ∧
          ((news.length = 0 ∧ eval xx = .slice none 0 0) ∨ ∃ a c,eval xx = .slice (some a) news.length c ∧ ∀ j u,vs[j]? = some u → w.cell? (a.add j) = some u):=by
         rcases sl_flat rx hall with ⟨rfl,ex | ⟨a',cap',ex⟩⟩ | ⟨b,o,cap,vs,ex,_,hv,hc⟩
         ·exact ⟨[],rfl,by simp,.inl ⟨rfl,ex⟩⟩
         ·exact ⟨[],rfl,by simp,.inr ⟨a',cap',ex,fun j u hu=>by simp at hu⟩⟩
         ·exact ⟨vs,hv,RepV.one s.sath hc,.inr ⟨⟨b,o,none⟩,cap,ex,fun j u hu=>by rw [Addr.add_lit]; exact (s.sath.cell _ _ _ (hc j u hu)).1⟩⟩
        obtain ⟨vs,hv,hone,hxx⟩:=run
        obtain ⟨v',w',hr,hown',hk⟩:=append_run (P:=P) (w:=w) (ty:=ty) hu hi hzv hzs (World.ownsRow_nil w 0 e i'.size) hv.length hone hxx (by omega) (by simpa using hb)
        obtain ⟨hle,sat⟩:=append_world s (World.ownsRow_nil w 0 e i'.size) (fun b hb=>by simp [blkOf] at hb) (fun g hg=>by simp [blkOf] at hg) (fun g hg=>by simp [blkOf] at hg) hv.length (by simpa using hone) hown' hk
        simp only [execOp,resolve,invoke,builtin,Sem.run_bind,Sem.run_pure,Result.andThen_ok,List.map_toArray,List.map_cons,List.map_nil,es,hr]
        simp only [Nat.zero_add,List.nil_append] at hown' sat hle
        refine ⟨_,_,List.prefix_append _ _,hle,sat,by simp [← s.hlen],append_rep hv hle hown'⟩
       ·
        rename_i k0 rows _
        obtain ⟨⟨hall,hb,h63⟩,h⟩:=h
        have h0:=nthK_spec h; clear h; obtain ⟨ob,hob,h⟩:=h0
        split at h
        ·rename_i e' z' n
         obtain ⟨⟨he,hz,hn⟩,h⟩:=h
         subst he; subst hz; subst hn
         obtain ⟨h,hk0⟩:=setK_spec h
         have h:=lenK_spec h
         have h:=snocK_spec h
         refine ⟨_,_,h,EffRel.kill _ hob rfl,fun hg Lw bs ρ H w eval s hx=>?_⟩
         have rs:=hs' ρ H _ hg (hx sx (by simp [Op.operands,Call.operands]))
         obtain ⟨hrho,rsl⟩:=rs
         have rx:=hnews ρ H _ (hx' ρ H _ hg (hx xx (by simp [Op.operands,Call.operands])))
         obtain ⟨xs,hown,hxs⟩:=s.objs k0 _ _ hob hrho
         have run:∃ vs:List Value,RepV H i'.size news vs ∧ (∀ u ∈ vs,u.oneCell' = true) ∧
           ((news.length = 0 ∧ eval xx = .slice none 0 0) ∨ ∃ a c,eval xx = .slice (some a) news.length c ∧ ∀ j u,vs[j]? = some u → w.cell? (a.add j) = some u):=by
          rcases sl_flat rx (fun r hr=>hall r (by simp [hr])) with ⟨rfl,ex | ⟨a',cap',ex⟩⟩ | ⟨b,o,cap,vs,ex,_,hv,hc⟩
          ·exact ⟨[],rfl,by simp,.inl ⟨rfl,ex⟩⟩
          ·exact ⟨[],rfl,by simp,.inr ⟨a',cap',ex,fun j u hu=>by simp at hu⟩⟩
          ·exact ⟨vs,hv,RepV.one s.sath hc,.inr ⟨⟨b,o,none⟩,cap,ex,fun j u hu=>by rw [Addr.add_lit]; exact (s.sath.cell _ _ _ (hc j u hu)).1⟩⟩
         obtain ⟨vs,hv,hone,hxx⟩:=run
         have old:RepV H i'.size rows xs ∧ ∀ u ∈ xs,u.oneCell' = true:=by
          rcases sl_flat rsl (fun r hr=>hall r (by simp [hr])) with ⟨rfl,ex⟩ | ⟨b,o,cap,us,ex,_,hv',hc⟩
          ·have:xs = []:=List.eq_nil_of_length_eq_zero (by simpa using hown.1)
           subst this
           exact ⟨rfl,by simp⟩
          ·have hbk:blkOf (eval sx) = some b:=by rw [ex]; rfl
           have ho:o = 0:=by
            rcases hown.2 with ⟨e1,_⟩ | ⟨g,cap',cur,e1,_⟩
            ·rw [ex] at e1; cases e1
            ·rw [ex] at e1; injection e1 with e1; injection e1 with e1; injection e1
           subst ho
           have:xs = us:=by
            refine List.ext_getElem? fun j=>?_
            have l1:xs.length = us.length:=by rw [hown.1,hv'.length]
            rcases Nat.lt_or_ge j xs.length with hj | hj
            ·have h1:=(hxs b hbk).1 j _ (List.getElem?_eq_getElem hj)
             have h2:=hc j _ (List.getElem?_eq_getElem (show j < us.length by omega))
             rw [Nat.zero_add] at h2
             rw [List.getElem?_eq_getElem hj,List.getElem?_eq_getElem (show j < us.length by omega),← h1,← h2]
            ·rw [List.getElem?_eq_none hj,List.getElem?_eq_none (by omega)]
           subst this
           exact ⟨hv',RepV.one s.sath hc⟩
         obtain ⟨hvo,honeo⟩:=old
         obtain ⟨v',w',hr,hown',hk⟩:=append_run (P:=P) (w:=w) (ty:=ty) hu hi hzv hzs hown hv.length hone hxx (by rw [List.length_append] at h63; exact h63) (by rw [List.length_append] at hb; exact hb)
         have sk:=s.kill k0
         obtain ⟨hle,sat⟩:=append_world sk hown hxs (fun g hg k o' u hk' hu' hl=>by
           rw [List.getElem?_set] at hk'
           split at hk'
           ·first
             | (cases hk'; simp [AObj.live] at hl; done)
             | (split at hk' <;> first | (cases hk'; done) | (cases hk'; simp [AObj.live] at hl))
           ·rename_i hne
            exact s.excl k0 k _ o' _ u g hob hk' hrho hu' hne rfl hl hg)
          (fun g hg=>s.own k0 _ _ g hob hrho rfl hg) hv.length (fun u hu'=>by
           rcases List.mem_append.1 hu' with h | h
           ·exact honeo u h
           ·exact hone u h) hown' hk
         simp only [execOp,resolve,invoke,builtin,Sem.run_bind,Sem.run_pure,Result.andThen_ok,List.map_toArray,List.map_cons,List.map_nil,hr]
         refine ⟨_,_,List.prefix_append _ _,hle,by rw [List.length_append]; exact sat,?_,append_rep (hvo.append hv) hle (by rw [List.length_append]; exact hown')⟩
         have:(0 + (lo.set k0 AObj.dead).length) = ρ.length:=by simp [s.hlen]
         rw [this]
         simp
        ·exact h.elim
       ·
        rename_i rows _
        obtain ⟨⟨hall,hb,h63⟩,own,h⟩:=h
        cases own with
        | true =>
         obtain ⟨hne,h⟩:=h
         have h:=lenK_spec h
         have h:=snocK_spec h
         refine ⟨_,_,h,EffRel.push _,fun hg Lw bs ρ H w eval s hx=>?_⟩
         obtain ⟨rsl,hp⟩:=hs' ρ H _ hg (hx sx (by simp [Op.operands,Call.operands]))
         have rx:=hnews ρ H _ (hx' ρ H _ hg (hx xx (by simp [Op.operands,Call.operands])))
         obtain ⟨v',w',hr,⟨h0,_⟩ | ⟨ys,hv,hone,hown',hbk,hk⟩⟩:=cut_run (P:=P) (ty:=ty) s.sath hu hi hzv hzs rsl hp rx hall h63 hb
         ·exact absurd h0 hne
         obtain ⟨hle,sat⟩:=append_world (m:=(rows ++ news).length) (news:=ys) s (World.ownsRow_nil w 0 e i'.size) (fun b hb=>by simp [blkOf] at hb) (fun g hg=>by simp [blkOf] at hg) (fun g hg=>by simp [blkOf] at hg) hv.length (by simpa using hone) (by simpa using hown') (.inr ⟨hbk,hk⟩)
         simp only [execOp,resolve,invoke,builtin,Sem.run_bind,Sem.run_pure,Result.andThen_ok,List.map_toArray,List.map_cons,List.map_nil,hr]
         simp only [Nat.zero_add,List.nil_append] at sat hle
         refine ⟨_,_,List.prefix_append _ _,hle,sat,by simp [← s.hlen],append_rep hv hle hown'⟩
        | false =>
         obtain ⟨rows',rfl,h⟩:=h
         refine ⟨_,_,h,EffRel.refl _,fun hg Lw bs ρ H w eval s hx=>?_⟩
         obtain ⟨rsl,hp⟩:=hs' ρ H _ hg (hx sx (by simp [Op.operands,Call.operands]))
         have rx:=hnews ρ H _ (hx' ρ H _ hg (hx xx (by simp [Op.operands,Call.operands])))
         obtain ⟨v',w',hr,⟨rfl,rfl,rfl⟩ | ⟨ys,hv,hone,hown',hbk,hk⟩⟩:=cut_run (P:=P) (ty:=ty) s.sath hu hi hzv hzs rsl hp rx hall h63 hb
         ·simp only [execOp,resolve,invoke,builtin,Sem.run_bind,Sem.run_pure,Result.andThen_ok,List.map_toArray,List.map_cons,List.map_nil,hr]
          refine ⟨ρ,H,List.prefix_refl _,PH.le.refl H,s,?_⟩
          simp only [RepF,List.append_nil]
          exact rsl
         ·obtain ⟨hle,sat⟩:=append_world (m:=(rows ++ news).length) (news:=ys) s (World.ownsRow_nil w 0 e i'.size) (fun b hb=>by simp [blkOf] at hb) (fun g hg=>by simp [blkOf] at hg) (fun g hg=>by simp [blkOf] at hg) hv.length (by simpa using hone) (by simpa using hown') (.inr ⟨hbk,hk⟩)
          simp only [List.nil_append] at sat hle
          have calm:Calm H w (grownH H v' ys) w':=⟨hle,sat.sath,⟨hk.os,hk.tape,hk.output,hk.size,fun k hk1 _=>hk.block k hk1 (by omega)⟩,fun b o u hu=>by
           unfold grownH at hu
           split at hu
           ·rename_i hc
            rw [hbk] at hc
            exact .inr (by have:=Option.some.inj hc.1; omega)
           ·exact .inl ⟨u,hu⟩⟩
          simp only [execOp,resolve,invoke,builtin,Sem.run_bind,Sem.run_pure,Result.andThen_ok,List.map_toArray,List.map_cons,List.map_nil,hr]
          exact ⟨ρ,_,List.prefix_refl _,hle,s.calm calm,append_rep hv hle hown'⟩
       ·exact h.elim
      ·exact h.elim
     ·exact h.elim
    ·exact h.elim
  ·have h0:=evS_spec h; clear h; obtain ⟨s',h,hs'⟩:=h0
   have h0:=evS_spec h; clear h; obtain ⟨x',h,hx'⟩:=h0
   split at h
   case h_2=>exact h.elim
   rename_i str
   split at h
   case h_2=>exact h.elim
   rename_i hut
   have h0:=elemK_spec h; clear h; obtain ⟨e,i,hu,hi,h⟩:=h0
   split at h
   case h_2=>exact h.elim
   rename_i hz1
   have hz1:=beq_of hz1
   split at h
   case h_2=>exact h.elim
   rename_i i' hi'
   have:i' = i:=Option.some.inj (hi'.symm.trans hi)
   subst this
   split at h
   case h_2=>exact h.elim
   rename_i hzv
   have hbl:(bRows str).length = str.length:=by simp [bRows]
   split at h
   ·obtain ⟨⟨hb,h63⟩,h⟩:=h
    have h:=lenK_spec h
    have h:=snocK_spec h
    refine ⟨_,_,h,EffRel.push _,fun hg Lw bs ρ H w eval s hx=>?_⟩
    have es:eval sx = .slice none 0 0:=by
     have:=hs' ρ H _ hg (hx sx (by simp [Op.operands,Call.operands]))
     simpa [RepF,RepP] using this
    have ex:=rep_str (hx' ρ H _ hg (hx xx (by simp [Op.operands,Call.operands])))
    obtain ⟨v',w',hr,hown',hk⟩:=append_run_string (P:=P) (w:=w) (ty:=ty) hu hut hi hzv hz1 (World.ownsRow_nil w 0 e 1) str (by omega) (by rw [hbl] at hb; simpa using hb)
    have hv:=bRows_V H str
    obtain ⟨hle,sat⟩:=append_world s (World.ownsRow_nil w 0 e 1) (fun b hb=>by simp [blkOf] at hb) (fun g hg=>by simp [blkOf] at hg) (fun g hg=>by simp [blkOf] at hg) (by rw [Lib.strCells_length,size_lit,Nat.mul_one]) (by simpa using Lib.strCells_oneCell _) hown' hk
    simp only [execOp,resolve,invoke,builtin,Sem.run_bind,Sem.run_pure,Result.andThen_ok,List.map_toArray,List.map_cons,List.map_nil,es,ex,hr]
    simp only [Nat.zero_add,List.nil_append] at hown' sat hle
    refine ⟨_,_,List.prefix_append _ _,hle,by rw [hz1,hbl]; exact sat,by simp [← s.hlen],append_rep hv hle (by rw [hbl]; exact hown')⟩
   ·rename_i k0 rows
    obtain ⟨⟨hall,hb,h63⟩,h⟩:=h
    have h0:=nthK_spec h; clear h; obtain ⟨ob,hob,h⟩:=h0
    split at h
    case h_2=>exact h.elim
    rename_i e' z' n
    obtain ⟨⟨he,hz,hn⟩,h⟩:=h
    subst he; subst hz; subst hn
    obtain ⟨h,hk0⟩:=setK_spec h
    have h:=lenK_spec h
    have h:=snocK_spec h
    refine ⟨_,_,h,EffRel.kill _ hob rfl,fun hg Lw bs ρ H w eval s hx=>?_⟩
    have rs:=hs' ρ H _ hg (hx sx (by simp [Op.operands,Call.operands]))
    obtain ⟨hrho,rsl⟩:=rs
    have ex:=rep_str (hx' ρ H _ hg (hx xx (by simp [Op.operands,Call.operands])))
    obtain ⟨xs,hown,hxs⟩:=s.objs k0 _ _ hob hrho
    have old:RepV H 1 rows xs ∧ ∀ u ∈ xs,u.oneCell' = true:=by
     rcases sl_flat rsl hall with ⟨rfl,ex⟩ | ⟨b,o,cap,us,ex,_,hv',hc⟩
     ·have:xs = []:=List.eq_nil_of_length_eq_zero (by simpa using hown.1)
      subst this
      exact ⟨rfl,by simp⟩
     ·have hbk:blkOf (eval sx) = some b:=by rw [ex]; rfl
      have ho:o = 0:=by
       rcases hown.2 with ⟨e1,_⟩ | ⟨g,cap',cur,e1,_⟩
       ·rw [ex] at e1; cases e1
       ·rw [ex] at e1; injection e1 with e1; injection e1 with e1; injection e1
      subst ho
      have:xs = us:=by
       refine List.ext_getElem? fun j=>?_
       have l1:xs.length = us.length:=by rw [hown.1,hv'.length]
       rcases Nat.lt_or_ge j xs.length with hj | hj
       ·have h1:=(hxs b hbk).1 j _ (List.getElem?_eq_getElem hj)
        have h2:=hc j _ (List.getElem?_eq_getElem (show j < us.length by omega))
        rw [Nat.zero_add] at h2
        rw [List.getElem?_eq_getElem hj,List.getElem?_eq_getElem (show j < us.length by omega),← h1,← h2]
       ·rw [List.getElem?_eq_none hj,List.getElem?_eq_none (by omega)]
      subst this
      exact ⟨hv',RepV.one s.sath hc⟩
    obtain ⟨hvo,honeo⟩:=old
    rw [List.length_append,hbl] at hb h63
    obtain ⟨v',w',hr,hown',hk⟩:=append_run_string (P:=P) (w:=w) (ty:=ty) hu hut hi hzv hz1 hown str h63 hb
    have hv:=bRows_V H str
    have sk:=s.kill k0
    obtain ⟨hle,sat⟩:=append_world sk hown hxs (fun g hg k o' u hk' hu' hl=>by
      rw [List.getElem?_set] at hk'
      split at hk'
      ·first
        | (cases hk'; simp [AObj.live] at hl; done)
        | (split at hk' <;> first | (cases hk'; done) | (cases hk'; simp [AObj.live] at hl))
      ·rename_i hne
       exact s.excl k0 k _ o' _ u g hob hk' hrho hu' hne rfl hl hg)
     (fun g hg=>s.own k0 _ _ g hob hrho rfl hg) (by rw [Lib.strCells_length,size_lit,Nat.mul_one]) (fun u hu'=>by
      rcases List.mem_append.1 hu' with h | h
      ·exact honeo u h
      ·exact Lib.strCells_oneCell _ u h) hown' hk
    simp only [execOp,resolve,invoke,builtin,Sem.run_bind,Sem.run_pure,Result.andThen_ok,List.map_toArray,List.map_cons,List.map_nil,ex,hr]
    refine ⟨_,_,List.prefix_append _ _,hle,by rw [hz1,List.length_append,hbl]; exact sat,?_,append_rep (hvo.append hv) hle (by rw [List.length_append,hbl]; exact hown')⟩
    have:(0 + (lo.set k0 AObj.dead).length) = ρ.length:=by simp [s.hlen]
    rw [this]
    simp
   ·exact h.elim
 ·exact kEff2_sound (o:=⟨dst,_,ty,pos,after,guard⟩) h
end
end Ax
end
section
namespace Ax
open Go
variable {Lw:Nat}
section
variable {P:Program} {w:World}
theorem SatW.publishN {bs:(Base Lw)} {ρ:List Value} {H:(PH Lw)} {lo:List AObj} {w:World} (s:SatW bs ρ H lo w) {k:Nat} {e:TypeId} {z:Nat} {rows:List (List PV)} {v:Value} (ho:lo[k]? = some (.vec e z rows)) (hv:ρ[k]? = some v) :
  ∃ H',PH.le H H' ∧ SatW bs ρ H' (lo.set k .dead) w ∧ RepP H' (.sl rows) v ∧ ∀ b o,H b o = none → H' b o = none ∨ blkOf v = some b:=by
 obtain ⟨xs,hown,hr,h1,hh⟩:=s.objs k _ _ ho hv
 rcases hown.2 with ⟨rfl,h0⟩ | ⟨g,cap,cur,hev,_,hg,hnc,_⟩
 ·have:rows = []:=List.eq_nil_of_length_eq_zero h0
  subst this
  exact ⟨H,PH.le.refl H,s.kill k,by simp [RepP],fun _ _ h=>.inl h⟩
 ·have hb:blkOf v = some g:=by rw [hev]; rfl
  have hle:PH.le H (grownH H v xs):=by
   intro b o u hu
   unfold grownH
   split
   ·rename_i hc
    rw [hb] at hc
    obtain ⟨e1,_⟩:=hc
    cases e1
    rw [hh g hb o] at hu
    cases hu
   ·exact hu
  have sk:=s.kill k
  refine ⟨grownH H v xs,hle,?_,append_rep hr hle hown,fun b o h=>?_⟩
  rotate_left
  ·unfold grownH
   split
   ·rename_i hc; exact .inr hc.1
   ·exact .inl h
  refine { sath:=⟨fun b o u hu=>?_,s.sath.root.mono hle,s.sath.low,fun b o u hu hL=>by
   by_cases hbv:blkOf v = some b
   ·exact .own hown hbv
   ·unfold grownH at hu
    rw [if_neg (fun hc=>hbv hc.1)] at hu
    exact s.sath.nf b o u hu hL⟩,hlen:=sk.hlen,pre:=sk.pre,objs:=fun i oi vi hi hvi=>?_,excl:=sk.excl,own:=sk.own,keep:=sk.keep,leH:=sk.leH.trans hle,newH:=fun b o u hu=>?_ }
  ·unfold grownH at hu
   split at hu
   ·rename_i hc
    rw [hb] at hc
    obtain ⟨e1,_⟩:=hc
    cases e1
    have:=hown.cells (g:=g) (by rw [hev]; rfl) o u hu
    rw [Addr.add_lit,Nat.zero_add] at this
    exact ⟨this,h1 u (List.mem_of_getElem? hu)⟩
   ·exact s.sath.cell b o u hu
  ·rw [List.getElem?_set] at hi
   split at hi
   ·split at hi
    ·cases hi; trivial
    ·cases hi
   ·rename_i hne
    cases hl:oi.live with
    | false=>cases oi <;> simp [AObj.live] at hl; trivial
    | true =>
     refine (s.objs i oi vi hi hvi).keep (List.prefix_refl _) hle (fun _ _ _=>rfl) (fun b o' hb' _ hn=>?_)
     unfold grownH
     rw [if_neg (fun hc=>s.excl k i _ oi _ vi b ho hi hv hvi hne rfl hl hc.1 hb')]
     exact hn
  ·unfold grownH at hu
   split at hu
   ·rename_i hc
    exact .inr (s.own k _ v b ho hv rfl hc.1)
   ·exact s.newH b o u hu
theorem SatW.publish {bs:(Base Lw)} {ρ:List Value} {H:(PH Lw)} {lo:List AObj} {w:World} (s:SatW bs ρ H lo w) {k:Nat} {e:TypeId} {z:Nat} {rows:List (List PV)} {v:Value} (ho:lo[k]? = some (.vec e z rows)) (hv:ρ[k]? = some v) :
  ∃ H',PH.le H H' ∧ SatW bs ρ H' (lo.set k .dead) w ∧ RepP H' (.sl rows) v :=
 let ⟨H',a,b,c,_⟩:=s.publishN ho hv
 ⟨H',a,b,c⟩
def kMakeS (P:Program) (own grow:Bool) (lo:List AObj) (t:TypeId) (l c:FV) (R:FV → List AObj → Prop):Prop :=
 match l with
 | .p (.int _ l)=>match c with
  | .p (.int _ c)=>elemK P t fun e z=>match P.info? e with
   | some i=>zeroK P e fun zs=>match own with
    | false=>match grow with
     | false=>∃ n:Nat,(l = 0 ∧ c = n ∧ n * i.bytes ≤ 140737488355328 ∧ n ≤ 9223372036854775807) ∧ lenK lo 0 fun k=>snocK lo (.tail e z 0) fun lo=>R (.tsl k []) lo
     | true=>∃ (n:Nat) (rows:List (List PV)),(l = n ∧ c = n ∧ n * i.bytes ≤ 140737488355328 ∧ n ≤ 9223372036854775807 ∧ (List.replicate n zs = rows ∨ nleR (List.replicate n zs) rows) ∧ zs.length = z ∧ z ≠ 0 ∧ zs.all oneP = true) ∧
       snocK lo .dead fun lo=>R (.p (.sl rows)) lo
    | true=>match grow with
     | false=>∃ (n:Nat) (rows:List (List PV)),(l = n ∧ c = n ∧ n * i.bytes ≤ 140737488355328 ∧ n ≤ 9223372036854775807 ∧ (List.replicate n zs = rows ∨ nleR (List.replicate n zs) rows) ∧ zs.length = z ∧ z ≠ 0 ∧ zs.all oneP = true) ∧
       lenK lo 0 fun k=>snocK lo (.vec e z rows) fun lo=>R (.vsl k rows.length) lo
     | true=>(l = 1 ∧ c = 1 ∧ i.bytes ≤ 140737488355328 ∧ zs.length = z ∧ z ≠ 0) ∧ mapP zs fun cs=>match allOne cs with
      | true=>lenK lo 0 fun k=>snocK lo (.box e cs) fun lo=>R (.bsl k 0 1 1) lo
      | false=>False
   | none=>False
  | _=>False
 | _=>False
theorem made_succ (z:Array Value) (n:Nat) (hz:z.size ≠ 0):(madeCells z ((n + 1) * z.size)).toList = z.toList ++ (madeCells z (n * z.size)).toList:=by
 unfold madeCells
 simp only [Array.toList_map,Array.toList_range]
 rw [Nat.add_mul,Nat.one_mul,Nat.add_comm (n * z.size),List.range_add,List.map_append,List.map_map]
 congr 1
 ·refine List.ext_getElem? fun j=>?_
  simp only [List.getElem?_map,List.getElem?_range]
  by_cases hj:j < z.size
  ·simp [List.getElem?_range hj,hj,Nat.mod_eq_of_lt hj]
  ·have h2:z.toList[j]? = none:=by simp; omega
   rw [h2]
   simp; omega
 ·refine List.map_congr_left fun j _=>?_
  simp [Nat.add_mod_left]
theorem made_rows {H:(PH Lw)} {zs:List PV} {zv:Value} (hr:RepL H zs zv.cells.toList) (hne:zs.length ≠ 0):∀ n:Nat,RepV H zs.length (List.replicate n zs) (madeCells zv.cells (n * zv.cells.size)).toList
 | 0=>by simp [RepV,madeCells]
 | n + 1=>by
  have hl:=hr.length
  have hz:zv.cells.size ≠ 0:=by simp at hl; omega
  rw [made_succ _ _ hz,List.replicate_succ]
  exact ⟨rfl,_,_,rfl,hr,made_rows hr hne n⟩
theorem kMakeS_spec {own grow:Bool} {lo:List AObj} {t:TypeId} {l c:FV} {R:FV → List AObj → Prop} (h:kMakeS P own grow lo t l c R) :
  ∃ fv lo',R fv lo' ∧ EffRel true lo lo' ∧ ∀ ⦃Lw:Nat⦄ (bs:(Base Lw)) (ρ:List Value) (H:(PH Lw)) (w:World) (vl vc:Value),SatW bs ρ H lo w → RepF ρ H l vl → RepF ρ H c vc →
   ∃ v w',(Instr.makeSlice t vl vc).run P w = .ok v w' ∧ After bs ρ H fv lo' v w':=by
 unfold kMakeS at h
 split at h
 case h_2=>exact h.elim
 rename_i kl l
 split at h
 case h_2=>exact h.elim
 rename_i kc c
 have h0:=elemK_spec h; clear h; obtain ⟨e,i,hu,hi,h⟩:=h0
 rw [hi] at h
 have h0:=zeroK_spec h; clear h; obtain ⟨i',zv,zs,hi',hz,h,hzs⟩:=h0
 obtain rfl:i' = i:=Option.some.inj (hi'.symm.trans hi)
 split at h
 ·split at h
  ·have h0:=h; clear h; obtain ⟨n,⟨rfl,rfl,hb,h63⟩,h⟩:=h0
   have h:=lenK_spec h
   have h:=snocK_spec h
   refine ⟨_,_,h,EffRel.push _,fun Lw bs ρ H w vl vc s rl rc=>?_⟩
   rw [rep_int rl,rep_int rc]
   obtain ⟨w',hr,hown,hg⟩:=run_make_own (P:=P) w 0 t e i' zv i'.size hu hi hz rfl kl kc n (by rw [Nat.mul_comm]; omega) h63 (Nat.zero_le _)
   have hr2:=run_make (P:=P) w t e i' zv hu hi hz kl kc 0 n (Int.le_refl _) (by omega) (by
    have:((i'.bytes * n:Nat):Int) ≤ 281474976710656:=by rw [Nat.mul_comm]; omega
    rwa [Int.natCast_mul] at this) (by omega)
   simp only [Int.toNat_zero,Int.toNat_natCast] at hr2
   have hw:w' = w.alloc (.cells (madeCells zv.cells (n * i'.size)) e):=by
    rw [hr] at hr2
    injection hr2
   subst hw
   refine ⟨_,_,hr,ρ ++ [.slice (some ⟨w.heap.size,0,none⟩) 0 n],H,List.prefix_append _ _,PH.le.refl H,?_,?_⟩
   ·refine s.push (g:=w.heap.size) (.inl rfl) (s.fresh (Nat.le_refl _)) (.inr s.keep.size) (PH.le.refl H) (satH_alloc s.sath _) (fun b o v h=>.inl ⟨v,h⟩) (keep_alloc w _ _) ?_
    refine ⟨[],hown,fun b hb=>⟨fun j u hu=>by simp at hu,fun o _=>?_⟩⟩
    simp only [blkOf,Option.some.injEq] at hb
    subst hb
    cases hx:H w.heap.size o with
    | none=>rfl
    | some x=>exact absurd (s.sath.lt hx) (Nat.lt_irrefl _)
   ·refine ⟨by simp [← s.hlen],?_⟩
    simp only [RepP]
    exact .inl ⟨trivial,.inr ⟨_,_,rfl⟩⟩
  ·have h0:=h; clear h; obtain ⟨n,rows,⟨rfl,rfl,hb,h63,hle,hzl,hz0,hone⟩,h⟩:=h0
   have h:=snocK_spec h
   refine ⟨_,_,h,EffRel.push _,fun Lw bs ρ H w vl vc s rl rc=>?_⟩
   rw [rep_int rl,rep_int rc]
   have hsz:zv.cells.size = i'.size:=by have:=(hzs H).length; simp at this; omega
   obtain ⟨w',hr,hown,hg⟩:=run_make_full (P:=P) w 0 t e i' zv i'.size hu hi hz rfl kl kc n (by rw [Nat.mul_comm]; omega) h63 (Nat.zero_le _)
   have hr2:=run_make (P:=P) w t e i' zv hu hi hz kl kc n n (by omega) (Int.le_refl _) (by
    have:((i'.bytes * n:Nat):Int) ≤ 281474976710656:=by rw [Nat.mul_comm]; omega
    rwa [Int.natCast_mul] at this) (by omega)
   simp only [Int.toNat_natCast] at hr2
   have hw:w' = w.alloc (.cells (madeCells zv.cells (n * i'.size)) e):=by
    rw [hr] at hr2
    injection hr2
   subst hw
   have hlen:rows.length = n:=by
    rcases hle with rfl | hle
    ·simp
    ·have:=nleR_length hle; simpa using this.symm
   have hrv0:=made_rows (hzs H) (by omega) n
   have hrv:RepV H i'.size rows (madeCells zv.cells (n * i'.size)).toList:=by
    rw [hsz,hzl] at hrv0
    exact RepV.le hle hrv0
   have h1:∀ u ∈ (madeCells zv.cells (n * i'.size)).toList,u.oneCell' = true:=by
    intro u hu'
    unfold madeCells at hu'
    simp only [Array.toList_map,List.mem_map] at hu'
    obtain ⟨j,_,rfl⟩:=hu'
    have hj:j % zv.cells.size < zv.cells.size:=Nat.mod_lt _ (by omega)
    have hm:zv.cells[j % zv.cells.size]! ∈ zv.cells.toList:=by
     rw [getElem!_pos zv.cells _ hj]
     simp
    exact RepL.one (fun c hc=>(List.all_eq_true.1 hone) c hc) (hzs H) _ hm
   have sp:SatW bs (ρ ++ [.slice (some ⟨w.heap.size,0,none⟩) n n]) H (lo ++ [.vec e i'.size rows]) (w.alloc (.cells (madeCells zv.cells (n * i'.size)) e)):=by
    refine s.push (g:=w.heap.size) (.inl rfl) (s.fresh (Nat.le_refl _)) (.inr s.keep.size) (PH.le.refl H) (satH_alloc s.sath _) (fun b o v h=>.inl ⟨v,h⟩) (keep_alloc w _ _) ?_
    refine ⟨_,by rw [hlen]; exact hown,hrv,h1,fun b hb o=>?_⟩
    simp only [blkOf,Option.some.injEq] at hb
    subst hb
    cases hx:H w.heap.size o with
    | none=>rfl
    | some x=>exact absurd (s.sath.lt hx) (Nat.lt_irrefl _)
   obtain ⟨H',hle',sp',rp⟩:=sp.publish (k:=lo.length) (e:=e) (z:=i'.size) (rows:=rows) (v:=.slice (some ⟨w.heap.size,0,none⟩) n n) (by simp) (by simp [← s.hlen])
   have hset:(lo ++ [AObj.vec e i'.size rows]).set lo.length .dead = lo ++ [.dead]:=by simp
   rw [hset] at sp'
   exact ⟨_,_,hr,_,H',List.prefix_append _ _,hle',sp',rp⟩
 ·split at h
  ·have h0:=h; clear h; obtain ⟨n,rows,⟨rfl,rfl,hb,h63,hle,hzl,hz0,hone⟩,h⟩:=h0
   have h:=lenK_spec h
   have h:=snocK_spec h
   refine ⟨_,_,h,EffRel.push _,fun Lw bs ρ H w vl vc s rl rc=>?_⟩
   rw [rep_int rl,rep_int rc]
   have hsz:zv.cells.size = i'.size:=by have:=(hzs H).length; simp at this; omega
   obtain ⟨w',hr,hown,hg⟩:=run_make_full (P:=P) w 0 t e i' zv i'.size hu hi hz rfl kl kc n (by rw [Nat.mul_comm]; omega) h63 (Nat.zero_le _)
   have hr2:=run_make (P:=P) w t e i' zv hu hi hz kl kc n n (by omega) (Int.le_refl _) (by
    have:((i'.bytes * n:Nat):Int) ≤ 281474976710656:=by rw [Nat.mul_comm]; omega
    rwa [Int.natCast_mul] at this) (by omega)
   simp only [Int.toNat_natCast] at hr2
   have hw:w' = w.alloc (.cells (madeCells zv.cells (n * i'.size)) e):=by
    rw [hr] at hr2
    injection hr2
   subst hw
   have hlen:rows.length = n:=by
    rcases hle with rfl | hle
    ·simp
    ·have:=nleR_length hle; simpa using this.symm
   have hrv0:=made_rows (hzs H) (by omega) n
   have hrv:RepV H i'.size rows (madeCells zv.cells (n * i'.size)).toList:=by
    rw [hsz,hzl] at hrv0
    exact RepV.le hle hrv0
   have h1:∀ u ∈ (madeCells zv.cells (n * i'.size)).toList,u.oneCell' = true:=by
    intro u hu'
    unfold madeCells at hu'
    simp only [Array.toList_map,List.mem_map] at hu'
    obtain ⟨j,_,rfl⟩:=hu'
    have hj:j % zv.cells.size < zv.cells.size:=Nat.mod_lt _ (by omega)
    have hm:zv.cells[j % zv.cells.size]! ∈ zv.cells.toList:=by
     rw [getElem!_pos zv.cells _ hj]
     simp
    exact RepL.one (fun c hc=>(List.all_eq_true.1 hone) c hc) (hzs H) _ hm
   refine ⟨_,_,hr,ρ ++ [.slice (some ⟨w.heap.size,0,none⟩) n n],H,List.prefix_append _ _,PH.le.refl H,?_,?_⟩
   ·refine s.push (g:=w.heap.size) (.inl rfl) (s.fresh (Nat.le_refl _)) (.inr s.keep.size) (PH.le.refl H) (satH_alloc s.sath _) (fun b o v h=>.inl ⟨v,h⟩) (keep_alloc w _ _) ?_
    refine ⟨_,by rw [hlen]; exact hown,hrv,h1,fun b hb o=>?_⟩
    simp only [blkOf,Option.some.injEq] at hb
    subst hb
    cases hx:H w.heap.size o with
    | none=>rfl
    | some x=>exact absurd (s.sath.lt hx) (Nat.lt_irrefl _)
   ·exact ⟨by simp [← s.hlen],.inr ⟨w.heap.size,n,by rw [hlen]⟩⟩
  ·have h0:=h; clear h; obtain ⟨⟨rfl,rfl,hb,hzl,hz0⟩,h⟩:=h0
   have h0:=mapP_spec h; clear h; have h:=h0; clear h0
   split at h
   ·rename_i h1
    have h:=lenK_spec h
    have h:=snocK_spec h
    refine ⟨_,_,h,EffRel.push _,fun Lw bs ρ H w vl vc s rl rc=>?_⟩
    rw [rep_int rl,rep_int rc]
    have hsz:zv.cells.size = i'.size:=by have:=(hzs H).length; simp at this; omega
    have hr2:=run_make (P:=P) w t e i' zv hu hi hz kl kc 1 1 (by omega) (Int.le_refl _) (by omega) (by omega)
    have hm:madeCells zv.cells (1 * i'.size) = zv.cells.toList.toArray:=by
     have h0:=made_succ zv.cells 0 (by omega)
     rw [Nat.zero_add,hsz] at h0
     have h3:(madeCells zv.cells (0 * i'.size)).toList = []:=by simp [madeCells]
     rw [h3,List.append_nil] at h0
     rw [← h0]
    simp only [Int.toNat_one] at hr2
    rw [hm] at hr2
    refine ⟨_,_,hr2,_,H,List.prefix_append _ _,PH.le.refl H,s.pushBox (t:=e) (RepFL.of_RepL (hzs H)),?_⟩
    exact ⟨w.heap.size,by simp [← s.hlen],1,rfl,.inr rfl⟩
   ·exact h.elim
def kCopyV (P:Program) (lo:List AObj) (t:TypeId) (d x:FV) (R:FV → List AObj → Prop):Prop :=
 match d with
 | .vsl k _=>rowsOf x fun src=>nthK k lo fun o=>match o with
  | .vec e z rows=>elemK P t fun _ z'=>(z' = z ∧ src.length = rows.length ∧ (∀ r ∈ src,r.length = z)) ∧ setK k (.vec e z src) lo fun lo=>R (.p (.int .i64 src.length)) lo
  | _=>False
 | _=>False
theorem kCopyV_spec {lo:List AObj} {t:TypeId} {d x:FV} {R:FV → List AObj → Prop} (h:kCopyV P lo t d x R) :
  ∃ fv lo',R fv lo' ∧ EffRel false lo lo' ∧ ∀ ⦃Lw:Nat⦄ (bs:(Base Lw)) (ρ:List Value) (H:(PH Lw)) (w:World) (t' ty:TypeId) (vd vx:Value),SatW bs ρ H lo w → RepF ρ H d vd → RepF ρ H x vx →
   ∃ v w',(Builtin.copy_ #[t,t'] ty #[vd,vx]).run P w = .ok v w' ∧ After bs ρ H fv lo' v w':=by
 unfold kCopyV at h
 split at h
 case h_2=>exact h.elim
 rename_i k n
 have h0:=rowsOf_spec h; clear h; obtain ⟨src,h,hsrc⟩:=h0
 have h0:=nthK_spec h; clear h; obtain ⟨o,ho,h⟩:=h0
 split at h
 case h_2=>exact h.elim
 rename_i e z rows
 have h0:=elemK_spec h; clear h; obtain ⟨e',i,hu,hi,⟨rfl,hlen,hw⟩,h⟩:=h0
 have h0:=setK_spec h; clear h; obtain ⟨h,_⟩:=h0
 refine ⟨_,_,h,EffRel.set _ _,fun Lw bs ρ H w t' ty vd vx s rd rx=>?_⟩
 obtain ⟨hρ,_⟩:=rd
 have rs:=hsrc ρ H vx rx
 obtain ⟨xs,hown,hr,h1,hh⟩:=s.objs k _ _ ho hρ
 have ffirst:src = [] → ∃ c:Array Value,(Builtin.firstCells i.size 0 vx).run P w = .ok #[] w ∧ (Builtin.lenOf vx).run P w = .ok 0 w:=by
  intro e0
  subst e0
  simp only [RepP] at rs
  have l0:∀ a:Addr,(loadCells a 0).run P w = .ok #[] w:=fun a=>by simpa using run_loadCells_list (P:=P) w a [] (by simp)
  rcases rs with ⟨_,rfl | ⟨a,cap,rfl⟩⟩ | ⟨b,o',z',cap,rfl,_⟩
  ·exact ⟨#[],by simp [Builtin.firstCells],by simp [Builtin.lenOf]⟩
  ·exact ⟨#[],by simp [Builtin.firstCells,l0],by simp [Builtin.lenOf]⟩
  ·exact ⟨#[],by simp [Builtin.firstCells,l0],by simp [Builtin.lenOf]⟩
 rcases hown.2 with ⟨rfl,h0⟩ | ⟨g,cap,cur,rfl,_,hg,hnc,hm,hs,ht⟩
 ·have hr0:rows = []:=List.eq_nil_of_length_eq_zero h0
  subst hr0
  have hs0:src = []:=List.eq_nil_of_length_eq_zero (by simpa using hlen)
  obtain ⟨_,hf,hl⟩:=ffirst hs0
  subst hs0
  refine ⟨goInt 0,w,?_,ρ,H,List.prefix_refl _,PH.le.refl H,?_,by simp [RepF,RepP,goInt]⟩
  ·simp [Builtin.copy_,run_underlying hu,hl,Go.sizeOf,typeInfo,hi,hf]
  ·exact s.view ho rfl rfl fun v hv ok=>ok
 ·have hb:blkOf (Value.slice (some ⟨g,0,none⟩) rows.length cap) = some g:=rfl
  obtain ⟨vs,hload,hlenOf,rv,hone⟩:∃ vs:List Value,(Builtin.firstCells i.size src.length vx).run P w = .ok vs.toArray w ∧ (Builtin.lenOf vx).run P w = .ok src.length w ∧ RepV H i.size src vs ∧ ∀ u ∈ vs,u.oneCell' = true:=by
   rcases sl_flat rs hw with ⟨e0,_⟩ | ⟨b,o',cap',vs,rfl,_,rv,hc⟩
   ·obtain ⟨_,hf,hl⟩:=ffirst e0
    subst e0
    exact ⟨[],by simpa using hf,by simpa using hl,rfl,fun u hu=>by cases hu⟩
   ·have hl:=run_loadCells_list (P:=P) w ⟨b,o',none⟩ vs (fun j u hu=>by
     have:=(s.sath.cell b (o' + j) u (hc j u hu)).1
     rwa [Addr.add_lit])
    rw [rv.length] at hl
    exact ⟨vs,by simp [Builtin.firstCells,hl],by simp [Builtin.lenOf],rv,fun u hu=>by
     obtain ⟨j,hj⟩:=List.getElem?_of_mem hu
     exact (s.sath.cell b (o' + j) u (hc j u hj)).2⟩
  have hvl:vs.length = rows.length * i.size:=by rw [rv.length,hlen]
  have hcl:rows.length * i.size ≤ cur.size:=by rw [hs]; exact Nat.mul_le_mul_right _ hnc
  obtain ⟨cs',a1,a2,a3,a4,a5⟩:=setCells_heap vs 0 w cur hg
  have hcell:∀ j,j < vs.length → (w.cell? ⟨g,0 + j,none⟩).isSome = true:=fun j hj=>by
   rw [cell_of_row w g _ _ e _ hg]
   have:j < cur.size:=by omega
   simp [this]
  have hst:=run_storeCells_cells (P:=P) g 0 vs 0 w (by simpa using hcell) (fun j hj=>frozen_of_row w g _ cur e hg) hone
  refine ⟨goInt src.length,w.setCells g 0 vs,?_,ρ,H,List.prefix_refl _,PH.le.refl H,?_,by simp [RepF,RepP,goInt]⟩
  ·have hmin:Nat.min src.length rows.length = src.length:=by rw [hlen]; exact Nat.min_self _
   simp [Builtin.copy_,run_underlying hu,hlenOf,Go.sizeOf,typeInfo,hi,hmin,hload,hst]
  ·refine s.upd (k:=k) (b:=g) ho hρ rfl rfl (hh g rfl) a5 ?_
   refine ⟨vs,⟨by rw [hvl,hlen],.inr ⟨g,cap,cs',by rw [hlen],Nat.zero_le _,a1,by rw [hlen]; exact hnc,hm,by rw [a2]; exact hs,?_⟩⟩,rv,hone,fun b hb' o'=>hh b hb' o'⟩
   rw [hlen]
   refine List.ext_getElem? fun j=>?_
   rw [List.getElem?_take]
   split
   ·rename_i hj
    have hjv:j < vs.length:=by omega
    have:=a4 j vs[j] (by simp [hjv]) (by omega)
    rw [Nat.zero_add] at this
    rw [List.getElem?_eq_getElem hjv]
    simpa using this
   ·rename_i hj
    rw [List.getElem?_eq_none (by omega)]
def kBoxI (x:FV) (R:FV → Prop):Prop :=
 cellsK x fun cs=>frzL cs fun ps=>match ps.all oneP with
  | true=>R (.hptr ps)
  | false=>False
theorem kBoxI_spec {x:FV} {R:FV → Prop} (h:kBoxI x R) :
  ∃ fv,R fv ∧ ∀ (lo:List AObj) ⦃Lw:Nat⦄ (bs:(Base Lw)) (ρ:List Value) (H:(PH Lw)) (w:World) (t:TypeId) (v:Value),SatW bs ρ H lo w → RepF ρ H x v → ∃ u w',(Instr.box t v).run P w = .ok u w' ∧ After bs ρ H fv lo u w':=by
 unfold kBoxI at h
 obtain ⟨cs,h,hcs⟩:=cellsK_spec h
 obtain ⟨ps,h,hps⟩:=frzL_spec h
 split at h
 case h_2=>exact h.elim
 rename_i hone
 refine ⟨_,h,fun lo Lw bs ρ H w t v s rv=>?_⟩
 have rl:=hps ρ H _ (hcs ρ H v rv)
 have h1:=RepL.one (fun c hc=>(List.all_eq_true.1 hone) c hc) rl
 have hno:∀ o,H w.heap.size o = none:=fun o=>by
  cases hx:H w.heap.size o with
  | none=>rfl
  | some x=>exact absurd (s.sath.lt hx) (Nat.lt_irrefl _)
 let H':(PH Lw):=fun b o=>if b = w.heap.size then v.cells.toList[o]? else H b o
 have hle:PH.le H H':=fun b o u hu=>by
  show (if b = w.heap.size then _ else _) = _
  rw [if_neg (fun e=>by subst e; rw [hno o] at hu; cases hu)]
  exact hu
 have hnew:∀ o u,v.cells.toList[o]? = some u → H' w.heap.size o = some u:=fun o u hu=>by
  show (if w.heap.size = w.heap.size then _ else _) = _
  rw [if_pos rfl]; exact hu
 have calm:Calm H w H' (w.alloc (.cells v.cells t)):=by
  refine ⟨hle,⟨fun b o u hu=>?_,s.sath.root.mono hle,by have:=s.sath.low; simp; omega,fun b o u hu hL=>by
   have hu2:(if b = w.heap.size then v.cells.toList[o]? else H b o) = some u:=hu
   split at hu2
   ·rename_i e1; subst e1; exact .of (heap_alloc_new w _)
   ·exact (satH_alloc s.sath _).nf b o u hu2 hL⟩,?_,fun b o u hu=>?_⟩
  ·have hu2:(if b = w.heap.size then v.cells.toList[o]? else H b o) = some u:=hu
   clear hu
   split at hu2
   ·rename_i e
    subst e
    refine ⟨?_,h1 u (List.mem_of_getElem? hu2)⟩
    rw [cell_of_row _ _ _ v.cells t _ (heap_alloc_new w _)]
    simpa using hu2
   ·exact (satH_alloc s.sath _).cell b o u hu2
  ·have:=keep_alloc w (.cells v.cells t) w.heap.size
   exact ⟨this.os,this.tape,this.output,this.size,fun k hk _=>this.block k hk (fun e=>by omega)⟩
  ·have hu:(if b = w.heap.size then v.cells.toList[o]? else H b o) = some u:=hu
   split at hu
   ·rename_i e; exact .inr (by omega)
   ·exact .inl ⟨u,hu⟩
 refine ⟨.pointer (some ⟨w.heap.size,0,none⟩),w.alloc (.cells v.cells t),?_,ρ,H',List.prefix_refl _,hle,s.calm calm,?_⟩
 ·simp only [Instr.box,Sem.run_bind,run_newVar,Result.andThen_ok,Sem.run_pure]
 ·exact ⟨w.heap.size,0,_,rfl,RepL.mono hle rl,fun j u hu=>by rw [Nat.zero_add]; exact hnew j u hu⟩
end
end Ax
namespace Ax
open Go
section
variable {P:Program} {w:World}
def kBuildP (P:Program) (E:Env) (lo:List AObj) (t:TypeId) (n:Nat) (parts:List (Nat × Operand)) (R:FV → List AObj → Prop):Prop :=
 elemK P t fun e z=>match Nat.beq n 1 with
  | true=>match Nat.beq z 1 with
   | true=>match P.info? e with
    | some i=>match i.zero with
     | some zv=>match Nat.beq zv.cells.size 1 with
      | true=>match parts with
       | [(0,x)]=>evS E none x fun v=>match v with
        | .ptr k 0=>lenK lo 0 fun m=>snocK lo (.box e [.ptr k 0]) fun lo=>R (.bsl m 0 1 1) lo
        | _=>False
       | _=>False
      | false=>False
     | none=>False
    | none=>False
   | false=>False
  | false=>False
theorem kBuildP_spec {E:Env} {lo:List AObj} {t:TypeId} {n:Nat} {parts:List (Nat × Operand)} {R:FV → List AObj → Prop} (h:kBuildP P E lo t n parts R) :
  ∃ fv lo',R fv lo' ∧ EffRel true lo lo' ∧ ∀ ⦃Lw:Nat⦄ (bs:(Base Lw)) (ρ:List Value) (H:(PH Lw)) (w:World) (eval:Operand → Value),SatW bs ρ H lo w → (∀ x ∈ parts.map (·.2),RepF ρ H (evF (lookD E) x) (eval x)) →
   ∃ v w',(Instr.buildSlice t n (parts.map fun (i,x)=>(i,eval x)).toArray).run P w = .ok v w' ∧ After bs ρ H fv lo' v w':=by
 unfold kBuildP at h
 have h0:=elemK_spec h; clear h; obtain ⟨e,i,hu,hi,h⟩:=h0
 split at h
 case h_2=>exact h.elim
 rename_i hn
 split at h
 case h_2=>exact h.elim
 rename_i hsz
 rw [hi] at h
 simp only at h
 split at h
 case h_2=>exact h.elim
 rename_i zv hzv
 split at h
 case h_2=>exact h.elim
 rename_i hzc
 split at h
 case h_2=>exact h.elim
 rename_i x
 have h0:=evS_spec h; clear h; obtain ⟨v0,h,hv0⟩:=h0
 split at h
 case h_2=>exact h.elim
 rename_i k
 have h:=lenK_spec h
 have h:=snocK_spec h
 have hn:n = 1:=Nat.eq_of_beq_eq_true hn
 have hsz:i.size = 1:=Nat.eq_of_beq_eq_true hsz
 have hzc:zv.cells.size = 1:=Nat.eq_of_beq_eq_true hzc
 subst hn
 refine ⟨_,_,h,EffRel.push _,fun Lw bs ρ H w eval s hx=>?_⟩
 obtain ⟨b,hb,he⟩:=hv0 ρ H _ trivial (hx x (by simp))
 have rc:RepFL ρ H [FV.ptr k 0] [Value.pointer (some ⟨b,0,none⟩)]:=⟨_,[],rfl,⟨b,hb,rfl⟩,rfl⟩
 have hp:=s.pushBox (t:=e) rc
 refine ⟨.slice (some ⟨w.heap.size,0,none⟩) 1 1,w.alloc (.cells #[Value.pointer (some ⟨b,0,none⟩)] e),?_,_,H,List.prefix_append _ _,PH.le.refl H,hp,?_⟩
 ·have key:∀ (arr:Array Value) (v:Value),arr.size = 1 → v.cells = #[v] → Instr.fill (fun i=>some (i * 1,1)) arr [(0,v)] = some #[v]:=by
   intro arr v ha hv
   obtain ⟨a,rfl⟩:∃ a,arr = #[a]:=by
    cases arr with
    | mk l =>
     match l,ha with
     | [a],_=>exact ⟨a,rfl⟩
   simp [Instr.fill,hv]
  have hf:=key ((Array.range (1 * 1)).map (zv.cells[· % zv.cells.size]!)) (.pointer (some ⟨b,0,none⟩)) (by simp) rfl
  simp only [Instr.buildSlice,Sem.run_bind,run_underlying hu,Result.andThen_ok,Go.sizeOf,typeInfo,run_program,hi,Sem.run_pure,hsz]
  simp only [show ¬ (1 * 1 > 2 ^ 24) by decide,if_false,show ¬ (1 * 1 = 0) by decide,Sem.run_bind,zeroValue,typeInfo,run_program,hi,hzv,Result.andThen_ok,Sem.run_pure,List.map_cons,List.map_nil,he]
  rw [hf]
  simp [newRow]
 ·exact ⟨w.heap.size,by simp [← s.hlen],1,rfl,.inr rfl⟩
def kAppendP (P:Program) (t:TypeId) (lo:List AObj) (x:FV) (R:FV → List AObj → Prop):Prop :=
 match x with
 | .bsl k 0 1 _=>elemK P t fun e z=>match Nat.beq z 1 with
  | true=>match P.info? e with
   | some i=>match i.zero with
    | some zv=>match Nat.beq zv.cells.size 1 with
     | true=>match Nat.ble i.bytes 140737488355328 with
      | true=>nthK k lo fun o=>match o with
       | .box _ [.ptr j 0]=>lenK lo 0 fun m=>snocK lo (.pbx e (.ptr j 0)) fun lo=>R (.bsl m 0 1 0) lo
       | _=>False
      | false=>False
     | false=>False
    | none=>False
   | none=>False
  | false=>False
 | _=>False
theorem kAppendP_spec {t:TypeId} {lo:List AObj} {x:FV} {R:FV → List AObj → Prop} (h:kAppendP P t lo x R) :
  ∃ fv lo',R fv lo' ∧ EffRel true lo lo' ∧ ∀ ⦃Lw:Nat⦄ (bs:(Base Lw)) (ρ:List Value) (H:(PH Lw)) (w:World) (ty:TypeId) (vx:Value),SatW bs ρ H lo w → RepF ρ H x vx →
   ∃ v w',(Builtin.append_ #[t,t] ty #[.slice none 0 0,vx]).run P w = .ok v w' ∧ After bs ρ H fv lo' v w':=by
 unfold kAppendP at h
 split at h
 case h_2=>exact h.elim
 rename_i k cp
 have h0:=elemK_spec h; clear h; obtain ⟨e,i,hu,hi,h⟩:=h0
 split at h
 case h_2=>exact h.elim
 rename_i hsz
 rw [hi] at h
 simp only at h
 split at h
 case h_2=>exact h.elim
 rename_i zv hzv
 split at h
 case h_2=>exact h.elim
 rename_i hzc
 split at h
 case h_2=>exact h.elim
 rename_i hby
 have h0:=nthK_spec h; clear h; obtain ⟨o,ho,h⟩:=h0
 split at h
 case h_2=>exact h.elim
 rename_i bt j
 have h:=lenK_spec h
 have h:=snocK_spec h
 have hsz:i.size = 1:=Nat.eq_of_beq_eq_true hsz
 have hzc:zv.cells.size = 1:=Nat.eq_of_beq_eq_true hzc
 have hby:=Nat.le_of_ble_eq_true hby
 refine ⟨_,_,h,EffRel.push _,fun Lw bs ρ H w ty vx s rx=>?_⟩
 obtain ⟨b,hb,c,rfl,_⟩:=rx
 obtain ⟨b',vs,e1,hg,rc,hh⟩:=s.objs k _ _ ho hb
 cases e1
 obtain ⟨u,us,rfl,ru,e2⟩:=rc
 have e2:us = []:=e2
 subst e2
 obtain ⟨bj,hbj,rfl⟩:=ru
 have hr:=run_append_nil (P:=P) w t ty e i zv hu hi hzv ⟨b,0,none⟩ 1 c [Value.pointer (some ⟨bj,0,none⟩)] (by simp [hsz]) (fun q u hu=>by
  have:=cells_of_row hg 0 q u (by simpa using hu)
  rw [Addr.add_lit]
  simpa using this) (by omega) (by omega) (by omega)
 refine ⟨_,_,hr,ρ ++ [.pointer (some ⟨w.heap.size,0,none⟩)],H,List.prefix_append _ _,PH.le.refl H,?_,?_⟩
 ·refine s.push (g:=w.heap.size) (.inl rfl) (s.fresh (Nat.le_refl _)) (.inr s.keep.size) (PH.le.refl H) (s.sath.block (keep_drew_alloc w _ w.heap.size).size fun b o v hv=>?_) (fun b o v h=>.inl ⟨v,h⟩) (keep_drew_alloc w _ _) ?_
  ·exact (keep_drew_alloc w _ w.heap.size).block b (s.sath.lt hv) (fun e=>absurd (s.sath.lt hv) (by omega))
  ·refine ⟨w.heap.size,.pointer (some ⟨bj,0,none⟩),(Builtin.zeroCells zv.cells (grownCap w 1 0 e - 1)).toList,rfl,?_,⟨bj,by rw [List.getElem?_append_left (List.getElem?_eq_some_iff.1 hbj).1]; exact hbj,rfl⟩,fun o=>?_⟩
   ·refine (heap_alloc_new w.drew _).trans ?_
    congr 2
    apply Array.toList_inj.1
    simp
   ·cases hx:H w.heap.size o with
    | none=>rfl
    | some x=>exact absurd (s.sath.lt hx) (Nat.lt_irrefl _)
 ·exact ⟨w.heap.size,by simp [← s.hlen],_,rfl,.inl rfl⟩
def kBuildVP (P:Program) (p g:Bool) (E:Env) (lo:List AObj) (t:TypeId) (n:Nat) (parts:List (Nat × Operand)) (R:FV → List AObj → Prop):Prop :=
 match p with
 | true=>kBuildP P E lo t n parts R
 | false=>kBuildVG P g E lo t n parts R
theorem kBuildVP_spec {p gr:Bool} {E:Env} {lo:List AObj} {t:TypeId} {n:Nat} {parts:List (Nat × Operand)} {R:FV → List AObj → Prop} (h:kBuildVP P p gr E lo t n parts R) :
  ∃ fv lo',R fv lo' ∧ EffRel true lo lo' ∧ ∀ ⦃Lw:Nat⦄ (bs:(Base Lw)) (ρ:List Value) (H:(PH Lw)) (w:World) (eval:Operand → Value),SatW bs ρ H lo w → (∀ x ∈ parts.map (·.2),RepF ρ H (evF (lookD E) x) (eval x)) →
   ∃ v w',(Instr.buildSlice t n (parts.map fun (i,x)=>(i,eval x)).toArray).run P w = .ok v w' ∧ After bs ρ H fv lo' v w':=by
 cases p with
 | true=>exact kBuildP_spec h
 | false=>exact kBuildVG_spec h
def kMore (P:Program) (inl:List Nat) (d:Option Tmp) (op:Op) (E:Env) (lo:List AObj) (no:Prop) (R:FV → List AObj → Prop):Prop :=
 match op with
 | .makeSlice t l c=>evS E none l fun l=>evS E none c fun c=>kMakeS P (ownB inl d) (growB inl d) lo t l c R
 | .call { callee:=.builtin .copy,args:=⟨[x,y]⟩,argTypes:=⟨[t,_]⟩ }=>evS E none x fun x=>evS E none y fun y=>kCopyV P lo t x y R
 | .box _ x=>match ownB inl d with
  | true=>evS E none x fun x=>kBoxI x fun v=>R v lo
  | false=>no
 | .call { callee:=.builtin .append,args:=⟨[s,x]⟩,argTypes:=⟨[t,t']⟩ }=>ev E x fun v=>match v with
  | .bsl k o n c=>match Nat.beq t t' with
   | true=>evS E none s fun s=>match s with
    | .p .nilsl=>kAppendP P t lo (.bsl k o n c) R
    | _=>False
   | false=>False
  | _=>no
 | _=>no
theorem kMore_spec {inl:List Nat} {d:Option Tmp} {op:Op} {E:Env} {lo:List AObj} {no:Prop} {R:FV → List AObj → Prop} (h:kMore P inl d op E lo no R) :
  no ∨ ∃ fv lo',R fv lo' ∧ isEff op = true ∧ (∀ (o:Oper) (inl:List Nat),o.op = op → isEffI inl o = true ∧ storeB inl o = false) ∧ EffRel (mildO op) lo lo' ∧ ∀ o:Oper,o.op = op → StepSem P o (lookD E) lo none fv lo':=by
 unfold kMore at h
 split at h
 ·rename_i t l c
  have h0:=evS_spec h; clear h; obtain ⟨l',h,hl⟩:=h0
  have h0:=evS_spec h; clear h; obtain ⟨c',h,hc⟩:=h0
  have h0:=kMakeS_spec h; clear h; obtain ⟨fv,lo',h,hr,hs⟩:=h0
  refine .inr ⟨fv,lo',h,rfl,fun o inl e=>⟨by simp [isEffI,e,isEff],by simp [storeB,e]⟩,hr,fun o e _ Lw bs ρ H w eval s hx=>?_⟩
  rw [e] at hx
  obtain ⟨v,w',hr,af⟩:=hs bs ρ H w _ _ s (hl ρ H _ trivial (hx l (by simp [Op.operands]))) (hc ρ H _ trivial (hx c (by simp [Op.operands])))
  simp only [execOp,e,Sem.run_bind,hr,Result.andThen_ok,Sem.run_pure]
  exact af
 ·rename_i x y t t'
  have h0:=evS_spec h; clear h; obtain ⟨x',h,hx0⟩:=h0
  have h0:=evS_spec h; clear h; obtain ⟨y',h,hy0⟩:=h0
  have h0:=kCopyV_spec h; clear h; obtain ⟨fv,lo',h,hr,hs⟩:=h0
  refine .inr ⟨fv,lo',h,rfl,fun o inl e=>⟨by simp [isEffI,e,isEff],by simp [storeB,e]⟩,hr,fun o e _ Lw bs ρ H w eval s hx=>?_⟩
  rw [e] at hx
  obtain ⟨v,w',hr,af⟩:=hs bs ρ H w t' o.type _ _ s (hx0 ρ H _ trivial (hx x (by simp [Op.operands,Call.operands]))) (hy0 ρ H _ trivial (hx y (by simp [Op.operands,Call.operands])))
  simp only [execOp,e,resolve,invoke,builtin,Sem.run_bind,Sem.run_pure,Result.andThen_ok,List.map_toArray,List.map_cons,List.map_nil,hr]
  exact af
 ·rename_i t x
  split at h
  ·have h0:=evS_spec h; clear h; obtain ⟨x',h,hx0⟩:=h0
   have h0:=kBoxI_spec (P:=P) h; clear h; obtain ⟨fv,h,hs⟩:=h0
   refine .inr ⟨fv,lo,h,rfl,fun o inl e=>⟨by simp [isEffI,e,isEff],by simp [storeB,e]⟩,EffRel.refl _,fun o e _ Lw bs ρ H w eval s hx=>?_⟩
   rw [e] at hx
   obtain ⟨v,w',hr,af⟩:=hs lo bs ρ H w t _ s (hx0 ρ H _ trivial (hx x (by simp [Op.operands])))
   simp only [execOp,e,Sem.run_bind,hr,Result.andThen_ok,Sem.run_pure]
   exact af
  ·exact .inl h
 ·rename_i s0 x t t'
  rw [ev_eq] at h
  split at h
  ·rename_i k o n c hk
   split at h
   ·rename_i htt
    have htt:=Nat.eq_of_beq_eq_true htt
    subst htt
    have h0:=evS_spec h; clear h; obtain ⟨s',h,hs0⟩:=h0
    split at h
    ·have h0:=kAppendP_spec h; clear h; obtain ⟨fv,lo',h,hr,hs⟩:=h0
     refine .inr ⟨fv,lo',h,rfl,fun o inl e=>⟨by simp [isEffI,e,isEff],by simp [storeB,e]⟩,hr,fun o e _ Lw bs ρ H w eval s hx=>?_⟩
     rw [e] at hx
     have r1:=hs0 ρ H _ trivial (hx s0 (by simp [Op.operands,Call.operands]))
     have r2:=hx x (by simp [Op.operands,Call.operands])
     rw [hk] at r2
     simp only [RepF,RepP] at r1
     obtain ⟨v,w',hr,af⟩:=hs bs ρ H w o.type _ s r2
     simp only [execOp,e,resolve,invoke,builtin,Sem.run_bind,Sem.run_pure,Result.andThen_ok,List.map_toArray,List.map_cons,List.map_nil,r1,hr]
     exact af
    ·exact h.elim
   ·exact h.elim
  ·exact .inl h
 ·exact .inl h
end
end Ax
end
section
namespace Ax
open Go
variable {Lw:Nat}
def upd (e:Nat → FV) (d:Option Tmp) (v:FV):Nat → FV :=
 match d with
 | none=>e
 | some d=>fun t=>if t = d then v else e t
theorem lookD_cons (d:Tmp) (v:FV) (E:Env):lookD ((d,v) :: E) = upd (lookD E) (some d) v:=by
 funext t
 simp only [lookD,upd]
 by_cases h:t = d
 ·subst h; simp [Nat.beq_refl]
 ·have:Nat.beq t d = false:=by
   cases hb:Nat.beq t d with
   | false=>rfl
   | true=>exact absurd (Nat.eq_of_beq_eq_true hb) h
  simp [this,h]
def GuardOk (ops:Array Oper) (o:Oper) (e:Nat → FV) (g:G):Prop :=
 match o.guard with
 | none=>g = none
 | some (j,want)=>∃ oj d b,ops[j]? = some oj ∧ oj.dst = some d ∧
   ((e d = .p (.bool b) ∧ g = some (match want with | true=>b | false=>!b)) ∨
    ∃ g',e d = .opt g' (.p (.bool b)) ∧ g = some (match want with | true=>g' && b | false=>g' && !b))
def LoadOk (P:Program) (sl:List Nat) (m:Bool) (n0:Nat) (o:Oper) (e:Nat → FV) (lo:List AObj) (g:G) (fv:FV):Prop :=
 StepSem P o e lo g fv lo ∧ (m = true → strictB sl o = false → ∃ kk:Option (Nat × AObj),(∀ k ob,kk = some (k,ob) → prot sl n0 k = true ∧ ob.boxy = true ∧ lo[k]? = some ob) ∧ ∀ lo2,(∀ k ob,kk = some (k,ob) → lo2[k]? = some ob) → StepSem P o e lo2 g fv lo2)
def EffOk (sl:List Nat) (m:Bool) (n0:Nat) (o:Oper) (lo lo':List AObj):Prop :=
 m = true → n0 ≤ lo.length → n0 ≤ lo'.length ∧ (mildI sl o = true → ∀ k ob,prot sl n0 k = true → ob.boxy = true → (lo[k]? = some ob ↔ lo'[k]? = some ob))
theorem prot_lt {sl:List Nat} {n0 k:Nat} (h:prot sl n0 k = true):k < n0 ∧ memB sl (60000000 + 1000 * n0 + k) = false:=by
 unfold prot at h
 split at h
 ·rename_i hb
  split at h
  ·cases h
  ·rename_i hm; exact ⟨Nat.le_of_ble_eq_true hb,hm⟩
 ·cases h
theorem EffRel.ok {sl:List Nat} {m:Bool} {n0:Nat} {o:Oper} {lo lo':List AObj} (hst:m = true → storeB sl o = false) (h:EffRel (mildO o.op) lo lo'):EffOk sl m n0 o lo lo':=fun hmm hn=>⟨Nat.le_trans hn h.1,fun hm k ob hk hb=>by
 simp only [mildI,hst hmm,Bool.or_false] at hm
 exact h.2 hm k ob (Nat.lt_of_lt_of_le (prot_lt hk).1 hn) hb⟩
def AStep (P:Program) (inl sl:List Nat) (m:Bool) (n0 N:Nat) (ops:Array Oper) (o:Oper) (e:Nat → FV) (lo:List AObj) (e':Nat → FV) (lo':List AObj):Prop :=
 ∃ g fv,GuardOk ops o e g ∧ (∀ d,o.dst = some d → d < N) ∧ e' = upd e o.dst (wrapF g fv) ∧
  ((isEffI inl o = true ∧ g = none ∧ StepSem P o e lo none fv lo' ∧ EffOk sl m n0 o lo lo') ∨
   (isEffI inl o = false ∧ isLoad o.op = true ∧ lo' = lo ∧ LoadOk P sl m n0 o e lo g fv) ∨
   (isEffI inl o = false ∧ isLoad o.op = false ∧ lo' = lo ∧ ∀ lo,StepSem P o e lo g fv lo))
theorem isEffI_nil (o:Oper):isEffI [] o = isEff o.op:=by
 unfold isEffI
 split
 ·rename_i h; simp [h,memB,isEff]
 ·rename_i h; simp [h,cloB,memB,isEff]
 ·rename_i h
  simp only [h,ownB,isEff]
  split <;> simp [memB]
 ·rename_i h
  simp only [h,ownB,isEff]
  split <;> simp [memB]
 ·rfl
theorem guardK_spec {ops:List Oper} {o:Oper} {E:Env} {R:G → Prop} (h:guardK ops o E R):∃ g,GuardOk ops.toArray o (lookD E) g ∧ R g:=by
 unfold guardK at h
 unfold GuardOk
 split at h
 ·rename_i hg
  exact ⟨none,by simp [hg],h⟩
 ·rename_i j want hg
  obtain ⟨oj,hoj,h⟩:=nthK_spec h
  split at h
  ·rename_i d hd
   rw [look_eq] at h
   split at h
   ·rename_i b he
    cases want with
    | true=>exact ⟨_,by simp only [hg]; exact ⟨oj,d,b,by simpa using hoj,hd,.inl ⟨he,rfl⟩⟩,h⟩
    | false=>exact ⟨_,by simp only [hg]; exact ⟨oj,d,b,by simpa using hoj,hd,.inl ⟨he,rfl⟩⟩,h⟩
   ·rename_i g' b he
    cases want with
    | true=>exact ⟨_,by simp only [hg]; exact ⟨oj,d,b,by simpa using hoj,hd,.inr ⟨g',he,rfl⟩⟩,h⟩
    | false=>exact ⟨_,by simp only [hg]; exact ⟨oj,d,b,by simpa using hoj,hd,.inr ⟨g',he,rfl⟩⟩,h⟩
   ·exact h.elim
  ·exact h.elim
theorem putK_spec {N:Nat} {d:Option Tmp} {v:FV} {E:Env} {R:Env → Prop} (h:putK N d v E R) :
  (∀ t,d = some t → t < N) ∧ ∃ E',lookD E' = upd (lookD E) d v ∧ R E':=by
 unfold putK at h
 split at h
 ·rename_i t
  split at h
  ·rename_i hb
   rw [forceF_eq] at h
   refine ⟨fun t' ht=>?_,_,lookD_cons t v E,h⟩
   cases ht
   exact Nat.le_of_ble_eq_true hb
  ·exact h.elim
 ·exact ⟨fun t ht=>(by cases ht),E,rfl,h⟩
theorem kLook_sound {P:Program} {o:Oper} {t:TypeId} {x i:Operand} {ok:Bool} (ho:o.op = .lookup t x i ok) {E:Env} {g:G} {lo:List AObj} {x' i':FV} (hx':Str g (evF (lookD E) x) x') (hi':Str g (evF (lookD E) i) i') {R:FV → Prop} (h:kLookup P g t lo x' i' ok R) :
  ∃ fv,R fv ∧ StepSem P o (lookD E) lo g fv lo:=by
 obtain ⟨fv,h,_,hs⟩:=kLookup_spec h
 refine ⟨_,h,fun hg Lw bs ρ H w eval s hx=>?_⟩
 obtain ⟨v,hr,rv⟩:=hs hg bs ρ H w _ _ s (hx' ρ H _ hg (hx x (by simp [ho,Op.operands]))) (hi' ρ H _ hg (hx i (by simp [ho,Op.operands])))
 simp only [execOp,ho]
 exact upon_value s hr rv
theorem vcOp_spec {P:Program} {N:Nat} {all:List Oper} {o:Oper} {E:Env} {lo:List AObj} {R:Env → List AObj → Prop} (h:vcOp P N all o E lo R) :
  ∃ E' lo',AStep P [] [] false 0 N all.toArray o (lookD E) lo (lookD E') lo' ∧ R E' lo':=by
 unfold vcOp at h
 unfold AStep
 simp only [isEffI_nil]
 obtain ⟨g,hg,h⟩:=guardK_spec h
 split at h
 ·rename_i hl
  have he:isEff o.op = false:=by
   cases hop:o.op <;> simp [hop,isLoad] at hl <;> rfl
  have fin:∀ {fv:FV},StepSem P o (lookD E) lo g fv lo → LoadOk P [] false 0 o (lookD E) lo g fv:=fun h=>⟨h,fun h=>by cases h⟩
  split at h
  ·rename_i t x ho
   obtain ⟨fv,h,hs⟩:=kLoad_sound ho h
   obtain ⟨hd,E',hE,h⟩:=putK_spec h
   exact ⟨E',lo,⟨g,fv,hg,hd,hE,.inr (.inl ⟨he,hl,rfl,fin hs⟩)⟩,h⟩
  ·rename_i sr d x ho
   obtain ⟨fv,h,hs⟩:=kConv_sound ho h
   obtain ⟨hd,E',hE,h⟩:=putK_spec h
   exact ⟨E',lo,⟨g,fv,hg,hd,hE,.inr (.inl ⟨he,hl,rfl,fin hs⟩)⟩,h⟩
  ·rename_i t x i ok ho
   obtain ⟨x',h,hx'⟩:=evS_spec h
   obtain ⟨i',h,hi'⟩:=evS_spec h
   obtain ⟨fv,h,hs⟩:=kLook_sound ho hx' hi' h
   obtain ⟨hd,E',hE,h⟩:=putK_spec h
   exact ⟨E',lo,⟨g,fv,hg,hd,hE,.inr (.inl ⟨he,hl,rfl,fin hs⟩)⟩,h⟩
  ·exact h.elim
 ·rename_i hl
  split at h
  ·rename_i he
   split at h
   ·obtain ⟨fv,lo',h,hr,hs⟩:=kEff_sound h
    obtain ⟨hd,E',hE,h⟩:=putK_spec h
    exact ⟨E',lo',⟨none,fv,hg,hd,hE,.inl ⟨he,rfl,hs,hr.ok (fun h=>by cases h)⟩⟩,h⟩
   ·exact h.elim
  ·rename_i he
   obtain ⟨fv,h,hs⟩:=kPure_sound h
   obtain ⟨hd,E',hE,h⟩:=putK_spec h
   exact ⟨E',lo,⟨g,fv,hg,hd,hE,.inr (.inr ⟨he,hl,rfl,hs⟩)⟩,h⟩
def kLoadM (P:Program) (sl:List Nat) (t:TypeId) (lo:List AObj) (n0:Nat) (x:FV) (R:FV → Prop):Prop :=
 match x with
 | .ptr k off=>match prot sl n0 k with
  | true=>kLoad P t lo (.ptr k off) R
  | false=>False
 | .hptr row=>kLoad P t [] (.hptr row) R
 | _=>False
def kLookupM (P:Program) (sl:List Nat) (g:G) (t:TypeId) (lo:List AObj) (n0:Nat) (x key:FV) (ok:Bool) (R:FV → Prop):Prop :=
 match x with
 | .mref k=>match prot sl n0 k with
  | true=>kLookup P g t lo (.mref k) key ok R
  | false=>False
 | _=>False
def kConvM (P:Program) (g:G) (src dst:TypeId) (x:FV) (R:FV → Prop):Prop :=
 match x with
 | .p p=>kBytes P g src dst [] (.p p) R
 | .tsl k rows=>kBytes P g src dst [] (.tsl k rows) R
 | _=>False
def vcOpM (P:Program) (sl:List Nat) (n0 N:Nat) (all:List Oper) (o:Oper) (E:Env) (lo:List AObj) (R:Env → List AObj → Prop):Prop :=
 guardK all o E fun g =>
  match isLoad o.op with
  | true=>match o.op with
   | .load t x=>evS E g x fun x=>kLoadM P sl t lo n0 x fun v=>putK N o.dst (wrapF g v) E fun E=>R E lo
   | .convert s d x=>evS E g x fun x=>kConvM P g s d x fun v=>putK N o.dst (wrapF g v) E fun E=>R E lo
   | .lookup t x i ok=>evS E g x fun x=>evS E g i fun i=>kLookupM P sl g t lo n0 x i ok fun v=>putK N o.dst (wrapF g v) E fun E=>R E lo
   | _=>False
  | false=>match isEff o.op with
   | true=>match g with
    | none=>kEff P o.op E lo fun v lo=>putK N o.dst v E fun E=>R E lo
    | some _=>False
   | false=>kPure P o.op E g fun v=>putK N o.dst (wrapF g v) E fun E=>R E lo
theorem nthK_intro {α:Type}:∀ {n:Nat} {l:List α} {a:α} {R:α → Prop},l[n]? = some a → R a → nthK n l R
 | 0,[],a,R,h,_=>by simp at h
 | 0,b :: l,a,R,h,hr=>by simp at h; subst h; exact hr
 | n + 1,[],a,R,h,_=>by simp at h
 | n + 1,b :: l,a,R,h,hr=>nthK_intro (n:=n) (l:=l) (by simpa using h) hr
theorem frz0_fix {v:FV} {R:PV → Prop} (h:frz0 v R):∃ p,R p ∧ ∀ R':PV → Prop,R' p → frz0 v R':=by
 unfold frz0 at h
 split at h
 ·exact ⟨_,h,fun R' h'=>h'⟩
 ·exact ⟨_,h,fun R' h'=>h'⟩
 ·exact ⟨_,h,fun R' h'=>h'⟩
 ·exact h.elim
theorem capsK_fix:∀ {c:FV} {R:List PV → Prop},capsK c R → ∃ p,R p ∧ ∀ R':List PV → Prop,R' p → capsK c R':=by
 intro c
 induction c with
 | cap0=>intro R h; exact ⟨_,h,fun R' h'=>h'⟩
 | cap a b _ ihb =>
  intro R h
  simp only [capsK] at h
  obtain ⟨p,h,hp⟩:=frz0_fix h
  obtain ⟨ps,h,hps⟩:=ihb h
  exact ⟨_,h,fun R' h'=>by simp only [capsK]; exact hp _ (hps _ h')⟩
 | _=>intro R h; simp [capsK] at h
theorem frzK_fix {v:FV} {R:PV → Prop} (h:frzK v R):∃ p,R p ∧ ∀ R':PV → Prop,R' p → frzK v R':=by
 unfold frzK at h
 split at h
 ·exact ⟨_,h,fun R' h'=>h'⟩
 ·exact ⟨_,h,fun R' h'=>h'⟩
 ·exact ⟨_,h,fun R' h'=>h'⟩
 ·obtain ⟨ps,h,hps⟩:=capsK_fix h
  exact ⟨_,h,fun R' h'=>hps _ h'⟩
 ·obtain ⟨ps,h,hps⟩:=capsK_fix h
  exact ⟨_,h,fun R' h'=>hps _ h'⟩
 ·exact h.elim
theorem kLoad_fix {P:Program} {t:TypeId} {lo:List AObj} {k off:Nat} {R:FV → Prop} (h:kLoad P t lo (.ptr k off) R) :
  ∃ fv ob,R fv ∧ lo[k]? = some ob ∧ ob.boxy = true ∧ ∀ lo2:List AObj,lo2[k]? = some ob → kLoad P t lo2 (.ptr k off) (fun v=>v = fv):=by
 unfold kLoad at h
 obtain ⟨ob,hob,h⟩:=nthK_spec h
 split at h
 ·rename_i bt cells
  obtain ⟨h,hoff⟩:=dropK_spec h
  obtain ⟨d,i,hd,hi,h⟩:=typeK_spec h
  have dropI:∀ {n:Nat} {l:List FV} {R:List FV → Prop},n ≤ l.length → R (l.drop n) → dropK n l R:=by
   intro n
   induction n with
   | zero=>intro l R _ h; simpa [dropK] using h
   | succ n ih =>
    intro l R hl h
    cases l with
    | nil=>simp at hl
    | cons a l=>exact ih (by simpa using hl) (by simpa using h)
  have takeI:∀ {n:Nat} {l:List FV} {R:List FV → Prop},n ≤ l.length → R (l.take n) → takeK n l R:=by
   intro n
   induction n with
   | zero=>intro l R _ h; simpa [takeK] using h
   | succ n ih =>
    intro l R hl h
    cases l with
    | nil=>simp at hl
    | cons a l=>exact ih (l:=l) (R:=fun l=>R (a :: l)) (by simpa using hl) (by simpa using h)
  have frzI:∀ {l:List FV} {R:List PV → Prop},frzL l R → ∃ ps,R ps ∧ ∀ R',R' ps → frzL l R':=by
   intro l
   induction l with
   | nil=>intro R h; exact ⟨[],h,fun R' h=>h⟩
   | cons v l ih =>
    intro R h
    simp only [frzL] at h
    obtain ⟨p,h,hp0⟩:=frzK_fix h
    obtain ⟨ps,h,hp⟩:=ih h
    exact ⟨_,h,fun R' h'=>by simp only [frzL]; exact hp0 _ (hp _ h')⟩
  have typeI:∀ {R:Bool → Nat → Prop},R (aggD d) i.size → typeK P t R:=by
   intro R h
   unfold typeK
   simp only [hd,hi]
   exact h
  split at h
  ·rename_i hagg
   obtain ⟨h,hn⟩:=takeK_spec h
   split at h
   ·rename_i how
    refine ⟨_,_,h,hob,rfl,fun lo2 h2=>?_⟩
    unfold kLoad
    refine nthK_intro h2 (dropI hoff (typeI ?_))
    rw [hagg]
    refine takeI hn ?_
    rw [how]
   ·rename_i how
    obtain ⟨ps,h,hps⟩:=frzI h
    refine ⟨_,_,h,hob,rfl,fun lo2 h2=>?_⟩
    unfold kLoad
    refine nthK_intro h2 (dropI hoff (typeI ?_))
    rw [hagg]
    refine takeI hn ?_
    rw [how]
    exact hps _ rfl
  ·rename_i hagg
   split at h
   ·rename_i c r hc
    refine ⟨_,_,h,hob,rfl,fun lo2 h2=>?_⟩
    unfold kLoad
    refine nthK_intro h2 (dropI hoff (typeI ?_))
    rw [hagg]
    simp only [hc]
   ·exact h.elim
 ·rename_i bt c
  split at h
  ·rename_i ho
   obtain ⟨d,i,hd,hi,h⟩:=typeK_spec h
   split at h
   ·exact h.elim
   ·rename_i hagg
    refine ⟨_,_,h,hob,rfl,fun lo2 h2=>?_⟩
    unfold kLoad
    refine nthK_intro h2 ?_
    simp only [ho]
    unfold typeK
    simp only [hd,hi,hagg]
  ·exact h.elim
 ·exact h.elim
theorem kLookup_fix {P:Program} {g:G} {t:TypeId} {lo:List AObj} {k:Nat} {key:FV} {ok:Bool} {R:FV → Prop} (h:kLookup P g t lo (.mref k) key ok R) :
  ∃ fv ob,R fv ∧ lo[k]? = some ob ∧ ob.boxy = true ∧ ∀ lo2:List AObj,lo2[k]? = some ob → kLookup P g t lo2 (.mref k) key ok (fun v=>v = fv):=by
 cases key <;> simp only [kLookup] at h
 rename_i kp
 obtain ⟨ob,hob,h⟩:=nthK_spec h
 split at h
 ·rename_i d es mk
  have mapI:∀ {R:TypeId → Prop},mapK P t d kp R → ∃ et,R et ∧ ∀ R':TypeId → Prop,R' et → mapK P t d kp R':=by
   intro R h
   unfold mapK at h
   split at h
   ·rename_i kt et ht
    split at h
    ·rename_i d' hd
     have keyI:∀ {R:Prop},keyIs d' d kp R → R ∧ ∀ R':Prop,R' → keyIs d' d kp R':=by
      intro R h
      unfold keyIs at h
      split at h
      ·exact ⟨h,fun R' h'=>h'⟩
      ·exact ⟨h,fun R' h'=>h'⟩
      ·split at h
       ·rename_i h1
        split at h
        ·rename_i h2
         refine ⟨h,fun R' h'=>?_⟩
         simp only [keyIs,h1,h2]
         exact h'
        ·exact h.elim
       ·exact h.elim
      ·exact h.elim
     obtain ⟨h,hk⟩:=keyI h
     refine ⟨et,h,fun R' h'=>?_⟩
     unfold mapK
     simp only [ht,hd]
     exact hk _ h'
    ·exact h.elim
   ·exact h.elim
  have zeroI:∀ {et:TypeId} {R:PV → Prop},zeroP P et R → ∃ z,R z ∧ ∀ R':PV → Prop,R' z → zeroP P et R':=by
   intro et R h
   have vsI:∀ {vs:List Value} {R:List PV → Prop},ofVs vs R → ∃ ps,R ps ∧ ∀ R':List PV → Prop,R' ps → ofVs vs R':=by
    intro vs
    induction vs with
    | nil=>intro R h; exact ⟨[],h,fun R' h=>h⟩
    | cons v vs ih =>
     intro R h
     simp only [ofVs] at h
     split at h
     ·rename_i p hp
      obtain ⟨ps,h,hps⟩:=ih h
      refine ⟨_,h,fun R' h'=>?_⟩
      simp only [ofVs,hp]
      exact hps _ h'
     ·exact h.elim
   unfold zeroP at h
   split at h
   ·rename_i i hi
    split at h
    ·rename_i vs hz
     obtain ⟨ps,h,hps⟩:=vsI h
     refine ⟨_,h,fun R' h'=>?_⟩
     unfold zeroP
     simp only [hi,hz]
     exact hps _ h'
    ·rename_i v hne hz
     split at h
     ·rename_i p hp
      refine ⟨_,h,fun R' h'=>?_⟩
      unfold zeroP
      simp only [hi,hz,hp]
      exact h'
     ·exact h.elim
    ·exact h.elim
   ·exact h.elim
  obtain ⟨et,h,h1⟩:=mapI h
  obtain ⟨z,h,h2⟩:=zeroI h
  obtain ⟨v,b,hvb,h⟩:=h
  refine ⟨_,_,h,hob,rfl,fun lo2 h3=>?_⟩
  simp only [kLookup]
  exact nthK_intro h3 (h1 _ (h2 _ ⟨v,b,hvb,rfl⟩))
 ·exact h.elim
theorem nthK_mono {α:Type} {R R':α → Prop} (h:∀ a,R a → R' a):∀ {n:Nat} {l:List α},nthK n l R → nthK n l R'
 | 0,[],x=>x
 | 0,a :: _,x=>h a x
 | n + 1,[],x=>x
 | n + 1,_ :: l,x=>nthK_mono h (n:=n) (l:=l) x
theorem setK_mono {α:Type}:∀ {n:Nat} {x:α} {l:List α} {R R':List α → Prop},(∀ a,R a → R' a) → setK n x l R → setK n x l R'
 | 0,x,[],_,_,_,y=>y
 | 0,x,_ :: l,_,_,h,y=>h _ y
 | n + 1,x,[],_,_,_,y=>y
 | n + 1,x,a :: l,R,R',h,y=>setK_mono (n:=n) (x:=x) (l:=l) (R:=fun l=>R (a :: l)) (R':=fun l=>R' (a :: l)) (fun _=>h _) y
theorem setK_fix {α:Type}:∀ {n:Nat} {x:α} {l:List α} {R:List α → Prop},setK n x l R → setK n x l (fun l'=>R l' ∧ l'.length = l.length ∧ ∀ j,j ≠ n → l'[j]? = l[j]?)
 | 0,x,[],_,h=>h
 | 0,x,_ :: l,_,h=>⟨h,by simp,fun j hj=>by cases j with | zero=>exact absurd rfl hj | succ j=>simp⟩
 | n + 1,x,[],_,h=>h
 | n + 1,x,a :: l,R,h=>by
  have h1:setK n x l (fun l=>R (a :: l)):=h
  refine setK_mono (n:=n) (x:=x) (l:=l) (R':=fun l'=>R (a :: l') ∧ (a :: l').length = (a :: l).length ∧ ∀ j,j ≠ n + 1 → (a :: l')[j]? = (a :: l)[j]?) ?_ (setK_fix h1)
  rintro l' ⟨hr,hl,hj⟩
  refine ⟨hr,by simp [hl],fun j hne=>?_⟩
  cases j with
  | zero=>simp
  | succ j=>simpa using hj j (by omega)
theorem overK_mono:∀ {off:Nat} {vs old:List FV} {R R':List FV → Prop},(∀ a,R a → R' a) → overK off vs old R → overK off vs old R'
 | 0,[],old,_,_,h,y=>by cases old <;> exact h _ y
 | 0,v :: vs,[],_,_,_,y=>y
 | 0,v :: vs,_ :: old,R,R',h,y=>overK_mono (off:=0) (vs:=vs) (old:=old) (R:=fun l=>R (v :: l)) (R':=fun l=>R' (v :: l)) (fun _=>h _) y
 | n + 1,vs,[],_,_,_,y=>by cases vs <;> exact y
 | n + 1,vs,a :: old,R,R',h,y=>by
  cases vs with
  | nil=>exact overK_mono (off:=n) (vs:=[]) (old:=old) (R:=fun l=>R (a :: l)) (R':=fun l=>R' (a :: l)) (fun _=>h _) y
  | cons v vs=>exact overK_mono (off:=n) (vs:=v :: vs) (old:=old) (R:=fun l=>R (a :: l)) (R':=fun l=>R' (a :: l)) (fun _=>h _) y
theorem mapP_mono:∀ {cs:List PV} {R R':List FV → Prop},(∀ a,R a → R' a) → mapP cs R → mapP cs R'
 | [],_,_,h,y=>h _ y
 | c :: cs,R,R',h,y=>mapP_mono (cs:=cs) (R:=fun l=>R (.p c :: l)) (R':=fun l=>R' (.p c :: l)) (fun _=>h _) y
theorem chainK_mono:∀ {c:FV} {R R':List FV → Prop},(∀ a,R a → R' a) → chainK c R → chainK c R'
 | .cap0,_,_,h,y=>h _ y
 | .cap a b,R,R',h,y=>chainK_mono (c:=b) (R:=fun l=>R (a :: l)) (R':=fun l=>R' (a :: l)) (fun _=>h _) y
 | .top,_,_,_,y | .p _,_,_,_,y | .opt ..,_,_,_,y | .tsl ..,_,_,_,y | .ptr ..,_,_,_,y | .hptr _,_,_,_,y | .bself _,_,_,_,y | .bsl ..,_,_,_,y | .vsl ..,_,_,_,y | .eptr ..,_,_,_,y | .mref _,_,_,_,y | .pair ..,_,_,_,y | .stmp _,_,_,_,y | .clo ..,_,_,_,y | .fagg _,_,_,_,y | .nxt ..,_,_,_,y=>by simp [chainK] at y
theorem cellsK_mono {v:FV} {R R':List FV → Prop} (h:∀ a,R a → R' a) (y:cellsK v R):cellsK v R':=by
 unfold cellsK at *
 split at y
 ·exact mapP_mono h y
 ·exact chainK_mono h y
 ·split at y
  ·exact h _ y
  ·exact y.elim
theorem lenK_mono {α:Type}:∀ {l:List α} {n:Nat} {R R':Nat → Prop},(∀ a,R a → R' a) → lenK l n R → lenK l n R'
 | [],n,_,_,h,y=>h _ y
 | _ :: l,n,R,R',h,y=>lenK_mono (l:=l) (n:=n + 1) h y
theorem typeK_mono {P:Program} {t:TypeId} {R R':Bool → Nat → Prop} (h:∀ a b,R a b → R' a b) (y:typeK P t R):typeK P t R':=by
 unfold typeK at *
 split at y
 ·split at y
  ·exact h _ _ y
  ·exact y.elim
 ·exact y.elim
theorem kEff_store_fix {P:Program} {t:TypeId} {a x:Operand} {E:Env} {lo:List AObj} {R:FV → List AObj → Prop} {k off:Nat} (ha:evF (lookD E) a = .ptr k off) (h:kEff P (.store t a x) E lo R) :
  kEff P (.store t a x) E lo (fun v lo'=>R v lo' ∧ lo'.length = lo.length ∧ ∀ j,j ≠ k → lo'[j]? = lo[j]?):=by
 simp only [kEff,evS,ev_eq,ha] at h ⊢
 have main:∀ v:FV,(cellsK v fun vs=>match allOne vs with
   | true=>lenK vs 0 fun n=>typeK P t fun _ m=>match Nat.beq n m with
    | true=>nthK k lo fun o=>match o with
     | .box bt cells=>overK off vs cells fun cells=>setK k (.box bt cells) lo fun lo=>R (.p (.tup [])) lo
     | _=>False
    | false=>False
   | false=>False) → (cellsK v fun vs=>match allOne vs with
   | true=>lenK vs 0 fun n=>typeK P t fun _ m=>match Nat.beq n m with
    | true=>nthK k lo fun o=>match o with
     | .box bt cells=>overK off vs cells fun cells=>setK k (.box bt cells) lo fun lo'=>R (.p (.tup [])) lo' ∧ lo'.length = lo.length ∧ ∀ j,j ≠ k → lo'[j]? = lo[j]?
     | _=>False
    | false=>False
   | false=>False):=fun v h=>by
  refine cellsK_mono (fun vs h=>?_) h
  split at h
  ·refine lenK_mono (fun n h=>?_) h
   refine typeK_mono (fun _ m h=>?_) h
   split at h
   ·refine nthK_mono (fun o h=>?_) h
    split at h
    ·refine overK_mono (fun cells h=>?_) h
     exact setK_fix h
    ·exact h.elim
   ·exact h.elim
  ·exact h.elim
 split at h
 ·exact ⟨h.1,main _ h.2⟩
 ·exact main _ h
def kStoreA (P:Program) (sl:List Nat) (n0:Nat) (t:TypeId) (a x:Operand) (E:Env) (lo:List AObj) (R:FV → List AObj → Prop):Prop :=
 ev E a fun v=>match v with
  | .ptr k _=>match memB sl (60000000 + 1000 * n0 + k) with
   | true=>kEff P (.store t a x) E lo R
   | false=>False
  | _=>False
theorem kStoreA_spec {P:Program} {sl:List Nat} {o:Oper} {t:TypeId} {a x:Operand} (ho:o.op = .store t a x) {m:Bool} {n0:Nat} {E:Env} {lo:List AObj} {R:FV → List AObj → Prop} (h:kStoreA P sl n0 t a x E lo R) :
  ∃ fv lo',R fv lo' ∧ EffOk sl m n0 o lo lo' ∧ StepSem P o (lookD E) lo none fv lo':=by
 unfold kStoreA at h
 simp only [ev_eq] at h
 split at h
 ·rename_i k off hv
  split at h
  ·rename_i hk
   have h2:=kEff_store_fix hv h
   rw [← ho] at h2
   obtain ⟨fv,lo',⟨h,hlen,hj⟩,_,hs⟩:=kEff_sound h2
   refine ⟨fv,lo',h,fun _ hn=>⟨by omega,fun _ k' ob hp _=>?_⟩,hs⟩
   have hne:k' ≠ k:=fun e=>by
    have:=(prot_lt hp).2
    rw [e,hk] at this
    cases this
   rw [hj k' hne]
  ·exact h.elim
 ·exact h.elim
theorem vcOpM_spec {P:Program} {sl:List Nat} {n0 N:Nat} {all:List Oper} {o:Oper} {E:Env} {lo:List AObj} {R:Env → List AObj → Prop} (hst:storeB sl o = false) (h:vcOpM P sl n0 N all o E lo R) :
  ∃ E' lo',AStep P [] sl true n0 N all.toArray o (lookD E) lo (lookD E') lo' ∧ R E' lo':=by
 unfold vcOpM at h
 unfold AStep
 simp only [isEffI_nil]
 obtain ⟨g,hg,h⟩:=guardK_spec h
 split at h
 ·rename_i hl
  have he:isEff o.op = false:=by
   cases hop:o.op <;> simp [hop,isLoad] at hl <;> rfl
  split at h
  ·rename_i t x ho
   obtain ⟨x',h,hx'⟩:=evS_spec h
   have sem:∀ {lo2:List AObj} {fv:FV},kLoad P t lo2 x' (fun v=>v = fv) → StepSem P o (lookD E) lo2 g fv lo2:=by
    intro lo2 fv h
    obtain ⟨fv',h,hs⟩:=kLoad_spec h
    subst h
    intro hg Lw bs ρ H w eval s hx
    obtain ⟨a,u,_,hr,ru⟩:=hs bs ρ H w _ s (hx' ρ H _ hg (hx x (by simp [ho,Op.operands])))
    simp only [execOp,ho]
    exact upon_value s hr ru
   unfold kLoadM at h
   split at h
   ·rename_i k off
    split at h
    ·rename_i hk
     obtain ⟨fv,ob,h,hob,hb,hfix⟩:=kLoad_fix h
     obtain ⟨hd,E',hE,h⟩:=putK_spec h
     refine ⟨E',lo,⟨g,fv,hg,hd,hE,.inr (.inl ⟨he,hl,rfl,sem (hfix lo hob),fun _ _=>⟨some (k,ob),fun k' ob' e=>?_,fun lo2 h2=>sem (hfix lo2 (h2 k ob rfl))⟩⟩)⟩,h⟩
     cases e
     exact ⟨hk,hb,hob⟩
    ·exact h.elim
   ·rename_i row
    have h1:∃ fv,(putK N o.dst (wrapF g fv) E fun E=>R E lo) ∧ ∀ lo2,kLoad P t lo2 (.hptr row) (fun v=>v = fv):=by
     unfold kLoad at h
     obtain ⟨d,i,hd,hi,h⟩:=typeK_spec h
     have typeI:∀ {R:Bool → Nat → Prop},R (aggD d) i.size → typeK P t R:=by
      intro R h
      unfold typeK
      simp only [hd,hi]
      exact h
     split at h
     ·rename_i hagg
      obtain ⟨h,hn⟩:=takeK_spec h
      refine ⟨_,h,fun lo2=>?_⟩
      unfold kLoad
      refine typeI ?_
      rw [hagg]
      have takeI:∀ {n:Nat} {l:List PV} {R:List PV → Prop},n ≤ l.length → R (l.take n) → takeK n l R:=by
       intro n
       induction n with
       | zero=>intro l R _ h; simpa [takeK] using h
       | succ n ih =>
        intro l R hl h
        cases l with
        | nil=>simp at hl
        | cons a l=>exact ih (l:=l) (R:=fun l=>R (a :: l)) (by simpa using hl) (by simpa using h)
      exact takeI hn rfl
     ·rename_i hagg
      split at h
      ·rename_i c r
       refine ⟨_,h,fun lo2=>?_⟩
       unfold kLoad
       refine typeI ?_
       rw [hagg]
      ·exact h.elim
    obtain ⟨fv,h,hfix⟩:=h1
    obtain ⟨hd,E',hE,h⟩:=putK_spec h
    exact ⟨E',lo,⟨g,fv,hg,hd,hE,.inr (.inl ⟨he,hl,rfl,sem (hfix lo),fun _ _=>⟨none,fun k' ob' e=>(by cases e),fun lo2 _=>sem (hfix lo2)⟩⟩)⟩,h⟩
   ·exact h.elim
  ·rename_i sr d x ho
   obtain ⟨x',h,hx'⟩:=evS_spec h
   have key:∃ fv,(putK N o.dst (wrapF g fv) E fun E=>R E lo) ∧ ∀ lo2,StepSem P o (lookD E) lo2 g fv lo2:=by
    unfold kConvM at h
    split at h
    ·rename_i p
     obtain ⟨fv,h,hs⟩:=kBytes_spec h
     refine ⟨fv,h,fun lo2 hg Lw bs ρ H w eval s hx=>?_⟩
     have s0:SatW { S:=Nobody,w0:=w,H0:=H,r0:=[] } [] H [] w:={ sath:=s.sath,hlen:=rfl,pre:=List.prefix_refl _,objs:=fun k o v h=>by simp at h,excl:=fun k _ o _ v _ b h=>by simp at h,own:=fun k o v b h=>by simp at h,keep:=Keep.refl _ w,leH:=PH.le.refl H,newH:=fun b o v h=>.inl ⟨v,h⟩ }
     have rx:=hx' ρ H _ hg (hx x (by simp [ho,Op.operands]))
     obtain ⟨u,hr,ru⟩:=hs hg _ [] H w _ s0 rx
     simp only [execOp,ho]
     exact upon_value s hr (ru.mono (List.nil_prefix) (PH.le.refl H))
    ·rename_i k rows
     have h':kBytes P g sr d [] (.p (.sl rows)) fun v=>putK N o.dst (wrapF g v) E fun E=>R E lo:=h
     obtain ⟨fv,h,hs⟩:=kBytes_spec h'
     refine ⟨fv,h,fun lo2 hg Lw bs ρ H w eval s hx=>?_⟩
     have s0:SatW { S:=Nobody,w0:=w,H0:=H,r0:=[] } [] H [] w:={ sath:=s.sath,hlen:=rfl,pre:=List.prefix_refl _,objs:=fun k o v h=>by simp at h,excl:=fun k _ o _ v _ b h=>by simp at h,own:=fun k o v b h=>by simp at h,keep:=Keep.refl _ w,leH:=PH.le.refl H,newH:=fun b o v h=>.inl ⟨v,h⟩ }
     have rx:=hx' ρ H _ hg (hx x (by simp [ho,Op.operands]))
     obtain ⟨u,hr,ru⟩:=hs hg _ [] H w _ s0 rx.2
     simp only [execOp,ho]
     exact upon_value s hr (ru.mono (List.nil_prefix) (PH.le.refl H))
    ·exact h.elim
   obtain ⟨fv,h,hs⟩:=key
   obtain ⟨hd,E',hE,h⟩:=putK_spec h
   exact ⟨E',lo,⟨g,fv,hg,hd,hE,.inr (.inl ⟨he,hl,rfl,hs lo,fun _ _=>⟨none,fun k' ob' e=>(by cases e),fun lo2 _=>hs lo2⟩⟩)⟩,h⟩
  ·rename_i t x i ok ho
   have h0:=evS_spec h; clear h; obtain ⟨x',h,hx'⟩:=h0
   have h0:=evS_spec h; clear h; obtain ⟨i',h,hi'⟩:=h0
   unfold kLookupM at h
   split at h
   ·rename_i k
    split at h
    ·rename_i hk
     obtain ⟨fv,ob,h,hob,hb,hfix⟩:=kLookup_fix h
     obtain ⟨hd,E',hE,h⟩:=putK_spec h
     have sem:∀ {lo2:List AObj},lo2[k]? = some ob → StepSem P o (lookD E) lo2 g fv lo2:=by
      intro lo2 h2
      obtain ⟨fv',e,hs⟩:=kLook_sound ho hx' hi' (hfix lo2 h2)
      subst e
      exact hs
     refine ⟨E',lo,⟨g,fv,hg,hd,hE,.inr (.inl ⟨he,hl,rfl,sem hob,fun _ _=>⟨some (k,ob),fun k' ob' e=>?_,fun lo2 h2=>sem (h2 k ob rfl)⟩⟩)⟩,h⟩
     cases e
     exact ⟨hk,hb,hob⟩
    ·exact h.elim
   ·exact h.elim
  ·exact h.elim
 ·rename_i hl
  split at h
  ·rename_i he
   split at h
   ·obtain ⟨fv,lo',h,hr,hs⟩:=kEff_sound h
    obtain ⟨hd,E',hE,h⟩:=putK_spec h
    exact ⟨E',lo',⟨none,fv,hg,hd,hE,.inl ⟨he,rfl,hs,hr.ok (fun _=>hst)⟩⟩,h⟩
   ·exact h.elim
  ·rename_i he
   obtain ⟨fv,h,hs⟩:=kPure_sound h
   obtain ⟨hd,E',hE,h⟩:=putK_spec h
   exact ⟨E',lo,⟨g,fv,hg,hd,hE,.inr (.inr ⟨he,hl,rfl,hs⟩)⟩,h⟩
section
variable {P:Program} {N:Nat} {ops:Array Oper} {Q:Exit → Act → World → Prop}
theorem getD_of {tmps:Array Value} {d:Nat} {b:Bool} (h:tmps.getD d undef = .bool b):tmps[d]? = some (.bool b):=by
 rw [Array.getD_eq_getD_getElem?] at h
 cases hx:tmps[d]? with
 | none=>simp [hx,undef] at h
 | some v=>simp [hx] at h; rw [h]
theorem Sat.put {bs:(Base Lw)} {ρ ρ':List Value} {H H':(PH Lw)} {e:Nat → FV} {lo lo':List AObj} {a:Act} {w w':World} {d:Option Tmp} {v:Value} {fv:FV}
  (s:Sat bs N ρ H e lo a w) (hr:ρ <+: ρ') (hH:PH.le H H') (s':SatW bs ρ' H' lo' w') (hd:∀ t,d = some t → t < N) (rv:RepF ρ' H' fv v) :
  Sat bs N ρ' H' (upd e d fv) lo' (a.put d v) w':=by
 refine { s' with slots:=fun t=>?_,width:=?_,defers:=?_ }
 ·cases d with
  | none=>exact (s.slots t).mono hr hH
  | some d =>
   have hlt:d < a.tmps.size:=by rw [s.width]; exact hd d rfl
   simp only [upd,Act.put]
   by_cases h:t = d
   ·subst h
    simp [Array.getD_eq_getD_getElem?,hlt,rv]
   ·simp only [h,if_false]
    have:=(s.slots t).mono hr hH
    rwa [show (a.tmps.setIfInBounds d v).getD t undef = a.tmps.getD t undef by
     rw [Array.getD_eq_getD_getElem?,Array.getD_eq_getD_getElem?,Array.getElem?_setIfInBounds_ne (Ne.symm h)]]
 ·cases d <;> simp [Act.put,s.width]
 ·cases d <;> exact s.defers
theorem wanted_of {o:Oper} {e:Nat → FV} {g:G} {a:Act} (hg:GuardOk ops o e g) {ρ:List Value} {H:(PH Lw)} (hs:∀ t,RepF ρ H (e t) (a.tmps.getD t undef)) :
  Region.wanted o (yielded ops a.tmps) = g.getD true:=by
 unfold GuardOk at hg
 unfold Region.wanted
 split at hg
 ·rename_i h; simp [h,hg]
 ·rename_i j want h
  obtain ⟨oj,d,b,hoj,hd,hb⟩:=hg
  simp only [h]
  rcases hb with ⟨he,rfl⟩ | ⟨g',he,rfl⟩
  ·have h1:=hs d
   rw [he] at h1
   have h2:=getD_of (rep_bool h1)
   simp only [yielded,hoj,Option.bind_some,hd,h2]
   cases want <;> cases b <;> rfl
  ·have h1:=hs d
   rw [he] at h1
   cases g' with
   | true =>
    have h2:=getD_of (rep_bool (ρ:=ρ) (H:=H) (b:=b) (by simpa only [RepF,if_true] using h1))
    simp only [yielded,hoj,Option.bind_some,hd,h2]
    cases want <;> cases b <;> rfl
   | false =>
    have h2:a.tmps.getD d undef = undef:=by simpa [RepF] using h1
    have h3:∀ b,a.tmps[d]? ≠ some (.bool b):=fun b hb=>by
     rw [Array.getD_eq_getD_getElem?,hb] at h2
     simp [undef] at h2
    have h4:yielded ops a.tmps j = none:=by
     simp only [yielded,hoj,Option.bind_some,hd]
     try (split <;> first | rfl | exact absurd (by assumption) (h3 _))
    rw [h4]
    cases want <;> rfl
theorem AStep.wp {bs:(Base Lw)} {ρ:List Value} {H:(PH Lw)} {o:Oper} {e e':Nat → FV} {lo lo':List AObj} {a:Act} {w:World} {K:Act → World → Prop} {i:Nat} (ho:ops[i]? = some o)
  {inl:List Nat} {m:Bool} {n0:Nat} (st:AStep P inl inl m n0 N ops o e lo e' lo') (s:Sat bs N ρ H e lo a w) (hK:∀ ρ' H' a' w',Sat bs N ρ' H' e' lo' a' w' → K a' w'):wpOp P ops Q i K a w:=by
 obtain ⟨g,fv,hg,hd,rfl,hs⟩:=st
 unfold wpOp
 simp only [ho]
 rw [wanted_of hg s.slots]
 have sem:gOn g → UponA P bs ρ H fv lo' ((execOp a.eval o).run P w):=by
  intro hon
  have hx:=fun x (_:x ∈ o.op.operands)=>evF_rep s.slots x
  rcases hs with ⟨_,rfl,hs,_⟩ | ⟨_,_,rfl,hs⟩ | ⟨_,_,rfl,hs⟩
  ·exact hs hon bs ρ H w a.eval s.toSatW hx
  ·exact hs.1 hon bs ρ H w a.eval s.toSatW hx
  ·exact hs _ hon bs ρ H w a.eval s.toSatW hx
 have run:∀ fv',(∀ (ρ':List Value) (H':PH Lw) (v:Value),RepF ρ' H' fv v → RepF ρ' H' fv' v) → (∀ ρ' H' a' w',Sat bs N ρ' H' (upd e o.dst fv') lo' a' w' → K a' w') → gOn g → o.wp P a w K Q:=by
  intro fv' hf hK' hon
  have h:=sem hon
  have fin:∀ v w',After bs ρ H fv lo' v w' → K (a.put o.dst v) w':=fun v w' ⟨ρ',H',h1,h2,h3,h4⟩=>hK' _ _ _ _ (s.put h1 h2 h3 hd (hf _ _ _ h4))
  unfold Oper.wp
  generalize (execOp a.eval o).run P w = r at *
  cases r with
  | ok n w' =>
   cases n <;> simp only [UponA] at h <;> simp only [Oper.upon]
   case value v=>exact fin v w' h
   case skip=>exact fin undef w' h
   case enter f args=>exact h.mono fun en w'' ⟨v,e1,h1⟩=>by subst e1; exact fin v w'' h1
  | halt x w'=>simp only [UponA] at h
 cases g with
 | none=>exact .inl (run fv (fun _ _ _ h=>h) hK trivial)
 | some b =>
  cases b with
  | true=>exact .inl (run _ (fun _ _ _ h=>by simpa [wrapF,RepF] using h) hK rfl)
  | false =>
   have hlo:lo' = lo:=by
    rcases hs with ⟨_,h,_⟩ | ⟨_,_,h,_⟩ | ⟨_,_,h,_⟩
    ·cases h
    ·exact h
    ·exact h
   subst hlo
   exact hK _ _ _ _ (s.put (List.prefix_refl _) (PH.le.refl H) s.toSatW hd (by simp [wrapF,RepF]))
def CallsI (P:Program) (f:FuncId) (args:List FV) (lo:List AObj) (R:FV → List AObj → Prop):Prop :=
 ∀ ⦃Lw:Nat⦄ (bs:(Base Lw)) (ρ:List Value) (H:(PH Lw)) (w:World) (vs:List Value),SatW bs ρ H lo w → RepFL ρ H args vs →
  match (callFunc f vs.toArray).run P w with
  | .ok (.value v) w'=>∃ r lo',After bs ρ H r lo' v w' ∧ R r lo'
  | .ok (.enter f' args') w'=>w' = w ∧ Calls P f' args' w fun en w''=>∃ v r lo',en = .returned v ∧ After bs ρ H r lo' v w'' ∧ R r lo'
  | _=>False
theorem CallsI.mono {f:FuncId} {args:List FV} {lo:List AObj} {R R':FV → List AObj → Prop} (h:CallsI P f args lo R) (hr:∀ r lo,R r lo → R' r lo):CallsI P f args lo R':=by
 intro Lw bs ρ H w vs s rl
 have:=h bs ρ H w vs s rl
 generalize (callFunc f vs.toArray).run P w = x at *
 cases x with
 | ok n w' =>
  cases n <;> simp only at this ⊢ <;> try exact this
  ·obtain ⟨r,lo',a,k⟩:=this; exact ⟨r,lo',a,hr _ _ k⟩
  ·exact ⟨this.1,this.2.mono fun en w'' ⟨v,r,lo',e,a,k⟩=>⟨v,r,lo',e,a,hr _ _ k⟩⟩
 | halt x w'=>exact this
def bselfK (v:FV) (lo:List AObj) (no:Prop) (R:List AObj → Prop):Prop :=
 match v with
 | .ptr k off=>nthK k lo fun o=>match o with
  | .box T cells=>dropK off cells fun cs=>match cs with
   | .bself j :: _=>(overK off [.p .nilp] cells fun cells'=>setK k (.box T cells') lo R) ∧ (overK off [.ptr j 0] cells fun cells'=>setK k (.box T cells') lo R)
   | _=>no
  | _=>no
 | _=>no
theorem RepFL.over {ρ:List Value} {H:(PH Lw)}:∀ {cs:List FV} {vs:List Value} {off:Nat} {c:FV} {v:Value},RepFL ρ H cs vs → vs[off]? = some v → RepF ρ H c v →
  RepFL ρ H (cs.take off ++ [c] ++ cs.drop (off + 1)) vs
 | [],vs,off,c,v,h,hv,r=>by simp only [RepFL] at h; subst h; simp at hv
 | d :: cs,vs,0,c,v,h,hv,r=>by
  obtain ⟨u,vs',rfl,_,rs⟩:=h
  simp only [List.getElem?_cons_zero,Option.some.injEq] at hv
  subst hv
  simpa using ⟨u,vs',rfl,r,rs⟩
 | d :: cs,vs,off + 1,c,v,h,hv,r=>by
  obtain ⟨u,vs',rfl,r1,rs⟩:=h
  have:=rs.over (off:=off) (c:=c) (v:=v) (by simpa using hv) r
  have e:(d :: cs).drop (off + 1 + 1) = cs.drop (off + 1):=rfl
  rw [List.take_succ_cons,e,List.cons_append,List.cons_append]
  exact ⟨u,vs',rfl,r1,this⟩
theorem SatW.rebox {bs:(Base Lw)} {ρ:List Value} {H:(PH Lw)} {lo:List AObj} {w:World} {k:Nat} {T:TypeId} {cells cells':List FV} (s:SatW bs ρ H lo w) (hk:lo[k]? = some (.box T cells))
  (h:∀ vs,RepFL ρ H cells vs → ρ[k]? ≠ none → (∃ b,ρ[k]? = some (.pointer (some ⟨b,0,none⟩)) ∧ w.heap[b]? = some (.cells vs.toArray T (0,0))) → RepFL ρ H cells' vs):SatW bs ρ H (lo.set k (.box T cells')) w where
 sath:=s.sath
 hlen:=by simpa using s.hlen
 pre:=s.pre
 objs:=fun i o v hi hv=>by
  rw [List.getElem?_set] at hi
  split at hi
  ·rename_i e
   subst e
   split at hi
   ·cases hi
    obtain ⟨b,vs,rfl,hg,hc,hH⟩:=s.objs _ _ _ hk hv
    exact ⟨b,vs,rfl,hg,h vs hc (by rw [hv]; simp) ⟨b,hv,hg⟩,hH⟩
   ·cases hi
  ·exact s.objs i o v hi hv
 excl:=fun i j o o' v v' b hi hj hv hv' hne hl hl' hb=>by
  have key:∀ {i:Nat} {o:AObj},(lo.set k (.box T cells'))[i]? = some o → o.live = true → ∃ o2,lo[i]? = some o2 ∧ o2.live = true:=by
   intro i o hi hl
   rw [List.getElem?_set] at hi
   split at hi
   ·rename_i e; subst e; exact ⟨_,hk,rfl⟩
   ·exact ⟨o,hi,hl⟩
  obtain ⟨o2,h2,l2⟩:=key hi hl
  obtain ⟨o3,h3,l3⟩:=key hj hl'
  exact s.excl i j o2 o3 v v' b h2 h3 hv hv' hne l2 l3 hb
 own:=fun i o v b hi hv hl hb=>by
  rw [List.getElem?_set] at hi
  split at hi
  ·rename_i e; subst e; exact s.own _ _ v b hk hv rfl hb
  ·exact s.own i o v b hi hv hl hb
 keep:=s.keep
 leH:=s.leH
 newH:=s.newH
theorem bselfK_spec {bs:(Base Lw)} {ρ:List Value} {H:(PH Lw)} {e:Nat → FV} {lo:List AObj} {a:Act} {w:World} {v:FV} {no:Prop} {R:List AObj → Prop} (h:bselfK v lo no R) (s:Sat bs N ρ H e lo a w) :
  no ∨ ∃ lo',R lo' ∧ Sat bs N ρ H e lo' a w:=by
 unfold bselfK at h
 split at h
 ·rename_i k off
  obtain ⟨o,ho,h⟩:=nthK_spec h
  split at h
  ·rename_i T cells
   obtain ⟨h,hoff⟩:=dropK_spec h
   split at h
   ·rename_i j cs hcs
    have hc:cells[off]? = some (.bself j):=by
     have:=congrArg (fun l=>l[0]?) hcs
     simpa using this
    obtain ⟨h1,h2⟩:=h
    obtain ⟨h1,_⟩:=overK_spec h1
    obtain ⟨h2,_⟩:=overK_spec h2
    obtain ⟨h1,_⟩:=setK_spec h1
    obtain ⟨h2,_⟩:=setK_spec h2
    right
    have hklt:k < ρ.length:=by rw [s.hlen]; exact (List.getElem?_eq_some_iff.1 ho).1
    obtain ⟨b,vs,ek,hg,hrep,_⟩:=s.objs k _ _ ho (List.getElem?_eq_getElem hklt)
    have get:∀ {cs:List FV} {vs:List Value} {i:Nat} {c:FV},RepFL ρ H cs vs → cs[i]? = some c → ∃ v,vs[i]? = some v ∧ RepF ρ H c v:=by
     intro cs
     induction cs with
     | nil=>intro vs i c _ h; simp at h
     | cons d cs ih =>
      intro vs i c x h
      obtain ⟨v,vs',rfl,r,rs⟩:=x
      cases i with
      | zero=>simp at h; subst h; exact ⟨v,by simp,r⟩
      | succ i=>simp at h; obtain ⟨u,hu,ru⟩:=ih rs h; exact ⟨u,by simpa using hu,ru⟩
    obtain ⟨x,hx,b',hj,hx2⟩:=get hrep hc
    have uniq:∀ vs2,(∃ b,ρ[k]? = some (.pointer (some ⟨b,0,none⟩)) ∧ w.heap[b]? = some (.cells vs2.toArray T (0,0))) → vs2 = vs:=by
     rintro vs2 ⟨b2,e2,hg2⟩
     rw [List.getElem?_eq_getElem hklt,ek] at e2
     cases e2
     rw [hg] at hg2
     have:=congrArg Array.toList (Obj.cells.inj (Option.some.inj hg2)).1
     simpa using this.symm
    rcases hx2 with rfl | rfl
    ·refine ⟨_,h1,{ (s.toSatW.rebox (cells':=cells.take off ++ [.p .nilp] ++ cells.drop (off + 1)) ho fun vs2 r _ hw=>?_) with slots:=s.slots,width:=s.width,defers:=s.defers }⟩
     have:=uniq vs2 hw
     subst this
     exact r.over hx (by simp [RepF,RepP])
    ·refine ⟨_,h2,{ (s.toSatW.rebox (cells':=cells.take off ++ [.ptr j 0] ++ cells.drop (off + 1)) ho fun vs2 r _ hw=>?_) with slots:=s.slots,width:=s.width,defers:=s.defers }⟩
     have:=uniq vs2 hw
     subst this
     exact r.over hx ⟨b',hj,rfl⟩
   ·exact .inl h
  ·exact .inl h
 ·exact .inl h
def appK {α:Type}:List α → List α → (List α → Prop) → Prop
 | [],m,R=>R m
 | a :: l,m,R=>appK l m fun l=>R (a :: l)
theorem ofVs_mono {R R':List PV → Prop} (hk:∀ l,R l → R' l):∀ {vs:List Value} ,ofVs vs R → ofVs vs R'
 | [],h=>hk _ h
 | v :: vs,h=>by
  unfold ofVs at h ⊢
  split at h
  ·exact ofVs_mono (R:=fun l=>R (_ :: l)) (R':=fun l=>R' (_ :: l)) (fun l hl=>hk _ hl) h
  ·exact h.elim
theorem zeroK_mono {t:TypeId} {R R':List PV → Prop} (hk:∀ l,R l → R' l) (h:zeroK P t R):zeroK P t R':=by
 unfold zeroK at h ⊢
 split at h
 ·split at h
  ·exact ofVs_mono hk h
  ·exact ofVs_mono hk h
  ·exact h.elim
 ·exact h.elim
theorem elemK_mono {t:TypeId} {R R':TypeId → Nat → Prop} (hk:∀ e z,R e z → R' e z) (h:elemK P t R):elemK P t R':=by
 unfold elemK at h ⊢
 split at h
 ·split at h
  ·exact hk _ _ h
  ·exact h.elim
 ·exact h.elim
theorem SatW.snocDead {bs:(Base Lw)} {ρ:List Value} {H:(PH Lw)} {lo:List AObj} {w:World} (s:SatW bs ρ H lo w):SatW bs (ρ ++ [undef]) H (lo ++ [.dead]) w where
 sath:=s.sath
 hlen:=by simp [s.hlen]
 pre:=s.pre.trans (List.prefix_append _ _)
 objs:=fun k o v hk hv=>by
  rcases Nat.lt_or_ge k lo.length with h | h
  ·rw [List.getElem?_append_left h] at hk
   rw [List.getElem?_append_left (by rw [s.hlen]; exact h)] at hv
   exact ObjOk.keep (s.objs k o v hk hv) (List.prefix_append _ _) (PH.le.refl H) (fun _ _ _=>rfl) (fun _ _ _ _ hn=>hn)
  ·rw [List.getElem?_append_right h] at hk
   have:o = .dead:=by
    have:=List.mem_of_getElem? hk
    simpa using this
   subst this
   trivial
 excl:=fun k k' o o' v v' b hk hk' hv hv' hne hl hl' hb=>by
  have live:∀ {k:Nat} {o:AObj},(lo ++ [AObj.dead])[k]? = some o → o.live = true → k < lo.length:=fun {k o} hk hl=>by
   rcases Nat.lt_or_ge k lo.length with h | h
   ·exact h
   ·rw [List.getElem?_append_right h] at hk
    have:o = .dead:=by
     have:=List.mem_of_getElem? hk
     simpa using this
    subst this
    simp [AObj.live] at hl
  have h1:=live hk hl
  have h2:=live hk' hl'
  rw [List.getElem?_append_left h1] at hk
  rw [List.getElem?_append_left (by rw [s.hlen]; exact h1)] at hv
  rw [List.getElem?_append_left h2] at hk'
  rw [List.getElem?_append_left (by rw [s.hlen]; exact h2)] at hv'
  exact s.excl k k' o o' v v' b hk hk' hv hv' hne hl hl' hb
 own:=fun k o v b hk hv hl hb=>by
  rcases Nat.lt_or_ge k lo.length with h | h
  ·rw [List.getElem?_append_left h] at hk
   rw [List.getElem?_append_left (by rw [s.hlen]; exact h)] at hv
   exact s.own k o v b hk hv hl hb
  ·rw [List.getElem?_append_right h] at hk
   have:o = .dead:=by
    have:=List.mem_of_getElem? hk
    simpa using this
   subst this
   simp [AObj.live] at hl
 keep:=s.keep
 leH:=s.leH
 newH:=s.newH
def kMakeGd (P:Program) (all:List Oper) (o:Oper) (op:Op) (E:Env) (lo:List AObj) (no:Prop) (R:Bool → FV → List AObj → Prop):Prop :=
 match op with
 | .makeSlice t l c=>guardK all o E fun g=>match g with
  | some b=>evS E (some b) l fun l=>evS E (some b) c fun c=>match l with
   | .p (.int _ l)=>match c with
    | .p (.int _ c)=>elemK P t fun e z=>match P.info? e with
     | some i=>zeroK P e fun zs=>∃ (n:Nat) (rows:List (List PV)),(b = true → l = n ∧ c = n ∧ n * i.bytes ≤ 140737488355328 ∧ n ≤ 9223372036854775807) ∧ ((List.replicate n zs = rows ∨ nleR (List.replicate n zs) rows) ∧ zs.length = z ∧ z ≠ 0 ∧ zs.all oneP = true) ∧
       snocK lo .dead fun lo=>R b (.p (.sl rows)) lo
     | none=>False
    | _=>False
   | _=>False
  | none=>False
 | _=>no
theorem kMakeGd_spec {all:List Oper} {o:Oper} {op:Op} {E:Env} {lo:List AObj} {no:Prop} {R:Bool → FV → List AObj → Prop} (h:kMakeGd P all o op E lo no R) :
  no ∨ ∃ t l c b l' c',op = .makeSlice t l c ∧ GuardOk all.toArray o (lookD E) (some b) ∧ Str (some b) (evF (lookD E) l) l' ∧ Str (some b) (evF (lookD E) c) c' ∧ (∃ fv,b = false → R b fv (lo ++ [.dead])) ∧ (b = true → kMakeS P false true lo t l' c' (R b)):=by
 unfold kMakeGd at h
 split at h
 ·rename_i t l c
  obtain ⟨g,hg,h⟩:=guardK_spec h
  split at h
  ·rename_i b
   have h0:=evS_spec h; clear h; obtain ⟨l',h,hl⟩:=h0
   have h0:=evS_spec h; clear h; obtain ⟨c',h,hc⟩:=h0
   refine .inr ⟨t,l,c,b,l',c',rfl,hg,hl,hc,?_,?_⟩
   ·split at h
    ·split at h
     ·obtain ⟨e,i,_,hi,h⟩:=elemK_spec h
      rw [hi] at h
      obtain ⟨_,_,_,_,_,h,_⟩:=zeroK_spec h
      obtain ⟨n,rows,_,_,h⟩:=h
      exact ⟨_,fun _=>snocK_spec h⟩
     ·exact h.elim
    ·exact h.elim
   ·intro hb
    subst hb
    split at h
    ·split at h
     ·unfold kMakeS
      refine elemK_mono (fun e z h=>?_) h
      split at h
      ·rename_i i hi
       simp only [hi]
       refine zeroK_mono (fun zs h=>?_) h
       obtain ⟨n,rows,h1,⟨h2,h3⟩,h4⟩:=h
       obtain ⟨a1,a2,a3,a4⟩:=h1 rfl
       exact ⟨n,rows,⟨a1,a2,a3,a4,h2,h3⟩,h4⟩
      ·exact h.elim
     ·exact h.elim
    ·exact h.elim
  ·exact h.elim
 ·exact .inl h
def vcOpS (P:Program) (inl:List Nat) (N:Nat) (all:List Oper) (o:Oper) (E:Env) (lo:List AObj) (R:Env → List AObj → Prop):Prop :=
 match o.op with
 | .call { callee:=.value (.func f),args:=⟨xs⟩,argTypes:=_ }=>match memB inl f with
  | true=>match o.guard with
   | none=>evL E none xs fun vs=>CallsI P f vs lo fun r lo=>putK N o.dst r E fun E=>R E lo
   | some _=>guardK all o E fun g=>match g with
    | some b=>(b = true → evL E (some b) xs fun vs=>CallsI P f vs lo fun r lo=>putK N o.dst (.opt b r) E fun E=>R E lo) ∧ (b = false → ∃ v,putK N o.dst (.opt b v) E fun E=>R E lo)
    | none=>False
  | false=>vcOp P N all o E lo R
 | .call { callee:=.value (.tmp t),args:=⟨xs⟩,argTypes:=_ }=>match cloB inl t with
  | true=>match o.guard with
   | none=>evS E none (.tmp t) fun fv=>evL E none xs fun vs=>match fv with
    | .clo f c=>chainK c fun cs=>appK vs cs fun vs=>CallsI P f vs lo fun r lo=>putK N o.dst r E fun E=>R E lo
    | .p (.fn f)=>CallsI P f vs lo fun r lo=>putK N o.dst r E fun E=>R E lo
    | _=>False
   | some _=>False
  | false=>vcOp P N all o E lo R
 | .call { callee:=.builtin .len,args:=⟨[x]⟩,argTypes:=⟨[t]⟩ }=>ev E x fun v=>match v with
  | .mref k=>match o.guard with
   | none=>kLenM P t lo (.mref k) fun v=>putK N o.dst v E fun E=>R E lo
   | some _=>False
  | _=>vcOp P N all o E lo R
 | .buildSlice t n ⟨parts⟩=>match ownB inl o.dst with
  | true=>match o.guard with
   | none=>kBuildVP P (ptrB inl o.dst) (growB inl o.dst) E lo t n parts fun v lo=>putK N o.dst v E fun E=>R E lo
   | some _=>False
  | false=>vcOp P N all o E lo R
 | .convert sr d x=>match ownB inl o.dst with
  | true=>match o.guard with
   | none=>evS E none x fun x=>kConvV P sr d lo x fun v lo=>putK N o.dst v E fun E=>R E lo
   | some _=>False
  | false=>vcOp P N all o E lo R
 | .alloc t=>match ownB inl o.dst with
  | true=>match o.guard with
   | none=>kAllocA P t lo fun v lo=>putK N o.dst v E fun E=>R E lo
   | some _=>False
  | false=>vcOp P N all o E lo R
 | .build t ⟨parts⟩=>match growB inl o.dst with
  | true=>match o.guard with
   | none=>kBuildF P E none t parts fun v=>putK N o.dst v E fun E=>R E lo
   | some _=>False
  | false=>vcOp P N all o E lo R
 | .load t x=>ev E x fun v=>match v with
  | .eptr k z i off=>match o.guard with
   | none=>kLoadE P t lo k z i off fun v=>putK N o.dst v E fun E=>R E lo
   | some _=>False
  | .opt g' (.eptr k z i off)=>guardK all o E fun g=>match g with
   | some g=>(g = true → g' = true) ∧ kLoadEG P g t lo k z i off fun v=>putK N o.dst (.opt g v) E fun E=>R E lo
   | none=>False
  | v=>bselfK v lo (vcOp P N all o E lo R) (fun lo'=>vcOp P N all o E lo' R)
 | op=>match o.guard with
  | none=>kMore P inl o.dst op E lo (vcOp P N all o E lo R) fun v lo=>putK N o.dst v E fun E=>R E lo
  | some _=>kMakeGd P all o op E lo (vcOp P N all o E lo R) fun b v lo=>putK N o.dst (.opt b v) E fun E=>R E lo
def vcOpsS (P:Program) (inl:List Nat) (N:Nat) (all:List Oper) (K:Env → List AObj → Prop):List Oper → Env → List AObj → Prop
 | [],E,lo=>K E lo
 | o :: rest,E,lo=>vcOpS P inl N all o E lo (vcOpsS P inl N all K rest)
theorem appK_spec {α:Type}:∀ {l m:List α} {R:List α → Prop},appK l m R → R (l ++ m)
 | [],m,R,h=>h
 | a :: l,_,R,h=>appK_spec (l:=l) (R:=fun l=>R (a :: l)) h
theorem vcOpS_sound {bs:(Base Lw)} {all:List Oper} {inl:List Nat} {o:Oper} {i:Nat} (ho:all[i]? = some o) {ρ:List Value} {H:(PH Lw)} {E:Env} {lo:List AObj} {a:Act} {w:World} {R:Env → List AObj → Prop} {K:Act → World → Prop}
  (s:Sat bs N ρ H (lookD E) lo a w) (h:vcOpS P inl N all o E lo R) (hK:∀ E' lo' ρ' H' a' w',R E' lo' → Sat bs N ρ' H' (lookD E') lo' a' w' → K a' w'):wpOp P all.toArray Q i K a w:=by
 have plain:∀ lo,Sat bs N ρ H (lookD E) lo a w → vcOp P N all o E lo R → wpOp P all.toArray Q i K a w:=by
  intro lo s h
  obtain ⟨E',lo',st,h⟩:=vcOp_spec h
  exact st.wp (by simpa using ho) s fun ρ' H' a' w' s'=>hK E' lo' ρ' H' a' w' h s'
 have ho':all.toArray[i]? = some o:=by simpa using ho
 have fin:∀ v w',(∃ r lo',After bs ρ H r lo' v w' ∧ putK N o.dst r E fun E=>R E lo') → K (a.put o.dst v) w':=by
  rintro v w' ⟨r,lo',⟨ρ',H',h1,h2,h3,h4⟩,hp⟩
  obtain ⟨hd,E',hE,hR⟩:=putK_spec hp
  exact hK E' lo' ρ' H' _ w' hR (by rw [hE]; exact s.put h1 h2 h3 hd h4)
 have value:o.guard = none → (∃ v w' r lo',(execOp a.eval o).run P w = .ok (.value v) w' ∧ After bs ρ H r lo' v w' ∧ putK N o.dst r E fun E=>R E lo') → wpOp P all.toArray Q i K a w:=by
  rintro hg ⟨v,w',r,lo',hr,af,hp⟩
  unfold wpOp
  simp only [ho',Region.wanted,hg,if_true]
  refine .inl ?_
  unfold Oper.wp
  rw [hr]
  simp only [Oper.upon]
  exact fin v w' ⟨r,lo',af,hp⟩
 have calls:o.guard = none → ∀ (f:FuncId) (vs:List FV) (us:List Value),RepFL ρ H vs us → (execOp a.eval o).run P w = (callFunc f us.toArray).run P w → (CallsI P f vs lo fun r lo=>putK N o.dst r E fun E=>R E lo) → wpOp P all.toArray Q i K a w:=by
  intro hg f vs us rl hr h
  have:=h bs ρ H w us s.toSatW rl
  unfold wpOp
  simp only [ho',Region.wanted,hg,if_true]
  refine .inl ?_
  unfold Oper.wp
  rw [hr]
  generalize (callFunc f us.toArray).run P w = x at *
  cases x with
  | ok n w' =>
   cases n <;> simp only at this <;> simp only [Oper.upon]
   case value v=>exact fin v w' this
   case enter f' args' =>
    obtain ⟨rfl,hc⟩:=this
    exact hc.mono fun en w'' ⟨v,r,lo',e,af,k⟩=>by subst e; exact fin v w'' ⟨r,lo',af,k⟩
   all_goals exact this.elim
  | halt x w'=>exact this.elim
 unfold vcOpS at h
 split at h
 ·rename_i f xs ts hop
  split at h
  ·rename_i hm
   split at h
   ·rename_i hg
    obtain ⟨vs,h,hvs⟩:=evL_spec h
    refine calls hg f vs (xs.map a.eval) (hvs ρ H a.eval trivial (fun x _=>evF_rep s.slots x)) ?_ h
    have hf:a.eval (.func f) = .func (.func f) #[] #[]:=rfl
    simp only [execOp,hop,resolve,Deferred.ofValue,invoke,hf,Sem.run_bind,Sem.run_pure,Result.andThen_ok,List.map_toArray,Array.empty_append,Array.append_empty]
   ·obtain ⟨g,hg,h⟩:=guardK_spec h
    split at h
    ·rename_i b
     unfold wpOp
     simp only [ho']
     rw [wanted_of hg s.slots]
     cases b with
     | true =>
      obtain ⟨vs,h,hvs⟩:=evL_spec (h.1 rfl)
      have rl:=hvs ρ H a.eval rfl (fun x _=>evF_rep s.slots x)
      have hc:=h bs ρ H w _ s.toSatW rl
      refine .inl ?_
      have fin2:∀ v w',(∃ r lo',After bs ρ H r lo' v w' ∧ putK N o.dst (.opt true r) E fun E=>R E lo') → K (a.put o.dst v) w':=by
       rintro v w' ⟨r,lo',⟨ρ',H',h1,h2,h3,h4⟩,hp⟩
       exact fin v w' ⟨.opt true r,lo',⟨ρ',H',h1,h2,h3,by simpa [RepF] using h4⟩,hp⟩
      unfold Oper.wp
      have hf:a.eval (.func f) = .func (.func f) #[] #[]:=rfl
      simp only [execOp,hop,resolve,Deferred.ofValue,invoke,hf,Sem.run_bind,Sem.run_pure,Result.andThen_ok,List.map_toArray,Array.empty_append,Array.append_empty]
      generalize (callFunc f (List.map a.eval xs).toArray).run P w = x at *
      cases x with
      | ok n w' =>
       cases n <;> simp only at hc <;> simp only [Oper.upon]
       case value v=>exact fin2 v w' hc
       case enter f' args' =>
        obtain ⟨rfl,hc⟩:=hc
        exact hc.mono fun en w'' ⟨v,r,lo',e,af,k⟩=>by subst e; exact fin2 v w'' ⟨r,lo',af,k⟩
       all_goals exact hc.elim
      | halt x w'=>exact hc.elim
     | false =>
      obtain ⟨v,hp⟩:=h.2 rfl
      obtain ⟨hd,E',hE,hR⟩:=putK_spec hp
      exact hK E' lo ρ H _ w hR (by rw [hE]; exact s.put (List.prefix_refl _) (PH.le.refl H) s.toSatW hd (by simp [RepF]))
    ·exact h.elim
  ·exact plain lo s h
 ·rename_i t xs ts hop
  split at h
  ·rename_i hm
   split at h
   ·rename_i hg
    have h0:=evS_spec h; clear h; obtain ⟨fv,h,hfv⟩:=h0
    have h0:=evL_spec h; clear h; obtain ⟨vs,h,hvs⟩:=h0
    have rl:=hvs ρ H a.eval trivial (fun x _=>evF_rep s.slots x)
    have rf:=hfv ρ H _ trivial (evF_rep s.slots (.tmp t))
    split at h
    ·rename_i f c
     have h0:=chainK_spec h; clear h; obtain ⟨cs,h,hcs⟩:=h0
     have h:=appK_spec h
     obtain ⟨us,hf,rc⟩:=rf
     refine calls hg f _ (xs.map a.eval ++ us) (rl.append (hcs _ _ _ rc)) ?_ h
     simp only [execOp,hop,resolve,Deferred.ofValue,invoke,hf,Sem.run_bind,Sem.run_pure,Result.andThen_ok,List.map_toArray,List.append_toArray,List.nil_append]
    ·rename_i f
     have hf:a.eval (.tmp t) = .func (.func f) #[] #[]:=by simpa [RepF,RepP] using rf
     refine calls hg f vs (xs.map a.eval) rl ?_ h
     simp only [execOp,hop,resolve,Deferred.ofValue,invoke,hf,Sem.run_bind,Sem.run_pure,Result.andThen_ok,List.map_toArray,Array.empty_append,Array.append_empty]
    ·exact h.elim
   ·exact h.elim
  ·exact plain lo s h
 ·rename_i x t hop
  rw [ev_eq] at h
  split at h
  ·rename_i k hk
   split at h
   ·rename_i hg
    have h0:=kLenM_spec h; clear h; obtain ⟨fv,h,hs⟩:=h0
    have rx:=evF_rep s.slots x
    rw [hk] at rx
    obtain ⟨v,hr,rv⟩:=hs bs ρ H w o.type _ s.toSatW rx
    refine value hg ⟨v,w,fv,lo,?_,after_same s.toSatW rv,h⟩
    simp only [execOp,hop,resolve,invoke,builtin,Sem.run_bind,Sem.run_pure,Result.andThen_ok,List.map_toArray,List.map_cons,List.map_nil,hr]
   ·exact h.elim
  ·exact plain lo s h
 ·rename_i t n parts hop
  split at h
  ·split at h
   ·rename_i hg
    have h0:=kBuildVP_spec h; clear h; obtain ⟨fv,lo',h,_,hs⟩:=h0
    obtain ⟨v,w',hr,af⟩:=hs bs ρ H w a.eval s.toSatW (fun x _=>evF_rep s.slots x)
    refine value hg ⟨v,w',fv,lo',?_,af,h⟩
    simp only [execOp,hop,List.map_toArray,Sem.run_bind,hr,Result.andThen_ok,Sem.run_pure]
   ·exact h.elim
  ·exact plain lo s h
 ·rename_i sr d x hop
  split at h
  ·split at h
   ·rename_i hg
    have h0:=evS_spec h; clear h; obtain ⟨x',h,hx'⟩:=h0
    have h0:=kConvV_spec h; clear h; obtain ⟨fv,lo',h,hs⟩:=h0
    obtain ⟨v,w',hr,af⟩:=hs bs ρ H w _ s.toSatW (hx' ρ H _ trivial (evF_rep s.slots x))
    refine value hg ⟨v,w',fv,lo',?_,af,h⟩
    simp only [execOp,hop,Sem.run_bind,hr,Result.andThen_ok,Sem.run_pure]
   ·exact h.elim
  ·exact plain lo s h
 ·rename_i t hop
  split at h
  ·split at h
   ·rename_i hg
    obtain ⟨fv,lo',h,_,hs⟩:=kAllocA_spec h
    obtain ⟨v,w',hr,af⟩:=hs bs ρ H w s.toSatW
    refine value hg ⟨v,w',fv,lo',?_,af,h⟩
    simp only [execOp,hop,Sem.run_bind,hr,Result.andThen_ok,Sem.run_pure]
   ·exact h.elim
  ·exact plain lo s h
 ·rename_i t parts hop
  split at h
  ·split at h
   ·rename_i hg
    have h0:=kBuildF_spec h; clear h; obtain ⟨fv,h,hs⟩:=h0
    obtain ⟨v,hr,rv⟩:=hs trivial ρ H w a.eval (fun x _=>evF_rep s.slots x)
    refine value hg ⟨v,w,fv,lo,?_,after_same s.toSatW rv,h⟩
    simp only [execOp,hop,List.map_toArray,Sem.run_bind,hr,Result.andThen_ok,Sem.run_pure]
   ·exact h.elim
  ·exact plain lo s h
 ·rename_i t x hop
  rw [ev_eq] at h
  split at h
  ·rename_i k z i off hk
   split at h
   ·rename_i hg
    have h0:=kLoadE_spec h; clear h; obtain ⟨fv,h,hs⟩:=h0
    have rx:=evF_rep s.slots x
    rw [hk] at rx
    obtain ⟨v,hr,rv⟩:=hs bs ρ H w _ s.toSatW rx
    refine value hg ⟨v,w,fv,lo,?_,after_same s.toSatW rv,h⟩
    simp only [execOp,hop,Sem.run_bind,hr,Result.andThen_ok,Sem.run_pure]
   ·exact h.elim
  ·rename_i g' k z i' off hk
   have h0:=guardK_spec h; clear h; obtain ⟨g,hg,h⟩:=h0
   split at h
   ·rename_i g
    obtain ⟨hgg,h⟩:=h
    have h0:=kLoadEG_spec h; clear h; obtain ⟨fv,h,hs⟩:=h0
    obtain ⟨hd,E',hE,h⟩:=putK_spec h
    have st:AStep P [] [] false 0 N all.toArray o (lookD E) lo (lookD E') lo:=by
     refine ⟨some g,fv,hg,hd,hE,.inr (.inl ⟨?_,?_,rfl,⟨fun hon Lw bs ρ H w eval s hx=>?_,fun h=>by cases h⟩⟩)⟩
     ·rw [isEffI_nil]; simp [hop,isEff]
     ·simp [hop,isLoad]
     ·have hon:g = true:=hon
      have rx:=hx x (by simp [hop,Op.operands])
      rw [hk] at rx
      simp only [RepF,hgg hon,if_true] at rx
      obtain ⟨v,hr,rv⟩:=hs hon bs ρ H w _ s rx
      simp only [execOp,hop]
      exact upon_value s hr rv
    exact st.wp (by simpa using ho) s fun ρ' H' a' w' s'=>hK E' lo ρ' H' a' w' h s'
   ·exact h.elim
  ·rcases bselfK_spec h s with h | ⟨lo',h,s'⟩
   ·exact plain lo s h
   ·exact plain lo' s' h
 ·split at h
  ·rename_i hg
   rcases kMore_spec h with h | ⟨fv,lo',h,he,hi,hr,hs⟩
   ·exact plain lo s h
   ·obtain ⟨hd,E',hE,h⟩:=putK_spec h
    have st:AStep P inl inl false 0 N all.toArray o (lookD E) lo (lookD E') lo' :=
     ⟨none,fv,by simp [GuardOk,hg],hd,hE,.inl ⟨(hi o inl rfl).1,rfl,hs o rfl,fun h=>by cases h⟩⟩
    exact st.wp (by simpa using ho) s fun ρ' H' a' w' s'=>hK E' lo' ρ' H' a' w' h s'
  ·rcases kMakeGd_spec h with h | ⟨t,l,c,b,l',c',hop,hg,hl,hc,h0,h1⟩
   ·exact plain lo s h
   ·unfold wpOp
    simp only [ho']
    rw [wanted_of hg s.slots]
    cases b with
    | true =>
     obtain ⟨fv,lo',h,_,hs⟩:=kMakeS_spec (h1 rfl)
     obtain ⟨v,w',hr,ρ',H',q1,q2,q3,q4⟩:=hs bs ρ H w _ _ s.toSatW (hl ρ H _ rfl (evF_rep s.slots l)) (hc ρ H _ rfl (evF_rep s.slots c))
     refine .inl ?_
     unfold Oper.wp
     simp only [execOp,hop,Sem.run_bind,hr,Result.andThen_ok,Sem.run_pure,Oper.upon]
     exact fin v w' ⟨.opt true fv,lo',⟨ρ',H',q1,q2,q3,by simpa [RepF] using q4⟩,h⟩
    | false =>
     obtain ⟨fv,hp⟩:=h0
     obtain ⟨hd,E',hE,hR⟩:=putK_spec (hp rfl)
     exact hK E' (lo ++ [.dead]) (ρ ++ [undef]) H _ w hR (by rw [hE]; exact s.put (List.prefix_append _ _) (PH.le.refl H) s.toSatW.snocDead hd (by simp [RepF]))
theorem vcOpsS_sound {bs:(Base Lw)} {all:List Oper} {inl:List Nat} {K:Env → List AObj → Prop} (hQ:∀ ρ H E lo a w,Sat bs N ρ H (lookD E) lo a w → K E lo → Q .normal a w) :
  ∀ (l:List Oper) (k:Nat),(∀ j,l[j]? = all[k + j]?) → ∀ (ρ:List Value) (H:(PH Lw)) (E:Env) (lo:List AObj) (a:Act) (w:World),Sat bs N ρ H (lookD E) lo a w → vcOpsS P inl N all K l E lo →
   wpOps P all.toArray Q (List.range' k l.length) a w
 | [],k,_,ρ,H,E,lo,a,w,s,h=>by
  simp only [List.length_nil,List.range'_zero,wpOps]
  exact hQ ρ H E lo a w s h
 | o :: l,k,hl,ρ,H,E,lo,a,w,s,h=>by
  rw [List.length_cons,List.range'_succ,wpOps_cons]
  refine vcOpS_sound (by have:=hl 0; simpa using this.symm) s h fun E' lo' ρ' H' a' w' hr s'=>?_
  exact vcOpsS_sound hQ l (k + 1) (fun j=>by have:=hl (j + 1); simpa [Nat.add_assoc,Nat.add_comm 1 j] using this) ρ' H' E' lo' a' w' s' hr
theorem vcRegion_textS {bs:(Base Lw)} {ρ:List Value} {H:(PH Lw)} {E:Env} {lo:List AObj} {a:Act} {w:World} {K:Env → List AObj → Prop} {inl:List Nat} {id:Nat} {l:List Oper}
  (hQ:∀ ρ H E lo a w,Sat bs N ρ H (lookD E) lo a w → K E lo → Q .normal a w) (s:Sat bs N ρ H (lookD E) lo a w) (h:vcOpsS P inl N l K l E lo):(Code.region id l.toArray false).wp P Q a w:=by
 refine wp_region ?_
 have:=vcOpsS_sound (P:=P) hQ l 0 (by simp) ρ H E lo a w s h
 simpa [List.range_eq_range'] using this
def AAny (P:Program) (inl:List Nat) (m:Bool) (n0 N:Nat) (ops:Array Oper) (K:(Nat → FV) → List AObj → Prop):Nat → Array Bool → (Nat → FV) → List AObj → Prop
 | 0,listed,e,lo=>Region.ready .any ops listed = [] ∧ K e lo
 | fuel + 1,listed,e,lo=>(Region.ready .any ops listed = [] → K e lo) ∧
   ∀ i ∈ Region.ready .any ops listed,∃ o e' lo',ops[i]? = some o ∧ AStep P inl inl m n0 N ops o e lo e' lo' ∧ AAny P inl m n0 N ops K fuel (listed.setIfInBounds i true) e' lo'
theorem wpAny_of_AAny {inl:List Nat} {m:Bool} {n0:Nat} {bs:(Base Lw)} {K:(Nat → FV) → List AObj → Prop} (hQ:∀ ρ H e lo a w,Sat bs N ρ H e lo a w → K e lo → Q .normal a w) :
  ∀ (fuel:Nat) (listed:Array Bool) (ρ:List Value) (H:(PH Lw)) (e:Nat → FV) (lo:List AObj) (a:Act) (w:World),Sat bs N ρ H e lo a w → AAny P inl m n0 N ops K fuel listed e lo → wpAny P .any ops Q fuel listed a w
 | 0,_,ρ,H,e,lo,a,w,s,h=>⟨h.1,hQ ρ H e lo a w s h.2⟩
 | fuel + 1,listed,ρ,H,e,lo,a,w,s,h=>⟨fun h0=>hQ ρ H e lo a w s (h.1 h0),fun i hi=>by
  obtain ⟨o,e',lo',ho,st,h'⟩:=h.2 i hi
  exact st.wp ho s fun ρ' H' a' w' s'=>wpAny_of_AAny hQ fuel _ ρ' H' e' lo' a' w' s' h'⟩
theorem StepSem.congr {o:Oper} {e e':Nat → FV} {lo lo':List AObj} {g:G} {fv:FV} (h:StepSem P o e lo g fv lo') (he:∀ x ∈ o.op.operands,evF e' x = evF e x):StepSem P o e' lo g fv lo' :=
 fun hg Lw bs ρ H w eval s hx=>h hg bs ρ H w eval s fun x hm=>by rw [← he x hm]; exact hx x hm
theorem evF_upd {e:Nat → FV} {d:Option Tmp} {v:FV} {o:Oper} (h:∀ t,d = some t → t ∉ o.looksAt ops):∀ x ∈ o.op.operands,evF (upd e d v) x = evF e x:=by
 intro x hx
 cases d with
 | none=>rfl
 | some d =>
  cases x with
  | tmp t =>
   have:t ≠ d:=fun e1=>by
    subst e1
    exact h t rfl (List.mem_append_left _ (List.mem_filterMap.2 ⟨.tmp t,by simpa using hx,rfl⟩))
   simp [evF,upd,this]
  | _=>rfl
theorem guard_upd {e:Nat → FV} {d:Option Tmp} {v:FV} {o:Oper} {g:G} (h:∀ t,d = some t → t ∉ o.looksAt ops):GuardOk ops o (upd e d v) g ↔ GuardOk ops o e g:=by
 unfold GuardOk
 split
 ·exact Iff.rfl
 ·rename_i j want hg
  have key:∀ oj d',ops[j]? = some oj → oj.dst = some d' → upd e d v d' = e d':=by
   intro oj d' hoj hd'
   cases d with
   | none=>rfl
   | some d =>
    have:d' ≠ d:=fun e1=>by
     subst e1
     refine h d' rfl (List.mem_append_right _ ?_)
     simp [hg,hoj,hd']
    simp [upd,this]
  constructor
  ·rintro ⟨oj,d',b,hoj,hd',hb⟩
   rw [key oj d' hoj hd'] at hb
   exact ⟨oj,d',b,hoj,hd',hb⟩
  ·rintro ⟨oj,d',b,hoj,hd',hb⟩
   refine ⟨oj,d',b,hoj,hd',?_⟩
   rw [key oj d' hoj hd']
   exact hb
theorem upd_comm {e:Nat → FV} {d d':Option Tmp} {v v':FV} (h:∀ t,d = some t → d' ≠ some t):upd (upd e d v) d' v' = upd (upd e d' v') d v:=by
 cases d with
 | none=>rfl
 | some d =>
  cases d' with
  | none=>rfl
  | some d' =>
   have hne:d' ≠ d:=fun e1=>h d rfl (by rw [e1])
   funext t
   simp only [upd]
   by_cases h1:t = d'
   ·have h2:t ≠ d:=fun h2=>hne (by rw [← h1,← h2])
    simp [h1,hne]
   ·by_cases h2:t = d
    ·have:¬ d = d':=fun h3=>hne h3.symm
     simp [h2,this]
    ·simp [h1,h2]
def effApart (inl:List Nat) (m:Bool) (oi oj:Oper):Bool:=!clash inl m oi oj && !clash inl m oj oi
theorem LoadOk.congr {sl:List Nat} {m:Bool} {n0:Nat} {o:Oper} {e e':Nat → FV} {lo:List AObj} {g:G} {fv:FV} (h:LoadOk P sl m n0 o e lo g fv) (he:∀ x ∈ o.op.operands,evF e' x = evF e x):LoadOk P sl m n0 o e' lo g fv :=
 ⟨h.1.congr he,fun hm hs=>let ⟨kk,h1,h2⟩:=h.2 hm hs; ⟨kk,h1,fun lo2 h3=>(h2 lo2 h3).congr he⟩⟩
theorem LoadOk.back {sl:List Nat} {m:Bool} {n0:Nat} {o oe:Oper} {e:Nat → FV} {lo lo1:List AObj} {g:G} {fv:FV} (h:LoadOk P sl m n0 o e lo1 g fv) (hm:m = true) (hn:n0 ≤ lo.length) (he:EffOk sl m n0 oe lo lo1) (hmild:mildI sl oe = true) (hstr:strictB sl o = false):LoadOk P sl m n0 o e lo g fv:=by
 obtain ⟨kk,h1,h2⟩:=h.2 hm hstr
 have h3:=(he hm hn).2 hmild
 have h4:∀ k ob,kk = some (k,ob) → lo[k]? = some ob:=fun k ob hk=>let ⟨a,b,c⟩:=h1 k ob hk; (h3 k ob a b).2 c
 exact ⟨h2 lo h4,fun _ _=>⟨kk,fun k ob hk=>⟨(h1 k ob hk).1,(h1 k ob hk).2.1,h4 k ob hk⟩,h2⟩⟩
theorem LoadOk.forth {sl:List Nat} {m:Bool} {n0:Nat} {o oe:Oper} {e:Nat → FV} {lo lo1:List AObj} {g:G} {fv:FV} (h:LoadOk P sl m n0 o e lo g fv) (hm:m = true) (hn:n0 ≤ lo.length) (he:EffOk sl m n0 oe lo lo1) (hmild:mildI sl oe = true) (hstr:strictB sl o = false):LoadOk P sl m n0 o e lo1 g fv:=by
 obtain ⟨kk,h1,h2⟩:=h.2 hm hstr
 have h3:=(he hm hn).2 hmild
 have h4:∀ k ob,kk = some (k,ob) → lo1[k]? = some ob:=fun k ob hk=>let ⟨a,b,c⟩:=h1 k ob hk; (h3 k ob a b).1 c
 exact ⟨h2 lo1 h4,fun _ _=>⟨kk,fun k ob hk=>⟨(h1 k ob hk).1,(h1 k ob hk).2.1,h4 k ob hk⟩,h2⟩⟩
theorem AStep.grow {inl:List Nat} {m:Bool} {n0:Nat} {o:Oper} {e e':Nat → FV} {lo lo':List AObj} (st:AStep P inl inl m n0 N ops o e lo e' lo') (hn:m = true → n0 ≤ lo.length):m = true → n0 ≤ lo'.length:=by
 intro hm
 obtain ⟨g,fv,_,_,_,hs⟩:=st
 rcases hs with ⟨_,_,_,he⟩ | ⟨_,_,rfl,_⟩ | ⟨_,_,rfl,_⟩
 ·exact (he hm (hn hm)).1
 ·exact hn hm
 ·exact hn hm
theorem AStep.swap {inl:List Nat} {m:Bool} {n0:Nat} {oi oj:Oper} {e e1 e2:Nat → FV} {lo lo1 lo2:List AObj} (hn:m = true → n0 ≤ lo.length) (hap:oi.apart ops oj = true) (hef:effApart inl m oi oj = true)
  (hi:AStep P inl inl m n0 N ops oi e lo e1 lo1) (hj:AStep P inl inl m n0 N ops oj e1 lo1 e2 lo2):∃ e1' lo1',AStep P inl inl m n0 N ops oj e lo e1' lo1' ∧ AStep P inl inl m n0 N ops oi e1' lo1' e2 lo2:=by
 obtain ⟨a1,a2,a3⟩:=Oper.apart_spec hap
 obtain ⟨gi,fi,gki,di,rfl,si⟩:=hi
 obtain ⟨gj,fj,gkj,dj,rfl,sj⟩:=hj
 have gj':=(guard_upd a1).1 gkj
 have gi':GuardOk ops oi (upd e oj.dst (wrapF gj fj)) gi:=(guard_upd a3).2 gki
 have ci:∀ x ∈ oi.op.operands,evF (upd e oj.dst (wrapF gj fj)) x = evF e x:=evF_upd a3
 have cj:∀ x ∈ oj.op.operands,evF e x = evF (upd e oi.dst (wrapF gi fi)) x:=fun x hx=>(evF_upd a1 x hx).symm
 have hcomm:upd (upd e oi.dst (wrapF gi fi)) oj.dst (wrapF gj fj) = upd (upd e oj.dst (wrapF gj fj)) oi.dst (wrapF gi fi):=upd_comm a2
 simp only [effApart,clash,Bool.and_eq_true,Bool.not_eq_true',Bool.and_eq_false_iff,Bool.or_eq_false_iff,Bool.not_eq_false'] at hef
 rcases si with ⟨ei,rfl,hi,hr⟩ | ⟨ei,li,rfl,hi⟩ | ⟨ei,li,rfl,hi⟩
 ·rcases sj with ⟨ej,rfl,hj,_⟩ | ⟨ej,lj,rfl,hj⟩ | ⟨ej,lj,rfl,hj⟩
  ·simp [ei,ej] at hef
  ·
   have hmm:(m = true ∧ mildI inl oi = true) ∧ strictB inl oj = false:=by simpa [ei,ej,lj] using hef
   exact ⟨_,lo,⟨gj,fj,gj',dj,rfl,.inr (.inl ⟨ej,lj,rfl,(hj.congr cj).back hmm.1.1 (hn hmm.1.1) hr hmm.1.2 hmm.2⟩)⟩,⟨_,fi,gi',di,hcomm,.inl ⟨ei,rfl,hi.congr ci,hr⟩⟩⟩
  ·exact ⟨_,lo,⟨gj,fj,gj',dj,rfl,.inr (.inr ⟨ej,lj,rfl,fun lo=>(hj lo).congr cj⟩)⟩,⟨_,fi,gi',di,hcomm,.inl ⟨ei,rfl,hi.congr ci,hr⟩⟩⟩
 ·rcases sj with ⟨ej,rfl,hj,hr⟩ | ⟨ej,lj,rfl,hj⟩ | ⟨ej,lj,rfl,hj⟩
  ·have hmm:(m = true ∧ mildI inl oj = true) ∧ strictB inl oi = false:=by simpa [ei,ej,li] using hef
   exact ⟨_,lo2,⟨_,fj,gj',dj,rfl,.inl ⟨ej,rfl,hj.congr cj,hr⟩⟩,⟨gi,fi,gi',di,hcomm,.inr (.inl ⟨ei,li,rfl,(hi.congr ci).forth hmm.1.1 (hn hmm.1.1) hr hmm.1.2 hmm.2⟩)⟩⟩
  ·exact ⟨_,_,⟨gj,fj,gj',dj,rfl,.inr (.inl ⟨ej,lj,rfl,hj.congr cj⟩)⟩,⟨gi,fi,gi',di,hcomm,.inr (.inl ⟨ei,li,rfl,hi.congr ci⟩)⟩⟩
  ·exact ⟨_,_,⟨gj,fj,gj',dj,rfl,.inr (.inr ⟨ej,lj,rfl,fun lo=>(hj lo).congr cj⟩)⟩,⟨gi,fi,gi',di,hcomm,.inr (.inl ⟨ei,li,rfl,hi.congr ci⟩)⟩⟩
 ·rcases sj with ⟨ej,rfl,hj,hr⟩ | ⟨ej,lj,rfl,hj⟩ | ⟨ej,lj,rfl,hj⟩
  ·exact ⟨_,lo2,⟨_,fj,gj',dj,rfl,.inl ⟨ej,rfl,hj.congr cj,hr⟩⟩,⟨gi,fi,gi',di,hcomm,.inr (.inr ⟨ei,li,rfl,fun lo=>(hi lo).congr ci⟩)⟩⟩
  ·exact ⟨_,_,⟨gj,fj,gj',dj,rfl,.inr (.inl ⟨ej,lj,rfl,hj.congr cj⟩)⟩,⟨gi,fi,gi',di,hcomm,.inr (.inr ⟨ei,li,rfl,fun lo=>(hi lo).congr ci⟩)⟩⟩
  ·exact ⟨_,_,⟨gj,fj,gj',dj,rfl,.inr (.inr ⟨ej,lj,rfl,fun lo=>(hj lo).congr cj⟩)⟩,⟨gi,fi,gi',di,hcomm,.inr (.inr ⟨ei,li,rfl,fun lo=>(hi lo).congr ci⟩)⟩⟩
def Closed (ops:Array Oper) (listed:Array Bool):Prop:=∀ (k:Nat) (ok:Oper),ops[k]? = some ok → listed.getD k false = true → ∀ x ∈ ok.after,Region.binds .any x = true → listed.getD x.on false = true
theorem getD_setB (l:Array Bool) (j k:Nat) (h:l.getD k false = true):(l.setIfInBounds j true).getD k false = true:=by
 rw [Array.getD_eq_getD_getElem?,Array.getElem?_setIfInBounds]
 split
 ·split <;> rename_i h2 h3
  ·rfl
  ·rw [Array.getD_eq_getD_getElem?] at h; subst h2; rw [Array.getElem?_eq_none (by omega)] at h; exact h
 ·rw [Array.getD_eq_getD_getElem?] at h; exact h
theorem Closed.set {ops:Array Oper} {listed:Array Bool} (h:Closed ops listed) {j:Nat} (hj:j ∈ Region.ready .any ops listed):Closed ops (listed.setIfInBounds j true):=by
 obtain ⟨_,oj,hoj,hall⟩:=mem_ready.1 hj
 intro k ok hk hl x hx hb
 refine getD_setB _ _ _ ?_
 by_cases e:k = j
 ·subst e
  have:ok = oj:=Option.some.inj (hk.symm.trans hoj)
  subst this
  exact hall x hx hb
 ·refine h k ok hk ?_ x hx hb
  rw [getD_set_ne false (fun e2=>e e2.symm)] at hl
  exact hl
theorem reach_listed {ops:Array Oper} {listed:Array Bool} (h:Closed ops listed) {i:Nat}:∀ (f j:Nat) (oj:Oper),ops[j]? = some oj → (∀ x ∈ oj.after,Region.binds .any x = true → listed.getD x.on false = true) → reachB ops i f j = true → listed.getD i false = true
 | 0,_,_,_,_,hr=>by simp [reachB] at hr
 | f + 1,j,oj,hj,ha,hr=>by
  simp only [reachB,hj,Bool.or_eq_true] at hr
  rcases hr with hr | hr
  ·obtain ⟨x,hx,hb⟩:=Array.any_eq_true'.1 hr
   simp only [Bool.and_eq_true,beq_iff_eq] at hb
   rw [← hb.2]
   exact ha x hx hb.1
  ·obtain ⟨x,hx,hb⟩:=Array.any_eq_true'.1 hr
   simp only [Bool.and_eq_true] at hb
   cases he:ops[x.on]? with
   | none =>
    cases f with
    | zero=>simp [reachB] at hb
    | succ f=>simp [reachB,he] at hb
   | some ox=>exact reach_listed h f x.on ox he (fun y hy hyb=>h x.on ox he (ha x hx hb.1) y hy hyb) hb.2
theorem AAny_first {inl:List Nat} {m:Bool} {n0:Nat} {K:(Nat → FV) → List AObj → Prop} {i:Nat} {oi:Oper} (hi:ops[i]? = some oi) :
  ∀ (fuel:Nat) (listed:Array Bool) (e e1:Nat → FV) (lo lo1:List AObj),
   (∀ j oj,ops[j]? = some oj → j ≠ i → listed.getD j true = false → (∀ x ∈ oj.after,Region.binds .any x = true → x.on ≠ i) → reachB ops i ops.size j = false → oi.apart ops oj = true ∧ effApart inl m oi oj = true) →
   Closed ops listed → (m = true → n0 ≤ lo.length) → i ∈ Region.ready .any ops listed → AStep P inl inl m n0 N ops oi e lo e1 lo1 →
   AAny P inl m n0 N ops K fuel (listed.setIfInBounds i true) e1 lo1 → AAny P inl m n0 N ops K (fuel + 1) listed e lo:=by
 intro fuel
 induction fuel with
 | zero =>
  intro listed e e1 lo lo1 _ _ _ hr st H
  refine ⟨fun h=>(by rw [h] at hr; cases hr),fun j hj=>?_⟩
  by_cases hji:j = i
  ·subst hji; exact ⟨oi,e1,lo1,hi,st,H⟩
  ·have:=ready_mono hj hji
   rw [H.1] at this
   cases this
 | succ fuel ih =>
  intro listed e e1 lo lo1 hfree hcl hn hr st H
  refine ⟨fun h=>(by rw [h] at hr; cases hr),fun j hj=>?_⟩
  by_cases hji:j = i
  ·subst hji; exact ⟨oi,e1,lo1,hi,st,H⟩
  ·obtain ⟨oj,e2,lo2,hoj,stj,h1⟩:=H.2 j (ready_mono hj hji)
   obtain ⟨hjun,oj',hoj',hall⟩:=mem_ready.1 hj
   have:oj' = oj:=Option.some.inj (hoj'.symm.trans hoj)
   subst this
   have hnot:∀ x ∈ oj'.after,Region.binds .any x = true → x.on ≠ i:=fun x he hb heq=>by
    have h1:=hall x he hb
    have h0:=(mem_ready.1 hr).1
    rw [heq] at h1
    rcases Nat.lt_or_ge i listed.size with h' | h'
    ·simp [h'] at h0 h1; rw [h0] at h1; cases h1
    ·simp [Array.getElem?_eq_none h'] at h1
   have hre:reachB ops i ops.size j = false:=by
    cases hrr:reachB ops i ops.size j with
    | false=>rfl
    | true =>
     have h1:=reach_listed hcl _ j oj' hoj hall hrr
     have h0:=(mem_ready.1 hr).1
     rcases Nat.lt_or_ge i listed.size with h' | h'
     ·simp [h'] at h0 h1; rw [h0] at h1; cases h1
     ·simp [Array.getElem?_eq_none h'] at h1
   obtain ⟨hap,hef⟩:=hfree j oj' hoj hji hjun hnot hre
   obtain ⟨e1',lo1',stj',sti'⟩:=AStep.swap hn hap hef st stj
   refine ⟨oj',e1',lo1',hoj,stj',ih (listed.setIfInBounds j true) e1' e2 lo1' lo2 (fun k ok hk hki hun hno hre=>?_) (hcl.set (ready_mono hj hji |> fun _=>hj)) (stj'.grow hn) (ready_mono hr (Ne.symm hji)) sti' ?_⟩
   ·refine hfree k ok hk hki ?_ hno hre
    by_cases hjk:j = k
    ·subst hjk; exact hjun
    ·rw [getD_set_ne true hjk] at hun; exact hun
   ·rw [Array.setIfInBounds_comm _ _ hji]
    exact h1
theorem effFree_spec {inl:List Nat} {m:Bool} {listed:Array Bool} {i:Nat} {oi:Oper} (hi:ops[i]? = some oi) (h:Region.effFree inl m ops listed i = true) (j:Nat) (oj:Oper) (hj:ops[j]? = some oj) (hne:j ≠ i)
  (hun:listed.getD j true = false) (hre:reachB ops i ops.size j = false):effApart inl m oi oj = true:=by
 simp only [Region.effFree,hi,List.all_eq_true,List.mem_range] at h
 have h1:=h j (Array.getElem?_eq_some_iff.1 hj).1
 simp only [hj,Bool.or_eq_true,beq_iff_eq,hne,false_or,hun,Bool.false_eq_true] at h1
 rcases h1 with h1 | h1
 ·exact h1
 ·rw [hre] at h1; cases h1
def leK (n0:Nat) (lo:List AObj) (R:Prop):Prop :=
 match n0 with
 | 0=>R
 | n0 + 1=>lenK lo 0 fun n=>match Nat.ble (n0 + 1) n with
  | true=>R
  | false=>False
def vcOpX (P:Program) (inl:List Nat) (m:Bool) (n0 N:Nat) (all:List Oper) (o:Oper) (E:Env) (lo:List AObj) (R:Env → List AObj → Prop):Prop :=
 match m with
 | false=>vcOp P N all o E lo R
 | true=>vcOpM P inl n0 N all o E lo R
def vcOpI (P:Program) (inl:List Nat) (m:Bool) (n0 N:Nat) (all:List Oper) (o:Oper) (E:Env) (lo:List AObj) (R:Env → List AObj → Prop):Prop :=
 match o.op with
 | .call { callee:=.value (.func f),args:=⟨xs⟩,argTypes:=_ }=>match memB inl f with
  | true=>match o.guard with
   | none=>evL E none xs fun vs=>match memB inl (86000000 + f) with
    | false=>∃ r lo',CallsI P f vs lo (fun a b=>a = r ∧ b = lo') ∧ leK n0 lo' (putK N o.dst r E fun E=>R E lo')
    | true=>∃ r l,CallsI P f vs lo (fun a b=>a = r ∧ b = lo ++ l) ∧ appK lo l fun lo'=>leK n0 lo' (putK N o.dst r E fun E=>R E lo')
   | some _=>False
  | false=>vcOpX P inl m n0 N all o E lo R
 | .call { callee:=.value (.tmp t),args:=⟨xs⟩,argTypes:=_ }=>match cloB inl t with
  | true=>match o.guard with
   | none=>evS E none (.tmp t) fun fv=>evL E none xs fun vs=>match fv with
    | .clo f c=>chainK c fun cs=>appK vs cs fun vs=>match memB inl (85000000 + t) with
     | false=>∃ r lo',CallsI P f vs lo (fun a b=>a = r ∧ b = lo') ∧ leK n0 lo' (putK N o.dst r E fun E=>R E lo')
     | true=>∃ r l,CallsI P f vs lo (fun a b=>a = r ∧ b = lo ++ l) ∧ appK lo l fun lo'=>leK n0 lo' (putK N o.dst r E fun E=>R E lo')
    | _=>False
   | some _=>False
  | false=>vcOpX P inl m n0 N all o E lo R
 | .buildSlice t n ⟨parts⟩=>match ownB inl o.dst with
  | true=>match o.guard with
   | none=>kBuildVP P (ptrB inl o.dst) (growB inl o.dst) E lo t n parts fun v lo=>putK N o.dst v E fun E=>R E lo
   | some _=>False
  | false=>vcOpX P inl m n0 N all o E lo R
 | .alloc t=>match ownB inl o.dst with
  | true=>match o.guard with
   | none=>kAllocA P t lo fun v lo=>putK N o.dst v E fun E=>R E lo
   | some _=>False
  | false=>vcOpX P inl m n0 N all o E lo R
 | .convert _ _ _=>match ownB inl o.dst with
  | true=>False
  | false=>vcOpX P inl m n0 N all o E lo R
 | .store t (.tmp a) x=>match memB inl (50000000 + a) with
  | true=>match o.guard with
   | none=>kStoreA P inl n0 t (.tmp a) x E lo fun v lo=>putK N o.dst v E fun E=>R E lo
   | some _=>False
  | false=>vcOpX P inl m n0 N all o E lo R
 | .load t x=>ev E x fun v=>match v with
  | .eptr k z i off=>match (match m with | false=>true | true=>strictB inl o) with
   | true=>match o.guard with
    | none=>kLoadE P t lo k z i off fun v=>putK N o.dst v E fun E=>R E lo
    | some _=>False
   | false=>False
  | .opt g' (.eptr k z i off)=>match (match m with | false=>true | true=>strictB inl o) with
   | true=>guardK all o E fun g=>match g with
    | some g=>(g = true → g' = true) ∧ kLoadEG P g t lo k z i off fun v=>putK N o.dst (.opt g v) E fun E=>R E lo
    | none=>False
   | false=>False
  | _=>vcOpX P inl m n0 N all o E lo R
 | .build t ⟨parts⟩=>match growB inl o.dst with
  | true=>match o.guard with
   | none=>kBuildF P E none t parts fun v=>putK N o.dst v E fun E=>R E lo
   | some _=>False
  | false=>vcOpX P inl m n0 N all o E lo R
 | op=>match o.guard with
  | none=>kMore P inl o.dst op E lo (vcOpX P inl m n0 N all o E lo R) fun v lo=>putK N o.dst v E fun E=>R E lo
  | some _=>vcOpX P inl m n0 N all o E lo R
def vcOpsI (P:Program) (inl:List Nat) (m:Bool) (n0 N:Nat) (all:List Oper) (K:Env → List AObj → Prop):List Oper → Env → List AObj → Prop
 | [],E,lo=>K E lo
 | o :: rest,E,lo=>vcOpI P inl m n0 N all o E lo (vcOpsI P inl m n0 N all K rest)
theorem leK_spec {n0:Nat} {lo:List AObj} {R:Prop} (h:leK n0 lo R):R ∧ n0 ≤ lo.length:=by
 unfold leK at h
 split at h
 ·exact ⟨h,Nat.zero_le _⟩
 ·have h:=lenK_spec h
  rw [Nat.zero_add] at h
  split at h
  ·rename_i hb; exact ⟨h,Nat.le_of_ble_eq_true hb⟩
  ·exact h.elim
theorem vcOpI_spec {inl:List Nat} {m:Bool} {n0:Nat} {all:List Oper} {o:Oper} {E:Env} {lo:List AObj} {R:Env → List AObj → Prop} (h0:m = false → n0 = 0) (h:vcOpI P inl m n0 N all o E lo R) :
  ∃ E' lo',AStep P inl inl m n0 N all.toArray o (lookD E) lo (lookD E') lo' ∧ R E' lo':=by
 have plain:isEffI inl o = isEff o.op → storeB inl o = false → (vcOpX P inl m n0 N all o E lo R) → ∃ E' lo',AStep P inl inl m n0 N all.toArray o (lookD E) lo (lookD E') lo' ∧ R E' lo':=by
  intro e hst h
  cases m with
  | false =>
   obtain rfl:=h0 rfl
   obtain ⟨E',lo',st,h⟩:=vcOp_spec h
   refine ⟨E',lo',?_,h⟩
   obtain ⟨g,fv,h1,h2,h3,h4⟩:=st
   refine ⟨g,fv,h1,h2,h3,?_⟩
   simp only [isEffI_nil] at h4
   simp only [e]
   rcases h4 with ⟨a,b,c,d⟩ | ⟨a,b,c,d⟩ | h4
   ·exact .inl ⟨a,b,c,fun h=>by cases h⟩
   ·exact .inr (.inl ⟨a,b,c,d.1,fun h=>by cases h⟩)
   ·exact .inr (.inr h4)
  | true =>
   obtain ⟨E',lo',st,h⟩:=vcOpM_spec hst h
   refine ⟨E',lo',?_,h⟩
   unfold AStep at st ⊢
   simp only [isEffI_nil] at st
   simp only [e]
   exact st
 unfold vcOpI at h
 split at h
 ·rename_i f xs ts hop
  split at h
  ·rename_i hm
   split at h
   ·rename_i hg
    obtain ⟨vs,h,hvs⟩:=evL_spec h
    have main:∀ r lo',CallsI P f vs lo (fun a b=>a = r ∧ b = lo') → EffOk inl m n0 o lo lo' → (putK N o.dst r E fun E=>R E lo') → ∃ E' lo',AStep P inl inl m n0 N all.toArray o (lookD E) lo (lookD E') lo' ∧ R E' lo':=by
     intro r lo' hc hef h
     obtain ⟨hd,E',hE,h⟩:=putK_spec h
     refine ⟨E',lo',⟨none,r,by simp [GuardOk,hg],hd,hE,.inl ⟨by simp [isEffI,hop,hm],rfl,?_,hef⟩⟩,h⟩
     intro _ Lw bs ρ H w eval s hx
     have rl:=hvs ρ H eval trivial (fun x hm'=>hx x (by rw [hop]; simp [Op.operands,Call.operands,hm']))
     have:=hc bs ρ H w _ s rl
     have hf:eval (.func f) = .func (.func f) #[] #[]:=by
      have:=hx (.func f) (by rw [hop]; simp [Op.operands,Call.operands])
      simpa [evF,RepF,RepP] using this
     simp only [execOp,hop,resolve,Deferred.ofValue,invoke,hf,Sem.run_bind,Sem.run_pure,Result.andThen_ok,List.map_toArray,Array.empty_append,Array.append_empty]
     generalize (callFunc f (List.map eval xs).toArray).run P w = x at *
     cases x with
     | ok n w' =>
      cases n <;> simp only at this <;> simp only [UponA]
      case value v =>
       obtain ⟨r',lo2,af,rfl,rfl⟩:=this
       exact af
      case enter f' args' =>
       obtain ⟨rfl,hcc⟩:=this
       exact hcc.mono fun en w'' ⟨v,r',lo2,e,af,e1,e2⟩=>by subst e1; subst e2; exact ⟨v,e,af⟩
      all_goals exact this.elim
     | halt x w'=>exact this.elim
    split at h
    ·rename_i hb
     obtain ⟨r,lo',hc,h⟩:=h
     obtain ⟨h,hle⟩:=leK_spec h
     exact main r lo' hc (fun _ _=>⟨hle,fun hmild=>by simp [hop,mildO,mildI,storeB,hb] at hmild⟩) h
    ·obtain ⟨r,l,hc,h⟩:=h
     have h:=appK_spec h
     obtain ⟨h,hle⟩:=leK_spec h
     refine main r (lo ++ l) hc (fun _ hn=>⟨hle,fun _ k ob hk _=>?_⟩) h
     rw [List.getElem?_append_left (Nat.lt_of_lt_of_le (prot_lt hk).1 hn)]
   ·exact h.elim
  ·rename_i hm
   exact plain (by simp only [isEffI,hop,isEff]; simpa using hm) (by simp [storeB,hop,hm]) h
 ·rename_i t xs ts hop
  split at h
  ·rename_i hm
   split at h
   ·rename_i hg
    have h0:=evS_spec h; clear h; obtain ⟨fv,h,hfv⟩:=h0
    have h0:=evL_spec h; clear h; obtain ⟨vs,h,hvs⟩:=h0
    split at h
    ·rename_i f c
     have h0:=chainK_spec h; clear h; obtain ⟨cs,h,hcs⟩:=h0
     have h:=appK_spec h
     have main:∀ r lo',CallsI P f (vs ++ cs) lo (fun a b=>a = r ∧ b = lo') → EffOk inl m n0 o lo lo' → (putK N o.dst r E fun E=>R E lo') → ∃ E' lo',AStep P inl inl m n0 N all.toArray o (lookD E) lo (lookD E') lo' ∧ R E' lo':=by
      intro r lo' hc hef h
      obtain ⟨hd,E',hE,h⟩:=putK_spec h
      refine ⟨E',lo',⟨none,r,by simp [GuardOk,hg],hd,hE,.inl ⟨by simp [isEffI,hop,hm],rfl,?_,hef⟩⟩,h⟩
      intro _ Lw bs ρ H w eval s hx
      have rl:=hvs ρ H eval trivial (fun x hm'=>hx x (by rw [hop]; simp [Op.operands,Call.operands,hm']))
      have rf:=hfv ρ H (eval (.tmp t)) trivial (hx (.tmp t) (by rw [hop]; simp [Op.operands,Call.operands]))
      obtain ⟨us,hf,rc⟩:=rf
      have:=hc bs ρ H w _ s (rl.append (hcs _ _ _ rc))
      simp only [execOp,hop,resolve,Deferred.ofValue,invoke,hf,Sem.run_bind,Sem.run_pure,Result.andThen_ok,List.map_toArray,List.append_toArray,List.nil_append]
      generalize (callFunc f (List.map eval xs ++ us).toArray).run P w = x at *
      cases x with
      | ok n w' =>
       cases n <;> simp only at this <;> simp only [UponA]
       case value v =>
        obtain ⟨r',lo2,af,rfl,rfl⟩:=this
        exact af
       case enter f' args' =>
        obtain ⟨rfl,hcc⟩:=this
        exact hcc.mono fun en w'' ⟨v,r',lo2,e,af,e1,e2⟩=>by subst e1; subst e2; exact ⟨v,e,af⟩
       all_goals exact this.elim
      | halt x w'=>exact this.elim
     split at h
     ·rename_i hb
      obtain ⟨r,lo',hc,h⟩:=h
      obtain ⟨h,hle⟩:=leK_spec h
      exact main r lo' hc (fun _ _=>⟨hle,fun hmild=>by simp [hop,mildO,mildI,storeB,hb] at hmild⟩) h
     ·obtain ⟨r,l,hc,h⟩:=h
      have h:=appK_spec h
      obtain ⟨h,hle⟩:=leK_spec h
      refine main r (lo ++ l) hc (fun _ hn=>⟨hle,fun _ k ob hk _=>?_⟩) h
      rw [List.getElem?_append_left (Nat.lt_of_lt_of_le (prot_lt hk).1 hn)]
    ·exact h.elim
   ·exact h.elim
  ·rename_i hm
   exact plain (by simp only [isEffI,hop,isEff]; simpa using hm) (by simp [storeB,hop,hm]) h
 ·rename_i t n parts hop
  split at h
  ·rename_i hown
   split at h
   ·rename_i hg
    obtain ⟨fv,lo',h,hr,hs⟩:=kBuildVP_spec h
    obtain ⟨hd,E',hE,h⟩:=putK_spec h
    have hmo:mildO o.op = true:=by simp [hop,mildO]
    refine ⟨E',lo',⟨none,fv,by simp [GuardOk,hg],hd,hE,.inl ⟨by simp [isEffI,hop,hown],rfl,?_,EffRel.ok (fun _=>by simp [storeB,hop]) (by rw [hmo]; exact hr)⟩⟩,h⟩
    intro _ Lw bs ρ H w eval s hx
    obtain ⟨v,w',hr,af⟩:=hs bs ρ H w eval s (fun x hx'=>hx x (by rw [hop]; simpa [Op.operands] using hx'))
    simp only [execOp,hop,List.map_toArray,Sem.run_bind,hr,Result.andThen_ok,Sem.run_pure]
    exact af
   ·exact h.elim
  ·rename_i hm
   exact plain (by simp only [isEffI,hop,isEff]; simpa using hm) (by simp [storeB,hop]) h
 ·rename_i t hop
  split at h
  ·split at h
   ·rename_i hg
    obtain ⟨fv,lo',h,hr,hs⟩:=kAllocA_spec h
    obtain ⟨hd,E',hE,h⟩:=putK_spec h
    have hmo:mildO o.op = true:=by simp [hop,mildO]
    refine ⟨E',lo',⟨none,fv,by simp [GuardOk,hg],hd,hE,.inl ⟨by simp [isEffI,hop,isEff],rfl,?_,EffRel.ok (fun _=>by simp [storeB,hop]) (by rw [hmo]; exact hr)⟩⟩,h⟩
    intro _ Lw bs ρ H w eval s hx
    obtain ⟨v,w',hr,af⟩:=hs bs ρ H w s
    simp only [execOp,hop,Sem.run_bind,hr,Result.andThen_ok,Sem.run_pure]
    exact af
   ·exact h.elim
  ·exact plain (by simp [isEffI,hop]) (by simp [storeB,hop]) h
 ·rename_i sr d x hop
  split at h
  ·exact h.elim
  ·rename_i hm
   exact plain (by simp only [isEffI,hop,isEff]; simpa using hm) (by simp [storeB,hop]) h
 ·rename_i t a x hop
  split at h
  ·rename_i hs0
   split at h
   ·rename_i hg
    obtain ⟨fv,lo',h,hr,hs⟩:=kStoreA_spec (m:=m) (n0:=n0) hop h
    obtain ⟨hd,E',hE,h⟩:=putK_spec h
    exact ⟨E',lo',⟨none,fv,by simp [GuardOk,hg],hd,hE,.inl ⟨by simp [isEffI,hop,isEff],rfl,hs,hr⟩⟩,h⟩
   ·exact h.elim
  ·rename_i hm
   exact plain (by simp [isEffI,hop]) (by simpa [storeB,hop] using hm) h
 ·rename_i t x hop
  rw [ev_eq] at h
  split at h
  ·rename_i k z i off hk
   split at h
   ·rename_i hms
    split at h
    ·rename_i hg
     have h0:=kLoadE_spec h; clear h; obtain ⟨fv,h,hs⟩:=h0
     obtain ⟨hd,E',hE,h⟩:=putK_spec h
     refine ⟨E',lo,⟨none,fv,by simp [GuardOk,hg],hd,hE,.inr (.inl ⟨by simp [isEffI,hop,isEff],by simp [hop,isLoad],rfl,⟨?_,fun hm hs=>by rw [hm] at hms; rw [show strictB inl o = true from hms] at hs; cases hs⟩⟩)⟩,h⟩
     intro _ Lw bs ρ H w eval s hx
     have rx:=hx x (by simp [hop,Op.operands])
     rw [hk] at rx
     obtain ⟨v,hr,rv⟩:=hs bs ρ H w _ s rx
     simp only [execOp,hop]
     exact upon_value s hr rv
    ·exact h.elim
   ·exact h.elim
  ·rename_i g' k z i off hk
   split at h
   ·rename_i hms
    have h0:=guardK_spec h; clear h; obtain ⟨g,hg,h⟩:=h0
    split at h
    ·rename_i g
     obtain ⟨hgg,h⟩:=h
     have h0:=kLoadEG_spec h; clear h; obtain ⟨fv,h,hs⟩:=h0
     obtain ⟨hd,E',hE,h⟩:=putK_spec h
     refine ⟨E',lo,⟨some g,fv,hg,hd,hE,.inr (.inl ⟨by simp [isEffI,hop,isEff],by simp [hop,isLoad],rfl,⟨?_,fun hm hs=>by rw [hm] at hms; rw [show strictB inl o = true from hms] at hs; cases hs⟩⟩)⟩,h⟩
     intro hon Lw bs ρ H w eval s hx
     have hon:g = true:=hon
     have rx:=hx x (by simp [hop,Op.operands])
     rw [hk] at rx
     simp only [RepF,hgg hon,if_true] at rx
     obtain ⟨v,hr,rv⟩:=hs hon bs ρ H w _ s rx
     simp only [execOp,hop]
     exact upon_value s hr rv
    ·exact h.elim
   ·exact h.elim
  ·exact plain (by simp [isEffI,hop]) (by simp [storeB,hop]) h
 ·rename_i t parts hop
  split at h
  ·split at h
   ·rename_i hg
    obtain ⟨fv,h,hs⟩:=kBuildF_spec h
    obtain ⟨hd,E',hE,h⟩:=putK_spec h
    refine ⟨E',lo,⟨none,fv,by simp [GuardOk,hg],hd,hE,.inr (.inr ⟨by simp [isEffI,hop,isEff],by simp [hop,isLoad],rfl,?_⟩)⟩,h⟩
    intro _ hg' Lw bs ρ H w eval s hx
    obtain ⟨v,hr,rv⟩:=hs hg' ρ H w eval (fun x hx'=>hx x (by rw [hop]; simpa [Op.operands] using hx'))
    simp only [execOp,hop,List.map_toArray]
    exact upon_value s hr rv
   ·exact h.elim
  ·exact plain (by simp [isEffI,hop]) (by simp [storeB,hop]) h
 ·rename_i hne1 hne2 hne3 hne6 hne5 hne4 hne7 hne8
  have e1:isEffI inl o = isEff o.op:=by
   unfold isEffI
   split
   ·rename_i f xs ts hop; exact absurd hop (hne1 f xs.toList ts)
   ·rename_i f xs ts hop; exact absurd hop (hne2 f xs.toList ts)
   ·rename_i t n parts hop; exact absurd hop (hne3 t n parts.toList)
   ·rename_i sr d x hop; exact absurd hop (hne5 sr d x)
   ·rfl
  have e2:storeB inl o = false:=by
   unfold storeB
   split
   ·rename_i t a x hop; exact absurd hop (hne4 t a x)
   ·rename_i t xs ts hop; exact absurd hop (hne2 t xs.toList ts)
   ·rename_i f xs ts hop; exact absurd hop (hne1 f xs.toList ts)
   ·rfl
  split at h
  ·rename_i hg
   rcases kMore_spec h with h | ⟨fv,lo',h,he,hi,hr,hs⟩
   ·exact plain e1 e2 h
   ·obtain ⟨hd,E',hE,h⟩:=putK_spec h
    exact ⟨E',lo',⟨none,fv,by simp [GuardOk,hg],hd,hE,.inl ⟨(hi o inl rfl).1,rfl,hs o rfl,EffRel.ok (fun _=>e2) hr⟩⟩,h⟩
  ·exact plain e1 e2 h
theorem AAny_lex {inl:List Nat} {m:Bool} {n0:Nat} (hm0:m = false → n0 = 0) {K:(Nat → FV) → List AObj → Prop} {K':Env → List AObj → Prop} {all:List Oper} (hK:∀ E lo,K' E lo → K (lookD E) lo) :
  ∀ (l:List Oper) (k:Nat) (listed:Array Bool) (E:Env) (lo:List AObj),(∀ j,l[j]? = all[k + j]?) → Closed all.toArray listed → (m = true → n0 ≤ lo.length) →
  Region.lexFrom .any all.toArray l.length k listed = true → Region.effFrom inl m all.toArray l.length k listed = true → vcOpsI P inl m n0 N all K' l E lo → AAny P inl m n0 N all.toArray K l.length listed (lookD E) lo
 | [],_,_,E,lo,_,_,_,hB,_,h=>⟨by simpa [Region.lexFrom] using hB,hK E lo h⟩
 | o :: l,k,listed,E,lo,hl,hcl,hn,hB,hF,h=>by
  have h0:all.toArray[k]? = some o:=by have:=hl 0; simpa using this.symm
  simp only [List.length_cons,Region.lexFrom,Region.effFrom,Bool.and_eq_true] at hB hF
  obtain ⟨⟨hr,hf⟩,hB'⟩:=hB
  obtain ⟨E',lo',st,h⟩:=vcOpI_spec hm0 h
  refine AAny_first h0 l.length listed (lookD E) (lookD E') lo lo' (fun j oj hj hne hun hno hre=>⟨Region.free_spec h0 hf j oj hj hne hun hno,effFree_spec h0 hF.1 j oj hj hne hun hre⟩) hcl hn (by simpa using hr) st ?_
  exact AAny_lex hm0 hK l (k + 1) _ E' lo' (fun j=>by have:=hl (j + 1); simpa [Nat.add_assoc,Nat.add_comm 1 j] using this) (hcl.set (by simpa using hr)) (st.grow hn) hB' hF.2 h
theorem vcRegion_draw {inl:List Nat} {mm:Bool} {n0:Nat} {bs:(Base Lw)} {ρ:List Value} {H:(PH Lw)} {E:Env} {lo:List AObj} {a:Act} {w:World} {K:Env → List AObj → Prop} {id:Nat} {l:List Oper} (hm:P.follows .mixedOrders = true) (hm0:mm = false → n0 = 0) (hn:mm = true → n0 ≤ lo.length)
  (hB:drawOk inl mm l.toArray = true) (hQ:∀ ρ H E lo a w,Sat bs N ρ H (lookD E) lo a w → K E lo → Q .normal a w) (s:Sat bs N ρ H (lookD E) lo a w) (h:vcOpsI P inl mm n0 N l K l E lo):(Code.region id l.toArray true).wp P Q a w:=by
 simp only [drawOk,Go.Region.lexB,Bool.and_eq_true] at hB
 have s':Sat bs N ρ H (lookD E) lo a { w with drawn:=w.drawn + 1 }:=by
  refine { (s.toSatW.calm (H':=H) (w':={ w with drawn:=w.drawn + 1 }) ⟨PH.le.refl H,⟨s.sath.cell,s.sath.root,s.sath.low,s.sath.nf⟩,⟨rfl,rfl,rfl,Nat.le_refl _,fun _ _ _=>rfl⟩,fun b o v h=>.inl ⟨v,h⟩⟩) with slots:=s.slots,width:=s.width,defers:=s.defers }
 refine wp_region_any hm (wpAny_of_AAny (inl:=inl) (m:=mm) (n0:=n0) (K:=fun e lo=>∃ E,lookD E = e ∧ K E lo) (fun ρ H e lo a w s ⟨E,hE,hk⟩=>hQ ρ H E lo a w (by rw [hE]; exact s) hk) _ _ ρ H (lookD E) lo a _ s' ?_)
 have:=AAny_lex (P:=P) (inl:=inl) (m:=mm) (n0:=n0) (N:=N) hm0 (K:=fun e lo=>∃ E,lookD E = e ∧ K E lo) (K':=K) (fun E lo hk=>⟨E,rfl,hk⟩) l 0 (Array.replicate l.toArray.size false) E lo (by simp) (fun k ok hk hl=>by simp only [Array.getD_eq_getD_getElem?,Array.getElem?_replicate] at hl; split at hl <;> cases hl) hn (by simpa using hB.1.2) (by simpa using hB.2) h
 simpa using this
inductive Plan where
 | done
 | one (i:Nat) (p:Plan)
 | two (i:Nat) (p:Plan) (j:Nat) (q:Plan)
def planB (inl:List Nat) (m:Bool) (ops:Array Oper):Plan → Nat → Array Bool → Bool
 | .done,0,l=>(Region.ready .any ops l).isEmpty
 | .one i p,f + 1,l=>(Region.ready .any ops l).contains i && Region.free .any ops l i && Region.effFree inl m ops l i && planB inl m ops p f (l.setIfInBounds i true)
 | .two i p j q,f + 1,l=>Region.ready .any ops l == [i,j] && planB inl m ops p f (l.setIfInBounds i true) && planB inl m ops q f (l.setIfInBounds j true)
 | _,_,_=>false
def vcPlan (P:Program) (inl:List Nat) (m:Bool) (n0 N:Nat) (ops:List Oper) (K:Env → List AObj → Prop):Plan → Env → List AObj → Prop
 | .done,E,lo=>K E lo
 | .one i p,E,lo=>nthK i ops fun o=>vcOpI P inl m n0 N ops o E lo (vcPlan P inl m n0 N ops K p)
 | .two i p j q,E,lo=>(nthK i ops fun o=>vcOpI P inl m n0 N ops o E lo (vcPlan P inl m n0 N ops K p)) ∧ (nthK j ops fun o=>vcOpI P inl m n0 N ops o E lo (vcPlan P inl m n0 N ops K q))
theorem AAny_plan {inl:List Nat} {m:Bool} {n0:Nat} (hm0:m = false → n0 = 0) {K:(Nat → FV) → List AObj → Prop} {K':Env → List AObj → Prop} {all:List Oper} (hK:∀ E lo,K' E lo → K (lookD E) lo) :
  ∀ (p:Plan) (f:Nat) (listed:Array Bool) (E:Env) (lo:List AObj),Closed all.toArray listed → (m = true → n0 ≤ lo.length) →
  planB inl m all.toArray p f listed = true → vcPlan P inl m n0 N all K' p E lo → AAny P inl m n0 N all.toArray K f listed (lookD E) lo
 | .done,0,listed,E,lo,_,_,hB,h=>⟨by simpa [planB] using hB,hK E lo h⟩
 | .one i p,f + 1,listed,E,lo,hcl,hn,hB,h=>by
  simp only [planB,Bool.and_eq_true] at hB
  obtain ⟨⟨⟨hr,hf⟩,hF⟩,hB'⟩:=hB
  obtain ⟨o,ho,h⟩:=nthK_spec h
  have h0:all.toArray[i]? = some o:=by simpa using ho
  obtain ⟨E',lo',st,h⟩:=vcOpI_spec hm0 h
  refine AAny_first h0 f listed (lookD E) (lookD E') lo lo' (fun j oj hj hne hun hno hre=>⟨Region.free_spec h0 hf j oj hj hne hun hno,effFree_spec h0 hF j oj hj hne hun hre⟩) hcl hn (by simpa using hr) st ?_
  exact AAny_plan hm0 hK p f _ E' lo' (hcl.set (by simpa using hr)) (st.grow hn) hB' h
 | .two i p j q,f + 1,listed,E,lo,hcl,hn,hB,h=>by
  simp only [planB,Bool.and_eq_true,beq_iff_eq] at hB
  obtain ⟨⟨hr,hp⟩,hq⟩:=hB
  refine ⟨fun e=>(by rw [hr] at e; cases e),fun k hk=>?_⟩
  have hc:=hcl.set hk
  rw [hr] at hk
  have hk:k = i ∨ k = j:=by simpa using hk
  rcases hk with rfl | rfl
  ·obtain ⟨o,ho,h⟩:=nthK_spec h.1
   obtain ⟨E',lo',st,h⟩:=vcOpI_spec hm0 h
   exact ⟨o,_,_,by simpa using ho,st,AAny_plan hm0 hK p f _ E' lo' hc (st.grow hn) hp h⟩
  ·obtain ⟨o,ho,h⟩:=nthK_spec h.2
   obtain ⟨E',lo',st,h⟩:=vcOpI_spec hm0 h
   exact ⟨o,_,_,by simpa using ho,st,AAny_plan hm0 hK q f _ E' lo' hc (st.grow hn) hq h⟩
 | .done,_ + 1,_,_,_,_,_,hB,_=>by simp [planB] at hB
 | .one ..,0,_,_,_,_,_,hB,_=>by simp [planB] at hB
 | .two ..,0,_,_,_,_,_,hB,_=>by simp [planB] at hB
def readyB (ops:Array Oper) (listed:Array Bool) (l:List Nat):Bool:=Region.ready .any ops listed == l
def choiceB (ops:Array Oper):Bool:=!(ops.size == 4) || readyB ops #[false,false,false,false] [0] && readyB ops #[true,false,false,false] [1,2] && readyB ops #[true,true,false,false] [2] && readyB ops #[true,false,true,false] [1] &&
 readyB ops #[true,true,true,false] [3] && readyB ops #[true,true,true,true] []
def vcChoice (P:Program) (inl:List Nat) (N:Nat) (ops:List Oper) (K:Env → List AObj → Prop) (E:Env) (lo:List AObj):Prop :=
 match ops with
 | [o0,o1,o2,o3]=>vcOpI P inl false 0 N ops o0 E lo fun E lo =>
   vcOpI P inl false 0 N ops o1 E lo (fun E lo=>vcOpI P inl false 0 N ops o2 E lo (fun E lo=>vcOpI P inl false 0 N ops o3 E lo K)) ∧
   vcOpI P inl false 0 N ops o2 E lo (fun E lo=>vcOpI P inl false 0 N ops o1 E lo (fun E lo=>vcOpI P inl false 0 N ops o3 E lo K))
 | ops=>∃ p:Plan,planB inl true ops.toArray p ops.length (Array.replicate ops.length false) = true ∧ lenK lo 0 fun n0=>vcPlan P inl true n0 N ops K p E lo
theorem vcRegion_choice {inl:List Nat} {bs:(Base Lw)} {ρ:List Value} {H:(PH Lw)} {E:Env} {lo:List AObj} {a:Act} {w:World} {K:Env → List AObj → Prop} {id:Nat} {l:List Oper} (hm:P.follows .mixedOrders = true)
  (hB:choiceB l.toArray = true) (hQ:∀ ρ H E lo a w,Sat bs N ρ H (lookD E) lo a w → K E lo → Q .normal a w) (s:Sat bs N ρ H (lookD E) lo a w) (h:vcChoice P inl N l K E lo):(Code.region id l.toArray true).wp P Q a w:=by
 have s':Sat bs N ρ H (lookD E) lo a { w with drawn:=w.drawn + 1 }:=by
  refine { (s.toSatW.calm (H':=H) (w':={ w with drawn:=w.drawn + 1 }) ⟨PH.le.refl H,⟨s.sath.cell,s.sath.root,s.sath.low,s.sath.nf⟩,⟨rfl,rfl,rfl,Nat.le_refl _,fun _ _ _=>rfl⟩,fun b o v h=>.inl ⟨v,h⟩⟩) with slots:=s.slots,width:=s.width,defers:=s.defers }
 unfold vcChoice at h
 split at h
 ·rename_i o0 o1 o2 o3
  simp only [choiceB,readyB,List.size_toArray,List.length_cons,List.length_nil,beq_self_eq_true,Bool.not_true,Bool.false_or,Bool.and_eq_true,beq_iff_eq] at hB
  obtain ⟨⟨⟨⟨⟨r0,r1⟩,r2⟩,r3⟩,r4⟩,r5⟩:=hB
  refine wp_region_any hm (wpAny_of_AAny (inl:=inl) (m:=false) (n0:=0) (K:=fun e lo=>∃ E,lookD E = e ∧ K E lo) (fun ρ H e lo a w s ⟨E,hE,hk⟩=>hQ ρ H E lo a w (by rw [hE]; exact s) hk) 4 _ ρ H (lookD E) lo a _ s' ?_)
  obtain ⟨E0,lo0,st0,h1,h2⟩:=vcOpI_spec (fun _=>rfl) h
  have last:∀ {E lo},vcOpI P inl false 0 N [o0,o1,o2,o3] o3 E lo K → AAny P inl false 0 N #[o0,o1,o2,o3] (fun e lo=>∃ E,lookD E = e ∧ K E lo) 1 #[true,true,true,false] (lookD E) lo:=by
   intro E lo h
   obtain ⟨E4,lo4,st4,h⟩:=vcOpI_spec (fun _=>rfl) h
   refine ⟨fun e=>(by rw [r4] at e; cases e),fun i hi=>?_⟩
   rw [r4] at hi
   obtain rfl:i = 3:=by simpa using hi
   exact ⟨o3,_,_,rfl,st4,r5,E4,rfl,h⟩
  refine ⟨fun e=>(by rw [show Array.replicate (List.toArray [o0,o1,o2,o3]).size false = #[false,false,false,false] from rfl,r0] at e; cases e),fun i hi=>?_⟩
  rw [show Array.replicate (List.toArray [o0,o1,o2,o3]).size false = #[false,false,false,false] from rfl,r0] at hi
  obtain rfl:i = 0:=by simpa using hi
  refine ⟨o0,_,_,rfl,st0,?_⟩
  refine ⟨fun e=>(by rw [show (Array.replicate (List.toArray [o0,o1,o2,o3]).size false).setIfInBounds 0 true = #[true,false,false,false] from rfl,r1] at e; cases e),fun i hi=>?_⟩
  rw [show (Array.replicate (List.toArray [o0,o1,o2,o3]).size false).setIfInBounds 0 true = #[true,false,false,false] from rfl,r1] at hi
  have hi:i = 1 ∨ i = 2:=by simpa using hi
  rcases hi with rfl | rfl
  ·obtain ⟨E1,lo1,st1,h1⟩:=vcOpI_spec (fun _=>rfl) h1
   obtain ⟨E2,lo2,st2,h1⟩:=vcOpI_spec (fun _=>rfl) h1
   refine ⟨o1,_,_,rfl,st1,fun e=>(by rw [show ((Array.replicate (List.toArray [o0,o1,o2,o3]).size false).setIfInBounds 0 true).setIfInBounds 1 true = #[true,true,false,false] from rfl,r2] at e; cases e),fun i hi=>?_⟩
   rw [show ((Array.replicate (List.toArray [o0,o1,o2,o3]).size false).setIfInBounds 0 true).setIfInBounds 1 true = #[true,true,false,false] from rfl,r2] at hi
   obtain rfl:i = 2:=by simpa using hi
   exact ⟨o2,_,_,rfl,st2,last h1⟩
  ·obtain ⟨E1,lo1,st1,h2⟩:=vcOpI_spec (fun _=>rfl) h2
   obtain ⟨E2,lo2,st2,h2⟩:=vcOpI_spec (fun _=>rfl) h2
   refine ⟨o2,_,_,rfl,st1,fun e=>(by rw [show ((Array.replicate (List.toArray [o0,o1,o2,o3]).size false).setIfInBounds 0 true).setIfInBounds 2 true = #[true,false,true,false] from rfl,r3] at e; cases e),fun i hi=>?_⟩
   rw [show ((Array.replicate (List.toArray [o0,o1,o2,o3]).size false).setIfInBounds 0 true).setIfInBounds 2 true = #[true,false,true,false] from rfl,r3] at hi
   obtain rfl:i = 1:=by simpa using hi
   exact ⟨o1,_,_,rfl,st2,last h2⟩
 ·obtain ⟨p,hp,h⟩:=h
  have h:=lenK_spec h
  rw [Nat.zero_add] at h
  refine wp_region_any hm (wpAny_of_AAny (inl:=inl) (m:=true) (n0:=lo.length) (K:=fun e lo=>∃ E,lookD E = e ∧ K E lo) (fun ρ H e lo a w s ⟨E,hE,hk⟩=>hQ ρ H E lo a w (by rw [hE]; exact s) hk) _ _ ρ H (lookD E) lo a _ s' ?_)
  have:=AAny_plan (P:=P) (inl:=inl) (m:=true) (n0:=lo.length) (N:=N) (fun h=>by cases h) (K:=fun e lo=>∃ E,lookD E = e ∧ K E lo) (K':=K) (fun E lo hk=>⟨E,rfl,hk⟩) p l.length (Array.replicate l.length false) E lo (fun k ok hk hl=>by simp only [Array.getD_eq_getD_getElem?,Array.getElem?_replicate] at hl; split at hl <;> cases hl) (fun _=>Nat.le_refl _) hp h
  simpa using this
end
end Ax
end
section
namespace Ax
open Go
variable {Lw:Nat}
abbrev KA:=AX → Env → List AObj → Prop
def AXis (x:AX) (e:Exit):Prop :=
 match x,e with
 | .normal,.normal=>True
 | .exit i,.exit j=>i = j
 | .ret,.ret=>True
 | _,_=>False
def PostA (bs:(Base Lw)) (N:Nat) (K:KA):Exit → Act → World → Prop:=fun e a w=>∃ x ρ H E lo,AXis x e ∧ Sat bs N ρ H (lookD E) lo a w ∧ K x E lo
def drawsOk (inl:List Nat):Code → Bool
 | .seq a b=>drawsOk inl a && drawsOk inl b
 | .cond _ t e=>drawsOk inl t && drawsOk inl e
 | .block _ c=>drawsOk inl c
 | .loop c=>drawsOk inl c
 | .region id ops d=>!d || (match memB inl (90000000 + id) with | true=>choiceB ops | false=>drawOk inl (looseB inl id) ops)
 | _=>true
def WpA (P:Program) (N nb:Nat) (c:Code) (K:KA) (E:Env) (lo:List AObj):Prop :=
 ∀ ⦃Lw:Nat⦄ (bs:(Base Lw)) (ρ:List Value) (H:(PH Lw)) (a:Act) (w:World),bs.r0.length = nb → Sat bs N ρ H (lookD E) lo a w → c.wp P (PostA bs N K) a w
def LoopA (P:Program) (inl:List Nat) (N nb:Nat) (body:Code) (K:KA) (E:Env) (lo:List AObj):Prop :=
 P.follows .mixedOrders = true → drawsOk inl body = true → WpA P N nb (.loop body) K E lo
def SeqA (P:Program) (inl:List Nat) (N nb:Nat) (a b:Code) (K:KA) (E:Env) (lo:List AObj):Prop :=
 P.follows .mixedOrders = true → drawsOk inl a = true → drawsOk inl b = true → WpA P N nb (.seq a b) K E lo
def exitsN (id:Nat):Code → Nat
 | .seq a b=>exitsN id a + exitsN id b
 | .cond _ t e=>exitsN id t + exitsN id e
 | .block _ c=>exitsN id c
 | .loop c=>exitsN id c
 | .exit i=>match Nat.beq i id with | true=>1 | false=>0
 | _=>0
def waysN:Code → Nat
 | .seq a b=>match waysN a with | 0=>0 | _=>waysN b
 | .cond _ t e=>waysN t + waysN e
 | .block id c=>waysN c + exitsN id c
 | .loop _=>0
 | .exit _=>0
 | .ret=>0
 | _=>1
def isCond:Code → Bool
 | .cond _ _ _=>true
 | .seq _ b=>isCond b
 | _=>false
def joinB (inl:List Nat) (a:Code):Bool:=match memB inl 1000000 with
 | true=>(match Nat.ble 2 (waysN a) with
  | true=>true
  | false=>match memB inl 1000001 with
   | true=>isCond a
   | false=>false)
 | false=>false
def vc (P:Program) (inl:List Nat) (N nb:Nat):Code → KA → Env → List AObj → Prop
 | .skip,K,E,lo=>K .normal E lo
 | .seq a b,K,E,lo=>match joinB inl a with
  | true=>SeqA P inl N nb a b K E lo
  | false=>vc P inl N nb a (fun x E lo=>match x with | .normal=>vc P inl N nb b K E lo | .exit i=>K (.exit i) E lo | .ret=>K .ret E lo) E lo
 | .cond c t e,K,E,lo=>ev E c fun v=>match v with
  | .p (.bool b)=>(b = true → vc P inl N nb t K E lo) ∧ (b = false → vc P inl N nb e K E lo)
  | _=>False
 | .block id c,K,E,lo=>vc P inl N nb c (fun x E lo=>match x with
   | .exit i=>(match Nat.beq i id with | true=>K .normal E lo | false=>K (.exit i) E lo)
   | .normal=>K .normal E lo
   | .ret=>K .ret E lo) E lo
 | .exit id,K,E,lo=>K (.exit id) E lo
 | .ret,K,E,lo=>K .ret E lo
 | .region id ⟨ops⟩ d,K,E,lo=>match d with
  | false=>vcOpsS P inl N ops (K .normal) ops E lo
  | true=>match memB inl (90000000 + id) with
   | true=>vcChoice P inl N ops (K .normal) E lo
   | false=>match looseB inl id with
    | false=>vcOpsI P inl false 0 N ops (K .normal) ops E lo
    | true=>lenK lo 0 fun n0=>vcOpsI P inl true n0 N ops (K .normal) ops E lo
 | .loop body,K,E,lo=>LoopA P inl N nb body K E lo
 | c,K,E,lo=>WpA P N nb c K E lo
theorem PostA.mono {bs:(Base Lw)} {N:Nat} {K K':KA} (h:∀ x E lo,K x E lo → K' x E lo) {e:Exit} {a:Act} {w:World} (p:PostA bs N K e a w):PostA bs N K' e a w :=
 let ⟨x,ρ,H,E,lo,hx,s,k⟩:=p
 ⟨x,ρ,H,E,lo,hx,s,h x E lo k⟩
theorem WpA.mono {P:Program} {N nb:Nat} {c:Code} {K K':KA} {E:Env} {lo:List AObj} (h:∀ x E lo,K x E lo → K' x E lo) (w:WpA P N nb c K E lo):WpA P N nb c K' E lo :=
 fun Lw bs ρ H a ww hb s=>wp_mono (w bs ρ H a ww hb s) fun _ _ _ p=>p.mono h
theorem vc_sound {P:Program} {inl:List Nat} (hm:P.follows .mixedOrders = true) {N nb:Nat}:∀ (c:Code) (K:KA) (E:Env) (lo:List AObj),drawsOk inl c = true → vc P inl N nb c K E lo → WpA P N nb c K E lo
 | .skip,K,E,lo,_,h=>fun Lw bs ρ H a w hb s=>wp_skip ⟨.normal,ρ,H,E,lo,trivial,s,h⟩
 | .seq x y,K,E,lo,hd,h=>fun Lw bs ρ H a w hb s=>by
  simp only [drawsOk,Bool.and_eq_true] at hd
  simp only [vc] at h
  split at h
  ·exact h hm hd.1 hd.2 bs ρ H a w hb s
  refine wp_seq (wp_mono (vc_sound hm x _ E lo hd.1 h bs ρ H a w hb s) fun e a w p=>?_)
  obtain ⟨x',ρ',H',E',lo',hx,s',k⟩:=p
  cases x' <;> cases e <;> simp only [AXis] at hx
  ·exact vc_sound hm y K E' lo' hd.2 k bs ρ' H' a w hb s'
  ·exact ⟨.exit _,ρ',H',E',lo',hx,s',k⟩
  ·exact ⟨.ret,ρ',H',E',lo',trivial,s',k⟩
 | .cond c t e,K,E,lo,hd,h=>fun Lw bs ρ H a w hb s=>by
  simp only [drawsOk,Bool.and_eq_true] at hd
  simp only [vc,ev_eq] at h
  have hc:=evF_rep s.slots c
  split at h
  ·rename_i b hbv
   rw [hbv] at hc
   exact wp_cond_split (rep_bool hc) (fun hc'=>vc_sound hm t K E lo hd.1 (h.1 hc') bs ρ H a w hb s) (fun hc'=>vc_sound hm e K E lo hd.2 (h.2 hc') bs ρ H a w hb s)
  ·exact h.elim
 | .block id c,K,E,lo,hd,h=>fun Lw bs ρ H a w hb s=>by
  refine wp_block (wp_mono (vc_sound hm c _ E lo hd h bs ρ H a w hb s) fun e a w p=>?_)
  obtain ⟨x',ρ',H',E',lo',hx,s',k⟩:=p
  cases x' <;> cases e <;> simp only [AXis] at hx
  ·exact ⟨.normal,ρ',H',E',lo',trivial,s',k⟩
  ·rename_i i j
   subst hx
   simp only [Exit.inBlock]
   by_cases hi:i = id
   ·subst hi
    simp only [Nat.beq_refl] at k
    simp only [if_true]
    exact ⟨.normal,ρ',H',E',lo',trivial,s',k⟩
   ·have:Nat.beq i id = false:=by
     cases hb:Nat.beq i id with
     | false=>rfl
     | true=>exact absurd (Nat.eq_of_beq_eq_true hb) hi
    simp only [this] at k
    simp only [hi,if_false]
    exact ⟨.exit i,ρ',H',E',lo',rfl,s',k⟩
  ·exact ⟨.ret,ρ',H',E',lo',trivial,s',k⟩
 | .exit id,K,E,lo,_,h=>fun Lw bs ρ H a w hb s=>wp_exit ⟨.exit id,ρ,H,E,lo,rfl,s,h⟩
 | .ret,K,E,lo,_,h=>fun Lw bs ρ H a w hb s=>wp_ret ⟨.ret,ρ,H,E,lo,trivial,s,h⟩
 | .region id ⟨ops⟩ d,K,E,lo,hd,h=>fun Lw bs ρ H a w hb s=>by
  have hQ:∀ ρ H E lo a w,Sat bs N ρ H (lookD E) lo a w → K .normal E lo → PostA bs N K .normal a w:=fun ρ H E lo a w s k=>⟨.normal,ρ,H,E,lo,trivial,s,k⟩
  cases d with
  | false=>exact vcRegion_textS (P:=P) (l:=ops) hQ s h
  | true =>
   have hB:(match memB inl (90000000 + id) with | true=>choiceB ops.toArray | false=>drawOk inl (looseB inl id) ops.toArray) = true:=by simpa [drawsOk] using hd
   simp only [vc] at h
   split at h
   ·rename_i hc
    rw [hc] at hB
    exact vcRegion_choice hm hB hQ s h
   ·rename_i hc
    rw [hc] at hB
    replace hB:drawOk inl (looseB inl id) ops.toArray = true:=hB
    split at h
    ·rename_i hl
     rw [hl] at hB
     exact vcRegion_draw hm (fun _=>rfl) (fun h=>by cases h) hB hQ s h
    ·rename_i hl
     rw [hl] at hB
     have h:=lenK_spec h
     rw [Nat.zero_add] at h
     exact vcRegion_draw hm (fun h=>by cases h) (fun _=>Nat.le_refl _) hB hQ s h
 | .loop body,K,E,lo,hd,h=>h hm hd
 | .rangeFunc ..,K,E,lo,_,h=>h
 | .scope _,K,E,lo,_,h=>h
 | .label _,K,E,lo,_,h=>h
 | .goto _,K,E,lo,_,h=>h
 | .refuse _,K,E,lo,_,h=>h
def FV.ren (π:Nat → Nat):FV → FV
 | .opt g v=>.opt g (v.ren π)
 | .tsl k rows=>.tsl (π k) rows
 | .ptr k off=>.ptr (π k) off
 | .bself k=>.bself (π k)
 | .bsl k off len cp=>.bsl (π k) off len cp
 | .vsl k n=>.vsl (π k) n
 | .eptr k z i off=>.eptr (π k) z i off
 | .mref k=>.mref (π k)
 | .pair a b=>.pair (a.ren π) (b.ren π)
 | .stmp k=>.stmp (π k)
 | .clo f c=>.clo f (c.ren π)
 | .cap a b=>.cap (a.ren π) (b.ren π)
 | .fagg c=>.fagg (c.ren π)
 | .asl k off n=>.asl (π k) off n
 | .ifs t c=>.ifs t (c.ren π)
 | v=>v
def leF (π:Nat → Nat) (fresh:List Nat) (v v':FV):Prop :=
 match v' with
 | .top=>True
 | .p p'=>match v with
  | .p p=>p = p' ∨ nle p p'
  | .tsl _ rows=>PV.sl rows = p'
  | .clo f c=>capsK c fun cs=>PV.clo f cs = p'
  | .fagg c=>capsK c fun cs=>PV.agg cs = p'
  | _=>False
 | .tsl k' rows'=>match v with
  | .tsl k rows=>k = π k' ∧ rows = rows' ∧ k' ∉ fresh
  | .p .nilsl=>rows' = [] ∧ k' ∈ fresh
  | _=>False
 | .ptr k' off'=>match v with
  | .ptr k off=>k = π k' ∧ off = off' ∧ k' ∉ fresh
  | _=>False
 | .bself k'=>match v with
  | .bself k=>k = π k' ∧ k' ∉ fresh
  | .ptr k off=>k = π k' ∧ off = 0 ∧ k' ∉ fresh
  | _=>False
 | .bsl k' off' len' cap'=>match v with
  | .bsl k off len cap=>k = π k' ∧ off = off' ∧ len = len' ∧ cap = cap' ∧ k' ∉ fresh
  | _=>False
 | .hptr row'=>match v with
  | .hptr row=>row = row'
  | _=>False
 | .vsl k' n'=>match v with
  | .vsl k n=>k = π k' ∧ n = n' ∧ k' ∉ fresh
  | .p .nilsl=>n' = 0 ∧ k' ∈ fresh
  | _=>False
 | .eptr k' z' i' off'=>match v with
  | .eptr k z i off=>k = π k' ∧ z = z' ∧ i = i' ∧ off = off' ∧ k' ∉ fresh
  | _=>False
 | .mref k'=>match v with
  | .mref k=>k = π k' ∧ k' ∉ fresh
  | _=>False
 | .pair a' b'=>match v with
  | .pair a b=>leF π fresh a a' ∧ leF π fresh b b'
  | _=>False
 | .stmp k'=>match v with
  | .stmp k=>k = π k' ∧ k' ∉ fresh
  | _=>False
 | .clo f' c'=>match v with
  | .clo f c=>f = f' ∧ leF π fresh c c'
  | _=>False
 | .cap0=>match v with
  | .cap0=>True
  | _=>False
 | .cap a' b'=>match v with
  | .cap a b=>leF π fresh a a' ∧ leF π fresh b b'
  | _=>False
 | .fagg c'=>match v with
  | .fagg c=>leF π fresh c c'
  | _=>False
 | .nxt ok' a' b'=>match v with
  | .nxt ok a b=>ok = ok' ∧ a = a' ∧ b = b'
  | _=>False
 | .asl k' off' n'=>match v with
  | .asl k off n=>k = π k' ∧ off = off' ∧ n = n' ∧ k' ∉ fresh
  | _=>False
 | .ifs t' c'=>match v with
  | .ifs t c=>t = t' ∧ leF π fresh c c'
  | _=>False
 | .cut rows'=>match v with
  | .cut rows=>rows = rows'
  | _=>False
 | .opt _ _=>False
def leC (π:Nat → Nat) (fresh:List Nat) (k':Nat) (v v':FV):Prop :=
 match v,v' with
 | .p .nilp,.bself k=>k = k' ∧ k ∉ fresh
 | v,v'=>leF π fresh v v'
def leObj (π:Nat → Nat) (fresh:List Nat) (k':Nat) (o o':AObj):Prop :=
 match o' with
 | .dead=>True
 | .box t' cells'=>match o with
  | .box t cells=>t = t' ∧ cells.length = cells'.length ∧ ∀ (i:Nat) (c c':FV),cells[i]? = some c → cells'[i]? = some c' → leC π fresh k' c c'
  | _=>False
 | .tail e z n=>o = .tail e z n
 | .vec e z rows=>o = .vec e z rows
 | .mp d es mk'=>mk' = none ∧ ∃ mk,o = .mp d es mk
 | .sit l p=>o = .sit l p
 | .bv l=>o = .bv l
 | .vl e z rows j k'=>k' ∉ fresh ∧ o = .vl e z rows j (π k')
 | .pbx t' c'=>match o with
  | .pbx t c=>t = t' ∧ leF π fresh c c'
  | _=>False
structure Weak (nb:Nat) (E:Env) (lo:List AObj) (E':Env) (lo':List AObj) (π:Nat → Nat) (fresh:List Nat):Prop where
 bounds:∀ k,k < lo'.length → k ∉ fresh → π k < lo.length
 keep:∀ k,k < nb → π k = k ∧ k ∉ fresh
 nb:nb ≤ lo'.length
 inj:∀ i j oi oj,lo'[i]? = some oi → lo'[j]? = some oj → oi.live = true → oj.live = true → i ∉ fresh → j ∉ fresh → π i = π j → i = j
 frsh:∀ k,k ∈ fresh → ∃ e z,lo'[k]? = some (.tail e z 0) ∨ lo'[k]? = some (.vec e z []) ∨ ∃ j k2,lo'[k]? = some (.vl e z [] j k2)
 obj:∀ k o',lo'[k]? = some o' → k ∉ fresh → ∃ o,lo[π k]? = some o ∧ leObj π fresh k o o'
 slot:∀ t v,(t,v) ∈ E' → leF π fresh (lookD E t) v
theorem lookD_mem:∀ {E:Env} {t:Nat},lookD E t = .top ∨ (t,lookD E t) ∈ E
 | [],t=>.inl rfl
 | (t',v) :: E,t=>by
  simp only [lookD]
  cases hb:Nat.beq t t' with
  | true =>
   have:=Nat.eq_of_beq_eq_true hb
   subst this
   exact .inr (by simp)
  | false =>
   rcases lookD_mem (E:=E) (t:=t) with h | h
   ·exact .inl h
   ·exact .inr (by simp [h])
def renρ (ρ:List Value) (π:Nat → Nat) (fresh:List Nat) (n:Nat):List Value:=(List.range n).map fun k=>if k ∈ fresh then .slice none 0 0 else ρ.getD (π k) undef
theorem renρ_get {ρ:List Value} {π:Nat → Nat} {fresh:List Nat} {n k:Nat} (h:k < n):(renρ ρ π fresh n)[k]? = some (if k ∈ fresh then .slice none 0 0 else ρ.getD (π k) undef):=by
 simp [renρ,h]
def FV.names:FV → List Nat
 | .opt _ v=>v.names
 | .tsl k _=>[k]
 | .ptr k _=>[k]
 | .bself k=>[k]
 | .bsl k _ _ _=>[k]
 | .vsl k _=>[k]
 | .eptr k _ _ _=>[k]
 | .mref k=>[k]
 | .pair a b=>a.names ++ b.names
 | .stmp k=>[k]
 | .clo _ c=>c.names
 | .fagg c=>c.names
 | .asl k _ _=>[k]
 | .ifs _ c=>c.names
 | .cap a b=>a.names ++ b.names
 | _=>[]
theorem leF_rep {ρ:List Value} {H:(PH Lw)} {π:Nat → Nat} {fresh:List Nat} {n:Nat} {v v':FV} {x:Value} (h:leF π fresh v v') (hn:∀ k ∈ v'.names,k < n) (r:RepF ρ H v x) :
  RepF (renρ ρ π fresh n) H v' x:=by
 induction v' generalizing v x with
 | top=>trivial
 | p p' =>
  cases v <;> simp only [leF] at h
  ·rename_i p
   rcases h with rfl | h
   ·exact r
   ·exact nle_rep h r
  ·subst h; exact r.2
  ·obtain ⟨ps,e,hps⟩:=capsK_spec h
   subst e
   obtain ⟨vs,e,r⟩:=r
   simp only [RepF,RepP]
   exact ⟨vs,e,hps _ _ _ r⟩
  ·obtain ⟨ps,e,hps⟩:=capsK_spec h
   subst e
   obtain ⟨vs,e,r⟩:=r
   simp only [RepF,RepP]
   exact ⟨vs,e,hps _ _ _ r⟩
 | opt g v' _=>simp [leF] at h
 | tsl k' rows' =>
  have hk:=hn k' (by simp [FV.names])
  cases v <;> simp only [leF] at h
  ·rename_i p
   cases p <;> simp only at h
   obtain ⟨rfl,hf⟩:=h
   simp only [RepF,RepP] at r ⊢
   subst r
   exact ⟨by rw [renρ_get hk]; simp [hf],.inl ⟨trivial,.inl rfl⟩⟩
  ·rename_i k rows
   obtain ⟨rfl,rfl,hf⟩:=h
   obtain ⟨r1,r2⟩:=r
   refine ⟨?_,r2⟩
   rw [renρ_get hk]
   simp [hf,List.getD_eq_getElem?_getD,r1]
 | ptr k' off' =>
  have hk:=hn k' (by simp [FV.names])
  cases v <;> simp only [leF] at h
  rename_i k off
  obtain ⟨rfl,rfl,hf⟩:=h
  obtain ⟨b,r1,r2⟩:=r
  refine ⟨b,?_,r2⟩
  rw [renρ_get hk]
  simp [hf,List.getD_eq_getElem?_getD,r1]
 | hptr row =>
  cases v <;> simp only [leF] at h
  rw [h] at r
  exact r
 | bself k' =>
  have hk:=hn k' (by simp [FV.names])
  cases v <;> simp only [leF] at h
  ·rename_i k off
   obtain ⟨rfl,rfl,hf⟩:=h
   obtain ⟨b,r1,rfl⟩:=r
   refine ⟨b,?_,.inr rfl⟩
   rw [renρ_get hk]
   simp [hf,List.getD_eq_getElem?_getD,r1]
  ·rename_i k
   obtain ⟨rfl,hf⟩:=h
   obtain ⟨b,r1,r2⟩:=r
   refine ⟨b,?_,r2⟩
   rw [renρ_get hk]
   simp [hf,List.getD_eq_getElem?_getD,r1]
 | bsl k' off' len' cap' =>
  have hk:=hn k' (by simp [FV.names])
  cases v <;> simp only [leF] at h
  rename_i k off len cap
  obtain ⟨rfl,rfl,rfl,rfl,hf⟩:=h
  obtain ⟨b,r1,r2⟩:=r
  refine ⟨b,?_,r2⟩
  rw [renρ_get hk]
  simp [hf,List.getD_eq_getElem?_getD,r1]
 | vsl k' n' =>
  have hk:=hn k' (by simp [FV.names])
  cases v <;> simp only [leF] at h
  ·rename_i p
   cases p <;> simp only at h
   obtain ⟨rfl,hf⟩:=h
   simp only [RepF,RepP] at r ⊢
   subst r
   exact ⟨by rw [renρ_get hk]; simp [hf],.inl ⟨trivial,rfl⟩⟩
  ·rename_i k n
   obtain ⟨rfl,rfl,hf⟩:=h
   obtain ⟨r1,r2⟩:=r
   refine ⟨?_,r2⟩
   rw [renρ_get hk]
   simp [hf,List.getD_eq_getElem?_getD,r1]
 | eptr k' z' i' off' =>
  have hk:=hn k' (by simp [FV.names])
  cases v <;> simp only [leF] at h
  rename_i k z i off
  obtain ⟨rfl,rfl,rfl,rfl,hf⟩:=h
  obtain ⟨b,n,cap,r1,rfl⟩:=r
  refine ⟨b,n,cap,?_,rfl⟩
  rw [renρ_get hk]
  simp [hf,List.getD_eq_getElem?_getD,r1]
 | mref k' =>
  have hk:=hn k' (by simp [FV.names])
  cases v <;> simp only [leF] at h
  rename_i k
  obtain ⟨rfl,hf⟩:=h
  obtain ⟨b,r1,r2⟩:=r
  refine ⟨b,?_,r2⟩
  rw [renρ_get hk]
  simp [hf,List.getD_eq_getElem?_getD,r1]
 | pair a' b' iha ihb =>
  cases v <;> simp only [leF] at h
  obtain ⟨u,w,rfl,ra,rb⟩:=r
  exact ⟨u,w,rfl,iha h.1 (fun k hk=>hn k (by simp [FV.names,hk])) ra,ihb h.2 (fun k hk=>hn k (by simp [FV.names,hk])) rb⟩
 | stmp k' =>
  have hk:=hn k' (by simp [FV.names])
  cases v <;> simp only [leF] at h
  rename_i k
  obtain ⟨rfl,hf⟩:=h
  simp only [RepF] at r ⊢
  rw [renρ_get hk]
  simp [hf,List.getD_eq_getElem?_getD,r]
 | clo f' c' ih =>
  cases v <;> simp only [leF] at h
  obtain ⟨rfl,h⟩:=h
  obtain ⟨vs,rfl,rc⟩:=r
  exact ⟨vs,rfl,ih h (fun k hk=>hn k (by simp [FV.names,hk])) rc⟩
 | cap0 =>
  cases v <;> simp only [leF] at h
  exact r
 | fagg c' ih =>
  cases v <;> simp only [leF] at h
  obtain ⟨vs,rfl,rc⟩:=r
  exact ⟨vs,rfl,ih h (fun k hk=>hn k (by simp [FV.names,hk])) rc⟩
 | nxt ok' a' b' =>
  cases v <;> simp only [leF] at h
  obtain ⟨rfl,rfl,rfl⟩:=h
  exact r
 | ifs t' c' ih =>
  cases v <;> simp only [leF] at h
  obtain ⟨rfl,h⟩:=h
  obtain ⟨u,rfl,rc⟩:=r
  exact ⟨u,rfl,ih h (fun k hk=>hn k (by simp [FV.names,hk])) rc⟩
 | cut rows' =>
  cases v <;> simp only [leF] at h
  subst h
  exact r
 | asl k' off' n' =>
  have hk:=hn k' (by simp [FV.names])
  cases v <;> simp only [leF] at h
  rename_i k off n
  obtain ⟨rfl,rfl,rfl,hf⟩:=h
  obtain ⟨b,m,cap,c,r1,rfl⟩:=r
  refine ⟨b,m,cap,c,?_,rfl⟩
  rw [renρ_get hk]
  simp [hf,List.getD_eq_getElem?_getD,r1]
 | cap a' b' iha ihb =>
  cases v <;> simp only [leF] at h
  obtain ⟨u,w,rfl,ra,rb⟩:=r
  exact ⟨u,w,rfl,iha h.1 (fun k hk=>hn k (by simp [FV.names,hk])) ra,ihb h.2 (fun k hk=>hn k (by simp [FV.names,hk])) rb⟩
theorem leC_rep {ρ:List Value} {H:(PH Lw)} {π:Nat → Nat} {fresh:List Nat} {n k' b:Nat} {v v':FV} {x:Value} (hk:(renρ ρ π fresh n)[k']? = some (.pointer (some ⟨b,0,none⟩))) (h:leC π fresh k' v v') (hn:∀ k ∈ v'.names,k < n) (r:RepF ρ H v x) :
  RepF (renρ ρ π fresh n) H v' x:=by
 unfold leC at h
 split at h
 ·obtain ⟨rfl,_⟩:=h
  simp only [RepF,RepP] at r
  exact ⟨b,hk,.inl r⟩
 ·exact leF_rep h hn r
theorem RepFL.le {ρ:List Value} {H:(PH Lw)} {π:Nat → Nat} {fresh:List Nat} {n k' b:Nat} (hk:(renρ ρ π fresh n)[k']? = some (.pointer (some ⟨b,0,none⟩))):∀ {cs cs':List FV} {vs:List Value},cs.length = cs'.length →
  (∀ (i:Nat) (c c':FV),cs[i]? = some c → cs'[i]? = some c' → leC π fresh k' c c') → (∀ c ∈ cs',∀ k ∈ c.names,k < n) → RepFL ρ H cs vs → RepFL (renρ ρ π fresh n) H cs' vs
 | [],[],vs,_,_,_,r=>r
 | [],_ :: _,_,h,_,_,_=>by simp at h
 | _ :: _,[],_,h,_,_,_=>by simp at h
 | c :: cs,c' :: cs',vs,hl,hle,hn,r=>by
  obtain ⟨v,vs',rfl,r1,rs⟩:=r
  exact ⟨v,vs',rfl,leC_rep hk (hle 0 c c' rfl rfl) (hn c' (by simp)) r1,RepFL.le hk (by simpa using hl) (fun i=>hle (i + 1)) (fun c hc=>hn c (by simp [hc])) rs⟩
def namesOk (E:Env) (lo:List AObj):Prop:=(∀ t v,(t,v) ∈ E → ∀ k ∈ v.names,k < lo.length) ∧ (∀ t cells,AObj.box t cells ∈ lo → ∀ c ∈ cells,∀ k ∈ c.names,k < lo.length) ∧ (∀ e z rows j k,AObj.vl e z rows j k ∈ lo → k < lo.length) ∧ ∀ t c,AObj.pbx t c ∈ lo → ∀ k ∈ c.names,k < lo.length
theorem Sat.weak {bs:(Base Lw)} {N:Nat} {ρ:List Value} {H:(PH Lw)} {E E':Env} {lo lo':List AObj} {a:Act} {w:World} {π:Nat → Nat} {fresh:List Nat} (s:Sat bs N ρ H (lookD E) lo a w)
  (h:Weak bs.r0.length E lo E' lo' π fresh) (hn:namesOk E' lo'):Sat bs N (renρ ρ π fresh lo'.length) H (lookD E') lo' a w:=by
 have get:∀ {k:Nat} {v:Value},(renρ ρ π fresh lo'.length)[k]? = some v → k < lo'.length ∧ ((k ∈ fresh ∧ v = .slice none 0 0) ∨ (k ∉ fresh ∧ ρ[π k]? = some v)):=by
  intro k v hv
  have hk:k < lo'.length:=by have:=(List.getElem?_eq_some_iff.1 hv).1; simpa [renρ] using this
  rw [renρ_get hk] at hv
  refine ⟨hk,?_⟩
  by_cases hf:k ∈ fresh
  ·simp [hf] at hv; exact .inl ⟨hf,hv.symm⟩
  ·simp only [hf,if_false] at hv
   refine .inr ⟨hf,?_⟩
   have:=h.bounds k hk hf
   rw [← s.hlen] at this
   rw [List.getD_eq_getElem?_getD,List.getElem?_eq_getElem this] at hv
   rw [List.getElem?_eq_getElem this]
   simpa using hv
 refine { sath:=s.sath,hlen:=by simp [renρ],pre:=?_,objs:=?_,excl:=?_,own:=?_,keep:=s.keep,leH:=s.leH,newH:=s.newH,slots:=?_,width:=s.width,defers:=s.defers }
 ·obtain ⟨l,hl⟩:=s.pre
  have hlen:bs.r0.length ≤ lo'.length:=h.nb
  have:(renρ ρ π fresh lo'.length).take bs.r0.length = bs.r0:=by
   refine List.ext_getElem? fun i=>?_
   rw [List.getElem?_take]
   split
   ·rename_i hi
    rw [renρ_get (by omega)]
    obtain ⟨e1,e2⟩:=h.keep i hi
    simp only [e2,if_false,e1]
    rw [List.getD_eq_getElem?_getD,← hl,List.getElem?_append_left hi,List.getElem?_eq_getElem hi]
    rfl
   ·rename_i hi
    rw [List.getElem?_eq_none (by omega)]
  rw [← this]
  exact List.take_prefix _ _
 ·intro k o v hk hv
  obtain ⟨hlt,hc⟩:=get hv
  rcases hc with ⟨hf,rfl⟩ | ⟨hf,hρ⟩
  ·obtain ⟨e,z,he⟩:=h.frsh k hf
   rw [hk] at he
   rcases he with he | he | ⟨j,k2,he⟩
   ·cases he
    exact ⟨[],World.ownsRow_nil w 0 e z,fun b hb=>by simp [blkOf] at hb⟩
   ·cases he
    exact ⟨[],World.ownsRow_nil w 0 e z,rfl,fun u hu=>(by cases hu),fun b hb=>by simp [blkOf] at hb⟩
   ·cases he
    exact ⟨[],World.ownsRow_nil w 0 e z,rfl,fun u hu=>(by cases hu),fun b hb=>by simp [blkOf] at hb,fun u hu=>by simp at hu⟩
  ·obtain ⟨o0,ho0,hle⟩:=h.obj k o hk hf
   have hob:=s.objs _ _ _ ho0 hρ
   cases o with
   | dead=>trivial
   | box t' cells' =>
    cases o0 <;> simp only [leObj] at hle
    rename_i t cells
    obtain ⟨rfl,hl,hcs⟩:=hle
    obtain ⟨b,vs,rfl,hg,rc,hH⟩:=hob
    exact ⟨b,vs,rfl,hg,rc.le hv hl hcs (fun c hc k hk'=>hn.2.1 _ _ (List.mem_of_getElem? hk) c hc k hk'),hH⟩
   | tail e z n =>
    simp only [leObj] at hle
    subst hle
    exact hob
   | vec e z rows =>
    simp only [leObj] at hle
    subst hle
    exact hob
   | mp d es mk' =>
    simp only [leObj] at hle
    obtain ⟨rfl,mk,rfl⟩:=hle
    obtain ⟨b,ents,clock,rfl,hg,hr',⟨h1,h2,_⟩,hh⟩:=hob
    exact ⟨b,ents,clock,rfl,hg,hr',⟨h1,h2,fun key s e=>by cases e⟩,hh⟩
   | sit l p =>
    simp only [leObj] at hle
    subst hle
    exact hob
   | bv l =>
    simp only [leObj] at hle
    subst hle
    exact hob
   | vl e z rows j k' =>
    simp only [leObj] at hle
    obtain ⟨hf',rfl⟩:=hle
    obtain ⟨xs,ho,hr',h1,hh,hl⟩:=hob
    refine ⟨xs,ho,hr',h1,hh,fun u hu=>?_⟩
    rw [renρ_get (hn.2.2.1 _ _ _ _ _ (List.mem_of_getElem? hk))]
    simp [hf',List.getD_eq_getElem?_getD,hl u hu]
   | pbx t' c' =>
    cases o0 <;> simp only [leObj] at hle
    rename_i t c
    obtain ⟨rfl,hcs⟩:=hle
    obtain ⟨b,u,us,rfl,hg,rc,hH⟩:=hob
    exact ⟨b,u,us,rfl,hg,leF_rep hcs (hn.2.2.2 _ _ (List.mem_of_getElem? hk)) rc,hH⟩
 ·intro i j oi oj vi vj b hi hj hvi hvj hne hli hlj hb hb'
  obtain ⟨h1,c1⟩:=get hvi
  obtain ⟨h2,c2⟩:=get hvj
  rcases c1 with ⟨_,rfl⟩ | ⟨f1,r1⟩
  ·simp [blkOf] at hb
  ·rcases c2 with ⟨_,rfl⟩ | ⟨f2,r2⟩
   ·simp [blkOf] at hb'
   ·obtain ⟨o1,ho1,l1⟩:=h.obj i oi hi f1
    obtain ⟨o2,ho2,l2⟩:=h.obj j oj hj f2
    have live:∀ {k:Nat} {o o':AObj},leObj π fresh k o o' → o'.live = true → o.live = true:=by
     intro k o o' hle hl
     cases o' with
     | dead=>simp [AObj.live] at hl
     | box t c=>cases o <;> simp only [leObj] at hle; rfl
     | tail e z n=>simp only [leObj] at hle; subst hle; rfl
     | vec e z n=>simp only [leObj] at hle; subst hle; rfl
     | mp d es mk=>simp only [leObj] at hle; obtain ⟨_,_,rfl⟩:=hle; rfl
     | sit l p=>simp only [leObj] at hle; subst hle; rfl
     | bv l=>simp only [leObj] at hle; subst hle; rfl
     | vl e z rows j k'=>simp only [leObj] at hle; obtain ⟨_,rfl⟩:=hle; rfl
     | pbx t c=>cases o <;> simp only [leObj] at hle; rfl
    exact s.excl (π i) (π j) o1 o2 vi vj b ho1 ho2 r1 r2 (fun e=>hne (h.inj i j oi oj hi hj hli hlj f1 f2 e)) (live l1 hli) (live l2 hlj) hb hb'
 ·intro k o v b hk hv hl hb
  obtain ⟨h1,c1⟩:=get hv
  rcases c1 with ⟨_,rfl⟩ | ⟨f1,r1⟩
  ·simp [blkOf] at hb
  ·obtain ⟨o1,ho1,l1⟩:=h.obj k o hk f1
   refine s.own (π k) o1 v b ho1 r1 ?_ hb
   cases o with
   | dead=>simp [AObj.live] at hl
   | box t c=>cases o1 <;> simp only [leObj] at l1; rfl
   | tail e z n=>simp only [leObj] at l1; subst l1; rfl
   | vec e z n=>simp only [leObj] at l1; subst l1; rfl
   | mp d es mk=>simp only [leObj] at l1; obtain ⟨_,_,rfl⟩:=l1; rfl
   | sit l p=>simp only [leObj] at l1; subst l1; rfl
   | bv l=>simp only [leObj] at l1; subst l1; rfl
   | vl e z rows j k'=>simp only [leObj] at l1; obtain ⟨_,rfl⟩:=l1; rfl
   | pbx t c=>cases o1 <;> simp only [leObj] at l1; rfl
 ·intro t
  rcases lookD_mem (E:=E') (t:=t) with he | he
  ·rw [he]; trivial
  ·exact leF_rep (h.slot t _ he) (hn.1 t _ he) (s.slots t)
end Ax
end
section
namespace Ax
open Go
variable {Lw:Nat}
def leAll (E:Env) (π:Nat → Nat) (fresh:List Nat):Env → Prop
 | []=>True
 | (t,v) :: E'=>look E t (fun u=>leF π fresh u v) ∧ leAll E π fresh E'
def leCells (π:Nat → Nat) (fresh:List Nat) (k':Nat):List FV → List FV → Prop
 | [],[]=>True
 | c :: cs,c' :: cs'=>leC π fresh k' c c' ∧ leCells π fresh k' cs cs'
 | _,_=>False
def leOb (π:Nat → Nat) (fresh:List Nat) (k':Nat) (o o':AObj):Prop :=
 match o' with
 | .dead=>True
 | .box t' cells'=>match o with
  | .box t cells=>t = t' ∧ leCells π fresh k' cells cells'
  | _=>False
 | .tail e z n=>match o with
  | .tail e' z' n'=>e' = e ∧ z' = z ∧ n' = n
  | _=>False
 | .vec e z rows=>match o with
  | .vec e' z' rows'=>e' = e ∧ z' = z ∧ rows' = rows
  | _=>False
 | .mp d es mk=>match o with
  | .mp d' es' _=>mk = none ∧ d' = d ∧ es' = es
  | _=>False
 | .sit l p=>match o with
  | .sit l' p'=>l' = l ∧ p' = p
  | _=>False
 | .bv l=>match o with
  | .bv l'=>l' = l
  | _=>False
 | .vl e z rows j k'=>match o with
  | .vl e' z' rows' j2 k=>k' ∉ fresh ∧ e' = e ∧ z' = z ∧ rows' = rows ∧ j2 = j ∧ k = π k'
  | _=>False
 | .pbx t' c'=>match o with
  | .pbx t c=>t = t' ∧ leF π fresh c c'
  | _=>False
def leObs (lo:List AObj) (π:Nat → Nat) (fresh:List Nat):Nat → List AObj → Prop
 | _,[]=>True
 | k,o' :: lo'=>(match fresh.contains k with
   | true=>match o' with | .tail _ _ n=>n = 0 | .vec _ _ rows=>rows = [] | .vl _ _ rows _ _=>rows = [] | _=>False
   | false=>nthK (π k) lo fun o=>leOb π fresh k o o') ∧ leObs lo π fresh (k + 1) lo'
def πOf (l:List Nat):Nat → Nat:=fun k=>l.getD k 0
def weakB (nb:Nat) (l fresh:List Nat):Bool :=
 decide (nb ≤ l.length) && (List.range nb).all (fun k=>l.getD k 0 == k && !fresh.contains k) &&
 (List.range l.length).all (fun i=>(List.range l.length).all fun j=>fresh.contains i || fresh.contains j || l.getD i 0 != l.getD j 0 || i == j) &&
 fresh.all (fun k=>decide (k < l.length))
def isDead:AObj → Bool
 | .dead=>true
 | _=>false
def deadB:List AObj → Nat → Bool
 | [],_=>false
 | a :: _,0=>isDead a
 | _ :: l,i + 1=>deadB l i
theorem deadB_live {o:AObj} (hl:o.live = true):∀ {l:List AObj} {i:Nat},l[i]? = some o → deadB l i = false
 | [],_,h=>by simp at h
 | a :: l,0,h=>by
  simp at h; subst h
  cases a <;> first | rfl | (simp [AObj.live] at hl)
 | a :: l,i + 1,h=>by
  simp at h
  exact deadB_live (l:=l) (i:=i) hl h
def weakD (nb:Nat) (l fresh:List Nat) (lo:List AObj):Bool :=
 decide (nb ≤ l.length) && (List.range nb).all (fun k=>l.getD k 0 == k && !fresh.contains k) &&
 (List.range l.length).all (fun i=>(List.range l.length).all fun j=>fresh.contains i || fresh.contains j || l.getD i 0 != l.getD j 0 || i == j || deadB lo i || deadB lo j) &&
 fresh.all (fun k=>decide (k < l.length))
def namesB (n:Nat):FV → Bool
 | .opt _ v=>namesB n v
 | .tsl k _=>decide (k < n)
 | .ptr k _=>decide (k < n)
 | .bself k=>decide (k < n)
 | .bsl k _ _ _=>decide (k < n)
 | .vsl k _=>decide (k < n)
 | .eptr k _ _ _=>decide (k < n)
 | .mref k=>decide (k < n)
 | .pair a b=>namesB n a && namesB n b
 | .stmp k=>decide (k < n)
 | .asl k _ _=>decide (k < n)
 | .ifs _ c=>namesB n c
 | .clo _ c=>namesB n c
 | .fagg c=>namesB n c
 | .cap a b=>namesB n a && namesB n b
 | _=>true
def namesE (n:Nat):Env → Bool
 | []=>true
 | (_,v) :: E=>namesB n v && namesE n E
def namesC (n:Nat):List FV → Bool
 | []=>true
 | v :: l=>namesB n v && namesC n l
def namesO (n:Nat):List AObj → Bool
 | []=>true
 | .box _ cells :: l=>namesC n cells && namesO n l
 | .vl _ _ _ _ k :: l=>decide (k < n) && namesO n l
 | .pbx _ c :: l=>namesB n c && namesO n l
 | _ :: l=>namesO n l
def WeakK (nb:Nat) (E:Env) (lo:List AObj) (E':Env) (lo':List AObj):Prop :=
 ∃ l fresh:List Nat,(weakD nb l fresh lo' = true ∧ l.length = lo'.length ∧ namesE lo'.length E' = true ∧ namesO lo'.length lo' = true) ∧ leAll E (πOf l) fresh E' ∧ leObs lo (πOf l) fresh 0 lo'
theorem leAll_spec {E:Env} {π:Nat → Nat} {fresh:List Nat}:∀ {E':Env},leAll E π fresh E' → ∀ t v,(t,v) ∈ E' → leF π fresh (lookD E t) v
 | [],_,t,v,h=>by simp at h
 | (t',v') :: E',h,t,v,hm=>by
  simp only [leAll,look_eq] at h
  rcases List.mem_cons.1 hm with e | hm
  ·cases e; exact h.1
  ·exact leAll_spec h.2 t v hm
theorem leCells_spec {π:Nat → Nat} {fresh:List Nat} {k':Nat}:∀ {cs cs':List FV},leCells π fresh k' cs cs' → cs.length = cs'.length ∧ ∀ (i:Nat) (c c':FV),cs[i]? = some c → cs'[i]? = some c' → leC π fresh k' c c'
 | [],[],_=>⟨rfl,fun i c c' h=>by simp at h⟩
 | [],_ :: _,h=>by simp [leCells] at h
 | _ :: _,[],h=>by simp [leCells] at h
 | c :: cs,c' :: cs',h=>by
  simp only [leCells] at h
  obtain ⟨h1,h2⟩:=leCells_spec h.2
  refine ⟨by simp [h1],fun i d d' hd hd'=>?_⟩
  cases i with
  | zero=>simp at hd hd'; subst hd; subst hd'; exact h.1
  | succ i=>exact h2 i d d' (by simpa using hd) (by simpa using hd')
theorem leOb_spec {π:Nat → Nat} {fresh:List Nat} {k':Nat} {o o':AObj} (h:leOb π fresh k' o o'):leObj π fresh k' o o':=by
 cases o' with
 | dead=>trivial
 | box t' cells' =>
  cases o <;> simp only [leOb] at h
  exact ⟨h.1,leCells_spec h.2⟩
 | tail e z n =>
  cases o <;> simp only [leOb] at h
  obtain ⟨rfl,rfl,rfl⟩:=h
  rfl
 | vec e z n =>
  cases o <;> simp only [leOb] at h
  obtain ⟨rfl,rfl,rfl⟩:=h
  rfl
 | mp d es mk =>
  cases o <;> simp only [leOb] at h
  obtain ⟨rfl,rfl,rfl⟩:=h
  exact ⟨rfl,_,rfl⟩
 | sit l p =>
  cases o <;> simp only [leOb] at h
  obtain ⟨rfl,rfl⟩:=h
  rfl
 | bv l =>
  cases o <;> simp only [leOb] at h
  subst h
  rfl
 | vl e z rows j k' =>
  cases o <;> simp only [leOb] at h
  obtain ⟨h0,rfl,rfl,rfl,rfl,rfl⟩:=h
  exact ⟨h0,rfl⟩
 | pbx t' c' =>
  cases o <;> simp only [leOb] at h
  exact h
theorem leObs_spec {lo:List AObj} {π:Nat → Nat} {fresh:List Nat}:∀ {lo':List AObj} {k:Nat},leObs lo π fresh k lo' → ∀ (i:Nat) (o':AObj),lo'[i]? = some o' →
  (k + i ∈ fresh → ∃ e z,o' = .tail e z 0 ∨ o' = .vec e z [] ∨ ∃ j k2,o' = .vl e z [] j k2) ∧ (k + i ∉ fresh → ∃ o,lo[π (k + i)]? = some o ∧ leObj π fresh (k + i) o o')
 | [],_,_,i,o',h=>by simp at h
 | o1 :: lo',k,h,i,o',ho=>by
  simp only [leObs] at h
  cases i with
  | zero =>
   simp at ho
   subst ho
   simp only [Nat.add_zero]
   cases hf:fresh.contains k with
   | true =>
    simp only [hf] at h
    have hm:k ∈ fresh:=by simpa using hf
    refine ⟨fun _=>?_,fun hn=>absurd hm hn⟩
    have h1:=h.1
    split at h1
    ·rename_i e z n; exact ⟨e,z,.inl (by rw [h1])⟩
    ·rename_i e z rows; exact ⟨e,z,.inr (.inl (by rw [h1]))⟩
    ·rename_i e z rows j k2; exact ⟨e,z,.inr (.inr ⟨j,k2,by rw [h1]⟩)⟩
    ·exact h1.elim
   | false =>
    simp only [hf] at h
    have hm:k ∉ fresh:=by simpa using hf
    refine ⟨fun hn=>absurd hn hm,fun _=>?_⟩
    obtain ⟨o,ho,hl⟩:=nthK_spec h.1
    exact ⟨o,ho,leOb_spec hl⟩
  | succ i =>
   have:=leObs_spec h.2 i o' (by simpa using ho)
   have e:k + 1 + i = k + (i + 1):=by omega
   rwa [e] at this
theorem namesB_spec {n:Nat}:∀ {v:FV},namesB n v = true → ∀ k ∈ v.names,k < n
 | .opt _ v,h,k,hk=>namesB_spec (v:=v) h k hk
 | .tsl k' _,h,k,hk=>by simp [FV.names] at hk; subst hk; simpa [namesB] using h
 | .ptr k' _,h,k,hk=>by simp [FV.names] at hk; subst hk; simpa [namesB] using h
 | .top,_,k,hk=>by simp [FV.names] at hk
 | .p _,_,k,hk=>by simp [FV.names] at hk
 | .hptr _,_,k,hk=>by simp [FV.names] at hk
 | .bself k',h,k,hk=>by simp [FV.names] at hk; subst hk; simpa [namesB] using h
 | .bsl k' _ _ _,h,k,hk=>by simp [FV.names] at hk; subst hk; simpa [namesB] using h
 | .vsl k' _,h,k,hk=>by simp [FV.names] at hk; subst hk; simpa [namesB] using h
 | .eptr k' _ _ _,h,k,hk=>by simp [FV.names] at hk; subst hk; simpa [namesB] using h
 | .mref k',h,k,hk=>by simp [FV.names] at hk; subst hk; simpa [namesB] using h
 | .pair a b,h,k,hk=>by
  simp only [namesB,Bool.and_eq_true] at h
  rcases List.mem_append.1 hk with hk | hk
  ·exact namesB_spec (v:=a) h.1 k hk
  ·exact namesB_spec (v:=b) h.2 k hk
 | .stmp k',h,k,hk=>by simp [FV.names] at hk; subst hk; simpa [namesB] using h
 | .clo _ c,h,k,hk=>namesB_spec (v:=c) h k hk
 | .fagg c,h,k,hk=>namesB_spec (v:=c) h k hk
 | .nxt _ _ _,_,k,hk=>by simp [FV.names] at hk
 | .asl k' _ _,h,k,hk=>by simp [FV.names] at hk; subst hk; simpa [namesB] using h
 | .ifs _ c,h,k,hk=>namesB_spec (v:=c) h k hk
 | .cut _,_,k,hk=>by simp [FV.names] at hk
 | .cap0,_,k,hk=>by simp [FV.names] at hk
 | .cap a b,h,k,hk=>by
  simp only [namesB,Bool.and_eq_true] at h
  rcases List.mem_append.1 hk with hk | hk
  ·exact namesB_spec (v:=a) h.1 k hk
  ·exact namesB_spec (v:=b) h.2 k hk
theorem namesE_spec {n:Nat}:∀ {E:Env},namesE n E = true → ∀ t v,(t,v) ∈ E → ∀ k ∈ v.names,k < n
 | [],_,t,v,h=>by simp at h
 | (t',v') :: E,h,t,v,hm=>by
  simp only [namesE,Bool.and_eq_true] at h
  rcases List.mem_cons.1 hm with e | hm
  ·cases e; exact namesB_spec h.1
  ·exact namesE_spec h.2 t v hm
theorem namesC_spec {n:Nat}:∀ {l:List FV},namesC n l = true → ∀ v ∈ l,∀ k ∈ v.names,k < n
 | [],_,v,h=>by simp at h
 | v' :: l,h,v,hm=>by
  simp only [namesC,Bool.and_eq_true] at h
  rcases List.mem_cons.1 hm with e | hm
  ·cases e; exact namesB_spec h.1
  ·exact namesC_spec h.2 v hm
theorem namesO_spec {n:Nat}:∀ {lo:List AObj},namesO n lo = true → ∀ t cells,AObj.box t cells ∈ lo → ∀ c ∈ cells,∀ k ∈ c.names,k < n
 | [],_,t,cells,h=>by simp at h
 | o :: lo,h,t,cells,hm=>by
  rcases List.mem_cons.1 hm with e | hm'
  ·subst e
   simp only [namesO,Bool.and_eq_true] at h
   exact namesC_spec h.1
  ·cases o <;> simp only [namesO,Bool.and_eq_true] at h <;> first | exact namesO_spec h.2 t cells hm' | exact namesO_spec h t cells hm'
theorem namesO_spec3 {n:Nat}:∀ {lo:List AObj},namesO n lo = true → ∀ t c,AObj.pbx t c ∈ lo → ∀ k ∈ c.names,k < n
 | [],_,_,_,h=>by simp at h
 | o :: lo,h,t,c,hm=>by
  rcases List.mem_cons.1 hm with he | hm'
  ·subst he
   simp only [namesO,Bool.and_eq_true] at h
   exact namesB_spec h.1
  ·cases o <;> simp only [namesO,Bool.and_eq_true] at h <;> first | exact namesO_spec3 h.2 _ _ hm' | exact namesO_spec3 h _ _ hm'
theorem namesO_spec2 {n:Nat}:∀ {lo:List AObj},namesO n lo = true → ∀ e z rows j k,AObj.vl e z rows j k ∈ lo → k < n
 | [],_,_,_,_,_,_,h=>by simp at h
 | o :: lo,h,e,z,rows,j,k,hm=>by
  rcases List.mem_cons.1 hm with he | hm'
  ·subst he
   simp only [namesO,Bool.and_eq_true,decide_eq_true_eq] at h
   exact h.1
  ·cases o <;> simp only [namesO,Bool.and_eq_true] at h <;> first | exact namesO_spec2 h.2 _ _ _ _ _ hm' | exact namesO_spec2 h _ _ _ _ _ hm'
theorem WeakK.sat {bs:(Base Lw)} {N:Nat} {ρ:List Value} {H:(PH Lw)} {E E':Env} {lo lo':List AObj} {a:Act} {w:World} (s:Sat bs N ρ H (lookD E) lo a w) (h:WeakK bs.r0.length E lo E' lo') :
  ∃ ρ',Sat bs N ρ' H (lookD E') lo' a w:=by
 obtain ⟨l,fresh,⟨hb,hl,hE,hO⟩,hA,hob⟩:=h
 simp only [weakD,Bool.and_eq_true,decide_eq_true_eq,List.all_eq_true,List.mem_range,Bool.or_eq_true,beq_iff_eq,Bool.not_eq_true',bne_iff_ne] at hb
 obtain ⟨⟨⟨h1,h2⟩,h3⟩,h4⟩:=hb
 have get:=fun (i:Nat) (o':AObj) (ho:lo'[i]? = some o')=>leObs_spec hob i o' ho
 simp only [Nat.zero_add] at get
 refine ⟨_,s.weak (π:=πOf l) (fresh:=fresh) (lo':=lo') ?_ ⟨namesE_spec hE,namesO_spec hO,namesO_spec2 hO,namesO_spec3 hO⟩⟩
 refine { bounds:=fun k hk hf=>?_,keep:=fun k hk=>?_,nb:=by omega,inj:=fun i j oi oj hi hj hli hlj hfi hfj e=>?_,frsh:=fun k hk=>?_,obj:=fun k o' ho hf=>(get k o' ho).2 hf,slot:=leAll_spec hA }
 ·obtain ⟨o,ho,_⟩:=(get k _ (List.getElem?_eq_getElem hk)).2 hf
  exact (List.getElem?_eq_some_iff.1 ho).1
 ·obtain ⟨e1,e2⟩:=h2 k hk
  exact ⟨e1,by simpa using e2⟩
 ·have h1:=(List.getElem?_eq_some_iff.1 hi).1
  have h2:=(List.getElem?_eq_some_iff.1 hj).1
  have:=h3 i (by omega) j (by omega)
  simp only [List.contains_iff_mem,hfi,hfj,deadB_live hli hi,deadB_live hlj hj,Bool.false_eq_true,or_false,false_or] at this
  rcases this with h | h
  ·exact absurd e h
  ·exact h
 ·have hk':k < lo'.length:=by have:=h4 k hk; omega
  obtain ⟨e,z,he⟩:=(get k _ (List.getElem?_eq_getElem hk')).1 hk
  exact ⟨e,z,he.imp (fun he=>by rw [List.getElem?_eq_getElem hk',he]) (fun he=>he.imp (fun he=>by rw [List.getElem?_eq_getElem hk',he]) (fun ⟨j,k2,he⟩=>⟨j,k2,by rw [List.getElem?_eq_getElem hk',he]⟩))⟩
theorem LoopA.of {P:Program} (inl:List Nat) {N nb:Nat} {body:Code} {K:KA} {E:Env} {lo:List AObj} {S:Type} (fr:S → Env) (ob:S → List AObj) (ok:S → Prop) (μ:S → Nat) (s0:S) (h0:ok s0)
  (hw:WeakK nb E lo (fr s0) (ob s0))
  (round:∀ s,ok s → vc P inl N nb body (fun x E' lo'=>match x with
   | .normal=>∃ s',ok s' ∧ μ s' < μ s ∧ WeakK nb E' lo' (fr s') (ob s')
   | .exit i=>K (.exit i) E' lo'
   | .ret=>K .ret E' lo') (fr s) (ob s)):LoopA P inl N nb body K E lo:=by
 intro hm hd Lw bs ρ H a w hb sat
 subst hb
 obtain ⟨ρ',sat'⟩:=hw.sat sat
 refine wp_loop_ghost (I:=fun n a w=>∃ s ρ H,μ s = n ∧ ok s ∧ Sat bs N ρ H (lookD (fr s)) (ob s) a w) (μ s0) ⟨s0,ρ',H,rfl,h0,sat'⟩ fun n a w ⟨s,ρ,H,hn,hok,sat⟩=>?_
 refine wp_mono (vc_sound hm body _ _ _ hd (round s hok) bs ρ H a w rfl sat) fun e a w p=>?_
 obtain ⟨x,ρ2,H2,E2,lo2,hx,sat2,k⟩:=p
 cases x <;> cases e <;> simp only [AXis] at hx
 ·obtain ⟨s',hok',hlt,hwk⟩:=k
  obtain ⟨ρ3,sat3⟩:=hwk.sat sat2
  exact ⟨μ s',hn ▸ hlt,s',ρ3,H2,rfl,hok',sat3⟩
 ·exact ⟨.exit _,ρ2,H2,E2,lo2,hx,sat2,k⟩
 ·exact ⟨.ret,ρ2,H2,E2,lo2,trivial,sat2,k⟩
def resK (P:Program) (E:Env) (lo:List AObj) (r:ResultVar) (R:FV → Prop):Prop :=
 match r with
 | .tmp t=>look E t R
 | .cell a t=>look E a fun v=>kLoad P t lo v R
def pub1 (lo:List AObj) (v:FV) (R:PV → List AObj → Prop):Prop :=
 match v with
 | .vsl k _=>nthK k lo fun o=>match o with
  | .vec _ _ rows=>setK k .dead lo fun lo=>R (.sl rows) lo
  | _=>False
 | v=>frzK v fun p=>R p lo
def pubL:List FV → List AObj → (List PV → List AObj → Prop) → Prop
 | [],lo,R=>R [] lo
 | v :: cs,lo,R=>pub1 lo v fun p lo=>pubL cs lo fun ps lo=>R (p :: ps) lo
def pubK (lo:List AObj) (v:FV) (R:FV → List AObj → Prop):Prop :=
 match v with
 | .vsl k _=>nthK k lo fun o=>match o with
  | .vec _ _ rows=>setK k .dead lo fun lo=>R (.p (.sl rows)) lo
  | .vl _ _ rows _ _=>setK k .dead lo fun lo=>R (.p (.sl rows)) lo
  | _=>False
 | .fagg c=>chainK c fun cs=>pubL cs lo fun ps lo=>R (.p (.agg ps)) lo
 | v=>R v lo
def resL (P:Program) (E:Env) (lo:List AObj):List ResultVar → (List PV → Prop) → Prop
 | [],R=>R []
 | r :: rs,R=>resK P E lo r fun v=>pubK lo v fun v lo=>frzK v fun v=>resL P E lo rs fun l=>R (v :: l)
def retK (P:Program) (fn:Func) (R:PV → Prop):KA:=fun x E lo=>match x with
 | .exit _=>False
 | _=>resL P E lo fn.results.toList fun vs=>match vs with
   | [v]=>R v
   | vs=>R (.tup vs)
def toF:PV → FV
 | .hp row=>.hptr row
 | v=>.p v
theorem toF_rep {ρ:List Value} {H:(PH Lw)} {v:PV} {x:Value} (h:RepP H v x):RepF ρ H (toF v) x:=by
 cases v <;> simp only [toF] <;> first | exact h | (simp only [RepP] at h; simp only [RepF]; exact h)
def initE:Nat → List PV → Env
 | _,[]=>[]
 | n,v :: vs=>(n,toF v) :: initE (n + 1) vs
def vcFn (P:Program) (inl:List Nat) (fn:Func) (args:List PV) (R:PV → Prop):Prop :=
 match fn.body with
 | some c=>vc P inl fn.ntmps 0 c (retK P fn R) (initE 0 args) []
 | none=>False
def fnOk (inl:List Nat) (fn:Func) (n:Nat):Bool:=(match fn.body with | some c=>drawsOk inl c | none=>false) && decide (n ≤ fn.ntmps)
def Enters (P:Program) (f:FuncId):Prop:=∀ (args:Array Value) (w:World),(callFunc f args).run P w = .ok (.enter f args) w
def resOne (tmps:Array Value):ResultVar → Sem Value
 | .tmp t=>pure (tmps.getD t undef)
 | .cell p t=>do loadVar t (← asAddr (tmps.getD p undef))
theorem results_eq (fn:Func) (tmps:Array Value):results fn tmps = (do
  let vs ← fn.results.mapM (resOne tmps)
  pure (if h:vs.size = 1 then vs[0] else .tuple vs)):=by
 unfold results
 congr 1
theorem pub1_spec {lo:List AObj} {v:FV} {R:PV → List AObj → Prop} (h:pub1 lo v R):∃ f lo',R f lo' ∧ ∀ ⦃Lw:Nat⦄ (bs:(Base Lw)) (N:Nat) (ρ:List Value) (H:(PH Lw)) (e:Nat → FV) (a:Act) (w:World) (x:Value),Sat bs N ρ H e lo a w → RepF ρ H v x →
  ∃ H',PH.le H H' ∧ Sat bs N ρ H' e lo' a w ∧ RepP H' f x:=by
 unfold pub1 at h
 split at h
 ·rename_i k n
  obtain ⟨o,ho,h⟩:=nthK_spec h
  split at h
  ·rename_i e z rows
   obtain ⟨h,_⟩:=setK_spec h
   refine ⟨_,_,h,fun Lw bs N ρ H ev a w x s r=>?_⟩
   obtain ⟨H',hle,s',rp⟩:=s.toSatW.publish ho r.1
   exact ⟨H',hle,{ s' with slots:=fun t=>(s.slots t).mono (List.prefix_refl _) hle,width:=s.width,defers:=s.defers },rp⟩
  ·exact h.elim
 ·obtain ⟨p,h,hp⟩:=frzK_spec h
  exact ⟨_,_,h,fun Lw bs N ρ H e a w x s r=>⟨H,PH.le.refl H,s,hp _ _ _ r⟩⟩
theorem pubL_spec:∀ {cs:List FV} {lo:List AObj} {R:List PV → List AObj → Prop},pubL cs lo R → ∃ ps lo',R ps lo' ∧ ∀ ⦃Lw:Nat⦄ (bs:(Base Lw)) (N:Nat) (ρ:List Value) (H:(PH Lw)) (e:Nat → FV) (a:Act) (w:World) (vs:List Value),Sat bs N ρ H e lo a w → RepFL ρ H cs vs →
  ∃ H',PH.le H H' ∧ Sat bs N ρ H' e lo' a w ∧ RepL H' ps vs
 | [],lo,R,h=>⟨[],lo,h,fun Lw bs N ρ H e a w vs s r=>⟨H,PH.le.refl H,s,by simp only [RepFL] at r; simp only [RepL]; exact r⟩⟩
 | v :: cs,lo,R,h=>by
  simp only [pubL] at h
  obtain ⟨p,lo1,h,h1⟩:=pub1_spec h
  obtain ⟨ps,lo2,h,h2⟩:=pubL_spec h
  refine ⟨_,_,h,fun Lw bs N ρ H e a w vs s r=>?_⟩
  obtain ⟨u,us,rfl,r1,rs⟩:=r
  obtain ⟨H1,hle1,s1,rp1⟩:=h1 bs N ρ H e a w u s r1
  obtain ⟨H2,hle2,s2,rp2⟩:=h2 bs N ρ H1 e a w us s1 (rs.mono (List.prefix_refl _) hle1)
  exact ⟨H2,hle1.trans hle2,s2,by simp only [RepL]; exact ⟨u,us,rfl,RepP.mono hle2 rp1,rp2⟩⟩
theorem pubK_spec {lo:List AObj} {v:FV} {R:FV → List AObj → Prop} (h:pubK lo v R):∃ f lo',R f lo' ∧ ∀ ⦃Lw:Nat⦄ (bs:(Base Lw)) (N:Nat) (ρ:List Value) (H:(PH Lw)) (e:Nat → FV) (a:Act) (w:World) (x:Value),Sat bs N ρ H e lo a w → RepF ρ H v x →
  ∃ H',PH.le H H' ∧ Sat bs N ρ H' e lo' a w ∧ RepF ρ H' f x:=by
 unfold pubK at h
 split at h
 ·rename_i k n
  obtain ⟨o,ho,h⟩:=nthK_spec h
  split at h
  ·rename_i e z rows
   obtain ⟨h,_⟩:=setK_spec h
   refine ⟨_,_,h,fun Lw bs N ρ H ev a w x s r=>?_⟩
   obtain ⟨H',hle,s',rp⟩:=s.toSatW.publish ho r.1
   exact ⟨H',hle,{ s' with slots:=fun t=>(s.slots t).mono (List.prefix_refl _) hle,width:=s.width,defers:=s.defers },rp⟩
  ·rename_i e z rows j kt
   obtain ⟨h,_⟩:=setK_spec h
   refine ⟨_,_,h,fun Lw bs N ρ H ev a w x s r=>?_⟩
   have s1:=s.toSatW.view ho rfl (o':=.vec e z rows) rfl (fun v hv ok=>vl_vec ok)
   have hkl:k < lo.length:=(List.getElem?_eq_some_iff.1 ho).1
   have hk2:(lo.set k (AObj.vec e z rows))[k]? = some (AObj.vec e z rows):=by simp [hkl]
   obtain ⟨H',hle,s',rp⟩:=s1.publish hk2 r.1
   rw [List.set_set] at s'
   exact ⟨H',hle,{ s' with slots:=fun t=>(s.slots t).mono (List.prefix_refl _) hle,width:=s.width,defers:=s.defers },rp⟩
  ·exact h.elim
 ·rename_i c
  obtain ⟨cs,h,hcs⟩:=chainK_spec h
  obtain ⟨ps,lo',h,hs⟩:=pubL_spec h
  refine ⟨_,_,h,fun Lw bs N ρ H e a w x s r=>?_⟩
  obtain ⟨vs,rfl,rc⟩:=r
  obtain ⟨H',hle,s',rp⟩:=hs bs N ρ H e a w vs s (hcs _ _ _ rc)
  exact ⟨H',hle,s',by simp only [RepF,RepP]; exact ⟨vs,rfl,rp⟩⟩
 ·exact ⟨_,_,h,fun Lw bs N ρ H e a w x s r=>⟨H,PH.le.refl H,s,r⟩⟩
theorem resK_spec {P:Program} {E:Env} {lo:List AObj} {r:ResultVar} {R:FV → Prop} (h:resK P E lo r R):∃ f,R f ∧ ∀ ⦃Lw:Nat⦄ (bs:(Base Lw)) (N:Nat) (ρ:List Value) (H:(PH Lw)) (a:Act) (w:World),Sat bs N ρ H (lookD E) lo a w →
  ∃ v,(resOne a.tmps r).run P w = .ok v w ∧ RepF ρ H f v:=by
 cases r with
 | tmp t =>
  simp only [resK,look_eq] at h
  exact ⟨_,h,fun Lw bs N ρ H a w s=>⟨a.tmps.getD t undef,rfl,s.slots t⟩⟩
 | cell q t =>
  simp only [resK,look_eq] at h
  obtain ⟨fv,h,hl⟩:=kLoad_spec h
  refine ⟨fv,h,fun Lw bs N ρ H a w s=>?_⟩
  obtain ⟨ad,u,e,hr,ru⟩:=hl bs ρ H w _ s.toSatW (s.slots q)
  refine ⟨u,?_,ru⟩
  simp only [Instr.loadAt,e,Instr.sureAddr,Sem.run_bind,Sem.run_pure,Result.andThen_ok] at hr
  simp only [resOne,e,asAddr,Sem.run_bind,Sem.run_pure,Result.andThen_ok,hr]
theorem resL_spec {P:Program} {E:Env}:∀ {l:List ResultVar} {lo:List AObj} {R:List PV → Prop},resL P E lo l R → ∃ ps,R ps ∧ ps.length = l.length ∧ ∀ ⦃Lw:Nat⦄ (bs:(Base Lw)) (N:Nat) (ρ:List Value) (H:(PH Lw)) (a:Act) (w:World),Sat bs N ρ H (lookD E) lo a w →
  ∃ (vs:List Value) (H':(PH Lw)) (lo':List AObj),(l.mapM (m:=Sem) (resOne a.tmps)).run P w = .ok vs w ∧ RepL H' ps vs ∧ PH.le H H' ∧ Sat bs N ρ H' (lookD E) lo' a w
 | [],lo,R,h=>⟨[],h,rfl,fun Lw bs N ρ H a w s=>⟨[],H,lo,by simp,by simp [RepL],PH.le.refl H,s⟩⟩
 | r :: rs,lo,R,h=>by
  simp only [resL] at h
  obtain ⟨f,h,h1⟩:=resK_spec h
  obtain ⟨f',lo1,h,h2⟩:=pubK_spec h
  obtain ⟨p,h,hp⟩:=frzK_spec h
  obtain ⟨ps,h,hlen,h3⟩:=resL_spec h
  refine ⟨p :: ps,h,by simp [hlen],fun Lw bs N ρ H a w s=>?_⟩
  obtain ⟨v,hv,rv⟩:=h1 bs N ρ H a w s
  obtain ⟨H1,hle1,s1,rv1⟩:=h2 bs N ρ H _ a w v s rv
  obtain ⟨vs,H2,lo2,hvs,rvs,hle2,s2⟩:=h3 bs N ρ H1 a w s1
  refine ⟨v :: vs,H2,lo2,?_,by simp only [RepL]; exact ⟨v,vs,rfl,RepP.mono hle2 (hp _ _ _ rv1),rvs⟩,hle1.trans hle2,s2⟩
  simp only [List.mapM_cons,Sem.run_bind,hv,Result.andThen_ok,hvs,Sem.run_pure]
theorem ret_spec {P:Program} {fn:Func} {E:Env} {lo:List AObj} {x:AX} {R:PV → Prop} (h:retK P fn R x E lo):∃ p,R p ∧ (x = .normal ∨ x = .ret) ∧
  ∀ ⦃Lw:Nat⦄ (bs:(Base Lw)) (N:Nat) (ρ:List Value) (H:(PH Lw)) (a:Act) (w:World),Sat bs N ρ H (lookD E) lo a w → ∃ (v:Value) (H':(PH Lw)) (lo':List AObj),(results fn a.tmps).run P w = .ok v w ∧ RepP H' p v ∧ PH.le H H' ∧ Sat bs N ρ H' (lookD E) lo' a w:=by
 have key:∀ {x:AX},(x = .normal ∨ x = .ret) → (resL P E lo fn.results.toList fun vs=>match vs with
   | [v]=>R v
   | vs=>R (.tup vs)) → ∃ p,R p ∧ (x = .normal ∨ x = .ret) ∧
  ∀ ⦃Lw:Nat⦄ (bs:(Base Lw)) (N:Nat) (ρ:List Value) (H:(PH Lw)) (a:Act) (w:World),Sat bs N ρ H (lookD E) lo a w → ∃ (v:Value) (H':(PH Lw)) (lo':List AObj),(results fn a.tmps).run P w = .ok v w ∧ RepP H' p v ∧ PH.le H H' ∧ Sat bs N ρ H' (lookD E) lo' a w:=by
  intro x hx h
  obtain ⟨ps,h,hpl,hs⟩:=resL_spec h
  clear hpl
  split at h
  ·rename_i p
   refine ⟨p,h,hx,fun Lw bs N ρ H a w s=>?_⟩
   obtain ⟨vs,H',lo',hr,rl,hle,s'⟩:=hs bs N ρ H a w s
   simp only [RepL] at rl
   obtain ⟨v,_,rfl,rv,rfl⟩:=rl
   refine ⟨v,H',lo',?_,rv,hle,s'⟩
   rw [results_eq,Array.mapM_eq_mapM_toList]
   simp only [Sem.run_bind,Sem.run_map,hr,Result.andThen_ok]
   rfl
  ·rename_i hne
   refine ⟨_,h,hx,fun Lw bs N ρ H a w s=>?_⟩
   obtain ⟨vs,H',lo',hr,rl,hle,s'⟩:=hs bs N ρ H a w s
   refine ⟨.tuple vs.toArray,H',lo',?_,by simp only [RepP]; exact ⟨vs,rfl,rl⟩,hle,s'⟩
   rw [results_eq,Array.mapM_eq_mapM_toList]
   simp only [Sem.run_bind,Sem.run_map,hr,Result.andThen_ok,Sem.run_pure]
   have:¬ vs.toArray.size = 1:=by
    intro h1
    have hl:=rl.length
    simp at h1
    rw [h1] at hl
    cases ps with
    | nil=>simp at hl
    | cons a l=>cases l with
     | nil=>exact hne a rfl
     | cons b l=>simp at hl
   simp only [this,dif_neg,not_false_eq_true]
 cases x with
 | normal=>exact key (.inl rfl) h
 | exit i=>exact h.elim
 | ret=>exact key (.inr rfl) h
theorem initE_spec:∀ (n:Nat) (args:List PV) (t:Nat),lookD (initE n args) t = match (if n ≤ t then args[t - n]? else none) with | some v=>toF v | none=>.top
 | n,[],t=>by simp [initE,lookD]
 | n,v :: vs,t=>by
  simp only [initE,lookD]
  cases hb:Nat.beq t n with
  | true =>
   have:=Nat.eq_of_beq_eq_true hb
   subst this
   simp
  | false =>
   have hne:t ≠ n:=fun e=>by subst e; simp [Nat.beq_refl] at hb
   simp only
   rw [initE_spec (n + 1) vs t]
   by_cases h:n ≤ t
   ·have h1:n + 1 ≤ t:=by omega
    have h2:t - n = (t - (n + 1)) + 1:=by omega
    simp [h,h1,h2]
   ·have h1:¬ n + 1 ≤ t:=by omega
    simp [h,h1]
theorem CallsF.of_vcR {P:Program} {f:FuncId} {fn:Func} {args:List PV} {r:PV} {inl:List Nat} {R:PV → Prop} (hm:P.follows .mixedOrders = true) (he:Enters P f) (hf:P.funcs[f]? = some fn) (hok:fnOk inl fn args.length = true)
  (hR:∀ (p:PV) (v:Value) ⦃Lw:Nat⦄ (H:(PH Lw)),R p → RepP H p v → RepP H r v) (h:vcFn P inl fn args R):CallsF P f args r:=by
 intro Lw H w vs hs rl
 rw [he]
 refine ⟨rfl,?_⟩
 simp only [fnOk,Bool.and_eq_true,decide_eq_true_eq] at hok
 obtain ⟨hd,hn⟩:=hok
 unfold vcFn at h
 cases hb:fn.body with
 | none=>simp [hb] at hd
 | some c =>
  simp only [hb] at h hd
  refine calls_of_wp hf hb ?_
  have hl:=rl.length
  have sat:Sat { S:=Nobody,w0:=w,H0:=H,r0:=[] } fn.ntmps [] H (lookD (initE 0 args)) [] { tmps:=vs.toArray ++ Array.replicate (fn.ntmps - vs.toArray.size) undef,defers:=[] } w:=by
   refine { sath:=hs,hlen:=rfl,pre:=List.prefix_refl _,objs:=fun k o v h=>by simp at h,excl:=fun k _ o _ v _ b h=>by simp at h,own:=fun k o v b h=>by simp at h,keep:=Keep.refl _ w,leH:=PH.le.refl H,newH:=fun b o v h=>.inl ⟨v,h⟩,slots:=fun t=>?_,width:=by simp; omega,defers:=rfl }
   rw [initE_spec]
   simp only [Nat.zero_le,if_true,Nat.sub_zero]
   cases ht:args[t]? with
   | none=>trivial
   | some p =>
    obtain ⟨v,hv,rv⟩:=rl.get ht
    have hlt:=(List.getElem?_eq_some_iff.1 hv).1
    have:(vs.toArray ++ Array.replicate (fn.ntmps - vs.toArray.size) undef).getD t undef = v:=by
     rw [Array.getD_eq_getD_getElem?,Array.getElem?_append_left (by simpa using hlt)]
     simp [hv]
    rw [this]
    exact toF_rep rv
  refine wp_mono (vc_sound hm c _ _ _ hd h _ [] H _ w rfl sat) fun e a w' p=>?_
  obtain ⟨x,ρ',H',E',lo',hx,s',k⟩:=p
  obtain ⟨p,hp,hxx,hres⟩:=ret_spec k
  obtain ⟨v,H2,lo2,hv,rv,hle,s2⟩:=hres _ _ ρ' H' a w' s'
  have fin:∃ v,(results fn a.tmps).run P w' = .ok v w' ∧ (fun e w''=>∃ v H',e = Ending.returned v ∧ Calm H w H' w'' ∧ RepP H' r v) (.returned v) w' :=
   ⟨v,hv,v,H2,rfl,⟨s2.leH,s2.sath,s2.keep,fun b o v hv=>by
    rcases s2.newH b o v hv with h | h | h
    ·exact .inl h
    ·exact h.elim
    ·exact .inr h⟩,hR p v H2 hp rv⟩
  rcases hxx with rfl | rfl <;> cases e <;> simp only [AXis] at hx
  ·exact ⟨s'.defers,fin⟩
  ·exact ⟨s'.defers,fin⟩
theorem CallsF.of_vc {P:Program} {f:FuncId} {fn:Func} {args:List PV} {r:PV} {inl:List Nat} (hm:P.follows .mixedOrders = true) (he:Enters P f) (hf:P.funcs[f]? = some fn) (hok:fnOk inl fn args.length = true)
  (h:vcFn P inl fn args (fun v=>v = r)):CallsF P f args r :=
 CallsF.of_vcR (R:=fun v=>v = r) hm he hf hok (fun _ _ _ _ e x=>e ▸ x) h
end Ax
end
section
namespace Ax
open Go
variable {Lw:Nat}
def lent (ρ:List Value) (lo:List AObj):Nat → Prop:=fun b=>∃ (k:Nat) (o:AObj) (v:Value),lo[k]? = some o ∧ ρ[k]? = some v ∧ o.live = true ∧ blkOf v = some b
theorem SatW.lend {bs:(Base Lw)} {ρ:List Value} {H:(PH Lw)} {lo:List AObj} {w:World} (s:SatW bs ρ H lo w):SatW { S:=lent ρ lo,w0:=w,H0:=H,r0:=ρ } ρ H lo w where
 sath:=s.sath
 hlen:=s.hlen
 pre:=List.prefix_refl _
 objs:=s.objs
 excl:=s.excl
 own:=fun k o v b hk hv hl hb=>.inl ⟨k,o,v,hk,hv,hl,hb⟩
 keep:=Keep.refl _ w
 leH:=PH.le.refl H
 newH:=fun b o v h=>.inl ⟨v,h⟩
theorem SatW.back {bs:(Base Lw)} {ρ ρ':List Value} {H H':(PH Lw)} {lo lo':List AObj} {w w':World} (s:SatW bs ρ H lo w) (s':SatW { S:=lent ρ lo,w0:=w,H0:=H,r0:=ρ } ρ' H' lo' w'):SatW bs ρ' H' lo' w':=by
 have hS:∀ b,lent ρ lo b → bs.S b ∨ bs.w0.heap.size ≤ b:=fun b ⟨k,o,v,hk,hv,hl,hb⟩=>s.own k o v b hk hv hl hb
 refine { sath:=s'.sath,hlen:=s'.hlen,pre:=s.pre.trans s'.pre,objs:=s'.objs,excl:=s'.excl,own:=fun k o v b hk hv hl hb=>?_,keep:=s.keep.step s'.keep hS,leH:=s.leH.trans s'.leH,newH:=fun b o v hv=>?_ }
 ·rcases s'.own k o v b hk hv hl hb with h | h
  ·exact hS b h
  ·exact .inr (Nat.le_trans s.keep.size h)
 ·rcases s'.newH b o v hv with ⟨u,hu⟩ | h | h
  ·exact s.newH b o u hu
  ·exact .inr (hS b h)
  ·exact .inr (.inr (Nat.le_trans s.keep.size h))
def initF:Nat → List FV → Env
 | _,[]=>[]
 | n,v :: vs=>(n,v) :: initF (n + 1) vs
theorem initF_spec:∀ (n:Nat) (args:List FV) (t:Nat),lookD (initF n args) t = (if n ≤ t then args[t - n]? else none).getD .top
 | n,[],t=>by simp [initF,lookD]
 | n,v :: vs,t=>by
  simp only [initF,lookD]
  cases hb:Nat.beq t n with
  | true =>
   have:=Nat.eq_of_beq_eq_true hb
   subst this
   simp
  | false =>
   have hne:t ≠ n:=fun e=>by subst e; simp [Nat.beq_refl] at hb
   simp only
   rw [initF_spec (n + 1) vs t]
   by_cases h:n ≤ t
   ·have h1:n + 1 ≤ t:=by omega
    have h2:t - n = (t - (n + 1)) + 1:=by omega
    simp [h,h1,h2]
   ·have h1:¬ n + 1 ≤ t:=by omega
    simp [h,h1]
theorem RepFL.get {ρ:List Value} {H:(PH Lw)}:∀ {cs:List FV} {vs:List Value} {i:Nat} {c:FV},RepFL ρ H cs vs → cs[i]? = some c → ∃ v,vs[i]? = some v ∧ RepF ρ H c v
 | [],_,_,_,_,h=>by simp at h
 | c :: cs,vs,i,c',x,h=>by
  obtain ⟨v,vs',rfl,r,rs⟩:=x
  cases i with
  | zero=>simp at h; subst h; exact ⟨v,by simp,r⟩
  | succ i=>simp at h; obtain ⟨u,hu,ru⟩:=rs.get h; exact ⟨u,by simpa using hu,ru⟩
def twoK (v1 v2:FV) (R:FV → Prop):Prop :=
 match v1 with
 | .p p1=>match v2 with
  | .p p2=>R (.p (.tup [p1,p2]))
  | .tsl _ rows=>R (.p (.tup [p1,.sl rows]))
  | v2=>R (.pair (.p p1) v2)
 | .tsl _ rows1=>match v2 with
  | .p p2=>R (.p (.tup [.sl rows1,p2]))
  | .tsl _ rows=>R (.p (.tup [.sl rows1,.sl rows]))
  | v2=>R (.pair (.p (.sl rows1)) v2)
 | v1=>match v2 with
  | .tsl _ rows=>R (.pair v1 (.p (.sl rows)))
  | v2=>R (.pair v1 v2)
def frL (P:Program) (E:Env) (lo:List AObj):List ResultVar → (List PV → Prop) → Prop
 | [],R=>R []
 | r :: rs,R=>resK P E lo r fun v=>frzK v fun v=>frL P E lo rs fun l=>R (v :: l)
theorem twoK_spec {v1 v2:FV} {R:FV → Prop} (h:twoK v1 v2 R):∃ v,R v ∧ ∀ ⦃Lw:Nat⦄ (ρ:List Value) (H:(PH Lw)) (x y:Value),RepF ρ H v1 x → RepF ρ H v2 y → RepF ρ H v (.tuple #[x,y]):=by
 have pp:∀ (p1 p2:PV) (ρ:List Value) ⦃Lw:Nat⦄ (H:(PH Lw)) (x y:Value),RepP H p1 x → RepP H p2 y → RepF ρ H (.p (.tup [p1,p2])) (.tuple #[x,y]):=fun p1 p2 ρ Lw H x y r1 r2=>by
  simp only [RepF,RepP]
  exact ⟨[x,y],rfl,by simp only [RepL]; exact ⟨x,_,rfl,r1,y,[],rfl,r2,rfl⟩⟩
 unfold twoK at h
 split at h
 ·split at h
  ·exact ⟨_,h,fun Lw ρ H x y r1 r2=>pp _ _ ρ H x y r1 r2⟩
  ·exact ⟨_,h,fun Lw ρ H x y r1 r2=>pp _ _ ρ H x y r1 r2.2⟩
  ·exact ⟨_,h,fun Lw ρ H x y r1 r2=>⟨x,y,rfl,r1,r2⟩⟩
 ·split at h
  ·exact ⟨_,h,fun Lw ρ H x y r1 r2=>pp _ _ ρ H x y r1.2 r2⟩
  ·exact ⟨_,h,fun Lw ρ H x y r1 r2=>pp _ _ ρ H x y r1.2 r2.2⟩
  ·exact ⟨_,h,fun Lw ρ H x y r1 r2=>⟨x,y,rfl,r1.2,r2⟩⟩
 ·split at h
  ·exact ⟨_,h,fun Lw ρ H x y r1 r2=>⟨x,y,rfl,r1,r2.2⟩⟩
  ·exact ⟨_,h,fun Lw ρ H x y r1 r2=>⟨x,y,rfl,r1,r2⟩⟩
theorem frL_spec {P:Program} {E:Env} {lo:List AObj}:∀ {l:List ResultVar} {R:List PV → Prop},frL P E lo l R → ∃ ps,R ps ∧ ps.length = l.length ∧ ∀ ⦃Lw:Nat⦄ (bs:(Base Lw)) (N:Nat) (ρ:List Value) (H:(PH Lw)) (a:Act) (w:World),Sat bs N ρ H (lookD E) lo a w →
  ∃ vs:List Value,(l.mapM (m:=Sem) (resOne a.tmps)).run P w = .ok vs w ∧ RepL H ps vs
 | [],R,h=>⟨[],h,rfl,fun Lw bs N ρ H a w s=>⟨[],by simp,by simp [RepL]⟩⟩
 | r :: rs,R,h=>by
  simp only [frL] at h
  obtain ⟨f,h,h1⟩:=resK_spec h
  obtain ⟨p,h,hp⟩:=frzK_spec h
  obtain ⟨ps,h,hlen,h2⟩:=frL_spec h
  refine ⟨p :: ps,h,by simp [hlen],fun Lw bs N ρ H a w s=>?_⟩
  obtain ⟨v,hv,rv⟩:=h1 bs N ρ H a w s
  obtain ⟨vs,hvs,rvs⟩:=h2 bs N ρ H a w s
  refine ⟨v :: vs,?_,by simp only [RepL]; exact ⟨v,vs,rfl,hp _ _ _ rv,rvs⟩⟩
  simp only [List.mapM_cons,Sem.run_bind,hv,Result.andThen_ok,hvs,Sem.run_pure]
def retI (P:Program) (fn:Func) (R:FV → List AObj → Prop):KA:=fun x E lo=>match x with
 | .exit _=>False
 | _=>match fn.results.toList with
  | [r]=>resK P E lo r fun v=>R v lo
  | []=>R (.p (.tup [])) lo
  | [r1,r2]=>resK P E lo r1 fun v1=>resK P E lo r2 fun v2=>twoK v1 v2 fun v=>R v lo
  | r :: rs=>frL P E lo (r :: rs) fun vs=>R (.p (.tup vs)) lo
def vcI (P:Program) (inl:List Nat) (fn:Func) (args:List FV) (lo:List AObj) (R:FV → List AObj → Prop):Prop :=
 match fn.body with
 | some c=>lenK lo 0 fun nb=>vc P inl fn.ntmps nb c (retI P fn R) (initF 0 args) lo
 | none=>False
theorem retI_spec {P:Program} {fn:Func} {E:Env} {lo:List AObj} {x:AX} {R:FV → List AObj → Prop} (h:retI P fn R x E lo):∃ p,R p lo ∧ (x = .normal ∨ x = .ret) ∧
  ∀ ⦃Lw:Nat⦄ (bs:(Base Lw)) (N:Nat) (ρ:List Value) (H:(PH Lw)) (a:Act) (w:World),Sat bs N ρ H (lookD E) lo a w → ∃ v,(results fn a.tmps).run P w = .ok v w ∧ RepF ρ H p v:=by
 have key:∀ {x:AX},(x = .normal ∨ x = .ret) → (match fn.results.toList with
  | [r]=>resK P E lo r fun v=>R v lo
  | []=>R (.p (.tup [])) lo
  | [r1,r2]=>resK P E lo r1 fun v1=>resK P E lo r2 fun v2=>twoK v1 v2 fun v=>R v lo
  | r :: rs=>frL P E lo (r :: rs) fun vs=>R (.p (.tup vs)) lo) → ∃ p,R p lo ∧ (x = .normal ∨ x = .ret) ∧
  ∀ ⦃Lw:Nat⦄ (bs:(Base Lw)) (N:Nat) (ρ:List Value) (H:(PH Lw)) (a:Act) (w:World),Sat bs N ρ H (lookD E) lo a w → ∃ v,(results fn a.tmps).run P w = .ok v w ∧ RepF ρ H p v:=by
  intro x hx h
  split at h
  ·rename_i r hr
   obtain ⟨f,h,hs⟩:=resK_spec h
   refine ⟨f,h,hx,fun Lw bs N ρ H a w s=>?_⟩
   obtain ⟨v,hv,rv⟩:=hs bs N ρ H a w s
   refine ⟨v,?_,rv⟩
   rw [results_eq,Array.mapM_eq_mapM_toList,hr]
   simp only [List.mapM_cons,List.mapM_nil,Sem.run_bind,Sem.run_map,hv,Result.andThen_ok,Sem.run_pure]
   rfl
  ·rename_i hr
   refine ⟨_,h,hx,fun Lw bs N ρ H a w s=>⟨.tuple #[],?_,by simp only [RepF,RepP]; exact ⟨[],rfl,rfl⟩⟩⟩
   rw [results_eq,Array.mapM_eq_mapM_toList,hr]
   simp only [List.mapM_nil,Sem.run_bind,Sem.run_map,Result.andThen_ok,Sem.run_pure]
   rfl
  ·rename_i r1 r2 hr
   obtain ⟨f1,h,hs1⟩:=resK_spec h
   obtain ⟨f2,h,hs2⟩:=resK_spec h
   obtain ⟨f,h,hs⟩:=twoK_spec h
   refine ⟨f,h,hx,fun Lw bs N ρ H a w s=>?_⟩
   obtain ⟨v1,hv1,rv1⟩:=hs1 bs N ρ H a w s
   obtain ⟨v2,hv2,rv2⟩:=hs2 bs N ρ H a w s
   refine ⟨.tuple #[v1,v2],?_,hs _ _ _ _ rv1 rv2⟩
   rw [results_eq,Array.mapM_eq_mapM_toList,hr]
   simp only [List.mapM_cons,List.mapM_nil,Sem.run_bind,Sem.run_map,hv1,hv2,Result.andThen_ok,Sem.run_pure]
   rfl
  ·rename_i r rs hne1 hne2 hr
   obtain ⟨ps,h,hpl,hs⟩:=frL_spec h
   refine ⟨_,h,hx,fun Lw bs N ρ H a w s=>?_⟩
   obtain ⟨vs,hr',rl⟩:=hs bs N ρ H a w s
   refine ⟨.tuple vs.toArray,?_,by simp only [RepF,RepP]; exact ⟨vs,rfl,rl⟩⟩
   rw [results_eq,Array.mapM_eq_mapM_toList,hr]
   simp only [Sem.run_bind,Sem.run_map,hr',Result.andThen_ok,Sem.run_pure]
   have:¬ vs.toArray.size = 1:=by
    intro h1
    simp at h1
    have hl:vs.length = (r :: rs).length:=by rw [rl.length,hpl]
    rw [h1] at hl
    cases rs with
    | nil=>exact hne1 rfl
    | cons b l=>simp at hl
   simp only [this,dif_neg,not_false_eq_true]
 cases x with
 | normal=>exact key (.inl rfl) h
 | exit i=>exact h.elim
 | ret=>exact key (.inr rfl) h
theorem CallsI.of_vc {P:Program} {f:FuncId} {fn:Func} {args:List FV} {lo:List AObj} {R:FV → List AObj → Prop} {inl:List Nat} (hm:P.follows .mixedOrders = true) (he:Enters P f) (hf:P.funcs[f]? = some fn) (hok:fnOk inl fn args.length = true)
  (h:vcI P inl fn args lo R):CallsI P f args lo R:=by
 intro Lw bs ρ H w vs s rl
 rw [he]
 refine ⟨rfl,?_⟩
 simp only [fnOk,Bool.and_eq_true,decide_eq_true_eq] at hok
 obtain ⟨hd,hn⟩:=hok
 unfold vcI at h
 cases hb:fn.body with
 | none=>simp [hb] at hd
 | some c =>
  simp only [hb] at h hd
  have h:=lenK_spec h
  rw [Nat.zero_add] at h
  refine calls_of_wp hf hb ?_
  have hl:=rl.length
  have sat:Sat { S:=lent ρ lo,w0:=w,H0:=H,r0:=ρ } fn.ntmps ρ H (lookD (initF 0 args)) lo { tmps:=vs.toArray ++ Array.replicate (fn.ntmps - vs.toArray.size) undef,defers:=[] } w:=by
   refine { s.lend with slots:=fun t=>?_,width:=by simp; omega,defers:=rfl }
   rw [initF_spec]
   simp only [Nat.zero_le,if_true,Nat.sub_zero]
   cases ht:args[t]? with
   | none=>trivial
   | some p =>
    obtain ⟨v,hv,rv⟩:=rl.get ht
    have hlt:=(List.getElem?_eq_some_iff.1 hv).1
    have:(vs.toArray ++ Array.replicate (fn.ntmps - vs.toArray.size) undef).getD t undef = v:=by
     rw [Array.getD_eq_getD_getElem?,Array.getElem?_append_left (by simpa using hlt)]
     simp [hv]
    rw [this]
    exact rv
  refine wp_mono (vc_sound hm c _ _ _ hd h _ ρ H _ w s.hlen sat) fun e a w' p=>?_
  obtain ⟨x,ρ',H',E',lo',hx,s',k⟩:=p
  obtain ⟨p,hR,hxx,hres⟩:=retI_spec k
  obtain ⟨v,hv,rv⟩:=hres _ _ ρ' H' a w' s'
  have fin:∃ v,(results fn a.tmps).run P w' = .ok v w' ∧ (fun en w''=>∃ v r lo',en = Ending.returned v ∧ After bs ρ H r lo' v w'' ∧ R r lo') (.returned v) w' :=
   ⟨v,hv,v,p,lo',rfl,⟨ρ',H',s'.pre,s'.leH,s.back s'.toSatW,rv⟩,hR⟩
  rcases hxx with rfl | rfl <;> cases e <;> simp only [AXis] at hx
  ·exact ⟨s'.defers,fin⟩
  ·exact ⟨s'.defers,fin⟩
end Ax
end
section
namespace Ax
open Go
inductive Val where
 | mk (kind:Int) (b:Bool) (i:Int) (s:List UInt8) (l:List Val) (k:List (List UInt8))
def strs (l:List (List UInt8)):List (List PV):=l.map fun s=>[.str s]
mutual
def Val.cells:Val → List PV
 | .mk k b i s l ks=>[.int .i64 k,.bool b,.int .i64 i,.str s,.sl (Val.rows l),.sl (strs ks)]
def Val.rows:List Val → List (List PV)
 | []=>[]
 | v :: l=>v.cells :: Val.rows l
end
abbrev Val.pv (v:Val):PV:=.agg v.cells
def vals (l:List Val):List (List PV):=l.map Val.cells
theorem rows_eq:∀ l:List Val,Val.rows l = vals l
 | []=>rfl
 | v :: l=>by simp only [Val.rows,vals,List.map_cons]; rw [rows_eq l]; rfl
@[simp] theorem strs_length (l:List (List UInt8)):(strs l).length = l.length:=by simp [strs]
@[simp] theorem vals_length (l:List Val):(vals l).length = l.length:=by simp [vals]
theorem cells_length (v:Val):v.cells.length = 6:=by cases v; rfl
theorem wrap_ok (n:Int) (h0:-9223372036854775808 ≤ n) (h1:n ≤ 9223372036854775807):IntKind.i64.wrap n = n:=IntWalk.i64_in n ⟨h0,h1⟩
instance:Inhabited Val:=⟨.mk 0 false 0 [] [] []⟩
theorem wrap_nat (i:Nat) (h:i < 1152921504606846976):IntKind.i64.wrap (↑i + 1) = ((i + 1:Nat):Int):=by rw [wrap_ok _ (by omega) (by omega)]; omega
end Ax
end
section
namespace Ax
open Go
def kbig:List (List UInt8) → Nat
 | []=>0
 | k :: l=>k.length + 1 + kbig l
mutual
def Val.big:Val → Nat
 | .mk _ _ _ s l ks=>1 + s.length + bigs l + kbig ks
def bigs:List Val → Nat
 | []=>0
 | v :: l=>Val.big v + bigs l
end
theorem Val.big_pos (v:Val):1 ≤ v.big:=by cases v; simp only [Val.big]; omega
theorem bigs_len (l:List Val):l.length ≤ bigs l:=by
 induction l with
 | nil=>exact Nat.le_refl _
 | cons v l ih=>simp only [bigs,List.length_cons]; have:=v.big_pos; omega
theorem kbig_len (l:List (List UInt8)):l.length ≤ kbig l:=by
 induction l with
 | nil=>exact Nat.le_refl _
 | cons v l ih=>simp only [kbig,List.length_cons]; omega
end Ax
end
section
namespace Ax
open Go
theorem bl_total:∀ a b:List UInt8,(Op.bytesLess a b || a == b) = !Op.bytesLess b a
 | [],[]=>rfl
 | [],_ :: _=>rfl
 | _ :: _,[]=>rfl
 | x :: xs,y :: ys=>by
  have ih:=bl_total xs ys
  simp only [Op.bytesLess]
  rcases Nat.lt_trichotomy x.toNat y.toNat with h | h | h
  ·have h1:x < y:=UInt8.lt_iff_toNat_lt.2 h
   have h2:¬ y < x:=fun h'=>by have:=UInt8.lt_iff_toNat_lt.1 h'; omega
   have h3:¬ y = x:=fun h'=>by subst h'; omega
   simp [h1,h2,h3]
  ·have h1:x = y:=UInt8.toNat.inj h
   subst h1
   have h2:¬ x < x:=fun h'=>by have:=UInt8.lt_iff_toNat_lt.1 h'; omega
   simp only [h2,List.cons_beq_cons]
   simpa using ih
  ·have h1:¬ x < y:=fun h'=>by have:=UInt8.lt_iff_toNat_lt.1 h'; omega
   have h2:y < x:=UInt8.lt_iff_toNat_lt.2 h
   have h3:¬ x = y:=fun h'=>by subst h'; omega
   simp [h1,h2,h3]
end Ax
end
section
namespace Ax
open Go
end Ax
end
section
namespace Ax
open Go
variable {Lw:Nat}
theorem CallsI.noEscape {P : Program} {f : FuncId} {fn : Func} (hf : P.funcs[f]? = some fn) (hname : (fn.name == "runtime.NumGoroutine") = false) (hb : fn.body.isNone = true) (hn : Extern.findNext fn = none)
  (he:Extern.find fn = some Extern.AbiNoEscape.same) {v:FV} {lo:List AObj} {R:FV → List AObj → Prop} (h:R v lo):CallsI P f [v] lo R:=by
 intro Lw bs ρ H w vs s rl
 simp only [RepFL] at rl
 obtain ⟨v',_,rfl,rv,rfl⟩:=rl
 rw [show ([v']:List Value).toArray = #[v'] from rfl,run_callFunc_extern hf hname hb hn he]
 exact ⟨v,lo,⟨ρ,H,List.prefix_refl _,PH.le.refl H,s,rv⟩,h⟩
end Ax
end
section
namespace Go.Proofs
open Go Go.Shelf Go.RowKit Ax
variable {P:Program} {ρ:Ren}
def StrPost (l:List UInt8) (v:Value) (w:World) (e:Ending) (w':World):Prop :=
 e = .returned (.string ⟨l.toArray⟩) ∧ (w' = w.drew ∨ (∃ g n,blkOf v = some g ∧ w' = w.drew.freeze ⟨g,0,none⟩ n) ∨ ∃ o,w' = w.drew.alloc o)
set_option maxHeartbeats 2000000 in
set_option maxRecDepth 100000 in
theorem Any.String_exact (L:Lays.n169 P ρ) (X:Builder.Extra P ρ) (b:Nat) (l:List UInt8) (w:World) (p v:Value) (hbk:w.heap[b]? = some (.cells #[p,v] (ρ.t 72) (0,0)))
  (hown:w.ownsRow 0 (ρ.t 5) 1 v l.length (Lib.byteCells l)) (h0:l ≠ []) :
  Calls P (ρ.f 169) #[.pointer (some ⟨b,0,none⟩)] w (StrPost l v w):=by
 have hl0:l.length ≠ 0:=by simpa using h0
 obtain ⟨g,cap,cur,rfl,hg,hnc,hcm,hcs,htake⟩:∃ g cap cur,v = .slice (some ⟨g,0,none⟩) l.length cap ∧ w.heap[g]? = some (.cells cur (ρ.t 5) (0,0)) ∧ l.length ≤ cap ∧ cap ≤ maxLen ∧ cur.size = cap * 1 ∧ cur.toList.take (l.length * 1) = Lib.byteCells l:=by
  rcases hown.2 with ⟨_,hz⟩ | ⟨g,cap,cur,hv,_,r⟩
  ·exact absurd hz hl0
  ·exact ⟨g,cap,cur,hv,r⟩
 have c1:w.drew.cell? ⟨b,1,none⟩ = some (.slice (some ⟨g,0,none⟩) l.length cap):=by
  have:w.drew.heap[b]? = some (.cells #[p,.slice (some ⟨g,0,none⟩) l.length cap] (ρ.t 72) (0,0)):=hbk
  rw [Lib.cell_of_heap this]; rfl
 have hSD:(Builtin.unsafeSliceData_ #[(ρ.t 37)] (ρ.t 127) #[.slice (some ⟨g,0,none⟩) l.length cap]).run P w.drew = .ok (.pointer (some ⟨g,0,none⟩)) w.drew :=
  Lib.run_unsafeSliceData_row _ _ _ _ _ _ (by omega)
 have hUS:(Builtin.unsafeString_ #[(ρ.t 127),(ρ.t 3)] (ρ.t 9) #[.pointer (some ⟨g,0,none⟩),.int .i64 l.length]).run P w.drew = .ok (.string ⟨l.toArray⟩) (w.drew.freeze ⟨g,0,none⟩ l.length):=by
  refine Lib.run_unsafeString_row w.drew (ρ.t 127) (ρ.t 3) (ρ.t 9) (ρ.t 5) L.t127 X.cellsByte g cur.size (by have hg':w.drew.heap[g]? = some (.cells cur (ρ.t 5) (0,0)):=hg; simp [World.shape?,hg']) l h0 (by omega) (by unfold maxLen at hcm; omega) ?_
  intro j x hx
  exact hown.cells (g:=g) rfl j (.int .u8 x.toNat) (by simp [Lib.byteCells,hx])
 have mixed:=L.mixed
 have t72:=L.t72; have a72:=L.a72; have z72:=L.z72; have v72:=L.v72; have u72:=run_underlying L.t72
 have t70:=L.t70; have a70:=L.a70; have z70:=L.z70; have v70:=L.v70; have u70:=run_underlying L.t70
 have t37:=L.t37; have a37:=L.a37; have z37:=L.z37; have v37:=L.v37; have u37:=run_underlying L.t37
 have t127:=L.t127; have a127:=L.a127; have z127:=L.z127; have v127:=L.v127; have u127:=run_underlying L.t127
 have t3:=L.t3; have a3:=L.a3; have z3:=L.z3; have v3:=L.v3; have u3:=run_underlying L.t3
 have t9:=L.t9; have a9:=L.a9; have z9:=L.z9; have v9:=L.v9; have u9:=run_underlying L.t9
 have t5:=X.t5; have a5:=X.a5; have z5:=X.z5; have v5:=X.v5; have u5:=run_underlying X.t5
 go_enter L.f169,Body.n169_ntmps ρ
 go_wp2
 go_region_o
 all_goals (go_wp2; go_ret; exact ⟨rfl,.inr (.inl ⟨g,l.length,rfl,rfl⟩)⟩)
theorem Any.String_empty (L:Lays.n169 P ρ) (X:Builder.Extra P ρ) (b:Nat) (w:World) (p v:Value) (hbk:w.heap[b]? = some (.cells #[p,v] (ρ.t 72) (0,0)))
  (hown:w.ownsRow 0 (ρ.t 5) 1 v 0 []) :
  Calls P (ρ.f 169) #[.pointer (some ⟨b,0,none⟩)] w fun e w'=>e = .returned (.string ⟨#[]⟩) ∧ Below w.heap.size w w':=by
 rcases hown.2 with ⟨rfl,_⟩ | ⟨g,cap,cur,rfl,_,hg,_,_,_,_⟩
 ·exact Any.Builder_String_nil L X _ b p w hbk
 ·by_cases hc0:cap = 0
  ·subst hc0
   exact Any.Builder_String_noroom L X _ b g p cur w (Nat.le_refl _) hbk hg
  ·exact Any.Builder_String_room L X _ b g cap p w hc0 hbk
end Go.Proofs
end
section
namespace Ax
open Go Go.Proofs Go.RowKit
variable {Lw:Nat}
structure Shut (v:Value) (w w':World):Prop where
 os:w'.os = w.os
 tape:w'.tape = w.tape
 output:w'.output = w.output
 size:w.heap.size ≤ w'.heap.size
 block:∀ k,k < w.heap.size → blkOf v ≠ some k → w'.heap[k]? = w.heap[k]?
 cell:∀ a x,w.cell? a = some x → w'.cell? a = some x
theorem Shut.of {l:List UInt8} {v:Value} {w w':World} {e:Ending} (h:StrPost l v w e w'):Shut v w w':=by
 obtain ⟨_,rfl | ⟨g,n,hg,rfl⟩ | ⟨o,rfl⟩⟩:=h
 ·exact ⟨rfl,rfl,rfl,Nat.le_refl _,fun _ _ _=>rfl,fun _ _ h=>h⟩
 ·have hb:∀ k,k ≠ g → (w.drew.freeze ⟨g,0,none⟩ n).heap[k]? = w.heap[k]?:=by
   intro k hk
   unfold World.freeze
   split
   ·rfl
   ·simp only [Array.getElem?_modify]
    rw [if_neg (by omega)]; rfl
  refine ⟨?_,?_,?_,?_,fun k _ hk=>hb k (fun e=>hk (by rw [hg,e])),fun a x hx=>?_⟩
  ·unfold World.freeze; split <;> rfl
  ·unfold World.freeze; split <;> rfl
  ·unfold World.freeze; split <;> rfl
  ·unfold World.freeze; split
   ·exact Nat.le_refl _
   ·simp
  ·unfold World.freeze
   split
   ·exact hx
   ·unfold World.cell? at hx ⊢
    split at hx
    ·rename_i c el fz hh
     have hh':w.drew.heap[a.block]? = some (.cells c el fz):=hh
     simp only [Array.getElem?_modify,hh',Option.map_some]
     by_cases hga:g = a.block
     ·simp only [hga,if_true]; exact hx
     ·simp only [hga,if_false]; exact hx
    ·exact absurd hx (by simp)
 ·refine ⟨rfl,rfl,rfl,by simp,fun k hk _=>?_,fun a x hx=>?_⟩
  ·exact Go.RowKit.Below.heap_alloc w.drew o k hk
  ·rw [World.cell?_alloc_lt (h:=World.block_lt_of_cell? w.drew a hx)]; exact hx
theorem SatW.shut {bs:(Base Lw)} {ρ:List Value} {H:(PH Lw)} {lo:List AObj} {w w':World} (s:SatW bs ρ H lo w) {j:Nat} {v:Value} {e:TypeId} {z n:Nat} (hj:lo[j]? = some (.tail e z n)) (hv:ρ[j]? = some v)
  (h:Shut v w w') (hu8:∀ b o x,blkOf v = some b → H b o = some x → ∃ m,x = .int .u8 m):SatW bs ρ H (lo.set j .dead) w' where
 sath:=⟨fun b o x hx=>⟨h.cell _ _ (s.sath.cell b o x hx).1,(s.sath.cell b o x hx).2⟩,s.sath.root,Nat.le_trans s.sath.low h.size,fun b o x hx hL=>by
  by_cases hb:blkOf v = some b
  ·exact .inl (hu8 b o x hb hx)
  ·exact (s.sath.nf b o x hx hL).block (h.block b (s.sath.lt hx) hb)⟩
 hlen:=by simpa using s.hlen
 pre:=s.pre
 objs:=fun i o u hi hu=>by
  rw [List.getElem?_set] at hi
  split at hi
  ·split at hi
   ·cases hi; trivial
   ·cases hi
  ·rename_i hne
   cases hl:o.live with
   | false=>cases o <;> simp [AObj.live] at hl; trivial
   | true =>
    refine (s.objs i o u hi hu).keep (List.prefix_refl _) (PH.le.refl H) (fun b hb hlt=>h.block b hlt fun e=>?_) (fun _ _ _ _ hn=>hn)
    exact s.excl i j o _ u v b hi hj hu hv (fun e=>hne e.symm) hl rfl hb e
 excl:=s.kill j |>.excl
 own:=s.kill j |>.own
 keep:=by
  refine ⟨h.os.trans s.keep.os,h.tape.trans s.keep.tape,h.output.trans s.keep.output,Nat.le_trans s.keep.size h.size,fun k hk hS=>?_⟩
  rw [h.block k (Nat.lt_of_lt_of_le hk s.keep.size) fun e=>?_]
  ·exact s.keep.block k hk hS
  ·rcases s.own j _ v k hj hv rfl e with h1 | h1
   ·exact hS h1
   ·omega
 leH:=s.leH
 newH:=s.newH
theorem CallsI.string {P:Program} {f:FuncId} {T E:TypeId} (hent:∀ args w,(callFunc f args).run P w = .ok (.enter f args) w)
  (hc:∀ (b:Nat) (l:List UInt8) (w:World) (p v:Value),w.heap[b]? = some (.cells #[p,v] T (0,0)) → w.ownsRow 0 E 1 v l.length (Lib.byteCells l) → l ≠ [] →
   Calls P f #[.pointer (some ⟨b,0,none⟩)] w (StrPost l v w))
  {k j:Nat} {a:FV} {bs:List UInt8} {lo:List AObj} {n:Nat} {R:FV → List AObj → Prop} (hk:lo[k]? = some (.box T [a,.tsl j (bRows bs)])) (hj:lo[j]? = some (.tail E 1 n))
  (h0:bs ≠ []) (h:R (.p (.str bs)) (lo.set j .dead)):CallsI P f [.ptr k 0] lo R:=by
 intro Lw bs' ρ H w vs s rl
 obtain ⟨u,_,rfl,ru,rfl⟩:=rl
 obtain ⟨b,hb,rfl⟩:=ru
 rw [show ([Value.pointer (some ⟨b,0,none⟩)]:List Value).toArray = #[.pointer (some ⟨b,0,none⟩)] from rfl,hent]
 refine ⟨rfl,?_⟩
 obtain ⟨b',vs,e',hg,hcs,_⟩:=s.objs k _ _ hk hb
 cases e'
 simp only [RepFL] at hcs
 obtain ⟨p,_,rfl,_,v,_,rfl,⟨hv,hrep⟩,rfl⟩:=hcs
 obtain ⟨xs,how,hx⟩:=s.objs j _ v hj hv
 have hxs:n = bs.length ∧ xs = Lib.byteCells bs:=by
  simp only [RepP] at hrep
  rcases hrep with ⟨e0,_⟩ | ⟨g,o,z,cap,rfl,_,rr⟩
  ·exact absurd (by simpa [bRows] using e0) h0
  ·rcases how.2 with ⟨e0,_⟩ | ⟨g',cap',cur,e0,_⟩
   ·cases e0
   ·simp only [Value.slice.injEq,Option.some.injEq,Addr.mk.injEq] at e0
    obtain ⟨⟨rfl,rfl,_⟩,hn,_⟩:=e0
    have hn':n = bs.length:=by rw [← hn]; simp [bRows]
    refine ⟨hn',?_⟩
    have hl:=how.1
    have hcell:=rows_bytes s.sath rr
    refine List.ext_getElem (by rw [hl,Lib.byteCells_length,hn',Nat.mul_one]) fun j h1 h2=>?_
    have hj':j < bs.length:=by rw [Lib.byteCells_length] at h2; exact h2
    have c1:=how.cells (g:=g) rfl j _ (List.getElem?_eq_getElem h1)
    rw [hcell j hj'] at c1
    simp only [Option.some.injEq] at c1
    rw [← c1]
    simp [Lib.byteCells]
 obtain ⟨rfl,rfl⟩:=hxs
 refine (hc b bs w p v hg how h0).mono fun e w' hp=>?_
 exact ⟨_,.p (.str bs),lo.set j .dead,hp.1,⟨ρ,H,List.prefix_refl _,PH.le.refl H,s.shut hj hv (Shut.of hp) (fun b o x hb hxo=>by
  obtain ⟨a1,a2⟩:=hx b hb
  have ho:o < (Lib.byteCells bs).length:=by
   rw [Lib.byteCells_length]
   rcases Nat.lt_or_ge o (bs.length * 1) with h1 | h1
   ·omega
   ·rw [a2 o h1] at hxo; cases hxo
  have h2:=a1 o _ (List.getElem?_eq_getElem ho)
  rw [hxo] at h2
  rw [Option.some.inj h2]
  simp [Lib.byteCells]),by simp [RepF,RepP]⟩,h⟩
theorem SatH.below {H:(PH Lw)} {w w':World} (s:SatH H w) (h:Below w.heap.size w w'):Calm H w H w' :=
 ⟨PH.le.refl H,s.block h.size fun b _ _ hv=>h.block b (s.lt hv),⟨h.os,h.tape,h.output,h.size,fun k hk _=>h.block k hk⟩,fun _ _ v hv=>.inl ⟨v,hv⟩⟩
abbrev StringEmpty (P:Program) (f:FuncId) (T E:TypeId):Prop:=∀ (b:Nat) (w:World) (p v:Value),w.heap[b]? = some (.cells #[p,v] T (0,0)) → w.ownsRow 0 E 1 v 0 [] →
   Calls P f #[.pointer (some ⟨b,0,none⟩)] w fun e w'=>e = .returned (.string ⟨#[]⟩) ∧ Below w.heap.size w w'
theorem CallsI.string_any {P:Program} {f:FuncId} {T E:TypeId} (hent:∀ args w,(callFunc f args).run P w = .ok (.enter f args) w)
  (hc:∀ (b:Nat) (l:List UInt8) (w:World) (p v:Value),w.heap[b]? = some (.cells #[p,v] T (0,0)) → w.ownsRow 0 E 1 v l.length (Lib.byteCells l) → l ≠ [] →
   Calls P f #[.pointer (some ⟨b,0,none⟩)] w (StrPost l v w)) (hc0:StringEmpty P f T E)
  {k j:Nat} {a:FV} {bs:List UInt8} {lo:List AObj} {n:Nat} {R:FV → List AObj → Prop} (hk:lo[k]? = some (.box T [a,.tsl j (bRows bs)])) (hj:lo[j]? = some (.tail E 1 n))
  (h:R (.p (.str bs)) (lo.set j .dead)):CallsI P f [.ptr k 0] lo R:=by
 by_cases h0:bs = []
 ·subst h0
  intro Lw bs' ρ H w vs s rl
  obtain ⟨u,_,rfl,ru,rfl⟩:=rl
  obtain ⟨b,hb,rfl⟩:=ru
  rw [show ([Value.pointer (some ⟨b,0,none⟩)]:List Value).toArray = #[.pointer (some ⟨b,0,none⟩)] from rfl,hent]
  refine ⟨rfl,?_⟩
  obtain ⟨b',vs,e',hg,hcs,_⟩:=s.objs k _ _ hk hb
  cases e'
  simp only [RepFL] at hcs
  obtain ⟨p,_,rfl,_,v,_,rfl,⟨hv,hrep⟩,rfl⟩:=hcs
  obtain ⟨xs,how,hx⟩:=s.objs j _ v hj hv
  have hn:n = 0:=by
   simp only [RepP,bRows,List.map_nil] at hrep
   rcases hrep with ⟨_,e0⟩ | ⟨g,o,z,cap,rfl,_,_⟩
   ·rcases how.2 with ⟨_,hz⟩ | ⟨g',cap',cur,e1,_⟩
    ·exact hz
    ·rcases e0 with e0 | ⟨a0,c0,e0⟩
     ·rw [e0] at e1; cases e1
     ·rw [e0] at e1
      simp only [Value.slice.injEq] at e1
      exact e1.2.1.symm
   ·rcases how.2 with ⟨e1,hz⟩ | ⟨g',cap',cur,e1,_⟩
    ·cases e1
    ·simp only [Value.slice.injEq] at e1
     exact e1.2.1.symm
  subst hn
  have hxs:xs = []:=by have:=how.1; simpa using this
  subst hxs
  refine (hc0 b w p v hg how).mono fun e w' hp=>?_
  exact ⟨_,.p (.str []),lo.set j .dead,hp.1,⟨ρ,H,List.prefix_refl _,PH.le.refl H,(s.kill j).calm (s.sath.below hp.2),by simp [RepF,RepP]⟩,h⟩
 ·exact CallsI.string hent hc hk hj h0 h
end Ax
end
section
namespace Ax
open Go
variable {Lw:Nat}
mutual
def PV.norm:PV → PV
 | .nilsl=>.sl []
 | .agg cs=>.agg (normL cs)
 | .tup cs=>.tup (normL cs)
 | .sl rows=>.sl (normR rows)
 | v=>v
def normL:List PV → List PV
 | []=>[]
 | c :: cs=>c.norm :: normL cs
def normR:List (List PV) → List (List PV)
 | []=>[]
 | r :: rs=>normL r :: normR rs
end
theorem normR_length:∀ rows:List (List PV),(normR rows).length = rows.length
 | []=>rfl
 | _ :: l=>by simp [normR,normR_length l]
theorem normL_length:∀ cs:List PV,(normL cs).length = cs.length
 | []=>rfl
 | _ :: l=>by simp [normL,normL_length l]
mutual
theorem RepP.norm {H:(PH Lw)}:∀ {c:PV} {v:Value},RepP H c v → RepP H c.norm v
 | .nilsl,v,h=>by simp only [PV.norm,RepP] at *; exact .inl ⟨trivial,.inl h⟩
 | .agg cs,v,h=>by
  simp only [PV.norm,RepP] at *
  obtain ⟨vs,e,r⟩:=h
  exact ⟨vs,e,RepL.norm r⟩
 | .tup cs,v,h=>by
  simp only [PV.norm,RepP] at *
  obtain ⟨vs,e,r⟩:=h
  exact ⟨vs,e,RepL.norm r⟩
 | .sl rows,v,h=>by
  simp only [PV.norm,RepP] at *
  rcases h with ⟨rfl,h⟩ | ⟨b,o,z,cap,e,hc,r⟩
  ·exact .inl ⟨rfl,h⟩
  ·exact .inr ⟨b,o,z,cap,by rw [normR_length]; exact e,by rw [normR_length]; exact hc,RepR.norm r⟩
 | .bool _,_,h | .int ..,_,h | .str _,_,h | .nilp,_,h | .fn _,_,h | .nilfn,_,h | .nili,_,h | .nilmap,_,h | .ifc ..,_,h | .hp _,_,h | .clo ..,_,h | .bfn ..,_,h | .ifo ..,_,h | .nsl _,_,h=>by
  simpa only [PV.norm] using h
theorem RepL.norm {H:(PH Lw)}:∀ {cs:List PV} {vs:List Value},RepL H cs vs → RepL H (normL cs) vs
 | [],_,h=>by simpa only [normL] using h
 | c :: cs,vs,h=>by
  simp only [normL,RepL] at *
  obtain ⟨v,vs',e,r,rs⟩:=h
  exact ⟨v,vs',e,RepP.norm r,RepL.norm rs⟩
theorem RepR.norm {H:(PH Lw)} {b z:Nat}:∀ {rows:List (List PV)} {o:Nat},RepR H b z o rows → RepR H b z o (normR rows)
 | [],_,h=>by simpa only [normR] using h
 | r :: rs,o,h=>by
  simp only [normR,RepR] at *
  obtain ⟨e,⟨vs,q,c⟩,rr⟩:=h
  exact ⟨by rw [normL_length]; exact e,⟨vs,RepL.norm q,c⟩,RepR.norm rr⟩
end
theorem CallsF.norm {P:Program} {f:FuncId} {args:List PV} {r r':PV} (h:CallsF P f args r) (e:r.norm = r'):CallsF P f args r':=by
 subst e
 intro Lw H w vs hs rl
 have:=h H w vs hs rl
 generalize (callFunc f vs.toArray).run P w = x at *
 cases x with
 | ok n w' =>
  cases n <;> simp only [CallUpon] at this ⊢ <;> try exact this
  ·obtain ⟨H',c,r⟩:=this; exact ⟨H',c,RepP.norm r⟩
  ·exact ⟨this.1,this.2.mono fun en w'' ⟨v,H',e,c,r⟩=>⟨v,H',e,c,RepP.norm r⟩⟩
 | halt x w'=>exact this
theorem CallsF.args {P:Program} {f:FuncId} {args args':List PV} {r:PV} (h:CallsF P f args' r) (e:normL args = args'):CallsF P f args r:=by
 subst e
 exact fun Lw H w vs hs rl=>h H w vs hs (RepL.norm rl)
end Ax
end
