/- A part of the proof. -/
import Derived.WalkKit
import Derived.WalkLawsBesides
import Derived.WalkSpells
import Derived.Test.YtajcpfcghhbbnaaGreatDoorE
set_option linter.all false
section
open Go Ax Go.RowKit
namespace W
set_option maxRecDepth 10000
open Classical
def kx:List (List UInt8) → List Val → List Val
 | a :: q,v :: r=>if a = [] then v :: kx q r else kx q r
 | _,_=>[]
theorem drop_head {A:Type} {l:List A} {i:Nat} {x:A} (h:l[i]? = some x):l.drop i = x :: l.drop (i + 1):=by
 obtain ⟨_,e⟩:=List.getElem?_eq_some_iff.1 h
 rw [List.drop_eq_getElem_cons (List.getElem?_eq_some_iff.1 h).1,e]
theorem kx_mem:∀ {q:List (List UInt8)} {r:List Val} {v:Val},v ∈ kx q r → v ∈ r
 | [],_,_,h=>by simp [kx] at h
 | _ :: _,[],_,h=>by simp [kx] at h
 | a :: q,x :: r,v,h=>by
  simp only [kx] at h
  split at h
  ·rcases List.mem_cons.1 h with h | h
   ·simp [h]
   ·simp [kx_mem h]
  ·simp [kx_mem h]
theorem kx_bigs:∀ (q:List (List UInt8)) (r:List Val),bigs (kx q r) ≤ bigs r
 | [],_=>by simp [kx,bigs]
 | _ :: _,[]=>by simp [kx,bigs]
 | a :: q,x :: r=>by
  have:=kx_bigs q r
  simp only [kx]
  split <;> simp only [bigs] <;> omega
def nokey:List (List UInt8) → Nat
 | []=>0
 | a :: q=>if a = [] then nokey q + 1 else nokey q
theorem kx_len:∀ {q:List (List UInt8)} {r:List Val},r.length = q.length → (kx q r).length = nokey q
 | [],_,h=>by simp [kx,nokey]
 | _ :: _,[],h=>by simp at h
 | a :: q,x :: r,h=>by
  have:=kx_len (q:=q) (r:=r) (by simpa using h)
  simp only [kx,nokey]
  split <;> simp [this]
theorem nokey_zero:∀ {q:List (List UInt8)},nokey q = 0 ↔ [] ∉ q
 | []=>by simp [nokey]
 | a :: q=>by
  have:=nokey_zero (q:=q)
  simp only [nokey]
  by_cases h:a = []
  ·simp [h]
  ·simp [h,this,Ne.symm h]
theorem ckeys_eq {n:Nat} (hn:n ≤ 1073741824) {aggs:List (List UInt8)} {r:List Val} (hr:r.length = aggs.length) (ha:aggs.length < n):F_rows_Group_c1 n r aggs = some (kx aggs r):=by
 have loop:∀ (m i:Nat) (acc:List Val),i ≤ aggs.length → aggs.length - i < m → acc.length ≤ i → loopK (F_rows_Group_c1_l1 n aggs r) m (acc,(i:Int)) = some (acc ++ kx (aggs.drop i) (r.drop i)):=by
  intro m
  induction m with
  | zero=>intro i _ _ h; omega
  | succ m ih =>
   intro i acc hi hm hacc
   rw [loopK_succ]
   generalize loopK (F_rows_Group_c1_l1 n aggs r) m = nx at ih ⊢
   unfold F_rows_Group_c1_l1
   simp only [strs_len,valRows_len]
   by_cases hlt:i < aggs.length
   ·obtain ⟨a,ha'⟩:∃ x,aggs[i]? = some x:=⟨_,List.getElem?_eq_getElem hlt⟩
    obtain ⟨x,hx⟩:∃ x,r[i]? = some x:=⟨_,List.getElem?_eq_getElem (by omega)⟩
    rw [decide_eq_true (show (i:Int) < (aggs.length:Int) by omega),drop_head ha',drop_head hx]
    simp only [cond_true,Ax.idx_nat,ha',hx,bnd_eq,kx]
    unfold F_rows_Group_c1_k3
    by_cases he:a = []
    ·subst he
     rw [show (([]:List UInt8) == []) = true from rfl,decide_eq_true (show (i:Int) < (r.length:Int) by omega)]
     obtain ⟨a1,a2,a3,a4,a5,a6⟩:=x
     simp only [cond_true,if_true]
     rw [chk_dec (by rw [List.length_append,List.length_singleton]; omega),wrapN (by omega),ih (i + 1) _ (by omega) (by omega) (by rw [List.length_append,List.length_singleton]; omega)]
     simp
    ·have:(a == []) = false:=by cases a with | nil=>exact absurd rfl he | cons _ _=>rfl
     rw [this,if_neg he]
     simp only [cond_false]
     rw [wrapN (by omega),ih (i + 1) _ (by omega) (by omega) (by omega)]
   ·rw [decide_eq_false (show ¬ (i:Int) < (aggs.length:Int) by omega),List.drop_eq_nil_of_le (by omega)]
    simp [kx]
 have:=loop n 0 [] (Nat.zero_le _) (by omega) (Nat.le_refl _)
 exact this
theorem rkeys_eq {n:Nat} (hn:n ≤ 1073741824) {aggs:List (List UInt8)} {r:List Val} (hr:r.length = aggs.length) (ha:aggs.length < n):F_R17_keys n r aggs = some (kx aggs r):=by
 have loop:∀ (m i:Nat) (acc:List Val),i ≤ aggs.length → aggs.length - i < m → acc.length ≤ i → loopK (F_R17_keys_l1 n aggs r) m (acc,(i:Int)) = some (acc ++ kx (aggs.drop i) (r.drop i)):=by
  intro m
  induction m with
  | zero=>intro i _ _ h; omega
  | succ m ih =>
   intro i acc hi hm hacc
   rw [loopK_succ]
   generalize loopK (F_R17_keys_l1 n aggs r) m = nx at ih ⊢
   unfold F_R17_keys_l1
   simp only [strs_len,valRows_len]
   by_cases hlt:i < aggs.length
   ·obtain ⟨a,ha'⟩:∃ x,aggs[i]? = some x:=⟨_,List.getElem?_eq_getElem hlt⟩
    obtain ⟨x,hx⟩:∃ x,r[i]? = some x:=⟨_,List.getElem?_eq_getElem (by omega)⟩
    rw [decide_eq_true (show (i:Int) < (aggs.length:Int) by omega),drop_head ha',drop_head hx]
    simp only [cond_true,Ax.idx_nat,ha',hx,bnd_eq,kx]
    unfold F_R17_keys_k3
    by_cases he:a = []
    ·subst he
     rw [show (([]:List UInt8) == []) = true from rfl]
     obtain ⟨a1,a2,a3,a4,a5,a6⟩:=x
     simp only [cond_true,if_true]
     rw [chk_dec (by rw [List.length_append,List.length_singleton]; omega),wrapN (by omega),ih (i + 1) _ (by omega) (by omega) (by rw [List.length_append,List.length_singleton]; omega)]
     simp
    ·have:(a == []) = false:=by cases a with | nil=>exact absurd rfl he | cons _ _=>rfl
     rw [this,if_neg he]
     simp only [cond_false]
     rw [wrapN (by omega),ih (i + 1) _ (by omega) (by omega) (by omega)]
   ·rw [decide_eq_false (show ¬ (i:Int) < (aggs.length:Int) by omega),List.drop_eq_nil_of_le (by omega)]
    simp [kx]
 have:=loop n 0 [] (Nat.zero_le _) (by omega) (Nat.le_refl _)
 exact this
def pickV (r:List Val) (c:Nat):List Val:=match r[c]? with
 | some v=>if kindV v ≠ 0 then [v] else []
 | none=>[]
noncomputable def colX (aggs:List (List UInt8)) (l:List (List Val)) (k:List Val) (c:Nat):List Val:=if aggs[c]? = some [] then [] else l.flatMap fun r=>if kx aggs r = k then pickV r c else []
noncomputable def firstX (aggs:List (List UInt8)) (l:List (List Val)) (k:List Val):List Val:=if [] ∈ aggs then (l.find? fun r=>decide (kx aggs r = k)).getD [] else []
noncomputable def gOf (aggs:List (List UInt8)) (l:List (List Val)) (k:List Val):Grp:=⟨keyR k,firstX aggs l k,(List.range aggs.length).map (colX aggs l k)⟩
theorem colX_snoc (aggs:List (List UInt8)) (l:List (List Val)) (r:List Val) (k:List Val) (c:Nat):colX aggs (l ++ [r]) k c = colX aggs l k c ++ (if aggs[c]? = some [] then [] else if kx aggs r = k then pickV r c else []):=by
 unfold colX
 split
 ·simp
 ·simp [List.flatMap_append]
theorem pickV_len (r:List Val) (c:Nat):(pickV r c).length ≤ 1:=by
 unfold pickV
 split
 ·split <;> simp
 ·simp
theorem colX_len (aggs:List (List UInt8)) (k:List Val) (c:Nat):∀ l:List (List Val),(colX aggs l k c).length ≤ l.length
 | []=>by unfold colX; split <;> simp
 | r :: l=>by
  have ih:=colX_len aggs k c l
  have:=pickV_len r c
  unfold colX at ih ⊢
  split
  ·simp
  ·rename_i h
   rw [if_neg h] at ih
   rw [List.flatMap_cons,List.length_append,List.length_cons]
   split
   ·omega
   ·rw [List.length_nil]; omega
theorem colX_mem {aggs:List (List UInt8)} {l:List (List Val)} {k:List Val} {c:Nat} {v:Val} (h:v ∈ colX aggs l k c):∃ r ∈ l,v ∈ r:=by
 unfold colX at h
 split at h
 ·cases h
 ·obtain ⟨r,hr,h⟩:=List.mem_flatMap.1 h
  split at h
  ·unfold pickV at h
   split at h
   ·rename_i x hx
    split at h
    ·simp at h; subst h; exact ⟨r,hr,List.mem_of_getElem? hx⟩
    ·cases h
   ·cases h
  ·cases h
theorem rangeMap_get {A:Type} (f:Nat → A) (na c:Nat):((List.range na).map f)[c]? = if c < na then some (f c) else none:=by
 rw [List.getElem?_map]
 split
 ·rename_i h; rw [List.getElem?_range h]; rfl
 ·rename_i h; rw [List.getElem?_eq_none (by simpa using h)]; rfl
theorem colsTo_map {aggs:List (List UInt8)} {r:List Val} (hr:r.length = aggs.length) (f:Nat → List Val):∀ m:Nat,m ≤ aggs.length →
  colsTo aggs r ((List.range aggs.length).map f) m = (List.range aggs.length).map fun c=>if c < m ∧ aggs[c]? ≠ some [] then f c ++ pickV r c else f c
 | 0,_=>by
  show _ = _
  simp only [colsTo]
  refine List.map_congr_left fun c _=>?_
  rw [if_neg (by omega)]
 | m + 1,hm=>by
  have ih:=colsTo_map hr f m (by omega)
  show stepC aggs r m (colsTo aggs r _ m) = _
  rw [ih]
  obtain ⟨a,ha⟩:∃ x,aggs[m]? = some x:=⟨_,List.getElem?_eq_getElem (by omega)⟩
  obtain ⟨x,hx⟩:∃ x,r[m]? = some x:=⟨_,List.getElem?_eq_getElem (by omega)⟩
  have hc:=rangeMap_get (fun c=>if c < m ∧ aggs[c]? ≠ some [] then f c ++ pickV r c else f c) aggs.length m
  rw [if_pos (by omega),if_neg (by omega)] at hc
  have hp:pickV r m = if kindV x ≠ 0 then [x] else []:=by unfold pickV; rw [hx]
  unfold stepC
  rw [ha,hx,hc]
  simp only []
  refine List.ext_getElem? fun q=>?_
  have hrhs:=rangeMap_get (fun c=>if c < m + 1 ∧ aggs[c]? ≠ some [] then f c ++ pickV r c else f c) aggs.length q
  rw [hrhs]
  have hlhs:=rangeMap_get (fun c=>if c < m ∧ aggs[c]? ≠ some [] then f c ++ pickV r c else f c) aggs.length q
  by_cases hq:q = m
  ·subst hq
   simp only [if_pos (show q < aggs.length by omega),if_neg (show ¬ (q < q ∧ aggs[q]? ≠ some []) by omega)] at hlhs ⊢
   by_cases h:a ≠ [] ∧ kindV x ≠ 0
   ·rw [if_pos h,List.getElem?_set_self (by simp; omega),if_pos ⟨by omega,by rw [ha]; simpa using h.1⟩,hp,if_pos h.2]
   ·rw [if_neg h,hlhs]
    by_cases h2:q < q + 1 ∧ aggs[q]? ≠ some []
    ·have:¬ kindV x ≠ 0:=fun h3=>h ⟨by have:=h2.2; rw [ha] at this; simpa using this,h3⟩
     rw [if_pos h2,hp,if_neg this,List.append_nil]
    ·rw [if_neg h2]
  ·have e:∀ L:List (List Val),(if a ≠ [] ∧ kindV x ≠ 0 then L.set m (f m ++ [x]) else L)[q]? = L[q]?:=fun L=>by
    split
    ·rw [List.getElem?_set_ne (Ne.symm hq)]
    ·rfl
   rw [e,hlhs]
   have:(q < m ∧ aggs[q]? ≠ some []) ↔ (q < m + 1 ∧ aggs[q]? ≠ some []):=⟨fun h=>⟨by omega,h.2⟩,fun h=>⟨by omega,h.2⟩⟩
   simp only [this]
theorem gOf_same {aggs:List (List UInt8)} {l:List (List Val)} {r k:List Val} (hr:r.length = aggs.length) (hk:kx aggs r = k) (hf:[] ∈ aggs → ∃ x ∈ l,kx aggs x = k):gOf aggs (l ++ [r]) k = { gOf aggs l k with cols:=colsTo aggs r (gOf aggs l k).cols aggs.length }:=by
 unfold gOf
 congr 1
 ·unfold firstX
  split
  ·rename_i h
   obtain ⟨x,hx,e⟩:=hf h
   rw [List.find?_append]
   cases hh:l.find? fun r=>decide (kx aggs r = k) with
   | some y=>rfl
   | none=>exact absurd e (by simpa using (List.find?_eq_none.1 hh) x hx)
  ·rfl
 ·rw [colsTo_map hr _ _ (Nat.le_refl _)]
  refine List.map_congr_left fun c hc=>?_
  rw [colX_snoc,if_pos hk]
  have hc:=List.mem_range.1 hc
  split
  ·rename_i h; rw [if_neg (fun h2=>h2.2 h),List.append_nil]
  ·rename_i h; rw [if_pos ⟨hc,h⟩]
theorem gOf_other {aggs:List (List UInt8)} {l:List (List Val)} {r k:List Val} (hk:kx aggs r ≠ k):gOf aggs (l ++ [r]) k = gOf aggs l k:=by
 unfold gOf
 congr 1
 ·unfold firstX
  split
  ·rw [List.find?_append]
   have:([r]:List (List Val)).find? (fun r=>decide (kx aggs r = k)) = none:=by simp [hk]
   rw [this]
   simp
  ·rfl
 ·refine List.map_congr_left fun c _=>?_
  rw [colX_snoc,if_neg hk]
  simp
theorem gOf_new {aggs:List (List UInt8)} {l:List (List Val)} {r k:List Val} (hr:r.length = aggs.length) (hk:kx aggs r = k) (hi:[] ∈ aggs) (hn:∀ x ∈ l,kx aggs x ≠ k):gOf aggs (l ++ [r]) k = { key:=keyR k,first:=r,cols:=colsTo aggs r (List.replicate aggs.length []) aggs.length }:=by
 have e:List.replicate aggs.length ([]:List Val) = (List.range aggs.length).map fun _=>[]:=by
  rw [List.map_const']; simp
 unfold gOf
 congr 1
 ·unfold firstX
  rw [if_pos hi,List.find?_append]
  have:l.find? (fun r=>decide (kx aggs r = k)) = none:=List.find?_eq_none.2 fun x hx=>by simpa using hn x hx
  rw [this]
  simp [hk]
 ·rw [e,colsTo_map hr _ _ (Nat.le_refl _)]
  refine List.map_congr_left fun c hc=>?_
  rw [colX_snoc,if_pos hk]
  have hc:=List.mem_range.1 hc
  have h0:colX aggs l k c = []:=by
   unfold colX
   split
   ·rfl
   ·refine List.flatMap_eq_nil_iff.2 fun x hx=>?_
    rw [if_neg (hn x hx)]
  rw [h0]
  split
  ·rename_i h; rw [if_neg (fun h2=>h2.2 h)]; rfl
  ·rename_i h; rw [if_pos ⟨hc,h⟩]
structure KOk (m:Nat) (k:List Val):Prop where
 len:k.length = m
 ok:∀ v ∈ k,right v = true ∧ range64 v = true
theorem KOk.inj {m:Nat} {k k':List Val} (h:KOk m k) (h':KOk m k') (e:keyR k = keyR k'):k = k':=keyR_inj h.ok h'.ok (h.len.trans h'.len.symm) e
noncomputable def addK (K:List (List Val)) (k:List Val):List (List Val):=if k ∈ K then K else K ++ [k]
theorem addK_mem (K:List (List Val)) (k:List Val):k ∈ addK K k:=by
 unfold addK
 split
 ·assumption
 ·simp
theorem addK_nodup {K:List (List Val)} {k:List Val} (h:K.Nodup):(addK K k).Nodup:=by
 unfold addK
 split
 ·exact h
 ·rename_i hk
  rw [List.nodup_append]
  refine ⟨h,by simp,fun a ha b hb e=>?_⟩
  simp at hb
  subst hb; subst e
  exact hk ha
structure Met (aggs:List (List UInt8)) (K l:List (List Val)):Prop where
 nd:K.Nodup
 ok:∀ k ∈ K,KOk (nokey aggs) k
 seen:∀ r ∈ l,kx aggs r ∈ K
 has:[] ∈ aggs → ∀ k ∈ K,∃ r ∈ l,kx aggs r = k
 one:[] ∉ aggs → [] ∈ K
theorem kx_ok {n:Nat} {aggs:List (List UInt8)} {r:List Val} (h:OkR n aggs.length r):KOk (nokey aggs) (kx aggs r) :=
 ⟨kx_len h.len,fun v hv=>⟨(h.val v (kx_mem hv)).right,(h.val v (kx_mem hv)).range⟩⟩
theorem Met.add {n:Nat} {aggs:List (List UInt8)} {K l:List (List Val)} (h:Met aggs K l) {r:List Val} (hr:OkR n aggs.length r):Met aggs (addK K (kx aggs r)) (l ++ [r]):=by
 have sub:∀ k ∈ K,k ∈ addK K (kx aggs r):=fun k hk=>by
  unfold addK
  split
  ·exact hk
  ·simp [hk]
 refine ⟨addK_nodup h.nd,fun k hk=>?_,fun x hx=>?_,fun hi k hk=>?_,fun hi=>sub _ (h.one hi)⟩
 ·unfold addK at hk
  split at hk
  ·exact h.ok k hk
  ·rcases List.mem_append.1 hk with hk | hk
   ·exact h.ok k hk
   ·simp at hk; subst hk; exact kx_ok hr
 ·rcases List.mem_append.1 hx with hx | hx
  ·exact sub _ (h.seen x hx)
  ·simp at hx; subst hx; exact addK_mem _ _
 ·unfold addK at hk
  split at hk
  ·obtain ⟨x,hx,e⟩:=h.has hi k hk
   exact ⟨x,by simp [hx],e⟩
  ·rcases List.mem_append.1 hk with hk | hk
   ·obtain ⟨x,hx,e⟩:=h.has hi k hk
    exact ⟨x,by simp [hx],e⟩
   ·simp at hk; subst hk; exact ⟨r,by simp,rfl⟩
theorem Met.start {aggs:List (List UInt8)}:Met aggs (if [] ∈ aggs then [] else [[]]) []:=by
 by_cases h:[] ∈ aggs
 ·rw [if_pos h]
  exact ⟨List.nodup_nil,fun k hk=>(by cases hk),fun r hr=>(by cases hr),fun _ k hk=>(by cases hk),fun h2=>absurd h h2⟩
 ·rw [if_neg h]
  refine ⟨by simp,fun k hk=>?_,fun r hr=>(by cases hr),fun h2=>absurd h2 h,fun _=>by simp⟩
  simp at hk
  subst hk
  exact ⟨(nokey_zero.2 h).symm,fun v hv=>(by cases hv)⟩
theorem seat_map {m:Nat} {K:List (List Val)} {k:List Val} (ok:∀ x ∈ K,KOk m x) (hk:KOk m k):keyR k ∈ K.map keyR ↔ k ∈ K:=by
 constructor
 ·intro h
  obtain ⟨x,hx,e⟩:=List.mem_map.1 h
  rw [← (ok x hx).inj hk e]
  exact hx
 ·exact fun h=>List.mem_map.2 ⟨k,h,rfl⟩
theorem rowStep_eq {n:Nat} (hN:n ≤ 1000000000) {aggs:List (List UInt8)} (ha:aggs.length < n) {K l:List (List Val)} (h:Met aggs K l) (hl:l.length < 999999999) (hK:K.length < 1000000000) {r:List Val} (hr:OkR n aggs.length r) :
  rowStep n aggs (K.map (gOf aggs l)) r = some ((addK K (kx aggs r)).map (gOf aggs (l ++ [r]))):=by
 have hn:n ≤ 1073741824:=by omega
 have hko:=kx_ok hr
 have hb:=kx_bigs aggs r
 have hsm:=hr.small
 have hkey:=key_eq hn (r:=kx aggs r) (fun v hv=>hr.val v (kx_mem hv)) (by omega)
 have hkl:=keyR_len (kx aggs r)
 have hrl:=hr.len
 generalize hk:kx aggs r = k at hko hkey hkl hb
 have hkeys:(K.map (gOf aggs l)).map (·.key) = K.map keyR:=by
  rw [List.map_map]; rfl
 unfold rowStep
 rw [ckeys_eq hn hr.len ha,hk]
 simp only [bnd_eq,hkey]
 rw [chk_dec (by unfold maxLen; omega),chk_dec (by rw [List.length_map]; exact hK),chk_dec (by omega)]
 have hG:∃ G:Grp,seatG aggs.length (keyR k) r (K.map (gOf aggs l)) = (addK K k).map (fun x=>if x = k then G else gOf aggs l x) ∧ G.key = keyR k ∧ { G with cols:=colsTo aggs r G.cols aggs.length } = gOf aggs (l ++ [r]) k ∧ shortG G = true:=by
  unfold seatG
  rw [hkeys]
  by_cases hm:k ∈ K
  ·rw [if_pos ((seat_map h.ok hko).2 hm)]
   refine ⟨gOf aggs l k,?_,rfl,(gOf_same hr.len hk fun hi=>h.has hi k hm).symm,?_⟩
   ·unfold addK
    rw [if_pos hm]
    refine List.map_congr_left fun x _=>?_
    split
    ·rename_i e; rw [e]
    ·rfl
   ·unfold shortG
    refine List.all_eq_true.2 fun cl hcl=>?_
    obtain ⟨c,_,rfl⟩:=List.mem_map.1 hcl
    have:=colX_len aggs k c l
    exact decide_eq_true (by omega)
  ·rw [if_neg (fun e=>hm ((seat_map h.ok hko).1 e))]
   have hi:[] ∈ aggs:=by
    apply Classical.byContradiction
    intro hi
    have:k = []:=List.eq_nil_of_length_eq_zero (by rw [hko.len]; exact nokey_zero.2 hi)
    exact hm (this ▸ h.one hi)
   refine ⟨⟨keyR k,r,List.replicate aggs.length []⟩,?_,rfl,(gOf_new hr.len hk hi fun x hx e=>hm (e ▸ h.seen x hx)).symm,?_⟩
   ·unfold addK
    rw [if_neg hm,List.map_append,List.map_singleton,if_pos rfl]
    congr 1
    refine List.map_congr_left fun x hx=>?_
    rw [if_neg fun e=>hm (by rw [← e]; exact hx)]
   ·unfold shortG
    refine List.all_eq_true.2 fun cl hcl=>?_
    have:=List.eq_of_mem_replicate hcl
    subst this
    rfl
 obtain ⟨G,hG,hGk,hG2,hGs⟩:=hG
 rw [hG]
 have hnd:=addK_nodup (k:=k) h.nd
 have hmem:=addK_mem K k
 have hok:∀ x ∈ addK K k,KOk (nokey aggs) x:=fun x hx=>by
  unfold addK at hx
  split at hx
  ·exact h.ok x hx
  ·rcases List.mem_append.1 hx with hx | hx
   ·exact h.ok x hx
   ·simp at hx; subst hx; exact hko
 generalize addK K k = K' at hnd hmem hok
 obtain ⟨A,B,rfl⟩:=List.append_of_mem hmem
 rw [List.nodup_append,List.nodup_cons] at hnd
 have hA:∀ x ∈ A,x ≠ k:=fun x hx e=>hnd.2.2 x hx k (by simp) e
 have hB:∀ x ∈ B,x ≠ k:=fun x hx e=>hnd.2.1.1 (e ▸ hx)
 have mA:A.map (fun x=>if x = k then G else gOf aggs l x) = A.map (gOf aggs l):=List.map_congr_left fun x hx=>if_neg (hA x hx)
 have mB:B.map (fun x=>if x = k then G else gOf aggs l x) = B.map (gOf aggs l):=List.map_congr_left fun x hx=>if_neg (hB x hx)
 have e0:(A ++ k :: B).map (fun x=>if x = k then G else gOf aggs l x) = A.map (gOf aggs l) ++ G :: B.map (gOf aggs l):=by
  rw [List.map_append,List.map_cons,mA,mB,if_pos rfl]
 rw [e0]
 have hidx:((A.map (gOf aggs l) ++ G :: B.map (gOf aggs l)).map (·.key)).idxOf (keyR k) = A.length:=by
  rw [List.map_append,List.map_map,List.idxOf_append,if_neg,List.map_cons,hGk]
  ·simp
  ·intro hh
   obtain ⟨x,hx,e⟩:=List.mem_map.1 hh
   exact hA x hx ((hok x (by simp [hx])).inj hko e)
 rw [hidx]
 have hget:(A.map (gOf aggs l) ++ G :: B.map (gOf aggs l))[A.length]? = some G:=by
  rw [List.getElem?_append_right (by simp)]
  simp
 rw [hget]
 simp only []
 rw [hGs]
 show some _ = _
 congr 1
 rw [List.set_append_right _ _ (by simp)]
 simp only [List.length_map,Nat.sub_self,List.set_cons_zero]
 rw [hG2,List.map_append,List.map_cons]
 congr 1
 ·exact List.map_congr_left fun x hx=>(gOf_other (by rw [hk]; exact Ne.symm (hA x hx))).symm
 ·congr 1
  exact List.map_congr_left fun x hx=>(gOf_other (by rw [hk]; exact Ne.symm (hB x hx))).symm
theorem addK_len (K:List (List Val)) (k:List Val):(addK K k).length ≤ K.length + 1:=by
 unfold addK
 split <;> simp
theorem rowsG_eq {n:Nat} (hn:n ≤ 1000000000) {aggs:List (List UInt8)} (ha:aggs.length < n):∀ (l seen K:List (List Val)),Met aggs K seen → seen.length + l.length < 999999999 → K.length + l.length < 999999999 → (∀ r ∈ l,OkR n aggs.length r) →
  rowsG n aggs l (K.map (gOf aggs seen)) = some ((uniqA K (l.map (kx aggs))).map (gOf aggs (seen ++ l))) ∧ Met aggs (uniqA K (l.map (kx aggs))) (seen ++ l)
 | [],seen,K,h,_,_,_=>by simp only [rowsG,List.map_nil,uniqA,List.append_nil]; exact ⟨trivial,h⟩
 | r :: l,seen,K,h,h1,h2,hr=>by
  simp only [List.length_cons] at h1 h2
  have hrr:=hr r (by simp)
  have hs:=rowStep_eq hn ha h (by omega) (by omega) hrr
  have hal:=addK_len K (kx aggs r)
  have ih:=rowsG_eq hn ha l (seen ++ [r]) (addK K (kx aggs r)) (h.add hrr) (by simp; omega) (by omega) (fun x hx=>hr x (by simp [hx]))
  have e:uniqA K ((r :: l).map (kx aggs)) = uniqA (addK K (kx aggs r)) (l.map (kx aggs)):=by
   simp only [List.map_cons,uniqA]
   unfold addK
   split <;> rfl
  rw [e]
  simp only [rowsG,hs,bnd_eq]
  simpa using ih
end W
end
section
open Go Ax Go.RowKit
namespace W
set_option maxRecDepth 10000
open Classical
theorem bigs_app (a b:List Val):bigs (a ++ b) = bigs a + bigs b:=by
 induction a with
 | nil=>simp [bigs]
 | cons x a ih=>simp only [List.cons_append,bigs,ih]; omega
def sumC (F:Nat → Nat):Nat → Nat → Nat
 | _,0=>0
 | c,m + 1=>F c + sumC F (c + 1) m
theorem sumC_le {F F':Nat → Nat} (h:∀ c,F c ≤ F' c):∀ m c,sumC F c m ≤ sumC F' c m
 | 0,_=>Nat.le_refl _
 | m + 1,c=>by
  have:=sumC_le h m (c + 1)
  have:=h c
  simp only [sumC]; omega
theorem sumC_add (F F':Nat → Nat):∀ m c,sumC (fun c=>F c + F' c) c m = sumC F c m + sumC F' c m
 | 0,_=>rfl
 | m + 1,c=>by
  have:=sumC_add F F' m (c + 1)
  simp only [sumC,this]; omega
theorem sumC_one:∀ m c,sumC (fun _=>1) c m = m
 | 0,_=>rfl
 | m + 1,c=>by simp only [sumC,sumC_one m]; omega
theorem sumC_zero {F:Nat → Nat} (h:∀ c,F c = 0):∀ m c,sumC F c m = 0
 | 0,_=>rfl
 | m + 1,c=>by simp only [sumC,h,sumC_zero h m]
def bigAt (r:List Val) (c:Nat):Nat:=match r[c]? with
 | some v=>v.big
 | none=>0
theorem sumC_at (r:List Val):∀ m c,sumC (bigAt r) c m ≤ bigs (r.drop c)
 | 0,_=>Nat.zero_le _
 | m + 1,c=>by
  have ih:=sumC_at r m (c + 1)
  simp only [sumC]
  cases h:r[c]? with
  | some v =>
   rw [drop_head h]
   simp only [bigAt,h,bigs]
   omega
  | none =>
   have:r.length ≤ c:=List.getElem?_eq_none_iff.1 h
   rw [List.drop_eq_nil_of_le (by omega)] at ih
   simp only [bigAt,h,bigs] at ih ⊢
   omega
theorem pickV_big (r:List Val) (c:Nat):bigs (pickV r c) ≤ bigAt r c:=by
 unfold pickV bigAt
 split
 ·rename_i v h
  split <;> simp [bigs,h]
 ·simp [bigs]
theorem sumC_col (aggs:List (List UInt8)) (k:List Val) (m:Nat):∀ l:List (List Val),sumC (fun c=>bigs (colX aggs l k c)) 0 m ≤ rbig l
 | []=>by
  rw [sumC_zero (fun c=>by unfold colX; split <;> rfl)]
  exact Nat.zero_le _
 | r :: l=>by
  have ih:=sumC_col aggs k m l
  have h1:=sumC_at r m 0
  have h2:=sumC_le (F:=fun c=>bigs (colX aggs (r :: l) k c)) (F':=fun c=>bigAt r c + bigs (colX aggs l k c)) (fun c=>by
   unfold colX
   split
   ·simp [bigs]
   ·rw [List.flatMap_cons,bigs_app]
    have:=pickV_big r c
    split
    ·omega
    ·simp [bigs]) m 0
  rw [sumC_add] at h2
  simp only [rbig]
  rw [List.drop_zero] at h1
  omega
theorem colX_big (aggs:List (List UInt8)) (k:List Val) (c:Nat) (l:List (List Val)):bigs (colX aggs l k c) ≤ rbig l:=by
 induction l with
 | nil=>unfold colX; split <;> simp [bigs,rbig]
 | cons r l ih =>
  have h1:=pickV_big r c
  have h2:bigAt r c ≤ bigs r:=by
   have:=sumC_at r 1 c
   simp only [sumC] at this
   have:bigs (r.drop c) ≤ bigs r:=bigs_drop_le r c
   omega
  unfold colX at ih ⊢
  split
  ·simp [bigs]
  ·rename_i h
   rw [if_neg h] at ih
   rw [List.flatMap_cons,bigs_app]
   simp only [rbig]
   split
   ·omega
   ·simp only [bigs]; omega
theorem firstX_in (aggs:List (List UInt8)) (l:List (List Val)) (k:List Val):firstX aggs l k = [] ∨ firstX aggs l k ∈ l:=by
 unfold firstX
 split
 ·cases h:l.find? fun r=>decide (kx aggs r = k) with
  | none=>exact .inl rfl
  | some r=>exact .inr (List.mem_of_find?_eq_some h)
 ·exact .inl rfl
theorem firstX_big (aggs:List (List UInt8)) (l:List (List Val)) (k:List Val):bigs (firstX aggs l k) ≤ rbig l:=by
 rcases firstX_in aggs l k with h | h
 ·rw [h]; simp [bigs]
 ·have:=rbig_mem h; omega
theorem Met.first {aggs:List (List UInt8)} {K l:List (List Val)} (h:Met aggs K l) {k:List Val} (hk:k ∈ K) (hi:[] ∈ aggs):firstX aggs l k ∈ l ∧ kx aggs (firstX aggs l k) = k:=by
 obtain ⟨x,hx,e⟩:=h.has hi k hk
 unfold firstX
 rw [if_pos hi]
 cases hf:l.find? fun r=>decide (kx aggs r = k) with
 | none=>exact absurd e (by simpa using (List.find?_eq_none.1 hf) x hx)
 | some r=>exact ⟨List.mem_of_find?_eq_some hf,by simpa using List.find?_some hf⟩
noncomputable def specC (n:Nat) (aggs:List (List UInt8)) (l:List (List Val)) (k:List Val):Nat → Nat → List (List UInt8) → List Val → Option (List Val × Int)
 | _,_,[],row=>some (row,0)
 | c,i,a :: q,row=>if a = [] then bnd k[i]? fun x=>specC n aggs l k (c + 1) (i + 1) q (row ++ [x])
  else bnd (F_R17_one n a (colX aggs l k c)) fun r=>if r.2 = 0 then specC n aggs l k (c + 1) i q (row ++ [r.1]) else some (row,r.2)
noncomputable def specG (n:Nat) (aggs:List (List UInt8)) (l:List (List Val)):List (List Val) → List (List Val) → Option (List (List Val) × Int)
 | [],outs=>some (outs,0)
 | k :: K,outs=>bnd (specC n aggs l k 0 0 aggs []) fun q=>if q.2 = 0 then specG n aggs l K (outs ++ [q.1]) else some ([],q.2)
structure Inp (n:Nat) (aggs:List (List UInt8)) (l:List (List Val)):Prop where
 h100:100 ≤ n
 hN:n ≤ 1000000000
 ok:OkL n aggs.length l
 ha:10 * aggs.length < n
 known:∀ a ∈ aggs,a ∈ knownA
theorem Inp.col {n:Nat} {aggs:List (List UInt8)} {l:List (List Val)} (h:Inp n aggs l) (k:List Val) (c:Nat) {a:List UInt8} (ha:a ∈ aggs) (hne:a ≠ []) :
  ∃ r:Val × Int,F_rows_gather n a (colX aggs l k c) = some r ∧ F_R17_one n a (colX aggs l k c) = some r ∧ vbig r.1 < n ∧ r.1.big ≤ 1 + bigs (colX aggs l k c):=by
 have h1:=colX_big aggs k c l
 have h2:=vbigL3 (colX aggs l k c)
 have h3:=h.ok.small
 refine agg_both h.h100 (by have:=h.hN; omega) (h.known a ha) hne (fun x hx=>?_) (by omega)
 obtain ⟨r,hr,hx⟩:=colX_mem hx
 exact (h.ok.row r hr).val x hx
theorem tell_one {n:Nat} {aggs:List (List UInt8)} {l:List (List Val)} (h:Inp n aggs l) {K:List (List Val)} (hM:Met aggs K l) {k:List Val} (hk:k ∈ K) :
  ∀ (q:List (List UInt8)) (c i:Nat) (row:List Val),q = aggs.drop c → ([] ∈ aggs → k.drop i = kx q ((firstX aggs l k).drop c)) → row.length ≤ c → c ≤ aggs.length →
   ∃ row' e,tellC n (gOf aggs l k) c q row = some (row',e) ∧ specC n aggs l k c i q row = some (row',e) ∧ row'.length ≤ aggs.length ∧ bigs row' ≤ bigs row + sumC (fun c=>1 + bigs (colX aggs l k c) + bigAt (firstX aggs l k) c) c q.length
 | [],c,i,row,hq,hi,hr,hc=>⟨row,0,rfl,rfl,by omega,by simp [sumC]⟩
 | a :: q,c,i,row,hq,hi,hr,hc=>by
  have hn:n ≤ 1073741824:=by have:=h.hN; omega
  have hac:aggs[c]? = some a:=by
   have:=congrArg (fun L=>L[0]?) hq
   simpa using this.symm
  have hlt:c < aggs.length:=(List.getElem?_eq_some_iff.1 hac).1
  have hq2:q = aggs.drop (c + 1):=by
   rw [drop_head hac] at hq
   exact (List.cons.inj hq).2
  have ham:a ∈ aggs:=List.mem_of_getElem? hac
  have hN:=h.hN
  have hal:=h.ha
  by_cases he:a = []
  ·subst he
   obtain ⟨hf1,hf2⟩:=hM.first hk ham
   have okf:=h.ok.row _ hf1
   have hi:=hi ham
   obtain ⟨x,hx⟩:∃ x,(firstX aggs l k)[c]? = some x:=⟨_,List.getElem?_eq_getElem (by rw [okf.len]; exact hlt)⟩
   rw [drop_head hx] at hi
   simp only [kx,if_true] at hi
   have hki:k[i]? = some x:=by
    have:=congrArg (fun L=>L[0]?) hi
    simpa using this
   have hi2:k.drop (i + 1) = kx q ((firstX aggs l k).drop (c + 1)):=by
    rw [drop_head hki] at hi
    exact (List.cons.inj hi).2
   have okx:=okf.val x (List.mem_of_getElem? hx)
   have hcp:=copy_id n hn x (by have:=okx.small; have:=vbig_le x; omega)
   obtain ⟨row',e,h1,h2,h3,h4⟩:=tell_one h hM hk q (c + 1) (i + 1) (row ++ [x]) hq2 (fun _=>hi2) (by simp; omega) (by omega)
   refine ⟨row',e,?_,?_,h3,?_⟩
   ·simp only [tellC,cellOf,if_true,gOf,hx,bnd_eq,hcp]
    rw [chk_dec (by omega)]
    exact h1
   ·simp only [specC,if_true,hki,bnd_eq]
    exact h2
   ·simp only [List.length_cons,sumC]
    rw [bigs_app] at h4
    simp only [bigs,bigAt,hx] at h4 ⊢
    omega
  ·obtain ⟨r,g1,g2,g3,g4⟩:=h.col k c ham he
   have hcol:(gOf aggs l k).cols[c]? = some (colX aggs l k c):=by
    show ((List.range aggs.length).map (colX aggs l k))[c]? = _
    rw [rangeMap_get,if_pos hlt]
   have hcp:=copy_id n hn r.1 g3
   by_cases hz:r.2 = 0
   ·have hi2:[] ∈ aggs → k.drop i = kx q ((firstX aggs l k).drop (c + 1)):=fun hin=>by
     obtain ⟨hf1,hf2⟩:=hM.first hk hin
     have okf:=h.ok.row _ hf1
     obtain ⟨x,hx⟩:∃ x,(firstX aggs l k)[c]? = some x:=⟨_,List.getElem?_eq_getElem (by rw [okf.len]; exact hlt)⟩
     have hi:=hi hin
     rw [drop_head hx] at hi
     simp only [kx,if_neg he] at hi
     exact hi
    obtain ⟨row',e,h1,h2,h3,h4⟩:=tell_one h hM hk q (c + 1) i (row ++ [r.1]) hq2 hi2 (by simp; omega) (by omega)
    refine ⟨row',e,?_,?_,h3,?_⟩
    ·simp only [tellC,cellOf,if_neg he,hcol,bnd_eq,g1,hz,if_true,hcp]
     rw [chk_dec (by omega)]
     exact h1
    ·simp only [specC,if_neg he,g2,bnd_eq,hz,if_true]
     exact h2
    ·simp only [List.length_cons,sumC]
     rw [bigs_app] at h4
     simp only [bigs] at h4 ⊢
     omega
   ·refine ⟨row,r.2,?_,?_,by omega,by omega⟩
    ·simp only [tellC,cellOf,if_neg he,hcol,bnd_eq,g1,hz,if_false]
    ·simp only [specC,if_neg he,g2,bnd_eq,hz,if_false]
theorem tell_keys {n:Nat} {aggs:List (List UInt8)} {l:List (List Val)} (h:Inp n aggs l) {K0:List (List Val)} (hM:Met aggs K0 l):∀ (K outs:List (List Val)),(∀ k ∈ K,k ∈ K0) → outs.length + K.length < 1000000000 → (∀ r ∈ outs,bigs r ≤ aggs.length + 2 * rbig l) →
  ∃ a e,tellG n aggs (K.map (gOf aggs l)) outs = some (a,e) ∧ specG n aggs l K outs = some (a,e) ∧ a.length ≤ outs.length + K.length ∧ (∀ r ∈ a,bigs r ≤ aggs.length + 2 * rbig l)
 | [],outs,_,_,hb=>⟨outs,0,rfl,rfl,by simp,hb⟩
 | k :: K,outs,hK,hl,hb=>by
  have hk:=hK k (by simp)
  obtain ⟨row,e,h1,h2,h3,h4⟩:=tell_one h hM hk aggs 0 0 [] (by simp) (fun hi=>by
   obtain ⟨_,hf2⟩:=hM.first hk hi
   simpa using hf2.symm) (Nat.le_refl _) (Nat.zero_le _)
  have hrow:bigs row ≤ aggs.length + 2 * rbig l:=by
   rw [sumC_add,sumC_add,sumC_one] at h4
   have q1:=sumC_col aggs k aggs.length l
   have q2:=sumC_at (firstX aggs l k) aggs.length 0
   have q3:=firstX_big aggs l k
   rw [List.drop_zero] at q2
   simp only [bigs] at h4
   omega
  simp only [List.length_cons] at hl
  simp only [List.map_cons,tellG,specG,h1,h2,bnd_eq]
  by_cases hz:e = 0
  ·subst hz
   obtain ⟨a,e,g1,g2,g3,g4⟩:=tell_keys h hM K (outs ++ [row]) (fun x hx=>hK x (by simp [hx])) (by simp; omega) (fun r hr=>by
    rcases List.mem_append.1 hr with hr | hr
    ·exact hb r hr
    ·simp at hr; subst hr; exact hrow)
   refine ⟨a,e,?_,?_,by simp at g3 ⊢; omega,g4⟩
   ·simp only [if_true]
    rw [chk_dec (by omega)]
    exact g1
   ·simp only [if_true]
    exact g2
  ·refine ⟨[],e,?_,?_,by simp,fun r hr=>(by cases hr)⟩
   ·simp only [if_neg hz]
   ·simp only [if_neg hz]
theorem index_eq {n:Nat} {aggs:List (List UInt8)} (ha:aggs.length < n) (hn:n ≤ 1073741824):F_slices_Contains_string_string n aggs [] = some (decide ([] ∈ aggs)):=by
 have loop:∀ (m i:Nat),i ≤ aggs.length → aggs.length - i < m → ∃ j:Int,loopK (F_slices_Index_string_string_l1 n aggs []) m (i:Int) = some j ∧ (0 ≤ j ↔ [] ∈ aggs.drop i):=by
  intro m
  induction m with
  | zero=>intro i _ h; omega
  | succ m ih =>
   intro i hi hm
   rw [loopK_succ]
   generalize loopK (F_slices_Index_string_string_l1 n aggs []) m = nx at ih ⊢
   unfold F_slices_Index_string_string_l1
   simp only [strs_len]
   by_cases hlt:i < aggs.length
   ·obtain ⟨a,ha'⟩:∃ x,aggs[i]? = some x:=⟨_,List.getElem?_eq_getElem hlt⟩
    rw [decide_eq_true (show (i:Int) < (aggs.length:Int) by omega),drop_head ha']
    simp only [cond_true,Ax.idx_nat,ha',bnd_eq]
    by_cases he:a = []
    ·subst he
     exact ⟨i,rfl,by simp⟩
    ·have:(([]:List UInt8) == a) = false:=by cases a with | nil=>exact absurd rfl he | cons _ _=>rfl
     rw [this]
     simp only [cond_false]
     rw [wrapN (by omega)]
     obtain ⟨j,h1,h2⟩:=ih (i + 1) (by omega) (by omega)
     exact ⟨j,h1,h2.trans (by simp [Ne.symm he])⟩
   ·rw [decide_eq_false (show ¬ (i:Int) < (aggs.length:Int) by omega),List.drop_eq_nil_of_le (by omega)]
    exact ⟨-1,rfl,by simp⟩
 obtain ⟨j,h1,h2⟩:=loop n 0 (Nat.zero_le _) (by omega)
 unfold F_slices_Contains_string_string F_slices_Index_string_string
 have h1:loopK (F_slices_Index_string_string_l1 n aggs []) n (0:Int) = some j:=h1
 rw [h1]
 simp only [bnd_eq]
 rw [List.drop_zero] at h2
 congr 1
 exact decide_eq_decide.2 h2
noncomputable def keysOf (aggs:List (List UInt8)) (l:List (List Val)):List (List Val):=uniqA (if [] ∈ aggs then [] else [[]]) (l.map (kx aggs))
theorem group_all {n:Nat} {aggs:List (List UInt8)} {l:List (List Val)} (h:Inp n aggs l) (hl:l.length ≤ 200) :
  Met aggs (keysOf aggs l) l ∧ (keysOf aggs l).length ≤ 201 ∧ ∃ a e,F_rows_Group n l aggs = some (a,e) ∧ specG n aggs l (keysOf aggs l) [] = some (a,e) ∧ a.length ≤ 201 ∧ (∀ r ∈ a,bigs r ≤ aggs.length + 2 * rbig l):=by
 have hn:n ≤ 1073741824:=by have:=h.hN; omega
 have ha:aggs.length < n:=by have:=h.ha; omega
 have hK:(if [] ∈ aggs then [] else [[]]:List (List Val)).length ≤ 1:=by split <;> simp
 obtain ⟨g1,g2⟩:=rowsG_eq h.hN ha l [] (if [] ∈ aggs then [] else [[]]) Met.start (by simp; omega) (by omega) h.ok.row
 rw [List.nil_append] at g1 g2
 have hkl:(keysOf aggs l).length ≤ 201:=by
  have:∀ (m acc:List (List Val)),(uniqA acc m).length ≤ acc.length + m.length:=by
   intro m
   induction m with
   | nil=>intro acc; exact Nat.le_refl _
   | cons a m ih =>
    intro acc
    simp only [uniqA]
    split
    ·have:=ih acc; simp only [List.length_cons]; omega
    ·have:=ih (acc ++ [a]); simp only [List.length_append,List.length_cons,List.length_nil] at this ⊢; omega
  have:=this (l.map (kx aggs)) (if [] ∈ aggs then [] else [[]])
  rw [List.length_map] at this
  show (uniqA _ _).length ≤ _
  omega
 refine ⟨g2,hkl,?_⟩
 obtain ⟨a,e,t1,t2,t3,t4⟩:=tell_keys h g2 (keysOf aggs l) [] (fun _ h=>h) (by simp; omega) (fun r hr=>(by cases hr))
 refine ⟨a,e,?_,t2,by simp at t3; omega,t4⟩
 unfold F_rows_Group
 rw [index_eq ha hn]
 simp only [bnd_eq]
 have hN:=h.hN
 have h10:=h.ha
 rw [chk_dec (by omega),chk_dec (by omega)]
 have e0:(if decide ([] ∈ aggs) = true then [] else [⟨[],[],List.replicate aggs.length []⟩]:List Grp) = (if [] ∈ aggs then [] else [[]]:List (List Val)).map (gOf aggs []):=by
  by_cases hi:[] ∈ aggs
  ·simp [hi]
  ·simp only [hi,decide_false,if_false,Bool.false_eq_true,List.map_cons,List.map_nil]
   unfold gOf
   congr 2
   ·unfold firstX
    rw [if_neg hi]
   ·have:∀ c,colX aggs [] [] c = []:=fun c=>by unfold colX; split <;> rfl
    rw [show colX aggs [] [] = fun _=>[] from funext this,List.map_const']
    simp
 rw [e0,g1]
 simp only [bnd_eq]
 rw [List.length_map,chk_dec (by show (keysOf aggs l).length < _; omega)]
 exact t1
end W
end
section
open Go Ax Go.RowKit
namespace W
set_option maxRecDepth 10000
open Classical
theorem among_eq {n:Nat} (hn:n ≤ 1073741824) {l:List (List Val)} (r:List Val) (hs:∀ x ∈ l,40 * bigs x + 40 < n) (hl:l.length < n):∃ i,F_R17_Among n r l = some i ∧ (i < 0 ↔ r ∉ l):=by
 have loop:∀ (m i:Nat),i ≤ l.length → l.length - i < m → ∃ k,loopK (F_R17_Among_l1 n l r) m (i:Int) = some k ∧ (k < 0 ↔ r ∉ l.drop i):=by
  intro m
  induction m with
  | zero=>intro i _ h; omega
  | succ m ih =>
   intro i hi hm
   rw [loopK_succ]
   generalize loopK (F_R17_Among_l1 n l r) m = nx at ih ⊢
   unfold F_R17_Among_l1
   simp only [slen]
   by_cases hlt:i < l.length
   ·obtain ⟨x,hx⟩:∃ x,l[i]? = some x:=⟨_,List.getElem?_eq_getElem hlt⟩
    rw [decide_eq_true (show (i:Int) < (l.length:Int) by omega),drop_head hx]
    simp only [cond_true,Ax.idx_nat,hx,bnd_eq,sameList_eq hn (hs x (List.mem_of_getElem? hx))]
    by_cases hxr:x = r
    ·subst hxr
     simp only [decide_true,cond_true]
     exact ⟨_,rfl,by simp⟩
    ·simp only [decide_eq_false hxr,cond_false]
     rw [wrapN (by omega)]
     obtain ⟨k,h1,h2⟩:=ih (i + 1) (by omega) (by omega)
     refine ⟨k,h1,h2.trans ?_⟩
     simp [Ne.symm hxr]
   ·rw [decide_eq_false (show ¬ (i:Int) < (l.length:Int) by omega),List.drop_eq_nil_of_le (by omega)]
    exact ⟨-1,rfl,by simp⟩
 obtain ⟨k,h1,h2⟩:=loop n 0 (Nat.zero_le _) (by omega)
 exact ⟨k,h1,by simpa using h2⟩
section
variable {n:Nat} {aggs:List (List UInt8)} {l:List (List Val)}
theorem vals_loop (h:Inp n aggs l) {K:List (List Val)} {i c:Nat} {k:List Val} (hk:K[i]? = some k) (hc:c < aggs.length) (row:List Val) (nx4:List Val × Int × Int → Option (List (List Val) × Int)) (at':Int) :
  ∀ (m j:Nat) (vals:List Val),j ≤ l.length → l.length - j < m → vals.length ≤ j →
   loopK (F_R17_Group_l5 n l (c:Int) aggs K (i:Int) row nx4 at') m (vals,(j:Int)) = F_R17_Group_l5 n l (c:Int) aggs K (i:Int) row nx4 at' (fun _=>none) (vals ++ (l.drop j).flatMap (fun r=>if kx aggs r = k then pickV r c else []),(l.length:Int)):=by
 have hn:n ≤ 1073741824:=by have:=h.hN; omega
 have hN:=h.hN
 have hs:=h.ok.small
 have hrl:=rbig_len l
 intro m
 induction m with
 | zero=>intro j _ _ h; omega
 | succ m ih =>
  intro j vals hj hm hv
  rw [loopK_succ]
  by_cases hlt:j < l.length
  ·generalize loopK (F_R17_Group_l5 n l (c:Int) aggs K (i:Int) row nx4 at') m = nx at ih ⊢
   obtain ⟨r,hr⟩:∃ x,l[j]? = some x:=⟨_,List.getElem?_eq_getElem hlt⟩
   have okr:=h.ok.row r (List.mem_of_getElem? hr)
   obtain ⟨x,hx⟩:∃ x,r[c]? = some x:=⟨_,List.getElem?_eq_getElem (by rw [okr.len]; exact hc)⟩
   have hkr:=rkeys_eq hn okr.len (by have:=h.ha; omega)
   have hsm:=okr.small
   have hkb:=kx_bigs aggs r
   have hsame:=sameList_eq hn (r:=kx aggs r) (s:=k) (by omega)
   have step:F_R17_Group_l5 n l (c:Int) aggs K (i:Int) row nx4 at' nx (vals,(j:Int)) = nx (vals ++ (if kx aggs r = k then pickV r c else []),((j + 1:Nat):Int)):=by
    have hp:pickV r c = if kindV x ≠ 0 then [x] else []:=by unfold pickV; rw [hx]
    conv=>lhs; unfold F_R17_Group_l5
    simp only [slen]
    rw [decide_eq_true (show (j:Int) < (l.length:Int) by omega)]
    obtain ⟨a1,a2,a3,a4,a5,a6⟩:=x
    simp only [cond_true,Ax.idx_nat,hr,hx,bnd_eq]
    by_cases hz:a1 = 0
    ·subst hz
     simp only [show ((0:Int) != 0) = false from rfl,gsome_f,bnd_eq,cond_false]
     unfold F_R17_Group_k67
     try simp only []
     rw [wrapN (by omega),show pickV r c = [] from hp.trans (if_neg (by simp [kindV]))]
     simp
    ·have hb:(a1 != 0) = true:=by simp [hz]
     simp only [hb,gsome_t,bnd_eq,cond_true,hkr,hk,hsame]
     by_cases he:kx aggs r = k
     ·rw [decide_eq_true he]
      simp only [cond_true]
      rw [chk_dec (by rw [valRows_len,List.length_append,List.length_singleton]; omega)]
      unfold F_R17_Group_k67
      try simp only []
      rw [wrapN (by omega),if_pos he,show pickV r c = [Val.mk a1 a2 a3 a4 a5 a6] from hp.trans (if_pos hz)]
     ·rw [decide_eq_false he]
      simp only [cond_false]
      unfold F_R17_Group_k67
      try simp only []
      rw [wrapN (by omega),if_neg he,List.append_nil]
   rw [step,ih (j + 1) _ (by omega) (by omega) ?_,drop_head hr,List.flatMap_cons,List.append_assoc]
   rw [List.length_append]
   have:=pickV_len r c
   split
   ·omega
   ·simp; omega
  ·obtain rfl:j = l.length:=by omega
   rw [List.drop_length,List.flatMap_nil,List.append_nil]
   unfold F_R17_Group_l5
   simp only [slen]
   rw [decide_eq_false (show ¬ (l.length:Int) < (l.length:Int) by omega)]
   rfl
theorem row_loop' (h:Inp n aggs l) {K:List (List Val)} {i:Nat} {k:List Val} (hk:K[i]? = some k) (outs:List (List Val)) (nx3:List (List Val) × Int → Option (List (List Val) × Int)) :
  ∀ (m c at':Nat) (row:List Val),c ≤ aggs.length → aggs.length - c < m → row.length ≤ c → at' ≤ c →
   loopK (F_R17_Group_l4 n aggs K (i:Int) l outs nx3) m (row,(at':Int),(c:Int)) = bnd (specC n aggs l k c at' (aggs.drop c) row) fun q=>if q.2 = 0 then chk (decide ((outs ++ [q.1]).length * 24 ≤ 140737488355328)) (nx3 (outs ++ [q.1],IntKind.i64.wrap ((i:Int) + 1))) else some ([],q.2):=by
 have hn:n ≤ 1073741824:=by have:=h.hN; omega
 have hN:=h.hN
 have ha10:=h.ha
 have hs:=h.ok.small
 have hrl:=rbig_len l
 intro m
 induction m with
 | zero=>intro c _ _ _ h; omega
 | succ m ih =>
  intro c at' row hc hm hr hat
  rw [loopK_succ]
  generalize loopK (F_R17_Group_l4 n aggs K (i:Int) l outs nx3) m = nx at ih ⊢
  conv=>lhs; unfold F_R17_Group_l4
  simp only [strs_len,slen]
  by_cases hlt:c < aggs.length
  ·obtain ⟨a,ha⟩:∃ x,aggs[c]? = some x:=⟨_,List.getElem?_eq_getElem hlt⟩
   rw [decide_eq_true (show (c:Int) < (aggs.length:Int) by omega),drop_head ha]
   simp only [cond_true,Ax.idx_nat,ha,hk,bnd_eq,specC]
   by_cases he:a = []
   ·subst he
    rw [show (([]:List UInt8) == []) = true from rfl]
    simp only [cond_true,if_true]
    cases hx:k[at']? with
    | none=>rfl
    | some x =>
     obtain ⟨a1,a2,a3,a4,a5,a6⟩:=x
     simp only [bnd_eq]
     rw [chk_dec (by rw [valRows_len,List.length_append,List.length_singleton]; omega)]
     have hle:at' < k.length:=(List.getElem?_eq_some_iff.1 hx).1
     unfold F_R17_Group_k64
     try simp only []
     rw [wrapN (by omega),wrapN (by omega)]
     exact ih (c + 1) (at' + 1) _ (by omega) (by omega) (by simp; omega) (by omega)
   ·have:(a == []) = false:=by cases a with | nil=>exact absurd rfl he | cons _ _=>rfl
    rw [this,if_neg he]
    simp only [cond_false]
    rw [show (([]:List Val),(0:Int)) = ([],((0:Nat):Int)) from rfl,vals_loop h hk hlt row nx (at':Int) n 0 [] (Nat.zero_le _) (by omega) (Nat.le_refl _)]
    rw [List.drop_zero,List.nil_append]
    have hcol:colX aggs l k c = l.flatMap fun r=>if kx aggs r = k then pickV r c else []:=by
     unfold colX
     rw [if_neg (by rw [ha]; simpa using he)]
    rw [← hcol]
    unfold F_R17_Group_l5
    simp only [slen]
    rw [decide_eq_false (show ¬ (l.length:Int) < (l.length:Int) by omega)]
    simp only [cond_false,Ax.idx_nat,ha,bnd_eq]
    cases hone:F_R17_one n a (colX aggs l k c) with
    | none=>rfl
    | some r =>
     obtain ⟨⟨a1,a2,a3,a4,a5,a6⟩,e⟩:=r
     simp only [bnd_eq]
     by_cases hz:e = 0
     ·subst hz
      simp only [show ((0:Int) != 0) = false from rfl,cond_false,if_true,bnd_eq]
      rw [chk_dec (by rw [valRows_len,List.length_append,List.length_singleton]; omega)]
      unfold F_R17_Group_k64
      try simp only []
      rw [wrapN (by omega)]
      exact ih (c + 1) at' (row ++ [Val.mk a1 a2 a3 a4 a5 a6]) (by omega) (by omega) (by rw [List.length_append,List.length_singleton]; omega) (by omega)
     ·have hb:(e != 0) = true:=by simp [hz]
      rw [hb]
      simp only [cond_true,if_neg hz,bnd_eq]
  ·obtain rfl:c = aggs.length:=by omega
   rw [decide_eq_false (show ¬ (aggs.length:Int) < (aggs.length:Int) by omega),List.drop_length]
   simp only [cond_false,specC,bnd_eq,if_true]
theorem keys_loop (h:Inp n aggs l) (K:List (List Val)) (hK:K.length ≤ 1000) :
  ∀ (m i:Nat) (outs:List (List Val)),i ≤ K.length → K.length - i < m → outs.length ≤ i →
   loopK (F_R17_Group_l3 n K aggs l) m (outs,(i:Int)) = specG n aggs l (K.drop i) outs:=by
 have hN:=h.hN
 have h100:=h.h100
 have ha10:=h.ha
 intro m
 induction m with
 | zero=>intro i _ _ h; omega
 | succ m ih =>
  intro i outs hi hm ho
  rw [loopK_succ]
  generalize loopK (F_R17_Group_l3 n K aggs l) m = nx at ih ⊢
  conv=>lhs; unfold F_R17_Group_l3
  simp only [slen]
  by_cases hlt:i < K.length
  ·obtain ⟨k,hk⟩:∃ x,K[i]? = some x:=⟨_,List.getElem?_eq_getElem hlt⟩
   rw [decide_eq_true (show (i:Int) < (K.length:Int) by omega),drop_head hk]
   simp only [cond_true,specG]
   have:=row_loop' h hk outs nx n 0 0 [] (Nat.zero_le _) (by omega) (Nat.le_refl _) (Nat.le_refl _)
   rw [show (([]:List Val),(0:Int),(0:Int)) = ([],((0:Nat):Int),((0:Nat):Int)) from rfl,this,List.drop_zero]
   cases hc:specC n aggs l k 0 0 aggs [] with
   | none=>rfl
   | some q =>
    simp only [bnd_eq]
    by_cases hz:q.2 = 0
    ·rw [if_pos hz,if_pos hz,chk_dec (by rw [List.length_append,List.length_singleton]; omega),wrapN (by omega)]
     exact ih (i + 1) _ (by omega) (by omega) (by simp; omega)
    ·rw [if_neg hz,if_neg hz]
  ·rw [decide_eq_false (show ¬ (i:Int) < (K.length:Int) by omega),List.drop_eq_nil_of_le (by omega)]
   rfl
noncomputable def withNone (aggs:List (List UInt8)) (K:List (List Val)):List (List Val):=if K = [] ∧ [] ∉ aggs then [[]] else K
theorem uniq_loop (h:Inp n aggs l) (ks:List (List Val)) (hks:ks.length ≤ 200) (hsm:∀ k ∈ ks,40 * bigs k + 40 < n) :
  ∀ (m i:Nat) (out:List (List Val)),i ≤ ks.length → ks.length - i < m → out.length ≤ i → (∀ k ∈ out,40 * bigs k + 40 < n) →
   loopK (F_R17_Group_l2 n ks aggs l) m (out,(i:Int)) = F_R17_Group_k4 n aggs l (withNone aggs (uniqA out (ks.drop i))):=by
 have hN:=h.hN
 have hn:n ≤ 1073741824:=by omega
 have h100:=h.h100
 have ha10:=h.ha
 have hsz:=h.ok.small
 intro m
 induction m with
 | zero=>intro i _ _ h; omega
 | succ m ih =>
  intro i out hi hm ho hok
  rw [loopK_succ]
  generalize loopK (F_R17_Group_l2 n ks aggs l) m = nx at ih ⊢
  conv=>lhs; unfold F_R17_Group_l2
  simp only [slen]
  by_cases hlt:i < ks.length
  ·obtain ⟨r,hr⟩:∃ x,ks[i]? = some x:=⟨_,List.getElem?_eq_getElem hlt⟩
   obtain ⟨k,h1,h2⟩:=among_eq hn r (l:=out) hok (by omega)
   rw [decide_eq_true (show (i:Int) < (ks.length:Int) by omega),drop_head hr]
   simp only [cond_true,Ax.idx_nat,hr,bnd_eq,h1]
   unfold F_R17_Group_k3
   by_cases hin:r ∈ out
   ·rw [decide_eq_false (fun h=>(h2.1 h) hin)]
    simp only [cond_false,uniqA,if_pos hin]
    rw [wrapN (by omega)]
    exact ih (i + 1) out (by omega) (by omega) (by omega) hok
   ·rw [decide_eq_true (h2.2 hin)]
    simp only [cond_true,uniqA,if_neg hin]
    rw [chk_dec (by rw [List.length_append,List.length_singleton]; omega),wrapN (by omega)]
    refine ih (i + 1) _ (by omega) (by omega) (by rw [List.length_append,List.length_singleton]; omega) fun x hx=>?_
    rcases List.mem_append.1 hx with h | h
    ·exact hok x h
    ·simp at h; subst h; exact hsm _ (List.mem_of_getElem? hr)
  ·rw [decide_eq_false (show ¬ (i:Int) < (ks.length:Int) by omega),List.drop_eq_nil_of_le (by omega)]
   simp only [cond_false,uniqA,strs_len]
   cases hout:out with
   | nil =>
    have hrep:(List.replicate aggs.length nullV).length = aggs.length:=List.length_replicate
    have hk:=rkeys_eq hn hrep (by omega)
    have hkl:=kx_len (q:=aggs) (r:=List.replicate aggs.length nullV) hrep
    simp only [List.length_nil,show (((0:Nat):Int) == 0) = true from rfl,gsome_t,Ax.natI_nat,bnd_eq,cond_true]
    rw [chk_dec (by omega),hk]
    simp only [bnd_eq,valRows_len,hkl]
    by_cases hz:[] ∈ aggs
    ·have h0:nokey aggs ≠ 0:=fun e=>nokey_zero.1 e hz
     have:(((nokey aggs:Nat):Int) == 0) = false:=by simp [h0]
     rw [this]
     simp only [cond_false]
     unfold withNone
     rw [if_neg (fun e=>e.2 hz)]
    ·have h0:nokey aggs = 0:=nokey_zero.2 hz
     rw [h0]
     simp only [show (((0:Nat):Int) == 0) = true from rfl,cond_true]
     rw [chk_dec (by simp)]
     unfold withNone
     rw [if_pos ⟨rfl,hz⟩]
     rfl
   | cons a t =>
    have hb:((((a :: t).length:Nat):Int) == 0) = false:=by simp; omega
    simp only [hb,gsome_f,bnd_eq,cond_false]
    unfold withNone
    rw [if_neg (fun e=>by cases e.1)]
    rfl
theorem first_loop (h:Inp n aggs l) (hl:l.length ≤ 200) :
  ∀ (m i:Nat) (acc:List (List Val)),i ≤ l.length → l.length - i < m → acc.length ≤ i →
   loopK (F_R17_Group_l1 n l aggs) m (acc,(i:Int)) = loopK (F_R17_Group_l2 n (acc ++ (l.drop i).map (kx aggs)) aggs l) n ([],(0:Int)):=by
 have hN:=h.hN
 have hn:n ≤ 1073741824:=by omega
 have ha10:=h.ha
 intro m
 induction m with
 | zero=>intro i _ _ h; omega
 | succ m ih =>
  intro i acc hi hm ho
  rw [loopK_succ]
  generalize loopK (F_R17_Group_l1 n l aggs) m = nx at ih ⊢
  conv=>lhs; unfold F_R17_Group_l1
  simp only [slen]
  by_cases hlt:i < l.length
  ·obtain ⟨r,hr⟩:∃ x,l[i]? = some x:=⟨_,List.getElem?_eq_getElem hlt⟩
   have okr:=h.ok.row r (List.mem_of_getElem? hr)
   have hk:=rkeys_eq hn okr.len (by omega)
   rw [decide_eq_true (show (i:Int) < (l.length:Int) by omega),drop_head hr]
   simp only [cond_true,Ax.idx_nat,hr,bnd_eq,hk]
   rw [chk_dec (by rw [List.length_append,List.length_singleton]; omega),wrapN (by omega),ih (i + 1) _ (by omega) (by omega) (by simp; omega)]
   simp
  ·rw [decide_eq_false (show ¬ (i:Int) < (l.length:Int) by omega),List.drop_eq_nil_of_le (by omega)]
   simp
theorem uniqA_len2:∀ (m acc:List (List Val)),acc.length ≤ (uniqA acc m).length ∧ (uniqA acc m).length ≤ acc.length + m.length
 | [],acc=>⟨Nat.le_refl _,Nat.le_refl _⟩
 | a :: m,acc=>by
  simp only [uniqA]
  split
  ·have:=uniqA_len2 m acc
   simp only [List.length_cons]; omega
  ·have:=uniqA_len2 m (acc ++ [a])
   simp only [List.length_append,List.length_cons,List.length_nil] at this ⊢
   omega
theorem withNone_keys (h:Inp n aggs l):withNone aggs (uniqA [] (l.map (kx aggs))) = keysOf aggs l:=by
 unfold withNone keysOf
 by_cases hi:[] ∈ aggs
 ·rw [if_neg (fun e=>e.2 hi),if_pos hi]
 ·rw [if_neg hi]
  cases l with
  | nil=>rw [if_pos ⟨rfl,hi⟩]; rfl
  | cons r l =>
   have hk:kx aggs r = []:=List.eq_nil_of_length_eq_zero (by rw [kx_len (h.ok.row r (by simp)).len]; exact nokey_zero.2 hi)
   simp only [List.map_cons,hk,uniqA,List.not_mem_nil,if_false,List.nil_append,List.mem_singleton,if_true]
   rw [if_neg fun e=>?_]
   have:=(uniqA_len2 (l.map (kx aggs)) [[]]).1
   rw [e.1] at this
   simp at this
theorem rgroup_eq (h:Inp n aggs l) (hl:l.length ≤ 200):F_R17_Group n l aggs = specG n aggs l (keysOf aggs l) []:=by
 have hN:=h.hN
 have h100:=h.h100
 have hsz:=h.ok.small
 have hrl:=rbig_len l
 unfold F_R17_Group
 have h1:=first_loop h hl n 0 [] (Nat.zero_le _) (by omega) (Nat.le_refl _)
 rw [List.nil_append,List.drop_zero] at h1
 rw [show (([]:List (List Val)),(0:Int)) = ([],((0:Nat):Int)) from rfl,h1]
 have h2:=uniq_loop h (l.map (kx aggs)) (by rw [List.length_map]; exact hl) (fun k hk=>by
  obtain ⟨r,hr,rfl⟩:=List.mem_map.1 hk
  have:=kx_bigs aggs r
  have:=(h.ok.row r hr).small
  omega) n 0 [] (Nat.zero_le _) (by rw [List.length_map]; omega) (Nat.le_refl _) (fun k hk=>(by cases hk))
 rw [List.drop_zero] at h2
 rw [show (([]:List (List Val)),(0:Int)) = ([],((0:Nat):Int)) from rfl,h2,withNone_keys h]
 unfold F_R17_Group_k4
 have hkl:=(uniqA_len2 (l.map (kx aggs)) (if [] ∈ aggs then [] else [[]])).2
 have hk1:(if [] ∈ aggs then [] else [[]]:List (List Val)).length ≤ 1:=by split <;> simp
 rw [List.length_map] at hkl
 have hk2:(keysOf aggs l).length ≤ 201:=by unfold keysOf; omega
 have h3:=keys_loop h (keysOf aggs l) (by omega) n 0 [] (Nat.zero_le _) (by have:=h.ha; omega) (Nat.le_refl _)
 rw [List.drop_zero] at h3
 exact h3
end
end W
end
section
open Go Go.Proofs Ax Go.RowKit
namespace W
def InH (H : PH 0) (b : Nat) : Prop := ∃ o u, H b o = some u
def SpW (H : PH 0) (w : World) : Prop := ∀ b o u, H b o = some u → (∃ u', w.cell? ⟨b, o, none⟩ = some u' ∧ Kin u u') ∧ NotFrozen w b o u
theorem SpW.block {H : PH 0} {w w' : World} (s : SpW H w) (h : ∀ b, InH H b → w'.heap[b]? = w.heap[b]?) : SpW H w' := fun b o u hu => by
  obtain ⟨⟨u', h1, h2⟩, h3⟩ := s b o u hu
  have e := h b ⟨o, u, hu⟩
  exact ⟨⟨u', by rw [World.cell?_of_block (w := w) (a := ⟨b, o, none⟩) e]; exact h1, h2⟩, h3.block e⟩
def Touch (H : PH 0) (b p : Nat) : Prop := (∃ q k, H b q = some (.int .i64 k) ∧ q ≤ p ∧ p ≤ q + 5) ∨ ∃ s, H b p = some (.string s)
structure Spt (H : PH 0) (w w' : World) : Prop where
  sp : SpW H w'
  keep : Keep (InH H) w w'
  stay : ∀ b p, b < w.heap.size → ¬ Touch H b p → w'.cell? ⟨b, p, none⟩ = w.cell? ⟨b, p, none⟩
theorem Spt.refl {H : PH 0} {w : World} (s : SpW H w) : Spt H w w := ⟨s, Keep.refl _ _, fun _ _ _ _ => rfl⟩
def InL (H : PH 0) (b o : Nat) (l : List Val) : Prop := ∀ (i : Nat) (v : Val), l[i]? = some v → ∃ us, RepL H v.cells us ∧ ∀ (j : Nat) (u : Value), us[j]? = some u → H b (o + i * 6 + j) = some u
def InK (H : PH 0) (b o : Nat) (l : List (List UInt8)) : Prop := ∀ (i : Nat) (s : List UInt8), l[i]? = some s → H b (o + i) = some (.string ⟨s.toArray⟩)
theorem SpW.kin {H : PH 0} {w : World} (s : SpW H w) {b o : Nat} {u : Value} (h : H b o = some u) : ∃ u', w.cell? ⟨b, o, none⟩ = some u' ∧ Kin u u' := (s b o u h).1
theorem SpW.fz {H : PH 0} {w : World} (s : SpW H w) {b o : Nat} {u : Value} (h : H b o = some u) (h8 : ∀ m, u ≠ .int .u8 m) : w.frozen? ⟨b, o, none⟩ = false := by
  rcases (s b o u h).2 with ⟨m, e⟩ | e
  · exact absurd e (h8 m)
  · exact e
theorem SpW.lt {H : PH 0} {w : World} (s : SpW H w) {b : Nat} (h : InH H b) : b < w.heap.size := by
  obtain ⟨o, u, hu⟩ := h
  obtain ⟨u', h1, _⟩ := s.kin hu
  exact World.block_lt_of_cell? w ⟨b, o, none⟩ h1
theorem Spt.other {H : PH 0} {w w' : World} (s : Spt H w w') {b : Nat} (hb : b < w.heap.size) (hn : ¬ InH H b) : w'.heap[b]? = w.heap[b]? := s.keep.block b hb hn
theorem Spt.trans {H : PH 0} {a b c : World} (h : Spt H a b) (k : Spt H b c) : Spt H a c := ⟨k.sp, h.keep.trans k.keep, fun g p hb hn => (k.stay g p (Nat.lt_of_lt_of_le hb h.keep.size) hn).trans (h.stay g p hb hn)⟩
def vlist : Val → List Val
  | .mk _ _ _ _ l _ => l
def vkeys : Val → List (List UInt8)
  | .mk _ _ _ _ _ ks => ks
theorem SpW.set {H : PH 0} {w : World} (s : SpW H w) {b o : Nat} {u v : Value} (h : H b o = some u) (hk : Kin u v) (ht : Touch H b o) : Spt H w (w.setCell ⟨b, o, none⟩ v) := by
  obtain ⟨u', hc, _⟩ := s.kin h
  refine ⟨fun b2 o2 u2 h2 => ⟨?_, ?_⟩, ⟨rfl, rfl, rfl, by simp [World.setCell], fun k hk hn => heap_setCell_other w _ k v (fun e => hn (by subst e; exact ⟨o, u, h⟩))⟩, fun b2 o2 _ hn => World.cell?_setCell_other w ⟨b, o, none⟩ ⟨b2, o2, none⟩ v (by intro e2; simp only [Addr.mk.injEq] at e2; exact hn (by rw [← e2.1, ← e2.2.1]; exact ht))⟩
  · by_cases e : b2 = b ∧ o2 = o
    · obtain ⟨rfl, rfl⟩ := e
      rw [h] at h2
      cases h2
      exact ⟨v, World.cell?_setCell_same' _ _ _ (by rw [hc]; rfl), hk⟩
    · obtain ⟨u3, h3, h4⟩ := s.kin h2
      exact ⟨u3, by rw [World.cell?_setCell_other (a := ⟨b, o, none⟩) (b := ⟨b2, o2, none⟩) (h := by intro e2; simp only [Addr.mk.injEq] at e2; exact e ⟨e2.1.symm, e2.2.1.symm⟩)]; exact h3, h4⟩
  · rcases (s b2 o2 u2 h2).2 with x | x
    · exact .inl x
    · exact .inr (by rw [World.frozen?_setCell]; exact x)
theorem shape {H : PH 0} {v : Val} {us : List Value} (h : RepL H v.cells us) : ∃ (k i : Int) (bb : Bool) (s : ByteArray) (x y : Value), us = [.int .i64 k, .bool bb, .int .i64 i, .string s, x, y] ∧ RepP H (.sl (Val.rows (vlist v))) x ∧ RepP H (.sl (strs (vkeys v))) y := by
  obtain ⟨k, b, i, s, l, ks⟩ := v
  simp only [Val.cells, RepL, RepP] at h
  obtain ⟨_, _, rfl, rfl, _, _, rfl, rfl, _, _, rfl, rfl, _, _, rfl, rfl, x, _, rfl, hx, y, _, rfl, hy, rfl⟩ := h
  exact ⟨k, i, b, ⟨s.toArray⟩, x, y, rfl, by simp only [RepP]; exact hx, by simp only [RepP]; exact hy⟩
structure Six (H : PH 0) (w : World) (b q : Nat) (us : List Value) (e1 e2 e3 e4 e5 e6 : Value) : Prop where
  kin : KinL us [e1, e2, e3, e4, e5, e6]
  c : w.cell? ⟨b, q, none⟩ = some e1 ∧ w.cell? ⟨b, q + 1, none⟩ = some e2 ∧ w.cell? ⟨b, q + 2, none⟩ = some e3 ∧ w.cell? ⟨b, q + 3, none⟩ = some e4 ∧ w.cell? ⟨b, q + 4, none⟩ = some e5 ∧ w.cell? ⟨b, q + 5, none⟩ = some e6
  f : w.frozen? ⟨b, q, none⟩ = false ∧ w.frozen? ⟨b, q + 1, none⟩ = false ∧ w.frozen? ⟨b, q + 2, none⟩ = false ∧ w.frozen? ⟨b, q + 3, none⟩ = false ∧ w.frozen? ⟨b, q + 4, none⟩ = false ∧ w.frozen? ⟨b, q + 5, none⟩ = false
theorem sl_not8 {Lw : Nat} {H : PH Lw} {rows : List (List PV)} {x : Value} (h : RepP H (.sl rows) x) : ∀ m, x ≠ .int .u8 m := by
  simp only [RepP] at h
  rintro m rfl
  rcases h with ⟨_, h | ⟨_, _, h⟩⟩ | ⟨_, _, _, _, h, _⟩ <;> cases h
theorem SpW.six {H : PH 0} {w : World} (s : SpW H w) {v : Val} {us : List Value} (hus : RepL H v.cells us) {b q : Nat} (hcs : ∀ (j : Nat) (u : Value), us[j]? = some u → H b (q + j) = some u) :
    ∃ e1 e2 e3 e4 e5 e6, Six H w b q us e1 e2 e3 e4 e5 e6 := by
  obtain ⟨k, i, bb, st, x, y, rfl, hx, hy⟩ := shape hus
  have a1 := hcs 0 _ rfl; have a2 := hcs 1 _ rfl; have a3 := hcs 2 _ rfl; have a4 := hcs 3 _ rfl; have a5 := hcs 4 _ rfl; have a6 := hcs 5 _ rfl
  obtain ⟨e1, c1, k1⟩ := s.kin a1
  obtain ⟨e2, c2, k2⟩ := s.kin a2
  obtain ⟨e3, c3, k3⟩ := s.kin a3
  obtain ⟨e4, c4, k4⟩ := s.kin a4
  obtain ⟨e5, c5, k5⟩ := s.kin a5
  obtain ⟨e6, c6, k6⟩ := s.kin a6
  refine ⟨e1, e2, e3, e4, e5, e6, ⟨rfl, fun j v u hv hu => ?_⟩, ⟨c1, c2, c3, c4, c5, c6⟩, s.fz a1 (by simp), s.fz a2 (by simp), s.fz a3 (by simp), s.fz a4 (by simp), s.fz a5 (sl_not8 hx), s.fz a6 (sl_not8 hy)⟩
  match j with
  | 0 => cases hv; cases hu; exact k1
  | 1 => cases hv; cases hu; exact k2
  | 2 => cases hv; cases hu; exact k3
  | 3 => cases hv; cases hu; exact k4
  | 4 => cases hv; cases hu; exact k5
  | 5 => cases hv; cases hu; exact k6
  | j + 6 => simp at hv
theorem sl_kin {Lw : Nat} {H : PH Lw} {rows : List (List PV)} {x : Value} (h : RepP H (.sl rows) x) : Kin x (.slice none 0 0) := by
  simp only [RepP] at h
  rcases h with ⟨_, rfl | ⟨_, _, rfl⟩⟩ | ⟨_, _, _, _, rfl, _⟩ <;> exact .inr rfl
theorem SpW.six_set {H : PH 0} {w : World} (s : SpW H w) {v : Val} {us : List Value} (hus : RepL H v.cells us) {b q : Nat} (hcs : ∀ (j : Nat) (u : Value), us[j]? = some u → H b (q + j) = some u) (k i : Int) (bb : Bool) (st : ByteArray) :
    Spt H w ((((((w.setCell ⟨b, q, none⟩ (.int .i64 k)).setCell ⟨b, q + 1, none⟩ (.bool bb)).setCell ⟨b, q + 2, none⟩ (.int .i64 i)).setCell ⟨b, q + 3, none⟩ (.string st)).setCell ⟨b, q + 4, none⟩ (.slice none 0 0)).setCell ⟨b, q + 5, none⟩ (.slice none 0 0)) := by
  obtain ⟨k', i', bb', st', x, y, rfl, hx, hy⟩ := shape hus
  have h1 := s.set (v := .int .i64 k) (hcs 0 _ rfl) ⟨_, rfl⟩ (.inl ⟨q, k', hcs 0 _ rfl, by omega, by omega⟩)
  have h2 := h1.sp.set (v := .bool bb) (hcs 1 _ rfl) ⟨_, rfl⟩ (.inl ⟨q, k', hcs 0 _ rfl, by omega, by omega⟩)
  have h3 := h2.sp.set (v := .int .i64 i) (hcs 2 _ rfl) ⟨_, rfl⟩ (.inl ⟨q, k', hcs 0 _ rfl, by omega, by omega⟩)
  have h4 := h3.sp.set (v := .string st) (hcs 3 _ rfl) ⟨_, rfl⟩ (.inl ⟨q, k', hcs 0 _ rfl, by omega, by omega⟩)
  have h5 := h4.sp.set (v := .slice none 0 0) (hcs 4 _ rfl) (sl_kin hx) (.inl ⟨q, k', hcs 0 _ rfl, by omega, by omega⟩)
  have h6 := h5.sp.set (v := .slice none 0 0) (hcs 5 _ rfl) (sl_kin hy) (.inl ⟨q, k', hcs 0 _ rfl, by omega, by omega⟩)
  exact ((((h1.trans h2).trans h3).trans h4).trans h5).trans h6
abbrev bxc (k : Int) (bb : Bool) (ii : Int) (s : ByteArray) (x y : Value) : Array Value := #[.int .i64 k, .bool bb, .int .i64 ii, .string s, x, y]
set_option maxHeartbeats 1000000 in
theorem spoil_walk (H : PH 0) (k ii : Int) (bb : Bool) (s : ByteArray) (b o kb ko : Nat) (lp kp : Option Addr) (lc kc : Nat) (l : List Val) (ks : List (List UInt8)) (hp : l ≠ [] → lp = some ⟨b, o, none⟩) (hq : ks ≠ [] → kp = some ⟨kb, ko, none⟩)
    (hl : InL H b o l) (hk : InK H kb ko ks) (hln : l.length < 9223372036854775807) (hkn : ks.length < 9223372036854775807) (w : World) (sp : SpW H w)
    (ih : ∀ v ∈ l, ∀ us xs w, RepL H v.cells us → KinL us xs → SpW H w → Calls Tryz.prog 32 #[.agg xs.toArray] w fun e w' => e = .returned (.tuple #[]) ∧ Spt H w w') :
    Calls Tryz.prog 32 #[.agg #[.int .i64 k, .bool bb, .int .i64 ii, .string s, .slice lp l.length lc, .slice kp ks.length kc]] w fun e w' => e = .returned (.tuple #[]) ∧ Spt H w w' := by
  have hnb : ¬ InH H w.heap.size := fun h => absurd (sp.lt h) (Nat.lt_irrefl _)
  go_enter Tryz.func32, Tryz.ntmps32
  go_wp2
  go_loopw [2] (fun vi wr => ∃ (i : Nat), vi = .int .i64 i ∧ i ≤ l.length ∧ Spt H (w.alloc (.cells (bxc k bb ii s (.slice lp l.length lc) (.slice kp ks.length kc)) 36)) wr) (fun vi _ => l.length - (intOf vi).toNat)
  case atStart => exact ⟨0, rfl, Nat.zero_le _, Spt.refl (sp.block fun b hb => heap_alloc_old w _ (sp.lt hb))⟩
  case round =>
    obtain ⟨i, rfl, hin, hS⟩ := hrel
    have cb : ∀ w', Spt H wr w' → w'.cell? ⟨w.heap.size, 4, none⟩ = some (.slice lp l.length lc) ∧ w'.cell? ⟨w.heap.size, 5, none⟩ = some (.slice kp ks.length kc) := fun w' h => by
      have e := (hS.trans h).other (b := w.heap.size) (by simp) hnb
      exact ⟨by rw [World.cell?_of_block (a := ⟨w.heap.size, 4, none⟩) e, World.cell?_alloc_new]; rfl, by rw [World.cell?_of_block (a := ⟨w.heap.size, 5, none⟩) e, World.cell?_alloc_new]; rfl⟩
    obtain ⟨c4, c5⟩ := cb wr (Spt.refl hS.sp)
    rcases Nat.lt_or_ge i l.length with hlt | hge
    · obtain rfl := hp (List.ne_nil_of_length_pos (by omega))
      have hv := List.getElem?_eq_getElem hlt
      generalize l[i] = vi at hv
      obtain ⟨us, hus, hcs⟩ := hl i vi hv
      obtain ⟨e1, e2, e3, e4, e5, e6, ⟨hkin, ⟨he1, he2, he3, he4, he5, he6⟩, _⟩⟩ := hS.sp.six hus hcs
      have hc := ih vi (List.mem_of_getElem? hv) us [e1, e2, e3, e4, e5, e6] wr hus hkin hS.sp
      have aft : ∀ w', Spt H wr w' → ∃ g1 g2 g3 g4 g5 g6, Six H w' b (o + i * 6) us g1 g2 g3 g4 g5 g6 := fun w' h => h.sp.six hus hcs
      clear ih
      go_wp2_with (go_at_call 32; refine hc.mono ?_; rintro e w1 ⟨rfl, h1⟩; obtain ⟨d4, _⟩ := cb w1 h1; obtain ⟨g1, g2, g3, g4, g5, g6, ⟨hkin', ⟨hg1, hg2, hg3, hg4, hg5, hg6⟩, ⟨z1, z2, z3, z4, z5, z6⟩⟩⟩ := aft w1 h1)
      go_roundw
      case rel => exact ⟨i + 1, by congr 1 <;> omega, hlt, hS.trans (h1.trans (h1.sp.six_set hus hcs _ _ _ _))⟩
      case measure => simp [intOf]; omega
    · clear ih
      go_wp2
      go_loopw [3] (fun vi wk => ∃ (i : Nat), vi = .int .i64 i ∧ i ≤ ks.length ∧ Spt H wr wk) (fun vi _ => ks.length - (intOf vi).toNat)
      case atStart => exact ⟨0, rfl, Nat.zero_le _, Spt.refl hS.sp⟩
      case round =>
        rename World => wk
        obtain ⟨j, rfl, hjn, hS2⟩ := hrel
        obtain ⟨_, d5⟩ := cb _ hS2
        rcases Nat.lt_or_ge j ks.length with hlt | hge
        · obtain rfl := hq (List.ne_nil_of_length_pos (by omega))
          have hj := hk j _ (List.getElem?_eq_getElem hlt)
          obtain ⟨g1, hg1, _⟩ := hS2.sp.kin hj
          have z1 := hS2.sp.fz hj (by simp)
          go_wp2
          go_roundw
          case rel => exact ⟨j + 1, by congr 1 <;> omega, hlt, hS2.trans (hS2.sp.set hj ⟨_, rfl⟩ (.inr ⟨_, hj⟩))⟩
          case measure => simp [intOf]; omega
        · go_wp2
          go_end0
          have h3 := hS.trans hS2
          exact ⟨rfl, h3.sp, ⟨h3.keep.os, h3.keep.tape, h3.keep.output, Nat.le_trans (by simp) h3.keep.size, fun k hk hn => (h3.keep.block k (by simp; omega) hn).trans (heap_alloc_old w _ hk)⟩, fun b p hb hn => (h3.stay b p (by simp; omega) hn).trans (World.cell?_of_block (a := ⟨b, p, none⟩) (heap_alloc_old w _ hb))⟩
mutual
def vsz : Val → Nat
  | .mk _ _ _ _ l ks => 1 + vszL l + ks.length
def vszL : List Val → Nat
  | [] => 0
  | v :: l => 1 + vsz v + vszL l
end
theorem vszL_len : ∀ l : List Val, l.length ≤ vszL l
  | [] => Nat.le_refl _
  | v :: l => by have := vszL_len l; simp only [vszL, List.length_cons]; omega
theorem vszL_mem : ∀ {l : List Val} {v : Val}, v ∈ l → vsz v < vszL l
  | [], _, h => by cases h
  | a :: l, v, h => by
    simp only [vszL]
    rcases List.mem_cons.1 h with rfl | h
    · omega
    · have := vszL_mem h; omega
theorem list_of {H : PH 0} {l : List Val} {x x' : Value} (h : RepP H (.sl (Val.rows l)) x) (k : Kin x x') :
    ∃ lp l' b o lc, x' = .slice lp (l' : List Val).length lc ∧ (l' ≠ [] → lp = some ⟨b, o, none⟩) ∧ InL H b o l' ∧ (l' = l ∨ l' = []) := by
  have nil : ∀ (lp : Option Addr) lc, x' = .slice lp 0 lc → ∃ lp l' b o lc, x' = .slice lp (l' : List Val).length lc ∧ (l' ≠ [] → lp = some ⟨b, o, none⟩) ∧ InL H b o l' ∧ (l' = l ∨ l' = []) := fun lp lc e =>
    ⟨lp, [], 0, 0, lc, e, fun h => absurd rfl h, fun i v hv => by simp at hv, .inr rfl⟩
  simp only [RepP] at h
  rcases h with ⟨_, rfl | ⟨a, c, rfl⟩⟩ | ⟨b, o, z, cap, rfl, _, hr⟩
  · rcases k with rfl | rfl <;> exact nil _ _ rfl
  · rcases k with rfl | rfl <;> exact nil _ _ rfl
  · rcases k with rfl | rfl
    · refine ⟨some ⟨b, o, none⟩, l, b, o, cap, by rw [rows_length], fun _ => rfl, fun i v hv => ?_, .inl rfl⟩
      have h1 : (Val.rows l)[i]? = some v.cells := Codec.getN valC hv
      obtain ⟨e, vs, h2, h3⟩ := hr.get h1
      rw [cells_length] at e
      subst e
      exact ⟨vs, h2, h3⟩
    · exact nil _ _ rfl
theorem keys_of {H : PH 0} {l : List (List UInt8)} {x x' : Value} (h : RepP H (.sl (strs l)) x) (k : Kin x x') :
    ∃ lp l' b o lc, x' = .slice lp (l' : List (List UInt8)).length lc ∧ (l' ≠ [] → lp = some ⟨b, o, none⟩) ∧ InK H b o l' ∧ (l' = l ∨ l' = []) := by
  have nil : ∀ (lp : Option Addr) lc, x' = .slice lp 0 lc → ∃ lp l' b o lc, x' = .slice lp (l' : List (List UInt8)).length lc ∧ (l' ≠ [] → lp = some ⟨b, o, none⟩) ∧ InK H b o l' ∧ (l' = l ∨ l' = []) := fun lp lc e =>
    ⟨lp, [], 0, 0, lc, e, fun h => absurd rfl h, fun i v hv => by simp at hv, .inr rfl⟩
  simp only [RepP] at h
  rcases h with ⟨_, rfl | ⟨a, c, rfl⟩⟩ | ⟨b, o, z, cap, rfl, _, hr⟩
  · rcases k with rfl | rfl <;> exact nil _ _ rfl
  · rcases k with rfl | rfl <;> exact nil _ _ rfl
  · rcases k with rfl | rfl
    · refine ⟨some ⟨b, o, none⟩, l, b, o, cap, by simp [strs], fun _ => rfl, fun i v hv => ?_, .inl rfl⟩
      have h1 : (strs l)[i]? = some [PV.str v] := Codec.getN strC hv
      obtain ⟨e, vs, h2, h3⟩ := hr.get h1
      simp only [List.length_singleton] at e
      subst e
      simp only [RepL, RepP] at h2
      obtain ⟨_, _, rfl, rfl, rfl⟩ := h2
      have := h3 0 _ rfl
      simpa using this
    · exact nil _ _ rfl
theorem spoil_val (H : PH 0) : ∀ (n : Nat) (v : Val), vsz v < n → n ≤ 4611686018427387904 → ∀ us xs w, RepL H v.cells us → KinL us xs → SpW H w → Calls Tryz.prog 32 #[.agg xs.toArray] w fun e w' => e = .returned (.tuple #[]) ∧ Spt H w w' := by
  intro n
  induction n with
  | zero => intro v h; omega
  | succ n ih =>
    intro v hv hn us xs w hus hk sp
    obtain ⟨k, i, bb, s, x, y, rfl, hx, hy⟩ := shape hus
    obtain ⟨hlen, hk⟩ := hk
    obtain ⟨a1, a2, a3, a4, a5, a6, rfl⟩ : ∃ a1 a2 a3 a4 a5 a6, xs = [a1, a2, a3, a4, a5, a6] := by
      match xs, hlen with
      | [a1, a2, a3, a4, a5, a6], _ => exact ⟨_, _, _, _, _, _, rfl⟩
    obtain ⟨k', rfl⟩ := hk 0 _ _ rfl rfl
    obtain ⟨bb', rfl⟩ := hk 1 _ _ rfl rfl
    obtain ⟨i', rfl⟩ := hk 2 _ _ rfl rfl
    obtain ⟨s', rfl⟩ := hk 3 _ _ rfl rfl
    obtain ⟨lp, l, b, o, lc, rfl, hp, hl, el⟩ := list_of hx (hk 4 _ _ rfl rfl)
    obtain ⟨kp, ks, kb, ko, kc, rfl, hq, hK, ek⟩ := keys_of hy (hk 5 _ _ rfl rfl)
    obtain ⟨q1, q2, q3, q4, ql, qk⟩ := v
    simp only [vlist, vkeys] at el ek
    simp only [vsz] at hv
    have hl1 : vszL l ≤ vszL ql := by rcases el with rfl | rfl <;> simp [vszL]
    have hk1 : ks.length ≤ qk.length := by rcases ek with rfl | rfl <;> simp
    have := vszL_len l
    exact spoil_walk H k' i' bb' s' b o kb ko lp kp lc kc l ks hp hq hl hK (by omega) (by omega) w sp
      (fun v hv' us xs w h1 h2 h3 => ih v (by have := vszL_mem hv'; omega) (by omega) us xs w h1 h2 h3)
structure Outer (H : PH 0) (l : List (List Val)) (lp : Option Addr) (B : Nat) : Prop where
  p : l ≠ [] → lp = some ⟨B, 0, none⟩
  c : ∀ (i : Nat) (r : List Val), l[i]? = some r → ∃ y, H B i = some y ∧ RepP H (.sl (Val.rows r)) y
theorem Outer.stay {H : PH 0} {l : List (List Val)} {lp : Option Addr} {B : Nat} (h : Outer H l lp B) {i : Nat} (hi : i < l.length) : ¬ Touch H B i := by
  have sl : ∀ (q : Nat), q ≤ i → ∃ y, H B q = some y ∧ ∃ r, RepP H (.sl (Val.rows r)) y := fun q hq => by
    obtain ⟨y, h1, h2⟩ := h.c q _ (List.getElem?_eq_getElem (by omega))
    exact ⟨y, h1, _, h2⟩
  rintro (⟨q, k, h1, h2, _⟩ | ⟨s, h1⟩)
  · obtain ⟨y, h3, r, h4⟩ := sl q h2
    rw [h1] at h3
    cases h3
    simp only [RepP] at h4
    rcases h4 with ⟨_, h | ⟨_, _, h⟩⟩ | ⟨_, _, _, _, h, _⟩ <;> cases h
  · obtain ⟨y, h3, r, h4⟩ := sl i (Nat.le_refl _)
    rw [h1] at h3
    cases h3
    simp only [RepP] at h4
    rcases h4 with ⟨_, h | ⟨_, _, h⟩⟩ | ⟨_, _, _, _, h, _⟩ <;> cases h
set_option maxHeartbeats 1000000 in
theorem spoil_rows (H : PH 0) (l : List (List Val)) (lp : Option Addr) (B lc : Nat) (ho : Outer H l lp B) (w : World) (sp : SpW H w) (hcell : ∀ (i : Nat) (y : Value), i < l.length → H B i = some y → w.cell? ⟨B, i, none⟩ = some y)
    (hln : l.length < 4611686018427387904) (hr : ∀ r ∈ l, vszL r < 4611686018427387904) :
    Calls Tryz.prog 11 #[.slice lp l.length lc] w fun e w' => e = .returned (.tuple #[]) ∧ Spt H w w' := by
  go_enter Tryz.func11, Tryz.ntmps11
  go_wp2
  go_loopw [2, 3] (fun vi _ wr => ∃ (i : Nat), vi = .int .i64 i ∧ i ≤ l.length ∧ Spt H w wr) (fun vi _ _ => l.length - (intOf vi).toNat)
  case atStart => exact ⟨0, rfl, Nat.zero_le _, Spt.refl sp⟩
  case round =>
    obtain ⟨i, rfl, hin, hS⟩ := hrel
    rcases Nat.lt_or_ge i l.length with hlt | hge
    · obtain rfl := ho.p (List.ne_nil_of_length_pos (by omega))
      have hv := List.getElem?_eq_getElem hlt
      have hrr := hr _ (List.getElem_mem hlt)
      generalize l[i] = r0 at hv hrr
      obtain ⟨y, hy, ry⟩ := ho.c i r0 hv
      have hlt0 : B < w.heap.size := World.block_lt_of_cell? w ⟨B, i, none⟩ (hcell i y hlt hy)
      obtain ⟨rp, r, rb, ro, rc, rfl, hp, hl, el⟩ := list_of ry (Kin.refl y)
      have hsz : vszL r < 4611686018427387904 := by
        rcases el with rfl | rfl
        · exact hrr
        · simp [vszL]
      have hlen := vszL_len r
      have cb : ∀ w', Spt H w w' → w'.cell? ⟨B, i, none⟩ = some (.slice rp r.length rc) := fun w' h => (h.stay B i hlt0 (ho.stay hlt)).trans (hcell i _ hlt hy)
      have c1 := cb wr hS
      go_wp2
      go_loopw [3] (fun vi wk => ∃ (j : Nat), vi = .int .i64 j ∧ j ≤ r.length ∧ Spt H w wk) (fun vi _ => r.length - (intOf vi).toNat)
      case atStart => exact ⟨0, rfl, Nat.zero_le _, hS⟩
      case round =>
        rename World => wk
        obtain ⟨j, rfl, hjn, hS2⟩ := hrel
        have d1 := cb _ hS2
        rcases Nat.lt_or_ge j r.length with hjt | hge
        · obtain rfl := hp (List.ne_nil_of_length_pos (by omega))
          have hv2 := List.getElem?_eq_getElem hjt
          have hmem := List.getElem_mem hjt
          generalize r[j] = vi at hv2 hmem
          obtain ⟨us, hus, hcs⟩ := hl j vi hv2
          obtain ⟨e1, e2, e3, e4, e5, e6, ⟨hkin, ⟨he1, he2, he3, he4, he5, he6⟩, _⟩⟩ := hS2.sp.six hus hcs
          have hc := spoil_val H _ vi (Nat.lt_succ_self _) (by have := vszL_mem hmem; omega) us [e1, e2, e3, e4, e5, e6] _ hus hkin hS2.sp
          have aft : ∀ w', Spt H w w' → ∃ g1 g2 g3 g4 g5 g6, Six H w' rb (ro + j * 6) us g1 g2 g3 g4 g5 g6 := fun w' h => h.sp.six hus hcs
          go_wp2_with (go_at_call 32; refine hc.mono ?_; rintro e w1 ⟨rfl, h1⟩; have d4 := cb w1 (hS2.trans h1); obtain ⟨g1, g2, g3, g4, g5, g6, ⟨hkin', ⟨hg1, hg2, hg3, hg4, hg5, hg6⟩, ⟨z1, z2, z3, z4, z5, z6⟩⟩⟩ := aft w1 (hS2.trans h1))
          go_roundw
          case rel => exact ⟨j + 1, by congr 1 <;> omega, hjt, hS2.trans (h1.trans (h1.sp.six_set hus hcs _ _ _ _))⟩
          case measure => simp [intOf]; omega
        · go_wp2
          go_roundw
          case rel => exact ⟨i + 1, by congr 1 <;> omega, hlt, hS2⟩
          case measure => simp [intOf]; omega
    · go_wp2
      go_end0
      exact ⟨rfl, hS⟩
end W
end
section
open Go Go.Proofs Ax Go.RowKit
namespace W
theorem rep_again {La Lb : Nat} {H : PH La} {H' : PH Lb} (h : ∀ b o v, H b o = some v → H' b o = some v) {l : List (List Val)} {v : Value} (r : RepP H (.sl (slRows valC l)) v) : RepP H' (.sl (slRows valC l)) v := by
  have := RepP.base h r
  simpa only [wkP, wk_slRows] using this
theorem rep_strs {La Lb : Nat} {H : PH La} {H' : PH Lb} (h : ∀ b o v, H b o = some v → H' b o = some v) {l : List (List UInt8)} {v : Value} (r : RepP H (.sl (strs l)) v) : RepP H' (.sl (strs l)) v := by
  have := RepP.base h r
  simpa only [wkP, wk_strs] using this
theorem rep_plain {La Lb : Nat} {H : PH La} {H' : PH Lb} (h : ∀ b o v, H b o = some v → H' b o = some v) {l : List (List Val)} {v : Value} (r : RepP H (.nsl (nsRows l)) v) : RepP H' (.sl (slRows valC l)) v := by
  have := RepP.base h r
  simpa only [wkP, wk_nsRows] using this
theorem outer_of {L hi : Nat} {H : PH L} (hh : ∀ b o v, H b o = some v → b < hi) {l : List (List Val)} {v : Value} (r : RepP H (.nsl (nsRows l)) v) : ∃ lp B lc, v = .slice lp l.length lc ∧ Outer (part L hi H) l lp B := by
  simp only [RepP] at r
  rcases r with ⟨e, r⟩ | ⟨b, o, z, cap, rfl, _, ⟨hb, rfl⟩, rr⟩
  · have : l = [] := by simpa [nsRows] using e
    subst this
    rcases r with rfl | ⟨a, c, rfl⟩
    · exact ⟨none, 0, 0, rfl, fun h => absurd rfl h, fun i r h => by simp at h⟩
    · exact ⟨some a, 0, c, rfl, fun h => absurd rfl h, fun i r h => by simp at h⟩
  · refine ⟨_, b, cap, by simp [nsRows], fun _ => rfl, fun i r h => ?_⟩
    have h1 : (nsRows l)[i]? = some [.nsl (Val.rowsN r)] := Codec.getN nsC h
    obtain ⟨e, vs, h2, h3⟩ := rr.get h1
    simp only [List.length_singleton] at e
    subst e
    simp only [RepL] at h2
    obtain ⟨y, _, rfl, h4, rfl⟩ := h2
    have h5 := h3 0 y rfl
    simp only [Nat.zero_add, Nat.mul_one, Nat.add_zero] at h5
    have h6 := new_part hh (by simp only [nwP, nw_rows]) h4
    simp only [wkP, wk_rows] at h6
    exact ⟨y, part_some hh h5 hb, h6⟩
theorem spw_of {L : Nat} {H : PH L} {w : World} (s : SatH H w) : SpW (part L w.heap.size H) w := fun b o u hu => by
  unfold Ax.part at hu
  split at hu
  · rename_i hb
    exact ⟨⟨u, (s.cell b o u hu).1, Kin.refl u⟩, s.nf b o u hu hb.1⟩
  · cases hu
theorem part_cell {L : Nat} {H : PH L} {w : World} (s : SatH H w) {b o : Nat} {u : Value} (hu : part L w.heap.size H b o = some u) : L ≤ b ∧ w.cell? ⟨b, o, none⟩ = some u := by
  unfold Ax.part at hu
  split at hu
  · rename_i hb
    exact ⟨hb.1, (s.cell b o u hu).1⟩
  · cases hu
theorem spoil_one {L : Nat} {H : PH L} {w : World} (s : SatH H w) {a : List (List Val)} {va : Value} (ra : RepP H (.nsl (nsRows a)) va) (ha : a.length < 4611686018427387904 ∧ ∀ r ∈ a, vszL r < 4611686018427387904) :
    Calls Tryz.prog 11 #[va] w fun e w1 => e = .returned (.tuple #[]) ∧ Keep (fun k => L ≤ k) w w1 := by
  have hh : ∀ b o v, H b o = some v → b < w.heap.size := fun b o v hv => s.lt hv
  obtain ⟨la, Ba, ca, rfl, oa⟩ := outer_of hh ra
  refine (spoil_rows _ a la Ba ca oa w (spw_of s) (fun i y _ hy => (part_cell s hy).2) ha.1 ha.2).mono fun e w1 ⟨he, h1⟩ => ⟨he, ?_⟩
  have k := h1.keep
  exact ⟨k.os, k.tape, k.output, k.size, fun i hi hn => k.block i hi (fun ⟨o, u, hu⟩ => hn (part_cell s hu).1)⟩
theorem tup_new {L : Nat} {H : PH L} {v : Value} {l : List (List Val)} {e : Int} (h : RepP H (.tup [.nsl (nsRows l), .int .i64 e]) v) : ∃ u, v = .tuple #[u, .int .i64 e] ∧ RepP H (.nsl (nsRows l)) u := by
  rw [RepP] at h
  obtain ⟨vs, rfl, h⟩ := h
  rw [RepL] at h
  obtain ⟨u, vs', rfl, h1, h⟩ := h
  rw [RepL] at h
  obtain ⟨u2, vs', rfl, h2, h⟩ := h
  rw [RepL] at h
  subst h
  simp only [RepP] at h2
  subst h2
  exact ⟨u, rfl, h1⟩
theorem tup_old {L : Nat} {H : PH L} {v : Value} {l : List (List Val)} {e : Int} (h : RepP H (.tup [.sl (slRows valC l), .int .i64 e]) v) : ∃ u, v = .tuple #[u, .int .i64 e] ∧ RepP H (.sl (slRows valC l)) u := by
  rw [RepP] at h
  obtain ⟨vs, rfl, h⟩ := h
  rw [RepL] at h
  obtain ⟨u, vs', rfl, h1, h⟩ := h
  rw [RepL] at h
  obtain ⟨u2, vs', rfl, h2, h⟩ := h
  rw [RepL] at h
  subst h
  simp only [RepP] at h2
  subst h2
  exact ⟨u, rfl, h1⟩
structure Facts (n : Nat) (l : List (List Val)) (aggs : List (List UInt8)) (a b : List (List Val)) (e : Int) : Prop where
  few : F_L17_few n l ((aggs.length : Nat) : Int) = some true
  known : F_R17_Known n aggs = some true
  copy : F_R17_Copy n l = some l
  gr : F_rows_Group n l aggs = some (a, e)
  rgr : F_R17_Group n l aggs = some (b, e)
  s1 : F_R17_Same n a b = some true
  s3 : F_R17_Same n l l = some true
  works : F_L17_works n = some true
  ba : a.length < 4611686018427387904 ∧ ∀ r ∈ a, vszL r < 4611686018427387904
set_option maxHeartbeats 2000000 in
theorem groups_walk {n : Nat} {l a b : List (List Val)} {aggs : List (List UInt8)} {e0 : Int} (f : Facts n l aggs a b e0) {Lw : Nat} {H : PH Lw} {w : World} {vl va : Value} (hs : SatH H w) (rl : RepP H (.sl (slRows valC l)) vl) (ra : RepP H (.sl (strs aggs)) va) :
    Calls Tryz.prog 3 #[vl, va] w fun e w' => e = .returned (.bool true) ∧ Below w.heap.size w w' := by
  have e4 : Ax.Enters Tryz.prog 4 := fun _ _ => Tryz.call4 _ _
  have e5 : Ax.Enters Tryz.prog 5 := fun _ _ => Tryz.call5 _ _
  have e6 : Ax.Enters Tryz.prog 6 := fun _ _ => Tryz.call6 _ _
  have e7 : Ax.Enters Tryz.prog 7 := fun _ _ => Tryz.call7 _ _
  have e8 : Ax.Enters Tryz.prog 8 := fun _ _ => Tryz.call8 _ _
  have e9 : Ax.Enters Tryz.prog 9 := fun _ _ => Tryz.call9 _ _
  have e10 : Ax.Enters Tryz.prog 10 := fun _ _ => Tryz.call10 _ _
  obtain ⟨ap, ac, rfl⟩ := sl_form ra
  rw [strs_length] at ra ⊢
  go_enter Tryz.func3, Tryz.ntmps3
  go_wp2_with (first
    | (go_at_call 4; refine ((F_L17_few_ok n _ _ _ f.few).calls e4 hs (vs := [vl, .int .i64 ((aggs.length : Nat) : Int)]) (by simp only [RepL]; exact ⟨_, _, rfl, rl, _, _, rfl, by simp only [RepP], rfl⟩)).mono ?_; rintro e w1 ⟨v, H1, rfl, k1, r1⟩; simp only [RepP] at r1; subst r1)
    | (go_at_call 5; refine ((F_R17_Known_ok n _ _ f.known).calls e5 k1.sat (vs := [.slice ap aggs.length ac]) (by simp only [RepL]; exact ⟨_, _, rfl, RepP.mono k1.le ra, rfl⟩)).mono ?_; rintro e w2 ⟨v, H2, rfl, k2, r2⟩; simp only [RepP] at r2; subst r2)
    | (go_at_call 7; refine ((F_R17_Copy_ok n _ _ f.copy).calls e7 k2.sat (vs := [vl]) (by simp only [RepL]; exact ⟨_, _, rfl, RepP.mono (k1.le.trans k2.le) rl, rfl⟩)).mono ?_; rintro e w3 ⟨vo, H3, rfl, k3, r3⟩; have q3 := (k1.keep.trans k2.keep).trans k3.keep; have t3 := sat_top k3.sat; have l3 := RepP.mono ((k1.le.trans k2.le).trans k3.le) rl; have a3 := RepP.mono ((k1.le.trans k2.le).trans k3.le) ra; have o3 := rep_again (Lb := w3.heap.size) (H' := H3) (fun _ _ _ h => h) r3; have m3 := rep_again (Lb := w3.heap.size) (H' := H3) (fun _ _ _ h => h) l3; have s3 := rep_strs (Lb := w3.heap.size) (H' := H3) (fun _ _ _ h => h) a3; clear k1 k2 k3)
    | (go_at_call 8; refine ((F_rows_Group_new n _ _ _ f.gr).calls e8 t3 (vs := [vo, .slice ap aggs.length ac]) (by simp only [RepL]; exact ⟨_, _, rfl, o3, _, _, rfl, s3, rfl⟩)).mono ?_; rintro e w4 ⟨vt, H4, rfl, k4, r4⟩; obtain ⟨u4, rfl, p4⟩ := tup_new r4)
    | (go_at_call 9; refine ((F_R17_Group_ok n _ _ _ f.rgr).calls e9 k4.sat (vs := [vl, .slice ap aggs.length ac]) (by simp only [RepL]; exact ⟨_, _, rfl, RepP.mono k4.le m3, _, _, rfl, RepP.mono k4.le s3, rfl⟩)).mono ?_; rintro e w5 ⟨vt5, H5, rfl, k5, r5⟩; obtain ⟨u5, rfl, p5⟩ := tup_old r5)
    | (go_at_call 10; refine ((F_R17_Same_ok n _ _ _ f.s3).calls e10 t7 (vs := [vo, vl]) (by simp only [RepL]; exact ⟨_, _, rfl, o3, _, _, rfl, m3, rfl⟩)).mono ?_; rintro e w8 ⟨v, H8, rfl, k8, r8⟩; simp only [RepP] at r8; subst r8; have done8 := k8.keep)
    | (go_at_call 10; refine ((F_R17_Same_ok n _ _ _ f.s1).calls e10 k5.sat (vs := [u4, u5]) (by simp only [RepL]; exact ⟨_, _, rfl, RepP.mono k5.le (rep_plain (fun _ _ _ h => h) p4), _, _, rfl, p5, rfl⟩)).mono ?_; rintro e w6 ⟨v, H6, rfl, k6, r6⟩; simp only [RepP] at r6; subst r6; have z6 := spoil_one k6.sat (RepP.mono (k5.le.trans k6.le) p4) f.ba; have q6 := (k4.keep.trans k5.keep).trans k6.keep; clear k4 k5 k6)
    | (go_at_call 11; refine z6.mono ?_; rintro e w7 ⟨rfl, z7⟩; clear z6; have b7 : ∀ k, k < w3.heap.size → w7.heap[k]? = w3.heap[k]? := fun k hk => (z7.block k (Nat.lt_of_lt_of_le hk q6.size) (by omega)).trans (q6.block k hk id); have t7 := SatH.block t3 (Nat.le_trans q6.size z7.size) (fun b o v hv => b7 b (t3.lt hv)))
    | (go_at_call 6; refine ((F_L17_works_ok n _ f.works).calls e6 k8.sat (vs := []) (by simp only [RepL])).mono ?_; rintro e w9 ⟨v, H9, rfl, k9, r9⟩; simp only [RepP] at r9; subst r9))
  go_ret
  have s7 := Nat.le_trans q6.size z7.size
  have h9 : ∀ k, k < w3.heap.size → w9.heap[k]? = w3.heap[k]? := fun k hk =>
    (k9.keep.block k (Nat.lt_of_lt_of_le (Nat.lt_of_lt_of_le hk s7) k8.keep.size) id).trans ((k8.keep.block k (Nat.lt_of_lt_of_le hk s7) id).trans (b7 k hk))
  refine ⟨rfl, ?_, ?_, ?_, ?_, fun k hk => (h9 k (Nat.lt_of_lt_of_le hk q3.size)).trans (q3.block k hk id)⟩
  · exact k9.keep.os.trans (k8.keep.os.trans (z7.os.trans (q6.os.trans q3.os)))
  · exact k9.keep.tape.trans (k8.keep.tape.trans (z7.tape.trans (q6.tape.trans q3.tape)))
  · exact k9.keep.output.trans (k8.keep.output.trans (z7.output.trans (q6.output.trans q3.output)))
  · exact Nat.le_trans (Nat.le_trans (Nat.le_trans q3.size s7) k8.keep.size) k9.keep.size
set_option maxHeartbeats 1000000 in
theorem groups_many {n : Nat} {l : List (List Val)} {aggs : List (List UInt8)} (ff : F_L17_few n l ((aggs.length : Nat) : Int) = some false) (fk : F_L17_works n = some true) {Lw : Nat} {H : PH Lw} {w : World} {vl va : Value} (hs : SatH H w) (rl : RepP H (.sl (slRows valC l)) vl) (ra : RepP H (.sl (strs aggs)) va) :
    Calls Tryz.prog 3 #[vl, va] w fun e w' => e = .returned (.bool true) ∧ Below w.heap.size w w' := by
  have e4 : Ax.Enters Tryz.prog 4 := fun _ _ => Tryz.call4 _ _
  have e6 : Ax.Enters Tryz.prog 6 := fun _ _ => Tryz.call6 _ _
  obtain ⟨ap, ac, rfl⟩ := sl_form ra
  rw [strs_length] at ra ⊢
  go_enter Tryz.func3, Tryz.ntmps3
  go_wp2_with (first
    | (go_at_call 4; refine ((F_L17_few_ok n _ _ _ ff).calls e4 hs (vs := [vl, .int .i64 ((aggs.length : Nat) : Int)]) (by simp only [RepL]; exact ⟨_, _, rfl, rl, _, _, rfl, by simp only [RepP], rfl⟩)).mono ?_; rintro e w1 ⟨v, H1, rfl, k1, r1⟩; simp only [RepP] at r1; subst r1)
    | (go_at_call 6; refine ((F_L17_works_ok n _ fk).calls e6 k1.sat (vs := []) (by simp only [RepL])).mono ?_; rintro e w3 ⟨v, H3, rfl, k3, r3⟩; simp only [RepP] at r3; subst r3))
  go_ret
  exact ⟨rfl, (k1.trans k3).below⟩
set_option maxHeartbeats 1000000 in
theorem groups_strange {n : Nat} {l : List (List Val)} {aggs : List (List UInt8)} (ff : F_L17_few n l ((aggs.length : Nat) : Int) = some true) (fn : F_R17_Known n aggs = some false) (fk : F_L17_works n = some true) {Lw : Nat} {H : PH Lw} {w : World} {vl va : Value} (hs : SatH H w) (rl : RepP H (.sl (slRows valC l)) vl) (ra : RepP H (.sl (strs aggs)) va) :
    Calls Tryz.prog 3 #[vl, va] w fun e w' => e = .returned (.bool true) ∧ Below w.heap.size w w' := by
  have e4 : Ax.Enters Tryz.prog 4 := fun _ _ => Tryz.call4 _ _
  have e5 : Ax.Enters Tryz.prog 5 := fun _ _ => Tryz.call5 _ _
  have e6 : Ax.Enters Tryz.prog 6 := fun _ _ => Tryz.call6 _ _
  obtain ⟨ap, ac, rfl⟩ := sl_form ra
  rw [strs_length] at ra ⊢
  go_enter Tryz.func3, Tryz.ntmps3
  go_wp2_with (first
    | (go_at_call 4; refine ((F_L17_few_ok n _ _ _ ff).calls e4 hs (vs := [vl, .int .i64 ((aggs.length : Nat) : Int)]) (by simp only [RepL]; exact ⟨_, _, rfl, rl, _, _, rfl, by simp only [RepP], rfl⟩)).mono ?_; rintro e w1 ⟨v, H1, rfl, k1, r1⟩; simp only [RepP] at r1; subst r1)
    | (go_at_call 5; refine ((F_R17_Known_ok n _ _ fn).calls e5 k1.sat (vs := [.slice ap aggs.length ac]) (by simp only [RepL]; exact ⟨_, _, rfl, RepP.mono k1.le ra, rfl⟩)).mono ?_; rintro e w2 ⟨v, H2, rfl, k2, r2⟩; simp only [RepP] at r2; subst r2)
    | (go_at_call 6; refine ((F_L17_works_ok n _ fk).calls e6 k2.sat (vs := []) (by simp only [RepL])).mono ?_; rintro e w3 ⟨v, H3, rfl, k3, r3⟩; simp only [RepP] at r3; subst r3))
  go_ret
  exact ⟨rfl, ((k1.trans k2).trans k3).below⟩
end W
end
section
open Go Go.Proofs Ax Go.RowKit
namespace W
set_option maxRecDepth 10000
open Classical
theorem copy3_id:∀ n:Nat,n ≤ 1073741824 → ∀ v:Val,vbig v < n → F_R03_Copy n v = some v:=by
 intro n
 induction n with
 | zero=>intro _ _ h; omega
 | succ n ih =>
  intro hn v hv
  obtain ⟨x1,x2,x3,x4,x5,x6⟩:=v
  have hb:vbigL x5 < n ∧ x6.length < n:=by
   have:=nbig_len x6
   simp only [nbig] at this
   simp only [vbig] at hv
   omega
  have hl:=vbigL_len x5
  have loop:∀ (m i:Nat),i ≤ x5.length → x5.length - i < m → loopK (F_R03_Copy_l1 n x5 (F_R03_Copy n) x6 x1 x2 x3 x4) m (x5.take i,(i:Int)) = some (Val.mk x1 x2 x3 x4 x5 x6):=by
   intro m
   induction m with
   | zero=>intro i _ h; omega
   | succ m ihm =>
    intro i hi hm
    rw [loopK_succ]
    generalize loopK (F_R03_Copy_l1 n x5 (F_R03_Copy n) x6 x1 x2 x3 x4) m = nx at ihm ⊢
    unfold F_R03_Copy_l1
    simp only [valRows_len]
    by_cases hlt:i < x5.length
    ·obtain ⟨x,hx⟩:∃ x,x5[i]? = some x:=⟨_,List.getElem?_eq_getElem hlt⟩
     have hc:=ih (by omega) x (by have:=vbigL_mem (List.mem_of_getElem? hx); omega)
     obtain ⟨a1,a2,a3,a4,a5,a6⟩:=x
     rw [decide_eq_true (show (i:Int) < (x5.length:Int) by omega)]
     have e:x5.take i ++ [Val.mk a1 a2 a3 a4 a5 a6] = x5.take (i + 1):=by rw [List.take_add_one,hx]; rfl
     simp only [cond_true,Ax.idx_nat,hx,bnd_eq,hc,e]
     rw [chk_dec (by rw [List.length_take]; omega),wrapN (by omega)]
     exact ihm (i + 1) (by omega) (by omega)
    ·rw [decide_eq_false (show ¬ (i:Int) < (x5.length:Int) by omega)]
     simp only [cond_false]
     rw [chk_dec (by simp only [strs,List.length_map]; omega),List.take_of_length_le (by omega)]
  exact loop n 0 (Nat.zero_le _) (by omega)
theorem copy17_id {n:Nat} (hn:n ≤ 1073741824) {l:List (List Val)} (hs:60 * rbig l + 1000 < n):F_R17_Copy n l = some l:=by
 have hll:=rbig_len l
 have loop:∀ (m i:Nat),i ≤ l.length → l.length - i < m → loopK (F_R17_Copy_l1 n l) m (l.take i,(i:Int)) = some l:=by
  intro m
  induction m with
  | zero=>intro i _ h; omega
  | succ m ih =>
   intro i hi hm
   rw [loopK_succ]
   generalize loopK (F_R17_Copy_l1 n l) m = nx at ih ⊢
   unfold F_R17_Copy_l1
   simp only [slen]
   by_cases hlt:i < l.length
   ·obtain ⟨r,hr⟩:∃ x,l[i]? = some x:=⟨_,List.getElem?_eq_getElem hlt⟩
    have hb:=rbig_mem (List.mem_of_getElem? hr)
    have h3:=vbigL3 r
    have h4:=vbigL_len r
    rw [decide_eq_true (show (i:Int) < (l.length:Int) by omega)]
    simp only [cond_true]
    have inner:∀ (m j:Nat),j ≤ r.length → r.length - j < m → loopK (F_R17_Copy_l2 n l (i:Int) (l.take i) nx) m (r.take j,(j:Int)) = nx (l.take (i + 1),((i + 1:Nat):Int)):=by
     intro m
     induction m with
     | zero=>intro j _ h; omega
     | succ m ihm =>
      intro j hj hm
      rw [loopK_succ]
      generalize loopK (F_R17_Copy_l2 n l (i:Int) (l.take i) nx) m = nx2 at ihm ⊢
      unfold F_R17_Copy_l2
      simp only [Ax.idx_nat,hr,bnd_eq,valRows_len]
      by_cases hjt:j < r.length
      ·obtain ⟨x,hx⟩:∃ x,r[j]? = some x:=⟨_,List.getElem?_eq_getElem hjt⟩
       have hc:=copy3_id n hn x (by have:=vbigL_mem (List.mem_of_getElem? hx); omega)
       obtain ⟨a1,a2,a3,a4,a5,a6⟩:=x
       rw [decide_eq_true (show (j:Int) < (r.length:Int) by omega)]
       have e:r.take j ++ [Val.mk a1 a2 a3 a4 a5 a6] = r.take (j + 1):=by rw [List.take_add_one,hx]; rfl
       simp only [cond_true,hx,bnd_eq,hc,e]
       rw [chk_dec (by rw [List.length_take]; omega),wrapN (by omega)]
       exact ihm (j + 1) (by omega) (by omega)
      ·rw [decide_eq_false (show ¬ (j:Int) < (r.length:Int) by omega)]
       simp only [cond_false]
       have ej:r.take j = r:=List.take_of_length_le (by omega)
       rw [ej]
       have e:l.take i ++ [r] = l.take (i + 1):=by rw [List.take_add_one,hr]; rfl
       rw [e,slen,chk_dec (by rw [List.length_take]; omega),wrapN (by omega)]
    have:=inner n 0 (Nat.zero_le _) (by omega)
    simp only [List.take_zero] at this
    show loopK (F_R17_Copy_l2 n l (i:Int) (l.take i) nx) n ([],((0:Nat):Int)) = _
    rw [this]
    exact ih (i + 1) (by omega) (by omega)
   ·rw [decide_eq_false (show ¬ (i:Int) < (l.length:Int) by omega)]
    simp only [cond_false]
    rw [List.take_of_length_le (by omega)]
 exact loop n 0 (Nat.zero_le _) (by omega)
mutual
theorem vsz_le:∀ v:Val,vsz v ≤ vbig v
 | .mk _ _ _ _ l ks=>by
  have h1:=vszL_le l
  have h2:=nbig_len ks
  simp only [nbig] at h2
  simp only [vsz,vbig]
  omega
theorem vszL_le:∀ l:List Val,vszL l ≤ vbigL l
 | []=>by simp [vszL]
 | v :: l=>by
  have h1:=vsz_le v
  have h2:=vszL_le l
  simp only [vszL,vbigL]
  omega
end
theorem works_run (m:Nat):F_L17_works (m + 60) = some true:=by kernel_rfl
theorem sameListW {n:Nat} (hn:n ≤ 1073741824) {r s:List Val} (hs:vbigL r < n):F_R03_SameList n r s = some (decide (r = s)):=by
 obtain ⟨b,h1,h2⟩:=(r03_same n hn).2 r s hs
 rw [h1]
 congr 1
 rw [Bool.eq_iff_iff,h2]
 simp
theorem same_eqW {n:Nat} (hn:n ≤ 1073741824) {a b:List (List Val)} (hs:∀ r ∈ a,vbigL r < n) (ha:a.length < n):F_R17_Same n a b = some (decide (a = b)):=by
 unfold F_R17_Same
 simp only [slen]
 by_cases hl:a.length = b.length
 ·have e:(((a.length:Nat):Int) != ((b.length:Nat):Int)) = false:=by simp [hl]
  rw [e,cond_false]
  have loop:∀ m i:Nat,i ≤ a.length → a.length - i < m → loopK (F_R17_Same_l1 n a b) m (i:Int) = some (decide (a.drop i = b.drop i)):=by
   intro m
   induction m with
   | zero=>intro i _ h; omega
   | succ m ih =>
    intro i hi hm
    rw [loopK_succ]
    generalize loopK (F_R17_Same_l1 n a b) m = nx at ih ⊢
    unfold F_R17_Same_l1
    simp only [slen]
    by_cases hlt:i < a.length
    ·obtain ⟨r,hr⟩:∃ x,a[i]? = some x:=⟨_,List.getElem?_eq_getElem hlt⟩
     obtain ⟨s,hs'⟩:∃ x,b[i]? = some x:=⟨_,List.getElem?_eq_getElem (by omega)⟩
     have hd:a.drop i = r :: a.drop (i + 1):=by
      obtain ⟨_,e⟩:=List.getElem?_eq_some_iff.1 hr
      rw [List.drop_eq_getElem_cons hlt,e]
     have hd':b.drop i = s :: b.drop (i + 1):=by
      obtain ⟨_,e⟩:=List.getElem?_eq_some_iff.1 hs'
      rw [List.drop_eq_getElem_cons (by omega),e]
     rw [decide_eq_true (show (i:Int) < (a.length:Int) by omega),hd,hd']
     simp only [cond_true,Ax.idx_nat,hr,hs',bnd_eq,sameListW hn (hs r (List.mem_of_getElem? hr))]
     by_cases hrs:r = s
     ·subst hrs
      simp only [decide_true,Bool.not_true,cond_false]
      rw [wrapN (by omega),ih (i + 1) (by omega) (by omega)]
      simp
     ·simp only [decide_eq_false hrs,Bool.not_false,cond_true]
      simp [hrs]
    ·rw [decide_eq_false (show ¬ (i:Int) < (a.length:Int) by omega),List.drop_eq_nil_of_le (by omega),List.drop_eq_nil_of_le (by omega)]
     simp
  simpa using loop n 0 (Nat.zero_le _) (by omega)
 ·have e:(((a.length:Nat):Int) != ((b.length:Nat):Int)) = true:=by simp; omega
  rw [e,cond_true]
  rw [decide_eq_false (fun h:a = b=>hl (by rw [h]))]
theorem known_eq {n:Nat} (hn:n ≤ 1073741824) {aggs:List (List UInt8)} (ha:aggs.length < n):∃ b,F_R17_Known n aggs = some b ∧ (b = true → ∀ a ∈ aggs,a ∈ knownA):=by
 have loop:∀ (m i:Nat),i ≤ aggs.length → aggs.length - i < m → ∃ b,loopK (F_R17_Known_l1 n aggs) m (i:Int) = some b ∧ (b = true → ∀ a ∈ aggs.drop i,a ∈ knownA):=by
  intro m
  induction m with
  | zero=>intro i _ h; omega
  | succ m ih =>
   intro i hi hm
   rw [loopK_succ]
   generalize loopK (F_R17_Known_l1 n aggs) m = nx at ih ⊢
   unfold F_R17_Known_l1
   simp only [strs_len]
   by_cases hlt:i < aggs.length
   ·obtain ⟨a,ha'⟩:∃ x,aggs[i]? = some x:=⟨_,List.getElem?_eq_getElem hlt⟩
    rw [decide_eq_true (show (i:Int) < (aggs.length:Int) by omega),drop_head ha']
    simp only [cond_true,Ax.idx_nat,ha',bnd_eq]
    have go:a ∈ knownA → ∃ b,F_R17_Known_k3 n nx (i:Int) true = some b ∧ (b = true → ∀ x ∈ a :: aggs.drop (i + 1),x ∈ knownA):=fun hk=>by
     obtain ⟨b,h1,h2⟩:=ih (i + 1) (by omega) (by omega)
     refine ⟨b,?_,fun hb x hx=>?_⟩
     ·unfold F_R17_Known_k3
      simp only [cond_true]
      rw [wrapN (by omega)]
      exact h1
     ·rcases List.mem_cons.1 hx with rfl | hx
      ·exact hk
      ·exact h2 hb x hx
    cases e1:a == ([]:List UInt8) with
    | true=>obtain rfl:=eq_of_beq e1; exact go (by simp [knownA])
    | false =>
    cases e2:a == ([99,111,117,110,116]:List UInt8) with
    | true=>obtain rfl:=eq_of_beq e2; exact go (by simp [knownA])
    | false =>
    cases e3:a == ([115,117,109]:List UInt8) with
    | true=>obtain rfl:=eq_of_beq e3; exact go (by simp [knownA])
    | false =>
    cases e4:a == ([109,105,110]:List UInt8) with
    | true=>obtain rfl:=eq_of_beq e4; exact go (by simp [knownA])
    | false =>
    cases e5:a == ([109,97,120]:List UInt8) with
    | true=>obtain rfl:=eq_of_beq e5; exact go (by simp [knownA])
    | false =>
    simp only [cond_false]
    cases e6:a == ([99,111,108,108,101,99,116]:List UInt8) with
    | true=>obtain rfl:=eq_of_beq e6; exact go (by simp [knownA])
    | false=>exact ⟨false,rfl,fun h=>by cases h⟩
   ·rw [decide_eq_false (show ¬ (i:Int) < (aggs.length:Int) by omega),List.drop_eq_nil_of_le (by omega)]
    exact ⟨true,rfl,fun _ a ha=>by cases ha⟩
 obtain ⟨b,h1,h2⟩:=loop n 0 (Nat.zero_le _) (by omega)
 exact ⟨b,h1,by simpa using h2⟩
theorem law_groups {n:Nat} (hN:n ≤ 1000000000) {l:List (List Val)} {aggs:List (List UInt8)} (hs:60 * rbig l + 1000 < n) (ha:10 * (aggs.length + rbig l) + 1000 < n) (hrg:rangeR l = true) {Lw:Nat} {H:PH Lw} {w:World} {vl va:Value} (h1:SatH H w) (h2:RepP H (.sl (slRows valC l)) vl) (h3:RepP H (.sl (strs aggs)) va) :
  Calls Tryz.prog 3 #[vl,va] w fun e w'=>e = .returned (.bool true) ∧ Below w.heap.size w w':=by
 have hn:n ≤ 1073741824:=by omega
 have hrl:=rbig_len l
 have hw:F_L17_works n = some true:=by
  obtain ⟨k,rfl⟩:∃ k,n = k + 60:=⟨n - 60,by omega⟩
  exact works_run k
 obtain ⟨b,f1,f2⟩:=few_eq hn aggs.length hs (by omega) hrg
 cases b with
 | false=>exact groups_many f1 hw h1 h2 h3
 | true =>
  obtain ⟨hl,ok⟩:=f2 rfl
  obtain ⟨b,g1,g2⟩:=known_eq hn (aggs:=aggs) (by omega)
  cases b with
  | false=>exact groups_strange f1 g1 hw h1 h2 h3
  | true =>
   have inp:Inp n aggs l:=⟨by omega,hN,ok,by omega,g2 rfl⟩
   obtain ⟨_,hkl,a,e,t1,t2,t3,t4⟩:=group_all inp hl
   have hr:=rgroup_eq inp hl
   rw [t2] at hr
   have hb:∀ r ∈ a,vbigL r < n:=fun r hr=>by
    have:=t4 r hr
    have:=vbigL3 r
    omega
   have hb2:∀ r ∈ l,vbigL r < n:=fun r hr=>by
    have:=rbig_mem hr
    have:=vbigL3 r
    omega
   exact groups_walk { few:=f1,known:=g1,copy:=copy17_id hn hs,gr:=t1,rgr:=hr,works:=hw,s1:=(by rw [same_eqW hn hb (by omega)]; simp),s3:=(by rw [same_eqW hn hb2 (by omega)]; simp),ba:=⟨by omega,fun r hr=>by have:=hb r hr; have:=vszL_le r; omega⟩ } h1 h2 h3
end W
end
section
namespace W
open Go Go.Proofs Ax Go.RowKit Go.ChangeShapes Go.WideShapes Go.ChangeAt
open Go.Proofs.YtajcpfcghhbbnaaGreatDoor Go.ChangeMaps
set_option maxRecDepth 100000 in
theorem contract3 (H:Type) (enc:TypeId × Value → H) (W:World) (base:Nat) (args:Array Value) (ds gs:List (DataW H)) (before:List MemPlace)
  (hval:∀ (j:Nat) t v,Tryz.f3.params[j]? = some t → args[j]? = some v → Value.okWide Tryz.prog W .any base t v)
  (hW:DataW.Whole enc Tryz.prog Tryz.f3.params.toList Rows.rowsGroupsSpec.vars false W args.toList ds gs before) (hk:Rows.uptoSmall H (ds ++ gs) = true) (hsh:W.ShapedOpen Tryz.prog) :
  Calls Tryz.prog 3 args W fun e W'=>∃ v,e = .returned v ∧ Rows.rowsGroupsSpec.post enc Tryz.prog Tryz.f3 false true false false W args v W':=by
 have hW':=hW
 obtain ⟨p,q,hA,hV,rfl,hfz,hnd⟩:=hW
 rw [Tryz.params3] at hA hval
 obtain ⟨v0,vs0,d0,ds0,p0,q0,hargs0,rfl,rfl,h0,r0⟩:=trodAll_cons hA
 obtain ⟨v1,vs1,d1,ds1,p1,q1,hargs1,rfl,rfl,h1,r1⟩:=trodAll_cons r0
 obtain ⟨rfl,rfl,rfl⟩:=trodAll_nil r1
 subst hargs1
 obtain ⟨x0,rx0,bx0,ix0⟩:=reads_argRows (hval 0 22 v0 rfl (by have:=congrArg (fun l=>l[0]?) hargs0; simpa using this)) h0
 obtain ⟨x1,rx1,bx1⟩:=reads_argStrs (hval 1 23 v1 rfl (by have:=congrArg (fun l=>l[1]?) hargs0; simpa using this)) h1
 have hb:=of_decide_eq_true hk
 simp only [List.cons_append,Rows.uptoBulkAll] at hb
 have hc:=law_groups (n:=67108864) (w:=W) (H:=heapH W) (by omega) (l:=x0) (aggs:=x1) (by omega) (by omega) ix0 (heapH_sat (root hsh)) rx0 rx1
 have ea:args = #[v0,v1]:=by rw [← Array.toList_inj,hargs0]
 rw [ea]
 refine hc.mono fun e W' ⟨he,c⟩=>⟨.bool true,he,?_⟩
 obtain ⟨-,rfl⟩:True ∧ gs = []:=⟨trivial,by obtain ⟨h1,h2⟩:=trodVars_none hV; first | exact h1 | exact h2⟩
 exact post_law (tb:=4) laidOut (by kernel_rfl) (ea ▸ hW') c rfl rfl (by kernel_rfl) Tryz.underlying4
theorem laid_met3 (os:Os):laidMet Tryz.prog Rows.rowsGroupsUptoRow.laid ((laidWorld os).forCall (fun _ _=>0) ⟨#[],#[V0,V0],[]⟩).memory :=
 laidMet_of_run' 8 (by kernel_rfl) (by kernel_rfl)
theorem reads3 (os:Os) {H:Type} (enc:TypeId × Value → H):∃ places,DataW.whole enc Tryz.prog ((laidWorld os).forCall (fun _ _=>0) ⟨#[],#[V0,V0],[]⟩).memory Tryz.f3.params.toList Rows.rowsGroupsSpec.vars false #[V0,V0].toList 8 = some ([D0 H,D0 H],[],places) :=
 ⟨[],by kernel_rfl⟩
set_option maxRecDepth 100000 in
theorem lifted3 (os:Os) (started:os.Started) (H:Type) (enc:TypeId × Value → H) (F:Stop.Interp) :
  ReturnsInHanded {} Tryz.checked os 3 .any ((Rows.OpenSpec.upto Rows.rowsGroupsSpec).preRow enc Tryz.prog Tryz.f3 Rows.rowsGroupsUptoRow.domain false Rows.rowsGroupsUptoRow.laid) (((Rows.OpenSpec.upto Rows.rowsGroupsSpec).at F).post enc Tryz.prog Tryz.f3 false true false false):=by
 obtain ⟨places,hx⟩:=reads3 os enc
 refine returnsInHanded_of_row (C:=Tryz.checked) (s:=Rows.OpenSpec.upto Rows.rowsGroupsSpec) own started (by kernel_rfl) Tryz.func3
  (witness_row_at (enc:=enc) (C:=Tryz.checked) false (laidWorld os) #[V0,V0] rfl (by kernel_rfl) (by kernel_rfl) (by kernel_rfl)
   (OpenSpec.preRow_of_cond 8 hx (by kernel_rfl) (fun k hk=>by cases hk; kernel_rfl) (by kernel_rfl) (laid_met3 os))) ?_
 intro W base args ds gs before hval hW _ hcond _ _ hsh _
 exact contract3 H enc W base args ds gs before hval hW (hcond _ rfl) hsh
theorem saidUpto3:Rows.RowsGroupsUptoSaid :=
 OpenClaim.holds_of_cond 3 Tryz.f3 rfl rfl rfl rfl rfl rfl rfl ⟨rfl,rfl,rfl,rfl,rfl⟩ rfl rfl rfl rfl rfl (by kernel_rfl) Tryz.func3 (by kernel_rfl)
  (of_decide_eq_true (by kernel_rfl)) (by unfold Func.isWrapper; first | (rw [if_pos (by decide +kernel)]; kernel_rfl) | (rw [if_neg (by decide +kernel)]; exact ⟨rfl,rfl⟩))
  (fun os started H enc _ F=>by rw [OpenClaim.pre_eq_preRow]; exact lifted3 os started H enc F)
theorem plain3 (f : FuncId) (fn : Func) (hf : Tryz.pinned.checked.prog.funcNamed "wattle/wattlelaw17.RowsGroups" = some f) (hfn : Tryz.pinned.checked.prog.funcs[f]? = some fn) :
  false = Tryz.pinned.checked.prog.looks [] ∧ ∀ (j:Nat) t,fn.params[j]? = some t → Tryz.pinned.checked.prog.wantsStandIn t = false:=by
 obtain rfl : f = 3 := Option.some.inj ((show Tryz.prog.funcNamed "wattle/wattlelaw17.RowsGroups" = some 3 by kernel_rfl).symm.trans hf) |>.symm
 obtain rfl:fn = Tryz.f3:=(Option.some.inj (Tryz.func3.symm.trans hfn)).symm
 refine ⟨by kernel_rfl,fun j t ht=>?_⟩
 rw [Tryz.params3] at ht
 have:=Array.mem_of_getElem? ht
 simp only [List.mem_toArray,List.mem_cons,List.not_mem_nil,or_false] at this
 rcases this with rfl | rfl
 ·exact (show Tryz.prog.wantsStandIn 22 = false by kernel_rfl)
 ·exact (show Tryz.prog.wantsStandIn 23 = false by kernel_rfl)
theorem cardUpto3:Rows.RowsGroupsUptoCardSaid :=
 Claim7.holds_tied_plain_at .later [] _ _ _ _ saidUpto3 (fun _ h=>by cases h) (by kernel_rfl) (fun _ h=>by cases h) rowsGroupsUpto_row_tie rfl ⟨rfl,rfl⟩ (by kernel_rfl) rfl plain3 (by kernel_rfl)
end W
end
