/- A part of the proof. -/
import Derived.Carry
import Derived.ChangeArms
import Derived.ChangeSame
import Derived.DataElems
import Derived.DataReads
import Derived.OpenShut
import Derived.ProofKit
import Derived.Test.YtajcpfcghhbbnaaGreatDoorShelf
import Derived.WalkKit
import Derived.Test.YtajcpfcghhbbnaaGreatDoorB
set_option linter.all false
section
namespace Ax
open Go
variable {Lw:Nat}
def heapH (w:World):PH w.heap.size:=fun b o=>(w.cell? ⟨b,o,none⟩).bind fun v=>bif v.oneCell' then some v else none
theorem heapH_sat {w:World} (h:∃ m,w.cell? ⟨0,0,none⟩ = some (.int .i64 m)):SatH (heapH w) w where
 cell:=fun b o v hv=>by
  unfold heapH at hv
  obtain ⟨u,hu,h1⟩:=Option.bind_eq_some_iff.1 hv
  cases hc:u.oneCell' with
  | false=>rw [hc] at h1; cases h1
  | true=>rw [hc] at h1; cases h1; exact ⟨hu,hc⟩
 root:=by
  obtain ⟨m,hm⟩:=h
  exact ⟨m,by simp [heapH,hm,Value.oneCell']⟩
 low:=Nat.le_refl _
 nf:=fun b o v hv hb=>by
  unfold heapH at hv
  obtain ⟨u,hu,_⟩:=Option.bind_eq_some_iff.1 hv
  have:=World.block_lt_of_cell? w ⟨b,o,none⟩ hu
  exact absurd hb (by simp at this; omega)
theorem heapH_of {w:World} {a:Addr} {v:Value} (h:w.cell? a = some v) (h1:v.oneCell' = true):heapH w a.block a.off = some v:=by
 have hs:a.spot = none:=by
  unfold World.cell? at h
  split at h
  ·cases hsp:a.spot with
   | none=>rfl
   | some s=>rw [hsp] at h; simp at h
  ·cases h
 have:(⟨a.block,a.off,none⟩:Addr) = a:=by cases a; simp only at hs; subst hs; rfl
 unfold heapH
 rw [this,h]
 simp [h1]
theorem cells_get {w:World} {base:Nat} {a:Addr} {n:Nat} {cs:List Value} (h:w.cells? base a n = some cs):cs.length = n ∧ ∀ j,j < n → w.cell? (a.add j) = cs[j]?:=by
 unfold World.cells? at h
 split at h
 ·exact ⟨by simpa using mapM_some_length h,fun j hj=>mapM_some_get h j j (by simp [hj])⟩
 ·cases h
section
variable {Hd:Type} {enc:TypeId × Value → Hd} {P:Program} {w:World}
def ReadsAs {α:Type} (enc:TypeId × Value → Hd) (P:Program) (w:World) (t:TypeId) (n:Nat) (row:α → List PV) (sz:α → Nat) (bulk:DataW Hd → Nat):Prop :=
 ∀ (cs:List Value) (x:DataW Hd × List MemPlace),DataW.trod enc P w 0 (fun _=>true) true n t cs = some x → ∃ v:α,RepL (heapH w) (row v) cs ∧ (∀ u ∈ cs,u.oneCell' = true) ∧ sz v ≤ bulk x.1
theorem rowsR {α:Type} {H:(PH Lw)} {b z:Nat} {row:α → List PV}:∀ (l:List α) (o:Nat) (csOf:Nat → List Value),(∀ v ∈ l,(row v).length = z) →
  (∀ i v,l[i]? = some v → RepL H (row v) (csOf i) ∧ ∀ j u,(csOf i)[j]? = some u → H b (o + i * z + j) = some u) → RepR H b z o (l.map row)
 | [],_,_,_,_=>trivial
 | v :: l,o,csOf,hz,h=>by
  simp only [List.map_cons,RepR]
  refine ⟨hz v (by simp),⟨csOf 0,(h 0 v rfl).1,fun j u hu=>by have:=(h 0 v rfl).2 j u hu; simpa using this⟩,?_⟩
  refine rowsR l (o + z) (fun i=>csOf (i + 1)) (fun v hv=>hz v (by simp [hv])) fun i v' hv'=>?_
  obtain ⟨h1,h2⟩:=h (i + 1) v' (by simpa using hv')
  refine ⟨h1,fun j u hu=>?_⟩
  have:=h2 j u hu
  rw [Nat.add_mul,Nat.one_mul] at this
  have e:o + (i * z + z) + j = o + z + i * z + j:=by omega
  rw [← e]; exact this
theorem read_slice {α:Type} [Inhabited α] {t e:TypeId} {z fuel:Nat} {row:α → List PV} {sz:α → Nat} {bulk:DataW Hd → Nat} (ht:P.underlying t = some (.slice e)) (hz:P.cellsOf e = z) (hz1:1 ≤ z)
  (hrow:∀ v,(row v).length = z) (hel:∀ n,n < fuel → ReadsAs enc P w e n row sz bulk) {cs:List Value} {x:DataW Hd × List MemPlace} (h:DataW.trod enc P w 0 (fun _=>true) true fuel t cs = some x) :
  ∃ (l:List α) (v:Value),cs = [v] ∧ v.oneCell' = true ∧ RepP (heapH w) (.sl (l.map row)) v ∧
   ((x.1 = .nil ∧ l = []) ∨ ∃ elems rest,x.1 = .slice elems rest ∧ l.length = elems.length ∧ ∀ (i:Nat) (d:DataW Hd) (v:α),elems[i]? = some d → l[i]? = some v → sz v ≤ bulk d):=by
 rcases DataW.trod_slice ht h with ⟨rfl,rfl⟩ | ⟨a,len,cap,elems,rest,n,rfl,rfl,rfl,_,hlc,_,hlen,hget,_,_⟩
 ·exact ⟨[],_,rfl,rfl,by simp [RepP],.inl ⟨rfl,rfl⟩⟩
 ·have hx:∀ i,i < len → ∃ (v:α) (cs:List Value) (d:DataW Hd × List MemPlace),elems[i]? = some d ∧ RepL (heapH w) (row v) cs ∧ (∀ j u,cs[j]? = some u → heapH w a.block (a.off + i * z + j) = some u) ∧ sz v ≤ bulk d.1:=by
   intro i hi
   have h1:=hget i hi
   obtain ⟨d,hd⟩:∃ d,elems[i]? = some d:=⟨_,List.getElem?_eq_getElem (by omega)⟩
   rw [hd] at h1
   obtain ⟨cs,hcs,htr⟩:=Option.bind_eq_some_iff.1 h1
   obtain ⟨v,r,hone,hs⟩:=hel n (Nat.lt_succ_self n) cs d htr
   refine ⟨v,cs,d,hd,r,fun j u hu=>?_,hs⟩
   obtain ⟨hl,hc⟩:=cells_get hcs
   have hj:j < P.cellsOf e:=by have:=(List.getElem?_eq_some_iff.1 hu).1; omega
   have h2:=hc j hj
   rw [hu,Addr.add_add] at h2
   have:=heapH_of h2 (hone u (List.mem_of_getElem? hu))
   rw [hz] at this
   have eb:(a.add (i * z + j)).block = a.block:=by unfold Addr.add; split <;> rfl
   have eo:(a.add (i * z + j)).off = a.off + i * z + j:=by unfold Addr.add; split <;> (try simp only) <;> omega
   rw [eb,eo] at this
   exact this
  have spot:len ≠ 0 → a.spot = none:=by
   intro h0
   have h1:=hget 0 (by omega)
   obtain ⟨d,hd⟩:∃ d,elems[0]? = some d:=⟨_,List.getElem?_eq_getElem (by omega)⟩
   rw [hd] at h1
   obtain ⟨cs,hcs,_⟩:=Option.bind_eq_some_iff.1 h1
   obtain ⟨hl,hc⟩:=cells_get hcs
   have h2:=hc 0 (by omega)
   rw [Nat.zero_mul,Addr.add_zero',Addr.add_zero'] at h2
   cases hu:cs[0]? with
   | none=>have:=List.getElem?_eq_none_iff.1 hu; omega
   | some u =>
    rw [hu] at h2
    unfold World.cell? at h2
    split at h2
    ·cases hsp:a.spot with
     | none=>rfl
     | some s=>rw [hsp] at h2; simp at h2
    ·cases h2
  let f:Nat → α:=fun i=>if h:i < len then (hx i h).choose else default
  have hf:∀ i,i < len → ∃ (cs:List Value) (d:DataW Hd × List MemPlace),elems[i]? = some d ∧ RepL (heapH w) (row (f i)) cs ∧ (∀ j u,cs[j]? = some u → heapH w a.block (a.off + i * z + j) = some u) ∧ sz (f i) ≤ bulk d.1:=by
   intro i hi
   have:=(hx i hi).choose_spec
   simp only [f,hi,dif_pos]
   exact this
  refine ⟨(List.range len).map f,_,rfl,rfl,?_,.inr ⟨_,_,rfl,by simp [hlen],fun i d v hd hv=>?_⟩⟩
  ·simp only [RepP,List.length_map,List.length_range]
   by_cases h0:len = 0
   ·subst h0
    exact .inl ⟨rfl,.inr ⟨_,_,rfl⟩⟩
   ·refine .inr ⟨a.block,a.off,z,cap,?_,hlc,?_⟩
    ·have:=spot h0
     cases a
     simp only at this
     subst this
     rfl
    ·refine rowsR ((List.range len).map f) a.off (fun i=>if h:i < len then (hf i h).choose else []) (fun v _=>hrow v) fun i v hv=>?_
     simp only [List.getElem?_map,Option.map_eq_some_iff] at hv
     obtain ⟨i',hi',rfl⟩:=hv
     obtain ⟨hlt,e⟩:=List.getElem?_eq_some_iff.1 hi'
     simp at hlt e
     subst e
     obtain ⟨d,hd,hr,hc,_⟩:=(hf i hlt).choose_spec
     simp only [hlt,dif_pos]
     exact ⟨hr,hc⟩
  ·simp only [List.getElem?_map,Option.map_eq_some_iff] at hv hd
   obtain ⟨i',hi',rfl⟩:=hv
   obtain ⟨hlt,e⟩:=List.getElem?_eq_some_iff.1 hi'
   simp at hlt e
   subst e
   obtain ⟨d',hd',rfl⟩:=hd
   obtain ⟨_,d2,hd2,_,_,hs⟩:=hf i hlt
   rw [hd'] at hd2
   cases hd2
   exact hs
end
end Ax
end
section
namespace Ax
open Go Go.RowKit Go.ChangeShapes Go.WideShapes Go.ChangeAt
section
variable {H:Type} {enc:TypeId × Value → H} {P:Program}
theorem trodAll_stays (hl:laidOutB P = true) {W W':World} {sp:Nat → Bool} (hb:Below W.heap.size W W'):∀ {ts:List TypeId} {vs:List Value} {ds:List (DataW H)} {ps:List MemPlace},
  (ts.all fun t=>P.readableRec t && decide (t < P.types.size)) = true → DataW.TrodAll enc P W 0 (fun _=>true) true ts vs ds ps → (∀ p ∈ ps,p.block < W.heap.size) → (∀ p ∈ ps,sp p.block = true) →
  DataW.TrodAll enc P W' 0 sp true ts vs ds ps
 | [],_,_,_,_,h,_,_=>by
  obtain ⟨rfl,rfl,rfl⟩:=trodAll_nil h
  exact trodAll_mk0
 | t :: ts,_,_,_,hr,h,hlt,hs=>by
  obtain ⟨v,vs1,d,ds1,a,b,rfl,rfl,rfl,h1,h2⟩:=trodAll_cons h
  simp only [List.all_cons,Bool.and_eq_true,decide_eq_true_eq] at hr
  exact ⟨a,b,WideElems.Trod_stays hl hr.1.1 hr.1.2 h1 (fun x hx=>hb.same (hlt x (List.mem_append_left _ hx))) (fun x hx=>hs x (List.mem_append_left _ hx)),
   trodAll_stays hl hb hr.2 h2 (fun x hx=>hlt x (List.mem_append_right _ hx)) (fun x hx=>hs x (List.mem_append_right _ hx)),rfl⟩
theorem post_law {f:Func} {s:ChangeSpec} {apart fresh handsOn again:Bool} {W W':World} {args:Array Value} {ds gs:List (DataW H)} {before:List MemPlace} {tb:TypeId} (hl:laidOutB P = true)
  (hr:(f.params.toList.all fun t=>P.readableRec t && decide (t < P.types.size)) = true) (hW:DataW.Whole enc P f.params.toList s.vars apart W args.toList ds gs before) (hb:Below W.heap.size W W') (hvars:s.vars = [])
  (hfn:s.fn H (ds ++ gs) = { results:=[.lit (.bool true)],args:=ds }) (hrt:f.resultTypes = #[tb]) (hbool:P.underlying tb = some .bool):s.post enc P f apart fresh handsOn again W args (.bool true) W':=by
 have hlt:∀ p ∈ before,p.block < W.heap.size:=fun p hp=>by simpa using hW.lt p hp
 have hold:∀ p ∈ before,(fun b=>decide (b < W.heap.size)) p.block = true:=fun p hp=>by simpa using hW.lt p hp
 have hW':=hW
 obtain ⟨p,q,hA,hV,rfl,hz,hn⟩:=hW'
 have hq:q = [] ∧ gs = []:=by
  rw [hvars] at hV
  obtain ⟨h1,h2⟩:=trodVars_none hV
  exact ⟨by first | exact h2 | exact h1,by first | exact h1 | exact h2⟩
 obtain ⟨rfl,rfl⟩:=hq
 simp only [List.append_nil] at *
 have hargs:∀ sp:Nat → Bool,(∀ x ∈ p,sp x.block = true) → DataW.TrodAll enc P W' 0 sp true f.params.toList args.toList ds p:=fun sp hs=>trodAll_stays hl hb hr hA hlt hs
 have hres:∀ (b:Nat) (sp:Nat → Bool) (hd:Bool),DataW.TrodAll enc P W' b sp hd f.resultTypes.toList ((Value.bool true).resultList f.resultTypes.size) (s.fn H ds).results []:=by
  intro b sp hd
  rw [hrt,hfn]
  exact trodAll_cons_mk (shut_bool hbool _) trodAll_mk0
 have hvs:∀ sp:Nat → Bool,DataW.TrodVars enc P W' sp s.vars (s.fn H ds).vars []:=by
  intro sp
  rw [hvars,hfn]
  rfl
 refine ⟨ds,[],p,[],p,[],hW,?_,?_,?_,World.keptBut_mono (fun x hx=>⟨hx,Or.inr (Or.inl hx)⟩) (hb.frame _),fun _=>?_⟩
 ·simpa using hres _ _ _
 ·simp only [List.append_nil]; rw [hfn]; exact hargs _ hold
 ·simpa using hvs _
 ·refine ⟨?_,_,_,([] ++ p) ++ [],⟨[] ++ p,[],trodAll_append (hargs _ (fun _ _=>rfl)) (hres _ _ _),hvs _,rfl,?_,?_⟩,?_⟩
  ·exact ok_one hrt rfl (okWide_bool_mk hbool _)
  ·intro b off hp
   have hp':MemPlace.cell b off ∈ p:=by simpa using hp
   rw [hb.frozen (p:=⟨b,off,none⟩) (hlt _ hp')]
   exact hz b off hp'
  ·intro ha
   simpa using hn ha
  ·intro x hx _
   simpa using hx
end
end Ax
end
section
namespace Ax
open Go Go.RowKit
variable {Lw:Nat}
theorem CallsF.calls {P:Program} {f:FuncId} {args:List PV} {r:PV} (h:CallsF P f args r) (he:Enters P f) {H:(PH Lw)} {w:World} {vs:List Value} (hs:SatH H w) (rl:RepL H args vs) :
  Calls P f vs.toArray w fun e w'=>∃ v H',e = .returned v ∧ Calm H w H' w' ∧ RepP H' r v:=by
 have:=h H w vs hs rl
 rw [he] at this
 exact this.2
theorem Calm.below {H H':(PH Lw)} {w w':World} (c:Calm H w H' w'):Below w.heap.size w w' :=
 ⟨c.keep.os,c.keep.tape,c.keep.output,c.keep.size,fun k hk=>c.keep.block k hk id⟩
theorem rep_agg {H:(PH Lw)} {row:List PV} {v:Value} (h:RepL H row v.cells.toList) (hl:row.length ≠ 1):RepP H (.agg row) v:=by
 have hlen:=h.length
 cases v
 case agg cs=>exact ⟨cs.toList,by simp,h⟩
 all_goals exact absurd hlen.symm hl
def litK:Lit → Value
 | .int k n=>.int k n
 | _=>undef
mutual
def cellsD:DataW Unit → List Value
 | .lit l=>[litK l]
 | .agg ds=>cellsDs ds
 | _=>[]
def cellsDs:List (DataW Unit) → List Value
 | []=>[]
 | d :: ds=>cellsD d ++ cellsDs ds
end
end Ax
end
section
namespace Ax
open Go
section
variable {A R S:Type}
def chk (b:Bool) (k:Option R):Option R:=match b with | true=>k | false=>none
theorem chk_some {b:Bool} {k:Option R} {r:R} (h:chk b k = some r):b = true ∧ k = some r:=by
 cases b with
 | true=>exact ⟨rfl,h⟩
 | false=>cases h
def bnd (o:Option A) (k:A → Option R):Option R:=match o with | some a=>k a | none=>none
theorem bnd_some {o:Option A} {k:A → Option R} {r:R} (h:bnd o k = some r):∃ x,o = some x ∧ k x = some r:=by
 cases o with
 | some a=>exact ⟨a,rfl,h⟩
 | none=>cases h
theorem cond_t {c:Bool} {a b:Option R} {r:R} (h:(bif c then a else b) = some r) (hc:c = true):a = some r:=by subst hc; exact h
theorem cond_f {c:Bool} {a b:Option R} {r:R} (h:(bif c then a else b) = some r) (hc:c = false):b = some r:=by subst hc; exact h
def idx (l:List A) (i:Int):Option A:=if 0 ≤ i then l[i.toNat]? else none
theorem idx_some {l:List A} {i:Int} {x:A} (h:idx l i = some x):0 ≤ i ∧ l[i.toNat]? = some x:=by
 unfold idx at h
 split at h
 ·exact ⟨by assumption,h⟩
 ·cases h
def gsome [Inhabited A] (g:Bool) (o:Option A):Option A:=bif g then o else some default
theorem gsome_some [Inhabited A] {g:Bool} {o:Option A} {x:A} (h:gsome g o = some x) (hg:g = true):o = some x:=by subst hg; exact h
def natI (i:Int):Option Nat:=if 0 ≤ i then some i.toNat else none
theorem natI_some {i:Int} {n:Nat} (h:natI i = some n):i = n:=by
 unfold natI at h
 split at h
 ·cases h; omega
 ·cases h
def u8I (i:Int):Option UInt8:=if 0 ≤ i ∧ i < 256 then some (UInt8.ofNat i.toNat) else none
theorem u8I_some {i:Int} {b:UInt8} (h:u8I i = some b):i = (b.toNat:Int):=by
 unfold u8I at h
 split at h
 ·cases h
  simp only [UInt8.toNat_ofNat']
  omega
 ·cases h
theorem gd {g c:Bool} (h:(bif g then c else true) = true) (hg:g = true):c = true:=by subst hg; exact h
def loopK (B:(S → Option R) → S → Option R):Nat → S → Option R
 | 0,_=>none
 | n + 1,s=>B (loopK B n) s
end
structure Codec (A:Type) where
 cells:A → List PV
 rows:List A → List (List PV)
 z:Nat
 hrows:∀ l,rows l = l.map cells
 hz:∀ a,(cells a).length = z
 hone:∀ a,(cells a).all oneP = true
namespace Codec
variable {A:Type} (C:Codec A)
theorem at_ {l:List A} {i:Int} {x:A} (h:idx l i = some x):0 ≤ i ∧ (C.rows l)[i.toNat]? = some (C.cells x) ∧ (C.cells x).length = C.z:=by
 obtain ⟨h0,h1⟩:=idx_some h
 exact ⟨h0,by rw [C.hrows]; simp [h1],C.hz x⟩
theorem length (l:List A):(C.rows l).length = l.length:=by rw [C.hrows]; simp
theorem append (a b:List A):C.rows a ++ C.rows b = C.rows (a ++ b):=by simp [C.hrows]
theorem take (l:List A) (n:Nat):(C.rows l).take n = C.rows (l.take n):=by simp [C.hrows]
theorem drop (l:List A) (n:Nat):(C.rows l).drop n = C.rows (l.drop n):=by simp [C.hrows]
theorem cut (l:List A) (n m:Nat):((C.rows l).take n).drop m = C.rows ((l.take n).drop m):=by simp [C.hrows]
theorem dropAll (l:List A) (m:Nat):((C.rows l).take (C.rows l).length).drop m = C.rows (l.drop m):=by rw [List.take_length,C.drop]
theorem wide (l:List A):∀ r ∈ C.rows l,r.length = C.z:=by
 intro r hr
 rw [C.hrows] at hr
 obtain ⟨a,_,rfl⟩:=List.mem_map.1 hr
 exact C.hz a
theorem one (l:List A):∀ r ∈ C.rows l,r.length = C.z ∧ r.all oneP = true:=by
 intro r hr
 rw [C.hrows] at hr
 obtain ⟨a,_,rfl⟩:=List.mem_map.1 hr
 exact ⟨C.hz a,C.hone a⟩
theorem made (x:A) (n:Nat) {zs:List PV} (h:zs = C.cells x):List.replicate n zs = C.rows (List.replicate n x) ∨ nleR (List.replicate n zs) (C.rows (List.replicate n x)):=by
 subst h; rw [C.hrows]; exact .inl (by simp)
theorem madeN (x:A) (n:Nat) {zs:List PV} (h:nleL zs (C.cells x)):List.replicate n zs = C.rows (List.replicate n x) ∨ nleR (List.replicate n zs) (C.rows (List.replicate n x)):=by
 rw [C.hrows]
 refine .inr ?_
 induction n with
 | zero=>trivial
 | succ n ih=>simp only [List.replicate_succ,List.map_cons,nleR]; exact ⟨h,by simpa using ih⟩
end Codec
def intRows (k:IntKind) (l:List Int):List (List PV):=l.map fun n=>[PV.int k n]
def boolRows (l:List Bool):List (List PV):=l.map fun n=>[PV.bool n]
def slRows {A:Type} (C:Codec A) (l:List (List A)):List (List PV):=l.map fun x=>[PV.sl (C.rows x)]
def strC:Codec (List UInt8):={ cells:=fun s=>[.str s],rows:=strs,z:=1,hrows:=fun _=>rfl,hz:=fun _=>rfl,hone:=fun _=>rfl }
def byteC:Codec UInt8:={ cells:=fun b=>[.int .u8 b.toNat],rows:=bRows,z:=1,hrows:=fun _=>rfl,hz:=fun _=>rfl,hone:=fun _=>rfl }
def intC (k:IntKind):Codec Int:={ cells:=fun n=>[.int k n],rows:=intRows k,z:=1,hrows:=fun _=>rfl,hz:=fun _=>rfl,hone:=fun _=>rfl }
def boolC:Codec Bool:={ cells:=fun n=>[.bool n],rows:=boolRows,z:=1,hrows:=fun _=>rfl,hz:=fun _=>rfl,hone:=fun _=>rfl }
def slC {A:Type} (C:Codec A):Codec (List A):={ cells:=fun x=>[.sl (C.rows x)],rows:=slRows C,z:=1,hrows:=fun _=>rfl,hz:=fun _=>rfl,hone:=fun _=>rfl }
theorem Val.one (v:Val):v.cells.all oneP = true:=by cases v; rfl
def valC:Codec Val:={ cells:=Val.cells,rows:=Val.rows,z:=6,hrows:=fun l=>rows_eq l,hz:=cells_length,hone:=Val.one }
theorem all_one {ps:List PV} (h:ps.all oneP = true):∀ c ∈ ps,oneP c = true:=by simpa using h
theorem arr_at {k:IntKind} {es:List Int} {cs:List PV} {i x:Int} {n:Nat} (h:idx es i = some x) (e:es.map (PV.int k) = cs) (hn:es.length ≤ n):0 ≤ i ∧ i < (n:Int) ∧ cs[i.toNat]? = some (.int k x):=by
 obtain ⟨h0,h1⟩:=idx_some h
 have h2:=(List.getElem?_eq_some_iff.1 h1).1
 refine ⟨h0,by omega,?_⟩
 rw [← e]
 simp [h1]
theorem len_ok {n b:Nat} (h:decide (n * b ≤ 140737488355328) = true) (hb:1 ≤ b):n ≤ 9223372036854775807:=by
 have:=of_decide_eq_true h
 have:n * 1 ≤ n * b:=Nat.mul_le_mul_left n hb
 omega
theorem CallsF.leArgs {P:Program} {f:FuncId} {args args':List PV} {r:PV} (h:CallsF P f args' r) (e:nleL args args'):CallsF P f args r :=
 fun Lw H w vs hs rl=>h H w vs hs (nleL_rep e rl)
theorem CallsF.le {P:Program} {f:FuncId} {args:List PV} {r r':PV} (h:CallsF P f args r) (e:nle r r'):CallsF P f args r':=by
 intro Lw H w vs hs rl
 have:=h H w vs hs rl
 generalize (callFunc f vs.toArray).run P w = x at *
 cases x with
 | ok n w' =>
  cases n <;> simp only [CallUpon] at this ⊢ <;> try exact this
  ·obtain ⟨H',c,r⟩:=this; exact ⟨H',c,nle_rep e r⟩
  ·exact ⟨this.1,this.2.mono fun en w'' ⟨v,H',e1,c,r⟩=>⟨v,H',e1,c,nle_rep e r⟩⟩
 | halt x w'=>exact this
theorem LoopA.fn {P:Program} (inl:List Nat) {N nb:Nat} {body:Code} {K:KA} {E:Env} {lo:List AObj} {S R:Type} (fr:S → Env) (ob:S → List AObj) {B:(S → Option R) → S → Option R} {n:Nat} {s0:S} {r:R}
  (h:loopK B n s0 = some r) (hw:WeakK nb E lo (fr s0) (ob s0))
  (round:∀ (next:S → Option R) (s:S),B next s = some r → vc P inl N nb body (fun x E' lo'=>match x with
   | .normal=>∃ s',next s' = some r ∧ WeakK nb E' lo' (fr s') (ob s')
   | .exit i=>K (.exit i) E' lo'
   | .ret=>K .ret E' lo') (fr s) (ob s)):LoopA P inl N nb body K E lo:=by
 intro hm hd Lw bs ρ H a w hb sat
 subst hb
 obtain ⟨ρ',sat'⟩:=hw.sat sat
 refine wp_loop_ghost (I:=fun n a w=>∃ s ρ H,loopK B n s = some r ∧ Sat bs N ρ H (lookD (fr s)) (ob s) a w) n ⟨s0,ρ',H,h,sat'⟩ fun n a w ⟨s,ρ,H,hs,sat⟩=>?_
 cases n with
 | zero=>cases hs
 | succ n =>
  refine wp_mono (vc_sound hm body _ _ _ hd (round (loopK B n) s hs) bs ρ H a w rfl sat) fun e a w p=>?_
  obtain ⟨x,ρ2,H2,E2,lo2,hx,sat2,k⟩:=p
  cases x <;> cases e <;> simp only [AXis] at hx
  ·obtain ⟨s',hok',hwk⟩:=k
   obtain ⟨ρ3,sat3⟩:=hwk.sat sat2
   exact ⟨n,Nat.lt_succ_self _,s',ρ3,H2,hok',sat3⟩
  ·exact ⟨.exit _,ρ2,H2,E2,lo2,hx,sat2,k⟩
  ·exact ⟨.ret,ρ2,H2,E2,lo2,trivial,sat2,k⟩
theorem SeqA.go {P:Program} {inl:List Nat} {N nb:Nat} {x y:Code} {K:KA} {E:Env} {lo:List AObj}
  (h:vc P inl N nb x (fun e E lo=>match e with | .normal=>vc P inl N nb y K E lo | .exit i=>K (.exit i) E lo | .ret=>K .ret E lo) E lo):SeqA P inl N nb x y K E lo:=by
 intro hm hx hy Lw bs ρ H a w hb s
 refine wp_seq (wp_mono (vc_sound hm x _ E lo hx h bs ρ H a w hb s) fun e a w p=>?_)
 obtain ⟨x',ρ',H',E',lo',hx,s',k⟩:=p
 cases x' <;> cases e <;> simp only [AXis] at hx
 ·exact vc_sound hm y K E' lo' hy k bs ρ' H' a w hb s'
 ·exact ⟨.exit _,ρ',H',E',lo',hx,s',k⟩
 ·exact ⟨.ret,ρ',H',E',lo',trivial,s',k⟩
theorem SeqA.cut {P:Program} {inl:List Nat} {N nb:Nat} {x y:Code} {K:KA} {E:Env} {lo:List AObj} {S R:Type} (fr:S → Env) (ob:S → List AObj) (k:S → Option R) {r:R}
  (hy:∀ s,k s = some r → vc P inl N nb y K (fr s) (ob s))
  (hx:vc P inl N nb x (fun e E lo=>match e with | .normal=>∃ s,k s = some r ∧ WeakK nb E lo (fr s) (ob s) | .exit i=>K (.exit i) E lo | .ret=>K .ret E lo) E lo):SeqA P inl N nb x y K E lo:=by
 intro hm hdx hdy Lw bs ρ H a w hb s
 refine wp_seq (wp_mono (vc_sound hm x _ E lo hdx hx bs ρ H a w hb s) fun e a w p=>?_)
 obtain ⟨x',ρ',H',E',lo',hx,s',kk⟩:=p
 cases x' <;> cases e <;> simp only [AXis] at hx
 ·obtain ⟨st,hst,hwk⟩:=kk
  subst hb
  obtain ⟨ρ3,s3⟩:=hwk.sat s'
  exact vc_sound hm y K _ _ hdy (hy st hst) bs ρ3 H' a w rfl s3
 ·exact ⟨.exit _,ρ',H',E',lo',hx,s',kk⟩
 ·exact ⟨.ret,ρ',H',E',lo',trivial,s',kk⟩
theorem CallsF.of_vcN {P:Program} {f:FuncId} {fn:Func} {args:List PV} {r:PV} {inl:List Nat} (hm:P.follows .mixedOrders = true) (he:Enters P f) (hf:P.funcs[f]? = some fn) (hok:fnOk inl fn args.length = true)
  (h:vcFn P inl fn args (fun v=>nle v r)):CallsF P f args r :=
 CallsF.of_vcR hm he hf hok (fun _ _ _ _=>nle_rep) h
section
variable {A R S:Type}
theorem loopK_succ (B:(S → Option R) → S → Option R) (n:Nat) (s:S):loopK B (n + 1) s = B (loopK B n) s:=rfl
@[simp] theorem bnd_eq (a:A) (k:A → Option R):bnd (some a) k = k a:=rfl
@[simp] theorem bnd_no (k:A → Option R):bnd none k = none:=rfl
@[simp] theorem chk_eq (k:Option R):chk true k = k:=rfl
@[simp] theorem chk_chk (b:Bool) (k:Option R):chk b (chk b k) = chk b k:=by cases b <;> rfl
@[simp] theorem gsome_t [Inhabited A] (o:Option A):gsome true o = o:=rfl
@[simp] theorem gsome_f [Inhabited A] (o:Option A):gsome false o = some default:=rfl
@[simp] theorem idx_nat (l:List A) (i:Nat):idx l (i:Int) = l[i]?:=by unfold idx; simp
@[simp] theorem idx_zero (l:List A):idx l 0 = l[0]?:=by unfold idx; simp
@[simp] theorem natI_nat (i:Nat):natI (i:Int) = some i:=by unfold natI; simp
@[simp] theorem u8I_byte (b:UInt8):u8I ((b.toNat:Nat):Int) = some b:=by
 have:=b.toNat_lt
 unfold u8I
 rw [if_pos ⟨Int.natCast_nonneg _,by omega⟩]
 simp
@[simp] theorem bRows_len (l:List UInt8):(bRows l).length = l.length:=by simp [bRows]
@[simp] theorem valRows_len (l:List Val):(Val.rows l).length = l.length:=by rw [rows_eq]; simp
theorem chk_of {b:Bool} (k:Option R) (h:b = true):chk b k = k:=by subst h; rfl
end
end Ax
end
section
namespace Ax
open Go
variable {Lw:Nat}
def CallsO (P:Program) (f:FuncId) (args:List FV) (objs:List AObj) (m:Nat) (R:FV → List AObj → Prop):Prop :=
 ∀ ⦃Lw:Nat⦄ (bs:(Base Lw)) (ρ:List Value) (H:(PH Lw)) (w:World) (vs:List Value),bs.r0 = ρ.take m → SatW bs ρ H objs w → RepFL ρ H args vs →
  match (callFunc f vs.toArray).run P w with
  | .ok (.value v) w'=>∃ r objs' ρ' H',R r objs' ∧ PH.le H H' ∧ SatW bs ρ' H' objs' w' ∧ RepF ρ' H' r v
  | .ok (.enter f' args') w'=>w' = w ∧ Calls P f' args' w fun en w''=>∃ v r objs' ρ' H',en = .returned v ∧ R r objs' ∧ PH.le H H' ∧ SatW bs ρ' H' objs' w'' ∧ RepF ρ' H' r v
  | _=>False
theorem CallsO.mono {P:Program} {f:FuncId} {args:List FV} {objs:List AObj} {m:Nat} {R R':FV → List AObj → Prop} (h:CallsO P f args objs m R) (hr:∀ r lo,R r lo → R' r lo):CallsO P f args objs m R':=by
 intro Lw bs ρ H w vs hb s rl
 have:=h bs ρ H w vs hb s rl
 generalize (callFunc f vs.toArray).run P w = x at *
 cases x with
 | ok n w' =>
  cases n <;> simp only at this ⊢ <;> try exact this
  ·obtain ⟨r,objs',ρ',H',h1,h2⟩:=this; exact ⟨r,objs',ρ',H',hr _ _ h1,h2⟩
  ·exact ⟨this.1,this.2.mono fun en w'' ⟨v,r,objs',ρ',H',e,h1,h2⟩=>⟨v,r,objs',ρ',H',e,hr _ _ h1,h2⟩⟩
 | halt x w'=>exact this
def retO (P:Program) (fn:Func) (m:Nat) (R:FV → List AObj → Prop):KA:=retI P fn fun r0 lo=>∃ r objs',R r objs' ∧ WeakK m [(0,r0)] lo [(0,r)] objs'
def vcO (P:Program) (inl:List Nat) (fn:Func) (args:List FV) (objs:List AObj) (m:Nat) (R:FV → List AObj → Prop):Prop :=
 match fn.body with
 | some c=>vc P inl fn.ntmps m c (retO P fn m R) (initF 0 args) objs
 | none=>False
theorem CallsO.of_vc {P:Program} {f:FuncId} {fn:Func} {args:List FV} {objs:List AObj} {m:Nat} {R:FV → List AObj → Prop} {inl:List Nat} (hm:P.follows .mixedOrders = true) (he:Enters P f) (hf:P.funcs[f]? = some fn) (hok:fnOk inl fn args.length = true)
  (hml:m ≤ objs.length) (h:vcO P inl fn args objs m R):CallsO P f args objs m R:=by
 intro Lw bs ρ H w vs hbs s rl
 rw [he]
 refine ⟨rfl,?_⟩
 simp only [fnOk,Bool.and_eq_true,decide_eq_true_eq] at hok
 obtain ⟨hd,hn⟩:=hok
 unfold vcO at h
 cases hb:fn.body with
 | none=>simp [hb] at hd
 | some c =>
  simp only [hb] at h hd
  refine calls_of_wp hf hb ?_
  have hl:=rl.length
  have hr0:bs.r0.length = m:=by rw [hbs,List.length_take,s.hlen]; omega
  have sat:Sat bs fn.ntmps ρ H (lookD (initF 0 args)) objs { tmps:=vs.toArray ++ Array.replicate (fn.ntmps - vs.toArray.size) undef,defers:=[] } w:=by
   refine { s with slots:=fun t=>?_,width:=by simp; omega,defers:=rfl }
   rw [initF_spec]
   simp only [Nat.zero_le,if_true,Nat.sub_zero]
   cases ht:args[t]? with
   | none=>trivial
   | some p =>
    obtain ⟨v,hv,rv⟩:=rl.get ht
    have hlt:=(List.getElem?_eq_some_iff.1 hv).1
    have:(vs.toArray ++ Array.replicate (fn.ntmps - vs.toArray.size) undef).getD t undef = v:=by
     rw [Array.getD_eq_getD_getElem?,Array.getElem?_append_left (by simpa using hlt)]
     simp [hv]
    rw [this]
    exact rv
  have hcalls:=vc_sound hm c _ _ _ hd h { bs with H0:=H } ρ H _ w hr0 { sat with leH:=PH.le.refl H,newH:=fun b o v hv=>.inl ⟨v,hv⟩ }
  refine wp_mono hcalls fun e a w' p=>?_
  obtain ⟨x,ρ',H',E',lo',hx,s',k⟩:=p
  obtain ⟨r0,hR,hxx,hres⟩:=retI_spec k
  obtain ⟨r,objs',hR,hw⟩:=hR
  obtain ⟨v,hv,rv⟩:=hres _ _ ρ' H' a w' s'
  have s1:Sat { bs with H0:=H } 1 ρ' H' (lookD [(0,r0)]) lo' { tmps:=#[v],defers:=[] } w':=by
   refine { s'.toSatW with slots:=fun t=>?_,width:=rfl,defers:=rfl }
   cases t with
   | zero=>exact rv
   | succ t=>simp only [lookD]; exact trivial
  obtain ⟨ρ2,s2⟩:=WeakK.sat s1 (by rw [hr0]; exact hw)
  have rv2:RepF ρ2 H' r v:=s2.slots 0
  have fin:∃ v,(results fn a.tmps).run P w' = .ok v w' ∧ (fun en w''=>∃ v r objs' ρ' H',en = Ending.returned v ∧ R r objs' ∧ PH.le H H' ∧ SatW bs ρ' H' objs' w'' ∧ RepF ρ' H' r v) (.returned v) w':=by
   refine ⟨v,hv,v,r,objs',ρ2,H',rfl,hR,s2.leH,?_,rv2⟩
   refine { s2.toSatW with leH:=s.leH.trans s2.leH,newH:=fun b o u hu=>?_ }
   rcases s2.newH b o u hu with ⟨u',hu'⟩ | h | h
   ·exact s.newH b o u' hu'
   ·exact .inr (.inl h)
   ·exact .inr (.inr h)
  rcases hxx with rfl | rfl <;> cases e <;> simp only [AXis] at hx
  ·exact ⟨s'.defers,fin⟩
  ·exact ⟨s'.defers,fin⟩
def AObj.ren (σ:Nat → Nat):AObj → AObj
 | .box t cells=>.box t (cells.map (FV.ren σ))
 | .mp d es _=>.mp d es none
 | .vl e z rows j k=>.vl e z rows j (σ k)
 | .pbx t c=>.pbx t (c.ren σ)
 | o=>o
theorem RepF.ren {ρ ρ':List Value} {H:(PH Lw)} {σ:Nat → Nat} (h:∀ i v,ρ[i]? = some v → ρ'[σ i]? = some v):∀ {f:FV} {x:Value},RepF ρ H f x → RepF ρ' H (f.ren σ) x
 | .top,_,_=>trivial
 | .p p,x,r=>r
 | .opt g v,x,r=>by
  simp only [FV.ren,RepF] at *
  split
  ·rename_i hg; simp only [hg,if_true] at r; exact RepF.ren h r
  ·rename_i hg; simpa [hg] using r
 | .tsl k rows,x,r=>⟨h _ _ r.1,r.2⟩
 | .ptr k off,x,⟨b,e,e'⟩=>⟨b,h _ _ e,e'⟩
 | .hptr row,x,r=>r
 | .bself k,x,⟨b,e,e'⟩=>⟨b,h _ _ e,e'⟩
 | .bsl k off len cap,x,⟨b,e,e'⟩=>⟨b,h _ _ e,e'⟩
 | .vsl k n,x,r=>⟨h _ _ r.1,r.2⟩
 | .eptr k z i off,x,⟨b,n,cap,e,e'⟩=>⟨b,n,cap,h _ _ e,e'⟩
 | .mref k,x,⟨b,e,e'⟩=>⟨b,h _ _ e,e'⟩
 | .pair a b,x,⟨u,v,e,ra,rb⟩=>⟨u,v,e,ra.ren h,rb.ren h⟩
 | .stmp k,x,r=>h _ _ r
 | .clo f c,x,⟨vs,e,rc⟩=>⟨vs,e,rc.ren h⟩
 | .cap0,x,r=>r
 | .cap a b,x,⟨u,vs,e,ra,rb⟩=>⟨u,vs,e,ra.ren h,rb.ren h⟩
 | .fagg c,x,⟨vs,e,rc⟩=>⟨vs,e,rc.ren h⟩
 | .nxt ok a b,x,r=>r
 | .asl k off n,x,⟨b,m,cap,c,e,e'⟩=>⟨b,m,cap,c,h _ _ e,e'⟩
 | .ifs t c,x,⟨u,e,rc⟩=>⟨u,e,rc.ren h⟩
 | .cut rows,x,r=>r
theorem RepFL.ren {ρ ρ':List Value} {H:(PH Lw)} {σ:Nat → Nat} (h:∀ i v,ρ[i]? = some v → ρ'[σ i]? = some v):∀ {cs:List FV} {vs:List Value},RepFL ρ H cs vs → RepFL ρ' H (cs.map (FV.ren σ)) vs
 | [],_,r=>r
 | _ :: _,_,⟨v,vs',e,r,rs⟩=>⟨v,vs',e,r.ren h,rs.ren h⟩
theorem ObjOk.ren {ρ ρ':List Value} {H:(PH Lw)} {w:World} {σ:Nat → Nat} (h:∀ i v,ρ[i]? = some v → ρ'[σ i]? = some v) {v:Value} {o:AObj} (ok:ObjOk ρ H w v o):ObjOk ρ' H w v (o.ren σ):=by
 cases o with
 | dead=>trivial
 | box t cells =>
  obtain ⟨b,vs,e,hg,rc,hh⟩:=ok
  exact ⟨b,vs,e,hg,rc.ren h,hh⟩
 | tail e z n=>exact ok
 | vec e z rows=>exact ok
 | mp d es mk =>
  obtain ⟨b,ents,clock,e,hg,rm,⟨h1,h2,_⟩,hh⟩:=ok
  exact ⟨b,ents,clock,e,hg,rm,⟨h1,h2,fun key s e=>by cases e⟩,hh⟩
 | sit l p=>exact ok
 | bv l=>exact ok
 | vl e z rows j k =>
  obtain ⟨xs,h1,h2,h3,h4,h5⟩:=ok
  exact ⟨xs,h1,h2,h3,h4,fun u hu=>h _ _ (h5 u hu)⟩
 | pbx t c =>
  obtain ⟨b,u,us,e,hg,rc,hh⟩:=ok
  exact ⟨b,u,us,e,hg,rc.ren h,hh⟩
theorem AObj.ren_live (σ:Nat → Nat) (o:AObj):(o.ren σ).live = o.live:=by cases o <;> rfl
def σOf (l:List Nat) (m n:Nat):Nat → Nat:=fun i=>match Nat.blt i m with
 | true=>l.getD i 0
 | false=>n + (i - m)
def posK:List Nat → List Nat → Nat → Nat → Option Nat
 | [],_,_,_=>none
 | k :: l,fresh,i,j=>match Nat.beq k j with
  | true=>match fresh.contains i with
   | true=>posK l fresh (i + 1) j
   | false=>some i
  | false=>posK l fresh (i + 1) j
def mergeAt (l fresh:List Nat) (m:Nat) (σ:Nat → Nat) (objs':List AObj) (j:Nat) (o:AObj):AObj :=
 match posK l fresh 0 j with
 | some i=>match Nat.blt i m with
  | true=>match objs'[i]? with | some o'=>o'.ren σ | none=>.dead
  | false=>.dead
 | none=>o
def mergeF (l fresh:List Nat) (m:Nat) (σ:Nat → Nat) (objs':List AObj):Nat → List AObj → List AObj
 | _,[]=>(objs'.drop m).map (AObj.ren σ)
 | j,o :: lo=>mergeAt l fresh m σ objs' j o :: mergeF l fresh m σ objs' (j + 1) lo
def mergeO (l fresh:List Nat) (m:Nat) (lo objs':List AObj):List AObj:=mergeF l fresh m (σOf l m lo.length) objs' 0 lo
theorem mergeF_get {l fresh:List Nat} {m:Nat} {σ:Nat → Nat} {objs':List AObj}:∀ {lo:List AObj} {j i:Nat} {o:AObj},(mergeF l fresh m σ objs' j lo)[i]? = some o →
  (∃ o0,lo[i]? = some o0 ∧ o = mergeAt l fresh m σ objs' (j + i) o0) ∨ (lo.length ≤ i ∧ ∃ o0,objs'[m + (i - lo.length)]? = some o0 ∧ o = o0.ren σ)
 | [],j,i,o,h=>by
  simp only [mergeF,List.getElem?_map,List.getElem?_drop] at h
  cases hx:objs'[m + i]? with
  | none=>simp [hx] at h
  | some o0 =>
   simp [hx] at h
   exact .inr ⟨Nat.zero_le _,o0,by simpa using hx,h.symm⟩
 | x :: lo,j,0,o,h=>by
  simp only [mergeF,List.getElem?_cons_zero,Option.some.injEq] at h
  exact .inl ⟨x,rfl,h.symm⟩
 | x :: lo,j,i + 1,o,h=>by
  simp only [mergeF,List.getElem?_cons_succ] at h
  rcases mergeF_get h with ⟨o0,h1,h2⟩ | ⟨h1,o0,h2,h3⟩
  ·exact .inl ⟨o0,by simpa using h1,by rw [h2,Nat.add_assoc,Nat.add_comm 1 i]⟩
  ·refine .inr ⟨by simpa using h1,o0,?_,h3⟩
   simpa using h2
theorem mergeF_length {l fresh:List Nat} {m:Nat} {σ:Nat → Nat} {objs':List AObj}:∀ {lo:List AObj} {j:Nat},(mergeF l fresh m σ objs' j lo).length = lo.length + (objs'.length - m)
 | [],j=>by simp [mergeF]
 | x :: lo,j=>by
  simp only [mergeF,List.length_cons,mergeF_length (lo:=lo)]
  omega
theorem posK_some {fresh:List Nat} {j:Nat}:∀ {l:List Nat} {i0 i:Nat},posK l fresh i0 j = some i → i0 ≤ i ∧ l[i - i0]? = some j ∧ i ∉ fresh
 | [],_,_,h=>by simp [posK] at h
 | k :: l,i0,i,h=>by
  simp only [posK] at h
  have step:posK l fresh (i0 + 1) j = some i → i0 ≤ i ∧ (k :: l)[i - i0]? = some j ∧ i ∉ fresh:=by
   intro h
   obtain ⟨h1,h2,h3⟩:=posK_some h
   refine ⟨by omega,?_,h3⟩
   have e:i - i0 = (i - (i0 + 1)) + 1:=by omega
   rw [e]
   simpa using h2
  split at h
  ·rename_i hk
   have hk:=Nat.eq_of_beq_eq_true hk
   split at h
   ·exact step h
   ·rename_i hf
    cases h
    exact ⟨Nat.le_refl _,by simp [hk],by simpa using hf⟩
  ·exact step h
theorem posK_none {fresh:List Nat} {j:Nat}:∀ {l:List Nat} {i0:Nat},posK l fresh i0 j = none → ∀ i,l[i]? = some j → i0 + i ∈ fresh
 | [],_,_,i,h=>by simp at h
 | k :: l,i0,h,i,hi=>by
  simp only [posK] at h
  cases i with
  | zero =>
   simp at hi
   subst hi
   simp only [Nat.beq_refl] at h
   split at h
   ·rename_i hf; simpa using hf
   ·cases h
  | succ i =>
   have step:posK l fresh (i0 + 1) j = none → i0 + (i + 1) ∈ fresh:=fun h=>by
    have:=posK_none h i (by simpa using hi)
    have e:i0 + 1 + i = i0 + (i + 1):=by omega
    rwa [e] at this
   split at h
   ·split at h
    ·exact step h
    ·cases h
   ·exact step h
def leArgs (π:Nat → Nat) (fresh:List Nat):List FV → List FV → Prop
 | [],[]=>True
 | a :: l,b :: m=>leF π fresh a b ∧ leArgs π fresh l m
 | _,_=>False
theorem leArgs_rep {ρ:List Value} {H:(PH Lw)} {π:Nat → Nat} {fresh:List Nat} {n:Nat}:∀ {xs ys:List FV} {vs:List Value},leArgs π fresh xs ys → (∀ c ∈ ys,∀ k ∈ c.names,k < n) → RepFL ρ H xs vs → RepFL (renρ ρ π fresh n) H ys vs
 | [],[],vs,_,_,r=>r
 | [],_ :: _,_,h,_,_=>by simp [leArgs] at h
 | _ :: _,[],_,h,_,_=>by simp [leArgs] at h
 | a :: xs,b :: ys,vs,h,hn,r=>by
  simp only [leArgs] at h
  obtain ⟨v,vs',e,r1,rs⟩:=r
  exact ⟨v,vs',e,leF_rep h.1 (hn b (by simp)) r1,leArgs_rep h.2 (fun c hc=>hn c (by simp [hc])) rs⟩
theorem leObj_live {π:Nat → Nat} {fresh:List Nat} {k:Nat} {o o':AObj} (hle:leObj π fresh k o o') (hl:o'.live = true):o.live = true:=by
 cases o' with
 | dead=>simp [AObj.live] at hl
 | box t c=>cases o <;> simp only [leObj] at hle; rfl
 | tail e z n=>simp only [leObj] at hle; subst hle; rfl
 | vec e z n=>simp only [leObj] at hle; subst hle; rfl
 | mp d es mk=>simp only [leObj] at hle; obtain ⟨_,_,rfl⟩:=hle; rfl
 | sit l p=>simp only [leObj] at hle; subst hle; rfl
 | bv l=>simp only [leObj] at hle; subst hle; rfl
 | vl e z rows j k'=>simp only [leObj] at hle; obtain ⟨_,rfl⟩:=hle; rfl
 | pbx t c=>cases o <;> simp only [leObj] at hle; rfl
theorem CallsO.use {P:Program} {f:FuncId} {args:List FV} {objs:List AObj} {m:Nat} {R:FV → List AObj → Prop} (h:CallsO P f args objs m R) (l fresh:List Nat) {args':List FV} {lo:List AObj} {K:FV → List AObj → Prop}
  (hw:weakB 0 l fresh = true ∧ l.length = objs.length ∧ namesC objs.length args = true ∧ namesO objs.length objs = true ∧ Nat.ble m objs.length = true ∧ (List.range m).all (fun i=>!fresh.contains i) = true)
  (ha:leArgs (πOf l) fresh args' args) (ho:leObs lo (πOf l) fresh 0 objs)
  (hK:∀ r0 objs',R r0 objs' → ∃ r lo2,r0.ren (σOf l m lo.length) = r ∧ mergeO l fresh m lo objs' = lo2 ∧ K r lo2):CallsI P f args' lo K:=by
 obtain ⟨hb,hl,hnA,hnO,hml,hfr⟩:=hw
 have hml:=Nat.le_of_ble_eq_true hml
 have hfr:∀ i,i < m → i ∉ fresh:=by
  intro i hi
  have:=List.all_eq_true.1 hfr i (by simpa using hi)
  simpa using this
 simp only [weakB,Bool.and_eq_true,decide_eq_true_eq,List.all_eq_true,List.mem_range,Bool.or_eq_true,beq_iff_eq,Bool.not_eq_true',bne_iff_ne] at hb
 obtain ⟨⟨⟨_,_⟩,hinj⟩,hfl⟩:=hb
 have get:=fun (i:Nat) (o':AObj) (h:objs[i]? = some o')=>leObs_spec ho i o' h
 simp only [Nat.zero_add] at get
 have inj:∀ i j,i < objs.length → j < objs.length → i ∉ fresh → j ∉ fresh → πOf l i = πOf l j → i = j:=by
  intro i j hi hj hfi hfj e
  have:=hinj i (by omega) j (by omega)
  simp only [List.contains_iff_mem,hfi,hfj,false_or] at this
  rcases this with h | h
  ·exact absurd e h
  ·exact h
 have hlget:∀ i,i < l.length → l[i]? = some (πOf l i):=fun i hi=>by
  simp [πOf,List.getD_eq_getElem?_getD,List.getElem?_eq_getElem hi]
 intro Lw bs ρ H w vs s rl
 let π:=πOf l
 let ρ2:=renρ ρ π fresh objs.length
 have weak:Weak 0 (initF 0 args') lo (initF 0 args) objs π fresh:=by
  refine { bounds:=fun k hk hf=>?_,keep:=fun k hk=>absurd hk (Nat.not_lt_zero _),nb:=Nat.zero_le _,inj:=fun i j oi oj hi hj _ _=>inj i j (List.getElem?_eq_some_iff.1 hi).1 (List.getElem?_eq_some_iff.1 hj).1,frsh:=fun k hk=>?_,obj:=fun k o' ho hf=>(get k o' ho).2 hf,slot:=?_ }
  ·obtain ⟨o,ho,_⟩:=(get k _ (List.getElem?_eq_getElem hk)).2 hf
   exact (List.getElem?_eq_some_iff.1 ho).1
  ·have hk':k < objs.length:=by have:=hfl k hk; omega
   obtain ⟨e,z,he⟩:=(get k _ (List.getElem?_eq_getElem hk')).1 hk
   exact ⟨e,z,he.imp (fun he=>by rw [List.getElem?_eq_getElem hk',he]) (fun he=>he.imp (fun he=>by rw [List.getElem?_eq_getElem hk',he]) (fun ⟨j,k2,he⟩=>⟨j,k2,by rw [List.getElem?_eq_getElem hk',he]⟩))⟩
  ·have:∀ (n:Nat) (xs ys:List FV),leArgs π fresh xs ys → ∀ t v,(t,v) ∈ initF n ys → leF π fresh (lookD (initF n xs) t) v:=by
    intro n xs
    induction xs generalizing n with
    | nil =>
     intro ys hab t v hm
     cases ys with
     | nil=>simp [initF] at hm
     | cons b ys=>simp [leArgs] at hab
    | cons a xs ih =>
     intro ys hab t v hm
     cases ys with
     | nil=>simp [leArgs] at hab
     | cons b ys =>
      simp only [leArgs] at hab
      simp only [initF,List.mem_cons,Prod.mk.injEq] at hm
      have hge:∀ (n:Nat) (bs:List FV) (t:Nat) (v:FV),(t,v) ∈ initF n bs → n ≤ t:=by
       intro n bs
       induction bs generalizing n with
       | nil=>intro t v h; simp [initF] at h
       | cons c cs ih2 =>
        intro t v h
        simp only [initF,List.mem_cons,Prod.mk.injEq] at h
        rcases h with ⟨rfl,_⟩ | h
        ·exact Nat.le_refl _
        ·have:=ih2 (n + 1) t v h; omega
      simp only [initF,lookD]
      rcases hm with ⟨rfl,rfl⟩ | hm
      ·simp only [Nat.beq_refl]; exact hab.1
      ·have:=hge _ _ _ _ hm
       have hne:Nat.beq t n = false:=by
        cases hx:Nat.beq t n with
        | false=>rfl
        | true=>have:=Nat.eq_of_beq_eq_true hx; omega
       simp only [hne]
       exact ih (n + 1) ys hab.2 t v hm
   exact this 0 args' args ha
 have sat0:Sat { bs with r0:=[] } vs.length ρ H (lookD (initF 0 args')) lo { tmps:=vs.toArray,defers:=[] } w:=by
  refine { s with pre:=List.nil_prefix,slots:=fun t=>?_,width:=by simp,defers:=rfl }
  rw [initF_spec]
  simp only [Nat.zero_le,if_true,Nat.sub_zero]
  cases ht:args'[t]? with
  | none=>trivial
  | some p =>
   obtain ⟨v,hv,rv⟩:=rl.get ht
   have:vs.toArray.getD t undef = v:=by
    rw [Array.getD_eq_getD_getElem?]
    simp [hv]
   rw [this]
   exact rv
 have hnames:namesOk (initF 0 args) objs:=by
  refine ⟨fun t v hm=>?_,namesO_spec hnO,namesO_spec2 hnO,namesO_spec3 hnO⟩
  have:∀ (n:Nat) (bs:List FV) (t:Nat) (v:FV),(t,v) ∈ initF n bs → v ∈ bs:=by
   intro n bs
   induction bs generalizing n with
   | nil=>intro t v h; simp [initF] at h
   | cons c cs ih2 =>
    intro t v h
    simp only [initF,List.mem_cons,Prod.mk.injEq] at h
    rcases h with ⟨_,rfl⟩ | h
    ·simp
    ·exact List.mem_cons_of_mem _ (ih2 (n + 1) t v h)
  exact namesC_spec hnA v (this 0 args t v hm)
 have s2:=(sat0.weak weak hnames).toSatW
 have rl2:RepFL ρ2 H args vs:=leArgs_rep ha (namesC_spec hnA) rl
 have ρ2get:∀ {i:Nat} {v:Value},ρ2[i]? = some v → i < objs.length ∧ ((i ∈ fresh ∧ v = .slice none 0 0) ∨ (i ∉ fresh ∧ ρ[π i]? = some v)):=by
  intro i v hv
  have hk:i < objs.length:=by have:=(List.getElem?_eq_some_iff.1 hv).1; simpa [ρ2,renρ] using this
  have hv':=hv
  rw [show ρ2[i]? = _ from renρ_get hk] at hv'
  refine ⟨hk,?_⟩
  by_cases hf:i ∈ fresh
  ·simp [hf] at hv'; exact .inl ⟨hf,hv'.symm⟩
  ·simp only [hf,if_false] at hv'
   refine .inr ⟨hf,?_⟩
   obtain ⟨o,ho,_⟩:=(get i _ (List.getElem?_eq_getElem hk)).2 hf
   have:π i < ρ.length:=by rw [s.hlen]; exact (List.getElem?_eq_some_iff.1 ho).1
   rw [List.getD_eq_getElem?_getD,List.getElem?_eq_getElem this] at hv'
   rw [List.getElem?_eq_getElem this]
   simpa using hv'
 let bs2:(Base Lw):={ S:=lent ρ2 objs,w0:=w,H0:=H,r0:=ρ2.take m }
 have s2':SatW bs2 ρ2 H objs w :=
  { sath:=s2.sath,hlen:=s2.hlen,pre:=List.take_prefix _ _,objs:=s2.objs,excl:=s2.excl,own:=fun k o v b hk hv hl hb=>.inl ⟨k,o,v,hk,hv,hl,hb⟩,keep:=Keep.refl _ w,leH:=PH.le.refl H,newH:=fun b o v h=>.inl ⟨v,h⟩ }
 have lentS:∀ b,lent ρ2 objs b → ∃ i o v,i < objs.length ∧ i ∉ fresh ∧ lo[π i]? = some o ∧ ρ[π i]? = some v ∧ o.live = true ∧ blkOf v = some b:=by
  rintro b ⟨i,o,v,hi,hv,hl',hb⟩
  obtain ⟨hlt,hc⟩:=ρ2get hv
  rcases hc with ⟨_,rfl⟩ | ⟨hf,hv'⟩
  ·simp [blkOf] at hb
  ·obtain ⟨o0,ho0,hle⟩:=(get i o hi).2 hf
   exact ⟨i,o0,v,hlt,hf,ho0,hv',leObj_live hle hl',hb⟩
 have key:∀ (r0:FV) (objs':List AObj) (ρ':List Value) (H':(PH Lw)) (w':World) (v:Value),R r0 objs' → PH.le H H' → SatW bs2 ρ' H' objs' w' → RepF ρ' H' r0 v → ∃ r lo',After bs ρ H r lo' v w' ∧ K r lo':=by
  intro r0 objs' ρ' H' w' v hR hle s3 rv
  obtain ⟨r,lo2,rfl,rfl,hk⟩:=hK r0 objs' hR
  refine ⟨_,_,?_,hk⟩
  have hρ2len:ρ2.length = objs.length:=by simp [ρ2,renρ]
  have hpre:ρ2.take m <+: ρ':=s3.pre
  have hm':m ≤ ρ'.length:=by
   have:=hpre.length_le
   rw [List.length_take,hρ2len] at this
   omega
  have hold:∀ i,i < m → ρ'[i]? = ρ2[i]?:=by
   intro i hi
   obtain ⟨t,ht⟩:=hpre
   rw [← ht,List.getElem?_append_left (by rw [List.length_take,hρ2len]; omega),List.getElem?_take,if_pos hi]
  have hσ:∀ i v,ρ'[i]? = some v → (ρ ++ ρ'.drop m)[σOf l m lo.length i]? = some v:=by
   intro i v hv
   unfold σOf
   by_cases hi:i < m
   ·have:Nat.blt i m = true:=Nat.ble_eq_true_of_le hi
    simp only [this]
    rw [hold i hi] at hv
    obtain ⟨hlt,hc⟩:=ρ2get hv
    rcases hc with ⟨hf,_⟩ | ⟨_,hv'⟩
    ·exact absurd hf (hfr i hi)
    ·have hπ:l.getD i 0 = π i:=rfl
     rw [hπ,List.getElem?_append_left (List.getElem?_eq_some_iff.1 hv').1]
     exact hv'
   ·have:Nat.blt i m = false:=by
     cases hx:Nat.blt i m with
     | false=>rfl
     | true=>exact absurd (Nat.le_of_ble_eq_true hx) hi
    simp only [this]
    rw [List.getElem?_append_right (by rw [s.hlen]; omega),s.hlen,Nat.add_sub_cancel_left,List.getElem?_drop]
    have e:m + (i - m) = i:=by omega
    rw [e]
    exact hv
  have cls:∀ (j:Nat) (o:AObj) (v:Value),(mergeO l fresh m lo objs')[j]? = some o → (ρ ++ ρ'.drop m)[j]? = some v → o.live = true →
    (∃ i o0,objs'[i]? = some o0 ∧ ρ'[i]? = some v ∧ o = o0.ren (σOf l m lo.length) ∧ j = σOf l m lo.length i) ∨
    (j < lo.length ∧ lo[j]? = some o ∧ ρ[j]? = some v ∧ ∀ i,i < objs.length → i ∉ fresh → π i ≠ j):=by
   intro j o v hj hv hlive
   rcases mergeF_get hj with ⟨o0,h1,h2⟩ | ⟨h1,o0,h2,h3⟩
   ·have hjl:=(List.getElem?_eq_some_iff.1 h1).1
    rw [List.getElem?_append_left (by rw [s.hlen]; exact hjl)] at hv
    rw [Nat.zero_add] at h2
    unfold mergeAt at h2
    split at h2
    ·rename_i i hp
     obtain ⟨_,hli,hif⟩:=posK_some hp
     rw [Nat.sub_zero] at hli
     have hil:i < l.length:=(List.getElem?_eq_some_iff.1 hli).1
     have hπ:π i = j:=by have:=hlget i hil; rw [hli] at this; exact (Option.some.inj this).symm
     split at h2
     ·rename_i him
      have him:i < m:=Nat.le_of_ble_eq_true him
      split at h2
      ·rename_i o' ho'
       refine .inl ⟨i,o',ho',?_,h2,?_⟩
       ·rw [hold i him]
        have hik:i < objs.length:=by omega
        rw [show ρ2[i]? = _ from renρ_get hik]
        simp only [hif,if_false]
        rw [List.getD_eq_getElem?_getD,hπ,hv]
        rfl
       ·unfold σOf
        simp only [show Nat.blt i m = true from Nat.ble_eq_true_of_le him]
        exact hπ.symm
      ·rw [h2] at hlive; simp [AObj.live] at hlive
     ·rw [h2] at hlive; simp [AObj.live] at hlive
    ·rename_i hp
     refine .inr ⟨hjl,by rw [h2]; exact h1,hv,fun i hi hf e=>?_⟩
     have:=posK_none hp i (by rw [hlget i (by omega)]; exact congrArg some e)
     rw [Nat.zero_add] at this
     exact hf this
   ·refine .inl ⟨m + (j - lo.length),o0,h2,?_,h3,?_⟩
    ·rw [List.getElem?_append_right (by rw [s.hlen]; exact h1),s.hlen,List.getElem?_drop] at hv
     exact hv
    ·unfold σOf
     have:Nat.blt (m + (j - lo.length)) m = false:=by
      cases hx:Nat.blt (m + (j - lo.length)) m with
      | false=>rfl
      | true=>have:=Nat.le_of_ble_eq_true hx; omega
     simp only [this]
     omega
  have apart:∀ (j:Nat) (o:AObj) (v:Value) (b:Nat),lo[j]? = some o → ρ[j]? = some v → (∀ i,i < objs.length → i ∉ fresh → π i ≠ j) → o.live = true → blkOf v = some b → ¬ lent ρ2 objs b:=by
   intro j o v b hj hv hnot hlive hb hlent
   obtain ⟨i,o0,v0,hi,hf,ho0,hv0,hl0,hb0⟩:=lentS b hlent
   exact s.excl (π i) j o0 o v0 v b ho0 hj hv0 hv (hnot i hi hf) hl0 hlive hb0 hb
  have old:∀ (j:Nat) (o:AObj) (v:Value) (b:Nat),lo[j]? = some o → ρ[j]? = some v → o.live = true → blkOf v = some b → b < w.heap.size:=by
   intro j o v b hj hv hlive hb
   have hfresh:=s.fresh (g:=b)
   rcases Nat.lt_or_ge b w.heap.size with h | h
   ·exact h
   ·exact absurd hb (hfresh h j o v hj hv hlive)
  have ownS:∀ b,bs2.S b ∨ w.heap.size ≤ b → bs.S b ∨ bs.w0.heap.size ≤ b:=by
   rintro b (hb | hb)
   ·obtain ⟨i,o0,v0,_,_,ho0,hv0,hl0,hb0⟩:=lentS b hb
    exact s.own _ o0 v0 b ho0 hv0 hl0 hb0
   ·exact .inr (Nat.le_trans s.keep.size hb)
  refine ⟨ρ ++ ρ'.drop m,H',List.prefix_append _ _,hle,?_,rv.ren hσ⟩
  refine { sath:=s3.sath,hlen:=?_,pre:=s.pre.trans (List.prefix_append _ _),objs:=?_,excl:=?_,own:=?_,keep:=?_,leH:=s.leH.trans hle,newH:=?_ }
  ·unfold mergeO
   rw [mergeF_length,List.length_append,List.length_drop,s.hlen,s3.hlen]
  ·intro j o v hj hv
   cases hlive:o.live with
   | false=>cases o <;> simp [AObj.live] at hlive; trivial
   | true =>
    rcases cls j o v hj hv hlive with ⟨i,o0,h1,h2,rfl,_⟩ | ⟨hjl,h1,h2,hnot⟩
    ·exact (s3.objs i o0 v h1 h2).ren hσ
    ·refine (s.objs j o v h1 h2).keep (List.prefix_append _ _) hle (fun b hb hlt=>s3.keep.block b hlt (apart j o v b h1 h2 hnot hlive hb)) (fun b o' hb hlt hn=>?_)
     cases hx:H' b o' with
     | none=>rfl
     | some u =>
      rcases s3.newH b o' u hx with ⟨y,hy⟩ | hS | hge
      ·have hy':H b o' = some y:=hy
       rw [hn] at hy'; cases hy'
      ·exact absurd hS (apart j o v b h1 h2 hnot hlive hb)
      ·have hge':w.heap.size ≤ b:=hge
       omega
  ·intro j1 j2 o1 o2 v1 v2 b hj1 hj2 hv1 hv2 hne hl1 hl2 hb1 hb2
   rcases cls j1 o1 v1 hj1 hv1 hl1 with ⟨i1,a1,h1,h1v,rfl,e1⟩ | ⟨hjl1,h1,h1v,hnot1⟩ <;> rcases cls j2 o2 v2 hj2 hv2 hl2 with ⟨i2,a2,h2,h2v,rfl,e2⟩ | ⟨hjl2,h2,h2v,hnot2⟩
   ·exact s3.excl i1 i2 a1 a2 v1 v2 b h1 h2 h1v h2v (fun e=>hne (by rw [e1,e2,e])) (by rw [← AObj.ren_live]; exact hl1) (by rw [← AObj.ren_live]; exact hl2) hb1 hb2
   ·have:=s3.own i1 a1 v1 b h1 h1v (by rw [← AObj.ren_live]; exact hl1) hb1
    rcases this with hS | hge
    ·exact apart j2 o2 v2 b h2 h2v hnot2 hl2 hb2 hS
    ·have hge':w.heap.size ≤ b:=hge
     have:=old j2 o2 v2 b h2 h2v hl2 hb2
     omega
   ·have:=s3.own i2 a2 v2 b h2 h2v (by rw [← AObj.ren_live]; exact hl2) hb2
    rcases this with hS | hge
    ·exact apart j1 o1 v1 b h1 h1v hnot1 hl1 hb1 hS
    ·have hge':w.heap.size ≤ b:=hge
     have:=old j1 o1 v1 b h1 h1v hl1 hb1
     omega
   ·exact s.excl j1 j2 o1 o2 v1 v2 b h1 h2 h1v h2v hne hl1 hl2 hb1 hb2
  ·intro j o v b hj hv hlive hb
   rcases cls j o v hj hv hlive with ⟨i,a,h1,h1v,rfl,_⟩ | ⟨_,h1,h1v,_⟩
   ·exact ownS b (s3.own i a v b h1 h1v (by rw [← AObj.ren_live]; exact hlive) hb)
   ·exact s.own j o v b h1 h1v hlive hb
  ·exact s.keep.step s3.keep fun i hi=>ownS i (.inl hi)
  ·intro b o u hu
   rcases s3.newH b o u hu with ⟨y,hy⟩ | hS | hge
   ·exact s.newH b o y hy
   ·exact .inr (ownS b (.inl hS))
   ·exact .inr (ownS b (.inr hge))
 have:=h bs2 ρ2 H w vs rfl s2' rl2
 generalize (callFunc f vs.toArray).run P w = x at *
 cases x with
 | ok n w' =>
  cases n <;> simp only at this ⊢ <;> try exact this
  ·obtain ⟨r0,objs',ρ',H',hR,hle,s3,rv⟩:=this
   exact key r0 objs' ρ' H' w' _ hR hle s3 rv
  ·obtain ⟨rfl,hc⟩:=this
   exact ⟨rfl,hc.mono fun en w'' ⟨v,r0,objs',ρ',H',e,hR,hle,s3,rv⟩=>by
    obtain ⟨r,lo',af,k⟩:=key r0 objs' ρ' H' w'' v hR hle s3 rv
    exact ⟨v,r,lo',e,af,k⟩⟩
 | halt x w'=>exact this
end Ax
end
section
namespace Ax
open Go
variable {Lw:Nat}
section
variable {K V:Type} [BEq K]
def mRows (kp:K → PV) (vp:V → PV) (l:List (K × V)):List (PV × PV):=l.map fun e=>(kp e.1,vp e.2)
def mget (k:K):List (K × V) → Option V
 | []=>none
 | (k',v) :: l=>bif k == k' then some v else mget k l
def mgetD (l:List (K × V)) (k:K) (d:V):V:=(mget k l).getD d
def mhas (l:List (K × V)) (k:K):Bool:=(mget k l).isSome
def mset (k:K) (v:V):List (K × V) → List (K × V)
 | []=>[(k,v)]
 | (k',v') :: l=>bif k == k' then (k,v) :: l else (k',v') :: mset k v l
def KeyOk (kp:K → PV):Prop:=∀ a b,kEqP (kp a) (kp b) = (a == b)
theorem mFind_rows {kp:K → PV} (hk:KeyOk kp) (vp:V → PV) (k:K):∀ l:List (K × V),mFind (kp k) (mRows kp vp l) = (mget k l).map vp
 | []=>rfl
 | (k',v) :: l=>by
  have:=mFind_rows hk vp k l
  simp only [mRows,List.map_cons,mFind,mget] at this ⊢
  rw [hk k k']
  cases k == k' with
  | true=>rfl
  | false=>simpa using this
theorem look_D {kp:K → PV} (hk:KeyOk kp) (vp:V → PV) (l:List (K × V)) (k:K) (d:V):(mFind (kp k) (mRows kp vp l)).getD (vp d) = vp (mgetD l k d):=by
 rw [mFind_rows hk,mgetD]
 cases mget k l <;> rfl
theorem look_b {kp:K → PV} (hk:KeyOk kp) (vp:V → PV) (l:List (K × V)) (k:K):(mFind (kp k) (mRows kp vp l)).isSome = mhas l k:=by
 rw [mFind_rows hk,mhas]
 cases mget k l <;> rfl
theorem set_rows {kp:K → PV} (hk:KeyOk kp) (vp:V → PV) (k:K) (v:V):∀ l:List (K × V),mSet (kp k) (vp v) (mRows kp vp l) = mRows kp vp (mset k v l)
 | []=>rfl
 | (k',v') :: l=>by
  have:=set_rows hk vp k v l
  simp only [mRows,List.map_cons,mSet,mset] at this ⊢
  rw [hk k k']
  cases k == k' with
  | true=>rfl
  | false=>simpa using this
end
theorem keyStr:KeyOk PV.str:=fun _ _=>rfl
theorem Codec.getN {A:Type} (C:Codec A) {l:List A} {j:Nat} {x:A} (h:l[j]? = some x):(C.rows l)[j]? = some (C.cells x):=by
 rw [C.hrows]; simp [h]
theorem Codec.setN {A:Type} (C:Codec A) (l:List A) (j:Nat) (y:A):(C.rows l).set j (C.cells y) = C.rows (l.set j y):=by
 rw [C.hrows,C.hrows,List.map_set]
end Ax
end
section
open Go Ax
namespace W
abbrev lim:Nat:=1073741824
section
variable {A R S T:Type}
@[simp] theorem bnd_eq (a:A) (k:A → Option R):bnd (some a) k = k a:=rfl
@[simp] theorem chk_t (k:Option R):chk true k = k:=rfl
theorem chk_of {b:Bool} {k:Option R} (h:b = true):chk b k = k:=by subst h; rfl
theorem chk_dec {p:Prop} [Decidable p] {k:Option R} (h:p):chk (decide p) k = k:=chk_of (decide_eq_true h)
@[simp] theorem gsome_t [Inhabited A] (o:Option A):gsome true o = o:=rfl
@[simp] theorem gsome_f [Inhabited A] (o:Option A):gsome false o = some default:=rfl
theorem loopK_succ (B:(S → Option R) → S → Option R) (n:Nat) (s:S):loopK B (n + 1) s = B (loopK B n) s:=rfl
theorem idx_nat {l:List A} {i:Nat} {x:A} (h:l[i]? = some x):idx l (i:Int) = some x:=by
 unfold idx
 rw [if_pos (Int.natCast_nonneg i)]
 simpa using h
@[simp] theorem idx_zero (x:A) (l:List A):idx (x :: l) (0:Int) = some x:=rfl
@[simp] theorem idx_one (x y:A) (l:List A):idx (x :: y :: l) (1:Int) = some y:=rfl
@[simp] theorem natI_nat (n:Nat):natI (n:Int) = some n:=by
 unfold natI
 rw [if_pos (Int.natCast_nonneg n)]
 simp
theorem wrapN {k:Nat} (h:k ≤ 1152921504606846976):IntKind.i64.wrap ((k:Int) + 1) = ((k + 1:Nat):Int):=by
 rw [wrap_ok _ (by omega) (by omega)]; omega
theorem wrapC {i:Int} (h0:-1152921504606846976 ≤ i) (h1:i ≤ 1152921504606846976):IntKind.i64.wrap i = i:=wrap_ok _ (by omega) (by omega)
def orE (o k:Option R):Option R:=match o with | some r=>some r | none=>k
def outE (o:R ⊕ T) (k:T → Option R):Option R:=match o with | .inl r=>some r | .inr t=>k t
@[simp] theorem orE_some (r:R) (k:Option R):orE (some r) k = some r:=rfl
@[simp] theorem orE_none (k:Option R):orE none k = k:=rfl
@[simp] theorem outE_l (r:R) (k:T → Option R):outE (.inl r) k = some r:=rfl
@[simp] theorem outE_r (t:T) (k:T → Option R):outE (.inr t) k = k t:=rfl
end
theorem mem_lt {A:Type} {l:List A} {k:Nat} {x:A} (h:l[k]? = some x):k < l.length:=(List.getElem?_eq_some_iff.1 h).1
theorem mem_of {A:Type} {l:List A} {k:Nat} {x:A} (h:l[k]? = some x):x ∈ l:=List.mem_of_getElem? h
@[simp] theorem strs_len (l:List (List UInt8)):(strs l).length = l.length:=by simp [strs]
@[simp] theorem intRows_len (k:IntKind) (l:List Int):(intRows k l).length = l.length:=by simp [intRows]
@[simp] theorem bRows_len (l:List UInt8):(bRows l).length = l.length:=by simp [bRows]
@[simp] theorem valRows_len (l:List Val):(Val.rows l).length = l.length:=by rw [rows_eq]; simp
theorem dec_lt {k m:Nat} (h:k < m):decide ((k:Int) < (m:Int)) = true:=decide_eq_true (by omega)
theorem dec_nlt {m:Nat}:decide ((m:Int) < (m:Int)) = false:=decide_eq_false (by omega)
end W
end
section
open Go Go.Proofs Go.RowKit
namespace Ax
variable {Lw:Nat}
theorem fresh_row {bs:(Base Lw)} {ρ:List Value} {H:(PH Lw)} {lo:List AObj} {w w':World} (s:SatW bs ρ H lo w) {e:TypeId} {z n:Nat} {v':Value} {xs:List Value} (hb:Below w.heap.size w w')
  (hown:w'.ownsRow w.heap.size e z v' n xs) (h1:∀ u ∈ xs,u.oneCell' = true) :
  PH.le H (grownH H v' xs) ∧ w'.ownsRow 0 e z v' n xs ∧ SatW bs (ρ ++ [v']) (grownH H v' xs) (lo ++ [.tail e z n]) w':=by
 have hge:∀ b,blkOf v' = some b → w.heap.size ≤ b:=by
  intro b hb
  rcases hown.2 with ⟨rfl,_⟩ | ⟨g,cap,cur,rfl,hg,_⟩
  ·simp [blkOf] at hb
  ·simp [blkOf] at hb; omega
 have hno:∀ b o u,blkOf v' = some b → H b o = some u → False:=fun b o u hb hu=>by
  have h2:=s.sath.lt hu
  have h3:=hge b hb
  omega
 have hle:PH.le H (grownH H v' xs):=by
  intro b o u hu
  unfold grownH
  rw [if_neg (fun hc=>hno b o u hc.1 hu)]
  exact hu
 have hown0:w'.ownsRow 0 e z v' n xs:=⟨hown.1,hown.2.imp id fun ⟨g,cap,cur,a,b,c⟩=>⟨g,cap,cur,a,Nat.zero_le _,c⟩⟩
 have hcell:∀ g,blkOf v' = some g → ∀ o u,xs[o]? = some u → w'.cell? ⟨g,o,none⟩ = some u:=by
  intro g hg o u hu
  have:=hown0.cells (g:=g) (by
   rcases hown0.2 with ⟨rfl,_⟩ | ⟨g',cap,cur,rfl,_⟩
   ·simp [blkOf] at hg
   ·simpa [blkOf,Value.ownBlock] using hg) o u hu
  rwa [Addr.add_lit,Nat.zero_add] at this
 have hkeep:∀ S,Keep S w w':=fun S=>⟨hb.os,hb.tape,hb.output,hb.size,fun k hk _=>hb.block k hk⟩
 have hsat:SatH (grownH H v' xs) w':=by
  refine ⟨?_,s.sath.root.mono hle,Nat.le_trans s.sath.low hb.size,?_⟩
  rotate_left
  ·intro b o u hu hL
   by_cases hbv:blkOf v' = some b
   ·exact .own hown0 hbv
   ·unfold grownH at hu
    rw [if_neg (fun hc=>hbv hc.1)] at hu
    exact (s.sath.nf b o u hu hL).block (hb.block b (s.sath.lt hu))
  intro b o u hu
  unfold grownH at hu
  split at hu
  ·rename_i hc
   exact ⟨hcell b hc.1 o u hu,h1 u (List.mem_of_getElem? hu)⟩
  ·obtain ⟨hcl,hone⟩:=s.sath.cell b o u hu
   refine ⟨?_,hone⟩
   rw [World.cell?_of_block (w:=w) (a:=⟨b,o,none⟩) (hb.block b (s.sath.lt hu))]
   exact hcl
 have hok:∀ ρ,ObjOk ρ (grownH H v' xs) w' v' (.tail e z n):=by
  intro ρ
  refine ⟨xs,hown0,fun b hb=>⟨fun j u hu=>?_,fun o ho=>?_⟩⟩
  ·unfold grownH
   rw [if_pos ⟨hb,(List.getElem?_eq_some_iff.1 hu).1⟩]
   exact hu
  ·unfold grownH
   rw [if_neg (by rw [hown.1]; omega)]
   cases hx:H b o with
   | none=>rfl
   | some u=>exact (hno b o u hb hx).elim
 have hnew:∀ b o u,grownH H v' xs b o = some u → (∃ u,H b o = some u) ∨ blkOf v' = some b:=by
  intro b o u hu
  unfold grownH at hu
  split at hu
  ·rename_i hc; exact .inr hc.1
  ·exact .inl ⟨u,hu⟩
 refine ⟨hle,hown0,?_⟩
 cases hv:blkOf v' with
 | none =>
  refine s.push (g:=w.heap.size) (.inr hv) (s.fresh (Nat.le_refl _)) (.inr s.keep.size) hle hsat (fun b o u hu=>?_) (hkeep _) (hok _)
  rcases hnew b o u hu with h | h
  ·exact .inl h
  ·rw [hv] at h; cases h
 | some g =>
  refine s.push (g:=g) (.inl hv) (s.fresh (hge g hv)) (.inr (Nat.le_trans s.keep.size (hge g hv))) hle hsat (fun b o u hu=>?_) (hkeep _) (hok _)
  rcases hnew b o u hu with h | h
  ·exact .inl h
  ·rw [hv] at h; exact .inr (Option.some.inj h).symm
theorem strs_V (H:(PH Lw)):∀ (l:List (List UInt8)),RepV H 1 (strs l) (l.map fun s=>Value.string ⟨s.toArray⟩)
 | []=>by simp [strs,RepV]
 | b :: l=>by
  have:=strs_V H l
  unfold strs at this ⊢
  simp only [List.map_cons,RepV]
  refine ⟨rfl,[.string ⟨b.toArray⟩],l.map fun s=>Value.string ⟨s.toArray⟩,by simp,?_,this⟩
  simp [RepL,RepP]
theorem strs_cells {H:(PH Lw)} {b z:Nat}:∀ {x:List (List UInt8)} {o:Nat},RepR H b z o (strs x) → ∀ (j:Nat) (l:List UInt8),x[j]? = some l → H b (o + j) = some (.string ⟨l.toArray⟩)
 | [],_,_,j,l,h=>by simp at h
 | y :: x,o,r,j,l,h=>by
  simp only [strs,List.map_cons,RepR] at r
  obtain ⟨hz,⟨vs,rl,rc⟩,r2⟩:=r
  have hz:z = 1:=by simpa using hz.symm
  subst hz
  cases j with
  | zero =>
   simp only [List.getElem?_cons_zero,Option.some.injEq] at h
   subst h
   simp only [RepL,RepP] at rl
   obtain ⟨u,vs',rfl,rfl,_⟩:=rl
   exact rc 0 _ rfl
  | succ j =>
   have:=strs_cells (x:=x) r2 j l (by simpa using h)
   rw [show o + (j + 1) = o + 1 + j from by omega]
   exact this
theorem clone_texts {P:Program} {f:FuncId} (enter:∀ vs w,(callFunc f vs).run P w = .ok (.enter f vs) w) {e:TypeId}
  (cNil:∀ (n c:Nat) (w:World),Calls P f #[.slice none n c] w fun e' w'=>e' = .returned (.slice none 0 0) ∧ w' = w)
  (cZero:∀ (a:Addr) (c:Nat) (w:World),Calls P f #[.slice (some a) 0 c] w fun e' w'=>∃ v',e' = .returned v' ∧ w'.ownsRow w.heap.size e 1 v' 0 [] ∧ v' ≠ .slice none 0 0 ∧ Below w.heap.size w w')
  (cSome:∀ (b off n c:Nat) (zs:List ByteArray) (w:World),n ≤ zs.length → n * 16 ≤ 140737488355328 → (∀ j,j < zs.length → w.cell? ⟨b,off + j,none⟩ = some (.string (zs.getD j ByteArray.empty))) →
   Calls P f #[.slice (some ⟨b,off,none⟩) n c] w fun e' w'=>∃ v',e' = .returned v' ∧ w'.ownsRow w.heap.size e 1 v' n ((zs.take n).map Value.string) ∧ v' ≠ .slice none 0 0 ∧ Below w.heap.size w w')
  (x:List (List UInt8)) (hbig:(strs x).length * 16 ≤ 140737488355328):CallsO P f [.p (.sl (strs x))] [] 0 (fun v lo=>v = .tsl 0 (strs x) ∧ lo = [.tail e 1 (strs x).length]):=by
 intro Lw bs ρ H w vs hr0 s rl
 have hlo:ρ = []:=List.eq_nil_of_length_eq_zero s.hlen
 subst hlo
 obtain ⟨v,vs',rfl,rv,hvs⟩:=rl
 obtain rfl:vs' = []:=hvs
 have rv:RepP H (.sl (strs x)) v:=rv
 rw [enter]
 refine ⟨rfl,?_⟩
 have hl:(strs x).length = x.length:=by simp [strs]
 have base:Calls P f [v].toArray w fun e' w'=>∃ v',e' = .returned v' ∧ w'.ownsRow w.heap.size e 1 v' x.length (x.map fun s=>Value.string ⟨s.toArray⟩) ∧ Below w.heap.size w w':=by
  simp only [RepP] at rv
  rcases rv with ⟨h0,rfl | ⟨a,cap,rfl⟩⟩ | ⟨b,o,z,cap,rfl,hcap,rr⟩
  ·have hx:x = []:=by cases x with | nil=>rfl | cons _ _=>cases h0
   subst hx
   refine (cNil 0 0 w).mono fun e' w' p=>?_
   obtain ⟨rfl,rfl⟩:=p
   exact ⟨_,rfl,⟨by simp,.inl ⟨rfl,rfl⟩⟩,Below.refl _ _⟩
  ·have hx:x = []:=by cases x with | nil=>rfl | cons _ _=>cases h0
   subst hx
   refine (cZero a cap w).mono fun e' w' p=>?_
   obtain ⟨v',rfl,ho,_,hb⟩:=p
   exact ⟨_,rfl,ho,hb⟩
  ·rw [hl] at hbig ⊢
   refine (cSome b o x.length cap (x.map fun s=>⟨s.toArray⟩) w (by simp) hbig fun j hj=>?_).mono fun e' w' p=>?_
   ·simp only [List.length_map] at hj
    have h2:=strs_cells rr j _ (List.getElem?_eq_getElem hj)
    rw [(s.sath.cell _ _ _ h2).1]
    simp [List.getD,List.getElem?_eq_getElem hj]
   ·obtain ⟨v',rfl,ho,_,hb⟩:=p
    refine ⟨_,rfl,?_,hb⟩
    rw [List.take_of_length_le (by simp),List.map_map] at ho
    exact ho
 refine base.mono fun e' w' p=>?_
 obtain ⟨v',rfl,ho,hb⟩:=p
 obtain ⟨hle,ho0,hs⟩:=fresh_row s hb ho (fun u hu=>by obtain ⟨_,_,rfl⟩:=List.mem_map.1 hu; rfl)
 refine ⟨v',.tsl 0 (strs x),[.tail e 1 (strs x).length],[v'],_,rfl,⟨rfl,rfl⟩,hle,by rw [hl]; exact hs,rfl,append_rep (strs_V H x) hle (by rw [hl]; exact ho0)⟩
end Ax
end
section
open Go Go.Proofs Ax Go.RowKit
namespace W
theorem mixed:Tryz.prog.follows .mixedOrders = true:=by kernel_rfl
theorem calm_below {Lw:Nat} {H:PH Lw} {w w':World} (s:SatH H w) (h:Below w.heap.size w w'):Calm H w H w' :=
 ⟨PH.le.refl H,s.block h.size fun b _ _ hv=>h.block b (s.lt hv),⟨h.os,h.tape,h.output,h.size,fun k hk _=>h.block k hk⟩,fun _ _ v hv=>.inl ⟨v,hv⟩⟩
def F_strings_ReplaceAll (_:Nat) (s old new:List UInt8):Option (List UInt8) :=
 chk (decide (s.length < 4294967281)) (chk (decide (1 ≤ old.length)) (chk (decide (s.length + Lib.countB ⟨s.toArray⟩ ⟨old.toArray⟩ * new.length ≤ 140737488355328)) (some (Lib.replaceAll s old new))))
set_option maxRecDepth 100000 in
theorem F_strings_ReplaceAll_ok (n:Nat):∀ (s old new:List UInt8) (r:List UInt8),F_strings_ReplaceAll n s old new = some r → CallsF Tryz.prog 80 [.str s,.str old,.str new] (.str r):=by
 intro s old new r h
 obtain ⟨hs,h⟩:=chk_some h
 obtain ⟨h1,h⟩:=chk_some h
 obtain ⟨h2,h⟩:=chk_some h
 obtain rfl:=Option.some.inj h
 intro Lw H w vs hsat hr
 obtain ⟨m,hm⟩:=hsat.root
 have c:=Tryz.strings_ReplaceAll ⟨s.toArray⟩ ⟨old.toArray⟩ ⟨new.toArray⟩ m w (of_decide_eq_true hs) (hsat.cell _ _ _ hm).1 (of_decide_eq_true h1) (of_decide_eq_true h2)
 have e:vs = [.string ⟨s.toArray⟩,.string ⟨old.toArray⟩,.string ⟨new.toArray⟩]:=by
  simp only [RepL,RepP] at hr
  obtain ⟨_,_,rfl,rfl,_,_,rfl,rfl,_,_,rfl,rfl,rfl⟩:=hr
  rfl
 subst e
 rw [Tryz.call80]
 refine ⟨rfl,c.mono fun e w' p=>?_⟩
 exact ⟨_,H,p.1,calm_below hsat p.2,by simp [RepP]⟩
theorem enters84:∀ (args:Array Value) (w:World),(callFunc 84 args).run Tryz.prog w = .ok (.enter 84 args) w:=fun _ _=>Tryz.call84 _ _
theorem string_exact84 (b:Nat) (l:List UInt8) (w:World) (p v:Value) (hbk:w.heap[b]? = some (.cells #[p,v] 112 (0,0))) (hown:w.ownsRow 0 5 1 v l.length (Lib.byteCells l)) (h0:l ≠ []) :
  Calls Tryz.prog 84 #[.pointer (some ⟨b,0,none⟩)] w (StrPost l v w):=Any.String_exact Tryz.lays169 Tryz.Builder_Extra_169 b l w p v hbk hown h0
theorem string_empty84:StringEmpty Tryz.prog 84 112 5:=fun b w p v hbk hown=>Any.String_empty Tryz.lays169 Tryz.Builder_Extra_169 b w p v hbk hown
set_option maxRecDepth 100000 in
theorem Clone_ok (x:List (List UInt8)) (hbig:(strs x).length * 16 ≤ 140737488355328):CallsO Tryz.prog 45 [.p (.sl (strs x))] [] 0 (fun v lo=>v = .tsl 0 (strs x) ∧ lo = [.tail 9 1 (strs x).length]) :=
 clone_texts (fun _ _=>Tryz.call45 _ _) Tryz.slices_Clone_string_nil Tryz.slices_Clone_string_zero (fun b o n c zs w h1 h2 h3=>Tryz.slices_Clone_string b o n c zs w h1 h2 h3) x hbig
end W
end
section
open Go Go.Proofs Ax Go.RowKit
namespace W
set_option maxRecDepth 10000
def eightL (m:Nat):List UInt8:=[56,48,40,32,24,16,8,0].map fun s=>UInt8.ofNat (m / 2 ^ s)
theorem wrapU (n:Int) (h0:0 ≤ n) (h1:n < 18446744073709551616):IntKind.u64.wrap n = n:=by
 simp only [IntKind.wrap,IntKind.bits,IntKind.signed]
 simp
 exact Int.emod_eq_of_lt h0 h1
def esc (s:List UInt8):List UInt8:=s.flatMap fun b=>if b == 0 then [0,255] else [b]
theorem replaceK_ne (b c:UInt8) (h:b ≠ c) (new:List UInt8):∀ (k:Nat) (l:List UInt8),Lib.replaceK [c] new k (b :: l) = b :: Lib.replaceK [c] new k l
 | 0,_=>rfl
 | k + 1,l=>by
  have hi:Lib.index (b :: l) [c] = if Lib.index l [c] == -1 then -1 else Lib.index l [c] + 1:=by
   rw [Lib.index]
   have:([c]:List UInt8).isPrefixOf (b :: l) = false:=by simp [List.isPrefixOf,Ne.symm h]
   rw [this]; rfl
  have hge:=Lib.index_ge l [c]
  rw [Lib.replaceK,Lib.replaceK,hi]
  by_cases h1:Lib.index l [c] = -1
  ·simp [h1]
  ·have h2:(Lib.index l [c] == -1) = false:=by simp [h1]
   have h3:(Lib.index l [c] + 1 == -1) = false:=by simp; omega
   simp only [h2,h3,if_false,Bool.false_eq_true]
   have e1:(Lib.index l [c] + 1).toNat = (Lib.index l [c]).toNat + 1:=by omega
   rw [e1]
   simp
theorem replaceK_eq (c:UInt8) (new:List UInt8) (k:Nat) (l:List UInt8):Lib.replaceK [c] new (k + 1) (c :: l) = new ++ Lib.replaceK [c] new k l:=by
 have hi:Lib.index (c :: l) [c] = 0:=by rw [Lib.index]; simp [List.isPrefixOf]
 rw [Lib.replaceK,hi]
 simp
theorem replaceAll_esc (s:List UInt8):Lib.replaceAll s [0] [0,255] = esc s:=by
 have key:∀ s:List UInt8,Lib.replaceK [0] [0,255] (Lib.count s [0]) s = esc s:=by
  intro s
  induction s with
  | nil=>rfl
  | cons b l ih =>
   by_cases h:b = 0
   ·subst h
    rw [Lib.count_cons_eq,Nat.add_comm,replaceK_eq,ih]
    simp [esc]
   ·rw [Lib.count_cons_ne _ _ _ h,replaceK_ne _ _ h,ih]
    simp [esc,h]
 unfold Lib.replaceAll Lib.replace Lib.replaceNum
 simp only [show ((-1:Int) < 0) from by decide,true_or,if_true]
 rw [key]
 rfl
theorem esc_length (s:List UInt8):(esc s).length ≤ 2 * s.length:=by
 induction s with
 | nil=>exact Nat.le_refl _
 | cons b l ih =>
  have e:esc (b :: l) = (if b == 0 then [0,255] else [b]) ++ esc l:=rfl
  rw [e,List.length_append,List.length_cons]
  split
  ·show 2 + _ ≤ _; omega
  ·show 1 + _ ≤ _; omega
def endedM (s:List UInt8):List UInt8:=esc s ++ [0,0]
def bits64 (i:Int):Nat:=(i % 18446744073709551616).toNat
mutual
def layM:Val → List UInt8
 | .mk k b i s l ks =>
  bif k == 1 then [6,bif b then 1 else 0]
  else bif k == 2 then 7 :: eightL (bits64 i ^^^ 9223372036854775808)
  else bif k == 3 then 5 :: endedM s
  else bif k == 6 then 2 :: eightL (bits64 i)
  else bif k == 7 then 3 :: eightL (bits64 i)
  else bif k == 4 then 4 :: layL l ++ [0]
  else bif k == 5 then 1 :: layK l ks ++ [0]
  else [8]
def layL:List Val → List UInt8
 | []=>[]
 | v :: l=>layM v ++ layL l
def layK:List Val → List (List UInt8) → List UInt8
 | v :: l,k :: ks=>1 :: endedM k ++ layM v ++ layK l ks
 | _,_=>[]
end
theorem endedM_length (s:List UInt8):(endedM s).length ≤ 2 * s.length + 2:=by
 have:=esc_length s
 unfold endedM
 rw [List.length_append]
 show _ + 2 ≤ _
 omega
mutual
theorem layM_length:∀ v:Val,(layM v).length ≤ 16 * v.big
 | .mk k b i s l ks=>by
  have h1:=layL_length l
  have h2:=layK_length l ks
  have h3:=endedM_length s
  unfold layM
  simp only [Val.big]
  cases k == 1 <;> cases k == 2 <;> cases k == 3 <;> cases k == 6 <;> cases k == 7 <;> cases k == 4 <;> cases k == 5 <;> simp [eightL] <;> omega
theorem layL_length:∀ l:List Val,(layL l).length ≤ 16 * bigs l
 | []=>Nat.zero_le _
 | v :: l=>by
  have h1:=layM_length v
  have h2:=layL_length l
  simp only [layL,bigs,List.length_append]; omega
theorem layK_length:∀ (l:List Val) (ks:List (List UInt8)),(layK l ks).length ≤ 16 * bigs l + 16 * kbig ks
 | [],_=>by simp [layK]
 | _ :: _,[]=>by simp [layK]
 | v :: l,k :: ks=>by
  have h1:=layM_length v
  have h2:=layK_length l ks
  have h3:=endedM_length k
  simp only [layK,bigs,kbig,List.length_append,List.length_cons]; omega
end
def keyBad (l:List (List UInt8)) (i:Nat):Bool :=
 bif bif l.getD i [] == [] then true else decide (((l.getD i []).length:Int) > 64) then true
 else bif decide ((i:Int) > 0) then !Op.bytesLess (l.getD (i - 1) []) (l.getD i []) else false
def keysB (l:List (List UInt8)):Bool:=(List.range l.length).all fun i=>!keyBad l i
def bareB (k:Int) (b:Bool) (i:Int) (s:List UInt8) (nl nk:Nat):Bool :=
 bif bif bif bif bif k == 1 then true else !b then bif bif k == 2 then true else decide (k ≥ 6) then true else i == 0 else false then
  bif k == 3 then true else s == [] else false then bif bif k == 4 then true else k == 5 then true else (nl:Int) == 0 else false then
  bif k == 5 then true else (nk:Int) == 0 else false
def good1:Val → Bool
 | .mk k b i s l ks=>(decide (0 ≤ k) && decide (k ≤ 7)) && bareB k b i s l.length ks.length && !(decide (k ≥ 6) && decide (i < 1)) && !(k == 5 && (ks.length != l.length || !keysB ks))
theorem bits64_lt (i:Int):bits64 i < 18446744073709551616:=by
 have h:=Int.emod_lt_of_pos i (show (0:Int) < 18446744073709551616 by decide)
 unfold bits64; omega
theorem wrap64 (i:Int):IntKind.u64.wrap i = ((bits64 i:Nat):Int):=by
 have h:=Int.emod_nonneg i (show (18446744073709551616:Int) ≠ 0 by decide)
 simp only [bits64,IntKind.wrap,IntKind.bits,IntKind.signed]
 simp
 omega
theorem xor64 (i:Int):IntKind.u64.wrap ((BitVec.ofInt IntKind.u64.bits (IntKind.u64.wrap i) ^^^ BitVec.ofInt IntKind.u64.bits 9223372036854775808).toNat:Int) = ((bits64 i ^^^ 9223372036854775808:Nat):Int):=by
 have h1:(BitVec.ofInt IntKind.u64.bits (IntKind.u64.wrap i)).toNat = bits64 i:=by
  rw [wrap64,BitVec.toNat_ofInt]
  have:=bits64_lt i
  simp only [IntKind.bits]
  omega
 have h2:(BitVec.ofInt IntKind.u64.bits 9223372036854775808).toNat = 9223372036854775808:=rfl
 rw [BitVec.toNat_xor,h1,h2]
 have:bits64 i ^^^ 9223372036854775808 < 2 ^ 64:=Nat.xor_lt_two_pow (bits64_lt i) (by decide)
 rw [wrapU _ (Int.natCast_nonneg _) (Int.ofNat_lt.2 this)]
theorem xor_add (n:Nat) (h:n < 18446744073709551616):n ^^^ 9223372036854775808 = (n + 9223372036854775808) % 18446744073709551616:=by
 apply Nat.eq_of_testBit_eq
 intro j
 have e1:(9223372036854775808:Nat) = 2 ^ 63:=rfl
 have e2:(18446744073709551616:Nat) = 2 ^ 64:=rfl
 rw [Nat.testBit_xor,e1,Nat.testBit_two_pow]
 have tb1:∀ k,Nat.testBit 1 k = decide (0 = k):=fun k=>Nat.testBit_two_pow (n:=0) (m:=k)
 rcases Nat.lt_or_ge n (2 ^ 63) with hn | hn
 ·rw [Nat.mod_eq_of_lt (by omega)]
  have:=Nat.testBit_two_pow_mul_add 1 hn j
  rw [Nat.mul_one,Nat.add_comm] at this
  rw [this]
  by_cases hj:j < 63
  ·have h3:¬ 63 = j:=by omega
   rw [if_pos hj]; simp [h3]
  ·rw [if_neg hj,Nat.testBit_lt_two_pow (Nat.lt_of_lt_of_le hn (Nat.pow_le_pow_right (by decide) (by omega))),tb1,Bool.false_xor,decide_eq_decide]
   omega
 ·obtain ⟨m,rfl⟩:∃ m,n = 2 ^ 63 + m:=⟨n - 2 ^ 63,by omega⟩
  have hm:m < 2 ^ 63:=by omega
  have e:(2 ^ 63 + m + 2 ^ 63) % 18446744073709551616 = m:=by omega
  rw [e]
  have:=Nat.testBit_two_pow_mul_add 1 hm j
  rw [Nat.mul_one] at this
  rw [this]
  by_cases hj:j < 63
  ·have h3:¬ 63 = j:=by omega
   rw [if_pos hj]; simp [h3]
  ·rw [if_neg hj,Nat.testBit_lt_two_pow (x:=m) (Nat.lt_of_lt_of_le hm (Nat.pow_le_pow_right (by decide) (by omega))),tb1]
   have:decide (0 = j - 63) = decide (63 = j):=by rw [decide_eq_decide]; omega
   rw [this,Bool.xor_self]
def txt:List UInt8 → Option (List UInt8 × List UInt8)
 | []=>none
 | [_]=>none
 | b :: c :: r=>if b = 0 then (if c = 0 then some ([],r) else if c = 255 then (txt r).map (fun x=>(0 :: x.1,x.2)) else none) else (txt (c :: r)).map fun x=>(b :: x.1,x.2)
def beN (l:List UInt8):Nat:=l.foldl (fun n b=>n * 256 + b.toNat) 0
theorem beN_snoc (l:List UInt8) (b:UInt8):beN (l ++ [b]) = beN l * 256 + b.toNat:=by simp [beN]
theorem beN_lt:∀ l:List UInt8,beN l < 256 ^ l.length:=by
 intro l
 rw [← List.reverse_reverse l]
 generalize l.reverse = m
 induction m with
 | nil=>simp [beN]
 | cons b m ih =>
  rw [List.reverse_cons,beN_snoc,List.length_append,List.length_singleton,Nat.pow_succ]
  have:=b.toNat_lt
  omega
def offI (m:Nat):Int:=(m:Int) - 9223372036854775808
abbrev nullV:Val:=.mk 0 false 0 [] [] []
section
variable (f:List UInt8 → Option (Val × List UInt8))
def rdL:Nat → List UInt8 → List Val → Option (List Val × List UInt8)
 | 0,_,_=>none
 | _ + 1,[],_=>none
 | k + 1,b :: s,acc=>if b = 0 then some (acc,s) else match f (b :: s) with
  | some x=>rdL k x.2 (acc ++ [x.1])
  | none=>none
def rdK:Nat → List UInt8 → List Val → List (List UInt8) → Option (List Val × List (List UInt8) × List UInt8)
 | 0,_,_,_=>none
 | _ + 1,[],_,_=>none
 | k + 1,b :: s,acc,ks=>if b = 0 then some (acc,ks,s) else if b = 1 then match txt s with
  | some y=>match f y.2 with
   | some x=>rdK k x.2 (acc ++ [x.1]) (ks ++ [y.1])
   | none=>none
  | none=>none
  else none
end
def rd:Nat → List UInt8 → Option (Val × List UInt8)
 | 0,_=>none
 | _ + 1,[]=>none
 | d + 1,m :: s =>
  if m = 8 then some (nullV,s)
  else if m = 6 then (match s with | []=>none | b :: r=>if b.toNat ≤ 1 then some (.mk 1 (b == 1) 0 [] [] [],r) else none)
  else if m = 7 then (if s.length < 8 then none else some (.mk 2 false (offI (beN (s.take 8))) [] [] [],s.drop 8))
  else if m = 2 then (if s.length < 8 then none else some (.mk 6 false (IntKind.i64.wrap (beN (s.take 8))) [] [] [],s.drop 8))
  else if m = 3 then (if s.length < 8 then none else some (.mk 7 false (IntKind.i64.wrap (beN (s.take 8))) [] [] [],s.drop 8))
  else if m = 5 then (txt s).map fun x=>(.mk 3 false 0 x.1 [] [],x.2)
  else if m = 4 then (rdL (rd d) (s.length + 1) s []).map fun x=>(.mk 4 false 0 [] x.1 [],x.2)
  else if m = 1 then (rdK (rd d) (s.length + 1) s [] []).map fun x=>(.mk 5 false 0 [] x.1 x.2.1,x.2.2)
  else none
theorem rd_cons (d:Nat) (m:UInt8) (s:List UInt8):rd (d + 1) (m :: s) =
  if m = 8 then some (nullV,s)
  else if m = 6 then (match s with | []=>none | b :: r=>if b.toNat ≤ 1 then some (.mk 1 (b == 1) 0 [] [] [],r) else none)
  else if m = 7 then (if s.length < 8 then none else some (.mk 2 false (offI (beN (s.take 8))) [] [] [],s.drop 8))
  else if m = 2 then (if s.length < 8 then none else some (.mk 6 false (IntKind.i64.wrap (beN (s.take 8))) [] [] [],s.drop 8))
  else if m = 3 then (if s.length < 8 then none else some (.mk 7 false (IntKind.i64.wrap (beN (s.take 8))) [] [] [],s.drop 8))
  else if m = 5 then (txt s).map fun x=>(.mk 3 false 0 x.1 [] [],x.2)
  else if m = 4 then (rdL (rd d) (s.length + 1) s []).map fun x=>(.mk 4 false 0 [] x.1 [],x.2)
  else if m = 1 then (rdK (rd d) (s.length + 1) s [] []).map fun x=>(.mk 5 false 0 [] x.1 x.2.1,x.2.2)
  else none:=rfl
mutual
def depth:Val → Nat
 | .mk _ _ _ _ l _=>1 + depthL l
def depthL:List Val → Nat
 | []=>0
 | v :: l=>max (depth v) (depthL l)
end
theorem rd_4 (d:Nat) (s:List UInt8):rd (d + 1) (4 :: s) = (rdL (rd d) (s.length + 1) s []).map fun x=>(.mk 4 false 0 [] x.1 [],x.2):=rfl
theorem rd_1 (d:Nat) (s:List UInt8):rd (d + 1) (1 :: s) = (rdK (rd d) (s.length + 1) s [] []).map fun x=>(.mk 5 false 0 [] x.1 x.2.1,x.2.2):=rfl
theorem txt_ended:∀ (s r:List UInt8),txt (endedM s ++ r) = some (s,r)
 | [],r=>by simp [endedM,esc,txt]
 | b :: s,r=>by
  have ih:=txt_ended s r
  by_cases hb:b = 0
  ·subst hb
   have e:endedM (0 :: s) ++ r = 0 :: 255 :: (endedM s ++ r):=by simp [endedM,esc]
   rw [e,txt,if_pos rfl,if_neg (by decide),if_pos rfl,ih]
   rfl
  ·have e:endedM (b :: s) ++ r = b :: (endedM s ++ r):=by simp [endedM,esc,hb]
   have hne:endedM s ++ r ≠ []:=by simp [endedM]
   rw [e]
   cases h:endedM s ++ r with
   | nil=>exact absurd h hne
   | cons c t =>
    rw [txt,if_neg hb,← h,ih]
    rfl
theorem u8_mod (q:Nat):(UInt8.ofNat q).toNat = q % 256:=by simp
theorem beN_eight (m:Nat) (hm:m < 18446744073709551616):beN (eightL m) = m:=by
 have e:eightL m = [UInt8.ofNat (m / 2 ^ 56),UInt8.ofNat (m / 2 ^ 48),UInt8.ofNat (m / 2 ^ 40),UInt8.ofNat (m / 2 ^ 32),UInt8.ofNat (m / 2 ^ 24),UInt8.ofNat (m / 2 ^ 16),UInt8.ofNat (m / 2 ^ 8),UInt8.ofNat (m / 2 ^ 0)]:=rfl
 rw [e]
 simp only [beN,List.foldl,u8_mod]
 have h1:m / 2 ^ 8 = m / 256:=rfl
 have h2:m / 2 ^ 16 = m / 256 / 256:=by rw [Nat.div_div_eq_div_mul]
 have h3:m / 2 ^ 24 = m / 256 / 256 / 256:=by rw [Nat.div_div_eq_div_mul,Nat.div_div_eq_div_mul]
 have h4:m / 2 ^ 32 = m / 256 / 256 / 256 / 256:=by rw [Nat.div_div_eq_div_mul,Nat.div_div_eq_div_mul,Nat.div_div_eq_div_mul]
 have h5:m / 2 ^ 40 = m / 256 / 256 / 256 / 256 / 256:=by rw [Nat.div_div_eq_div_mul,Nat.div_div_eq_div_mul,Nat.div_div_eq_div_mul,Nat.div_div_eq_div_mul]
 have h6:m / 2 ^ 48 = m / 256 / 256 / 256 / 256 / 256 / 256:=by rw [Nat.div_div_eq_div_mul,Nat.div_div_eq_div_mul,Nat.div_div_eq_div_mul,Nat.div_div_eq_div_mul,Nat.div_div_eq_div_mul]
 have h7:m / 2 ^ 56 = m / 256 / 256 / 256 / 256 / 256 / 256 / 256:=by rw [Nat.div_div_eq_div_mul,Nat.div_div_eq_div_mul,Nat.div_div_eq_div_mul,Nat.div_div_eq_div_mul,Nat.div_div_eq_div_mul,Nat.div_div_eq_div_mul]
 rw [h1,h2,h3,h4,h5,h6,h7,show m / 2 ^ 0 = m by simp]
 omega
theorem eight_length (m:Nat):(eightL m).length = 8:=rfl
def int64 (i:Int):Bool:=decide (-9223372036854775808 ≤ i ∧ i < 9223372036854775808)
mutual
def range64:Val → Bool
 | .mk _ _ i _ l _=>int64 i && range64L l
def range64L:List Val → Bool
 | []=>true
 | v :: l=>range64 v && range64L l
end
theorem bits_back (i:Int) (h:int64 i = true):IntKind.i64.wrap (bits64 i:Int) = i:=by
 simp only [int64,decide_eq_true_eq] at h
 unfold bits64
 simp only [IntKind.wrap,IntKind.bits,IntKind.signed]
 simp
 split <;> omega
theorem off_back (i:Int) (h:int64 i = true):offI (bits64 i ^^^ 9223372036854775808) = i:=by
 simp only [int64,decide_eq_true_eq] at h
 rw [xor_add _ (bits64_lt i)]
 unfold offI bits64
 omega
theorem off_lt (i:Int):bits64 i ^^^ 9223372036854775808 < 18446744073709551616:=Nat.xor_lt_two_pow (n:=64) (bits64_lt i) (by decide)
mutual
def right:Val → Bool
 | .mk k b i s l ks=>good1 (.mk k b i s l ks) && rightL l
def rightL:List Val → Bool
 | []=>true
 | v :: l=>right v && rightL l
end
theorem good_shape {k:Int} {b:Bool} {i:Int} {s:List UInt8} {l:List Val} {ks:List (List UInt8)} (h:good1 (.mk k b i s l ks) = true) :
  (k = 0 ∧ b = false ∧ i = 0 ∧ s = [] ∧ l = [] ∧ ks = []) ∨ (k = 1 ∧ i = 0 ∧ s = [] ∧ l = [] ∧ ks = []) ∨ (k = 2 ∧ b = false ∧ s = [] ∧ l = [] ∧ ks = []) ∨ (k = 3 ∧ b = false ∧ i = 0 ∧ l = [] ∧ ks = []) ∨
  (k = 4 ∧ b = false ∧ i = 0 ∧ s = [] ∧ ks = []) ∨ (k = 5 ∧ b = false ∧ i = 0 ∧ s = [] ∧ ks.length = l.length ∧ keysB ks = true) ∨ (k = 6 ∧ b = false ∧ s = [] ∧ l = [] ∧ ks = [] ∧ 1 ≤ i) ∨ (k = 7 ∧ b = false ∧ s = [] ∧ l = [] ∧ ks = [] ∧ 1 ≤ i):=by
 have hk:k = 0 ∨ k = 1 ∨ k = 2 ∨ k = 3 ∨ k = 4 ∨ k = 5 ∨ k = 6 ∨ k = 7:=by
  simp only [good1,Bool.and_eq_true,decide_eq_true_eq] at h; omega
 have nl:∀ {n:Nat},((n:Int) == 0) = true → n = 0:=fun h=>by simpa using h
 rcases hk with rfl | rfl | rfl | rfl | rfl | rfl | rfl | rfl <;> simp [good1,bareB] at h <;> simp [h]
theorem lay_head (v:Val):∃ m t,layM v = m :: t ∧ m ≠ 0:=by
 obtain ⟨k,b,i,s,l,ks⟩:=v
 unfold layM
 cases k == 1 <;> cases k == 2 <;> cases k == 3 <;> cases k == 6 <;> cases k == 7 <;> cases k == 4 <;> cases k == 5 <;> exact ⟨_,_,rfl,by decide⟩
theorem rdL_cons {f:List UInt8 → Option (Val × List UInt8)} {k:Nat} {b:UInt8} {s:List UInt8} {acc:List Val} (hb:b ≠ 0) {x:Val × List UInt8} (h:f (b :: s) = some x):rdL f (k + 1) (b :: s) acc = rdL f k x.2 (acc ++ [x.1]):=by
 rw [rdL,if_neg hb,h]
mutual
theorem rd_lay:∀ (v:Val) (r:List UInt8) (d:Nat),right v = true → range64 v = true → depth v ≤ d → rd d (layM v ++ r) = some (v,r)
 | .mk k b i s l ks,r,d,hr,hi,hd=>by
  simp only [right,Bool.and_eq_true] at hr
  simp only [range64,Bool.and_eq_true] at hi
  simp only [depth] at hd
  obtain ⟨d,rfl⟩:∃ j,d = j + 1:=⟨d - 1,by omega⟩
  have ih:=rd_layL l
  have ihk:=rd_layK l
  rcases good_shape hr.1 with ⟨rfl,rfl,rfl,rfl,rfl,rfl⟩ | ⟨rfl,rfl,rfl,rfl,rfl⟩ | ⟨rfl,rfl,rfl,rfl,rfl⟩ | ⟨rfl,rfl,rfl,rfl,rfl⟩ | ⟨rfl,rfl,rfl,rfl,rfl⟩ | ⟨rfl,rfl,rfl,rfl,hkl,_⟩ | ⟨rfl,rfl,rfl,rfl,rfl,_⟩ | ⟨rfl,rfl,rfl,rfl,rfl,_⟩
  ·rfl
  ·cases b <;> rfl
  ·have e:layM (.mk 2 false i [] [] []) ++ r = 7 :: (eightL (bits64 i ^^^ 9223372036854775808) ++ r):=rfl
   rw [e,rd_cons,if_neg (by decide),if_neg (by decide),if_pos rfl,if_neg (by simp [eight_length]),List.take_left' (eight_length _),List.drop_left' (eight_length _),beN_eight _ (off_lt i),off_back i hi.1]
  ·have e:layM (.mk 3 false 0 s [] []) ++ r = 5 :: (endedM s ++ r):=rfl
   rw [e,rd_cons,if_neg (by decide),if_neg (by decide),if_neg (by decide),if_neg (by decide),if_neg (by decide),if_pos rfl,txt_ended]
   rfl
  ·have e:layM (.mk 4 false 0 [] l []) ++ r = 4 :: (layL l ++ 0 :: r):=by
    show (4 :: layL l ++ [0]) ++ r = _
    simp
   rw [e,rd_4,ih r [] d _ hr.2 hi.2 (by omega) (by simp)]
   rfl
  ·have e:layM (.mk 5 false 0 [] l ks) ++ r = 1 :: (layK l ks ++ 0 :: r):=by
    show (1 :: layK l ks ++ [0]) ++ r = _
    simp
   rw [e,rd_1,ihk ks r [] [] d _ hr.2 hi.2 hkl (by omega) (by simp)]
   rfl
  ·have e:layM (.mk 6 false i [] [] []) ++ r = 2 :: (eightL (bits64 i) ++ r):=rfl
   rw [e,rd_cons,if_neg (by decide),if_neg (by decide),if_neg (by decide),if_pos rfl,if_neg (by simp [eight_length]),List.take_left' (eight_length _),List.drop_left' (eight_length _),beN_eight _ (bits64_lt i),bits_back i hi.1]
  ·have e:layM (.mk 7 false i [] [] []) ++ r = 3 :: (eightL (bits64 i) ++ r):=rfl
   rw [e,rd_cons,if_neg (by decide),if_neg (by decide),if_neg (by decide),if_neg (by decide),if_pos rfl,if_neg (by simp [eight_length]),List.take_left' (eight_length _),List.drop_left' (eight_length _),beN_eight _ (bits64_lt i),bits_back i hi.1]
theorem rd_layL:∀ (l:List Val) (r:List UInt8) (acc:List Val) (d k:Nat),rightL l = true → range64L l = true → depthL l ≤ d → (layL l ++ 0 :: r).length < k → rdL (rd d) k (layL l ++ 0 :: r) acc = some (acc ++ l,r)
 | [],r,acc,d,k,_,_,_,hk=>by
  obtain ⟨k,rfl⟩:∃ j,k = j + 1:=⟨k - 1,by omega⟩
  simp [layL,rdL]
 | v :: l,r,acc,d,k,hr,hi,hd,hk=>by
  obtain ⟨k,rfl⟩:∃ j,k = j + 1:=⟨k - 1,by omega⟩
  simp only [rightL,Bool.and_eq_true] at hr
  simp only [range64L,Bool.and_eq_true] at hi
  simp only [depthL] at hd
  have h1:=rd_lay v (layL l ++ 0 :: r) d hr.1 hi.1 (by omega)
  obtain ⟨m,t,hm,hm0⟩:=lay_head v
  have e:layL (v :: l) ++ 0 :: r = m :: (t ++ (layL l ++ 0 :: r)):=by simp [layL,hm]
  rw [hm,List.cons_append] at h1
  simp only [layL,List.length_append,List.length_cons,hm] at hk
  rw [e,rdL_cons hm0 h1,rd_layL l r _ d k hr.2 hi.2 (by omega) (by simp; omega)]
  simp
theorem rd_layK:∀ (l:List Val) (ks:List (List UInt8)) (r:List UInt8) (acc:List Val) (ka:List (List UInt8)) (d k:Nat),rightL l = true → range64L l = true → ks.length = l.length → depthL l ≤ d → (layK l ks ++ 0 :: r).length < k →
  rdK (rd d) k (layK l ks ++ 0 :: r) acc ka = some (acc ++ l,ka ++ ks,r)
 | [],ks,r,acc,ka,d,k,_,_,hl,_,hk=>by
  obtain ⟨k,rfl⟩:∃ j,k = j + 1:=⟨k - 1,by omega⟩
  have:ks = []:=List.length_eq_zero_iff.1 hl
  subst this
  simp [layK,rdK]
 | v :: l,[],r,acc,ka,d,k,_,_,hl,_,_=>by cases hl
 | v :: l,key :: ks,r,acc,ka,d,k,hr,hi,hl,hd,hk=>by
  obtain ⟨k,rfl⟩:∃ j,k = j + 1:=⟨k - 1,by omega⟩
  simp only [rightL,Bool.and_eq_true] at hr
  simp only [range64L,Bool.and_eq_true] at hi
  simp only [depthL] at hd
  have h1:=rd_lay v (layK l ks ++ 0 :: r) d hr.1 hi.1 (by omega)
  have h2:=txt_ended key (layM v ++ (layK l ks ++ 0 :: r))
  have e:layK (v :: l) (key :: ks) ++ 0 :: r = 1 :: (endedM key ++ (layM v ++ (layK l ks ++ 0 :: r))):=by simp [layK]
  simp only [layK,List.length_append,List.length_cons] at hk
  rw [e,rdK,if_neg (by decide),if_pos rfl,h2]
  simp only
  rw [h1]
  simp only
  rw [rd_layK l ks r _ _ d k hr.2 hi.2 (by simpa using hl) (by omega) (by simp; omega)]
  simp
end
end W
end
section
namespace Ax
open Go
variable {Lw:Nat}
def pureL:List FV → Option (List PV)
 | []=>some []
 | .p v :: l=>match pureL l with | some r=>some (v :: r) | none=>none
 | .tsl _ rows :: l=>match pureL l with | some r=>some (.sl rows :: r) | none=>none
 | .hptr row :: l=>match pureL l with | some r=>some (.hp row :: r) | none=>none
 | _=>none
theorem pureL_rep {ρ:List Value} {H:(PH Lw)}:∀ {cs:List FV} {row:List PV} {vs:List Value},pureL cs = some row → RepFL ρ H cs vs → RepL H row vs
 | [],row,vs,h,r=>by simp only [pureL] at h; cases h; simp only [RepL]; exact r
 | c :: cs,row,vs,h,r=>by
  obtain ⟨u,us,e,r1,r2⟩:=r
  cases c <;> simp only [pureL] at h <;> try (exact absurd h (by simp))
  ·split at h
   ·rename_i q hq
    cases h
    simp only [RepL]
    exact ⟨u,us,e,r1,pureL_rep hq r2⟩
   ·cases h
  ·split at h
   ·rename_i q hq
    cases h
    simp only [RepL]
    exact ⟨u,us,e,r1.2,pureL_rep hq r2⟩
   ·cases h
  ·split at h
   ·rename_i q hq
    cases h
    simp only [RepL]
    refine ⟨u,us,e,?_,pureL_rep hq r2⟩
    simp only [RepP]
    exact r1
   ·cases h
theorem SatW.publishBox {bs:(Base Lw)} {ρ:List Value} {H:(PH Lw)} {lo:List AObj} {w:World} (s:SatW bs ρ H lo w) {k:Nat} {t:TypeId} {cells:List FV} {row:List PV} {v:Value} (ho:lo[k]? = some (.box t cells)) (hv:ρ[k]? = some v)
  (hp:pureL cells = some row) (h1:row.all oneP = true):∃ H' b vs,PH.le H H' ∧ SatW bs ρ H' (lo.set k .dead) w ∧ v = .pointer (some ⟨b,0,none⟩) ∧ RepL H' row vs ∧ ∀ j u,vs[j]? = some u → H' b j = some u:=by
 obtain ⟨b,vs,rfl,hg,hcs,hh⟩:=s.objs k _ _ ho hv
 have hr:=pureL_rep hp hcs
 have hone:∀ u ∈ vs,u.oneCell' = true:=RepL.one (fun c hc=>List.all_eq_true.1 h1 c hc) hr
 have hle:PH.le H (grownH H (.pointer (some ⟨b,0,none⟩)) vs):=by
  intro b' o u hu
  unfold grownH
  split
  ·rename_i hc
   obtain ⟨e1,_⟩:=hc
   simp only [blkOf,Option.some.injEq] at e1
   subst e1
   rw [hh o] at hu
   cases hu
  ·exact hu
 have sk:=s.kill k
 refine ⟨grownH H (.pointer (some ⟨b,0,none⟩)) vs,b,vs,hle,?_,rfl,RepL.mono hle hr,fun j u hu=>?_⟩
 ·refine { sath:=⟨fun b' o u hu=>?_,s.sath.root.mono hle,s.sath.low,fun b' o u hu hL=>by
   by_cases hbv:b = b'
   ·subst hbv; exact .of hg
   ·unfold grownH at hu
    rw [if_neg (fun hc=>hbv (by simpa [blkOf] using hc.1))] at hu
    exact s.sath.nf b' o u hu hL⟩,hlen:=sk.hlen,pre:=sk.pre,objs:=fun i oi vi hi hvi=>?_,excl:=sk.excl,own:=sk.own,keep:=sk.keep,leH:=sk.leH.trans hle,newH:=fun b' o u hu=>?_ }
  ·unfold grownH at hu
   split at hu
   ·rename_i hc
    obtain ⟨e1,_⟩:=hc
    simp only [blkOf,Option.some.injEq] at e1
    subst e1
    refine ⟨?_,hone u (List.mem_of_getElem? hu)⟩
    simp only [World.cell?,hg]
    simpa using hu
   ·exact s.sath.cell b' o u hu
  ·rw [List.getElem?_set] at hi
   split at hi
   ·split at hi
    ·cases hi; trivial
    ·cases hi
   ·rename_i hne
    cases hl:oi.live with
    | false=>cases oi <;> simp [AObj.live] at hl; trivial
    | true =>
     refine (s.objs i oi vi hi hvi).keep (List.prefix_refl _) hle (fun _ _ _=>rfl) (fun b' o' hb' _ hn=>?_)
     unfold grownH
     rw [if_neg (fun hc=>s.excl k i _ oi _ vi b' ho hi hv hvi hne rfl hl hc.1 hb')]
     exact hn
  ·unfold grownH at hu
   split at hu
   ·rename_i hc
    exact .inr (s.own k _ _ b' ho hv rfl hc.1)
   ·exact s.newH b' o u hu
 ·unfold grownH
  rw [if_pos ⟨by simp [blkOf],(List.getElem?_eq_some_iff.1 hu).1⟩]
  exact hu
def subP (k:Nat) (row:List PV):FV → FV
 | .ptr k' off=>match Nat.beq k' k with | true=>.hptr (row.drop off) | false=>.ptr k' off
 | .clo f c=>.clo f (subP k row c)
 | .cap a b=>.cap (subP k row a) (subP k row b)
 | v=>v
theorem subP_rep {ρ:List Value} {H H':(PH Lw)} {k:Nat} {row:List PV} {b:Nat} {vs:List Value} (hv:ρ[k]? = some (.pointer (some ⟨b,0,none⟩))) (hr:RepL H' row vs) (hc:∀ j u,vs[j]? = some u → H' b j = some u) (hle:PH.le H H') {f:FV} {x:Value} (r:RepF ρ H f x) :
  RepF ρ H' (subP k row f) x:=by
 induction f generalizing x with
 | ptr k' off =>
  simp only [subP]
  split
  ·rename_i hb
   have e:=Nat.eq_of_beq_eq_true hb
   subst e
   obtain ⟨b',h1,rfl⟩:=r
   rw [hv] at h1
   cases h1
   exact ⟨b,off,vs.drop off,rfl,hr.drop off,fun j u hu=>hc _ _ (by simpa using hu)⟩
  ·exact r.mono (List.prefix_refl _) hle
 | clo f c ih =>
  obtain ⟨us,e,r⟩:=r
  exact ⟨us,e,ih r⟩
 | cap a b iha ihb =>
  obtain ⟨u,us,e,ra,rb⟩:=r
  exact ⟨u,us,e,iha ra,ihb rb⟩
 | _=>exact r.mono (List.prefix_refl _) hle
def subPL (k:Nat) (row:List PV):List FV → List FV
 | []=>[]
 | v :: l=>subP k row v :: subPL k row l
def deadK:Nat → List AObj → List AObj
 | _,[]=>[]
 | 0,_ :: l=>.dead :: l
 | n + 1,o :: l=>o :: deadK n l
theorem deadK_eq:∀ (k:Nat) (lo:List AObj),deadK k lo = lo.set k .dead
 | _,[]=>by simp [deadK]
 | 0,a :: l=>by simp [deadK]
 | n + 1,a :: l=>by simp [deadK,deadK_eq n l]
theorem CallsI.pubBox {P:Program} {f:FuncId} {args:List FV} {lo:List AObj} {R:FV → List AObj → Prop} (k:Nat) {t:TypeId} {cells:List FV} {row:List PV} (ho:lo[k]? = some (.box t cells)) (hp:pureL cells = some row) (h1:row.all oneP = true)
  (h:CallsI P f (subPL k row args) (deadK k lo) R):CallsI P f args lo R:=by
 intro Lw bs ρ H w vs s rl
 have hk:k < ρ.length:=by rw [s.hlen]; exact (List.getElem?_eq_some_iff.1 ho).1
 have hv:ρ[k]? = some ρ[k]:=List.getElem?_eq_getElem hk
 obtain ⟨H',b,cs,hle,s',e,hr,hc⟩:=s.publishBox ho hv hp h1
 rw [e] at hv
 have sub:∀ {xs:List FV} {us:List Value},RepFL ρ H xs us → RepFL ρ H' (subPL k row xs) us:=by
  intro xs
  induction xs with
  | nil=>intro us r; exact r
  | cons x xs ih =>
   intro us r
   obtain ⟨u,us',e,r1,r2⟩:=r
   exact ⟨u,us',e,subP_rep hv hr hc hle r1,ih r2⟩
 rw [deadK_eq] at h
 have:=h bs ρ H' w vs s' (sub rl)
 have after:∀ {r lo' v w'},After bs ρ H' r lo' v w' → After bs ρ H r lo' v w':=fun ⟨ρ2,H2,a,b,c,d⟩=>⟨ρ2,H2,a,hle.trans b,c,d⟩
 generalize (callFunc f vs.toArray).run P w = x at *
 cases x with
 | ok n w' =>
  cases n <;> simp only at this ⊢ <;> try exact this
  ·obtain ⟨r,lo',a,kk⟩:=this; exact ⟨r,lo',after a,kk⟩
  ·obtain ⟨e,hcc⟩:=this
   exact ⟨e,hcc.mono fun en w'' ⟨v,r,lo',e,a,kk⟩=>⟨v,r,lo',e,after a,kk⟩⟩
 | halt x w'=>exact this
end Ax
end
section
open Go Go.Proofs Ax
namespace W
abbrev R_F_R03_unused (r:Bool):PV:=PV.bool r
def F_R03_unused (n:Nat)  (a0_:Val):Option (Bool) :=
 match a0_ with
 | ⟨x1,x2,x3,x4,x5,x6⟩ =>
 bif (bif (x1 != (1:Int)) then x2 else false) then (
 some false)
 else (
 bif (bif (bif (bif (x1 != (2:Int)) then (x1 != (6:Int)) else false) then (x1 != (7:Int)) else false) then (x3 != (0:Int)) else false) then (
 some false)
 else (
 bif (bif (x1 != (3:Int)) then (!(x4 == ([]:List UInt8))) else false) then (
 some false)
 else (
 bif (bif (bif (x1 != (4:Int)) then (x1 != (5:Int)) else false) then (decide ((((Val.rows x5).length:Nat):Int) > (0:Int))) else false) then (
 some false)
 else (
 some (bif (x1 == (5:Int)) then true else ((((strs x6).length:Nat):Int) == (0:Int)))))))
set_option maxHeartbeats 20000000 in
set_option maxRecDepth 100000 in
theorem F_R03_unused_ok (n:Nat)   : ∀ (a0_:Val) (r:Bool),F_R03_unused n a0_ = some r → CallsF Tryz.prog 68 [PV.agg (valC.cells a0_)] (R_F_R03_unused r):=by
 intro a0_ r h
 obtain ⟨x1,x2,x3,x4,x5,x6⟩:=a0_
 unfold F_R03_unused at h
 refine CallsF.of_vcN mixed (fun _ _=>Tryz.call68 _ _) Tryz.func68 (by kernel_rfl) (inl:=[1000000]) ?_
 conv=>whnf
 iterate 2 (refine And.intro (fun h=>h) ?_)
 conv=>whnf
 refine ⟨fun hc=>?_,fun hc=>?_⟩
 ·replace h:=cond_t h hc
  obtain rfl:=Option.some.inj h
  conv=>whnf
  repeat (first | exact rfl | exact trivial | refine ⟨?_,?_⟩)
 ·replace h:=cond_f h hc
  conv=>whnf
  iterate 9 (refine And.intro (fun h=>h) ?_)
  conv=>whnf
  refine ⟨fun hc=>?_,fun hc=>?_⟩
  ·replace h:=cond_t h hc
   obtain rfl:=Option.some.inj h
   conv=>whnf
   repeat (first | exact rfl | exact trivial | refine ⟨?_,?_⟩)
  ·replace h:=cond_f h hc
   conv=>whnf
   iterate 3 (refine And.intro (fun h=>h) ?_)
   conv=>whnf
   refine ⟨fun hc=>?_,fun hc=>?_⟩
   ·replace h:=cond_t h hc
    obtain rfl:=Option.some.inj h
    conv=>whnf
    repeat (first | exact rfl | exact trivial | refine ⟨?_,?_⟩)
   ·replace h:=cond_f h hc
    conv=>whnf
    iterate 7 (refine And.intro (fun h=>h) ?_)
    conv=>whnf
    refine ⟨fun hc=>?_,fun hc=>?_⟩
    ·replace h:=cond_t h hc
     obtain rfl:=Option.some.inj h
     conv=>whnf
     repeat (first | exact rfl | exact trivial | refine ⟨?_,?_⟩)
    ·replace h:=cond_f h hc
     conv=>whnf
     iterate 4 (refine And.intro (fun h=>h) ?_)
     obtain rfl:=Option.some.inj h
     conv=>whnf
     repeat (first | exact rfl | exact trivial | refine ⟨?_,?_⟩)
abbrev R_F_R03_may (r:Int × Bool):PV:=PV.tup [PV.int .i64 r.1,PV.bool r.2]
def F_R03_may_l1 (n:Nat) (x5:List Val) (g54:Val → Int → Int → Option (Int × Bool)) (x7:Int):(Int × Int → Option (Int × Bool)) → Int × Int → Option (Int × Bool):=fun nx1 (x10,x11) =>
 bif (decide (x11 < (((Val.rows x5).length:Nat):Int))) then (
 bnd (idx x5 x11) fun ⟨x12,x13,x14,x15,x16,x17⟩ =>
 bnd (g54 (Val.mk x12 x13 x14 x15 x16 x17) (IntKind.i64.wrap (x7 - (1:Int))) x10) fun ⟨x18,x19⟩ =>
 bif (!x19) then (
 some (x18,false))
else (
 nx1 (x18,(IntKind.i64.wrap (x11 + (1:Int))))))
else (
 some (x10,true))
def F_R03_may_k1 (n:Nat) (x5:List Val) (g54:Val → Int → Int → Option (Int × Bool)) (x7:Int) (x8:Int):Unit → Option (Int × Bool):=fun _ =>
 loopK (F_R03_may_l1 n x5 g54 x7) n ((IntKind.i64.wrap (x8 + (1:Int))),(0:Int))
def F_R03_may_l2 (n:Nat) (x6:List (List UInt8)) (x8:Int) (x5:List Val) (g54:Val → Int → Int → Option (Int × Bool)) (x7:Int):(Int → Option (Int × Bool)) → Int → Option (Int × Bool):=fun nx2 x20 =>
 bif (decide (x20 < (((strs x6).length:Nat):Int))) then (
 bnd (idx x6 x20) fun x21 =>
 bnd (gsome (!(decide (((x21.length:Nat):Int) < (1:Int)))) (idx x6 x20)) fun x22 =>
 bnd (gsome ((!(bif (decide (((x21.length:Nat):Int) < (1:Int))) then true else (decide (((x22.length:Nat):Int) > (64:Int))))) && (decide (x20 > (0:Int)))) (idx x6 x20)) fun x23 =>
 bnd (gsome ((!(bif (decide (((x21.length:Nat):Int) < (1:Int))) then true else (decide (((x22.length:Nat):Int) > (64:Int))))) && (decide (x20 > (0:Int)))) (idx x6 (IntKind.i64.wrap (x20 - (1:Int))))) fun x24 =>
 bif (bif (bif (decide (((x21.length:Nat):Int) < (1:Int))) then true else (decide (((x22.length:Nat):Int) > (64:Int)))) then true else (bif (decide (x20 > (0:Int))) then (Op.bytesLess x23 x24 || x23 == x24) else false)) then (
 some ((IntKind.i64.wrap (x8 + (1:Int))),false))
else (
 nx2 (IntKind.i64.wrap (x20 + (1:Int)))))
else (
 F_R03_may_k1 n x5 g54 x7 x8 ())
def BF_R03_may (n:Nat) (g54:Val → Int → Int → Option (Int × Bool)) (a0_:Val) (x7:Int) (x8:Int):Option (Int × Bool) :=
 match a0_ with
 | ⟨x1,x2,x3,x4,x5,x6⟩ =>
 bnd (gsome (!(bif (bif (bif (decide ((IntKind.i64.wrap (x8 + (1:Int))) > (4096:Int))) then true else (decide (x7 < (1:Int)))) then true else (decide (x1 < (0:Int)))) then true else (decide (x1 > (7:Int))))) (F_R03_unused n (Val.mk x1 x2 x3 x4 x5 x6))) fun x9 =>
 bif (bif (bif (bif (bif (decide ((IntKind.i64.wrap (x8 + (1:Int))) > (4096:Int))) then true else (decide (x7 < (1:Int)))) then true else (decide (x1 < (0:Int)))) then true else (decide (x1 > (7:Int)))) then true else (!x9)) then (
 some ((IntKind.i64.wrap (x8 + (1:Int))),false))
 else (
 bif (bif (bif (x1 == (6:Int)) then true else (x1 == (7:Int))) then (decide (x3 < (1:Int))) else false) then (
 some ((IntKind.i64.wrap (x8 + (1:Int))),false))
 else (
 bif (x1 == (5:Int)) then (
 bif ((((strs x6).length:Nat):Int) != (((Val.rows x5).length:Nat):Int)) then (
 some ((IntKind.i64.wrap (x8 + (1:Int))),false))
 else (
 loopK (F_R03_may_l2 n x6 x8 x5 g54 x7) n (0:Int)))
 else (
 F_R03_may_k1 n x5 g54 x7 x8 ())))
set_option maxHeartbeats 20000000 in
set_option maxRecDepth 100000 in
theorem BF_R03_may_ok (n:Nat) (g54:Val → Int → Int → Option (Int × Bool)) (g54_ok:∀ (a0_:Val) (x7:Int) (x8:Int) (r:Int × Bool),g54 a0_ x7 x8 = some r → CallsF Tryz.prog 54 [PV.agg (valC.cells a0_),PV.int .i64 x7,PV.int .i64 x8] (R_F_R03_may r)):∀ (a0_:Val) (x7:Int) (x8:Int) (r:Int × Bool),BF_R03_may n g54 a0_ x7 x8 = some r → CallsF Tryz.prog 54 [PV.agg (valC.cells a0_),PV.int .i64 x7,PV.int .i64 x8] (R_F_R03_may r):=by
 intro a0_ x7 x8 r h
 obtain ⟨x1,x2,x3,x4,x5,x6⟩:=a0_
 unfold BF_R03_may at h
 refine CallsF.of_vcN mixed (fun _ _=>Tryz.call54 _ _) Tryz.func54 (by kernel_rfl) (inl:=[1000000]) ?_
 conv=>whnf
 iterate 9 (refine And.intro (fun h=>h) ?_)
 conv=>whnf
 replace h:=bnd_some h
 obtain ⟨x9,h7,h⟩:=h
 refine ⟨_,fun hg=>(F_R03_unused_ok n _  _ (gsome_some h7 hg)),?_⟩
 conv=>whnf
 iterate 2 (refine And.intro (fun h=>h) ?_)
 conv=>whnf
 refine ⟨fun hc=>?_,fun hc=>?_⟩
 ·replace h:=cond_t h hc
  obtain rfl:=Option.some.inj h
  conv=>whnf
  repeat (first | exact rfl | exact trivial | refine ⟨?_,?_⟩)
 ·replace h:=cond_f h hc
  conv=>whnf
  iterate 6 (refine And.intro (fun h=>h) ?_)
  conv=>whnf
  refine ⟨fun hc=>?_,fun hc=>?_⟩
  ·replace h:=cond_t h hc
   obtain rfl:=Option.some.inj h
   conv=>whnf
   repeat (first | exact rfl | exact trivial | refine ⟨?_,?_⟩)
  ·replace h:=cond_f h hc
   conv=>whnf
   refine SeqA.cut (S:=Unit) (fun _=>[(1,.p (.int .i64 x7)),(2,.p (.int .i64 (IntKind.i64.wrap (x8 + (1:Int))))),(3,.ptr 0 0)]) (fun _=>[.box 36 [.p (.int .i64 x1),.p (.bool x2),.p (.int .i64 x3),.p (.str x4),.p (.sl (Val.rows x5)),.p (.sl (strs x6))]]) (F_R03_may_k1 n x5 g54 x7 x8) (r:=r) ?_ ?_
   ·intro _ h
    unfold F_R03_may_k1 at h
    conv=>whnf
    refine LoopA.fn [1000000] (S:=Int × Int) (fun (x10,x11)=>[(1,.p (.int .i64 x7)),(2,.p (.int .i64 x10)),(3,.ptr 0 0),(9,.p (.int .i64 x11))]) (fun (x10,x11)=>[.box 36 [.p (.int .i64 x1),.p (.bool x2),.p (.int .i64 x3),.p (.str x4),.p (.sl (Val.rows x5)),.p (.sl (strs x6))]]) (B:=F_R03_may_l1 n x5 g54 x7) h ⟨[0],[],⟨rfl,rfl,rfl,rfl⟩,by repeat (first | exact trivial | exact .inl rfl | exact rfl | exact List.not_mem_nil | (refine .inr ?_) | (refine ⟨?_,?_⟩) | exact List.length_set.symm | decide),by repeat (first | exact trivial | exact .inl rfl | exact rfl | exact List.not_mem_nil | (refine .inr ?_) | (refine ⟨?_,?_⟩) | exact List.length_set.symm | decide)⟩ ?_
    intro nx1 st h
    obtain ⟨x10,x11⟩:=st
    unfold F_R03_may_l1 at h
    conv=>whnf
    refine ⟨fun hc=>?_,fun hc=>?_⟩
    ·replace h:=cond_t h hc
     conv=>whnf
     replace h:=bnd_some h
     obtain ⟨⟨x12,x13,x14,x15,x16,x17⟩,h2,h⟩:=h
     refine ⟨_,Codec.at_ valC h2,?_⟩
     conv=>whnf
     replace h:=bnd_some h
     obtain ⟨⟨x18,x19⟩,h1,h⟩:=h
     refine ⟨_,(g54_ok _ _ _  _ h1),?_⟩
     conv=>whnf
     refine ⟨fun hc=>?_,fun hc=>?_⟩
     ·replace h:=cond_t h hc
      obtain rfl:=Option.some.inj h
      conv=>whnf
      repeat (first | exact rfl | exact trivial | refine ⟨?_,?_⟩)
     ·replace h:=cond_f h hc
      conv=>whnf
      exact ⟨(x18,(IntKind.i64.wrap (x11 + (1:Int)))),h,⟨[0],[],⟨rfl,rfl,rfl,rfl⟩,by repeat (first | exact trivial | exact .inl rfl | exact rfl | exact List.not_mem_nil | (refine .inr ?_) | (refine ⟨?_,?_⟩) | exact List.length_set.symm | decide),by repeat (first | exact trivial | exact .inl rfl | exact rfl | exact List.not_mem_nil | (refine .inr ?_) | (refine ⟨?_,?_⟩) | exact List.length_set.symm | decide)⟩⟩
    ·replace h:=cond_f h hc
     obtain rfl:=Option.some.inj h
     conv=>whnf
     repeat (first | exact rfl | exact trivial | refine ⟨?_,?_⟩)
   ·conv=>whnf
    refine ⟨fun hc=>?_,fun hc=>?_⟩
    ·replace h:=cond_t h hc
     conv=>whnf
     refine ⟨fun hc=>?_,fun hc=>?_⟩
     ·replace h:=cond_t h hc
      obtain rfl:=Option.some.inj h
      conv=>whnf
      repeat (first | exact rfl | exact trivial | refine ⟨?_,?_⟩)
     ·replace h:=cond_f h hc
      conv=>whnf
      refine LoopA.fn [1000000] (S:=Int) (fun x20=>[(1,.p (.int .i64 x7)),(2,.p (.int .i64 (IntKind.i64.wrap (x8 + (1:Int))))),(3,.ptr 0 0),(8,.p (.int .i64 x20))]) (fun x20=>[.box 36 [.p (.int .i64 x1),.p (.bool x2),.p (.int .i64 x3),.p (.str x4),.p (.sl (Val.rows x5)),.p (.sl (strs x6))]]) (B:=F_R03_may_l2 n x6 x8 x5 g54 x7) h ⟨[0],[],⟨rfl,rfl,rfl,rfl⟩,by repeat (first | exact trivial | exact .inl rfl | exact rfl | exact List.not_mem_nil | (refine .inr ?_) | (refine ⟨?_,?_⟩) | exact List.length_set.symm | decide),by repeat (first | exact trivial | exact .inl rfl | exact rfl | exact List.not_mem_nil | (refine .inr ?_) | (refine ⟨?_,?_⟩) | exact List.length_set.symm | decide)⟩ ?_
      intro nx2 x20 h
      unfold F_R03_may_l2 at h
      conv=>whnf
      refine ⟨fun hc=>?_,fun hc=>?_⟩
      ·replace h:=cond_t h hc
       conv=>whnf
       replace h:=bnd_some h
       obtain ⟨x21,h6,h⟩:=h
       refine ⟨_,Codec.at_ strC h6,?_⟩
       conv=>whnf
       iterate 3 (refine And.intro (fun h=>h) ?_)
       conv=>whnf
       replace h:=bnd_some h
       obtain ⟨x22,h5,h⟩:=h
       refine ⟨_,fun hg=>Codec.at_ strC (gsome_some h5 hg),?_⟩
       conv=>whnf
       iterate 9 (refine And.intro (fun h=>h) ?_)
       conv=>whnf
       replace h:=bnd_some h
       obtain ⟨x23,h4,h⟩:=h
       refine ⟨_,fun hg=>Codec.at_ strC (gsome_some h4 hg),?_⟩
       conv=>whnf
       iterate 5 (refine And.intro (fun h=>h) ?_)
       conv=>whnf
       replace h:=bnd_some h
       obtain ⟨x24,h3,h⟩:=h
       refine ⟨_,fun hg=>Codec.at_ strC (gsome_some h3 hg),?_⟩
       conv=>whnf
       iterate 6 (refine And.intro (fun h=>h) ?_)
       conv=>whnf
       refine ⟨fun hc=>?_,fun hc=>?_⟩
       ·replace h:=cond_t h hc
        obtain rfl:=Option.some.inj h
        conv=>whnf
        repeat (first | exact rfl | exact trivial | refine ⟨?_,?_⟩)
       ·replace h:=cond_f h hc
        conv=>whnf
        exact ⟨(IntKind.i64.wrap (x20 + (1:Int))),h,⟨[0],[],⟨rfl,rfl,rfl,rfl⟩,by repeat (first | exact trivial | exact .inl rfl | exact rfl | exact List.not_mem_nil | (refine .inr ?_) | (refine ⟨?_,?_⟩) | exact List.length_set.symm | decide),by repeat (first | exact trivial | exact .inl rfl | exact rfl | exact List.not_mem_nil | (refine .inr ?_) | (refine ⟨?_,?_⟩) | exact List.length_set.symm | decide)⟩⟩
      ·replace h:=cond_f h hc
       conv=>whnf
       exact ⟨(),h,⟨[0],[],⟨rfl,rfl,rfl,rfl⟩,by repeat (first | exact trivial | exact .inl rfl | exact rfl | exact List.not_mem_nil | (refine .inr ?_) | (refine ⟨?_,?_⟩) | exact List.length_set.symm | decide),by repeat (first | exact trivial | exact .inl rfl | exact rfl | exact List.not_mem_nil | (refine .inr ?_) | (refine ⟨?_,?_⟩) | exact List.length_set.symm | decide)⟩⟩
    ·replace h:=cond_f h hc
     conv=>whnf
     exact ⟨(),h,⟨[0],[],⟨rfl,rfl,rfl,rfl⟩,by repeat (first | exact trivial | exact .inl rfl | exact rfl | exact List.not_mem_nil | (refine .inr ?_) | (refine ⟨?_,?_⟩) | exact List.length_set.symm | decide),by repeat (first | exact trivial | exact .inl rfl | exact rfl | exact List.not_mem_nil | (refine .inr ?_) | (refine ⟨?_,?_⟩) | exact List.length_set.symm | decide)⟩⟩
def F_R03_may:Nat → Val → Int → Int → Option (Int × Bool)
 | 0=>fun _ _ _=>none
 | n + 1=>BF_R03_may n (F_R03_may n)
set_option maxRecDepth 100000 in
theorem F_R03_may_all (n:Nat):(∀ (a0_:Val) (x7:Int) (x8:Int) (r:Int × Bool),F_R03_may n a0_ x7 x8 = some r → CallsF Tryz.prog 54 [PV.agg (valC.cells a0_),PV.int .i64 x7,PV.int .i64 x8] (R_F_R03_may r)):=by
 induction n with
 | zero=>exact (by intros; rename_i h; cases h)
 | succ n ih =>
  have hg54:=ih
  exact BF_R03_may_ok n (F_R03_may n) hg54
set_option maxRecDepth 100000 in
theorem F_R03_may_ok (n:Nat):∀ (a0_:Val) (x7:Int) (x8:Int) (r:Int × Bool),F_R03_may n a0_ x7 x8 = some r → CallsF Tryz.prog 54 [PV.agg (valC.cells a0_),PV.int .i64 x7,PV.int .i64 x8] (R_F_R03_may r):=(F_R03_may_all n)
abbrev R_F_R03_May (r:Bool):PV:=PV.bool r
def F_R03_May (n:Nat)  (a0_:Val):Option (Bool) :=
 match a0_ with
 | ⟨x1,x2,x3,x4,x5,x6⟩ =>
 bnd (F_R03_may n (Val.mk x1 x2 x3 x4 x5 x6) (32:Int) (0:Int)) fun ⟨x7,x8⟩ =>
 some x8
set_option maxRecDepth 100000 in
theorem F_R03_May_ok (n:Nat)   : ∀ (a0_:Val) (r:Bool),F_R03_May n a0_ = some r → CallsF Tryz.prog 33 [PV.agg (valC.cells a0_)] (R_F_R03_May r):=by
 intro a0_ r h
 obtain ⟨x1,x2,x3,x4,x5,x6⟩:=a0_
 unfold F_R03_May at h
 refine CallsF.of_vcN mixed (fun _ _=>Tryz.call33 _ _) Tryz.func33 (by kernel_rfl) (inl:=[1000000]) ?_
 conv=>whnf
 replace h:=bnd_some h
 obtain ⟨⟨x7,x8⟩,h1,h⟩:=h
 refine ⟨_,(F_R03_may_ok n _ _ _  _ h1),?_⟩
 obtain rfl:=Option.some.inj h
 conv=>whnf
 repeat (first | exact rfl | exact trivial | refine ⟨?_,?_⟩)
abbrev R_F_R17_May (r:Bool):PV:=PV.bool r
def F_R17_May_l2 (n:Nat) (x2:Int) (x1:List (List Val)) (x3:Int) (nx1:Int → Option (Bool)):(Int → Option (Bool)) → Int → Option (Bool):=fun nx2 x5 =>
 bif (decide (x5 < x2)) then (
 bnd (idx x1 x3) fun x6 =>
 bnd (idx x6 x5) fun ⟨x7,x8,x9,x10,x11,x12⟩ =>
 bnd (F_R03_May n (Val.mk x7 x8 x9 x10 x11 x12)) fun x13 =>
 bif (!x13) then (
 some false)
else (
 nx2 (IntKind.i64.wrap (x5 + (1:Int)))))
else (
 nx1 (IntKind.i64.wrap (x3 + (1:Int))))
def F_R17_May_l1 (n:Nat) (x1:List (List Val)) (x2:Int):(Int → Option (Bool)) → Int → Option (Bool):=fun nx1 x3 =>
 bif (decide (x3 < (((slRows valC x1).length:Nat):Int))) then (
 bnd (idx x1 x3) fun x4 =>
 bif ((((Val.rows x4).length:Nat):Int) != x2) then (
 some false)
else (
 loopK (F_R17_May_l2 n x2 x1 x3 nx1) n (0:Int)))
else (
 some true)
def F_R17_May (n:Nat)  (x1:List (List Val)) (x2:Int):Option (Bool) :=
 loopK (F_R17_May_l1 n x1 x2) n (0:Int)
set_option maxRecDepth 100000 in
theorem F_R17_May_ok (n:Nat)   : ∀ (x1:List (List Val)) (x2:Int) (r:Bool),F_R17_May n x1 x2 = some r → CallsF Tryz.prog 12 [PV.sl (slRows valC x1),PV.int .i64 x2] (R_F_R17_May r):=by
 intro x1 x2 r h
 unfold F_R17_May at h
 refine CallsF.of_vcN mixed (fun _ _=>Tryz.call12 _ _) Tryz.func12 (by kernel_rfl) (inl:=[1000000]) ?_
 conv=>whnf
 refine LoopA.fn [1000000] (S:=Int) (fun x3=>[(0,.p (.sl (slRows valC x1))),(1,.p (.int .i64 x2)),(5,.p (.int .i64 x3))]) (fun x3=>[]) (B:=F_R17_May_l1 n x1 x2) h ⟨[],[],⟨rfl,rfl,rfl,rfl⟩,by repeat (first | exact trivial | exact .inl rfl | exact rfl | exact List.not_mem_nil | (refine .inr ?_) | (refine ⟨?_,?_⟩) | exact List.length_set.symm | decide),by repeat (first | exact trivial | exact .inl rfl | exact rfl | exact List.not_mem_nil | (refine .inr ?_) | (refine ⟨?_,?_⟩) | exact List.length_set.symm | decide)⟩ ?_
 intro nx1 x3 h
 unfold F_R17_May_l1 at h
 conv=>whnf
 refine ⟨fun hc=>?_,fun hc=>?_⟩
 ·replace h:=cond_t h hc
  conv=>whnf
  replace h:=bnd_some h
  obtain ⟨x4,h4,h⟩:=h
  refine ⟨_,Codec.at_ (slC valC) h4,?_⟩
  conv=>whnf
  refine ⟨fun hc=>?_,fun hc=>?_⟩
  ·replace h:=cond_t h hc
   obtain rfl:=Option.some.inj h
   conv=>whnf
   repeat (first | exact rfl | exact trivial | refine ⟨?_,?_⟩)
  ·replace h:=cond_f h hc
   conv=>whnf
   refine LoopA.fn [1000000] (S:=Int) (fun x5=>[(0,.p (.sl (slRows valC x1))),(1,.p (.int .i64 x2)),(5,.p (.int .i64 x3)),(6,.p (.int .i64 x5))]) (fun x5=>[]) (B:=F_R17_May_l2 n x2 x1 x3 nx1) h ⟨[],[],⟨rfl,rfl,rfl,rfl⟩,by repeat (first | exact trivial | exact .inl rfl | exact rfl | exact List.not_mem_nil | (refine .inr ?_) | (refine ⟨?_,?_⟩) | exact List.length_set.symm | decide),by repeat (first | exact trivial | exact .inl rfl | exact rfl | exact List.not_mem_nil | (refine .inr ?_) | (refine ⟨?_,?_⟩) | exact List.length_set.symm | decide)⟩ ?_
   intro nx2 x5 h
   unfold F_R17_May_l2 at h
   conv=>whnf
   refine ⟨fun hc=>?_,fun hc=>?_⟩
   ·replace h:=cond_t h hc
    conv=>whnf
    replace h:=bnd_some h
    obtain ⟨x6,h3,h⟩:=h
    refine ⟨_,Codec.at_ (slC valC) h3,?_⟩
    conv=>whnf
    replace h:=bnd_some h
    obtain ⟨⟨x7,x8,x9,x10,x11,x12⟩,h2,h⟩:=h
    refine ⟨_,Codec.at_ valC h2,?_⟩
    conv=>whnf
    replace h:=bnd_some h
    obtain ⟨x13,h1,h⟩:=h
    refine ⟨_,(F_R03_May_ok n _  _ h1),?_⟩
    conv=>whnf
    refine ⟨fun hc=>?_,fun hc=>?_⟩
    ·replace h:=cond_t h hc
     obtain rfl:=Option.some.inj h
     conv=>whnf
     repeat (first | exact rfl | exact trivial | refine ⟨?_,?_⟩)
    ·replace h:=cond_f h hc
     conv=>whnf
     exact ⟨(IntKind.i64.wrap (x5 + (1:Int))),h,⟨[],[],⟨rfl,rfl,rfl,rfl⟩,by repeat (first | exact trivial | exact .inl rfl | exact rfl | exact List.not_mem_nil | (refine .inr ?_) | (refine ⟨?_,?_⟩) | exact List.length_set.symm | decide),by repeat (first | exact trivial | exact .inl rfl | exact rfl | exact List.not_mem_nil | (refine .inr ?_) | (refine ⟨?_,?_⟩) | exact List.length_set.symm | decide)⟩⟩
   ·replace h:=cond_f h hc
    conv=>whnf
    exact ⟨(IntKind.i64.wrap (x3 + (1:Int))),h,⟨[],[],⟨rfl,rfl,rfl,rfl⟩,by repeat (first | exact trivial | exact .inl rfl | exact rfl | exact List.not_mem_nil | (refine .inr ?_) | (refine ⟨?_,?_⟩) | exact List.length_set.symm | decide),by repeat (first | exact trivial | exact .inl rfl | exact rfl | exact List.not_mem_nil | (refine .inr ?_) | (refine ⟨?_,?_⟩) | exact List.length_set.symm | decide)⟩⟩
 ·replace h:=cond_f h hc
  obtain rfl:=Option.some.inj h
  conv=>whnf
  repeat (first | exact rfl | exact trivial | refine ⟨?_,?_⟩)
abbrev R_F_L17_few (r:Bool):PV:=PV.bool r
def F_L17_few (n:Nat)  (x1:List (List Val)) (x2:Int):Option (Bool) :=
 bnd (gsome (decide ((((slRows valC x1).length:Nat):Int) ≤ (200:Int))) (F_R17_May n x1 x2)) fun x3 =>
 some (bif (decide ((((slRows valC x1).length:Nat):Int) ≤ (200:Int))) then x3 else false)
set_option maxRecDepth 100000 in
theorem F_L17_few_ok (n:Nat)   : ∀ (x1:List (List Val)) (x2:Int) (r:Bool),F_L17_few n x1 x2 = some r → CallsF Tryz.prog 4 [PV.sl (slRows valC x1),PV.int .i64 x2] (R_F_L17_few r):=by
 intro x1 x2 r h
 unfold F_L17_few at h
 refine CallsF.of_vcN mixed (fun _ _=>Tryz.call4 _ _) Tryz.func4 (by kernel_rfl) (inl:=[1000000]) ?_
 conv=>whnf
 iterate 2 (refine And.intro (fun h=>h) ?_)
 conv=>whnf
 replace h:=bnd_some h
 obtain ⟨x3,h1,h⟩:=h
 refine ⟨_,fun hg=>(F_R17_May_ok n _ _  _ (gsome_some h1 hg)),?_⟩
 conv=>whnf
 refine And.intro (fun h=>h) ?_
 obtain rfl:=Option.some.inj h
 conv=>whnf
 repeat (first | exact rfl | exact trivial | refine ⟨?_,?_⟩)
abbrev R_F_R17_Known (r:Bool):PV:=PV.bool r
def F_R17_Known_k3 (n:Nat) (nx1:Int → Option (Bool)) (x2:Int):Bool → Option (Bool):=fun x4 =>
 bif x4 then (
 nx1 (IntKind.i64.wrap (x2 + (1:Int))))
else (
 some false)
def F_R17_Known_l1 (n:Nat) (x1:List (List UInt8)):(Int → Option (Bool)) → Int → Option (Bool):=fun nx1 x2 =>
 bif (decide (x2 < (((strs x1).length:Nat):Int))) then (
 bnd (idx x1 x2) fun x3 =>
 bif (x3 == ([]:List UInt8)) then (
 F_R17_Known_k3 n nx1 x2 (x3 == ([]:List UInt8)))
else (
 bif (x3 == ([99,111,117,110,116]:List UInt8)) then (
 F_R17_Known_k3 n nx1 x2 (x3 == ([99,111,117,110,116]:List UInt8)))
else (
 bif (x3 == ([115,117,109]:List UInt8)) then (
 F_R17_Known_k3 n nx1 x2 (x3 == ([115,117,109]:List UInt8)))
else (
 bif (x3 == ([109,105,110]:List UInt8)) then (
 F_R17_Known_k3 n nx1 x2 (x3 == ([109,105,110]:List UInt8)))
else (
 bif (x3 == ([109,97,120]:List UInt8)) then (
 F_R17_Known_k3 n nx1 x2 (x3 == ([109,97,120]:List UInt8)))
else (
 F_R17_Known_k3 n nx1 x2 (x3 == ([99,111,108,108,101,99,116]:List UInt8))))))))
else (
 some true)
def F_R17_Known (n:Nat)  (x1:List (List UInt8)):Option (Bool) :=
 loopK (F_R17_Known_l1 n x1) n (0:Int)
set_option maxRecDepth 100000 in
theorem F_R17_Known_ok (n:Nat)   : ∀ (x1:List (List UInt8)) (r:Bool),F_R17_Known n x1 = some r → CallsF Tryz.prog 5 [PV.sl (strs x1)] (R_F_R17_Known r):=by
 intro x1 r h
 unfold F_R17_Known at h
 refine CallsF.of_vcN mixed (fun _ _=>Tryz.call5 _ _) Tryz.func5 (by kernel_rfl) (inl:=[1000000]) ?_
 conv=>whnf
 refine LoopA.fn [1000000] (S:=Int) (fun x2=>[(0,.p (.sl (strs x1))),(3,.p (.int .i64 x2))]) (fun x2=>[]) (B:=F_R17_Known_l1 n x1) h ⟨[],[],⟨rfl,rfl,rfl,rfl⟩,by repeat (first | exact trivial | exact .inl rfl | exact rfl | exact List.not_mem_nil | (refine .inr ?_) | (refine ⟨?_,?_⟩) | exact List.length_set.symm | decide),by repeat (first | exact trivial | exact .inl rfl | exact rfl | exact List.not_mem_nil | (refine .inr ?_) | (refine ⟨?_,?_⟩) | exact List.length_set.symm | decide)⟩ ?_
 intro nx1 x2 h
 unfold F_R17_Known_l1 at h
 conv=>whnf
 refine ⟨fun hc=>?_,fun hc=>?_⟩
 ·replace h:=cond_t h hc
  conv=>whnf
  replace h:=bnd_some h
  obtain ⟨x3,h1,h⟩:=h
  refine ⟨_,Codec.at_ strC h1,?_⟩
  conv=>whnf
  refine SeqA.cut (S:=Bool) (fun x4=>[(0,.p (.sl (strs x1))),(3,.p (.int .i64 x2)),(14,.p (.bool x4))]) (fun x4=>[]) (F_R17_Known_k3 n nx1 x2) (r:=r) ?_ ?_
  ·intro x4 h
   unfold F_R17_Known_k3 at h
   conv=>whnf
   refine ⟨fun hc=>?_,fun hc=>?_⟩
   ·replace h:=cond_t h hc
    conv=>whnf
    exact ⟨(IntKind.i64.wrap (x2 + (1:Int))),h,⟨[],[],⟨rfl,rfl,rfl,rfl⟩,by repeat (first | exact trivial | exact .inl rfl | exact rfl | exact List.not_mem_nil | (refine .inr ?_) | (refine ⟨?_,?_⟩) | exact List.length_set.symm | decide),by repeat (first | exact trivial | exact .inl rfl | exact rfl | exact List.not_mem_nil | (refine .inr ?_) | (refine ⟨?_,?_⟩) | exact List.length_set.symm | decide)⟩⟩
   ·replace h:=cond_f h hc
    obtain rfl:=Option.some.inj h
    conv=>whnf
    repeat (first | exact rfl | exact trivial | refine ⟨?_,?_⟩)
  ·conv=>whnf
   refine ⟨fun hc=>?_,fun hc=>?_⟩
   ·replace h:=cond_t h hc
    conv=>whnf
    exact ⟨(x3 == ([]:List UInt8)),h,⟨[],[],⟨rfl,rfl,rfl,rfl⟩,by repeat (first | exact trivial | exact .inl rfl | exact rfl | exact List.not_mem_nil | (refine .inr ?_) | (refine ⟨?_,?_⟩) | exact List.length_set.symm | decide),by repeat (first | exact trivial | exact .inl rfl | exact rfl | exact List.not_mem_nil | (refine .inr ?_) | (refine ⟨?_,?_⟩) | exact List.length_set.symm | decide)⟩⟩
   ·replace h:=cond_f h hc
    conv=>whnf
    refine ⟨fun hc=>?_,fun hc=>?_⟩
    ·replace h:=cond_t h hc
     conv=>whnf
     exact ⟨(x3 == ([99,111,117,110,116]:List UInt8)),h,⟨[],[],⟨rfl,rfl,rfl,rfl⟩,by repeat (first | exact trivial | exact .inl rfl | exact rfl | exact List.not_mem_nil | (refine .inr ?_) | (refine ⟨?_,?_⟩) | exact List.length_set.symm | decide),by repeat (first | exact trivial | exact .inl rfl | exact rfl | exact List.not_mem_nil | (refine .inr ?_) | (refine ⟨?_,?_⟩) | exact List.length_set.symm | decide)⟩⟩
    ·replace h:=cond_f h hc
     conv=>whnf
     refine ⟨fun hc=>?_,fun hc=>?_⟩
     ·replace h:=cond_t h hc
      conv=>whnf
      exact ⟨(x3 == ([115,117,109]:List UInt8)),h,⟨[],[],⟨rfl,rfl,rfl,rfl⟩,by repeat (first | exact trivial | exact .inl rfl | exact rfl | exact List.not_mem_nil | (refine .inr ?_) | (refine ⟨?_,?_⟩) | exact List.length_set.symm | decide),by repeat (first | exact trivial | exact .inl rfl | exact rfl | exact List.not_mem_nil | (refine .inr ?_) | (refine ⟨?_,?_⟩) | exact List.length_set.symm | decide)⟩⟩
     ·replace h:=cond_f h hc
      conv=>whnf
      refine ⟨fun hc=>?_,fun hc=>?_⟩
      ·replace h:=cond_t h hc
       conv=>whnf
       exact ⟨(x3 == ([109,105,110]:List UInt8)),h,⟨[],[],⟨rfl,rfl,rfl,rfl⟩,by repeat (first | exact trivial | exact .inl rfl | exact rfl | exact List.not_mem_nil | (refine .inr ?_) | (refine ⟨?_,?_⟩) | exact List.length_set.symm | decide),by repeat (first | exact trivial | exact .inl rfl | exact rfl | exact List.not_mem_nil | (refine .inr ?_) | (refine ⟨?_,?_⟩) | exact List.length_set.symm | decide)⟩⟩
      ·replace h:=cond_f h hc
       conv=>whnf
       refine ⟨fun hc=>?_,fun hc=>?_⟩
       ·replace h:=cond_t h hc
        conv=>whnf
        exact ⟨(x3 == ([109,97,120]:List UInt8)),h,⟨[],[],⟨rfl,rfl,rfl,rfl⟩,by repeat (first | exact trivial | exact .inl rfl | exact rfl | exact List.not_mem_nil | (refine .inr ?_) | (refine ⟨?_,?_⟩) | exact List.length_set.symm | decide),by repeat (first | exact trivial | exact .inl rfl | exact rfl | exact List.not_mem_nil | (refine .inr ?_) | (refine ⟨?_,?_⟩) | exact List.length_set.symm | decide)⟩⟩
       ·replace h:=cond_f h hc
        conv=>whnf
        exact ⟨(x3 == ([99,111,108,108,101,99,116]:List UInt8)),h,⟨[],[],⟨rfl,rfl,rfl,rfl⟩,by repeat (first | exact trivial | exact .inl rfl | exact rfl | exact List.not_mem_nil | (refine .inr ?_) | (refine ⟨?_,?_⟩) | exact List.length_set.symm | decide),by repeat (first | exact trivial | exact .inl rfl | exact rfl | exact List.not_mem_nil | (refine .inr ?_) | (refine ⟨?_,?_⟩) | exact List.length_set.symm | decide)⟩⟩
 ·replace h:=cond_f h hc
  obtain rfl:=Option.some.inj h
  conv=>whnf
  repeat (first | exact rfl | exact trivial | refine ⟨?_,?_⟩)
abbrev R_F_L17_whole (r:Val):PV:=PV.agg (valC.cells r)
def F_L17_whole (n:Nat)  (x1:Int):Option (Val) :=
 some (Val.mk (2:Int) false x1 ([]:List UInt8) ([]:List Val) ([]:List (List UInt8)))
set_option maxRecDepth 100000 in
theorem F_L17_whole_ok (n:Nat)   : ∀ (x1:Int) (r:Val),F_L17_whole n x1 = some r → CallsF Tryz.prog 13 [PV.int .i64 x1] (R_F_L17_whole r):=by
 intro x1 r h
 unfold F_L17_whole at h
 refine CallsF.of_vcN mixed (fun _ _=>Tryz.call13 _ _) Tryz.func13 (by kernel_rfl) (inl:=[1000000]) ?_
 obtain rfl:=Option.some.inj h
 conv=>whnf
 repeat (first | exact rfl | exact trivial | refine ⟨?_,?_⟩)
abbrev R_F_value_bare (r:Bool):PV:=PV.bool r
def F_value_bare (n:Nat)  (a0_:Val):Option (Bool) :=
 match a0_ with
 | ⟨x1,x2,x3,x4,x5,x6⟩ =>
 some (bif (bif (bif (bif (bif (x1 == (1:Int)) then true else (!x2)) then (bif (bif (x1 == (2:Int)) then true else (decide (x1 ≥ (6:Int)))) then true else (x3 == (0:Int))) else false) then (bif (x1 == (3:Int)) then true else (x4 == ([]:List UInt8))) else false) then (bif (bif (x1 == (4:Int)) then true else (x1 == (5:Int))) then true else ((((Val.rows x5).length:Nat):Int) == (0:Int))) else false) then (bif (x1 == (5:Int)) then true else ((((strs x6).length:Nat):Int) == (0:Int))) else false)
set_option maxHeartbeats 20000000 in
set_option maxRecDepth 100000 in
theorem F_value_bare_ok (n:Nat)   : ∀ (a0_:Val) (r:Bool),F_value_bare n a0_ = some r → CallsF Tryz.prog 77 [PV.agg (valC.cells a0_)] (R_F_value_bare r):=by
 intro a0_ r h
 obtain ⟨x1,x2,x3,x4,x5,x6⟩:=a0_
 unfold F_value_bare at h
 refine CallsF.of_vcN mixed (fun _ _=>Tryz.call77 _ _) Tryz.func77 (by kernel_rfl) (inl:=[1000000]) ?_
 conv=>whnf
 iterate 47 (refine And.intro (fun h=>h) ?_)
 obtain rfl:=Option.some.inj h
 conv=>whnf
 repeat (first | exact rfl | exact trivial | refine ⟨?_,?_⟩)
abbrev R_F_value_keys (r:Bool):PV:=PV.bool r
def F_value_keys_l1 (n:Nat) (x1:List (List UInt8)):(Int → Option (Bool)) → Int → Option (Bool):=fun nx1 x2 =>
 bif (decide (x2 < (((strs x1).length:Nat):Int))) then (
 bnd (idx x1 x2) fun x3 =>
 bnd (gsome ((!(bif (x3 == ([]:List UInt8)) then true else (decide (((x3.length:Nat):Int) > (64:Int))))) && (decide (x2 > (0:Int)))) (idx x1 (IntKind.i64.wrap (x2 - (1:Int))))) fun x4 =>
 bif (bif (bif (x3 == ([]:List UInt8)) then true else (decide (((x3.length:Nat):Int) > (64:Int)))) then true else (bif (decide (x2 > (0:Int))) then (!(Op.bytesLess x4 x3)) else false)) then (
 some false)
else (
 nx1 (IntKind.i64.wrap (x2 + (1:Int)))))
else (
 some true)
def F_value_keys (n:Nat)  (x1:List (List UInt8)):Option (Bool) :=
 loopK (F_value_keys_l1 n x1) n (0:Int)
set_option maxRecDepth 100000 in
theorem F_value_keys_ok (n:Nat)   : ∀ (x1:List (List UInt8)) (r:Bool),F_value_keys n x1 = some r → CallsF Tryz.prog 78 [PV.sl (strs x1)] (R_F_value_keys r):=by
 intro x1 r h
 unfold F_value_keys at h
 refine CallsF.of_vcN mixed (fun _ _=>Tryz.call78 _ _) Tryz.func78 (by kernel_rfl) (inl:=[1000000]) ?_
 conv=>whnf
 refine LoopA.fn [1000000] (S:=Int) (fun x2=>[(0,.p (.sl (strs x1))),(5,.p (.sl (strs x1))),(6,.p (.int .i64 (((strs x1).length:Nat):Int))),(7,.p (.int .i64 x2))]) (fun x2=>[]) (B:=F_value_keys_l1 n x1) h ⟨[],[],⟨rfl,rfl,rfl,rfl⟩,by repeat (first | exact trivial | exact .inl rfl | exact rfl | exact List.not_mem_nil | (refine .inr ?_) | (refine ⟨?_,?_⟩) | exact List.length_set.symm | decide),by repeat (first | exact trivial | exact .inl rfl | exact rfl | exact List.not_mem_nil | (refine .inr ?_) | (refine ⟨?_,?_⟩) | exact List.length_set.symm | decide)⟩ ?_
 intro nx1 x2 h
 unfold F_value_keys_l1 at h
 conv=>whnf
 refine ⟨fun hc=>?_,fun hc=>?_⟩
 ·replace h:=cond_t h hc
  conv=>whnf
  replace h:=bnd_some h
  obtain ⟨x3,h2,h⟩:=h
  refine ⟨_,Codec.at_ strC h2,?_⟩
  conv=>whnf
  iterate 8 (refine And.intro (fun h=>h) ?_)
  conv=>whnf
  replace h:=bnd_some h
  obtain ⟨x4,h1,h⟩:=h
  refine ⟨_,fun hg=>Codec.at_ strC (gsome_some h1 hg),?_⟩
  conv=>whnf
  iterate 6 (refine And.intro (fun h=>h) ?_)
  conv=>whnf
  refine ⟨fun hc=>?_,fun hc=>?_⟩
  ·replace h:=cond_t h hc
   obtain rfl:=Option.some.inj h
   conv=>whnf
   repeat (first | exact rfl | exact trivial | refine ⟨?_,?_⟩)
  ·replace h:=cond_f h hc
   conv=>whnf
   exact ⟨(IntKind.i64.wrap (x2 + (1:Int))),h,⟨[],[],⟨rfl,rfl,rfl,rfl⟩,by repeat (first | exact trivial | exact .inl rfl | exact rfl | exact List.not_mem_nil | (refine .inr ?_) | (refine ⟨?_,?_⟩) | exact List.length_set.symm | decide),by repeat (first | exact trivial | exact .inl rfl | exact rfl | exact List.not_mem_nil | (refine .inr ?_) | (refine ⟨?_,?_⟩) | exact List.length_set.symm | decide)⟩⟩
 ·replace h:=cond_f h hc
  obtain rfl:=Option.some.inj h
  conv=>whnf
  repeat (first | exact rfl | exact trivial | refine ⟨?_,?_⟩)
abbrev R_F_value_look (r:Int × Bool):PV:=PV.tup [PV.int .i64 r.1,PV.bool r.2]
def F_value_look_l1 (n:Nat) (x5:List Val) (g64:Val → Int → Int → Option (Int × Bool)) (x7:Int):(Int × Bool × Int → Option (Int × Bool)) → Int × Bool × Int → Option (Int × Bool):=fun nx1 (x11,x12,x13) =>
 bif (bif (decide (x13 < (((Val.rows x5).length:Nat):Int))) then x12 else false) then (
 bnd (idx x5 x13) fun ⟨x14,x15,x16,x17,x18,x19⟩ =>
 bnd (g64 (Val.mk x14 x15 x16 x17 x18 x19) (IntKind.i64.wrap (x7 - (1:Int))) x11) fun ⟨x20,x21⟩ =>
 nx1 (x20,x21,(IntKind.i64.wrap (x13 + (1:Int)))))
else (
 some (x11,x12))
def BF_value_look (n:Nat) (g64:Val → Int → Int → Option (Int × Bool)) (a0_:Val) (x7:Int) (x8:Int):Option (Int × Bool) :=
 match a0_ with
 | ⟨x1,x2,x3,x4,x5,x6⟩ =>
 bnd (gsome (!(bif (bif (bif (decide (x7 < (1:Int))) then true else (decide ((IntKind.i64.wrap (x8 + (1:Int))) > (4096:Int)))) then true else (decide (x1 < (0:Int)))) then true else (decide (x1 > (7:Int))))) (F_value_bare n (Val.mk x1 x2 x3 x4 x5 x6))) fun x9 =>
 bnd (gsome (((!(bif (bif (bif (bif (bif (decide (x7 < (1:Int))) then true else (decide ((IntKind.i64.wrap (x8 + (1:Int))) > (4096:Int)))) then true else (decide (x1 < (0:Int)))) then true else (decide (x1 > (7:Int)))) then true else (!x9)) then true else (bif (decide (x1 ≥ (6:Int))) then (decide (x3 < (1:Int))) else false))) && (x1 == (5:Int))) && (!((((strs x6).length:Nat):Int) != (((Val.rows x5).length:Nat):Int)))) (F_value_keys n x6)) fun x10 =>
 bif (bif (bif (bif (bif (bif (bif (decide (x7 < (1:Int))) then true else (decide ((IntKind.i64.wrap (x8 + (1:Int))) > (4096:Int)))) then true else (decide (x1 < (0:Int)))) then true else (decide (x1 > (7:Int)))) then true else (!x9)) then true else (bif (decide (x1 ≥ (6:Int))) then (decide (x3 < (1:Int))) else false)) then true else (bif (x1 == (5:Int)) then (bif ((((strs x6).length:Nat):Int) != (((Val.rows x5).length:Nat):Int)) then true else (!x10)) else false)) then (
 some ((IntKind.i64.wrap (x8 + (1:Int))),false))
 else (
 loopK (F_value_look_l1 n x5 g64 x7) n ((IntKind.i64.wrap (x8 + (1:Int))),true,(0:Int)))
set_option maxHeartbeats 20000000 in
set_option maxRecDepth 100000 in
theorem BF_value_look_ok (n:Nat) (g64:Val → Int → Int → Option (Int × Bool)) (g64_ok:∀ (a0_:Val) (x7:Int) (x8:Int) (r:Int × Bool),g64 a0_ x7 x8 = some r → CallsF Tryz.prog 64 [PV.agg (valC.cells a0_),PV.int .i64 x7,PV.int .i64 x8] (R_F_value_look r)):∀ (a0_:Val) (x7:Int) (x8:Int) (r:Int × Bool),BF_value_look n g64 a0_ x7 x8 = some r → CallsF Tryz.prog 64 [PV.agg (valC.cells a0_),PV.int .i64 x7,PV.int .i64 x8] (R_F_value_look r):=by
 intro a0_ x7 x8 r h
 obtain ⟨x1,x2,x3,x4,x5,x6⟩:=a0_
 unfold BF_value_look at h
 refine CallsF.of_vcN mixed (fun _ _=>Tryz.call64 _ _) Tryz.func64 (by kernel_rfl) (inl:=[1000000]) ?_
 conv=>whnf
 iterate 9 (refine And.intro (fun h=>h) ?_)
 conv=>whnf
 replace h:=bnd_some h
 obtain ⟨x9,h4,h⟩:=h
 refine ⟨_,fun hg=>(F_value_bare_ok n _  _ (gsome_some h4 hg)),?_⟩
 conv=>whnf
 iterate 22 (refine And.intro (fun h=>h) ?_)
 conv=>whnf
 replace h:=bnd_some h
 obtain ⟨x10,h3,h⟩:=h
 refine ⟨_,fun hg=>(F_value_keys_ok n _  _ (gsome_some h3 hg)),?_⟩
 conv=>whnf
 iterate 6 (refine And.intro (fun h=>h) ?_)
 conv=>whnf
 refine ⟨fun hc=>?_,fun hc=>?_⟩
 ·replace h:=cond_t h hc
  obtain rfl:=Option.some.inj h
  conv=>whnf
  repeat (first | exact rfl | exact trivial | refine ⟨?_,?_⟩)
 ·replace h:=cond_f h hc
  conv=>whnf
  refine LoopA.fn [1000000] (S:=Int × Bool × Int) (fun (x11,x12,x13)=>[(1,.p (.int .i64 x7)),(2,.p (.int .i64 x11)),(3,.ptr 0 0),(8,.p (.bool x12)),(9,.p (.int .i64 x13))]) (fun (x11,x12,x13)=>[.box 36 [.p (.int .i64 x1),.p (.bool x2),.p (.int .i64 x3),.p (.str x4),.p (.sl (Val.rows x5)),.p (.sl (strs x6))]]) (B:=F_value_look_l1 n x5 g64 x7) h ⟨[0],[],⟨rfl,rfl,rfl,rfl⟩,by repeat (first | exact trivial | exact .inl rfl | exact rfl | exact List.not_mem_nil | (refine .inr ?_) | (refine ⟨?_,?_⟩) | exact List.length_set.symm | decide),by repeat (first | exact trivial | exact .inl rfl | exact rfl | exact List.not_mem_nil | (refine .inr ?_) | (refine ⟨?_,?_⟩) | exact List.length_set.symm | decide)⟩ ?_
  intro nx1 st h
  obtain ⟨x11,x12,x13⟩:=st
  unfold F_value_look_l1 at h
  conv=>whnf
  refine And.intro (fun h=>h) ?_
  conv=>whnf
  refine ⟨fun hc=>?_,fun hc=>?_⟩
  ·replace h:=cond_t h hc
   conv=>whnf
   replace h:=bnd_some h
   obtain ⟨⟨x14,x15,x16,x17,x18,x19⟩,h2,h⟩:=h
   refine ⟨_,Codec.at_ valC h2,?_⟩
   conv=>whnf
   replace h:=bnd_some h
   obtain ⟨⟨x20,x21⟩,h1,h⟩:=h
   refine ⟨_,(g64_ok _ _ _  _ h1),?_⟩
   conv=>whnf
   exact ⟨(x20,x21,(IntKind.i64.wrap (x13 + (1:Int)))),h,⟨[0],[],⟨rfl,rfl,rfl,rfl⟩,by repeat (first | exact trivial | exact .inl rfl | exact rfl | exact List.not_mem_nil | (refine .inr ?_) | (refine ⟨?_,?_⟩) | exact List.length_set.symm | decide),by repeat (first | exact trivial | exact .inl rfl | exact rfl | exact List.not_mem_nil | (refine .inr ?_) | (refine ⟨?_,?_⟩) | exact List.length_set.symm | decide)⟩⟩
  ·replace h:=cond_f h hc
   obtain rfl:=Option.some.inj h
   conv=>whnf
   repeat (first | exact rfl | exact trivial | refine ⟨?_,?_⟩)
def F_value_look:Nat → Val → Int → Int → Option (Int × Bool)
 | 0=>fun _ _ _=>none
 | n + 1=>BF_value_look n (F_value_look n)
set_option maxRecDepth 100000 in
theorem F_value_look_all (n:Nat):(∀ (a0_:Val) (x7:Int) (x8:Int) (r:Int × Bool),F_value_look n a0_ x7 x8 = some r → CallsF Tryz.prog 64 [PV.agg (valC.cells a0_),PV.int .i64 x7,PV.int .i64 x8] (R_F_value_look r)):=by
 induction n with
 | zero=>exact (by intros; rename_i h; cases h)
 | succ n ih =>
  have hg64:=ih
  exact BF_value_look_ok n (F_value_look n) hg64
set_option maxRecDepth 100000 in
theorem F_value_look_ok (n:Nat):∀ (a0_:Val) (x7:Int) (x8:Int) (r:Int × Bool),F_value_look n a0_ x7 x8 = some r → CallsF Tryz.prog 64 [PV.agg (valC.cells a0_),PV.int .i64 x7,PV.int .i64 x8] (R_F_value_look r):=(F_value_look_all n)
abbrev R_F_value_Check (r:Int):PV:=PV.int .i64 r
def F_value_Check (n:Nat)  (a0_:Val):Option (Int) :=
 match a0_ with
 | ⟨x1,x2,x3,x4,x5,x6⟩ =>
 bnd (F_value_look n (Val.mk x1 x2 x3 x4 x5 x6) (32:Int) (0:Int)) fun ⟨x7,x8⟩ =>
 bif (!x8) then (
 some (20:Int))
 else (
 some (0:Int))
set_option maxRecDepth 100000 in
theorem F_value_Check_ok (n:Nat)   : ∀ (a0_:Val) (r:Int),F_value_Check n a0_ = some r → CallsF Tryz.prog 47 [PV.agg (valC.cells a0_)] (R_F_value_Check r):=by
 intro a0_ r h
 obtain ⟨x1,x2,x3,x4,x5,x6⟩:=a0_
 unfold F_value_Check at h
 refine CallsF.of_vcN mixed (fun _ _=>Tryz.call47 _ _) Tryz.func47 (by kernel_rfl) (inl:=[1000000]) ?_
 conv=>whnf
 replace h:=bnd_some h
 obtain ⟨⟨x7,x8⟩,h1,h⟩:=h
 refine ⟨_,(F_value_look_ok n _ _ _  _ h1),?_⟩
 conv=>whnf
 refine ⟨fun hc=>?_,fun hc=>?_⟩
 ·replace h:=cond_t h hc
  obtain rfl:=Option.some.inj h
  conv=>whnf
  repeat (first | exact rfl | exact trivial | refine ⟨?_,?_⟩)
 ·replace h:=cond_f h hc
  obtain rfl:=Option.some.inj h
  conv=>whnf
  repeat (first | exact rfl | exact trivial | refine ⟨?_,?_⟩)
abbrev R_F_rank_eight (r:List UInt8):PV:=PV.str r
def F_rank_eight_l1 (n:Nat) (x1:Int):(Int × List UInt8 → Option (List UInt8)) → Int × List UInt8 → Option (List UInt8):=fun nx1 (x2,x3) =>
 bif (decide (x2 < (8:Int))) then (
 chk (decide (0 ≤ (IntKind.i64.wrap ((56:Int) - (IntKind.i64.wrap ((8:Int) * x2)))))) (
 bnd (natI x2) fun x4 =>
 chk (decide (x4 < 8)) (
 bnd (u8I (IntKind.u8.wrap (Int.fdiv x1 (2 ^ (min (Int.toNat (IntKind.i64.wrap ((56:Int) - (IntKind.i64.wrap ((8:Int) * x2))))) IntKind.u64.bits))))) fun x5 =>
 chk (decide (x4 < x3.length)) (
 nx1 ((IntKind.i64.wrap (x2 + (1:Int))),(x3.set x4 x5))))))
else (
 chk (decide (0 + (8 - 0) ≤ x3.length)) (
 some ((x3.drop 0).take (8 - 0))))
def F_rank_eight (n:Nat)  (x1:Int):Option (List UInt8) :=
 loopK (F_rank_eight_l1 n x1) n ((0:Int),(List.replicate 8 0:List UInt8))
set_option maxRecDepth 100000 in
theorem F_rank_eight_ok (n:Nat)   : ∀ (x1:Int) (r:List UInt8),F_rank_eight n x1 = some r → CallsF Tryz.prog 74 [PV.int .u64 x1] (R_F_rank_eight r):=by
 intro x1 r h
 unfold F_rank_eight at h
 refine CallsF.of_vcN mixed (fun _ _=>Tryz.call74 _ _) Tryz.func74 (by kernel_rfl) (inl:=[10000003,1000000]) ?_
 conv=>whnf
 refine ⟨(List.replicate 8 0:List UInt8),rfl,?_⟩
 conv=>whnf
 refine LoopA.fn [10000003,1000000] (S:=Int × List UInt8) (fun (x2,x3)=>[(0,.p (.int .u64 x1)),(3,.eptr 0 1 0 0),(5,.p (.int .i64 x2))]) (fun (x2,x3)=>[.bv x3]) (B:=F_rank_eight_l1 n x1) h ⟨[0],[],⟨rfl,rfl,rfl,rfl⟩,by repeat (first | exact trivial | exact .inl rfl | exact rfl | exact List.not_mem_nil | (refine .inr ?_) | (refine ⟨?_,?_⟩) | exact List.length_set.symm | decide),by repeat (first | exact trivial | exact .inl rfl | exact rfl | exact List.not_mem_nil | (refine .inr ?_) | (refine ⟨?_,?_⟩) | exact List.length_set.symm | decide)⟩ ?_
 intro nx1 st h
 obtain ⟨x2,x3⟩:=st
 unfold F_rank_eight_l1 at h
 conv=>whnf
 refine ⟨fun hc=>?_,fun hc=>?_⟩
 ·replace h:=cond_t h hc
  conv=>whnf
  obtain ⟨h5,h⟩:=chk_some h
  refine ⟨(of_decide_eq_true h5:0 ≤ (IntKind.i64.wrap ((56:Int) - (IntKind.i64.wrap ((8:Int) * x2))))),?_⟩
  conv=>whnf
  replace h:=bnd_some h
  obtain ⟨x4,h4,h⟩:=h
  have hj:=natI_some h4
  conv=>whnf
  obtain ⟨h3,h⟩:=chk_some h
  refine ⟨x4,⟨rfl,hj,of_decide_eq_true h3⟩,?_⟩
  conv=>whnf
  replace h:=bnd_some h
  obtain ⟨x5,h2,h⟩:=h
  have hb:=u8I_some h2
  conv=>whnf
  obtain ⟨h1,h⟩:=chk_some h
  refine ⟨_,_,⟨rfl,rfl,of_decide_eq_true h1,hb,rfl⟩,?_⟩
  conv=>whnf
  exact ⟨((IntKind.i64.wrap (x2 + (1:Int))),(x3.set x4 x5)),h,⟨[0],[],⟨rfl,rfl,rfl,rfl⟩,by repeat (first | exact trivial | exact .inl rfl | exact rfl | exact List.not_mem_nil | (refine .inr ?_) | (refine ⟨?_,?_⟩) | exact List.length_set.symm | decide),by repeat (first | exact trivial | exact .inl rfl | exact rfl | exact List.not_mem_nil | (refine .inr ?_) | (refine ⟨?_,?_⟩) | exact List.length_set.symm | decide)⟩⟩
 ·replace h:=cond_f h hc
  conv=>whnf
  refine ⟨⟨rfl,Nat.zero_le _,Nat.le_refl _,by decide⟩,?_⟩
  conv=>whnf
  obtain ⟨h6,h⟩:=chk_some h
  refine ⟨(of_decide_eq_true h6:0 + (8 - 0) ≤ x3.length),?_⟩
  obtain rfl:=Option.some.inj h
  conv=>whnf
  repeat (first | exact rfl | exact trivial | refine ⟨?_,?_⟩)
abbrev R_F_rank_ended (r:List UInt8):PV:=PV.str r
def F_rank_ended (n:Nat)  (x1:List UInt8):Option (List UInt8) :=
 bnd (F_strings_ReplaceAll n x1 ([0]:List UInt8) ([0,255]:List UInt8)) fun x2 =>
 chk (decide (((x2.length + ([0,0]:List UInt8).length:Nat):Int) ≤ maxI)) (
 some (x2 ++ ([0,0]:List UInt8)))
set_option maxRecDepth 100000 in
theorem F_rank_ended_ok (n:Nat)   : ∀ (x1:List UInt8) (r:List UInt8),F_rank_ended n x1 = some r → CallsF Tryz.prog 75 [PV.str x1] (R_F_rank_ended r):=by
 intro x1 r h
 unfold F_rank_ended at h
 refine CallsF.of_vcN mixed (fun _ _=>Tryz.call75 _ _) Tryz.func75 (by kernel_rfl) (inl:=[1000000]) ?_
 conv=>whnf
 replace h:=bnd_some h
 obtain ⟨x2,h2,h⟩:=h
 refine ⟨_,(F_strings_ReplaceAll_ok n _ _ _  _ h2),?_⟩
 conv=>whnf
 obtain ⟨h1,h⟩:=chk_some h
 refine ⟨(of_decide_eq_true h1:((x2.length + ([0,0]:List UInt8).length:Nat):Int) ≤ maxI),?_⟩
 obtain rfl:=Option.some.inj h
 conv=>whnf
 repeat (first | exact rfl | exact trivial | refine ⟨?_,?_⟩)
end W
end
section
open Go Go.Proofs Ax
namespace W
abbrev R_F_rank_lay (r:List UInt8):PV:=PV.str r
def F_rank_lay_k1 (n:Nat) (g76:Val → Option (List UInt8)) (x1:Int) (x2:Bool) (x3:Int) (x4:List UInt8) (x5:List Val) (x6:List (List UInt8)):Bool → Option (List UInt8):=fun x11 =>
 bif x11 then (
 bnd (g76 (Val.mk x1 x2 x3 x4 x5 x6)) fun x12 =>
 some x12)
else (
 some [(8:UInt8)])
def BF_rank_lay (n:Nat) (g62:Val → Option (List UInt8)) (g76:Val → Option (List UInt8)) (a0_:Val):Option (List UInt8) :=
 match a0_ with
 | ⟨x1,x2,x3,x4,x5,x6⟩ =>
 bif (x1 == (1:Int)) then (
 bif x2 then (
 some [(6:UInt8),(1:UInt8)])
 else (
 some [(6:UInt8),(0:UInt8)]))
 else (
 bif (x1 == (2:Int)) then (
 bnd (F_rank_eight n (IntKind.u64.wrap (((BitVec.ofInt IntKind.u64.bits (IntKind.u64.wrap x3) ^^^ BitVec.ofInt IntKind.u64.bits (9223372036854775808:Int)).toNat:Nat):Int))) fun x7 =>
 chk (decide ((([(7:UInt8)].length + x7.length:Nat):Int) ≤ maxI)) (
 some ([(7:UInt8)] ++ x7)))
 else (
 bif (x1 == (3:Int)) then (
 bnd (F_rank_ended n x4) fun x8 =>
 chk (decide ((([(5:UInt8)].length + x8.length:Nat):Int) ≤ maxI)) (
 some ([(5:UInt8)] ++ x8)))
 else (
 bif (x1 == (6:Int)) then (
 bnd (F_rank_eight n (IntKind.u64.wrap x3)) fun x9 =>
 chk (decide ((([(2:UInt8)].length + x9.length:Nat):Int) ≤ maxI)) (
 some ([(2:UInt8)] ++ x9)))
 else (
 bif (x1 == (7:Int)) then (
 bnd (F_rank_eight n (IntKind.u64.wrap x3)) fun x10 =>
 chk (decide ((([(3:UInt8)].length + x10.length:Nat):Int) ≤ maxI)) (
 some ([(3:UInt8)] ++ x10)))
 else (
 bif (x1 == (4:Int)) then (
 F_rank_lay_k1 n g76 x1 x2 x3 x4 x5 x6 (x1 == (4:Int)))
 else (
 F_rank_lay_k1 n g76 x1 x2 x3 x4 x5 x6 (x1 == (5:Int))))))))
abbrev R_F_rank_rows (r:List UInt8):PV:=PV.str r
def F_rank_rows_k4 (n:Nat) (g62:Val → Option (List UInt8)) (x10:Int) (x11:Bool) (x12:Int) (x13:List UInt8) (x14:List Val) (x15:List (List UInt8)) (nx1:Int × List UInt8 → Option (List UInt8)) (x8:Int):List UInt8 → Option (List UInt8):=fun x16 =>
 bnd (g62 (Val.mk x10 x11 x12 x13 x14 x15)) fun x17 =>
 chk (decide ((bRows (x16 ++ x17)).length * 1 ≤ 140737488355328)) (
 nx1 ((IntKind.i64.wrap (x8 + (1:Int))),(x16 ++ x17)))
def F_rank_rows_l1 (n:Nat) (x5:List Val) (x1:Int) (x6:List (List UInt8)) (g62:Val → Option (List UInt8)):(Int × List UInt8 → Option (List UInt8)) → Int × List UInt8 → Option (List UInt8):=fun nx1 (x8,x9) =>
 bif (decide (x8 < (((Val.rows x5).length:Nat):Int))) then (
 bnd (idx x5 x8) fun ⟨x10,x11,x12,x13,x14,x15⟩ =>
 bif (x1 == (5:Int)) then (
 chk (decide ((bRows (x9 ++ [(1:UInt8)])).length * 1 ≤ 140737488355328)) (
 bnd (idx x6 x8) fun x18 =>
 bnd (F_rank_ended n x18) fun x19 =>
 chk (decide ((bRows ((x9 ++ [(1:UInt8)]) ++ x19)).length * 1 ≤ 140737488355328)) (
 F_rank_rows_k4 n g62 x10 x11 x12 x13 x14 x15 nx1 x8 ((x9 ++ [(1:UInt8)]) ++ x19))))
else (
 F_rank_rows_k4 n g62 x10 x11 x12 x13 x14 x15 nx1 x8 x9))
else (
 chk (decide ((bRows (x9 ++ [(0:UInt8)])).length * 1 ≤ 140737488355328)) (
 some (x9 ++ [(0:UInt8)])))
def F_rank_rows_k1 (n:Nat) (x5:List Val) (x1:Int) (x6:List (List UInt8)) (g62:Val → Option (List UInt8)):List UInt8 → Option (List UInt8):=fun x7 =>
 loopK (F_rank_rows_l1 n x5 x1 x6 g62) n ((0:Int),x7)
def BF_rank_rows (n:Nat) (g62:Val → Option (List UInt8)) (g76:Val → Option (List UInt8)) (a0_:Val):Option (List UInt8) :=
 match a0_ with
 | ⟨x1,x2,x3,x4,x5,x6⟩ =>
 chk (decide ((bRows [(4:UInt8)]).length * 1 ≤ 140737488355328)) (
 bif (x1 == (5:Int)) then (
 chk (decide ((bRows [(1:UInt8)]).length * 1 ≤ 140737488355328)) (
 F_rank_rows_k1 n x5 x1 x6 g62 [(1:UInt8)]))
 else (
 F_rank_rows_k1 n x5 x1 x6 g62 [(4:UInt8)]))
set_option maxHeartbeats 20000000 in
set_option maxRecDepth 100000 in
theorem BF_rank_lay_ok (n:Nat) (g62:Val → Option (List UInt8)) (g76:Val → Option (List UInt8)) (g62_ok:∀ (a0_:Val) (r:List UInt8),g62 a0_ = some r → CallsF Tryz.prog 62 [PV.agg (valC.cells a0_)] (R_F_rank_lay r)) (g76_ok:∀ (a0_:Val) (r:List UInt8),g76 a0_ = some r → CallsF Tryz.prog 76 [PV.agg (valC.cells a0_)] (R_F_rank_rows r)):∀ (a0_:Val) (r:List UInt8),BF_rank_lay n g62 g76 a0_ = some r → CallsF Tryz.prog 62 [PV.agg (valC.cells a0_)] (R_F_rank_lay r):=by
 intro a0_ r h
 obtain ⟨x1,x2,x3,x4,x5,x6⟩:=a0_
 unfold BF_rank_lay at h
 refine CallsF.of_vcN mixed (fun _ _=>Tryz.call62 _ _) Tryz.func62 (by kernel_rfl) (inl:=[1000000]) ?_
 conv=>whnf
 refine ⟨fun hc=>?_,fun hc=>?_⟩
 ·replace h:=cond_t h hc
  conv=>whnf
  refine ⟨fun hc=>?_,fun hc=>?_⟩
  ·replace h:=cond_t h hc
   conv=>whnf
   refine ⟨Codec.one byteC [(6:UInt8),(1:UInt8)],bRows [(6:UInt8),(1:UInt8)],.inl rfl,?_⟩
   conv=>whnf
   refine ⟨_,rfl,?_⟩
   obtain rfl:=Option.some.inj h
   conv=>whnf
   repeat (first | exact rfl | exact trivial | refine ⟨?_,?_⟩)
  ·replace h:=cond_f h hc
   conv=>whnf
   refine ⟨Codec.one byteC [(6:UInt8),(0:UInt8)],bRows [(6:UInt8),(0:UInt8)],.inl rfl,?_⟩
   conv=>whnf
   refine ⟨_,rfl,?_⟩
   obtain rfl:=Option.some.inj h
   conv=>whnf
   repeat (first | exact rfl | exact trivial | refine ⟨?_,?_⟩)
 ·replace h:=cond_f h hc
  conv=>whnf
  refine ⟨fun hc=>?_,fun hc=>?_⟩
  ·replace h:=cond_t h hc
   conv=>whnf
   refine ⟨Codec.one byteC [(7:UInt8)],bRows [(7:UInt8)],.inl rfl,?_⟩
   conv=>whnf
   refine ⟨_,rfl,?_⟩
   conv=>whnf
   replace h:=bnd_some h
   obtain ⟨x7,h2,h⟩:=h
   refine ⟨_,(F_rank_eight_ok n _  _ h2),?_⟩
   conv=>whnf
   obtain ⟨h1,h⟩:=chk_some h
   refine ⟨(of_decide_eq_true h1:(([(7:UInt8)].length + x7.length:Nat):Int) ≤ maxI),?_⟩
   obtain rfl:=Option.some.inj h
   conv=>whnf
   repeat (first | exact rfl | exact trivial | refine ⟨?_,?_⟩)
  ·replace h:=cond_f h hc
   conv=>whnf
   refine ⟨fun hc=>?_,fun hc=>?_⟩
   ·replace h:=cond_t h hc
    conv=>whnf
    refine ⟨Codec.one byteC [(5:UInt8)],bRows [(5:UInt8)],.inl rfl,?_⟩
    conv=>whnf
    refine ⟨_,rfl,?_⟩
    conv=>whnf
    replace h:=bnd_some h
    obtain ⟨x8,h4,h⟩:=h
    refine ⟨_,(F_rank_ended_ok n _  _ h4),?_⟩
    conv=>whnf
    obtain ⟨h3,h⟩:=chk_some h
    refine ⟨(of_decide_eq_true h3:(([(5:UInt8)].length + x8.length:Nat):Int) ≤ maxI),?_⟩
    obtain rfl:=Option.some.inj h
    conv=>whnf
    repeat (first | exact rfl | exact trivial | refine ⟨?_,?_⟩)
   ·replace h:=cond_f h hc
    conv=>whnf
    refine ⟨fun hc=>?_,fun hc=>?_⟩
    ·replace h:=cond_t h hc
     conv=>whnf
     refine ⟨Codec.one byteC [(2:UInt8)],bRows [(2:UInt8)],.inl rfl,?_⟩
     conv=>whnf
     refine ⟨_,rfl,?_⟩
     conv=>whnf
     replace h:=bnd_some h
     obtain ⟨x9,h6,h⟩:=h
     refine ⟨_,(F_rank_eight_ok n _  _ h6),?_⟩
     conv=>whnf
     obtain ⟨h5,h⟩:=chk_some h
     refine ⟨(of_decide_eq_true h5:(([(2:UInt8)].length + x9.length:Nat):Int) ≤ maxI),?_⟩
     obtain rfl:=Option.some.inj h
     conv=>whnf
     repeat (first | exact rfl | exact trivial | refine ⟨?_,?_⟩)
    ·replace h:=cond_f h hc
     conv=>whnf
     refine ⟨fun hc=>?_,fun hc=>?_⟩
     ·replace h:=cond_t h hc
      conv=>whnf
      refine ⟨Codec.one byteC [(3:UInt8)],bRows [(3:UInt8)],.inl rfl,?_⟩
      conv=>whnf
      refine ⟨_,rfl,?_⟩
      conv=>whnf
      replace h:=bnd_some h
      obtain ⟨x10,h8,h⟩:=h
      refine ⟨_,(F_rank_eight_ok n _  _ h8),?_⟩
      conv=>whnf
      obtain ⟨h7,h⟩:=chk_some h
      refine ⟨(of_decide_eq_true h7:(([(3:UInt8)].length + x10.length:Nat):Int) ≤ maxI),?_⟩
      obtain rfl:=Option.some.inj h
      conv=>whnf
      repeat (first | exact rfl | exact trivial | refine ⟨?_,?_⟩)
     ·replace h:=cond_f h hc
      conv=>whnf
      refine SeqA.cut (S:=Bool) (fun x11=>[(1,.ptr 0 0),(49,.p (.bool x11))]) (fun x11=>[.box 36 [.p (.int .i64 x1),.p (.bool x2),.p (.int .i64 x3),.p (.str x4),.p (.sl (Val.rows x5)),.p (.sl (strs x6))]]) (F_rank_lay_k1 n g76 x1 x2 x3 x4 x5 x6) (r:=r) ?_ ?_
      ·intro x11 h
       unfold F_rank_lay_k1 at h
       conv=>whnf
       refine ⟨fun hc=>?_,fun hc=>?_⟩
       ·replace h:=cond_t h hc
        conv=>whnf
        replace h:=bnd_some h
        obtain ⟨x12,h9,h⟩:=h
        refine ⟨_,(g76_ok _  _ h9),?_⟩
        obtain rfl:=Option.some.inj h
        conv=>whnf
        repeat (first | exact rfl | exact trivial | refine ⟨?_,?_⟩)
       ·replace h:=cond_f h hc
        conv=>whnf
        refine ⟨Codec.one byteC [(8:UInt8)],bRows [(8:UInt8)],.inl rfl,?_⟩
        conv=>whnf
        refine ⟨_,rfl,?_⟩
        obtain rfl:=Option.some.inj h
        conv=>whnf
        repeat (first | exact rfl | exact trivial | refine ⟨?_,?_⟩)
      ·conv=>whnf
       refine ⟨fun hc=>?_,fun hc=>?_⟩
       ·replace h:=cond_t h hc
        conv=>whnf
        exact ⟨(x1 == (4:Int)),h,⟨[0],[],⟨rfl,rfl,rfl,rfl⟩,by repeat (first | exact trivial | exact .inl rfl | exact rfl | exact List.not_mem_nil | (refine .inr ?_) | (refine ⟨?_,?_⟩) | exact List.length_set.symm | decide),by repeat (first | exact trivial | exact .inl rfl | exact rfl | exact List.not_mem_nil | (refine .inr ?_) | (refine ⟨?_,?_⟩) | exact List.length_set.symm | decide)⟩⟩
       ·replace h:=cond_f h hc
        conv=>whnf
        exact ⟨(x1 == (5:Int)),h,⟨[0],[],⟨rfl,rfl,rfl,rfl⟩,by repeat (first | exact trivial | exact .inl rfl | exact rfl | exact List.not_mem_nil | (refine .inr ?_) | (refine ⟨?_,?_⟩) | exact List.length_set.symm | decide),by repeat (first | exact trivial | exact .inl rfl | exact rfl | exact List.not_mem_nil | (refine .inr ?_) | (refine ⟨?_,?_⟩) | exact List.length_set.symm | decide)⟩⟩
set_option maxHeartbeats 20000000 in
set_option maxRecDepth 100000 in
theorem BF_rank_rows_ok (n:Nat) (g62:Val → Option (List UInt8)) (g76:Val → Option (List UInt8)) (g62_ok:∀ (a0_:Val) (r:List UInt8),g62 a0_ = some r → CallsF Tryz.prog 62 [PV.agg (valC.cells a0_)] (R_F_rank_lay r)) (g76_ok:∀ (a0_:Val) (r:List UInt8),g76 a0_ = some r → CallsF Tryz.prog 76 [PV.agg (valC.cells a0_)] (R_F_rank_rows r)):∀ (a0_:Val) (r:List UInt8),BF_rank_rows n g62 g76 a0_ = some r → CallsF Tryz.prog 76 [PV.agg (valC.cells a0_)] (R_F_rank_rows r):=by
 intro a0_ r h
 obtain ⟨x1,x2,x3,x4,x5,x6⟩:=a0_
 unfold BF_rank_rows at h
 refine CallsF.of_vcN mixed (fun _ _=>Tryz.call76 _ _) Tryz.func76 (by kernel_rfl) (inl:=[81,82,83,84,1000000]) ?_
 conv=>whnf
 refine CallsI.of_vc mixed (fun _ _=>Tryz.call81 _ _) Tryz.func81 (by kernel_rfl) (inl:=[87,1000000]) ?_
 conv=>whnf
 refine CallsI.of_vc mixed (fun _ _=>Tryz.call87 _ _) Tryz.func87 (by kernel_rfl) (inl:=[92,1000000]) ?_
 conv=>whnf
 refine ⟨fun _=>?_,fun hf=>absurd hf (by first | decide | simp)⟩
 conv=>whnf
 refine ⟨⟨by decide,by first | decide | exact Nat.zero_lt_succ _⟩,?_⟩
 conv=>whnf
 refine CallsI.noEscape Tryz.func92 (by kernel_rfl) (by kernel_rfl) (by kernel_rfl) (by kernel_rfl) ?_
 conv=>whnf
 refine ⟨by kernel_rfl,?_⟩
 conv=>whnf
 refine ⟨Codec.one byteC [(4:UInt8)],bRows [(4:UInt8)],.inl rfl,?_⟩
 conv=>whnf
 obtain ⟨h10,h⟩:=chk_some h
 refine ⟨⟨Codec.wide byteC [(4:UInt8)],of_decide_eq_true h10,len_ok h10 (by decide)⟩,?_⟩
 conv=>whnf
 refine SeqA.cut (S:=List UInt8) (fun x7=>[(1,.ptr 0 0),(3,.ptr 1 0)]) (fun x7=>[.box 36 [.p (.int .i64 x1),.p (.bool x2),.p (.int .i64 x3),.p (.str x4),.p (.sl (Val.rows x5)),.p (.sl (strs x6))],.box 112 [.ptr 1 0,.tsl 2 (bRows x7)],.tail 5 1 (bRows x7).length]) (F_rank_rows_k1 n x5 x1 x6 g62) (r:=r) ?_ ?_
 ·intro x7 h
  unfold F_rank_rows_k1 at h
  conv=>whnf
  refine LoopA.fn [81,82,83,84,1000000] (S:=Int × List UInt8) (fun (x8,x9)=>[(1,.ptr 0 0),(3,.ptr 1 0),(13,.p (.sl (Val.rows x5))),(14,.p (.int .i64 (((Val.rows x5).length:Nat):Int))),(15,.p (.int .i64 x8))]) (fun (x8,x9)=>[.box 36 [.p (.int .i64 x1),.p (.bool x2),.p (.int .i64 x3),.p (.str x4),.p (.sl (Val.rows x5)),.p (.sl (strs x6))],.box 112 [.ptr 1 0,.tsl 2 (bRows x9)],.tail 5 1 (bRows x9).length]) (B:=F_rank_rows_l1 n x5 x1 x6 g62) h ⟨[0,1,2],[],⟨rfl,rfl,rfl,rfl⟩,by repeat (first | exact trivial | exact .inl rfl | exact rfl | exact List.not_mem_nil | (refine .inr ?_) | (refine ⟨?_,?_⟩) | exact List.length_set.symm | decide),by repeat (first | exact trivial | exact .inl rfl | exact rfl | exact List.not_mem_nil | (refine .inr ?_) | (refine ⟨?_,?_⟩) | exact List.length_set.symm | decide)⟩ ?_
  intro nx1 st h
  obtain ⟨x8,x9⟩:=st
  unfold F_rank_rows_l1 at h
  conv=>whnf
  refine ⟨fun hc=>?_,fun hc=>?_⟩
  ·replace h:=cond_t h hc
   conv=>whnf
   replace h:=bnd_some h
   obtain ⟨⟨x10,x11,x12,x13,x14,x15⟩,h7,h⟩:=h
   refine ⟨_,Codec.at_ valC h7,?_⟩
   conv=>whnf
   refine SeqA.cut (S:=List UInt8) (fun x16=>[(1,.ptr 0 0),(3,.ptr 1 0),(5,.ptr 2 0),(13,.p (.sl (Val.rows x5))),(14,.p (.int .i64 (((Val.rows x5).length:Nat):Int))),(15,.p (.int .i64 x8))]) (fun x16=>[.box 36 [.p (.int .i64 x1),.p (.bool x2),.p (.int .i64 x3),.p (.str x4),.p (.sl (Val.rows x5)),.p (.sl (strs x6))],.box 112 [.ptr 1 0,.tsl 3 (bRows x16)],.box 36 [.p (.int .i64 x10),.p (.bool x11),.p (.int .i64 x12),.p (.str x13),.p (.sl (Val.rows x14)),.p (.sl (strs x15))],.tail 5 1 (bRows x16).length]) (F_rank_rows_k4 n g62 x10 x11 x12 x13 x14 x15 nx1 x8) (r:=r) ?_ ?_
   ·intro x16 h
    unfold F_rank_rows_k4 at h
    conv=>whnf
    replace h:=bnd_some h
    obtain ⟨x17,h2,h⟩:=h
    refine ⟨_,(g62_ok _  _ h2),?_⟩
    conv=>whnf
    refine CallsI.of_vc mixed (fun _ _=>Tryz.call83 _ _) Tryz.func83 (by kernel_rfl) (inl:=[87,1000000]) ?_
    conv=>whnf
    refine CallsI.of_vc mixed (fun _ _=>Tryz.call87 _ _) Tryz.func87 (by kernel_rfl) (inl:=[92,1000000]) ?_
    conv=>whnf
    refine ⟨fun hf=>absurd hf (by first | decide | simp),fun _=>?_⟩
    conv=>whnf
    refine ⟨fun hf=>absurd hf (by first | decide | simp),fun _=>?_⟩
    conv=>whnf
    rw [show bRows x16 ++ bRows x17 = bRows (x16 ++ x17) from Codec.append byteC x16 x17]
    conv=>whnf
    obtain ⟨h1,h⟩:=chk_some h
    refine ⟨⟨Codec.wide byteC x16,of_decide_eq_true h1,len_ok h1 (by decide)⟩,?_⟩
    conv=>whnf
    refine ⟨⟨rfl,rfl,rfl⟩,?_⟩
    conv=>whnf
    exact ⟨((IntKind.i64.wrap (x8 + (1:Int))),(x16 ++ x17)),h,⟨[0,1,4],[],⟨rfl,rfl,rfl,rfl⟩,by repeat (first | exact trivial | exact .inl rfl | exact rfl | exact List.not_mem_nil | (refine .inr ?_) | (refine ⟨?_,?_⟩) | exact List.length_set.symm | decide),by repeat (first | exact trivial | exact .inl rfl | exact rfl | exact List.not_mem_nil | (refine .inr ?_) | (refine ⟨?_,?_⟩) | exact List.length_set.symm | decide)⟩⟩
   ·conv=>whnf
    refine ⟨fun hc=>?_,fun hc=>?_⟩
    ·replace h:=cond_t h hc
     conv=>whnf
     refine CallsI.of_vc mixed (fun _ _=>Tryz.call81 _ _) Tryz.func81 (by kernel_rfl) (inl:=[87,1000000]) ?_
     conv=>whnf
     refine CallsI.of_vc mixed (fun _ _=>Tryz.call87 _ _) Tryz.func87 (by kernel_rfl) (inl:=[92,1000000]) ?_
     conv=>whnf
     refine ⟨fun hf=>absurd hf (by first | decide | simp),fun _=>?_⟩
     conv=>whnf
     refine ⟨fun hf=>absurd hf (by first | decide | simp),fun _=>?_⟩
     conv=>whnf
     refine ⟨Codec.one byteC [(1:UInt8)],bRows [(1:UInt8)],.inl rfl,?_⟩
     conv=>whnf
     rw [show bRows x9 ++ bRows [(1:UInt8)] = bRows (x9 ++ [(1:UInt8)]) from Codec.append byteC x9 [(1:UInt8)]]
     conv=>whnf
     obtain ⟨h6,h⟩:=chk_some h
     refine ⟨⟨Codec.wide byteC (x9 ++ [(1:UInt8)]),of_decide_eq_true h6,len_ok h6 (by decide)⟩,?_⟩
     conv=>whnf
     refine ⟨⟨rfl,rfl,rfl⟩,?_⟩
     conv=>whnf
     replace h:=bnd_some h
     obtain ⟨x18,h5,h⟩:=h
     refine ⟨_,Codec.at_ strC h5,?_⟩
     conv=>whnf
     replace h:=bnd_some h
     obtain ⟨x19,h4,h⟩:=h
     refine ⟨_,(F_rank_ended_ok n _  _ h4),?_⟩
     conv=>whnf
     refine CallsI.of_vc mixed (fun _ _=>Tryz.call83 _ _) Tryz.func83 (by kernel_rfl) (inl:=[87,1000000]) ?_
     conv=>whnf
     refine CallsI.of_vc mixed (fun _ _=>Tryz.call87 _ _) Tryz.func87 (by kernel_rfl) (inl:=[92,1000000]) ?_
     conv=>whnf
     refine ⟨fun hf=>absurd hf (by first | decide | simp),fun _=>?_⟩
     conv=>whnf
     refine ⟨fun hf=>absurd hf (by first | decide | simp),fun _=>?_⟩
     conv=>whnf
     rw [show bRows (x9 ++ [(1:UInt8)]) ++ bRows x19 = bRows ((x9 ++ [(1:UInt8)]) ++ x19) from Codec.append byteC (x9 ++ [(1:UInt8)]) x19]
     conv=>whnf
     obtain ⟨h3,h⟩:=chk_some h
     refine ⟨⟨Codec.wide byteC (x9 ++ [(1:UInt8)]),of_decide_eq_true h3,len_ok h3 (by decide)⟩,?_⟩
     conv=>whnf
     refine ⟨⟨rfl,rfl,rfl⟩,?_⟩
     conv=>whnf
     exact ⟨((x9 ++ [(1:UInt8)]) ++ x19),h,⟨[0,1,3,5],[],⟨rfl,rfl,rfl,rfl⟩,by repeat (first | exact trivial | exact .inl rfl | exact rfl | exact List.not_mem_nil | (refine .inr ?_) | (refine ⟨?_,?_⟩) | exact List.length_set.symm | decide),by repeat (first | exact trivial | exact .inl rfl | exact rfl | exact List.not_mem_nil | (refine .inr ?_) | (refine ⟨?_,?_⟩) | exact List.length_set.symm | decide)⟩⟩
    ·replace h:=cond_f h hc
     conv=>whnf
     exact ⟨x9,h,⟨[0,1,3,2],[],⟨rfl,rfl,rfl,rfl⟩,by repeat (first | exact trivial | exact .inl rfl | exact rfl | exact List.not_mem_nil | (refine .inr ?_) | (refine ⟨?_,?_⟩) | exact List.length_set.symm | decide),by repeat (first | exact trivial | exact .inl rfl | exact rfl | exact List.not_mem_nil | (refine .inr ?_) | (refine ⟨?_,?_⟩) | exact List.length_set.symm | decide)⟩⟩
  ·replace h:=cond_f h hc
   conv=>whnf
   refine CallsI.of_vc mixed (fun _ _=>Tryz.call81 _ _) Tryz.func81 (by kernel_rfl) (inl:=[87,1000000]) ?_
   conv=>whnf
   refine CallsI.of_vc mixed (fun _ _=>Tryz.call87 _ _) Tryz.func87 (by kernel_rfl) (inl:=[92,1000000]) ?_
   conv=>whnf
   refine ⟨fun hf=>absurd hf (by first | decide | simp),fun _=>?_⟩
   conv=>whnf
   refine ⟨fun hf=>absurd hf (by first | decide | simp),fun _=>?_⟩
   conv=>whnf
   refine ⟨Codec.one byteC [(0:UInt8)],bRows [(0:UInt8)],.inl rfl,?_⟩
   conv=>whnf
   rw [show bRows x9 ++ bRows [(0:UInt8)] = bRows (x9 ++ [(0:UInt8)]) from Codec.append byteC x9 [(0:UInt8)]]
   conv=>whnf
   obtain ⟨h8,h⟩:=chk_some h
   refine ⟨⟨Codec.wide byteC (x9 ++ [(0:UInt8)]),of_decide_eq_true h8,len_ok h8 (by decide)⟩,?_⟩
   conv=>whnf
   refine ⟨⟨rfl,rfl,rfl⟩,?_⟩
   conv=>whnf
   refine CallsI.string_any (T:=112) (E:=5) enters84 string_exact84 string_empty84 (k:=1) (j:=3) (bs:=(x9 ++ [(0:UInt8)])) (n:=(bRows (x9 ++ [(0:UInt8)])).length) rfl rfl ?_
   obtain rfl:=Option.some.inj h
   conv=>whnf
   repeat (first | exact rfl | exact trivial | refine ⟨?_,?_⟩)
 ·conv=>whnf
  refine ⟨fun hc=>?_,fun hc=>?_⟩
  ·replace h:=cond_t h hc
   conv=>whnf
   refine CallsI.of_vc mixed (fun _ _=>Tryz.call82 _ _) Tryz.func82 (by kernel_rfl) (inl:=[1000000]) ?_
   conv=>whnf
   refine CallsI.of_vc mixed (fun _ _=>Tryz.call81 _ _) Tryz.func81 (by kernel_rfl) (inl:=[87,1000000]) ?_
   conv=>whnf
   refine CallsI.of_vc mixed (fun _ _=>Tryz.call87 _ _) Tryz.func87 (by kernel_rfl) (inl:=[92,1000000]) ?_
   conv=>whnf
   refine ⟨fun _=>?_,fun hf=>absurd hf (by first | decide | simp)⟩
   conv=>whnf
   refine ⟨⟨by decide,by first | decide | exact Nat.zero_lt_succ _⟩,?_⟩
   conv=>whnf
   refine CallsI.noEscape Tryz.func92 (by kernel_rfl) (by kernel_rfl) (by kernel_rfl) (by kernel_rfl) ?_
   conv=>whnf
   refine ⟨by kernel_rfl,?_⟩
   conv=>whnf
   refine ⟨Codec.one byteC [(1:UInt8)],bRows [(1:UInt8)],.inl rfl,?_⟩
   conv=>whnf
   obtain ⟨h9,h⟩:=chk_some h
   refine ⟨⟨Codec.wide byteC [(1:UInt8)],of_decide_eq_true h9,len_ok h9 (by decide)⟩,?_⟩
   conv=>whnf
   exact ⟨[(1:UInt8)],h,⟨[0,1,3],[],⟨rfl,rfl,rfl,rfl⟩,by repeat (first | exact trivial | exact .inl rfl | exact rfl | exact List.not_mem_nil | (refine .inr ?_) | (refine ⟨?_,?_⟩) | exact List.length_set.symm | decide),by repeat (first | exact trivial | exact .inl rfl | exact rfl | exact List.not_mem_nil | (refine .inr ?_) | (refine ⟨?_,?_⟩) | exact List.length_set.symm | decide)⟩⟩
  ·replace h:=cond_f h hc
   conv=>whnf
   exact ⟨[(4:UInt8)],h,⟨[0,1,2],[],⟨rfl,rfl,rfl,rfl⟩,by repeat (first | exact trivial | exact .inl rfl | exact rfl | exact List.not_mem_nil | (refine .inr ?_) | (refine ⟨?_,?_⟩) | exact List.length_set.symm | decide),by repeat (first | exact trivial | exact .inl rfl | exact rfl | exact List.not_mem_nil | (refine .inr ?_) | (refine ⟨?_,?_⟩) | exact List.length_set.symm | decide)⟩⟩
mutual
def F_rank_lay:Nat → Val → Option (List UInt8)
 | 0=>fun _=>none
 | n + 1=>BF_rank_lay n (F_rank_lay n) (F_rank_rows n)
def F_rank_rows:Nat → Val → Option (List UInt8)
 | 0=>fun _=>none
 | n + 1=>BF_rank_rows n (F_rank_lay n) (F_rank_rows n)
end
set_option maxRecDepth 100000 in
theorem F_rank_lay_all (n:Nat):(∀ (a0_:Val) (r:List UInt8),F_rank_lay n a0_ = some r → CallsF Tryz.prog 62 [PV.agg (valC.cells a0_)] (R_F_rank_lay r)) ∧ (∀ (a0_:Val) (r:List UInt8),F_rank_rows n a0_ = some r → CallsF Tryz.prog 76 [PV.agg (valC.cells a0_)] (R_F_rank_rows r)):=by
 induction n with
 | zero=>exact ⟨(by intros; rename_i h; cases h),(by intros; rename_i h; cases h)⟩
 | succ n ih =>
  obtain ⟨hg62,hg76⟩:=ih
  exact ⟨BF_rank_lay_ok n (F_rank_lay n) (F_rank_rows n) hg62 hg76,BF_rank_rows_ok n (F_rank_lay n) (F_rank_rows n) hg62 hg76⟩
set_option maxRecDepth 100000 in
theorem F_rank_lay_ok (n:Nat):∀ (a0_:Val) (r:List UInt8),F_rank_lay n a0_ = some r → CallsF Tryz.prog 62 [PV.agg (valC.cells a0_)] (R_F_rank_lay r):=(F_rank_lay_all n).1
abbrev R_F_rank_Key (r:List UInt8 × Int):PV:=PV.tup [PV.str r.1,PV.int .i64 r.2]
def F_rank_Key (n:Nat)  (a0_:Val):Option (List UInt8 × Int) :=
 match a0_ with
 | ⟨x1,x2,x3,x4,x5,x6⟩ =>
 bnd (F_value_Check n (Val.mk x1 x2 x3 x4 x5 x6)) fun x7 =>
 bif (x7 != (0:Int)) then (
 some (([]:List UInt8),x7))
 else (
 bnd (F_rank_lay n (Val.mk x1 x2 x3 x4 x5 x6)) fun x8 =>
 some (x8,(0:Int)))
set_option maxRecDepth 100000 in
theorem F_rank_Key_ok (n:Nat)   : ∀ (a0_:Val) (r:List UInt8 × Int),F_rank_Key n a0_ = some r → CallsF Tryz.prog 44 [PV.agg (valC.cells a0_)] (R_F_rank_Key r):=by
 intro a0_ r h
 obtain ⟨x1,x2,x3,x4,x5,x6⟩:=a0_
 unfold F_rank_Key at h
 refine CallsF.of_vcN mixed (fun _ _=>Tryz.call44 _ _) Tryz.func44 (by kernel_rfl) (inl:=[1000000]) ?_
 conv=>whnf
 replace h:=bnd_some h
 obtain ⟨x7,h2,h⟩:=h
 refine ⟨_,(F_value_Check_ok n _  _ h2),?_⟩
 conv=>whnf
 refine ⟨fun hc=>?_,fun hc=>?_⟩
 ·replace h:=cond_t h hc
  obtain rfl:=Option.some.inj h
  conv=>whnf
  repeat (first | exact rfl | exact trivial | refine ⟨?_,?_⟩)
 ·replace h:=cond_f h hc
  conv=>whnf
  replace h:=bnd_some h
  obtain ⟨x8,h1,h⟩:=h
  refine ⟨_,(F_rank_lay_ok n _  _ h1),?_⟩
  obtain rfl:=Option.some.inj h
  conv=>whnf
  repeat (first | exact rfl | exact trivial | refine ⟨?_,?_⟩)
abbrev R_F_rows_key (r:List UInt8):PV:=PV.str r
def F_rows_key_k3 (n:Nat) (x2:List UInt8) (nx1:List UInt8 × Int → Option (List UInt8)) (x3:Int):List UInt8 → Option (List UInt8):=fun x12 =>
 chk (decide (((x2.length + x12.length:Nat):Int) ≤ maxI)) (
 nx1 ((x2 ++ x12),(IntKind.i64.wrap (x3 + (1:Int)))))
def F_rows_key_l1 (n:Nat) (x1:List Val):(List UInt8 × Int → Option (List UInt8)) → List UInt8 × Int → Option (List UInt8):=fun nx1 (x2,x3) =>
 bif (decide (x3 < (((Val.rows x1).length:Nat):Int))) then (
 bnd (idx x1 x3) fun ⟨x4,x5,x6,x7,x8,x9⟩ =>
 bnd (F_rank_Key n (Val.mk x4 x5 x6 x7 x8 x9)) fun ⟨x10,x11⟩ =>
 bif (x11 != (0:Int)) then (
 F_rows_key_k3 n x2 nx1 x3 ([63]:List UInt8))
else (
 F_rows_key_k3 n x2 nx1 x3 x10))
else (
 some x2)
def F_rows_key (n:Nat)  (x1:List Val):Option (List UInt8) :=
 loopK (F_rows_key_l1 n x1) n (([]:List UInt8),(0:Int))
set_option maxRecDepth 100000 in
theorem F_rows_key_ok (n:Nat)   : ∀ (x1:List Val) (r:List UInt8),F_rows_key n x1 = some r → CallsF Tryz.prog 24 [PV.sl (Val.rows x1)] (R_F_rows_key r):=by
 intro x1 r h
 unfold F_rows_key at h
 refine CallsF.of_vcN mixed (fun _ _=>Tryz.call24 _ _) Tryz.func24 (by kernel_rfl) (inl:=[1000000]) ?_
 conv=>whnf
 refine LoopA.fn [1000000] (S:=List UInt8 × Int) (fun (x2,x3)=>[(3,.p (.str x2)),(8,.p (.sl (Val.rows x1))),(9,.p (.int .i64 (((Val.rows x1).length:Nat):Int))),(10,.p (.int .i64 x3))]) (fun (x2,x3)=>[]) (B:=F_rows_key_l1 n x1) h ⟨[],[],⟨rfl,rfl,rfl,rfl⟩,by repeat (first | exact trivial | exact .inl rfl | exact rfl | exact List.not_mem_nil | (refine .inr ?_) | (refine ⟨?_,?_⟩) | exact List.length_set.symm | decide),by repeat (first | exact trivial | exact .inl rfl | exact rfl | exact List.not_mem_nil | (refine .inr ?_) | (refine ⟨?_,?_⟩) | exact List.length_set.symm | decide)⟩ ?_
 intro nx1 st h
 obtain ⟨x2,x3⟩:=st
 unfold F_rows_key_l1 at h
 conv=>whnf
 refine ⟨fun hc=>?_,fun hc=>?_⟩
 ·replace h:=cond_t h hc
  conv=>whnf
  replace h:=bnd_some h
  obtain ⟨⟨x4,x5,x6,x7,x8,x9⟩,h3,h⟩:=h
  refine ⟨_,Codec.at_ valC h3,?_⟩
  conv=>whnf
  replace h:=bnd_some h
  obtain ⟨⟨x10,x11⟩,h2,h⟩:=h
  refine ⟨_,(F_rank_Key_ok n _  _ h2),?_⟩
  conv=>whnf
  refine SeqA.cut (S:=List UInt8) (fun x12=>[(3,.p (.str x2)),(6,.p (.str x12)),(8,.p (.sl (Val.rows x1))),(9,.p (.int .i64 (((Val.rows x1).length:Nat):Int))),(10,.p (.int .i64 x3))]) (fun x12=>[]) (F_rows_key_k3 n x2 nx1 x3) (r:=r) ?_ ?_
  ·intro x12 h
   unfold F_rows_key_k3 at h
   conv=>whnf
   obtain ⟨h1,h⟩:=chk_some h
   refine ⟨(of_decide_eq_true h1:((x2.length + x12.length:Nat):Int) ≤ maxI),?_⟩
   conv=>whnf
   exact ⟨((x2 ++ x12),(IntKind.i64.wrap (x3 + (1:Int)))),h,⟨[],[],⟨rfl,rfl,rfl,rfl⟩,by repeat (first | exact trivial | exact .inl rfl | exact rfl | exact List.not_mem_nil | (refine .inr ?_) | (refine ⟨?_,?_⟩) | exact List.length_set.symm | decide),by repeat (first | exact trivial | exact .inl rfl | exact rfl | exact List.not_mem_nil | (refine .inr ?_) | (refine ⟨?_,?_⟩) | exact List.length_set.symm | decide)⟩⟩
  ·conv=>whnf
   refine ⟨fun hc=>?_,fun hc=>?_⟩
   ·replace h:=cond_t h hc
    conv=>whnf
    exact ⟨([63]:List UInt8),h,⟨[],[],⟨rfl,rfl,rfl,rfl⟩,by repeat (first | exact trivial | exact .inl rfl | exact rfl | exact List.not_mem_nil | (refine .inr ?_) | (refine ⟨?_,?_⟩) | exact List.length_set.symm | decide),by repeat (first | exact trivial | exact .inl rfl | exact rfl | exact List.not_mem_nil | (refine .inr ?_) | (refine ⟨?_,?_⟩) | exact List.length_set.symm | decide)⟩⟩
   ·replace h:=cond_f h hc
    conv=>whnf
    exact ⟨x10,h,⟨[],[],⟨rfl,rfl,rfl,rfl⟩,by repeat (first | exact trivial | exact .inl rfl | exact rfl | exact List.not_mem_nil | (refine .inr ?_) | (refine ⟨?_,?_⟩) | exact List.length_set.symm | decide),by repeat (first | exact trivial | exact .inl rfl | exact rfl | exact List.not_mem_nil | (refine .inr ?_) | (refine ⟨?_,?_⟩) | exact List.length_set.symm | decide)⟩⟩
 ·replace h:=cond_f h hc
  obtain rfl:=Option.some.inj h
  conv=>whnf
  repeat (first | exact rfl | exact trivial | refine ⟨?_,?_⟩)
abbrev R_F_value_Copy (r:Val):PV:=PV.agg (valC.cells r)
def F_value_Copy_l1 (n:Nat) (x7:Nat) (g26:Val → Option (Val)) (x6:List (List UInt8)) (x1:Int) (x2:Bool) (x3:Int) (x4:List UInt8):(Int × List Val → Option (Val)) → Int × List Val → Option (Val):=fun nx1 (x8,x9) =>
 bif (decide (x8 < ((((Val.rows (List.replicate x7 (Val.mk (0:Int) false (0:Int) ([]:List UInt8) ([]:List Val) ([]:List (List UInt8))))).length):Nat):Int))) then (
 bnd (natI x8) fun x10 =>
 chk (decide (x10 < (Val.rows (List.replicate x7 (Val.mk (0:Int) false (0:Int) ([]:List UInt8) ([]:List Val) ([]:List (List UInt8))))).length)) (
 bnd (x9[x10]?) fun ⟨x11,x12,x13,x14,x15,x16⟩ =>
 bnd (g26 (Val.mk x11 x12 x13 x14 x15 x16)) fun ⟨x17,x18,x19,x20,x21,x22⟩ =>
 bnd (natI x8) fun x23 =>
 chk (decide (x23 < (Val.rows (List.replicate x7 (Val.mk (0:Int) false (0:Int) ([]:List UInt8) ([]:List Val) ([]:List (List UInt8))))).length)) (
 bnd (x9[x23]?) fun ⟨x24,x25,x26,x27,x28,x29⟩ =>
 nx1 ((IntKind.i64.wrap (x8 + (1:Int))),(x9.set x23 (Val.mk x17 x18 x19 x20 x21 x22))))))
else (
 chk (decide ((strs x6).length * 16 ≤ 140737488355328)) (
 some (Val.mk x1 x2 x3 x4 x9 x6)))
def BF_value_Copy (n:Nat) (g26:Val → Option (Val)) (a0_:Val):Option (Val) :=
 match a0_ with
 | ⟨x1,x2,x3,x4,x5,x6⟩ =>
 bnd (natI (((Val.rows x5).length:Nat):Int)) fun x7 =>
 chk (decide (x7 * 88 ≤ 140737488355328)) (
 chk (decide ((Val.rows x5).length = (Val.rows (List.replicate x7 (Val.mk (0:Int) false (0:Int) ([]:List UInt8) ([]:List Val) ([]:List (List UInt8))))).length)) (
 loopK (F_value_Copy_l1 n x7 g26 x6 x1 x2 x3 x4) n ((0:Int),x5)))
set_option maxRecDepth 100000 in
theorem BF_value_Copy_ok (n:Nat) (g26:Val → Option (Val)) (g26_ok:∀ (a0_:Val) (r:Val),g26 a0_ = some r → CallsF Tryz.prog 26 [PV.agg (valC.cells a0_)] (R_F_value_Copy r)):∀ (a0_:Val) (r:Val),BF_value_Copy n g26 a0_ = some r → CallsF Tryz.prog 26 [PV.agg (valC.cells a0_)] (R_F_value_Copy r):=by
 intro a0_ r h
 obtain ⟨x1,x2,x3,x4,x5,x6⟩:=a0_
 unfold BF_value_Copy at h
 refine CallsF.of_vcN mixed (fun _ _=>Tryz.call26 _ _) Tryz.func26 (by kernel_rfl) (inl:=[45,10000008,1000000]) ?_
 conv=>whnf
 replace h:=bnd_some h
 obtain ⟨x7,h11,h⟩:=h
 have hj:=natI_some h11
 conv=>whnf
 obtain ⟨h10,h⟩:=chk_some h
 refine ⟨x7,Val.rows (List.replicate x7 (Val.mk (0:Int) false (0:Int) ([]:List UInt8) ([]:List Val) ([]:List (List UInt8)))),⟨hj,hj,of_decide_eq_true h10,len_ok h10 (by decide),Codec.madeN valC (Val.mk (0:Int) false (0:Int) ([]:List UInt8) ([]:List Val) ([]:List (List UInt8))) x7 (by repeat (first | exact rfl | exact trivial | refine ⟨?_,?_⟩)),rfl,by decide,rfl⟩,?_⟩
 conv=>whnf
 obtain ⟨h9,h⟩:=chk_some h
 refine ⟨⟨rfl,of_decide_eq_true h9,Codec.wide valC x5⟩,?_⟩
 conv=>whnf
 refine LoopA.fn [45,10000008,1000000] (S:=Int × List Val) (fun (x8,x9)=>[(1,.ptr 0 0),(2,.ptr 1 0),(3,.vsl 2 ((Val.rows (List.replicate x7 (Val.mk (0:Int) false (0:Int) ([]:List UInt8) ([]:List Val) ([]:List (List UInt8))))).length)),(14,.p (.int .i64 ((((Val.rows (List.replicate x7 (Val.mk (0:Int) false (0:Int) ([]:List UInt8) ([]:List Val) ([]:List (List UInt8))))).length):Nat):Int))),(15,.p (.int .i64 x8))]) (fun (x8,x9)=>[.box 36 [.p (.int .i64 x1),.p (.bool x2),.p (.int .i64 x3),.p (.str x4),.p (.sl (Val.rows x5)),.p (.sl (strs x6))],.box 36 [.p (.int .i64 (0:Int)),.p (.bool false),.p (.int .i64 (0:Int)),.p (.str ([]:List UInt8)),.p (.nilsl),.p (.nilsl)],.vec 36 6 (Val.rows x9)]) (B:=F_value_Copy_l1 n x7 g26 x6 x1 x2 x3 x4) h ⟨[0,1,2],[],⟨rfl,rfl,rfl,rfl⟩,by repeat (first | exact trivial | exact .inl rfl | exact rfl | exact List.not_mem_nil | (refine .inr ?_) | (refine ⟨?_,?_⟩) | exact List.length_set.symm | decide),by repeat (first | exact trivial | exact .inl rfl | exact rfl | exact List.not_mem_nil | (refine .inr ?_) | (refine ⟨?_,?_⟩) | exact List.length_set.symm | decide)⟩ ?_
 intro nx1 st h
 obtain ⟨x8,x9⟩:=st
 unfold F_value_Copy_l1 at h
 conv=>whnf
 refine ⟨fun hc=>?_,fun hc=>?_⟩
 ·replace h:=cond_t h hc
  conv=>whnf
  replace h:=bnd_some h
  obtain ⟨x10,h7,h⟩:=h
  have hj:=natI_some h7
  conv=>whnf
  obtain ⟨h6,h⟩:=chk_some h
  refine ⟨x10,⟨hj,of_decide_eq_true h6⟩,?_⟩
  conv=>whnf
  replace h:=bnd_some h
  obtain ⟨⟨x11,x12,x13,x14,x15,x16⟩,h5,h⟩:=h
  refine ⟨_,⟨rfl,Codec.getN valC h5⟩,?_⟩
  conv=>whnf
  replace h:=bnd_some h
  obtain ⟨⟨x17,x18,x19,x20,x21,x22⟩,h4,h⟩:=h
  refine ⟨_,(g26_ok _  _ h4),?_⟩
  conv=>whnf
  replace h:=bnd_some h
  obtain ⟨x23,h3,h⟩:=h
  have hj:=natI_some h3
  conv=>whnf
  obtain ⟨h2,h⟩:=chk_some h
  refine ⟨x23,⟨hj,of_decide_eq_true h2⟩,?_⟩
  conv=>whnf
  replace h:=bnd_some h
  obtain ⟨⟨x24,x25,x26,x27,x28,x29⟩,h1,h⟩:=h
  refine ⟨_,⟨rfl,Codec.getN valC h1,rfl⟩,?_⟩
  conv=>whnf
  refine ⟨_,Codec.setN valC x9 x23 (Val.mk x17 x18 x19 x20 x21 x22),?_⟩
  conv=>whnf
  exact ⟨((IntKind.i64.wrap (x8 + (1:Int))),(x9.set x23 (Val.mk x17 x18 x19 x20 x21 x22))),h,⟨[0,1,2],[],⟨rfl,rfl,rfl,rfl⟩,by repeat (first | exact trivial | exact .inl rfl | exact rfl | exact List.not_mem_nil | (refine .inr ?_) | (refine ⟨?_,?_⟩) | exact List.length_set.symm | decide),by repeat (first | exact trivial | exact .inl rfl | exact rfl | exact List.not_mem_nil | (refine .inr ?_) | (refine ⟨?_,?_⟩) | exact List.length_set.symm | decide)⟩⟩
 ·replace h:=cond_f h hc
  conv=>whnf
  obtain ⟨h8,h⟩:=chk_some h
  refine CallsO.use (Clone_ok x6 (of_decide_eq_true h8)) [] [] ⟨rfl,rfl,rfl,rfl,rfl,rfl⟩ (by repeat (first | exact trivial | exact .inl rfl | exact rfl | exact List.not_mem_nil | (refine .inr ?_) | (refine ⟨?_,?_⟩) | exact List.length_set.symm | decide)) (by repeat (first | exact trivial | exact .inl rfl | exact rfl | exact List.not_mem_nil | (refine .inr ?_) | (refine ⟨?_,?_⟩) | exact List.length_set.symm | decide)) ?_
  rintro _ _ ⟨rfl,rfl⟩
  refine ⟨.tsl 3 (strs x6),[.box 36 [.p (.int .i64 x1),.p (.bool x2),.p (.int .i64 x3),.p (.str x4),.vsl 2 ((Val.rows (List.replicate x7 (Val.mk (0:Int) false (0:Int) ([]:List UInt8) ([]:List Val) ([]:List (List UInt8))))).length),.p (.sl (strs x6))],.box 36 [.p (.int .i64 (0:Int)),.p (.bool false),.p (.int .i64 (0:Int)),.p (.str ([]:List UInt8)),.p (.nilsl),.p (.nilsl)],.vec 36 6 (Val.rows x9),.tail 9 1 (strs x6).length],rfl,rfl,?_⟩
  obtain rfl:=Option.some.inj h
  conv=>whnf
  repeat (first | exact rfl | exact trivial | refine ⟨?_,?_⟩)
def F_value_Copy:Nat → Val → Option (Val)
 | 0=>fun _=>none
 | n + 1=>BF_value_Copy n (F_value_Copy n)
set_option maxRecDepth 100000 in
theorem F_value_Copy_all (n:Nat):(∀ (a0_:Val) (r:Val),F_value_Copy n a0_ = some r → CallsF Tryz.prog 26 [PV.agg (valC.cells a0_)] (R_F_value_Copy r)):=by
 induction n with
 | zero=>exact (by intros; rename_i h; cases h)
 | succ n ih =>
  have hg26:=ih
  exact BF_value_Copy_ok n (F_value_Copy n) hg26
set_option maxRecDepth 100000 in
theorem F_value_Copy_ok (n:Nat):∀ (a0_:Val) (r:Val),F_value_Copy n a0_ = some r → CallsF Tryz.prog 26 [PV.agg (valC.cells a0_)] (R_F_value_Copy r):=(F_value_Copy_all n)
abbrev R_F_rows_copied (r:List Val):PV:=PV.sl (Val.rows r)
def F_rows_copied_l1 (n:Nat) (x1:List Val):(List Val × Int → Option (List Val)) → List Val × Int → Option (List Val):=fun nx1 (x3,x4) =>
 bif (decide (x4 < (((Val.rows x1).length:Nat):Int))) then (
 bnd (idx x1 x4) fun ⟨x5,x6,x7,x8,x9,x10⟩ =>
 bnd (F_value_Copy n (Val.mk x5 x6 x7 x8 x9 x10)) fun ⟨x11,x12,x13,x14,x15,x16⟩ =>
 chk (decide ((Val.rows (x3 ++ [Val.mk x11 x12 x13 x14 x15 x16])).length * 88 ≤ 140737488355328)) (
 nx1 ((x3 ++ [Val.mk x11 x12 x13 x14 x15 x16]),(IntKind.i64.wrap (x4 + (1:Int))))))
else (
 some x3)
def F_rows_copied (n:Nat)  (x1:List Val):Option (List Val) :=
 bnd (natI (((Val.rows x1).length:Nat):Int)) fun x2 =>
 chk (decide (x2 * 88 ≤ 140737488355328)) (
 loopK (F_rows_copied_l1 n x1) n (([]:List Val),(0:Int)))
set_option maxRecDepth 100000 in
theorem F_rows_copied_ok (n:Nat)   : ∀ (x1:List Val) (r:List Val),F_rows_copied n x1 = some r → CallsF Tryz.prog 37 [PV.sl (Val.rows x1)] (R_F_rows_copied r):=by
 intro x1 r h
 unfold F_rows_copied at h
 refine CallsF.of_vcN mixed (fun _ _=>Tryz.call37 _ _) Tryz.func37 (by kernel_rfl) (inl:=[1000000]) ?_
 conv=>whnf
 replace h:=bnd_some h
 obtain ⟨x2,h5,h⟩:=h
 have hj:=natI_some h5
 conv=>whnf
 obtain ⟨h4,h⟩:=chk_some h
 refine ⟨x2,⟨rfl,hj,of_decide_eq_true h4,len_ok h4 (by decide)⟩,?_⟩
 conv=>whnf
 refine LoopA.fn [1000000] (S:=List Val × Int) (fun (x3,x4)=>[(3,.tsl 0 (Val.rows x3)),(9,.p (.sl (Val.rows x1))),(10,.p (.int .i64 (((Val.rows x1).length:Nat):Int))),(11,.p (.int .i64 x4))]) (fun (x3,x4)=>[.tail 36 6 (Val.rows x3).length]) (B:=F_rows_copied_l1 n x1) h ⟨[0],[],⟨rfl,rfl,rfl,rfl⟩,by repeat (first | exact trivial | exact .inl rfl | exact rfl | exact List.not_mem_nil | (refine .inr ?_) | (refine ⟨?_,?_⟩) | exact List.length_set.symm | decide),by repeat (first | exact trivial | exact .inl rfl | exact rfl | exact List.not_mem_nil | (refine .inr ?_) | (refine ⟨?_,?_⟩) | exact List.length_set.symm | decide)⟩ ?_
 intro nx1 st h
 obtain ⟨x3,x4⟩:=st
 unfold F_rows_copied_l1 at h
 conv=>whnf
 refine ⟨fun hc=>?_,fun hc=>?_⟩
 ·replace h:=cond_t h hc
  conv=>whnf
  replace h:=bnd_some h
  obtain ⟨⟨x5,x6,x7,x8,x9,x10⟩,h3,h⟩:=h
  refine ⟨_,Codec.at_ valC h3,?_⟩
  conv=>whnf
  replace h:=bnd_some h
  obtain ⟨⟨x11,x12,x13,x14,x15,x16⟩,h2,h⟩:=h
  refine ⟨_,(F_value_Copy_ok n _  _ h2),?_⟩
  conv=>whnf
  refine ⟨Codec.one valC [Val.mk x11 x12 x13 x14 x15 x16],Val.rows [Val.mk x11 x12 x13 x14 x15 x16],.inl rfl,?_⟩
  conv=>whnf
  rw [show Val.rows x3 ++ Val.rows [Val.mk x11 x12 x13 x14 x15 x16] = Val.rows (x3 ++ [Val.mk x11 x12 x13 x14 x15 x16]) from Codec.append valC x3 [Val.mk x11 x12 x13 x14 x15 x16]]
  conv=>whnf
  obtain ⟨h1,h⟩:=chk_some h
  refine ⟨⟨Codec.wide valC (x3 ++ [Val.mk x11 x12 x13 x14 x15 x16]),of_decide_eq_true h1,len_ok h1 (by decide)⟩,?_⟩
  conv=>whnf
  refine ⟨⟨rfl,rfl,rfl⟩,?_⟩
  conv=>whnf
  exact ⟨((x3 ++ [Val.mk x11 x12 x13 x14 x15 x16]),(IntKind.i64.wrap (x4 + (1:Int)))),h,⟨[2],[],⟨rfl,rfl,rfl,rfl⟩,by repeat (first | exact trivial | exact .inl rfl | exact rfl | exact List.not_mem_nil | (refine .inr ?_) | (refine ⟨?_,?_⟩) | exact List.length_set.symm | decide),by repeat (first | exact trivial | exact .inl rfl | exact rfl | exact List.not_mem_nil | (refine .inr ?_) | (refine ⟨?_,?_⟩) | exact List.length_set.symm | decide)⟩⟩
 ·replace h:=cond_f h hc
  obtain rfl:=Option.some.inj h
  conv=>whnf
  repeat (first | exact rfl | exact trivial | refine ⟨?_,?_⟩)
abbrev R_F_rows_Unique_c1 (r:List Val):PV:=PV.sl (Val.rows r)
def F_rows_Unique_c1 (n:Nat)  (x1:List Val):Option (List Val) :=
 bnd (F_rows_copied n x1) fun x2 =>
 some x2
set_option maxRecDepth 100000 in
theorem F_rows_Unique_c1_ok (n:Nat)   : ∀ (x1:List Val) (r:List Val),F_rows_Unique_c1 n x1 = some r → CallsF Tryz.prog 36 [PV.hp [PV.sl (Val.rows x1)]] (R_F_rows_Unique_c1 r):=by
 intro x1 r h
 unfold F_rows_Unique_c1 at h
 refine CallsF.of_vcN mixed (fun _ _=>Tryz.call36 _ _) Tryz.func36 (by kernel_rfl) (inl:=[1000000]) ?_
 conv=>whnf
 replace h:=bnd_some h
 obtain ⟨x2,h1,h⟩:=h
 refine ⟨_,(F_rows_copied_ok n _  _ h1),?_⟩
 obtain rfl:=Option.some.inj h
 conv=>whnf
 repeat (first | exact rfl | exact trivial | refine ⟨?_,?_⟩)
abbrev R_F_rows_Unique (r:List (List Val)):PV:=PV.sl (slRows valC r)
def F_rows_Unique_k3 (n:Nat) (nx1:Int × List (List Val) × List ((List UInt8) × Int) → Option (List (List Val))) (x2:Int):Int × List (List Val) × List ((List UInt8) × Int) → Option (List (List Val)):=fun (x7,x8,x9) =>
 nx1 ((IntKind.i64.wrap (x2 + (1:Int))),x8,x9)
def F_rows_Unique_l1 (n:Nat) (x1:List (List Val)):(Int × List (List Val) × List ((List UInt8) × Int) → Option (List (List Val))) → Int × List (List Val) × List ((List UInt8) × Int) → Option (List (List Val)):=fun nx1 (x2,x3,x4) =>
 bif (decide (x2 < (((slRows valC x1).length:Nat):Int))) then (
 bnd (idx x1 x2) fun x5 =>
 bnd (F_rows_key n x5) fun x6 =>
 bif (!(mhas x4 x6)) then (
 bnd (F_rows_Unique_c1 n x5) fun x10 =>
 chk (decide ((slRows valC (x3 ++ [x10])).length * 24 ≤ 140737488355328)) (
 F_rows_Unique_k3 n nx1 x2 ((((slRows valC x3).length:Nat):Int),(x3 ++ [x10]),(mset x6 (((slRows valC x3).length:Nat):Int) x4))))
else (
 F_rows_Unique_k3 n nx1 x2 ((mgetD x4 x6 (0:Int)),x3,x4)))
else (
 some x3)
def F_rows_Unique (n:Nat)  (x1:List (List Val)):Option (List (List Val)) :=
 loopK (F_rows_Unique_l1 n x1) n ((0:Int),([]:List _),([]:List ((List UInt8) × Int)))
set_option maxHeartbeats 20000000 in
set_option maxRecDepth 100000 in
theorem F_rows_Unique_ok (n:Nat)   : ∀ (x1:List (List Val)) (r:List (List Val)),F_rows_Unique n x1 = some r → CallsF Tryz.prog 14 [PV.sl (slRows valC x1)] (R_F_rows_Unique r):=by
 intro x1 r h
 unfold F_rows_Unique at h
 refine CallsF.of_vcN mixed (fun _ _=>Tryz.call14 _ _) Tryz.func14 (by kernel_rfl) (inl:=[34,35,38,1000000]) ?_
 conv=>whnf
 refine CallsI.of_vc mixed (fun _ _=>Tryz.call34 _ _) Tryz.func34 (by kernel_rfl) (inl:=[1000000]) ?_
 conv=>whnf
 refine LoopA.fn [34,35,38,1000000] (S:=Int × List (List Val) × List ((List UInt8) × Int)) (fun (x2,x3,x4)=>[(3,.ptr 0 0),(7,.p (.sl (slRows valC x1))),(8,.p (.int .i64 (((slRows valC x1).length:Nat):Int))),(9,.p (.int .i64 x2))]) (fun (x2,x3,x4)=>[.box 87 [.mref 1,.tsl 2 (slRows valC x3)],.mp .string (mRows PV.str (PV.int .i64) x4) none,.tail 34 1 (slRows valC x3).length]) (B:=F_rows_Unique_l1 n x1) h ⟨[1,0,0],[2],⟨rfl,rfl,rfl,rfl⟩,by repeat (first | exact trivial | exact .inl rfl | exact rfl | exact List.not_mem_nil | (refine .inr ?_) | (refine ⟨?_,?_⟩) | exact List.length_set.symm | decide),by repeat (first | exact trivial | exact .inl rfl | exact rfl | exact List.not_mem_nil | (refine .inr ?_) | (refine ⟨?_,?_⟩) | exact List.length_set.symm | decide)⟩ ?_
 intro nx1 st h
 obtain ⟨x2,x3,x4⟩:=st
 unfold F_rows_Unique_l1 at h
 conv=>whnf
 refine ⟨fun hc=>?_,fun hc=>?_⟩
 ·replace h:=cond_t h hc
  conv=>whnf
  replace h:=bnd_some h
  obtain ⟨x5,h4,h⟩:=h
  refine ⟨_,Codec.at_ (slC valC) h4,?_⟩
  conv=>whnf
  replace h:=bnd_some h
  obtain ⟨x6,h3,h⟩:=h
  refine ⟨_,(F_rows_key_ok n _  _ h3),?_⟩
  conv=>whnf
  refine CallsI.pubBox (P:=Tryz.prog) (f:=35) 3 (t:=34) (cells:=[.p (.sl (Val.rows x5))]) (row:=[PV.sl (Val.rows x5)]) ?_ ?_ ?_ ?_
  rfl
  rfl
  rfl
  refine CallsI.of_vc mixed (fun _ _=>Tryz.call35 _ _) Tryz.func35 (by kernel_rfl) (inl:=[1000000]) ?_
  conv=>whnf
  refine ⟨PV.int .i64 (mgetD x4 x6 (0:Int)),(mhas x4 x6),⟨look_D keyStr (PV.int .i64) x4 x6 (0:Int),look_b keyStr (PV.int .i64) x4 x6⟩,?_⟩
  conv=>whnf
  refine SeqA.cut (S:=Int × List (List Val) × List ((List UInt8) × Int)) (fun (x7,x8,x9)=>[(8,.p (.int .i64 x7)),(9,.p (.bool (mhas x4 x6)))]) (fun (x7,x8,x9)=>[.box 87 [.mref 1,.tsl 4 (slRows valC x8)],.mp .string (mRows PV.str (PV.int .i64) x9) none,.dead,.dead,.tail 34 1 (slRows valC x8).length]) (F_rows_Unique_k3 n nx1 x2) (r:=r) ?_ ?_
  ·intro st h
   obtain ⟨x7,x8,x9⟩:=st
   unfold F_rows_Unique_k3 at h
   conv=>whnf
   exact ⟨((IntKind.i64.wrap (x2 + (1:Int))),x8,x9),h,⟨[0,1,4],[],⟨rfl,rfl,rfl,rfl⟩,by repeat (first | exact trivial | exact .inl rfl | exact rfl | exact List.not_mem_nil | (refine .inr ?_) | (refine ⟨?_,?_⟩) | exact List.length_set.symm | decide),by repeat (first | exact trivial | exact .inl rfl | exact rfl | exact List.not_mem_nil | (refine .inr ?_) | (refine ⟨?_,?_⟩) | exact List.length_set.symm | decide)⟩⟩
  ·conv=>whnf
   refine ⟨fun hc=>?_,fun hc=>?_⟩
   ·replace h:=cond_t h hc
    conv=>whnf
    refine ⟨_,set_rows keyStr (PV.int .i64) x6 (((slRows valC x3).length:Nat):Int) x4,?_⟩
    conv=>whnf
    replace h:=bnd_some h
    obtain ⟨x10,h2,h⟩:=h
    refine ⟨_,(F_rows_Unique_c1_ok n _  _ h2),?_⟩
    conv=>whnf
    refine ⟨Codec.one (slC valC) [x10],slRows valC [x10],.inl rfl,?_⟩
    conv=>whnf
    rw [show slRows valC x3 ++ slRows valC [x10] = slRows valC (x3 ++ [x10]) from Codec.append (slC valC) x3 [x10]]
    conv=>whnf
    obtain ⟨h1,h⟩:=chk_some h
    refine ⟨⟨Codec.wide (slC valC) (x3 ++ [x10]),of_decide_eq_true h1,len_ok h1 (by decide)⟩,?_⟩
    conv=>whnf
    refine ⟨⟨rfl,rfl,rfl⟩,?_⟩
    conv=>whnf
    exact ⟨((((slRows valC x3).length:Nat):Int),(x3 ++ [x10]),(mset x6 (((slRows valC x3).length:Nat):Int) x4)),h,⟨[0,1,2,3,4],[],⟨rfl,rfl,rfl,rfl⟩,by repeat (first | exact trivial | exact .inl rfl | exact rfl | exact List.not_mem_nil | (refine .inr ?_) | (refine ⟨?_,?_⟩) | exact List.length_set.symm | decide),by repeat (first | exact trivial | exact .inl rfl | exact rfl | exact List.not_mem_nil | (refine .inr ?_) | (refine ⟨?_,?_⟩) | exact List.length_set.symm | decide)⟩⟩
   ·replace h:=cond_f h hc
    conv=>whnf
    exact ⟨((mgetD x4 x6 (0:Int)),x3,x4),h,⟨[0,1,2,3,2],[],⟨rfl,rfl,rfl,rfl⟩,by repeat (first | exact trivial | exact .inl rfl | exact rfl | exact List.not_mem_nil | (refine .inr ?_) | (refine ⟨?_,?_⟩) | exact List.length_set.symm | decide),by repeat (first | exact trivial | exact .inl rfl | exact rfl | exact List.not_mem_nil | (refine .inr ?_) | (refine ⟨?_,?_⟩) | exact List.length_set.symm | decide)⟩⟩
 ·replace h:=cond_f h hc
  conv=>whnf
  refine CallsI.of_vc mixed (fun _ _=>Tryz.call38 _ _) Tryz.func38 (by kernel_rfl) (inl:=[1000000]) ?_
  obtain rfl:=Option.some.inj h
  conv=>whnf
  repeat (first | exact rfl | exact trivial | refine ⟨?_,?_⟩)
abbrev R_F_value_place (r:Int):PV:=PV.int .i64 r
def F_value_place (n:Nat)  (x1:Int):Option (Int) :=
 bnd (idx [(7:Int),(5:Int),(6:Int),(4:Int),(3:Int),(0:Int),(1:Int),(2:Int)] x1) fun x2 =>
 some x2
set_option maxRecDepth 100000 in
theorem F_value_place_ok (n:Nat)   : ∀ (x1:Int) (r:Int),F_value_place n x1 = some r → CallsF Tryz.prog 57 [PV.int .i64 x1] (R_F_value_place r):=by
 intro x1 r h
 unfold F_value_place at h
 refine CallsF.of_vcN mixed (fun _ _=>Tryz.call57 _ _) Tryz.func57 (by kernel_rfl) (inl:=[1000000]) ?_
 conv=>whnf
 refine ⟨rfl,all_one rfl,?_⟩
 conv=>whnf
 replace h:=bnd_some h
 obtain ⟨x2,h1,h⟩:=h
 refine ⟨_,arr_at (k:=.i64) h1 rfl (by decide),?_⟩
 obtain rfl:=Option.some.inj h
 conv=>whnf
 repeat (first | exact rfl | exact trivial | refine ⟨?_,?_⟩)
abbrev R_F_cmp_isNaN_int (r:Bool):PV:=PV.bool r
def F_cmp_isNaN_int (n:Nat)  (x1:Int):Option (Bool) :=
 some (x1 != x1)
set_option maxRecDepth 100000 in
theorem F_cmp_isNaN_int_ok (n:Nat)   : ∀ (x1:Int) (r:Bool),F_cmp_isNaN_int n x1 = some r → CallsF Tryz.prog 71 [PV.int .i64 x1] (R_F_cmp_isNaN_int r):=by
 intro x1 r h
 unfold F_cmp_isNaN_int at h
 refine CallsF.of_vcN mixed (fun _ _=>Tryz.call71 _ _) Tryz.func71 (by kernel_rfl) (inl:=[1000000]) ?_
 obtain rfl:=Option.some.inj h
 conv=>whnf
 repeat (first | exact rfl | exact trivial | refine ⟨?_,?_⟩)
abbrev R_F_cmp_Compare_int (r:Int):PV:=PV.int .i64 r
def F_cmp_Compare_int (n:Nat)  (x1:Int) (x2:Int):Option (Int) :=
 bnd (F_cmp_isNaN_int n x1) fun x3 =>
 bnd (F_cmp_isNaN_int n x2) fun x4 =>
 bif x3 then (
 bif x4 then (
 some (0:Int))
 else (
 some (-1:Int)))
 else (
 bif x4 then (
 some (1:Int))
 else (
 bif (decide (x1 < x2)) then (
 some (-1:Int))
 else (
 bif (decide (x1 > x2)) then (
 some (1:Int))
 else (
 some (0:Int)))))
set_option maxRecDepth 100000 in
theorem F_cmp_Compare_int_ok (n:Nat)   : ∀ (x1:Int) (x2:Int) (r:Int),F_cmp_Compare_int n x1 x2 = some r → CallsF Tryz.prog 56 [PV.int .i64 x1,PV.int .i64 x2] (R_F_cmp_Compare_int r):=by
 intro x1 x2 r h
 unfold F_cmp_Compare_int at h
 refine CallsF.of_vcN mixed (fun _ _=>Tryz.call56 _ _) Tryz.func56 (by kernel_rfl) (inl:=[1000000]) ?_
 conv=>whnf
 replace h:=bnd_some h
 obtain ⟨x3,h2,h⟩:=h
 refine ⟨_,(F_cmp_isNaN_int_ok n _  _ h2),?_⟩
 conv=>whnf
 replace h:=bnd_some h
 obtain ⟨x4,h1,h⟩:=h
 refine ⟨_,(F_cmp_isNaN_int_ok n _  _ h1),?_⟩
 conv=>whnf
 refine ⟨fun hc=>?_,fun hc=>?_⟩
 ·replace h:=cond_t h hc
  conv=>whnf
  refine ⟨fun hc=>?_,fun hc=>?_⟩
  ·replace h:=cond_t h hc
   obtain rfl:=Option.some.inj h
   conv=>whnf
   repeat (first | exact rfl | exact trivial | refine ⟨?_,?_⟩)
  ·replace h:=cond_f h hc
   obtain rfl:=Option.some.inj h
   conv=>whnf
   repeat (first | exact rfl | exact trivial | refine ⟨?_,?_⟩)
 ·replace h:=cond_f h hc
  conv=>whnf
  refine ⟨fun hc=>?_,fun hc=>?_⟩
  ·replace h:=cond_t h hc
   obtain rfl:=Option.some.inj h
   conv=>whnf
   repeat (first | exact rfl | exact trivial | refine ⟨?_,?_⟩)
  ·replace h:=cond_f h hc
   conv=>whnf
   refine ⟨fun hc=>?_,fun hc=>?_⟩
   ·replace h:=cond_t h hc
    obtain rfl:=Option.some.inj h
    conv=>whnf
    repeat (first | exact rfl | exact trivial | refine ⟨?_,?_⟩)
   ·replace h:=cond_f h hc
    conv=>whnf
    refine ⟨fun hc=>?_,fun hc=>?_⟩
    ·replace h:=cond_t h hc
     obtain rfl:=Option.some.inj h
     conv=>whnf
     repeat (first | exact rfl | exact trivial | refine ⟨?_,?_⟩)
    ·replace h:=cond_f h hc
     obtain rfl:=Option.some.inj h
     conv=>whnf
     repeat (first | exact rfl | exact trivial | refine ⟨?_,?_⟩)
abbrev R_F_cmp_isNaN_string (r:Bool):PV:=PV.bool r
def F_cmp_isNaN_string (n:Nat)  (x1:List UInt8):Option (Bool) :=
 some (!(x1 == x1))
set_option maxRecDepth 100000 in
theorem F_cmp_isNaN_string_ok (n:Nat)   : ∀ (x1:List UInt8) (r:Bool),F_cmp_isNaN_string n x1 = some r → CallsF Tryz.prog 72 [PV.str x1] (R_F_cmp_isNaN_string r):=by
 intro x1 r h
 unfold F_cmp_isNaN_string at h
 refine CallsF.of_vcN mixed (fun _ _=>Tryz.call72 _ _) Tryz.func72 (by kernel_rfl) (inl:=[1000000]) ?_
 obtain rfl:=Option.some.inj h
 conv=>whnf
 repeat (first | exact rfl | exact trivial | refine ⟨?_,?_⟩)
abbrev R_F_cmp_Compare_string (r:Int):PV:=PV.int .i64 r
def F_cmp_Compare_string (n:Nat)  (x1:List UInt8) (x2:List UInt8):Option (Int) :=
 bnd (F_cmp_isNaN_string n x1) fun x3 =>
 bnd (F_cmp_isNaN_string n x2) fun x4 =>
 bif x3 then (
 bif x4 then (
 some (0:Int))
 else (
 some (-1:Int)))
 else (
 bif x4 then (
 some (1:Int))
 else (
 bif (Op.bytesLess x1 x2) then (
 some (-1:Int))
 else (
 bif (!(Op.bytesLess x1 x2 || x1 == x2)) then (
 some (1:Int))
 else (
 some (0:Int)))))
set_option maxRecDepth 100000 in
theorem F_cmp_Compare_string_ok (n:Nat)   : ∀ (x1:List UInt8) (x2:List UInt8) (r:Int),F_cmp_Compare_string n x1 x2 = some r → CallsF Tryz.prog 58 [PV.str x1,PV.str x2] (R_F_cmp_Compare_string r):=by
 intro x1 x2 r h
 unfold F_cmp_Compare_string at h
 refine CallsF.of_vcN mixed (fun _ _=>Tryz.call58 _ _) Tryz.func58 (by kernel_rfl) (inl:=[1000000]) ?_
 conv=>whnf
 replace h:=bnd_some h
 obtain ⟨x3,h2,h⟩:=h
 refine ⟨_,(F_cmp_isNaN_string_ok n _  _ h2),?_⟩
 conv=>whnf
 replace h:=bnd_some h
 obtain ⟨x4,h1,h⟩:=h
 refine ⟨_,(F_cmp_isNaN_string_ok n _  _ h1),?_⟩
 conv=>whnf
 refine ⟨fun hc=>?_,fun hc=>?_⟩
 ·replace h:=cond_t h hc
  conv=>whnf
  refine ⟨fun hc=>?_,fun hc=>?_⟩
  ·replace h:=cond_t h hc
   obtain rfl:=Option.some.inj h
   conv=>whnf
   repeat (first | exact rfl | exact trivial | refine ⟨?_,?_⟩)
  ·replace h:=cond_f h hc
   obtain rfl:=Option.some.inj h
   conv=>whnf
   repeat (first | exact rfl | exact trivial | refine ⟨?_,?_⟩)
 ·replace h:=cond_f h hc
  conv=>whnf
  refine ⟨fun hc=>?_,fun hc=>?_⟩
  ·replace h:=cond_t h hc
   obtain rfl:=Option.some.inj h
   conv=>whnf
   repeat (first | exact rfl | exact trivial | refine ⟨?_,?_⟩)
  ·replace h:=cond_f h hc
   conv=>whnf
   refine ⟨fun hc=>?_,fun hc=>?_⟩
   ·replace h:=cond_t h hc
    obtain rfl:=Option.some.inj h
    conv=>whnf
    repeat (first | exact rfl | exact trivial | refine ⟨?_,?_⟩)
   ·replace h:=cond_f h hc
    conv=>whnf
    refine ⟨fun hc=>?_,fun hc=>?_⟩
    ·replace h:=cond_t h hc
     obtain rfl:=Option.some.inj h
     conv=>whnf
     repeat (first | exact rfl | exact trivial | refine ⟨?_,?_⟩)
    ·replace h:=cond_f h hc
     obtain rfl:=Option.some.inj h
     conv=>whnf
     repeat (first | exact rfl | exact trivial | refine ⟨?_,?_⟩)
abbrev R_F_value_first_int (r:Int):PV:=PV.int .i64 r
def F_value_first_int_l1 (n:Nat) (x1:List Int):(Int → Option (Int)) → Int → Option (Int):=fun nx1 x2 =>
 bif (decide (x2 < (((intRows .i64 x1).length:Nat):Int))) then (
 bnd (idx x1 x2) fun x3 =>
 bif (x3 != (0:Int)) then (
 some x3)
else (
 nx1 (IntKind.i64.wrap (x2 + (1:Int)))))
else (
 some (0:Int))
def F_value_first_int (n:Nat)  (x1:List Int):Option (Int) :=
 loopK (F_value_first_int_l1 n x1) n (0:Int)
set_option maxRecDepth 100000 in
theorem F_value_first_int_ok (n:Nat)   : ∀ (x1:List Int) (r:Int),F_value_first_int n x1 = some r → CallsF Tryz.prog 59 [PV.sl (intRows .i64 x1)] (R_F_value_first_int r):=by
 intro x1 r h
 unfold F_value_first_int at h
 refine CallsF.of_vcN mixed (fun _ _=>Tryz.call59 _ _) Tryz.func59 (by kernel_rfl) (inl:=[1000000]) ?_
 conv=>whnf
 refine LoopA.fn [1000000] (S:=Int) (fun x2=>[(3,.p (.int .i64 (0:Int))),(6,.p (.sl (intRows .i64 x1))),(7,.p (.int .i64 (((intRows .i64 x1).length:Nat):Int))),(8,.p (.int .i64 x2))]) (fun x2=>[]) (B:=F_value_first_int_l1 n x1) h ⟨[],[],⟨rfl,rfl,rfl,rfl⟩,by repeat (first | exact trivial | exact .inl rfl | exact rfl | exact List.not_mem_nil | (refine .inr ?_) | (refine ⟨?_,?_⟩) | exact List.length_set.symm | decide),by repeat (first | exact trivial | exact .inl rfl | exact rfl | exact List.not_mem_nil | (refine .inr ?_) | (refine ⟨?_,?_⟩) | exact List.length_set.symm | decide)⟩ ?_
 intro nx1 x2 h
 unfold F_value_first_int_l1 at h
 conv=>whnf
 refine ⟨fun hc=>?_,fun hc=>?_⟩
 ·replace h:=cond_t h hc
  conv=>whnf
  replace h:=bnd_some h
  obtain ⟨x3,h1,h⟩:=h
  refine ⟨_,Codec.at_ (intC .i64) h1,?_⟩
  conv=>whnf
  refine ⟨fun hc=>?_,fun hc=>?_⟩
  ·replace h:=cond_t h hc
   obtain rfl:=Option.some.inj h
   conv=>whnf
   repeat (first | exact rfl | exact trivial | refine ⟨?_,?_⟩)
  ·replace h:=cond_f h hc
   conv=>whnf
   exact ⟨(IntKind.i64.wrap (x2 + (1:Int))),h,⟨[],[],⟨rfl,rfl,rfl,rfl⟩,by repeat (first | exact trivial | exact .inl rfl | exact rfl | exact List.not_mem_nil | (refine .inr ?_) | (refine ⟨?_,?_⟩) | exact List.length_set.symm | decide),by repeat (first | exact trivial | exact .inl rfl | exact rfl | exact List.not_mem_nil | (refine .inr ?_) | (refine ⟨?_,?_⟩) | exact List.length_set.symm | decide)⟩⟩
 ·replace h:=cond_f h hc
  obtain rfl:=Option.some.inj h
  conv=>whnf
  repeat (first | exact rfl | exact trivial | refine ⟨?_,?_⟩)
abbrev R_F_value_number (r:Int):PV:=PV.int .i64 r
def F_value_number (n:Nat)  (x1:Bool):Option (Int) :=
 bif x1 then (
 some (1:Int))
 else (
 some (0:Int))
set_option maxRecDepth 100000 in
theorem F_value_number_ok (n:Nat)   : ∀ (x1:Bool) (r:Int),F_value_number n x1 = some r → CallsF Tryz.prog 60 [PV.bool x1] (R_F_value_number r):=by
 intro x1 r h
 unfold F_value_number at h
 refine CallsF.of_vcN mixed (fun _ _=>Tryz.call60 _ _) Tryz.func60 (by kernel_rfl) (inl:=[1000000]) ?_
 conv=>whnf
 refine ⟨fun hc=>?_,fun hc=>?_⟩
 ·replace h:=cond_t h hc
  obtain rfl:=Option.some.inj h
  conv=>whnf
  repeat (first | exact rfl | exact trivial | refine ⟨?_,?_⟩)
 ·replace h:=cond_f h hc
  obtain rfl:=Option.some.inj h
  conv=>whnf
  repeat (first | exact rfl | exact trivial | refine ⟨?_,?_⟩)
end W
end
section
open Go Go.Proofs Ax
namespace W
abbrev R_F_cmp_isNaN_int64 (r:Bool):PV:=PV.bool r
def F_cmp_isNaN_int64 (n:Nat)  (x1:Int):Option (Bool) :=
 some (x1 != x1)
set_option maxRecDepth 100000 in
theorem F_cmp_isNaN_int64_ok (n:Nat)   : ∀ (x1:Int) (r:Bool),F_cmp_isNaN_int64 n x1 = some r → CallsF Tryz.prog 73 [PV.int .i64 x1] (R_F_cmp_isNaN_int64 r):=by
 intro x1 r h
 unfold F_cmp_isNaN_int64 at h
 refine CallsF.of_vcN mixed (fun _ _=>Tryz.call73 _ _) Tryz.func73 (by kernel_rfl) (inl:=[1000000]) ?_
 obtain rfl:=Option.some.inj h
 conv=>whnf
 repeat (first | exact rfl | exact trivial | refine ⟨?_,?_⟩)
abbrev R_F_cmp_Compare_int64 (r:Int):PV:=PV.int .i64 r
def F_cmp_Compare_int64 (n:Nat)  (x1:Int) (x2:Int):Option (Int) :=
 bnd (F_cmp_isNaN_int64 n x1) fun x3 =>
 bnd (F_cmp_isNaN_int64 n x2) fun x4 =>
 bif x3 then (
 bif x4 then (
 some (0:Int))
 else (
 some (-1:Int)))
 else (
 bif x4 then (
 some (1:Int))
 else (
 bif (decide (x1 < x2)) then (
 some (-1:Int))
 else (
 bif (decide (x1 > x2)) then (
 some (1:Int))
 else (
 some (0:Int)))))
set_option maxRecDepth 100000 in
theorem F_cmp_Compare_int64_ok (n:Nat)   : ∀ (x1:Int) (x2:Int) (r:Int),F_cmp_Compare_int64 n x1 x2 = some r → CallsF Tryz.prog 61 [PV.int .i64 x1,PV.int .i64 x2] (R_F_cmp_Compare_int64 r):=by
 intro x1 x2 r h
 unfold F_cmp_Compare_int64 at h
 refine CallsF.of_vcN mixed (fun _ _=>Tryz.call61 _ _) Tryz.func61 (by kernel_rfl) (inl:=[1000000]) ?_
 conv=>whnf
 replace h:=bnd_some h
 obtain ⟨x3,h2,h⟩:=h
 refine ⟨_,(F_cmp_isNaN_int64_ok n _  _ h2),?_⟩
 conv=>whnf
 replace h:=bnd_some h
 obtain ⟨x4,h1,h⟩:=h
 refine ⟨_,(F_cmp_isNaN_int64_ok n _  _ h1),?_⟩
 conv=>whnf
 refine ⟨fun hc=>?_,fun hc=>?_⟩
 ·replace h:=cond_t h hc
  conv=>whnf
  refine ⟨fun hc=>?_,fun hc=>?_⟩
  ·replace h:=cond_t h hc
   obtain rfl:=Option.some.inj h
   conv=>whnf
   repeat (first | exact rfl | exact trivial | refine ⟨?_,?_⟩)
  ·replace h:=cond_f h hc
   obtain rfl:=Option.some.inj h
   conv=>whnf
   repeat (first | exact rfl | exact trivial | refine ⟨?_,?_⟩)
 ·replace h:=cond_f h hc
  conv=>whnf
  refine ⟨fun hc=>?_,fun hc=>?_⟩
  ·replace h:=cond_t h hc
   obtain rfl:=Option.some.inj h
   conv=>whnf
   repeat (first | exact rfl | exact trivial | refine ⟨?_,?_⟩)
  ·replace h:=cond_f h hc
   conv=>whnf
   refine ⟨fun hc=>?_,fun hc=>?_⟩
   ·replace h:=cond_t h hc
    obtain rfl:=Option.some.inj h
    conv=>whnf
    repeat (first | exact rfl | exact trivial | refine ⟨?_,?_⟩)
   ·replace h:=cond_f h hc
    conv=>whnf
    refine ⟨fun hc=>?_,fun hc=>?_⟩
    ·replace h:=cond_t h hc
     obtain rfl:=Option.some.inj h
     conv=>whnf
     repeat (first | exact rfl | exact trivial | refine ⟨?_,?_⟩)
    ·replace h:=cond_f h hc
     obtain rfl:=Option.some.inj h
     conv=>whnf
     repeat (first | exact rfl | exact trivial | refine ⟨?_,?_⟩)
abbrev R_F_value_Order (r:Int):PV:=PV.int .i64 r
def F_value_Order_k3 (n:Nat) (x5:List Val) (x16:Int) (x11:List Val) (g41:Val → Val → Option (Int)) (nx1:Int → Option (Int)):Int → Option (Int):=fun x17 =>
 bnd (idx x5 x16) fun ⟨x18,x19,x20,x21,x22,x23⟩ =>
 bnd (idx x11 x16) fun ⟨x24,x25,x26,x27,x28,x29⟩ =>
 bnd (g41 (Val.mk x18 x19 x20 x21 x22 x23) (Val.mk x24 x25 x26 x27 x28 x29)) fun x30 =>
 bnd (F_value_first_int n [x17,x30]) fun x31 =>
 bif (x31 != (0:Int)) then (
 some x31)
else (
 nx1 (IntKind.i64.wrap (x16 + (1:Int))))
def F_value_Order_l1 (n:Nat) (x5:List Val) (x11:List Val) (x1:Int) (x6:List (List UInt8)) (x12:List (List UInt8)) (g41:Val → Val → Option (Int)) (x2:Bool) (x8:Bool) (x3:Int) (x9:Int) (x4:List UInt8) (x10:List UInt8):(Int → Option (Int)) → Int → Option (Int):=fun nx1 x16 =>
 bif (bif (decide (x16 < (((Val.rows x5).length:Nat):Int))) then (decide (x16 < (((Val.rows x11).length:Nat):Int))) else false) then (
 bif (x1 == (5:Int)) then (
 bnd (idx x6 x16) fun x32 =>
 bnd (idx x12 x16) fun x33 =>
 bnd (F_cmp_Compare_string n x32 x33) fun x34 =>
 F_value_Order_k3 n x5 x16 x11 g41 nx1 x34)
else (
 F_value_Order_k3 n x5 x16 x11 g41 nx1 (0:Int)))
else (
 bnd (F_cmp_Compare_int n (((Val.rows x5).length:Nat):Int) (((Val.rows x11).length:Nat):Int)) fun x35 =>
 bnd (F_value_number n x2) fun x36 =>
 bnd (F_value_number n x8) fun x37 =>
 bnd (F_cmp_Compare_int n x36 x37) fun x38 =>
 bnd (F_cmp_Compare_int64 n x3 x9) fun x39 =>
 bnd (F_cmp_Compare_string n x4 x10) fun x40 =>
 bnd (F_value_first_int n [x35,x38,x39,x40]) fun x41 =>
 some x41)
def BF_value_Order (n:Nat) (g41:Val → Val → Option (Int)) (a0_:Val) (a1_:Val):Option (Int) :=
 match a0_,a1_ with
 | ⟨x1,x2,x3,x4,x5,x6⟩,⟨x7,x8,x9,x10,x11,x12⟩ =>
 bif (x1 != x7) then (
 bnd (F_value_place n (IntKind.i64.wrap (((BitVec.ofInt IntKind.i64.bits x1 &&& BitVec.ofInt IntKind.i64.bits (7:Int)).toNat:Nat):Int))) fun x13 =>
 bnd (F_value_place n (IntKind.i64.wrap (((BitVec.ofInt IntKind.i64.bits x7 &&& BitVec.ofInt IntKind.i64.bits (7:Int)).toNat:Nat):Int))) fun x14 =>
 bnd (F_cmp_Compare_int n x13 x14) fun x15 =>
 some x15)
 else (
 loopK (F_value_Order_l1 n x5 x11 x1 x6 x12 g41 x2 x8 x3 x9 x4 x10) n (0:Int))
set_option maxHeartbeats 20000000 in
set_option maxRecDepth 100000 in
theorem BF_value_Order_ok (n:Nat) (g41:Val → Val → Option (Int)) (g41_ok:∀ (a0_:Val) (a1_:Val) (r:Int),g41 a0_ a1_ = some r → CallsF Tryz.prog 41 [PV.agg (valC.cells a0_),PV.agg (valC.cells a1_)] (R_F_value_Order r)):∀ (a0_:Val) (a1_:Val) (r:Int),BF_value_Order n g41 a0_ a1_ = some r → CallsF Tryz.prog 41 [PV.agg (valC.cells a0_),PV.agg (valC.cells a1_)] (R_F_value_Order r):=by
 intro a0_ a1_ r h
 obtain ⟨x1,x2,x3,x4,x5,x6⟩:=a0_
 obtain ⟨x7,x8,x9,x10,x11,x12⟩:=a1_
 unfold BF_value_Order at h
 refine CallsF.of_vcN mixed (fun _ _=>Tryz.call41 _ _) Tryz.func41 (by kernel_rfl) (inl:=[1000000]) ?_
 conv=>whnf
 refine ⟨fun hc=>?_,fun hc=>?_⟩
 ·replace h:=cond_t h hc
  conv=>whnf
  replace h:=bnd_some h
  obtain ⟨x13,h3,h⟩:=h
  refine ⟨_,(F_value_place_ok n _  _ h3),?_⟩
  conv=>whnf
  replace h:=bnd_some h
  obtain ⟨x14,h2,h⟩:=h
  refine ⟨_,(F_value_place_ok n _  _ h2),?_⟩
  conv=>whnf
  replace h:=bnd_some h
  obtain ⟨x15,h1,h⟩:=h
  refine ⟨_,(F_cmp_Compare_int_ok n _ _  _ h1),?_⟩
  obtain rfl:=Option.some.inj h
  conv=>whnf
  repeat (first | exact rfl | exact trivial | refine ⟨?_,?_⟩)
 ·replace h:=cond_f h hc
  conv=>whnf
  refine LoopA.fn [1000000] (S:=Int) (fun x16=>[(2,.ptr 0 0),(3,.ptr 1 0),(5,.p (.int .i64 x16))]) (fun x16=>[.box 36 [.p (.int .i64 x1),.p (.bool x2),.p (.int .i64 x3),.p (.str x4),.p (.sl (Val.rows x5)),.p (.sl (strs x6))],.box 36 [.p (.int .i64 x7),.p (.bool x8),.p (.int .i64 x9),.p (.str x10),.p (.sl (Val.rows x11)),.p (.sl (strs x12))]]) (B:=F_value_Order_l1 n x5 x11 x1 x6 x12 g41 x2 x8 x3 x9 x4 x10) h ⟨[0,1],[],⟨rfl,rfl,rfl,rfl⟩,by repeat (first | exact trivial | exact .inl rfl | exact rfl | exact List.not_mem_nil | (refine .inr ?_) | (refine ⟨?_,?_⟩) | exact List.length_set.symm | decide),by repeat (first | exact trivial | exact .inl rfl | exact rfl | exact List.not_mem_nil | (refine .inr ?_) | (refine ⟨?_,?_⟩) | exact List.length_set.symm | decide)⟩ ?_
  intro nx1 x16 h
  unfold F_value_Order_l1 at h
  conv=>whnf
  iterate 5 (refine And.intro (fun h=>h) ?_)
  conv=>whnf
  refine ⟨fun hc=>?_,fun hc=>?_⟩
  ·replace h:=cond_t h hc
   conv=>whnf
   refine SeqA.cut (S:=Int) (fun x17=>[(2,.ptr 0 0),(3,.ptr 1 0),(5,.p (.int .i64 x16)),(6,.p (.int .i64 x17))]) (fun x17=>[.box 36 [.p (.int .i64 x1),.p (.bool x2),.p (.int .i64 x3),.p (.str x4),.p (.sl (Val.rows x5)),.p (.sl (strs x6))],.box 36 [.p (.int .i64 x7),.p (.bool x8),.p (.int .i64 x9),.p (.str x10),.p (.sl (Val.rows x11)),.p (.sl (strs x12))]]) (F_value_Order_k3 n x5 x16 x11 g41 nx1) (r:=r) ?_ ?_
   ·intro x17 h
    unfold F_value_Order_k3 at h
    conv=>whnf
    replace h:=bnd_some h
    obtain ⟨⟨x18,x19,x20,x21,x22,x23⟩,h7,h⟩:=h
    refine ⟨_,Codec.at_ valC h7,?_⟩
    conv=>whnf
    replace h:=bnd_some h
    obtain ⟨⟨x24,x25,x26,x27,x28,x29⟩,h6,h⟩:=h
    refine ⟨_,Codec.at_ valC h6,?_⟩
    conv=>whnf
    replace h:=bnd_some h
    obtain ⟨x30,h5,h⟩:=h
    refine ⟨_,(g41_ok _ _  _ h5),?_⟩
    conv=>whnf
    refine ⟨Codec.one (intC .i64) [x17,x30],intRows .i64 [x17,x30],.inl rfl,?_⟩
    conv=>whnf
    replace h:=bnd_some h
    obtain ⟨x31,h4,h⟩:=h
    refine ⟨_,(F_value_first_int_ok n _  _ h4),?_⟩
    conv=>whnf
    refine ⟨fun hc=>?_,fun hc=>?_⟩
    ·replace h:=cond_t h hc
     obtain rfl:=Option.some.inj h
     conv=>whnf
     repeat (first | exact rfl | exact trivial | refine ⟨?_,?_⟩)
    ·replace h:=cond_f h hc
     conv=>whnf
     exact ⟨(IntKind.i64.wrap (x16 + (1:Int))),h,⟨[0,1],[],⟨rfl,rfl,rfl,rfl⟩,by repeat (first | exact trivial | exact .inl rfl | exact rfl | exact List.not_mem_nil | (refine .inr ?_) | (refine ⟨?_,?_⟩) | exact List.length_set.symm | decide),by repeat (first | exact trivial | exact .inl rfl | exact rfl | exact List.not_mem_nil | (refine .inr ?_) | (refine ⟨?_,?_⟩) | exact List.length_set.symm | decide)⟩⟩
   ·conv=>whnf
    refine ⟨fun hc=>?_,fun hc=>?_⟩
    ·replace h:=cond_t h hc
     conv=>whnf
     replace h:=bnd_some h
     obtain ⟨x32,h10,h⟩:=h
     refine ⟨_,Codec.at_ strC h10,?_⟩
     conv=>whnf
     replace h:=bnd_some h
     obtain ⟨x33,h9,h⟩:=h
     refine ⟨_,Codec.at_ strC h9,?_⟩
     conv=>whnf
     replace h:=bnd_some h
     obtain ⟨x34,h8,h⟩:=h
     refine ⟨_,(F_cmp_Compare_string_ok n _ _  _ h8),?_⟩
     conv=>whnf
     exact ⟨x34,h,⟨[0,1],[],⟨rfl,rfl,rfl,rfl⟩,by repeat (first | exact trivial | exact .inl rfl | exact rfl | exact List.not_mem_nil | (refine .inr ?_) | (refine ⟨?_,?_⟩) | exact List.length_set.symm | decide),by repeat (first | exact trivial | exact .inl rfl | exact rfl | exact List.not_mem_nil | (refine .inr ?_) | (refine ⟨?_,?_⟩) | exact List.length_set.symm | decide)⟩⟩
    ·replace h:=cond_f h hc
     conv=>whnf
     exact ⟨(0:Int),h,⟨[0,1],[],⟨rfl,rfl,rfl,rfl⟩,by repeat (first | exact trivial | exact .inl rfl | exact rfl | exact List.not_mem_nil | (refine .inr ?_) | (refine ⟨?_,?_⟩) | exact List.length_set.symm | decide),by repeat (first | exact trivial | exact .inl rfl | exact rfl | exact List.not_mem_nil | (refine .inr ?_) | (refine ⟨?_,?_⟩) | exact List.length_set.symm | decide)⟩⟩
  ·replace h:=cond_f h hc
   conv=>whnf
   replace h:=bnd_some h
   obtain ⟨x35,h17,h⟩:=h
   refine ⟨_,(F_cmp_Compare_int_ok n _ _  _ h17),?_⟩
   conv=>whnf
   replace h:=bnd_some h
   obtain ⟨x36,h16,h⟩:=h
   refine ⟨_,(F_value_number_ok n _  _ h16),?_⟩
   conv=>whnf
   replace h:=bnd_some h
   obtain ⟨x37,h15,h⟩:=h
   refine ⟨_,(F_value_number_ok n _  _ h15),?_⟩
   conv=>whnf
   replace h:=bnd_some h
   obtain ⟨x38,h14,h⟩:=h
   refine ⟨_,(F_cmp_Compare_int_ok n _ _  _ h14),?_⟩
   conv=>whnf
   replace h:=bnd_some h
   obtain ⟨x39,h13,h⟩:=h
   refine ⟨_,(F_cmp_Compare_int64_ok n _ _  _ h13),?_⟩
   conv=>whnf
   replace h:=bnd_some h
   obtain ⟨x40,h12,h⟩:=h
   refine ⟨_,(F_cmp_Compare_string_ok n _ _  _ h12),?_⟩
   conv=>whnf
   refine ⟨Codec.one (intC .i64) [x35,x38,x39,x40],intRows .i64 [x35,x38,x39,x40],.inl rfl,?_⟩
   conv=>whnf
   replace h:=bnd_some h
   obtain ⟨x41,h11,h⟩:=h
   refine ⟨_,(F_value_first_int_ok n _  _ h11),?_⟩
   obtain rfl:=Option.some.inj h
   conv=>whnf
   repeat (first | exact rfl | exact trivial | refine ⟨?_,?_⟩)
def F_value_Order:Nat → Val → Val → Option (Int)
 | 0=>fun _ _=>none
 | n + 1=>BF_value_Order n (F_value_Order n)
set_option maxRecDepth 100000 in
theorem F_value_Order_all (n:Nat):(∀ (a0_:Val) (a1_:Val) (r:Int),F_value_Order n a0_ a1_ = some r → CallsF Tryz.prog 41 [PV.agg (valC.cells a0_),PV.agg (valC.cells a1_)] (R_F_value_Order r)):=by
 induction n with
 | zero=>exact (by intros; rename_i h; cases h)
 | succ n ih =>
  have hg41:=ih
  exact BF_value_Order_ok n (F_value_Order n) hg41
set_option maxRecDepth 100000 in
theorem F_value_Order_ok (n:Nat):∀ (a0_:Val) (a1_:Val) (r:Int),F_value_Order n a0_ a1_ = some r → CallsF Tryz.prog 41 [PV.agg (valC.cells a0_),PV.agg (valC.cells a1_)] (R_F_value_Order r):=(F_value_Order_all n)
abbrev R_F_rows_Sort_c1 (r:Int):PV:=PV.int .i64 r
def F_rows_Sort_c1_l1 (n:Nat) (x4:List Bool) (x3:List (List Val)) (x1:Int) (x2:Int):(Int → Option (Int)) → Int → Option (Int):=fun nx1 x5 =>
 bnd (gsome (decide (x5 < (((boolRows x4).length:Nat):Int))) (idx x3 x1)) fun x6 =>
 bnd (gsome (bif (decide (x5 < (((boolRows x4).length:Nat):Int))) then (decide (x5 < (((Val.rows x6).length:Nat):Int))) else false) (idx x3 x2)) fun x7 =>
 bif (bif (bif (decide (x5 < (((boolRows x4).length:Nat):Int))) then (decide (x5 < (((Val.rows x6).length:Nat):Int))) else false) then (decide (x5 < (((Val.rows x7).length:Nat):Int))) else false) then (
 bnd (idx x3 x1) fun x8 =>
 bnd (idx x8 x5) fun ⟨x9,x10,x11,x12,x13,x14⟩ =>
 bnd (idx x3 x2) fun x15 =>
 bnd (idx x15 x5) fun ⟨x16,x17,x18,x19,x20,x21⟩ =>
 bnd (F_value_Order n (Val.mk x9 x10 x11 x12 x13 x14) (Val.mk x16 x17 x18 x19 x20 x21)) fun x22 =>
 bnd (gsome (x22 != (0:Int)) (idx x4 x5)) fun x23 =>
 bif (bif (x22 != (0:Int)) then x23 else false) then (
 some (IntKind.i64.wrap (0 - x22)))
else (
 bif (x22 != (0:Int)) then (
 some x22)
else (
 nx1 (IntKind.i64.wrap (x5 + (1:Int))))))
else (
 some (0:Int))
def F_rows_Sort_c1 (n:Nat)  (x1:Int) (x2:Int) (x3:List (List Val)) (x4:List Bool):Option (Int) :=
 bif (bif (decide (x1 ≥ (((slRows valC x3).length:Nat):Int))) then true else (decide (x2 ≥ (((slRows valC x3).length:Nat):Int)))) then (
 some (0:Int))
 else (
 loopK (F_rows_Sort_c1_l1 n x4 x3 x1 x2) n (0:Int))
set_option maxHeartbeats 20000000 in
set_option maxRecDepth 100000 in
theorem F_rows_Sort_c1_ok (n:Nat)   : ∀ (x1:Int) (x2:Int) (x3:List (List Val)) (x4:List Bool) (r:Int),F_rows_Sort_c1 n x1 x2 x3 x4 = some r → CallsF Tryz.prog 40 [PV.int .i64 x1,PV.int .i64 x2,PV.hp [PV.sl (slRows valC x3)],PV.hp [PV.sl (boolRows x4)]] (R_F_rows_Sort_c1 r):=by
 intro x1 x2 x3 x4 r h
 unfold F_rows_Sort_c1 at h
 refine CallsF.of_vcN mixed (fun _ _=>Tryz.call40 _ _) Tryz.func40 (by kernel_rfl) (inl:=[1000000]) ?_
 conv=>whnf
 iterate 4 (refine And.intro (fun h=>h) ?_)
 conv=>whnf
 refine ⟨fun hc=>?_,fun hc=>?_⟩
 ·replace h:=cond_t h hc
  obtain rfl:=Option.some.inj h
  conv=>whnf
  repeat (first | exact rfl | exact trivial | refine ⟨?_,?_⟩)
 ·replace h:=cond_f h hc
  conv=>whnf
  refine LoopA.fn [1000000] (S:=Int) (fun x5=>[(0,.p (.int .i64 x1)),(1,.p (.int .i64 x2)),(2,.hptr [PV.sl (slRows valC x3)]),(3,.hptr [PV.sl (boolRows x4)]),(7,.p (.int .i64 x5))]) (fun x5=>[]) (B:=F_rows_Sort_c1_l1 n x4 x3 x1 x2) h ⟨[],[],⟨rfl,rfl,rfl,rfl⟩,by repeat (first | exact trivial | exact .inl rfl | exact rfl | exact List.not_mem_nil | (refine .inr ?_) | (refine ⟨?_,?_⟩) | exact List.length_set.symm | decide),by repeat (first | exact trivial | exact .inl rfl | exact rfl | exact List.not_mem_nil | (refine .inr ?_) | (refine ⟨?_,?_⟩) | exact List.length_set.symm | decide)⟩ ?_
  intro nx1 x5 h
  unfold F_rows_Sort_c1_l1 at h
  conv=>whnf
  iterate 2 (refine And.intro (fun h=>h) ?_)
  conv=>whnf
  replace h:=bnd_some h
  obtain ⟨x6,h8,h⟩:=h
  refine ⟨_,fun hg=>Codec.at_ (slC valC) (gsome_some h8 hg),?_⟩
  conv=>whnf
  iterate 7 (refine And.intro (fun h=>h) ?_)
  conv=>whnf
  replace h:=bnd_some h
  obtain ⟨x7,h7,h⟩:=h
  refine ⟨_,fun hg=>Codec.at_ (slC valC) (gsome_some h7 hg),?_⟩
  conv=>whnf
  iterate 5 (refine And.intro (fun h=>h) ?_)
  conv=>whnf
  refine ⟨fun hc=>?_,fun hc=>?_⟩
  ·replace h:=cond_t h hc
   conv=>whnf
   replace h:=bnd_some h
   obtain ⟨x8,h6,h⟩:=h
   refine ⟨_,Codec.at_ (slC valC) h6,?_⟩
   conv=>whnf
   replace h:=bnd_some h
   obtain ⟨⟨x9,x10,x11,x12,x13,x14⟩,h5,h⟩:=h
   refine ⟨_,Codec.at_ valC h5,?_⟩
   conv=>whnf
   replace h:=bnd_some h
   obtain ⟨x15,h4,h⟩:=h
   refine ⟨_,Codec.at_ (slC valC) h4,?_⟩
   conv=>whnf
   replace h:=bnd_some h
   obtain ⟨⟨x16,x17,x18,x19,x20,x21⟩,h3,h⟩:=h
   refine ⟨_,Codec.at_ valC h3,?_⟩
   conv=>whnf
   replace h:=bnd_some h
   obtain ⟨x22,h2,h⟩:=h
   refine ⟨_,(F_value_Order_ok n _ _  _ h2),?_⟩
   conv=>whnf
   iterate 2 (refine And.intro (fun h=>h) ?_)
   conv=>whnf
   replace h:=bnd_some h
   obtain ⟨x23,h1,h⟩:=h
   refine ⟨_,fun hg=>Codec.at_ boolC (gsome_some h1 hg),?_⟩
   conv=>whnf
   iterate 2 (refine And.intro (fun h=>h) ?_)
   conv=>whnf
   refine ⟨fun hc=>?_,fun hc=>?_⟩
   ·replace h:=cond_t h hc
    obtain rfl:=Option.some.inj h
    conv=>whnf
    repeat (first | exact rfl | exact trivial | refine ⟨?_,?_⟩)
   ·replace h:=cond_f h hc
    conv=>whnf
    refine ⟨fun hc=>?_,fun hc=>?_⟩
    ·replace h:=cond_t h hc
     obtain rfl:=Option.some.inj h
     conv=>whnf
     repeat (first | exact rfl | exact trivial | refine ⟨?_,?_⟩)
    ·replace h:=cond_f h hc
     conv=>whnf
     exact ⟨(IntKind.i64.wrap (x5 + (1:Int))),h,⟨[],[],⟨rfl,rfl,rfl,rfl⟩,by repeat (first | exact trivial | exact .inl rfl | exact rfl | exact List.not_mem_nil | (refine .inr ?_) | (refine ⟨?_,?_⟩) | exact List.length_set.symm | decide),by repeat (first | exact trivial | exact .inl rfl | exact rfl | exact List.not_mem_nil | (refine .inr ?_) | (refine ⟨?_,?_⟩) | exact List.length_set.symm | decide)⟩⟩
  ·replace h:=cond_f h hc
   obtain rfl:=Option.some.inj h
   conv=>whnf
   repeat (first | exact rfl | exact trivial | refine ⟨?_,?_⟩)
abbrev R_F_slices_insertionSortCmpFunc_int__rows_Sort_c1 (x6:List Int) (r:(List Int)):FV:=.p (.tup [])
abbrev L_F_slices_insertionSortCmpFunc_int__rows_Sort_c1 (x6:List Int) (r:(List Int)):List AObj:=[.vec 3 1 (intRows .i64 r)]
def F_slices_insertionSortCmpFunc_int__rows_Sort_c1_l2 (n:Nat) (x2:Int) (x1:Nat) (x4:List (List Val)) (x5:List Bool) (nx1:Int × List Int → Option ((List Int))) (x7:Int):(Int × List Int → Option ((List Int))) → Int × List Int → Option ((List Int)):=fun nx2 (x9,x10) =>
 bnd (gsome (decide (x9 > x2)) (natI x9)) fun x11 =>
 chk (bif (decide (x9 > x2)) then decide (x11 < x1) else true) (
 bnd (gsome (decide (x9 > x2)) (x10[x11]?)) fun x12 =>
 bnd (gsome (decide (x9 > x2)) (natI (IntKind.i64.wrap (x9 - (1:Int))))) fun x13 =>
 chk (bif (decide (x9 > x2)) then decide (x13 < x1) else true) (
 bnd (gsome (decide (x9 > x2)) (x10[x13]?)) fun x14 =>
 bnd (gsome (decide (x9 > x2)) (F_rows_Sort_c1 n x12 x14 x4 x5)) fun x15 =>
 bif (bif (decide (x9 > x2)) then (decide (x15 < (0:Int))) else false) then (
 bnd (natI (IntKind.i64.wrap (x9 - (1:Int)))) fun x16 =>
 chk (decide (x16 < x1)) (
 bnd (x10[x16]?) fun x17 =>
 bnd (natI x9) fun x18 =>
 chk (decide (x18 < x1)) (
 bnd (x10[x18]?) fun x19 =>
 bnd (natI x9) fun x20 =>
 chk (decide (x20 < x1)) (
 bnd (x10[x20]?) fun x21 =>
 bnd (natI (IntKind.i64.wrap (x9 - (1:Int)))) fun x22 =>
 chk (decide (x22 < x1)) (
 bnd ((x10.set x20 x17)[x22]?) fun x23 =>
 nx2 ((IntKind.i64.wrap (x9 - (1:Int))),((x10.set x20 x17).set x22 x19)))))))
else (
 nx1 ((IntKind.i64.wrap (x7 + (1:Int))),x10))))
def F_slices_insertionSortCmpFunc_int__rows_Sort_c1_l1 (n:Nat) (x3:Int) (x2:Int) (x1:Nat) (x4:List (List Val)) (x5:List Bool):(Int × List Int → Option ((List Int))) → Int × List Int → Option ((List Int)):=fun nx1 (x7,x8) =>
 bif (decide (x7 < x3)) then (
 loopK (F_slices_insertionSortCmpFunc_int__rows_Sort_c1_l2 n x2 x1 x4 x5 nx1 x7) n (x7,x8))
else (
 some x8)
def F_slices_insertionSortCmpFunc_int__rows_Sort_c1 (n:Nat)  (x1:Nat) (x2:Int) (x3:Int) (x4:List (List Val)) (x5:List Bool) (x6:List Int):Option ((List Int)) :=
 loopK (F_slices_insertionSortCmpFunc_int__rows_Sort_c1_l1 n x3 x2 x1 x4 x5) n ((IntKind.i64.wrap (x2 + (1:Int))),x6)
set_option maxHeartbeats 20000000 in
set_option maxRecDepth 100000 in
theorem F_slices_insertionSortCmpFunc_int__rows_Sort_c1_ok (n:Nat)   : ∀ (x1:Nat) (x2:Int) (x3:Int) (x4:List (List Val)) (x5:List Bool) (x6:List Int) (r:(List Int)),F_slices_insertionSortCmpFunc_int__rows_Sort_c1 n x1 x2 x3 x4 x5 x6 = some r → CallsO Tryz.prog 69 [.vsl 0 x1,.p (PV.int .i64 x2),.p (PV.int .i64 x3),.p (PV.clo 40 [PV.hp [PV.sl (slRows valC x4)],PV.hp [PV.sl (boolRows x5)]])] [.vec 3 1 (intRows .i64 x6)] 1 (fun v lo=>v = R_F_slices_insertionSortCmpFunc_int__rows_Sort_c1 x6 r ∧ lo = L_F_slices_insertionSortCmpFunc_int__rows_Sort_c1 x6 r):=by
 intro x1 x2 x3 x4 x5 x6 r h
 unfold F_slices_insertionSortCmpFunc_int__rows_Sort_c1 at h
 refine CallsO.of_vc mixed (fun _ _=>Tryz.call69 _ _) Tryz.func69 (by kernel_rfl) (inl:=[1000000]) (Nat.le_of_ble_eq_true rfl) ?_
 conv=>whnf
 refine LoopA.fn [1000000] (S:=Int × List Int) (fun (x7,x8)=>[(0,.vsl 0 x1),(1,.p (.int .i64 x2)),(2,.p (.int .i64 x3)),(3,.p (.clo 40 [PV.hp [PV.sl (slRows valC x4)],PV.hp [PV.sl (boolRows x5)]])),(8,.p (.int .i64 x7))]) (fun (x7,x8)=>[.vec 3 1 (intRows .i64 x8)]) (B:=F_slices_insertionSortCmpFunc_int__rows_Sort_c1_l1 n x3 x2 x1 x4 x5) h ⟨[0],[],⟨rfl,rfl,rfl,rfl⟩,by repeat (first | exact trivial | exact .inl rfl | exact rfl | exact List.not_mem_nil | (refine .inr ?_) | (refine ⟨?_,?_⟩) | exact List.length_set.symm | decide),by repeat (first | exact trivial | exact .inl rfl | exact rfl | exact List.not_mem_nil | (refine .inr ?_) | (refine ⟨?_,?_⟩) | exact List.length_set.symm | decide)⟩ ?_
 intro nx1 st h
 obtain ⟨x7,x8⟩:=st
 unfold F_slices_insertionSortCmpFunc_int__rows_Sort_c1_l1 at h
 conv=>whnf
 refine ⟨fun hc=>?_,fun hc=>?_⟩
 ·replace h:=cond_t h hc
  conv=>whnf
  refine LoopA.fn [1000000] (S:=Int × List Int) (fun (x9,x10)=>[(0,.vsl 0 x1),(1,.p (.int .i64 x2)),(2,.p (.int .i64 x3)),(3,.p (.clo 40 [PV.hp [PV.sl (slRows valC x4)],PV.hp [PV.sl (boolRows x5)]])),(8,.p (.int .i64 x7)),(9,.p (.int .i64 x9))]) (fun (x9,x10)=>[.vec 3 1 (intRows .i64 x10)]) (B:=F_slices_insertionSortCmpFunc_int__rows_Sort_c1_l2 n x2 x1 x4 x5 nx1 x7) h ⟨[0],[],⟨rfl,rfl,rfl,rfl⟩,by repeat (first | exact trivial | exact .inl rfl | exact rfl | exact List.not_mem_nil | (refine .inr ?_) | (refine ⟨?_,?_⟩) | exact List.length_set.symm | decide),by repeat (first | exact trivial | exact .inl rfl | exact rfl | exact List.not_mem_nil | (refine .inr ?_) | (refine ⟨?_,?_⟩) | exact List.length_set.symm | decide)⟩ ?_
  intro nx2 st h
  obtain ⟨x9,x10⟩:=st
  unfold F_slices_insertionSortCmpFunc_int__rows_Sort_c1_l2 at h
  conv=>whnf
  iterate 2 (refine And.intro (fun h=>h) ?_)
  conv=>whnf
  replace h:=bnd_some h
  obtain ⟨x11,h1,h⟩:=h
  obtain ⟨h2,h⟩:=chk_some h
  refine ⟨x11,fun hg=>⟨natI_some (gsome_some h1 hg),of_decide_eq_true (gd h2 hg)⟩,?_⟩
  conv=>whnf
  refine And.intro (fun h=>h) ?_
  conv=>whnf
  replace h:=bnd_some h
  obtain ⟨x12,h19,h⟩:=h
  refine ⟨_,fun hg=>⟨rfl,Codec.getN (intC .i64) (gsome_some h19 hg)⟩,?_⟩
  conv=>whnf
  iterate 3 (refine And.intro (fun h=>h) ?_)
  conv=>whnf
  replace h:=bnd_some h
  obtain ⟨x13,h3,h⟩:=h
  obtain ⟨h4,h⟩:=chk_some h
  refine ⟨x13,fun hg=>⟨natI_some (gsome_some h3 hg),of_decide_eq_true (gd h4 hg)⟩,?_⟩
  conv=>whnf
  refine And.intro (fun h=>h) ?_
  conv=>whnf
  replace h:=bnd_some h
  obtain ⟨x14,h18,h⟩:=h
  refine ⟨_,fun hg=>⟨rfl,Codec.getN (intC .i64) (gsome_some h18 hg)⟩,?_⟩
  conv=>whnf
  iterate 3 (refine And.intro (fun h=>h) ?_)
  conv=>whnf
  replace h:=bnd_some h
  obtain ⟨x15,h17,h⟩:=h
  refine ⟨_,fun hg=>(F_rows_Sort_c1_ok n _ _ _ _  _ (gsome_some h17 hg)),?_⟩
  conv=>whnf
  iterate 2 (refine And.intro (fun h=>h) ?_)
  conv=>whnf
  refine ⟨fun hc=>?_,fun hc=>?_⟩
  ·replace h:=cond_t h hc
   conv=>whnf
   replace h:=bnd_some h
   obtain ⟨x16,h16,h⟩:=h
   have hj:=natI_some h16
   conv=>whnf
   obtain ⟨h15,h⟩:=chk_some h
   refine ⟨x16,⟨hj,of_decide_eq_true h15⟩,?_⟩
   conv=>whnf
   replace h:=bnd_some h
   obtain ⟨x17,h14,h⟩:=h
   refine ⟨_,⟨rfl,Codec.getN (intC .i64) h14⟩,?_⟩
   conv=>whnf
   replace h:=bnd_some h
   obtain ⟨x18,h13,h⟩:=h
   have hj:=natI_some h13
   conv=>whnf
   obtain ⟨h12,h⟩:=chk_some h
   refine ⟨x18,⟨hj,of_decide_eq_true h12⟩,?_⟩
   conv=>whnf
   replace h:=bnd_some h
   obtain ⟨x19,h11,h⟩:=h
   refine ⟨_,⟨rfl,Codec.getN (intC .i64) h11⟩,?_⟩
   conv=>whnf
   replace h:=bnd_some h
   obtain ⟨x20,h10,h⟩:=h
   have hj:=natI_some h10
   conv=>whnf
   obtain ⟨h9,h⟩:=chk_some h
   refine ⟨x20,⟨hj,of_decide_eq_true h9⟩,?_⟩
   conv=>whnf
   replace h:=bnd_some h
   obtain ⟨x21,h8,h⟩:=h
   refine ⟨_,⟨rfl,Codec.getN (intC .i64) h8,rfl⟩,?_⟩
   conv=>whnf
   refine ⟨_,Codec.setN (intC .i64) x10 x20 x17,?_⟩
   conv=>whnf
   replace h:=bnd_some h
   obtain ⟨x22,h7,h⟩:=h
   have hj:=natI_some h7
   conv=>whnf
   obtain ⟨h6,h⟩:=chk_some h
   refine ⟨x22,⟨hj,of_decide_eq_true h6⟩,?_⟩
   conv=>whnf
   replace h:=bnd_some h
   obtain ⟨x23,h5,h⟩:=h
   refine ⟨_,⟨rfl,Codec.getN (intC .i64) h5,rfl⟩,?_⟩
   conv=>whnf
   refine ⟨_,Codec.setN (intC .i64) (x10.set x20 x17) x22 x19,?_⟩
   conv=>whnf
   exact ⟨((IntKind.i64.wrap (x9 - (1:Int))),((x10.set x20 x17).set x22 x19)),h,⟨[0],[],⟨rfl,rfl,rfl,rfl⟩,by repeat (first | exact trivial | exact .inl rfl | exact rfl | exact List.not_mem_nil | (refine .inr ?_) | (refine ⟨?_,?_⟩) | exact List.length_set.symm | decide),by repeat (first | exact trivial | exact .inl rfl | exact rfl | exact List.not_mem_nil | (refine .inr ?_) | (refine ⟨?_,?_⟩) | exact List.length_set.symm | decide)⟩⟩
  ·replace h:=cond_f h hc
   conv=>whnf
   exact ⟨((IntKind.i64.wrap (x7 + (1:Int))),x10),h,⟨[0],[],⟨rfl,rfl,rfl,rfl⟩,by repeat (first | exact trivial | exact .inl rfl | exact rfl | exact List.not_mem_nil | (refine .inr ?_) | (refine ⟨?_,?_⟩) | exact List.length_set.symm | decide),by repeat (first | exact trivial | exact .inl rfl | exact rfl | exact List.not_mem_nil | (refine .inr ?_) | (refine ⟨?_,?_⟩) | exact List.length_set.symm | decide)⟩⟩
 ·replace h:=cond_f h hc
  obtain rfl:=Option.some.inj h
  conv=>whnf
  refine ⟨_,_,⟨rfl,rfl⟩,⟨[0],[],⟨rfl,rfl,rfl,rfl⟩,by repeat (first | exact trivial | exact .inl rfl | exact rfl | exact List.not_mem_nil | (refine .inr ?_) | (refine ⟨?_,?_⟩) | exact List.length_set.symm | decide),by repeat (first | exact trivial | exact .inl rfl | exact rfl | exact List.not_mem_nil | (refine .inr ?_) | (refine ⟨?_,?_⟩) | exact List.length_set.symm | decide)⟩⟩
abbrev R_F_slices_swapRangeCmpFunc_int__rows_Sort_c1 (x7:List Int) (r:(List Int)):FV:=.p (.tup [])
abbrev L_F_slices_swapRangeCmpFunc_int__rows_Sort_c1 (x7:List Int) (r:(List Int)):List AObj:=[.vec 3 1 (intRows .i64 r)]
def F_slices_swapRangeCmpFunc_int__rows_Sort_c1_l1 (n:Nat) (x4:Int) (x3:Int) (x1:Nat) (x2:Int):(Int × List Int → Option ((List Int))) → Int × List Int → Option ((List Int)):=fun nx1 (x8,x9) =>
 bif (decide (x8 < x4)) then (
 bnd (natI (IntKind.i64.wrap (x3 + x8))) fun x10 =>
 chk (decide (x10 < x1)) (
 bnd (x9[x10]?) fun x11 =>
 bnd (natI (IntKind.i64.wrap (x2 + x8))) fun x12 =>
 chk (decide (x12 < x1)) (
 bnd (x9[x12]?) fun x13 =>
 bnd (natI (IntKind.i64.wrap (x2 + x8))) fun x14 =>
 chk (decide (x14 < x1)) (
 bnd (x9[x14]?) fun x15 =>
 bnd (natI (IntKind.i64.wrap (x3 + x8))) fun x16 =>
 chk (decide (x16 < x1)) (
 bnd ((x9.set x14 x11)[x16]?) fun x17 =>
 nx1 ((IntKind.i64.wrap (x8 + (1:Int))),((x9.set x14 x11).set x16 x13)))))))
else (
 some x9)
def F_slices_swapRangeCmpFunc_int__rows_Sort_c1 (n:Nat)  (x1:Nat) (x2:Int) (x3:Int) (x4:Int) (x5:List (List Val)) (x6:List Bool) (x7:List Int):Option ((List Int)) :=
 loopK (F_slices_swapRangeCmpFunc_int__rows_Sort_c1_l1 n x4 x3 x1 x2) n ((0:Int),x7)
set_option maxHeartbeats 20000000 in
set_option maxRecDepth 100000 in
theorem F_slices_swapRangeCmpFunc_int__rows_Sort_c1_ok (n:Nat)   : ∀ (x1:Nat) (x2:Int) (x3:Int) (x4:Int) (x5:List (List Val)) (x6:List Bool) (x7:List Int) (r:(List Int)),F_slices_swapRangeCmpFunc_int__rows_Sort_c1 n x1 x2 x3 x4 x5 x6 x7 = some r → CallsO Tryz.prog 85 [.vsl 0 x1,.p (PV.int .i64 x2),.p (PV.int .i64 x3),.p (PV.int .i64 x4),.p (PV.clo 40 [PV.hp [PV.sl (slRows valC x5)],PV.hp [PV.sl (boolRows x6)]])] [.vec 3 1 (intRows .i64 x7)] 1 (fun v lo=>v = R_F_slices_swapRangeCmpFunc_int__rows_Sort_c1 x7 r ∧ lo = L_F_slices_swapRangeCmpFunc_int__rows_Sort_c1 x7 r):=by
 intro x1 x2 x3 x4 x5 x6 x7 r h
 unfold F_slices_swapRangeCmpFunc_int__rows_Sort_c1 at h
 refine CallsO.of_vc mixed (fun _ _=>Tryz.call85 _ _) Tryz.func85 (by kernel_rfl) (inl:=[1000000]) (Nat.le_of_ble_eq_true rfl) ?_
 conv=>whnf
 refine LoopA.fn [1000000] (S:=Int × List Int) (fun (x8,x9)=>[(0,.vsl 0 x1),(1,.p (.int .i64 x2)),(2,.p (.int .i64 x3)),(3,.p (.int .i64 x4)),(10,.p (.int .i64 x8))]) (fun (x8,x9)=>[.vec 3 1 (intRows .i64 x9)]) (B:=F_slices_swapRangeCmpFunc_int__rows_Sort_c1_l1 n x4 x3 x1 x2) h ⟨[0],[],⟨rfl,rfl,rfl,rfl⟩,by repeat (first | exact trivial | exact .inl rfl | exact rfl | exact List.not_mem_nil | (refine .inr ?_) | (refine ⟨?_,?_⟩) | exact List.length_set.symm | decide),by repeat (first | exact trivial | exact .inl rfl | exact rfl | exact List.not_mem_nil | (refine .inr ?_) | (refine ⟨?_,?_⟩) | exact List.length_set.symm | decide)⟩ ?_
 intro nx1 st h
 obtain ⟨x8,x9⟩:=st
 unfold F_slices_swapRangeCmpFunc_int__rows_Sort_c1_l1 at h
 conv=>whnf
 refine ⟨fun hc=>?_,fun hc=>?_⟩
 ·replace h:=cond_t h hc
  conv=>whnf
  replace h:=bnd_some h
  obtain ⟨x10,h12,h⟩:=h
  have hj:=natI_some h12
  conv=>whnf
  obtain ⟨h11,h⟩:=chk_some h
  refine ⟨x10,⟨hj,of_decide_eq_true h11⟩,?_⟩
  conv=>whnf
  replace h:=bnd_some h
  obtain ⟨x11,h10,h⟩:=h
  refine ⟨_,⟨rfl,Codec.getN (intC .i64) h10⟩,?_⟩
  conv=>whnf
  replace h:=bnd_some h
  obtain ⟨x12,h9,h⟩:=h
  have hj:=natI_some h9
  conv=>whnf
  obtain ⟨h8,h⟩:=chk_some h
  refine ⟨x12,⟨hj,of_decide_eq_true h8⟩,?_⟩
  conv=>whnf
  replace h:=bnd_some h
  obtain ⟨x13,h7,h⟩:=h
  refine ⟨_,⟨rfl,Codec.getN (intC .i64) h7⟩,?_⟩
  conv=>whnf
  replace h:=bnd_some h
  obtain ⟨x14,h6,h⟩:=h
  have hj:=natI_some h6
  conv=>whnf
  obtain ⟨h5,h⟩:=chk_some h
  refine ⟨x14,⟨hj,of_decide_eq_true h5⟩,?_⟩
  conv=>whnf
  replace h:=bnd_some h
  obtain ⟨x15,h4,h⟩:=h
  refine ⟨_,⟨rfl,Codec.getN (intC .i64) h4,rfl⟩,?_⟩
  conv=>whnf
  refine ⟨_,Codec.setN (intC .i64) x9 x14 x11,?_⟩
  conv=>whnf
  replace h:=bnd_some h
  obtain ⟨x16,h3,h⟩:=h
  have hj:=natI_some h3
  conv=>whnf
  obtain ⟨h2,h⟩:=chk_some h
  refine ⟨x16,⟨hj,of_decide_eq_true h2⟩,?_⟩
  conv=>whnf
  replace h:=bnd_some h
  obtain ⟨x17,h1,h⟩:=h
  refine ⟨_,⟨rfl,Codec.getN (intC .i64) h1,rfl⟩,?_⟩
  conv=>whnf
  refine ⟨_,Codec.setN (intC .i64) (x9.set x14 x11) x16 x13,?_⟩
  conv=>whnf
  exact ⟨((IntKind.i64.wrap (x8 + (1:Int))),((x9.set x14 x11).set x16 x13)),h,⟨[0],[],⟨rfl,rfl,rfl,rfl⟩,by repeat (first | exact trivial | exact .inl rfl | exact rfl | exact List.not_mem_nil | (refine .inr ?_) | (refine ⟨?_,?_⟩) | exact List.length_set.symm | decide),by repeat (first | exact trivial | exact .inl rfl | exact rfl | exact List.not_mem_nil | (refine .inr ?_) | (refine ⟨?_,?_⟩) | exact List.length_set.symm | decide)⟩⟩
 ·replace h:=cond_f h hc
  obtain rfl:=Option.some.inj h
  conv=>whnf
  refine ⟨_,_,⟨rfl,rfl⟩,⟨[0],[],⟨rfl,rfl,rfl,rfl⟩,by repeat (first | exact trivial | exact .inl rfl | exact rfl | exact List.not_mem_nil | (refine .inr ?_) | (refine ⟨?_,?_⟩) | exact List.length_set.symm | decide),by repeat (first | exact trivial | exact .inl rfl | exact rfl | exact List.not_mem_nil | (refine .inr ?_) | (refine ⟨?_,?_⟩) | exact List.length_set.symm | decide)⟩⟩
abbrev R_F_slices_rotateCmpFunc_int__rows_Sort_c1 (x7:List Int) (r:(List Int)):FV:=.p (.tup [])
abbrev L_F_slices_rotateCmpFunc_int__rows_Sort_c1 (x7:List Int) (r:(List Int)):List AObj:=[.vec 3 1 (intRows .i64 r)]
def F_slices_rotateCmpFunc_int__rows_Sort_c1_l1 (n:Nat) (x1:Nat) (x3:Int) (x5:List (List Val)) (x6:List Bool):(Int × Int × List Int → Option ((List Int))) → Int × Int × List Int → Option ((List Int)):=fun nx1 (x8,x9,x10) =>
 bif (x8 != x9) then (
 bif (decide (x8 > x9)) then (
 bnd (F_slices_swapRangeCmpFunc_int__rows_Sort_c1 n x1 (IntKind.i64.wrap (x3 - x8)) x3 x9 x5 x6 x10) fun x11 =>
 nx1 ((IntKind.i64.wrap (x8 - x9)),x9,x11))
else (
 bnd (F_slices_swapRangeCmpFunc_int__rows_Sort_c1 n x1 (IntKind.i64.wrap (x3 - x8)) (IntKind.i64.wrap ((IntKind.i64.wrap (x3 + x9)) - x8)) x8 x5 x6 x10) fun x12 =>
 nx1 (x8,(IntKind.i64.wrap (x9 - x8)),x12)))
else (
 bnd (F_slices_swapRangeCmpFunc_int__rows_Sort_c1 n x1 (IntKind.i64.wrap (x3 - x8)) x3 x8 x5 x6 x10) fun x13 =>
 some x13)
def F_slices_rotateCmpFunc_int__rows_Sort_c1 (n:Nat)  (x1:Nat) (x2:Int) (x3:Int) (x4:Int) (x5:List (List Val)) (x6:List Bool) (x7:List Int):Option ((List Int)) :=
 loopK (F_slices_rotateCmpFunc_int__rows_Sort_c1_l1 n x1 x3 x5 x6) n ((IntKind.i64.wrap (x3 - x2)),(IntKind.i64.wrap (x4 - x3)),x7)
set_option maxRecDepth 100000 in
theorem F_slices_rotateCmpFunc_int__rows_Sort_c1_ok (n:Nat)   : ∀ (x1:Nat) (x2:Int) (x3:Int) (x4:Int) (x5:List (List Val)) (x6:List Bool) (x7:List Int) (r:(List Int)),F_slices_rotateCmpFunc_int__rows_Sort_c1 n x1 x2 x3 x4 x5 x6 x7 = some r → CallsO Tryz.prog 79 [.vsl 0 x1,.p (PV.int .i64 x2),.p (PV.int .i64 x3),.p (PV.int .i64 x4),.p (PV.clo 40 [PV.hp [PV.sl (slRows valC x5)],PV.hp [PV.sl (boolRows x6)]])] [.vec 3 1 (intRows .i64 x7)] 1 (fun v lo=>v = R_F_slices_rotateCmpFunc_int__rows_Sort_c1 x7 r ∧ lo = L_F_slices_rotateCmpFunc_int__rows_Sort_c1 x7 r):=by
 intro x1 x2 x3 x4 x5 x6 x7 r h
 unfold F_slices_rotateCmpFunc_int__rows_Sort_c1 at h
 refine CallsO.of_vc mixed (fun _ _=>Tryz.call79 _ _) Tryz.func79 (by kernel_rfl) (inl:=[85,1000000]) (Nat.le_of_ble_eq_true rfl) ?_
 conv=>whnf
 refine LoopA.fn [85,1000000] (S:=Int × Int × List Int) (fun (x8,x9,x10)=>[(0,.vsl 0 x1),(2,.p (.int .i64 x3)),(4,.p (.clo 40 [PV.hp [PV.sl (slRows valC x5)],PV.hp [PV.sl (boolRows x6)]])),(10,.p (.int .i64 x8)),(11,.p (.int .i64 x9))]) (fun (x8,x9,x10)=>[.vec 3 1 (intRows .i64 x10)]) (B:=F_slices_rotateCmpFunc_int__rows_Sort_c1_l1 n x1 x3 x5 x6) h ⟨[0],[],⟨rfl,rfl,rfl,rfl⟩,by repeat (first | exact trivial | exact .inl rfl | exact rfl | exact List.not_mem_nil | (refine .inr ?_) | (refine ⟨?_,?_⟩) | exact List.length_set.symm | decide),by repeat (first | exact trivial | exact .inl rfl | exact rfl | exact List.not_mem_nil | (refine .inr ?_) | (refine ⟨?_,?_⟩) | exact List.length_set.symm | decide)⟩ ?_
 intro nx1 st h
 obtain ⟨x8,x9,x10⟩:=st
 unfold F_slices_rotateCmpFunc_int__rows_Sort_c1_l1 at h
 conv=>whnf
 refine ⟨fun hc=>?_,fun hc=>?_⟩
 ·replace h:=cond_t h hc
  conv=>whnf
  refine ⟨fun hc=>?_,fun hc=>?_⟩
  ·replace h:=cond_t h hc
   conv=>whnf
   replace h:=bnd_some h
   obtain ⟨x11,h1,h⟩:=h
   refine CallsO.use (F_slices_swapRangeCmpFunc_int__rows_Sort_c1_ok n _ _ _ _ _ _ _ _  h1) [0] [] ⟨rfl,rfl,rfl,rfl,rfl,rfl⟩ (by repeat (first | exact trivial | exact .inl rfl | exact rfl | exact List.not_mem_nil | (refine .inr ?_) | (refine ⟨?_,?_⟩) | exact List.length_set.symm | decide)) (by repeat (first | exact trivial | exact .inl rfl | exact rfl | exact List.not_mem_nil | (refine .inr ?_) | (refine ⟨?_,?_⟩) | exact List.length_set.symm | decide)) ?_
   rintro _ _ ⟨rfl,rfl⟩
   refine ⟨.p (.tup []),[.vec 3 1 (intRows .i64 x11)],rfl,rfl,?_⟩
   conv=>whnf
   exact ⟨((IntKind.i64.wrap (x8 - x9)),x9,x11),h,⟨[0],[],⟨rfl,rfl,rfl,rfl⟩,by repeat (first | exact trivial | exact .inl rfl | exact rfl | exact List.not_mem_nil | (refine .inr ?_) | (refine ⟨?_,?_⟩) | exact List.length_set.symm | decide),by repeat (first | exact trivial | exact .inl rfl | exact rfl | exact List.not_mem_nil | (refine .inr ?_) | (refine ⟨?_,?_⟩) | exact List.length_set.symm | decide)⟩⟩
  ·replace h:=cond_f h hc
   conv=>whnf
   replace h:=bnd_some h
   obtain ⟨x12,h2,h⟩:=h
   refine CallsO.use (F_slices_swapRangeCmpFunc_int__rows_Sort_c1_ok n _ _ _ _ _ _ _ _  h2) [0] [] ⟨rfl,rfl,rfl,rfl,rfl,rfl⟩ (by repeat (first | exact trivial | exact .inl rfl | exact rfl | exact List.not_mem_nil | (refine .inr ?_) | (refine ⟨?_,?_⟩) | exact List.length_set.symm | decide)) (by repeat (first | exact trivial | exact .inl rfl | exact rfl | exact List.not_mem_nil | (refine .inr ?_) | (refine ⟨?_,?_⟩) | exact List.length_set.symm | decide)) ?_
   rintro _ _ ⟨rfl,rfl⟩
   refine ⟨.p (.tup []),[.vec 3 1 (intRows .i64 x12)],rfl,rfl,?_⟩
   conv=>whnf
   exact ⟨(x8,(IntKind.i64.wrap (x9 - x8)),x12),h,⟨[0],[],⟨rfl,rfl,rfl,rfl⟩,by repeat (first | exact trivial | exact .inl rfl | exact rfl | exact List.not_mem_nil | (refine .inr ?_) | (refine ⟨?_,?_⟩) | exact List.length_set.symm | decide),by repeat (first | exact trivial | exact .inl rfl | exact rfl | exact List.not_mem_nil | (refine .inr ?_) | (refine ⟨?_,?_⟩) | exact List.length_set.symm | decide)⟩⟩
 ·replace h:=cond_f h hc
  conv=>whnf
  replace h:=bnd_some h
  obtain ⟨x13,h3,h⟩:=h
  refine CallsO.use (F_slices_swapRangeCmpFunc_int__rows_Sort_c1_ok n _ _ _ _ _ _ _ _  h3) [0] [] ⟨rfl,rfl,rfl,rfl,rfl,rfl⟩ (by repeat (first | exact trivial | exact .inl rfl | exact rfl | exact List.not_mem_nil | (refine .inr ?_) | (refine ⟨?_,?_⟩) | exact List.length_set.symm | decide)) (by repeat (first | exact trivial | exact .inl rfl | exact rfl | exact List.not_mem_nil | (refine .inr ?_) | (refine ⟨?_,?_⟩) | exact List.length_set.symm | decide)) ?_
  rintro _ _ ⟨rfl,rfl⟩
  refine ⟨.p (.tup []),[.vec 3 1 (intRows .i64 x13)],rfl,rfl,?_⟩
  obtain rfl:=Option.some.inj h
  conv=>whnf
  refine ⟨_,_,⟨rfl,rfl⟩,⟨[0],[],⟨rfl,rfl,rfl,rfl⟩,by repeat (first | exact trivial | exact .inl rfl | exact rfl | exact List.not_mem_nil | (refine .inr ?_) | (refine ⟨?_,?_⟩) | exact List.length_set.symm | decide),by repeat (first | exact trivial | exact .inl rfl | exact rfl | exact List.not_mem_nil | (refine .inr ?_) | (refine ⟨?_,?_⟩) | exact List.length_set.symm | decide)⟩⟩
end W
end
section
open Go Go.Proofs Ax Go.RowKit
namespace W
theorem bigs_mem {l:List Val} {v:Val} (h:v ∈ l):v.big ≤ bigs l:=by
 induction l with
 | nil=>cases h
 | cons w l ih =>
  simp only [bigs]
  rcases List.mem_cons.1 h with rfl | h
  ·omega
  ·have:=ih h; omega
def cb:List UInt8 → List UInt8 → Int
 | [],[]=>0
 | [],_ :: _=>-1
 | _ :: _,[]=>1
 | a :: x,b :: y=>if a < b then -1 else if b < a then 1 else cb x y
def th (a b:Int):Int:=if a = 0 then b else a
def cmpI (a b:Int):Int:=if a < b then -1 else if b < a then 1 else 0
theorem th_zero (b:Int):th 0 b = b:=rfl
theorem th_ne {a:Int} (b:Int) (h:a ≠ 0):th a b = a:=if_neg h
theorem th_assoc (a b c:Int):th (th a b) c = th a (th b c):=by
 by_cases h:a = 0
 ·subst h; rfl
 ·rw [th_ne _ h,th_ne _ h,th_ne _ h]
theorem cb_same (a:UInt8) (x y:List UInt8):cb (a :: x) (a :: y) = cb x y:=by
 have:¬ a < a:=UInt8.lt_irrefl a
 simp [cb,this]
theorem cb_lt {a b:UInt8} (x y:List UInt8) (h:a < b):cb (a :: x) (b :: y) = -1:=by simp [cb,h]
theorem cb_gt {a b:UInt8} (x y:List UInt8) (h:b < a):cb (a :: x) (b :: y) = 1:=by
 have:¬ a < b:=fun h2=>absurd (UInt8.lt_trans h h2) (UInt8.lt_irrefl b)
 simp [cb,this,h]
theorem u8_tri (a b:UInt8):a < b ∨ a = b ∨ b < a:=by
 rcases Nat.lt_trichotomy a.toNat b.toNat with h | h | h
 ·exact .inl (UInt8.lt_iff_toNat_lt.2 h)
 ·exact .inr (.inl (UInt8.toNat.inj h))
 ·exact .inr (.inr (UInt8.lt_iff_toNat_lt.2 h))
theorem cb_facts:∀ x y:List UInt8,Op.bytesLess x y = decide (cb x y < 0) ∧ (x == y) = (cb x y == 0) ∧ (cb x y = -1 ∨ cb x y = 0 ∨ cb x y = 1)
 | [],[]=>⟨rfl,rfl,.inr (.inl rfl)⟩
 | [],_ :: _=>⟨rfl,rfl,.inl rfl⟩
 | _ :: _,[]=>⟨rfl,rfl,.inr (.inr rfl)⟩
 | a :: x,b :: y=>by
  have ih:=cb_facts x y
  rcases u8_tri a b with h | h | h
  ·rw [cb_lt _ _ h]
   have hne:a ≠ b:=fun e=>absurd (e ▸ h) (UInt8.lt_irrefl b)
   refine ⟨by simp [Op.bytesLess,h],by simp [hne],.inl rfl⟩
  ·subst h
   rw [cb_same]
   refine ⟨?_,?_,ih.2.2⟩
   ·have:¬ a < a:=UInt8.lt_irrefl a
    simp [Op.bytesLess,this,ih.1]
   ·have:=ih.2.1
    rw [← this]
    rw [Bool.eq_iff_iff]; simp
  ·rw [cb_gt _ _ h]
   have hne:a ≠ b:=fun e=>absurd (e ▸ h) (UInt8.lt_irrefl b)
   have hn:¬ a < b:=fun h2=>absurd (UInt8.lt_trans h h2) (UInt8.lt_irrefl b)
   refine ⟨by simp [Op.bytesLess,hn,hne],by simp [hne],.inr (.inr rfl)⟩
theorem F_cmp_Compare_int_eq (n:Nat) (a b:Int):F_cmp_Compare_int n a b = some (cmpI a b):=by
 unfold F_cmp_Compare_int F_cmp_isNaN_int cmpI
 have e1:(a != a) = false:=by simp
 have e2:(b != b) = false:=by simp
 simp only [bnd_eq,e1,e2,cond_false]
 by_cases h1:a < b
 ·simp [h1]
 ·by_cases h2:b < a
  ·simp [h1,h2]
  ·simp [h1,h2]
theorem F_cmp_Compare_int64_eq (n:Nat) (a b:Int):F_cmp_Compare_int64 n a b = some (cmpI a b):=by
 unfold F_cmp_Compare_int64 F_cmp_isNaN_int64 cmpI
 have e1:(a != a) = false:=by simp
 have e2:(b != b) = false:=by simp
 simp only [bnd_eq,e1,e2,cond_false]
 by_cases h1:a < b
 ·simp [h1]
 ·by_cases h2:b < a
  ·simp [h1,h2]
  ·simp [h1,h2]
theorem F_cmp_Compare_string_eq (n:Nat) (a b:List UInt8):F_cmp_Compare_string n a b = some (cb a b):=by
 unfold F_cmp_Compare_string F_cmp_isNaN_string
 have e1:(!(a == a)) = false:=by simp
 have e2:(!(b == b)) = false:=by simp
 obtain ⟨h1,h2,h3⟩:=cb_facts a b
 simp only [bnd_eq,e1,e2,cond_false,h1,h2]
 rcases h3 with h | h | h <;> rw [h] <;> rfl
theorem F_value_number_eq (n:Nat) (b:Bool):F_value_number n b = some (if b then 1 else 0):=by cases b <;> rfl
theorem F_value_first_int_loop (n:Nat) (l:List Int) (hl:l.length ≤ 100):∀ (k i:Nat),l.length - i < k → i ≤ l.length → loopK (F_value_first_int_l1 n l) k (i:Int) = some ((l.drop i).foldr th 0):=by
 intro k
 induction k with
 | zero=>intro i h; omega
 | succ k ih =>
  intro i hk hi
  rw [loopK_succ]
  generalize loopK (F_value_first_int_l1 n l) k = nx at ih ⊢
  unfold F_value_first_int_l1
  have hlen:(intRows .i64 l).length = l.length:=by simp [intRows]
  simp only [hlen,Ax.idx_nat]
  rcases Nat.lt_or_ge i l.length with h | h
  ·have d:decide ((i:Int) < (l.length:Int)) = true:=by simp; omega
   obtain ⟨x,hx⟩:∃ x,l[i]? = some x:=⟨_,List.getElem?_eq_getElem h⟩
   have hd:l.drop i = x :: l.drop (i + 1):=by
    obtain ⟨hlt,rfl⟩:=List.getElem?_eq_some_iff.1 hx
    exact List.drop_eq_getElem_cons hlt
   simp only [d,cond_true,Ax.idx_nat,hx,bnd_eq,hd,List.foldr_cons]
   by_cases h0:x = 0
   ·subst h0
    have:((0:Int) != 0) = false:=rfl
    rw [this,cond_false,wrap_nat i (by omega),th_zero]
    exact ih (i + 1) (by omega) h
   ·have:(x != 0) = true:=by simpa using h0
    rw [this,cond_true,th_ne _ h0]
  ·have d:decide ((i:Int) < (l.length:Int)) = false:=by simp; omega
   rw [d,List.drop_eq_nil_of_le h]
   rfl
theorem F_value_first_int_eq (n:Nat) (l:List Int) (hl:l.length ≤ 100) (hn:l.length < n):F_value_first_int n l = some (l.foldr th 0):=by
 have:=F_value_first_int_loop n l hl n 0 (by omega) (by omega)
 rwa [List.drop_zero] at this
theorem th_r0 (a:Int):th a 0 = a:=by
 by_cases h:a = 0
 ·subst h; rfl
 ·exact th_ne _ h
theorem beN_cons (a:UInt8) (l:List UInt8):beN (a :: l) = a.toNat * 256 ^ l.length + beN l:=by
 have gen:∀ (l:List UInt8) (m:Nat),l.foldl (fun n b=>n * 256 + b.toNat) m = m * 256 ^ l.length + l.foldl (fun n b=>n * 256 + b.toNat) 0:=by
  intro l
  induction l with
  | nil=>intro m; simp
  | cons b l ih =>
   intro m
   rw [List.foldl_cons,List.foldl_cons,ih,ih (0 * 256 + b.toNat),List.length_cons,Nat.pow_succ]
   rw [Nat.add_mul,Nat.zero_mul,Nat.zero_add,Nat.mul_assoc,Nat.mul_comm 256]
   omega
 unfold beN
 rw [List.foldl_cons,gen]
 simp
theorem cb_fixed:∀ (l l' r r':List UInt8),l.length = l'.length → cb (l ++ r) (l' ++ r') = th (cmpI (beN l) (beN l')) (cb r r')
 | [],[],r,r',_=>by simp [beN,cmpI,th]
 | [],_ :: _,_,_,h=>by cases h
 | _ :: _,[],_,_,h=>by cases h
 | a :: l,b :: l',r,r',h=>by
  have hl:l.length = l'.length:=by simpa using h
  have h1:=beN_lt l
  have h2:=beN_lt l'
  rw [beN_cons,beN_cons]
  rw [hl] at h1 ⊢
  rcases u8_tri a b with hab | hab | hab
  ·rw [List.cons_append,List.cons_append,cb_lt _ _ hab]
   have hn:=UInt8.lt_iff_toNat_lt.1 hab
   have:(a.toNat + 1) * 256 ^ l'.length ≤ b.toNat * 256 ^ l'.length:=Nat.mul_le_mul_right _ hn
   rw [Nat.add_mul,Nat.one_mul] at this
   have hlt:((a.toNat * 256 ^ l'.length + beN l:Nat):Int) < ((b.toNat * 256 ^ l'.length + beN l':Nat):Int):=Int.ofNat_lt.2 (by omega)
   unfold cmpI
   rw [if_pos hlt]
   rfl
  ·subst hab
   rw [List.cons_append,List.cons_append,cb_same,cb_fixed l l' r r' hl]
   congr 1
   unfold cmpI
   have e1:(((a.toNat * 256 ^ l'.length + beN l:Nat):Int) < ((a.toNat * 256 ^ l'.length + beN l':Nat):Int)) = ((beN l:Int) < (beN l':Int)):=by
    apply propext; omega
   have e2:(((a.toNat * 256 ^ l'.length + beN l':Nat):Int) < ((a.toNat * 256 ^ l'.length + beN l:Nat):Int)) = ((beN l':Int) < (beN l:Int)):=by
    apply propext; omega
   simp only [e1,e2]
  ·rw [List.cons_append,List.cons_append,cb_gt _ _ hab]
   have hn:=UInt8.lt_iff_toNat_lt.1 hab
   have:(b.toNat + 1) * 256 ^ l'.length ≤ a.toNat * 256 ^ l'.length:=Nat.mul_le_mul_right _ hn
   rw [Nat.add_mul,Nat.one_mul] at this
   have hlt:((b.toNat * 256 ^ l'.length + beN l':Nat):Int) < ((a.toNat * 256 ^ l'.length + beN l:Nat):Int):=Int.ofNat_lt.2 (by omega)
   unfold cmpI
   rw [if_neg (by omega),if_pos hlt]
   rfl
theorem cb_eight (m m':Nat) (h:m < 18446744073709551616) (h':m' < 18446744073709551616) (r r':List UInt8):cb (eightL m ++ r) (eightL m' ++ r') = th (cmpI m m') (cb r r'):=by
 rw [cb_fixed (eightL m) (eightL m') r r' rfl,beN_eight m h,beN_eight m' h']
theorem pos_of_ne {b:UInt8} (h:b ≠ 0):0 < b:=by
 rcases u8_tri 0 b with h1 | h1 | h1
 ·exact h1
 ·exact absurd h1.symm h
 ·exact absurd (UInt8.lt_iff_toNat_lt.1 h1) (by simp)
theorem ended_cons (b:UInt8) (s r:List UInt8):endedM (b :: s) ++ r = if b = 0 then 0 :: 255 :: (endedM s ++ r) else b :: (endedM s ++ r):=by
 by_cases hb:b = 0
 ·subst hb; simp [endedM,esc]
 ·simp [endedM,esc,hb]
theorem ended_nil (r:List UInt8):endedM [] ++ r = 0 :: 0 :: r:=rfl
theorem cb_ended:∀ (s t r r':List UInt8),cb (endedM s ++ r) (endedM t ++ r') = th (cb s t) (cb r r')
 | [],[],r,r'=>by rw [ended_nil,ended_nil,cb_same,cb_same]; rfl
 | [],b :: t,r,r'=>by
  rw [ended_nil,ended_cons]
  by_cases hb:b = 0
  ·subst hb; rw [if_pos rfl,cb_same,cb_lt _ _ (by decide)]; rfl
  ·rw [if_neg hb,cb_lt _ _ (pos_of_ne hb)]; rfl
 | a :: s,[],r,r'=>by
  rw [ended_nil,ended_cons]
  by_cases ha:a = 0
  ·subst ha; rw [if_pos rfl,cb_same,cb_gt _ _ (by decide)]; rfl
  ·rw [if_neg ha,cb_gt _ _ (pos_of_ne ha)]; rfl
 | a :: s,b :: t,r,r'=>by
  rw [ended_cons,ended_cons]
  have ih:=cb_ended s t r r'
  by_cases ha:a = 0
  ·subst ha
   by_cases hb:b = 0
   ·subst hb; rw [if_pos rfl,if_pos rfl,cb_same,cb_same,cb_same,ih]
   ·rw [if_pos rfl,if_neg hb,cb_lt _ _ (pos_of_ne hb),cb_lt _ _ (pos_of_ne hb)]; rfl
  ·by_cases hb:b = 0
   ·subst hb; rw [if_neg ha,if_pos rfl,cb_gt _ _ (pos_of_ne ha),cb_gt _ _ (pos_of_ne ha)]; rfl
   ·rw [if_neg ha,if_neg hb]
    rcases u8_tri a b with h | h | h
    ·rw [cb_lt _ _ h,cb_lt _ _ h]; rfl
    ·subst h; rw [cb_same,cb_same,ih]
    ·rw [cb_gt _ _ h,cb_gt _ _ h]; rfl
def Ord (a b:Val) (c:Int):Prop:=∀ r r',cb (layM a ++ r) (layM b ++ r') = th c (cb r r')
def mark (k:Int):Int:=if k = 5 then 0 else if k = 6 then 1 else if k = 7 then 2 else if k = 4 then 3 else if k = 3 then 4 else if k = 1 then 5 else if k = 2 then 6 else 7
theorem F_value_place_eq (n:Nat) (k:Int) (h0:0 ≤ k) (h1:k ≤ 7):F_value_place n (IntKind.i64.wrap (((BitVec.ofInt IntKind.i64.bits k &&& BitVec.ofInt IntKind.i64.bits (7:Int)).toNat:Nat):Int)) = some (mark k):=by
 have:k = 0 ∨ k = 1 ∨ k = 2 ∨ k = 3 ∨ k = 4 ∨ k = 5 ∨ k = 6 ∨ k = 7:=by omega
 rcases this with h | h | h | h | h | h | h | h <;> subst h <;> rfl
theorem lay_mark {k:Int} {b:Bool} {i:Int} {s:List UInt8} {l:List Val} {ks:List (List UInt8)} (hr:right (.mk k b i s l ks) = true) :
  ∃ t m,layM (.mk k b i s l ks) = m :: t ∧ ((m.toNat:Nat):Int) = mark k + 1 ∧ 0 ≤ k ∧ k ≤ 7:=by
 simp only [right,Bool.and_eq_true] at hr
 rcases good_shape hr.1 with ⟨rfl,rfl,rfl,rfl,rfl,rfl⟩ | ⟨rfl,rfl,rfl,rfl,rfl⟩ | ⟨rfl,rfl,rfl,rfl,rfl⟩ | ⟨rfl,rfl,rfl,rfl,rfl⟩ | ⟨rfl,rfl,rfl,rfl,rfl⟩ | ⟨rfl,rfl,rfl,rfl,hkl,_⟩ | ⟨rfl,rfl,rfl,rfl,rfl,_⟩ | ⟨rfl,rfl,rfl,rfl,rfl,_⟩ <;>
  exact ⟨_,_,rfl,rfl,by decide,by decide⟩
theorem mark_inj {k k':Int} (h0:0 ≤ k) (h1:k ≤ 7) (h0':0 ≤ k') (h1':k' ≤ 7) (h:mark k = mark k'):k = k':=by
 have a:k = 0 ∨ k = 1 ∨ k = 2 ∨ k = 3 ∨ k = 4 ∨ k = 5 ∨ k = 6 ∨ k = 7:=by omega
 have b:k' = 0 ∨ k' = 1 ∨ k' = 2 ∨ k' = 3 ∨ k' = 4 ∨ k' = 5 ∨ k' = 6 ∨ k' = 7:=by omega
 rcases a with rfl | rfl | rfl | rfl | rfl | rfl | rfl | rfl <;> rcases b with rfl | rfl | rfl | rfl | rfl | rfl | rfl | rfl <;> first | rfl | exact absurd h (by decide)
theorem cb_heads {m m':UInt8} (x y:List UInt8) {c:Int} (hc:c = cmpI (m.toNat:Int) (m'.toNat:Int)) (h:m ≠ m'):cb (m :: x) (m' :: y) = c ∧ c ≠ 0:=by
 subst hc
 unfold cmpI
 rcases u8_tri m m' with h1 | h1 | h1
 ·have:=UInt8.lt_iff_toNat_lt.1 h1
  rw [cb_lt _ _ h1,if_pos (by omega)]
  exact ⟨rfl,by decide⟩
 ·exact absurd h1 h
 ·have:=UInt8.lt_iff_toNat_lt.1 h1
  rw [cb_gt _ _ h1,if_neg (by omega),if_pos (by omega)]
  exact ⟨rfl,by decide⟩
theorem ord_kinds {k k':Int} {b b':Bool} {i i':Int} {s s':List UInt8} {l l':List Val} {ks ks':List (List UInt8)} (hr:right (.mk k b i s l ks) = true) (hr':right (.mk k' b' i' s' l' ks') = true) (h:k ≠ k') :
  Ord (.mk k b i s l ks) (.mk k' b' i' s' l' ks') (cmpI (mark k) (mark k')):=by
 obtain ⟨t,m,hm,hk,h0,h1⟩:=lay_mark hr
 obtain ⟨t',m',hm',hk',h0',h1'⟩:=lay_mark hr'
 intro r r'
 rw [hm,hm']
 have hne:m ≠ m':=by
  intro e
  subst e
  exact h (mark_inj h0 h1 h0' h1' (by omega))
 have hc:cmpI (mark k) (mark k') = cmpI ((m.toNat:Nat):Int) ((m'.toNat:Nat):Int):=by
  unfold cmpI
  simp only [hk,hk']
  have e1:(mark k + 1 < mark k' + 1) = (mark k < mark k'):=propext (by omega)
  have e2:(mark k' + 1 < mark k + 1) = (mark k' < mark k):=propext (by omega)
  simp only [e1,e2]
 obtain ⟨h2,h3⟩:=cb_heads (t ++ r) (t' ++ r') hc hne
 rw [List.cons_append,List.cons_append,h2,th_ne _ h3]
theorem cb_head0 (v:Val) (x y:List UInt8):cb (0 :: x) (layM v ++ y) = -1 ∧ cb (layM v ++ y) (0 :: x) = 1:=by
 obtain ⟨m,t,hm,h0⟩:=lay_head v
 rw [hm,List.cons_append]
 exact ⟨cb_lt _ _ (pos_of_ne h0),cb_gt _ _ (pos_of_ne h0)⟩
theorem drop_consV {l:List Val} {i:Nat} {v:Val} (h:l[i]? = some v):l.drop i = v :: l.drop (i + 1):=by
 obtain ⟨hlt,rfl⟩:=List.getElem?_eq_some_iff.1 h
 exact List.drop_eq_getElem_cons hlt
theorem drop_consK {l:List (List UInt8)} {i:Nat} {v:List UInt8} (h:l[i]? = some v):l.drop i = v :: l.drop (i + 1):=by
 obtain ⟨hlt,rfl⟩:=List.getElem?_eq_some_iff.1 h
 exact List.drop_eq_getElem_cons hlt
theorem cmpI_self (a:Int):cmpI a a = 0:=by simp [cmpI]
section
variable {n:Nat} {g:Val → Val → Option Int} {l l':List Val} {ks ks':List (List UInt8)}
theorem F_value_Order_list (hn:10 ≤ n) (hl:l.length ≤ 1099511627776) (hg:∀ (i:Nat) (v v':Val),l[i]? = some v → l'[i]? = some v' → ∃ c,g v v' = some c ∧ Ord v v' c) :
  ∀ (k i:Nat),l.length - i < k → i ≤ l.length → i ≤ l'.length → ∃ c,loopK (F_value_Order_l1 n l l' 4 [] [] g false false 0 0 [] []) k (i:Int) = some c ∧
   ∀ r r',cb (layL (l.drop i) ++ 0 :: r) (layL (l'.drop i) ++ 0 :: r') = th c (cb r r'):=by
 intro k
 induction k with
 | zero=>intro i h; omega
 | succ k ih =>
  intro i hk hi hi'
  rw [loopK_succ]
  generalize loopK (F_value_Order_l1 n l l' 4 [] [] g false false 0 0 [] []) k = nx at ih ⊢
  unfold F_value_Order_l1
  simp only [valRows_len]
  rcases Nat.lt_or_ge i l.length with h | h
  ·have d:decide ((i:Int) < (l.length:Int)) = true:=by simp; omega
   obtain ⟨⟨k1,b1,i1,s1,l1,ks1⟩,hv⟩:∃ v,l[i]? = some v:=⟨_,List.getElem?_eq_getElem h⟩
   rcases Nat.lt_or_ge i l'.length with h' | h'
   ·have d':decide ((i:Int) < (l'.length:Int)) = true:=by simp; omega
    obtain ⟨⟨k2,b2,i2,s2,l2,ks2⟩,hv'⟩:∃ v,l'[i]? = some v:=⟨_,List.getElem?_eq_getElem h'⟩
    obtain ⟨c,hc,ho⟩:=hg i _ _ hv hv'
    have e4:((4:Int) == 5) = false:=rfl
    simp only [d,d',cond_true,e4,cond_false]
    try unfold F_value_Order_k3
    simp only [Ax.idx_nat,hv,hv',bnd_eq,hc]
    rw [F_value_first_int_eq n [0,c] (by simp) (by simp; omega)]
    have e:[0,c].foldr th 0 = c:=by simp only [List.foldr]; rw [th_zero,th_r0]
    rw [e]
    simp only [bnd_eq]
    by_cases h0:c = 0
    ·subst h0
     have:((0:Int) != 0) = false:=rfl
     rw [this,cond_false,wrap_nat i (by omega)]
     obtain ⟨c',hc',ho'⟩:=ih (i + 1) (by omega) h h'
     refine ⟨c',hc',fun r r'=>?_⟩
     rw [drop_consV hv,drop_consV hv']
     simp only [layL,List.append_assoc]
     rw [ho,th_zero,ho']
    ·have:(c != 0) = true:=by simpa using h0
     rw [this,cond_true]
     refine ⟨c,rfl,fun r r'=>?_⟩
     rw [drop_consV hv,drop_consV hv']
     simp only [layL,List.append_assoc]
     rw [ho,th_ne _ h0,th_ne _ h0]
   ·have d':decide ((i:Int) < (l'.length:Int)) = false:=by simp; omega
    simp only [d,d',cond_true,cond_false,F_cmp_Compare_int_eq,F_value_number_eq,F_cmp_Compare_int64_eq,F_cmp_Compare_string_eq,bnd_eq]
    rw [F_value_first_int_eq n _ (by simp) (by simp; omega)]
    refine ⟨_,rfl,fun r r'=>?_⟩
    rw [drop_consV hv,List.drop_eq_nil_of_le h']
    have hc:cmpI (l.length:Int) (l'.length:Int) = 1:=by unfold cmpI; rw [if_neg (by omega),if_pos (by omega)]
    rw [hc]
    simp only [layL,List.nil_append,List.append_assoc]
    rw [(cb_head0 _ _ _).2]
    rfl
  ·have hil:i = l.length:=by omega
   have d:decide ((i:Int) < (l.length:Int)) = false:=by simp; omega
   simp only [d,cond_false,F_cmp_Compare_int_eq,F_value_number_eq,F_cmp_Compare_int64_eq,F_cmp_Compare_string_eq,bnd_eq]
   rw [F_value_first_int_eq n _ (by simp) (by simp; omega)]
   refine ⟨_,rfl,fun r r'=>?_⟩
   rw [List.drop_eq_nil_of_le h]
   rcases Nat.lt_or_ge i l'.length with h' | h'
   ·obtain ⟨v',hv'⟩:∃ v,l'[i]? = some v:=⟨_,List.getElem?_eq_getElem h'⟩
    have hc:cmpI (l.length:Int) (l'.length:Int) = -1:=by unfold cmpI; rw [if_pos (by omega)]
    rw [hc,drop_consV hv']
    simp only [layL,List.nil_append,List.append_assoc]
    rw [(cb_head0 _ _ _).1]
    rfl
   ·have:l.length = l'.length:=by omega
    rw [this,cmpI_self,List.drop_eq_nil_of_le h']
    simp only [layL,List.nil_append,cb_same]
    rfl
theorem F_value_Order_map (hn:10 ≤ n) (hl:l.length ≤ 1099511627776) (hk1:ks.length = l.length) (hk2:ks'.length = l'.length) (hg:∀ (i:Nat) (v v':Val),l[i]? = some v → l'[i]? = some v' → ∃ c,g v v' = some c ∧ Ord v v' c) :
  ∀ (k i:Nat),l.length - i < k → i ≤ l.length → i ≤ l'.length → ∃ c,loopK (F_value_Order_l1 n l l' 5 ks ks' g false false 0 0 [] []) k (i:Int) = some c ∧
   ∀ r r',cb (layK (l.drop i) (ks.drop i) ++ 0 :: r) (layK (l'.drop i) (ks'.drop i) ++ 0 :: r') = th c (cb r r'):=by
 intro k
 induction k with
 | zero=>intro i h; omega
 | succ k ih =>
  intro i hk hi hi'
  rw [loopK_succ]
  generalize loopK (F_value_Order_l1 n l l' 5 ks ks' g false false 0 0 [] []) k = nx at ih ⊢
  unfold F_value_Order_l1
  simp only [valRows_len]
  rcases Nat.lt_or_ge i l.length with h | h
  ·have d:decide ((i:Int) < (l.length:Int)) = true:=by simp; omega
   obtain ⟨⟨k1,b1,i1,s1,l1,ks1⟩,hv⟩:∃ v,l[i]? = some v:=⟨_,List.getElem?_eq_getElem h⟩
   obtain ⟨key,hkey⟩:∃ v,ks[i]? = some v:=⟨_,List.getElem?_eq_getElem (by omega)⟩
   rcases Nat.lt_or_ge i l'.length with h' | h'
   ·have d':decide ((i:Int) < (l'.length:Int)) = true:=by simp; omega
    obtain ⟨⟨k2,b2,i2,s2,l2,ks2⟩,hv'⟩:∃ v,l'[i]? = some v:=⟨_,List.getElem?_eq_getElem h'⟩
    obtain ⟨key',hkey'⟩:∃ v,ks'[i]? = some v:=⟨_,List.getElem?_eq_getElem (by omega)⟩
    obtain ⟨c,hc,ho⟩:=hg i _ _ hv hv'
    have e4:((5:Int) == 5) = true:=rfl
    simp only [d,d',cond_true,e4,Ax.idx_nat,hkey,hkey',bnd_eq,F_cmp_Compare_string_eq]
    unfold F_value_Order_k3
    simp only [Ax.idx_nat,hv,hv',bnd_eq,hc]
    rw [F_value_first_int_eq n _ (by simp) (by simp; omega)]
    have e:[cb key key',c].foldr th 0 = th (cb key key') c:=by simp only [List.foldr]; rw [th_r0]
    rw [e]
    simp only [bnd_eq]
    have step:∀ x y,cb (layK ((.mk k1 b1 i1 s1 l1 ks1) :: l.drop (i + 1)) (key :: ks.drop (i + 1)) ++ x) (layK ((.mk k2 b2 i2 s2 l2 ks2) :: l'.drop (i + 1)) (key' :: ks'.drop (i + 1)) ++ y) =
      th (th (cb key key') c) (cb (layK (l.drop (i + 1)) (ks.drop (i + 1)) ++ x) (layK (l'.drop (i + 1)) (ks'.drop (i + 1)) ++ y)):=by
     intro x y
     simp only [layK,List.append_assoc,List.cons_append]
     rw [cb_same,cb_ended,ho,th_assoc]
    by_cases h0:th (cb key key') c = 0
    ·rw [h0] at step ⊢
     have:((0:Int) != 0) = false:=rfl
     rw [this,cond_false,wrap_nat i (by omega)]
     obtain ⟨c',hc',ho'⟩:=ih (i + 1) (by omega) h h'
     refine ⟨c',hc',fun r r'=>?_⟩
     rw [drop_consV hv,drop_consV hv',drop_consK hkey,drop_consK hkey',step,th_zero,ho']
    ·have:(th (cb key key') c != 0) = true:=by simpa using h0
     rw [this,cond_true]
     refine ⟨_,rfl,fun r r'=>?_⟩
     rw [drop_consV hv,drop_consV hv',drop_consK hkey,drop_consK hkey',step,th_ne _ h0,th_ne _ h0]
   ·have d':decide ((i:Int) < (l'.length:Int)) = false:=by simp; omega
    simp only [d,d',cond_true,cond_false,F_cmp_Compare_int_eq,F_value_number_eq,F_cmp_Compare_int64_eq,F_cmp_Compare_string_eq,bnd_eq]
    rw [F_value_first_int_eq n _ (by simp) (by simp; omega)]
    refine ⟨_,rfl,fun r r'=>?_⟩
    rw [drop_consV hv,drop_consK hkey,List.drop_eq_nil_of_le h']
    have hc:cmpI (l.length:Int) (l'.length:Int) = 1:=by unfold cmpI; rw [if_neg (by omega),if_pos (by omega)]
    rw [hc]
    simp only [layK,List.nil_append,List.append_assoc,List.cons_append]
    rw [cb_gt _ _ (by decide)]
    rfl
  ·have hil:i = l.length:=by omega
   have d:decide ((i:Int) < (l.length:Int)) = false:=by simp; omega
   simp only [d,cond_false,F_cmp_Compare_int_eq,F_value_number_eq,F_cmp_Compare_int64_eq,F_cmp_Compare_string_eq,bnd_eq]
   rw [F_value_first_int_eq n _ (by simp) (by simp; omega)]
   refine ⟨_,rfl,fun r r'=>?_⟩
   rw [List.drop_eq_nil_of_le h]
   rcases Nat.lt_or_ge i l'.length with h' | h'
   ·obtain ⟨v',hv'⟩:∃ v,l'[i]? = some v:=⟨_,List.getElem?_eq_getElem h'⟩
    obtain ⟨key',hkey'⟩:∃ v,ks'[i]? = some v:=⟨_,List.getElem?_eq_getElem (by omega)⟩
    have hc:cmpI (l.length:Int) (l'.length:Int) = -1:=by unfold cmpI; rw [if_pos (by omega)]
    rw [hc,drop_consV hv',drop_consK hkey']
    simp only [layK,List.nil_append,List.append_assoc,List.cons_append]
    rw [cb_lt _ _ (by decide)]
    rfl
   ·have:l.length = l'.length:=by omega
    rw [this,cmpI_self,List.drop_eq_nil_of_le h']
    simp only [layK,List.nil_append,cb_same]
    rfl
end
theorem rightL_get {l:List Val} (h:rightL l = true) {v:Val} (hm:v ∈ l):right v = true:=by
 induction l with
 | nil=>cases hm
 | cons w l ih =>
  simp only [rightL,Bool.and_eq_true] at h
  rcases List.mem_cons.1 hm with rfl | hm
  ·exact h.1
  ·exact ih h.2 hm
theorem rangeL_get {l:List Val} (h:range64L l = true) {v:Val} (hm:v ∈ l):range64 v = true:=by
 induction l with
 | nil=>cases hm
 | cons w l ih =>
  simp only [range64L,Bool.and_eq_true] at h
  rcases List.mem_cons.1 hm with rfl | hm
  ·exact h.1
  ·exact ih h.2 hm
theorem F_value_Order_flat (n:Nat) (hn:10 ≤ n) (k:Int) (g:Val → Val → Option Int) (b b':Bool) (i i':Int) (s s':List UInt8) (ks ks':List (List UInt8)) :
  loopK (F_value_Order_l1 n [] [] k ks ks' g b b' i i' s s') n 0 = some (th (cmpI (if b then 1 else 0) (if b' then 1 else 0)) (th (cmpI i i') (cb s s'))):=by
 obtain ⟨m,rfl⟩:∃ j,n = j + 1:=⟨n - 1,by omega⟩
 rw [loopK_succ]
 generalize loopK (F_value_Order_l1 (m + 1) [] [] k ks ks' g b b' i i' s s') m = nx
 unfold F_value_Order_l1
 simp only [valRows_len,List.length_nil,F_cmp_Compare_int_eq,F_value_number_eq,F_cmp_Compare_int64_eq,F_cmp_Compare_string_eq,bnd_eq]
 rw [F_value_first_int_eq (m + 1) _ (by simp) (by simp; omega)]
 simp only [List.foldr,th_r0]
 rfl
theorem off_ord (i i':Int) (h:int64 i = true) (h':int64 i' = true):cmpI ((bits64 i ^^^ 9223372036854775808:Nat):Int) ((bits64 i' ^^^ 9223372036854775808:Nat):Int) = cmpI i i':=by
 simp only [int64,decide_eq_true_eq] at h h'
 have e:∀ i:Int,-9223372036854775808 ≤ i ∧ i < 9223372036854775808 → ((bits64 i ^^^ 9223372036854775808:Nat):Int) = i + 9223372036854775808:=by
  intro i h
  rw [xor_add _ (bits64_lt i)]
  unfold bits64
  omega
 rw [e i h,e i' h']
 unfold cmpI
 have e1:(i + 9223372036854775808 < i' + 9223372036854775808) = (i < i'):=propext (by omega)
 have e2:(i' + 9223372036854775808 < i + 9223372036854775808) = (i' < i):=propext (by omega)
 simp only [e1,e2]
theorem pos_bits (i:Int) (h:int64 i = true) (h1:1 ≤ i):(bits64 i:Int) = i:=by
 simp only [int64,decide_eq_true_eq] at h
 unfold bits64
 omega
theorem F_value_Order_eq:∀ (m n:Nat) (a b:Val),a.big ≤ m → m ≤ 1099511627776 → m + 20 ≤ n → right a = true → right b = true → range64 a = true → range64 b = true → ∃ c,F_value_Order n a b = some c ∧ Ord a b c:=by
 intro m
 induction m with
 | zero=>intro n a b h; exact absurd a.big_pos (by omega)
 | succ m ih =>
  rintro n ⟨k,b,i,s,l,ks⟩ ⟨k',b',i',s',l',ks'⟩ ha hm hn hr hr' hi hi'
  obtain ⟨n,rfl⟩:∃ j,n = j + 1:=⟨n - 1,by omega⟩
  have hbig:1 + s.length + bigs l + kbig ks ≤ m + 1:=ha
  have hll:=bigs_len l
  show ∃ c,BF_value_Order n (F_value_Order n) _ _ = some c ∧ _
  have hg:∀ (x:Nat) (v v':Val),l[x]? = some v → l'[x]? = some v' → rightL l = true → rightL l' = true → range64L l = true → range64L l' = true → ∃ c,F_value_Order n v v' = some c ∧ Ord v v' c:=by
   intro x v v' hv hv' h1 h2 h3 h4
   have hb:=bigs_mem (List.mem_of_getElem? hv)
   exact ih n v v' (by omega) (by omega) (by omega) (rightL_get h1 (List.mem_of_getElem? hv)) (rightL_get h2 (List.mem_of_getElem? hv')) (rangeL_get h3 (List.mem_of_getElem? hv)) (rangeL_get h4 (List.mem_of_getElem? hv'))
  unfold BF_value_Order
  by_cases hk:k = k'
  ·subst hk
   have e:(k != k) = false:=by simp
   simp only [e,cond_false]
   simp only [right,Bool.and_eq_true] at hr hr'
   simp only [range64,Bool.and_eq_true] at hi hi'
   rcases good_shape hr.1 with ⟨rfl,rfl,rfl,rfl,rfl,rfl⟩ | ⟨rfl,rfl,rfl,rfl,rfl⟩ | ⟨rfl,rfl,rfl,rfl,rfl⟩ | ⟨rfl,rfl,rfl,rfl,rfl⟩ | ⟨rfl,rfl,rfl,rfl,rfl⟩ | ⟨rfl,rfl,rfl,rfl,hkl,_⟩ | ⟨rfl,rfl,rfl,rfl,rfl,hi1⟩ | ⟨rfl,rfl,rfl,rfl,rfl,hi1⟩
   ·rcases good_shape hr'.1 with ⟨_,rfl,rfl,rfl,rfl,rfl⟩ | h | h | h | h | h | h | h <;> try exact absurd h.1 (by decide)
    rw [F_value_Order_flat n (by omega)]
    exact ⟨_,rfl,fun r r'=>by show cb (8 :: r) (8 :: r') = _; rw [cb_same]; rfl⟩
   ·rcases good_shape hr'.1 with h | ⟨_,rfl,rfl,rfl,rfl⟩ | h | h | h | h | h | h <;> try exact absurd h.1 (by decide)
    rw [F_value_Order_flat n (by omega)]
    refine ⟨_,rfl,fun r r'=>?_⟩
    cases b <;> cases b'
    ·show cb (6 :: 0 :: r) (6 :: 0 :: r') = _; rw [cb_same,cb_same]; rfl
    ·show cb (6 :: 0 :: r) (6 :: 1 :: r') = _; rw [cb_same,cb_lt _ _ (by decide)]; rfl
    ·show cb (6 :: 1 :: r) (6 :: 0 :: r') = _; rw [cb_same,cb_gt _ _ (by decide)]; rfl
    ·show cb (6 :: 1 :: r) (6 :: 1 :: r') = _; rw [cb_same,cb_same]; rfl
   ·rcases good_shape hr'.1 with h | h | ⟨_,rfl,rfl,rfl,rfl⟩ | h | h | h | h | h <;> try exact absurd h.1 (by decide)
    rw [F_value_Order_flat n (by omega)]
    refine ⟨_,rfl,fun r r'=>?_⟩
    show cb (7 :: (eightL (bits64 i ^^^ 9223372036854775808) ++ r)) (7 :: (eightL (bits64 i' ^^^ 9223372036854775808) ++ r')) = _
    rw [cb_same,cb_eight _ _ (off_lt i) (off_lt i'),off_ord i i' hi.1 hi'.1]
    show _ = th (th (cmpI i i') 0) _
    rw [th_r0]
   ·rcases good_shape hr'.1 with h | h | h | ⟨_,rfl,rfl,rfl,rfl⟩ | h | h | h | h <;> try exact absurd h.1 (by decide)
    rw [F_value_Order_flat n (by omega)]
    refine ⟨_,rfl,fun r r'=>?_⟩
    show cb (5 :: (endedM s ++ r)) (5 :: (endedM s' ++ r')) = _
    rw [cb_same,cb_ended]
    rfl
   ·rcases good_shape hr'.1 with h | h | h | h | ⟨_,rfl,rfl,rfl,rfl⟩ | h | h | h <;> try exact absurd h.1 (by decide)
    obtain ⟨c,hc,ho⟩:=F_value_Order_list (n:=n) (g:=F_value_Order n) (l:=l) (l':=l') (by omega) (by omega) (fun x v v' hv hv'=>hg x v v' hv hv' hr.2 hr'.2 hi.2 hi'.2) n 0 (by omega) (by omega) (by omega)
    refine ⟨c,hc,fun r r'=>?_⟩
    have e1:∀ (l:List Val) (r:List UInt8),layM (.mk 4 false 0 [] l []) ++ r = 4 :: (layL l ++ 0 :: r):=fun l r=>by
     show (4 :: layL l ++ [0]) ++ r = _
     simp
    rw [e1,e1,cb_same]
    exact ho r r'
   ·rcases good_shape hr'.1 with h | h | h | h | h | ⟨_,rfl,rfl,rfl,hkl',_⟩ | h | h <;> try exact absurd h.1 (by decide)
    obtain ⟨c,hc,ho⟩:=F_value_Order_map (n:=n) (g:=F_value_Order n) (l:=l) (l':=l') (ks:=ks) (ks':=ks') (by omega) (by omega) hkl hkl' (fun x v v' hv hv'=>hg x v v' hv hv' hr.2 hr'.2 hi.2 hi'.2) n 0 (by omega) (by omega) (by omega)
    refine ⟨c,hc,fun r r'=>?_⟩
    have e1:∀ (l:List Val) (ks:List (List UInt8)) (r:List UInt8),layM (.mk 5 false 0 [] l ks) ++ r = 1 :: (layK l ks ++ 0 :: r):=fun l ks r=>by
     show (1 :: layK l ks ++ [0]) ++ r = _
     simp
    rw [e1,e1,cb_same]
    exact ho r r'
   ·rcases good_shape hr'.1 with h | h | h | h | h | h | ⟨_,rfl,rfl,rfl,rfl,hi1'⟩ | h <;> try exact absurd h.1 (by decide)
    rw [F_value_Order_flat n (by omega)]
    refine ⟨_,rfl,fun r r'=>?_⟩
    show cb (2 :: (eightL (bits64 i) ++ r)) (2 :: (eightL (bits64 i') ++ r')) = _
    rw [cb_same,cb_eight _ _ (bits64_lt i) (bits64_lt i'),pos_bits i hi.1 hi1,pos_bits i' hi'.1 hi1']
    show _ = th (th (cmpI i i') 0) _
    rw [th_r0]
   ·rcases good_shape hr'.1 with h | h | h | h | h | h | h | ⟨_,rfl,rfl,rfl,rfl,hi1'⟩ <;> try exact absurd h.1 (by decide)
    rw [F_value_Order_flat n (by omega)]
    refine ⟨_,rfl,fun r r'=>?_⟩
    show cb (3 :: (eightL (bits64 i) ++ r)) (3 :: (eightL (bits64 i') ++ r')) = _
    rw [cb_same,cb_eight _ _ (bits64_lt i) (bits64_lt i'),pos_bits i hi.1 hi1,pos_bits i' hi'.1 hi1']
    show _ = th (th (cmpI i i') 0) _
    rw [th_r0]
  ·have e:(k != k') = true:=by simpa using hk
   obtain ⟨_,_,_,_,h0,h1⟩:=lay_mark hr
   obtain ⟨_,_,_,_,h0',h1'⟩:=lay_mark hr'
   simp only [e,cond_true]
   rw [F_value_place_eq n k h0 h1,F_value_place_eq n k' h0' h1']
   simp only [bnd_eq,F_cmp_Compare_int_eq]
   exact ⟨_,rfl,ord_kinds hr hr' hk⟩
end W
end
