/- A part of the proof: the plain law. -/
import Derived.Laws.IdiomCopy
import Derived.Shelf.Spec.SlicesInsertGrow
import Derived.Deep.RegionLaw
import Derived.Deep.RegionWith
import Derived.Test.YtglihheagfnakaaGreatA
import Derived.Test.YtglihheagfnakaaGreatB
import Derived.Test.YtglihheagfnakaaGreatF
import Derived.Test.YtglihheagfnakaaGreatH
set_option linter.unusedVariables false
set_option linter.unusedSimpArgs false
set_option linter.unnecessarySimpa false
set_option linter.deprecated false
set_option linter.unusedSectionVars false
set_option linter.constructorNameAsVariable false
open Go renaming run_underlying->kru
open Go.IntKind renaming wrap->kwr,bits->kbt
open List renaming length_append->jb,getElem?_eq_getElem->jf,length_map->jl,append_assoc->js,length_take->jt,mem_append->jy,getElem?_drop->jD,getElem?_take->jE,eq_nil_of_length_eq_zero->jI,length_drop->jM,map_append->jZ
open Nat renaming le_of_ble_eq_true->jh,le_refl->jw,zero_add->jx,zero_le->jS
open Array renaming getElem?_eq_some_iff->jH,length_toList->jK
section
open Go Ax
namespace W
def lay (c:List Value) (o:Nat) (vs:List Value):List Value:=c.take o++vs++c.drop (o+vs.length)
theorem uN {c vs:List Value} {o:Nat} (h:o+vs.length<=c.length):(lay c o vs).length=c.length:=by
 simp only[lay,jb,jt,jM]; omega
theorem aX {c vs:List Value} {o:Nat} {v:Value} (h:o<c.length):lay (c.set o v) (o+1) vs=lay c o (v::vs):=by
 unfold lay
 rw[List.drop_set_of_lt (by omega),List.take_add_one,List.take_set_of_le (jw _)]
 simp[h,Nat.add_assoc,Nat.add_comm 1]
theorem PN (w:World) (b i:Nat) (v:Value):w.grownBy (w.setCell ⟨b,i,none⟩ v) (some b):=
 ⟨rfl,rfl,rfl,by simp[World.setCell],fun k _ hn=>by
  have:b≠k:=fun e=>hn (by rw[e])
  simp[World.setCell,Array.getElem?_modify,this]⟩
theorem bz {a b c:World} {r:Option Nat} (h:a.grownBy b r) (k:b.grownBy c r):a.grownBy c r:=
 ⟨k.os.trans h.os,k.tape.trans h.tape,k.output.trans h.output,Nat.le_trans h.size k.size,fun i hi hn=>(k.block i (Nat.lt_of_lt_of_le hi h.size) hn).trans (h.block i hi hn)⟩
theorem vk {b:Nat} {e:TypeId}:∀(vs:List Value) (o:Nat) (w:World) (c:List Value),w.heap[b]? =some (.cells c.toArray e (0,0))->o+vs.length<=c.length ->
  (w.setCells b o vs).heap[b]? =some (.cells (lay c o vs).toArray e (0,0))/\w.grownBy (w.setCells b o vs) (some b)
 | [],o,w,c,h,_=>⟨by simpa[lay,World.setCells]using h,rfl,rfl,rfl,jw _,fun _ _ _=>rfl⟩
 | v::vs,o,w,c,h,ho=>by
  simp only[List.length_cons]at ho
  have h1:(w.setCell ⟨b,o,none⟩ v).heap[b]? =some (.cells (c.set o v).toArray e (0,0)):=by
   simp[World.setCell,Array.getElem?_modify,h]
  obtain⟨a1,a2⟩:=vk vs (o+1) _ _ h1 (by simp; omega)
  rw[aX (by omega)]at a1
  exact⟨a1,bz (PN w b o v) a2⟩
theorem bZ {P:Program} (w:World) (dT sT ty elem:TypeId) (z b o dLen dCap:Nat) (a:Addr) (sLen sCap:Nat) (cs:List Value)
  (hu:P.underlying dT=some (.slice elem)) (hs:(P.info? elem).map (·.size)=some z) (hn:cs.length=Nat.min sLen dLen * z)
  (hsrc:∀ j v,cs[j]? =some v->w.cell? (a.add j)=some v) (hc:∀ j,j<cs.length->(w.cell? ⟨b,o+j,none⟩).isSome=true) (hf:∀ j,j<cs.length->w.frozen? ⟨b,o+j,none⟩=false) (h1:∀ v∈cs,v.oneCell'=true) :
  (Builtin.copy_ #[dT,sT] ty #[.slice (some ⟨b,o,none⟩) dLen dCap,.slice (some a) sLen sCap]).run P w=.ok (goInt (Nat.min sLen dLen)) (w.setCells b o cs):=by
 have hl:=run_loadCells_list (P:=P) w a cs hsrc
 have hst:=run_storeCells_cells (P:=P) b o cs 0 w (by simpa using hc) (by simpa using hf) h1
 cases hq:P.info? elem with
 | none=>simp[hq]at hs
 | some i=>
  have hi:i.size=z:=by simpa[hq]using hs
  rw[hn]at hl
  simp[Builtin.copy_,kru hu,Builtin.lenOf,Builtin.firstCells,Go.sizeOf,typeInfo,hq,hi,hl,hst]
theorem CQ {P:Program} (w:World) (t e ty:TypeId) (z:Value) (ht:P.underlying t=some (.slice e)) (hv:∀ w,(zeroValue e).run P w=.ok z w) (h1:∀ v∈z.cells,v.oneCell'=true) (b o c:Nat)
  (hc:∀ j,j<z.cells.size->(w.cell? ⟨b,o+j,none⟩).isSome=true) (hf:∀ j,j<z.cells.size->w.frozen? ⟨b,o+j,none⟩=false) :
  (Builtin.clear_ #[t] ty #[.slice (some ⟨b,o,none⟩) 1 c]).run P w=.ok (.tuple #[]) (w.setCells b o z.cells.toList):=by
 have hzc:(Builtin.zeroCells z.cells 1).toList=z.cells.toList:=by
  simp only[Builtin.zeroCells]
  apply List.ext_getElem
  ·simp
  ·intro i h1 h2
   have h2:i<z.cells.size:=by simpa using h2
   simp[Nat.mod_eq_of_lt h2,h2]
 have hst:=run_storeCells_cells (P:=P) b o z.cells.toList 0 w (by simpa using hc) (by simpa using hf) (fun v hv=>h1 v (by simpa using hv))
 simp only[Nat.add_zero]at hst
 simp[Builtin.clear_,kru ht,hv,hzc,hst]
theorem Dj {w:World} {base g n cap z:Nat} {e:TypeId} {c xs:List Value} (hb:base<=g) (h:w.heap[g]? =some (.cells c.toArray e (0,0))) (hn:n<=cap) (hm:cap<=maxLen) (hs:c.length=cap * z) (ht:c.take (n * z)=xs) :
  w.ownsRow base e z (.slice (some ⟨g,0,none⟩) n cap) n xs:=by
 refine⟨?_,.inr ⟨g,cap,_,rfl,hb,h,hn,hm,by simpa using hs,by simpa using ht⟩⟩
 rw[← ht,jt,hs]
 exact Nat.min_eq_left (Nat.mul_le_mul_right z hn)
theorem Ll {c us ds:List Value} {a z m:Nat} (hu:us.length=z) (hd:ds.length=m) (hc:a+z+m<=c.length) :
  (lay (lay c (a+z) ds) a us).take (a+z+m)=c.take a++us++ds:=by
 have e1:(lay c (a+z) ds).take a=c.take a:=by
  unfold lay
  rw[js,List.take_append_of_le_length (by rw[jt]; omega),List.take_take,Nat.min_eq_left (by omega)]
 have e2:(lay c (a+z) ds).drop (a+z)=ds++c.drop (a+z+m):=by
  unfold lay
  rw[js,List.drop_append_of_le_length (by rw[jt]; omega),List.drop_of_length_le (by rw[jt]; omega),hd]
  rfl
 unfold lay at e1 e2 ⊢
 rw[hu,e1,e2]
 have l1:(c.take a++us++ds).length=a+z+m:=by simp only[jb,jt]; omega
 rw[← js,← l1,List.take_left']
 rfl
theorem Lk {c us ds:List Value} {a z m:Nat} (hu:us.length=z) (hd:ds.length=m) (hc:a+z+m<=c.length) :
  (lay (lay c a us) (a+z) ds).take (a+z+m)=c.take a++us++ds:=by
 have e1:(lay c a us).take (a+z)=c.take a++us:=by
  unfold lay
  rw[← hu]
  exact List.take_left' (by simp only[jb,jt]; omega)
 unfold lay at e1 ⊢
 rw[e1]
 exact List.take_left' (by simp only[jb,jt]; omega)
end W
end
section
open Go Go.Proofs Ax Go.RowKit Go.Shelf
namespace W
def zS:Value:=.string ⟨#[]⟩
theorem qe4:∃ i0:TypeInfo,Tryz.prog.info? 9=some i0/\i0.zero=some zS/\i0.size=1/\i0.bytes=16:=by
 have h:(Tryz.prog.info? 9).map (fun i=>(i.size,i.bytes,i.zero))=some (1,16,some zS):=by kernel_rfl
 obtain⟨i,h1,h2⟩:=Option.map_eq_some_iff.1 h
 simp only[Prod.mk.injEq]at h2
 exact⟨i,h1,h2.2.2,h2.1,h2.2.1⟩
set_option maxHeartbeats 4000000 in
set_option maxRecDepth 100000 in
theorem Tt (base g n c i b cc:Nat) (cur us:List Value) (w:World) (hi:i<n) (hnc:n+1<=c) (hm:c<=maxLen) (hg:w.heap[g]? =some (.cells cur.toArray 9 (0,0))) (hcl:cur.length=c)
  (hul:us.length=1) (tb:TypeId) (hbk:w.heap[b]? =some (.cells us.toArray tb (0,0))) (hne:b≠g) (h1x:∀ u∈cur.take (n),u.oneCell'=true) (h1:∀ u∈us,u.oneCell'=true) :
  Calls Tryz.prog 183 #[.slice (some ⟨g,0,none⟩) n c,.int .i64 i,.slice (some ⟨b,0,none⟩) 1 cc] w fun e w'=>
   e=.returned (.slice (some ⟨g,0,none⟩) (n+1) c)/\w'.heap[g]? =some (.cells (lay (lay cur ((i+1)) ((cur.take (n)).drop (i))) (i) us).toArray 9 (0,0))/\w.grownBy w' (some g):=by
 obtain⟨i0,hi0,hz0,hzs,hzb⟩:=qe4
 unfold maxLen at hm
 have hz1:¬ ((1:Int)=0):=by omega
 have hz2:¬ ((i:Int)=(n:Int)):=by omega
 have hsz:(Tryz.prog.info? 9).map (·.size)=some 1:=by rw[hi0]; simp[hzs]
 have hfz:∀ j,w.frozen? ⟨g,j,none⟩=false:=fun j=>frozen_of_row w g j cur.toArray 9 hg
 have hcs:∀ j,w.cell? ⟨g,j,none⟩=cur[j]?:=fun j=>by rw[cell_of_row w g j cur.toArray 9 (0,0) hg]; simp
 have hvs:∀ j,w.cell? ⟨b,j,none⟩=us[j]?:=fun j=>by rw[cell_of_row w b j us.toArray tb (0,0) hbk]; simp
 have hov:∀ o lb cb,(callFunc 222 #[.slice (some ⟨b,0,none⟩) 1 cc,.slice (some ⟨g,o,none⟩) lb cb]).run Tryz.prog w=.ok (.value (.bool false)) w:=fun o lb cb=>by
  rw[run_callFunc_extern Tryz.func222 (by kernel_rfl) (by kernel_rfl) (by kernel_rfl) (e:=Extern.SlicesOverlaps.overlaps #[22,22] #[4]) (by kernel_rfl),
   Lib.run_overlaps_apart w 22 4 9 Tryz.underlying22 1 (fun _=>by kernel_rfl) ⟨b,0,none⟩ ⟨g,o,none⟩ 1 cc lb cb hne tb 9 us.length cur.length (by simp[World.shape?,hbk]) (by simp[World.shape?,hg]) (by rw[hcl]; omega) (frozen_of_row w b _ us.toArray tb hbk) (frozen_of_row w b _ us.toArray tb hbk)]
  rfl
 obtain⟨ds,hds⟩:∃ ds,ds=(cur.take (n)).drop (i):=⟨_,rfl⟩
 have hdl:ds.length=(n - i):=by rw[hds,jM,jt,hcl]; omega
 have hdg:∀ j v,ds[j]? =some v->cur[i+j]? =some v:=fun j v hj=>by
  rw[hds,jD,jE]at hj
  split at hj
  ·exact hj
  ·cases hj
 have h1d:∀ v∈ds,v.oneCell'=true:=fun v hv=>h1x v (by rw[hds]at hv; exact List.mem_of_mem_drop hv)
 rw[← hds]
 clear hds h1x
 obtain⟨hs1,hs2⟩:=vk ds ((i+1)) w.drew cur hg (by rw[hdl,hcl]; omega)
 have hll:=uN (c:=cur) (vs:=ds) (o:=(i+1)) (by rw[hdl,hcl]; omega)
 have hcp1:∀ ty dc sc,(Builtin.copy_ #[22,22] ty #[.slice (some ⟨g,(i+1),none⟩) (n+1 - (i+1)) dc,.slice (some ⟨g,i,none⟩) (n+1 - i) sc]).run Tryz.prog w.drew=.ok (goInt (n - i)) (w.drew.setCells g ((i+1)) ds):=fun ty dc sc=>by
  have e:Nat.min (n+1 - i) (n+1 - (i+1))=n - i:=by simp only[Nat.min_def]; split<;>omega
  have:=bZ (P:=Tryz.prog) w.drew 22 22 ty 9 1 g ((i+1)) (n+1 - (i+1)) dc ⟨g,i,none⟩ (n+1 - i) sc ds Tryz.underlying22 hsz (by rw[e]; omega)
   (fun j v hj=>by rw[Addr.add_lit]; exact(hcs _).trans (hdg j v hj))
   (fun j hj=>by rw[show w.drew.cell? ⟨g,(i+1)+j,none⟩=_ from hcs _,jf (by omega)]; rfl) (fun j hj=>hfz _) h1d
  rw[e]at this
  rw[this]
  congr 2
  omega
 obtain⟨W1,hW1⟩:∃ W1,W1=w.drew.setCells g ((i+1)) ds:=⟨_,rfl⟩
 rw[← hW1]at hcp1 hs1 hs2
 have hcs1:∀ j,W1.cell? ⟨g,j,none⟩=(lay cur ((i+1)) ds)[j]?:=fun j=>by rw[cell_of_row W1 g j _ 9 (0,0) hs1]; simp
 have hvs1:∀ j,W1.cell? ⟨b,j,none⟩=us[j]?:=fun j=>by
  rw[hW1,World.cell?_setCells_out g _ _ _ _ (fun h _=>absurd h hne)]
  exact hvs j
 have hcp2:∀(W:World),(∀ x,W.cell? x=W1.cell? x)->(∀ x,W.frozen? x=W1.frozen? x)->∀ ty dc,(Builtin.copy_ #[22,22] ty #[.slice (some ⟨g,i,none⟩) (n+1 - i) dc,.slice (some ⟨b,0,none⟩) 1 cc]).run Tryz.prog W=.ok (goInt 1) (W.setCells g (i) us):=fun W hWc hWf ty dc=>by
  have e:Nat.min 1 (n+1 - i)=1:=by simp only[Nat.min_def]; split<;>omega
  have:=bZ (P:=Tryz.prog) W 22 22 ty 9 1 g (i) (n+1 - i) dc ⟨b,0,none⟩ 1 cc us Tryz.underlying22 hsz (by rw[e,hul])
   (fun j v hj=>by rw[Addr.add_lit,hWc,jx,hvs1]; exact hj)
   (fun j hj=>by rw[hWc,hcs1,jf (by rw[hll,hcl]; omega)]; rfl) (fun j hj=>by rw[hWf]; exact frozen_of_row W1 g _ _ 9 hs1) h1
  rw[e]at this
  exact this
 have hw1:kwr .i64 ((i:Int)+1)=(i:Int)+1:=by rw[IntKind.wrap_i64]; omega
 have hw2:kwr .i64 ((n:Int)+1)=(n:Int)+1:=by rw[IntKind.wrap_i64]; omega
 have hb1:(0:Int)<=(i:Int)+1:=by omega
 have hin:i<=n:=by omega
 have htn:((i:Int)+1).toNat=i+1:=by omega
 have htm:((n:Int)+1).toNat=n+1:=by omega
 have hb2:¬ (c=i+1):=by omega
 have hb3:(i:Int)<=(n:Int)+1:=by omega
 have hb4:¬ (c=i):=by omega
 have hb5:¬ ((c:Int)<(n:Int)+1):=by omega
 have hs2:=bz (show w.grownBy w.drew (some g)from⟨rfl,rfl,rfl,jw _,fun _ _ _=>rfl⟩) hs2
 obtain⟨hs3,hs4⟩:=vk us (i) W1 _ hs1 (by rw[hll,hcl]; omega)
 clear hs1 hcs1 hvs1 hfz hcs hvs hdl hdg h1d hll
 have mx:=mixed
 go_enter Tryz.func183,Tryz.ntmps183
 go_wp2_with (simp only[hov])
 go_region_law_o (refine step_copy_runI rfl _ _ 22 22 rfl (.slice (some ⟨g,(i+1),none⟩) (n+1 - (i+1)) (c - (i+1))) (.slice (some ⟨g,i,none⟩) (n+1 - i) (c - i)) (by simp[Act.eval,Act.put]) (by simp[Act.eval,Act.put]) (hcp1 _ _ _) ?_)
 go_wp2_with (at_builtin; refine wpList_copy_runI _ rfl _ _ 22 22 rfl _ _ rfl rfl (hcp2 _ (fun _=>rfl) (fun _=>rfl) _ _) ?_)
 go_ret
 subst hW1
 exact⟨rfl,hs3,bz hs2 hs4⟩
set_option maxHeartbeats 4000000 in
set_option maxRecDepth 100000 in
theorem qg0 (g n c i:Nat) (cur:List Value) (w:World) (hi:i<n) (hnc:n<=c) (hm:c<=maxLen) (hg:w.heap[g]? =some (.cells cur.toArray 9 (0,0))) (hcl:cur.length=c)
  (h1x:∀ u∈cur.take (n),u.oneCell'=true) :
  Calls Tryz.prog 181 #[.slice (some ⟨g,0,none⟩) n c,.int .i64 i,.int .i64 ((i:Int)+1)] w fun e w'=>
   e=.returned (.slice (some ⟨g,0,none⟩) (n - 1) c)/\w'.heap[g]? =some (.cells (lay (lay cur (i) ((cur.take (n)).drop ((i+1)))) ((n - 1)) zS.cells.toList).toArray 9 (0,0))/\w.grownBy w' (some g):=by
 obtain⟨i0,hi0,hz0,hzs,hzb⟩:=qe4
 unfold maxLen at hm
 have hfz:∀ j,w.frozen? ⟨g,j,none⟩=false:=fun j=>frozen_of_row w g j cur.toArray 9 hg
 have hcs:∀ j,w.cell? ⟨g,j,none⟩=cur[j]?:=fun j=>by rw[cell_of_row w g j cur.toArray 9 (0,0) hg]; simp
 obtain⟨ds,hds⟩:∃ ds,ds=(cur.take (n)).drop ((i+1)):=⟨_,rfl⟩
 have hdl:ds.length=(n - (i+1)):=by rw[hds,jM,jt,hcl]; omega
 have hdg:∀ j v,ds[j]? =some v->cur[(i+1)+j]? =some v:=fun j v hj=>by
  rw[hds,jD,jE]at hj
  split at hj
  ·exact hj
  ·cases hj
 have h1d:∀ v∈ds,v.oneCell'=true:=fun v hv=>h1x v (by rw[hds]at hv; exact List.mem_of_mem_drop hv)
 rw[← hds]
 clear hds h1x
 obtain⟨A,hA,hsrc⟩:∃ A:Addr,(if c=i+1 then some (⟨g,0,none⟩:Addr)else some ⟨g,(i+1),none⟩)=some A/\Hid (∀ t u,ds[t]? =some u->w.drew.cell? (A.add t)=some u):=by
  by_cases h:c=i+1
  ·refine⟨⟨g,0,none⟩,by simp[h],fun t u hu=>?_⟩
   have h0:ds.length=0:=by rw[hdl]; omega
   rw[List.length_eq_zero_iff.1 h0]at hu
   simp at hu
  ·refine⟨⟨g,(i+1),none⟩,by simp[h],fun t u hu=>?_⟩
   rw[Addr.add_lit]
   exact(hcs _).trans (hdg t u hu)
 have s1:Hid (ds.length=(n - (i+1)) * (1)):=by show _=_; omega
 have s2:Hid (∀ u∈ds,u.oneCell'=true):=h1d
 have s3:Hid (∀ t,t<ds.length->(w.drew.cell? ⟨g,0+i * (1)+t,none⟩).isSome=true/\w.drew.frozen? ⟨g,0+i * (1)+t,none⟩=false):=by
  intro t ht
  rw[hdl]at ht
  exact⟨by rw[show w.drew.cell? ⟨g,0+i * (1)+t,none⟩=_ from hcs _,jf (by omega)]; rfl,hfz _⟩
 obtain⟨hs1,hs2⟩:=vk ds (i) w.drew cur hg (by rw[hdl,hcl]; omega)
 have hll:=uN (c:=cur) (vs:=ds) (o:=i) (by rw[hdl,hcl]; omega)
 obtain⟨W1,hW1⟩:∃ W1,W1=w.drew.setCells g (i) ds:=⟨_,rfl⟩
 rw[← hW1]at hs1 hs2
 have hz6:zS.cells.size=1:=rfl
 have hcl2:∀ ty cc,(Builtin.clear_ #[22] ty #[.slice (some ⟨g,(n - 1),none⟩) 1 cc]).run Tryz.prog W1=.ok (.tuple #[]) (W1.setCells g ((n - 1)) zS.cells.toList):=fun ty cc=>
  CQ (P:=Tryz.prog) W1 22 9 ty _ Tryz.underlying22 (fun w=>by simp[zeroValue,typeInfo,hi0,hz0]) (fun v hv=>by simp[Value.cells,zS]at hv; rcases hv with rfl; rfl) g ((n - 1)) cc
   (fun j hj=>by rw[hz6]at hj; rw[cell_of_row W1 g _ _ 9 (0,0) hs1]; simp[uN,hll]; omega) (fun j hj=>frozen_of_row W1 g _ _ 9 hs1)
 obtain⟨hs3,hs4⟩:=vk zS.cells.toList ((n - 1)) W1 _ hs1 (by rw[hll,hcl]; show _+1<=_; omega)
 have hs2:=bz (show w.grownBy w.drew (some g)from⟨rfl,rfl,rfl,jw _,fun _ _ _=>rfl⟩) hs2
 have hW:Hid (W1=w.drew.setCells g (0+i * (1)) ds):=by
  have e:0+i * (1)=i:=by omega
  show W1=_
  rw[hW1,e]
 have e1:i+(n - (i+1))=n - 1:=by omega
 have e2:n - (n - 1)=1:=by omega
 have hw1:kwr .i64 ((i:Int)+1)=(i:Int)+1:=by rw[IntKind.wrap_i64]; omega
 have hic:i<=c:=by omega
 have hjc:i+1<=c:=by omega
 have htn:((i:Int)+1).toNat=i+1:=by omega
 have hne:¬ ((i:Int)=(i:Int)+1):=by omega
 have hle:(i:Int)<=(i:Int)+1:=by omega
 have hle2:(i:Int)+1<=(n:Int):=by omega
 obtain⟨W2,hW2⟩:∃ W2,W2=W1.setCells g ((n - 1)) zS.cells.toList:=⟨_,rfl⟩
 rw[← hW2]at hcl2 hs3 hs4
 have hend:=bz hs2 hs4
 replace hs3:Hid _:=hs3
 replace hend:Hid _:=hend
 clear hs1 hs2 hs4 hll hW1 hW2 hz6 hfz hcs hdl hdg h1d
 have mx:=mixed
 have hb1:(0:Int)<=(i:Int)+1:=by omega
 go_enter Tryz.func181,Tryz.ntmps181
 go_wp2_with fail
 go_region_law_o (refine step_append_room rfl (.tmp 22) (.tmp 25) 22 rfl 9 i0 1 Tryz.underlying22 hi0 hzs g 0 i c (by simp[Act.eval,Act.put]) A (n - (i+1)) (c - (i+1)) ds (by simp[Act.eval,Act.put]) s1.out hsrc.out s2.out (by omega) s3.out ?_; rw[← hW.out])
 go_wp2
 go_ret
 exact⟨rfl,hs3,hend⟩
set_option maxHeartbeats 4000000 in
set_option maxRecDepth 100000 in
theorem Ts (g n i b cc:Nat) (cur us:List Value) (w:World) (hi:i<n) (hbig:(n+1) * 16<=140737488355328) (hg:w.heap[g]? =some (.cells cur.toArray 9 (0,0))) (hcl:cur.length=n)
  (hul:us.length=1) (tb:TypeId) (hbk:w.heap[b]? =some (.cells us.toArray tb (0,0))) (h1x:∀ u∈cur,u.oneCell'=true) (h1:∀ u∈us,u.oneCell'=true) :
  Calls Tryz.prog 183 #[.slice (some ⟨g,0,none⟩) n n,.int .i64 i,.slice (some ⟨b,0,none⟩) 1 cc] w fun e w'=>∃(G:Nat) (row:List Value),n+1<=G/\G<=maxLen/\row.length=G * 1/\row.take (i)=cur.take (i) /\
   e=.returned (.slice (some ⟨w.heap.size,0,none⟩) (n+1) G)/\w'.heap[w.heap.size]? =some (.cells (lay (lay row (i) us) ((i+1)) (cur.drop (i))).toArray 9 (0,0))/\w.grownBy w' none:=by
 obtain⟨i0,hi0,hz0,hzs,hzb⟩:=qe4
 have hz1:¬ ((1:Int)=0):=by omega
 have hz2:¬ ((i:Int)=(n:Int)):=by omega
 have hz3:(n:Int)<(n:Int)+1:=by omega
 have hsz:(Tryz.prog.info? 9).map (·.size)=some 1:=by rw[hi0]; simp[hzs]
 have hgw:g<w.heap.size:=(jH.1 hg).1
 have hbw:b<w.heap.size:=(jH.1 hbk).1
 have hcs:∀ j,w.cell? ⟨g,j,none⟩=cur[j]?:=fun j=>by rw[cell_of_row w g j cur.toArray 9 (0,0) hg]; simp
 have hvs:∀ j,w.cell? ⟨b,j,none⟩=us[j]?:=fun j=>by rw[cell_of_row w b j us.toArray tb (0,0) hbk]; simp
 have hkk:(n:Int)+1 - (i:Int)=((n+1 - i:Nat):Int):=by omega
 have hik:i+(n+1 - i)=n+1:=by omega
 have hz6:zS.cells.size=1:=rfl
 have hold:(Builtin.firstCells i0.size i (.slice (some ⟨g,0,none⟩) i n)).run Tryz.prog w.drew=.ok (cur.take (i)).toArray w.drew:=by
  rw[hzs]
  exact run_firstCells_some w.drew 1 i ⟨g,0,none⟩ i n (cur.take (i)) (by rw[jt]; omega) (fun j v hj=>by
   rw[Addr.add_lit,jx]
   rw[jE]at hj
   split at hj
   ·exact(hcs j).trans hj
   ·cases hj)
 have hrz:∀ ty,(Builtin.append_ #[22,3] ty #[.slice (some ⟨g,0,none⟩) i n,.int .i64 ((n:Int)+1 - (i:Int))]).run Tryz.prog w =
   .ok (.slice (some ⟨w.heap.size,0,none⟩) (n+1) (grownCap w (n+1) n 9)) (w.drew.alloc (.cells ((cur.take (i)).toArray++Builtin.zeroCells zS.cells (n+1 - i)++Builtin.zeroCells zS.cells (grownCap w (n+1) n 9 - (n+1))) 9)):=fun ty=>by
  have h:=Lib.run_append_grow_zeros w 22 3 ty 9 i0 _ .i64 .i64 Tryz.underlying22 Tryz.underlying3 hi0 hz0 (some ⟨g,0,none⟩) i n (cur.take (i)) hold (n+1 - i) (by omega) (by omega) (by omega) (by omega) (by rw[hzb]; omega) (by rw[hzb,hik]; exact growslice_fits (by omega) hbig)
  rw[hik]at h
  rw[hkk]
  exact h
 have hGn:n+1<=grownCap w (n+1) n 9:=grownCap_ge w _ _ _
 have hGm:grownCap w (n+1) n 9<=maxLen:=grownCap_le_maxLen w (n+1) n 9 (by unfold maxLen; omega)
 generalize grownCap w (n+1) n 9=G at *
 obtain⟨row,hrow⟩:∃ row:List Value,row=cur.take (i)++(Builtin.zeroCells zS.cells (n+1 - i)).toList++(Builtin.zeroCells zS.cells (G - (n+1))).toList:=⟨_,rfl⟩
 have hRA:(cur.take (i)).toArray++Builtin.zeroCells zS.cells (n+1 - i)++Builtin.zeroCells zS.cells (G - (n+1))=row.toArray:=by rw[hrow]; apply Array.ext'; simp
 rw[hRA]at hrz
 have hRl:row.length=G * 1:=by
  rw[hrow]
  simp only[jb,jt,jK,size_zeroCells,hz6]
  omega
 have hRt:row.take (i)=cur.take (i):=by
  rw[hrow,js]
  exact List.take_left' (by rw[jt]; omega)
 clear hrow hRA hold
 obtain⟨W1,hW1⟩:∃ W1,W1=w.drew.alloc (.cells row.toArray 9):=⟨_,rfl⟩
 rw[← hW1]at hrz
 have hN:∀ j,W1.cell? ⟨w.heap.size,j,none⟩=row[j]?:=fun j=>by
  rw[hW1,World.cell?_alloc_at (w:=w.drew) row.toArray _ w.heap.size j rfl]; simp
 have hNf:∀ j,W1.frozen? ⟨w.heap.size,j,none⟩=false:=fun j=>by rw[hW1]; exact World.frozen?_alloc_at (w:=w.drew) row.toArray _ w.heap.size j rfl
 have hOb:∀ j,W1.cell? ⟨g,j,none⟩=cur[j]?:=fun j=>by rw[hW1,World.cell?_alloc_past (w:=w.drew) _ g j hgw]; exact hcs j
 have hOv:∀ j,W1.cell? ⟨b,j,none⟩=us[j]?:=fun j=>by rw[hW1,World.cell?_alloc_past (w:=w.drew) _ b j hbw]; exact hvs j
 have hcpA:∀(W:World),(∀ x,W.cell? x=W1.cell? x)->(∀ x,W.frozen? x=W1.frozen? x)->∀ ty dc,(Builtin.copy_ #[22,22] ty #[.slice (some ⟨w.heap.size,i,none⟩) (n+1 - i) dc,.slice (some ⟨b,0,none⟩) 1 cc]).run Tryz.prog W=.ok (goInt 1) (W.setCells w.heap.size (i) us):=fun W hWc hWf ty dc=>by
  have e:Nat.min 1 (n+1 - i)=1:=by simp only[Nat.min_def]; split<;>omega
  have:=bZ (P:=Tryz.prog) W 22 22 ty 9 1 w.heap.size (i) (n+1 - i) dc ⟨b,0,none⟩ 1 cc us Tryz.underlying22 hsz (by rw[e,hul])
   (fun j v hj=>by rw[Addr.add_lit,hWc,jx,hOv]; exact hj)
   (fun j hj=>by rw[hWc,hN,jf (by rw[hRl]; omega)]; rfl) (fun j hj=>by rw[hWf]; exact hNf _) h1
  rw[e]at this
  exact this
 have hdl:(cur.drop (i)).length=(n - i):=by rw[jM,hcl]<;>omega
 have hne:g≠w.heap.size:=by omega
 have hcpB:∀(W:World),(∀ x,W.cell? x=(W1.setCells w.heap.size (i) us).cell? x)->(∀ x,W.frozen? x=(W1.setCells w.heap.size (i) us).frozen? x)->∀ ty dc sc,(Builtin.copy_ #[22,22] ty #[.slice (some ⟨w.heap.size,(i+1),none⟩) (n+1 - (i+1)) dc,.slice (some ⟨g,i,none⟩) (n - i) sc]).run Tryz.prog W=.ok (goInt ((n - i:Nat):Int)) (W.setCells w.heap.size ((i+1)) (cur.drop (i))):=fun W hWc hWf ty dc sc=>by
  have e:Nat.min (n - i) (n+1 - (i+1))=n - i:=by simp only[Nat.min_def]; split<;>omega
  have:=bZ (P:=Tryz.prog) W 22 22 ty 9 1 w.heap.size ((i+1)) (n+1 - (i+1)) dc ⟨g,i,none⟩ (n - i) sc (cur.drop (i)) Tryz.underlying22 hsz (by rw[e,hdl]<;>omega)
   (fun j v hj=>by
    rw[Addr.add_lit,hWc,World.cell?_setCells_out _ _ _ _ _ (fun h _=>absurd h hne),hOb]
    rwa [jD]at hj)
   (fun j hj=>by rw[hWc]; exact isSome_setCells _ _ _ _ (fun t ht=>by rw[hN,jf (by rw[hRl]; omega)]; rfl) _ (by rw[hN,jf (by rw[hRl]; omega)]; rfl))
   (fun j hj=>by rw[hWf,World.frozen?_setCells]; exact hNf _) (fun v hv=>h1x v (List.mem_of_mem_drop hv))
  rw[e]at this
  exact this
 have hs0:W1.heap[w.heap.size]? =some (.cells row.toArray 9 (0,0)):=by rw[hW1]; exact Array.getElem?_push_size
 have hg0:w.grownBy W1 none:=by rw[hW1]; exact bz (show w.grownBy w.drew none from⟨rfl,rfl,rfl,jw _,fun _ _ _=>rfl⟩) (World.grownBy_alloc w.drew _ none)
 have hend:∀ W2 W3:World,W2.heap=W1.heap->W2.os=W1.os->W2.tape=W1.tape->W2.output=W1.output->W3.heap=(W2.setCells w.heap.size (i) us).heap->W3.os=(W2.setCells w.heap.size (i) us).os->W3.tape=(W2.setCells w.heap.size (i) us).tape->W3.output=(W2.setCells w.heap.size (i) us).output ->
   (W3.setCells w.heap.size ((i+1)) (cur.drop (i))).heap[w.heap.size]? =some (.cells (lay (lay row (i) us) ((i+1)) (cur.drop (i))).toArray 9 (0,0))/\w.grownBy (W3.setCells w.heap.size ((i+1)) (cur.drop (i))) none:=by
  intro W2 W3 e1 e2 e3 e4 f1 f2 f3 f4
  obtain⟨a1,a2⟩:=vk us (i) W2 row (by rw[e1]; exact hs0) (by rw[hul,hRl]; omega)
  rw[← f1]at a1
  obtain⟨b1,b2⟩:=vk (cur.drop (i)) ((i+1)) W3 _ a1 (by rw[uN (by rw[hul,hRl]; omega),hdl,hRl]; omega)
  refine⟨b1,⟨?_,?_,?_,?_,fun k hk _=>?_⟩⟩
  ·rw[b2.os,f2,a2.os,e2]; exact hg0.os
  ·rw[b2.tape,f3,a2.tape,e3]; exact hg0.tape
  ·rw[b2.output,f4,a2.output,e4]; exact hg0.output
  ·refine Nat.le_trans hg0.size (Nat.le_trans ?_ b2.size)
   rw[f1,← e1]; exact a2.size
  ·have hk1:=Nat.lt_of_lt_of_le hk hg0.size
   have hk2:k<W2.heap.size:=by rw[e1]; exact hk1
   have hk3:k<W3.heap.size:=by rw[f1]; exact Nat.lt_of_lt_of_le hk2 a2.size
   have hkn:some k≠some w.heap.size:=fun e=>by cases e; omega
   rw[b2.block k hk3 hkn,f1,a2.block k hk2 hkn,e1]
   exact hg0.block k hk (by simp)
 have hGi:¬ (G=i):=by omega
 have hGim:¬ (G=i+1):=by omega
 have hci:¬ (n=i):=by omega
 unfold maxLen at hGm
 have hG63:G<=9223372036854775807:=by omega
 have hw1:kwr .i64 ((i:Int)+1)=(i:Int)+1:=by rw[IntKind.wrap_i64]; omega
 have hw2:kwr .i64 ((n:Int)+1)=(n:Int)+1:=by rw[IntKind.wrap_i64]; omega
 have hb1:(0:Int)<=(i:Int)+1:=by omega
 have hin:i<=n:=by omega
 have htn:((i:Int)+1).toNat=i+1:=by omega
 have hb3:(i:Int)<=(n:Int):=by omega
 subst hW1
 have hE1:∀ x,((w.alloc (.cells row.toArray 9)).drew).cell? x=(w.drew.alloc (.cells row.toArray 9)).cell? x:=fun x=>rfl
 have hE2:∀ x,((w.alloc (.cells row.toArray 9)).drew).frozen? x=(w.drew.alloc (.cells row.toArray 9)).frozen? x:=fun x=>rfl
 have hF1:∀ x,(((w.alloc (.cells row.toArray 9)).drew.setCells w.heap.size (i) us).drew).cell? x=((w.drew.alloc (.cells row.toArray 9)).setCells w.heap.size (i) us).cell? x:=fun x=>rfl
 have hF2:∀ x,(((w.alloc (.cells row.toArray 9)).drew.setCells w.heap.size (i) us).drew).frozen? x=((w.drew.alloc (.cells row.toArray 9)).setCells w.heap.size (i) us).frozen? x:=fun x=>rfl
 have mx:=mixed
 replace hend:Hid _:=hend
 replace hRt:Hid _:=hRt
 clear hz6 hkk hik hN hNf hOb hOv hs0 hg0 hdl hcs hvs hg hbk hcl hul h1x h1
 go_enter Tryz.func183,Tryz.ntmps183
 go_wp2_with (first
  | (at_builtin; refine Lib.wpList_append_run _ rfl _ _ _ _ rfl _ _ rfl rfl _ _ (hrz _) ?_)
  | (at_builtin; refine wpList_copy_runI _ rfl _ _ 22 22 rfl _ _ rfl rfl (hcpA _ hE1 hE2 _ _) ?_)
  | (at_builtin; refine wpList_copy_runI _ rfl _ _ 22 22 rfl _ _ rfl rfl (hcpB _ (fun _=>rfl) (fun _=>rfl) _ _ _) ?_))
 go_region_law_o (refine step_copy_runI rfl _ _ 22 22 rfl (.slice (some ⟨w.heap.size,(i+1),none⟩) (n+1 - (i+1)) (G - (i+1))) (.slice (some ⟨g,i,none⟩) (n - i) (n - i)) (by simp[Act.eval,Act.put]) (by simp[Act.eval,Act.put]) (hcpB _ hF1 hF2 3 (G - (i+1)) (n - i)) ?_)
 go_wp2
 go_ret
 exact⟨G,row,by omega,by unfold maxLen; omega,hRl,hRt,rfl,(hend ((w.alloc (.cells row.toArray 9)).drew) ((((w.alloc (.cells row.toArray 9)).drew).setCells w.heap.size (i) us).drew) rfl rfl rfl rfl rfl rfl rfl rfl).1,(hend ((w.alloc (.cells row.toArray 9)).drew) ((((w.alloc (.cells row.toArray 9)).drew).setCells w.heap.size (i) us).drew) rfl rfl rfl rfl rfl rfl rfl rfl).2⟩
def zV:Value:=.agg #[.int .i64 0,.bool false,.int .i64 0,.string ⟨#[]⟩,.slice none 0 0,.slice none 0 0]
theorem qd3:∃ i0:TypeInfo,Tryz.prog.info? 35=some i0/\i0.zero=some zV/\i0.size=6/\i0.bytes=88:=by
 have h:(Tryz.prog.info? 35).map (fun i=>(i.size,i.bytes,i.zero))=some (6,88,some zV):=by kernel_rfl
 obtain⟨i,h1,h2⟩:=Option.map_eq_some_iff.1 h
 simp only[Prod.mk.injEq]at h2
 exact⟨i,h1,h2.2.2,h2.1,h2.2.1⟩
set_option maxHeartbeats 4000000 in
set_option maxRecDepth 100000 in
theorem Tv (base g n c i b cc:Nat) (cur us:List Value) (w:World) (hi:i<n) (hnc:n+1<=c) (hm:c<=maxLen) (hg:w.heap[g]? =some (.cells cur.toArray 35 (0,0))) (hcl:cur.length=c * 6)
  (hul:us.length=6) (tb:TypeId) (hbk:w.heap[b]? =some (.cells us.toArray tb (0,0))) (hne:b≠g) (h1x:∀ u∈cur.take (n * 6),u.oneCell'=true) (h1:∀ u∈us,u.oneCell'=true) :
  Calls Tryz.prog 184 #[.slice (some ⟨g,0,none⟩) n c,.int .i64 i,.slice (some ⟨b,0,none⟩) 1 cc] w fun e w'=>
   e=.returned (.slice (some ⟨g,0,none⟩) (n+1) c)/\w'.heap[g]? =some (.cells (lay (lay cur ((i+1) * 6) ((cur.take (n * 6)).drop (i * 6))) (i * 6) us).toArray 35 (0,0))/\w.grownBy w' (some g):=by
 obtain⟨i0,hi0,hz0,hzs,hzb⟩:=qd3
 unfold maxLen at hm
 have hz1:¬ ((1:Int)=0):=by omega
 have hz2:¬ ((i:Int)=(n:Int)):=by omega
 have hsz:(Tryz.prog.info? 35).map (·.size)=some 6:=by rw[hi0]; simp[hzs]
 have hfz:∀ j,w.frozen? ⟨g,j,none⟩=false:=fun j=>frozen_of_row w g j cur.toArray 35 hg
 have hcs:∀ j,w.cell? ⟨g,j,none⟩=cur[j]?:=fun j=>by rw[cell_of_row w g j cur.toArray 35 (0,0) hg]; simp
 have hvs:∀ j,w.cell? ⟨b,j,none⟩=us[j]?:=fun j=>by rw[cell_of_row w b j us.toArray tb (0,0) hbk]; simp
 have hov:∀ o lb cb,(callFunc 224 #[.slice (some ⟨b,0,none⟩) 1 cc,.slice (some ⟨g,o,none⟩) lb cb]).run Tryz.prog w=.ok (.value (.bool false)) w:=fun o lb cb=>by
  rw[run_callFunc_extern Tryz.func224 (by kernel_rfl) (by kernel_rfl) (by kernel_rfl) (e:=Extern.SlicesOverlaps.overlaps #[23,23] #[4]) (by kernel_rfl),
   Lib.run_overlaps_apart w 23 4 35 Tryz.underlying23 6 (fun _=>by kernel_rfl) ⟨b,0,none⟩ ⟨g,o,none⟩ 1 cc lb cb hne tb 35 us.length cur.length (by simp[World.shape?,hbk]) (by simp[World.shape?,hg]) (by rw[hcl]; omega) (frozen_of_row w b _ us.toArray tb hbk) (frozen_of_row w b _ us.toArray tb hbk)]
  rfl
 obtain⟨ds,hds⟩:∃ ds,ds=(cur.take (n * 6)).drop (i * 6):=⟨_,rfl⟩
 have hdl:ds.length=(n - i) * 6:=by rw[hds,jM,jt,hcl]; omega
 have hdg:∀ j v,ds[j]? =some v->cur[i * 6+j]? =some v:=fun j v hj=>by
  rw[hds,jD,jE]at hj
  split at hj
  ·exact hj
  ·cases hj
 have h1d:∀ v∈ds,v.oneCell'=true:=fun v hv=>h1x v (by rw[hds]at hv; exact List.mem_of_mem_drop hv)
 rw[← hds]
 clear hds h1x
 obtain⟨hs1,hs2⟩:=vk ds ((i+1) * 6) w.drew cur hg (by rw[hdl,hcl]; omega)
 have hll:=uN (c:=cur) (vs:=ds) (o:=(i+1) * 6) (by rw[hdl,hcl]; omega)
 have hcp1:∀ ty dc sc,(Builtin.copy_ #[23,23] ty #[.slice (some ⟨g,(i+1) * 6,none⟩) (n+1 - (i+1)) dc,.slice (some ⟨g,i * 6,none⟩) (n+1 - i) sc]).run Tryz.prog w.drew=.ok (goInt (n - i)) (w.drew.setCells g ((i+1) * 6) ds):=fun ty dc sc=>by
  have e:Nat.min (n+1 - i) (n+1 - (i+1))=n - i:=by simp only[Nat.min_def]; split<;>omega
  have:=bZ (P:=Tryz.prog) w.drew 23 23 ty 35 6 g ((i+1) * 6) (n+1 - (i+1)) dc ⟨g,i * 6,none⟩ (n+1 - i) sc ds Tryz.underlying23 hsz (by rw[e]; omega)
   (fun j v hj=>by rw[Addr.add_lit]; exact(hcs _).trans (hdg j v hj))
   (fun j hj=>by rw[show w.drew.cell? ⟨g,(i+1) * 6+j,none⟩=_ from hcs _,jf (by omega)]; rfl) (fun j hj=>hfz _) h1d
  rw[e]at this
  rw[this]
  congr 2
  omega
 obtain⟨W1,hW1⟩:∃ W1,W1=w.drew.setCells g ((i+1) * 6) ds:=⟨_,rfl⟩
 rw[← hW1]at hcp1 hs1 hs2
 have hcs1:∀ j,W1.cell? ⟨g,j,none⟩=(lay cur ((i+1) * 6) ds)[j]?:=fun j=>by rw[cell_of_row W1 g j _ 35 (0,0) hs1]; simp
 have hvs1:∀ j,W1.cell? ⟨b,j,none⟩=us[j]?:=fun j=>by
  rw[hW1,World.cell?_setCells_out g _ _ _ _ (fun h _=>absurd h hne)]
  exact hvs j
 have hcp2:∀(W:World),(∀ x,W.cell? x=W1.cell? x)->(∀ x,W.frozen? x=W1.frozen? x)->∀ ty dc,(Builtin.copy_ #[23,23] ty #[.slice (some ⟨g,i * 6,none⟩) (n+1 - i) dc,.slice (some ⟨b,0,none⟩) 1 cc]).run Tryz.prog W=.ok (goInt 1) (W.setCells g (i * 6) us):=fun W hWc hWf ty dc=>by
  have e:Nat.min 1 (n+1 - i)=1:=by simp only[Nat.min_def]; split<;>omega
  have:=bZ (P:=Tryz.prog) W 23 23 ty 35 6 g (i * 6) (n+1 - i) dc ⟨b,0,none⟩ 1 cc us Tryz.underlying23 hsz (by rw[e,hul])
   (fun j v hj=>by rw[Addr.add_lit,hWc,jx,hvs1]; exact hj)
   (fun j hj=>by rw[hWc,hcs1,jf (by rw[hll,hcl]; omega)]; rfl) (fun j hj=>by rw[hWf]; exact frozen_of_row W1 g _ _ 35 hs1) h1
  rw[e]at this
  exact this
 have hw1:kwr .i64 ((i:Int)+1)=(i:Int)+1:=by rw[IntKind.wrap_i64]; omega
 have hw2:kwr .i64 ((n:Int)+1)=(n:Int)+1:=by rw[IntKind.wrap_i64]; omega
 have hb1:(0:Int)<=(i:Int)+1:=by omega
 have hin:i<=n:=by omega
 have htn:((i:Int)+1).toNat=i+1:=by omega
 have htm:((n:Int)+1).toNat=n+1:=by omega
 have hb2:¬ (c=i+1):=by omega
 have hb3:(i:Int)<=(n:Int)+1:=by omega
 have hb4:¬ (c=i):=by omega
 have hb5:¬ ((c:Int)<(n:Int)+1):=by omega
 have hs2:=bz (show w.grownBy w.drew (some g)from⟨rfl,rfl,rfl,jw _,fun _ _ _=>rfl⟩) hs2
 obtain⟨hs3,hs4⟩:=vk us (i * 6) W1 _ hs1 (by rw[hll,hcl]; omega)
 clear hs1 hcs1 hvs1 hfz hcs hvs hdl hdg h1d hll
 have mx:=mixed
 go_enter Tryz.func184,Tryz.ntmps184
 go_wp2_with (simp only[hov])
 go_region_law_o (refine step_copy_runI rfl _ _ 23 23 rfl (.slice (some ⟨g,(i+1) * 6,none⟩) (n+1 - (i+1)) (c - (i+1))) (.slice (some ⟨g,i * 6,none⟩) (n+1 - i) (c - i)) (by simp[Act.eval,Act.put]) (by simp[Act.eval,Act.put]) (hcp1 _ _ _) ?_)
 go_wp2_with (at_builtin; refine wpList_copy_runI _ rfl _ _ 23 23 rfl _ _ rfl rfl (hcp2 _ (fun _=>rfl) (fun _=>rfl) _ _) ?_)
 go_ret
 subst hW1
 exact⟨rfl,hs3,bz hs2 hs4⟩
set_option maxHeartbeats 4000000 in
set_option maxRecDepth 100000 in
theorem qg1 (g n c i:Nat) (cur:List Value) (w:World) (hi:i<n) (hnc:n<=c) (hm:c<=maxLen) (hg:w.heap[g]? =some (.cells cur.toArray 35 (0,0))) (hcl:cur.length=c * 6)
  (h1x:∀ u∈cur.take (n * 6),u.oneCell'=true) :
  Calls Tryz.prog 182 #[.slice (some ⟨g,0,none⟩) n c,.int .i64 i,.int .i64 ((i:Int)+1)] w fun e w'=>
   e=.returned (.slice (some ⟨g,0,none⟩) (n - 1) c)/\w'.heap[g]? =some (.cells (lay (lay cur (i * 6) ((cur.take (n * 6)).drop ((i+1) * 6))) ((n - 1) * 6) zV.cells.toList).toArray 35 (0,0))/\w.grownBy w' (some g):=by
 obtain⟨i0,hi0,hz0,hzs,hzb⟩:=qd3
 unfold maxLen at hm
 have hfz:∀ j,w.frozen? ⟨g,j,none⟩=false:=fun j=>frozen_of_row w g j cur.toArray 35 hg
 have hcs:∀ j,w.cell? ⟨g,j,none⟩=cur[j]?:=fun j=>by rw[cell_of_row w g j cur.toArray 35 (0,0) hg]; simp
 obtain⟨ds,hds⟩:∃ ds,ds=(cur.take (n * 6)).drop ((i+1) * 6):=⟨_,rfl⟩
 have hdl:ds.length=(n - (i+1)) * 6:=by rw[hds,jM,jt,hcl]; omega
 have hdg:∀ j v,ds[j]? =some v->cur[(i+1) * 6+j]? =some v:=fun j v hj=>by
  rw[hds,jD,jE]at hj
  split at hj
  ·exact hj
  ·cases hj
 have h1d:∀ v∈ds,v.oneCell'=true:=fun v hv=>h1x v (by rw[hds]at hv; exact List.mem_of_mem_drop hv)
 rw[← hds]
 clear hds h1x
 obtain⟨A,hA,hsrc⟩:∃ A:Addr,(if c=i+1 then some (⟨g,0,none⟩:Addr)else some ⟨g,(i+1) * 6,none⟩)=some A/\Hid (∀ t u,ds[t]? =some u->w.drew.cell? (A.add t)=some u):=by
  by_cases h:c=i+1
  ·refine⟨⟨g,0,none⟩,by simp[h],fun t u hu=>?_⟩
   have h0:ds.length=0:=by rw[hdl]; omega
   rw[List.length_eq_zero_iff.1 h0]at hu
   simp at hu
  ·refine⟨⟨g,(i+1) * 6,none⟩,by simp[h],fun t u hu=>?_⟩
   rw[Addr.add_lit]
   exact(hcs _).trans (hdg t u hu)
 have s1:Hid (ds.length=(n - (i+1)) * (6)):=by show _=_; omega
 have s2:Hid (∀ u∈ds,u.oneCell'=true):=h1d
 have s3:Hid (∀ t,t<ds.length->(w.drew.cell? ⟨g,0+i * (6)+t,none⟩).isSome=true/\w.drew.frozen? ⟨g,0+i * (6)+t,none⟩=false):=by
  intro t ht
  rw[hdl]at ht
  exact⟨by rw[show w.drew.cell? ⟨g,0+i * (6)+t,none⟩=_ from hcs _,jf (by omega)]; rfl,hfz _⟩
 obtain⟨hs1,hs2⟩:=vk ds (i * 6) w.drew cur hg (by rw[hdl,hcl]; omega)
 have hll:=uN (c:=cur) (vs:=ds) (o:=i * 6) (by rw[hdl,hcl]; omega)
 obtain⟨W1,hW1⟩:∃ W1,W1=w.drew.setCells g (i * 6) ds:=⟨_,rfl⟩
 rw[← hW1]at hs1 hs2
 have hz6:zV.cells.size=6:=rfl
 have hcl2:∀ ty cc,(Builtin.clear_ #[23] ty #[.slice (some ⟨g,(n - 1) * 6,none⟩) 1 cc]).run Tryz.prog W1=.ok (.tuple #[]) (W1.setCells g ((n - 1) * 6) zV.cells.toList):=fun ty cc=>
  CQ (P:=Tryz.prog) W1 23 35 ty _ Tryz.underlying23 (fun w=>by simp[zeroValue,typeInfo,hi0,hz0]) (fun v hv=>by simp[Value.cells,zV]at hv; rcases hv with rfl|rfl|rfl|rfl|rfl|rfl<;>rfl) g ((n - 1) * 6) cc
   (fun j hj=>by rw[hz6]at hj; rw[cell_of_row W1 g _ _ 35 (0,0) hs1]; simp[uN,hll]; omega) (fun j hj=>frozen_of_row W1 g _ _ 35 hs1)
 obtain⟨hs3,hs4⟩:=vk zV.cells.toList ((n - 1) * 6) W1 _ hs1 (by rw[hll,hcl]; show _+6<=_; omega)
 have hs2:=bz (show w.grownBy w.drew (some g)from⟨rfl,rfl,rfl,jw _,fun _ _ _=>rfl⟩) hs2
 have hW:Hid (W1=w.drew.setCells g (0+i * (6)) ds):=by
  have e:0+i * (6)=i * 6:=by omega
  show W1=_
  rw[hW1,e]
 have e1:i+(n - (i+1))=n - 1:=by omega
 have e2:n - (n - 1)=1:=by omega
 have hw1:kwr .i64 ((i:Int)+1)=(i:Int)+1:=by rw[IntKind.wrap_i64]; omega
 have hic:i<=c:=by omega
 have hjc:i+1<=c:=by omega
 have htn:((i:Int)+1).toNat=i+1:=by omega
 have hne:¬ ((i:Int)=(i:Int)+1):=by omega
 have hle:(i:Int)<=(i:Int)+1:=by omega
 have hle2:(i:Int)+1<=(n:Int):=by omega
 obtain⟨W2,hW2⟩:∃ W2,W2=W1.setCells g ((n - 1) * 6) zV.cells.toList:=⟨_,rfl⟩
 rw[← hW2]at hcl2 hs3 hs4
 have hend:=bz hs2 hs4
 replace hs3:Hid _:=hs3
 replace hend:Hid _:=hend
 clear hs1 hs2 hs4 hll hW1 hW2 hz6 hfz hcs hdl hdg h1d
 have mx:=mixed
 have hb1:(0:Int)<=(i:Int)+1:=by omega
 go_enter Tryz.func182,Tryz.ntmps182
 go_wp2_with fail
 go_region_law_o (refine step_append_room rfl (.tmp 22) (.tmp 25) 23 rfl 35 i0 6 Tryz.underlying23 hi0 hzs g 0 i c (by simp[Act.eval,Act.put]) A (n - (i+1)) (c - (i+1)) ds (by simp[Act.eval,Act.put]) s1.out hsrc.out s2.out (by omega) s3.out ?_; rw[← hW.out])
 go_wp2
 go_ret
 exact⟨rfl,hs3,hend⟩
set_option maxHeartbeats 4000000 in
set_option maxRecDepth 100000 in
theorem Tu (g n i b cc:Nat) (cur us:List Value) (w:World) (hi:i<n) (hbig:(n+1) * 88<=140737488355328) (hg:w.heap[g]? =some (.cells cur.toArray 35 (0,0))) (hcl:cur.length=n * 6)
  (hul:us.length=6) (tb:TypeId) (hbk:w.heap[b]? =some (.cells us.toArray tb (0,0))) (h1x:∀ u∈cur,u.oneCell'=true) (h1:∀ u∈us,u.oneCell'=true) :
  Calls Tryz.prog 184 #[.slice (some ⟨g,0,none⟩) n n,.int .i64 i,.slice (some ⟨b,0,none⟩) 1 cc] w fun e w'=>∃(G:Nat) (row:List Value),n+1<=G/\G<=maxLen/\row.length=G * 6/\row.take (i * 6)=cur.take (i * 6) /\
   e=.returned (.slice (some ⟨w.heap.size,0,none⟩) (n+1) G)/\w'.heap[w.heap.size]? =some (.cells (lay (lay row (i * 6) us) ((i+1) * 6) (cur.drop (i * 6))).toArray 35 (0,0))/\w.grownBy w' none:=by
 obtain⟨i0,hi0,hz0,hzs,hzb⟩:=qd3
 have hz1:¬ ((1:Int)=0):=by omega
 have hz2:¬ ((i:Int)=(n:Int)):=by omega
 have hz3:(n:Int)<(n:Int)+1:=by omega
 have hsz:(Tryz.prog.info? 35).map (·.size)=some 6:=by rw[hi0]; simp[hzs]
 have hgw:g<w.heap.size:=(jH.1 hg).1
 have hbw:b<w.heap.size:=(jH.1 hbk).1
 have hcs:∀ j,w.cell? ⟨g,j,none⟩=cur[j]?:=fun j=>by rw[cell_of_row w g j cur.toArray 35 (0,0) hg]; simp
 have hvs:∀ j,w.cell? ⟨b,j,none⟩=us[j]?:=fun j=>by rw[cell_of_row w b j us.toArray tb (0,0) hbk]; simp
 have hkk:(n:Int)+1 - (i:Int)=((n+1 - i:Nat):Int):=by omega
 have hik:i+(n+1 - i)=n+1:=by omega
 have hz6:zV.cells.size=6:=rfl
 have hold:(Builtin.firstCells i0.size i (.slice (some ⟨g,0,none⟩) i n)).run Tryz.prog w.drew=.ok (cur.take (i * 6)).toArray w.drew:=by
  rw[hzs]
  exact run_firstCells_some w.drew 6 i ⟨g,0,none⟩ i n (cur.take (i * 6)) (by rw[jt]; omega) (fun j v hj=>by
   rw[Addr.add_lit,jx]
   rw[jE]at hj
   split at hj
   ·exact(hcs j).trans hj
   ·cases hj)
 have hrz:∀ ty,(Builtin.append_ #[23,3] ty #[.slice (some ⟨g,0,none⟩) i n,.int .i64 ((n:Int)+1 - (i:Int))]).run Tryz.prog w =
   .ok (.slice (some ⟨w.heap.size,0,none⟩) (n+1) (grownCap w (n+1) n 35)) (w.drew.alloc (.cells ((cur.take (i * 6)).toArray++Builtin.zeroCells zV.cells (n+1 - i)++Builtin.zeroCells zV.cells (grownCap w (n+1) n 35 - (n+1))) 35)):=fun ty=>by
  have h:=Lib.run_append_grow_zeros w 23 3 ty 35 i0 _ .i64 .i64 Tryz.underlying23 Tryz.underlying3 hi0 hz0 (some ⟨g,0,none⟩) i n (cur.take (i * 6)) hold (n+1 - i) (by omega) (by omega) (by omega) (by omega) (by rw[hzb]; omega) (by rw[hzb,hik]; exact growslice_fits (by omega) hbig)
  rw[hik]at h
  rw[hkk]
  exact h
 have hGn:n+1<=grownCap w (n+1) n 35:=grownCap_ge w _ _ _
 have hGm:grownCap w (n+1) n 35<=maxLen:=grownCap_le_maxLen w (n+1) n 35 (by unfold maxLen; omega)
 generalize grownCap w (n+1) n 35=G at *
 obtain⟨row,hrow⟩:∃ row:List Value,row=cur.take (i * 6)++(Builtin.zeroCells zV.cells (n+1 - i)).toList++(Builtin.zeroCells zV.cells (G - (n+1))).toList:=⟨_,rfl⟩
 have hRA:(cur.take (i * 6)).toArray++Builtin.zeroCells zV.cells (n+1 - i)++Builtin.zeroCells zV.cells (G - (n+1))=row.toArray:=by rw[hrow]; apply Array.ext'; simp
 rw[hRA]at hrz
 have hRl:row.length=G * 6:=by
  rw[hrow]
  simp only[jb,jt,jK,size_zeroCells,hz6]
  omega
 have hRt:row.take (i * 6)=cur.take (i * 6):=by
  rw[hrow,js]
  exact List.take_left' (by rw[jt]; omega)
 clear hrow hRA hold
 obtain⟨W1,hW1⟩:∃ W1,W1=w.drew.alloc (.cells row.toArray 35):=⟨_,rfl⟩
 rw[← hW1]at hrz
 have hN:∀ j,W1.cell? ⟨w.heap.size,j,none⟩=row[j]?:=fun j=>by
  rw[hW1,World.cell?_alloc_at (w:=w.drew) row.toArray _ w.heap.size j rfl]; simp
 have hNf:∀ j,W1.frozen? ⟨w.heap.size,j,none⟩=false:=fun j=>by rw[hW1]; exact World.frozen?_alloc_at (w:=w.drew) row.toArray _ w.heap.size j rfl
 have hOb:∀ j,W1.cell? ⟨g,j,none⟩=cur[j]?:=fun j=>by rw[hW1,World.cell?_alloc_past (w:=w.drew) _ g j hgw]; exact hcs j
 have hOv:∀ j,W1.cell? ⟨b,j,none⟩=us[j]?:=fun j=>by rw[hW1,World.cell?_alloc_past (w:=w.drew) _ b j hbw]; exact hvs j
 have hcpA:∀(W:World),(∀ x,W.cell? x=W1.cell? x)->(∀ x,W.frozen? x=W1.frozen? x)->∀ ty dc,(Builtin.copy_ #[23,23] ty #[.slice (some ⟨w.heap.size,i * 6,none⟩) (n+1 - i) dc,.slice (some ⟨b,0,none⟩) 1 cc]).run Tryz.prog W=.ok (goInt 1) (W.setCells w.heap.size (i * 6) us):=fun W hWc hWf ty dc=>by
  have e:Nat.min 1 (n+1 - i)=1:=by simp only[Nat.min_def]; split<;>omega
  have:=bZ (P:=Tryz.prog) W 23 23 ty 35 6 w.heap.size (i * 6) (n+1 - i) dc ⟨b,0,none⟩ 1 cc us Tryz.underlying23 hsz (by rw[e,hul])
   (fun j v hj=>by rw[Addr.add_lit,hWc,jx,hOv]; exact hj)
   (fun j hj=>by rw[hWc,hN,jf (by rw[hRl]; omega)]; rfl) (fun j hj=>by rw[hWf]; exact hNf _) h1
  rw[e]at this
  exact this
 have hdl:(cur.drop (i * 6)).length=(n - i) * 6:=by rw[jM,hcl]<;>omega
 have hne:g≠w.heap.size:=by omega
 have hcpB:∀(W:World),(∀ x,W.cell? x=(W1.setCells w.heap.size (i * 6) us).cell? x)->(∀ x,W.frozen? x=(W1.setCells w.heap.size (i * 6) us).frozen? x)->∀ ty dc sc,(Builtin.copy_ #[23,23] ty #[.slice (some ⟨w.heap.size,(i+1) * 6,none⟩) (n+1 - (i+1)) dc,.slice (some ⟨g,i * 6,none⟩) (n - i) sc]).run Tryz.prog W=.ok (goInt ((n - i:Nat):Int)) (W.setCells w.heap.size ((i+1) * 6) (cur.drop (i * 6))):=fun W hWc hWf ty dc sc=>by
  have e:Nat.min (n - i) (n+1 - (i+1))=n - i:=by simp only[Nat.min_def]; split<;>omega
  have:=bZ (P:=Tryz.prog) W 23 23 ty 35 6 w.heap.size ((i+1) * 6) (n+1 - (i+1)) dc ⟨g,i * 6,none⟩ (n - i) sc (cur.drop (i * 6)) Tryz.underlying23 hsz (by rw[e,hdl]<;>omega)
   (fun j v hj=>by
    rw[Addr.add_lit,hWc,World.cell?_setCells_out _ _ _ _ _ (fun h _=>absurd h hne),hOb]
    rwa [jD]at hj)
   (fun j hj=>by rw[hWc]; exact isSome_setCells _ _ _ _ (fun t ht=>by rw[hN,jf (by rw[hRl]; omega)]; rfl) _ (by rw[hN,jf (by rw[hRl]; omega)]; rfl))
   (fun j hj=>by rw[hWf,World.frozen?_setCells]; exact hNf _) (fun v hv=>h1x v (List.mem_of_mem_drop hv))
  rw[e]at this
  exact this
 have hs0:W1.heap[w.heap.size]? =some (.cells row.toArray 35 (0,0)):=by rw[hW1]; exact Array.getElem?_push_size
 have hg0:w.grownBy W1 none:=by rw[hW1]; exact bz (show w.grownBy w.drew none from⟨rfl,rfl,rfl,jw _,fun _ _ _=>rfl⟩) (World.grownBy_alloc w.drew _ none)
 have hend:∀ W2 W3:World,W2.heap=W1.heap->W2.os=W1.os->W2.tape=W1.tape->W2.output=W1.output->W3.heap=(W2.setCells w.heap.size (i * 6) us).heap->W3.os=(W2.setCells w.heap.size (i * 6) us).os->W3.tape=(W2.setCells w.heap.size (i * 6) us).tape->W3.output=(W2.setCells w.heap.size (i * 6) us).output ->
   (W3.setCells w.heap.size ((i+1) * 6) (cur.drop (i * 6))).heap[w.heap.size]? =some (.cells (lay (lay row (i * 6) us) ((i+1) * 6) (cur.drop (i * 6))).toArray 35 (0,0))/\w.grownBy (W3.setCells w.heap.size ((i+1) * 6) (cur.drop (i * 6))) none:=by
  intro W2 W3 e1 e2 e3 e4 f1 f2 f3 f4
  obtain⟨a1,a2⟩:=vk us (i * 6) W2 row (by rw[e1]; exact hs0) (by rw[hul,hRl]; omega)
  rw[← f1]at a1
  obtain⟨b1,b2⟩:=vk (cur.drop (i * 6)) ((i+1) * 6) W3 _ a1 (by rw[uN (by rw[hul,hRl]; omega),hdl,hRl]; omega)
  refine⟨b1,⟨?_,?_,?_,?_,fun k hk _=>?_⟩⟩
  ·rw[b2.os,f2,a2.os,e2]; exact hg0.os
  ·rw[b2.tape,f3,a2.tape,e3]; exact hg0.tape
  ·rw[b2.output,f4,a2.output,e4]; exact hg0.output
  ·refine Nat.le_trans hg0.size (Nat.le_trans ?_ b2.size)
   rw[f1,← e1]; exact a2.size
  ·have hk1:=Nat.lt_of_lt_of_le hk hg0.size
   have hk2:k<W2.heap.size:=by rw[e1]; exact hk1
   have hk3:k<W3.heap.size:=by rw[f1]; exact Nat.lt_of_lt_of_le hk2 a2.size
   have hkn:some k≠some w.heap.size:=fun e=>by cases e; omega
   rw[b2.block k hk3 hkn,f1,a2.block k hk2 hkn,e1]
   exact hg0.block k hk (by simp)
 have hGi:¬ (G=i):=by omega
 have hGim:¬ (G=i+1):=by omega
 have hci:¬ (n=i):=by omega
 unfold maxLen at hGm
 have hG63:G<=9223372036854775807:=by omega
 have hw1:kwr .i64 ((i:Int)+1)=(i:Int)+1:=by rw[IntKind.wrap_i64]; omega
 have hw2:kwr .i64 ((n:Int)+1)=(n:Int)+1:=by rw[IntKind.wrap_i64]; omega
 have hb1:(0:Int)<=(i:Int)+1:=by omega
 have hin:i<=n:=by omega
 have htn:((i:Int)+1).toNat=i+1:=by omega
 have hb3:(i:Int)<=(n:Int):=by omega
 subst hW1
 have hE1:∀ x,((w.alloc (.cells row.toArray 35)).drew).cell? x=(w.drew.alloc (.cells row.toArray 35)).cell? x:=fun x=>rfl
 have hE2:∀ x,((w.alloc (.cells row.toArray 35)).drew).frozen? x=(w.drew.alloc (.cells row.toArray 35)).frozen? x:=fun x=>rfl
 have hF1:∀ x,(((w.alloc (.cells row.toArray 35)).drew.setCells w.heap.size (i * 6) us).drew).cell? x=((w.drew.alloc (.cells row.toArray 35)).setCells w.heap.size (i * 6) us).cell? x:=fun x=>rfl
 have hF2:∀ x,(((w.alloc (.cells row.toArray 35)).drew.setCells w.heap.size (i * 6) us).drew).frozen? x=((w.drew.alloc (.cells row.toArray 35)).setCells w.heap.size (i * 6) us).frozen? x:=fun x=>rfl
 have mx:=mixed
 replace hend:Hid _:=hend
 replace hRt:Hid _:=hRt
 clear hz6 hkk hik hN hNf hOb hOv hs0 hg0 hdl hcs hvs hg hbk hcl hul h1x h1
 go_enter Tryz.func184,Tryz.ntmps184
 go_wp2_with (first
  | (at_builtin; refine Lib.wpList_append_run _ rfl _ _ _ _ rfl _ _ rfl rfl _ _ (hrz _) ?_)
  | (at_builtin; refine wpList_copy_runI _ rfl _ _ 23 23 rfl _ _ rfl rfl (hcpA _ hE1 hE2 _ _) ?_)
  | (at_builtin; refine wpList_copy_runI _ rfl _ _ 23 23 rfl _ _ rfl rfl (hcpB _ (fun _=>rfl) (fun _=>rfl) _ _ _) ?_))
 go_region_law_o (refine step_copy_runI rfl _ _ 23 23 rfl (.slice (some ⟨w.heap.size,(i+1) * 6,none⟩) (n+1 - (i+1)) (G - (i+1))) (.slice (some ⟨g,i * 6,none⟩) (n - i) (n - i)) (by simp[Act.eval,Act.put]) (by simp[Act.eval,Act.put]) (hcpB _ hF1 hF2 3 (G - (i+1)) (n - i)) ?_)
 go_wp2
 go_ret
 exact⟨G,row,by omega,by unfold maxLen; omega,hRl,hRt,rfl,(hend ((w.alloc (.cells row.toArray 35)).drew) ((((w.alloc (.cells row.toArray 35)).drew).setCells w.heap.size (i * 6) us).drew) rfl rfl rfl rfl rfl rfl rfl rfl).1,(hend ((w.alloc (.cells row.toArray 35)).drew) ((((w.alloc (.cells row.toArray 35)).drew).setCells w.heap.size (i * 6) us).drew) rfl rfl rfl rfl rfl rfl rfl rfl).2⟩
end W
end
section
open Go Go.Proofs Ax Go.RowKit
namespace W
set_option maxHeartbeats 4000000 in
set_option maxRecDepth 100000 in
theorem aQ (base n:Nat) (p:Option Addr) (c b cc:Nat) (xs us:List Value) (w:World) (hn:n<=1048577) (hown:w.ownsRow base 9 1 (.slice p n c) n xs) (hul:us.length=1) (hc:∀ j u,us[j]? =some u->w.cell? ((⟨b,0,none⟩:Addr).add j)=some u) (h1:∀ u∈us,u.oneCell'=true) (hb:base<=w.heap.size) :
  Calls Tryz.prog 183 #[.slice p n c,.int .i64 n,.slice (some ⟨b,0,none⟩) 1 cc] w fun e w'=>∃ v',e=.returned v'/\w'.ownsRow base 9 1 v' (n+1) (xs++us)/\w.grownBy w' (Value.slice p n c).ownBlock/\(v'.ownBlock=(Value.slice p n c).ownBlock\/v'.ownBlock=some w.heap.size):=by
 obtain⟨i0,hi,hz0,hz1,hz2⟩:=qe4
 have hzs:zS.cells.size=1:=rfl
 cases p with
 | none=>
  obtain rfl:n=0:=by
   rcases hown.2 with ⟨_,h⟩|⟨g,cap,cur,h,_⟩
   ·exact h
   ·cases h
  go_enter Tryz.func183,Tryz.ntmps183
  go_wp2_with (at_builtin; refine wpList_append_own_at _ rfl _ _ 22 rfl base 9 i0 zS 1 16 Tryz.underlying22 hi hz0 hz1 hz2 hzs (by decide) _ _ _ rfl hown ⟨b,0,none⟩ 1 cc us rfl hul hc h1 (by unfold maxLen; omega) (by omega) hb ?_; intro v' w1 ho hg _ hat)
  go_ret
  exact⟨v',rfl,ho,hg,hat⟩
 | some a=>
  go_enter Tryz.func183,Tryz.ntmps183
  go_wp2_with (at_builtin; refine wpList_append_own_at _ rfl _ _ 22 rfl base 9 i0 zS 1 16 Tryz.underlying22 hi hz0 hz1 hz2 hzs (by decide) _ _ _ rfl hown ⟨b,0,none⟩ 1 cc us rfl hul hc h1 (by unfold maxLen; omega) (by omega) hb ?_; intro v' w1 ho hg _ hat)
  all_goals (go_ret; exact⟨v',rfl,ho,hg,hat⟩)
theorem Nw (base n i:Nat) (p:Option Addr) (c b cc:Nat) (xs us:List Value) (w:World) (hi:i<=n) (hn:n<=1048577) (hown:w.ownsRow base 9 1 (.slice p n c) n xs) (hul:us.length=1) (tb:TypeId) (hbk:w.heap[b]? =some (.cells us.toArray tb (0,0))) (hne:(Value.slice p n c).ownBlock≠some b)
  (h1x:∀ u∈xs,u.oneCell'=true) (h1:∀ u∈us,u.oneCell'=true) (hb:base<=w.heap.size) :
  Calls Tryz.prog 183 #[.slice p n c,.int .i64 i,.slice (some ⟨b,0,none⟩) 1 cc] w fun e w'=>∃ v',e=.returned v'/\w'.ownsRow base 9 1 v' (n+1) (xs.take (i)++us++xs.drop (i))/\w.grownBy w' (Value.slice p n c).ownBlock/\(v'.ownBlock=(Value.slice p n c).ownBlock\/v'.ownBlock=some w.heap.size):=by
 have hxl:=hown.1
 by_cases e:i=n
 ·subst e
  refine(aQ base i p c b cc xs us w hn hown hul (fun j u hj=>by rw[Addr.add_lit,jx,cell_of_row w b j us.toArray tb (0,0) hbk]; simpa using hj) h1 hb).mono fun e w' ⟨v',h1,h2,h3⟩=>⟨v',h1,?_,h3⟩
  rwa [List.take_of_length_le (by omega),List.drop_of_length_le (by omega),List.append_nil]
 ·have hlt:i<n:=by omega
  rcases hown.2 with ⟨_,h⟩|⟨g,cap,cur,hv,hbg,hg,hnc,hm,hsz,ht⟩
  ·omega
  ·cases hv
   simp only[Nat.mul_one]at hxl ht hsz
   have hg':w.heap[g]? =some (.cells cur.toList.toArray 9 (0,0)):=by simpa using hg
   have hcl:cur.toList.length=c:=by simpa using hsz
   have hne':b≠g:=fun e=>hne (by rw[e]; rfl)
   by_cases hr:n+1<=c
   ·refine(Tt base g n c i b cc cur.toList us w hlt hr hm hg' hcl hul tb hbk hne' (by rw[ht]; exact h1x) h1).mono fun e w' ⟨e1,e2,e3⟩=>⟨_,e1,?_,e3,.inl rfl⟩
    rw[ht]at e2
    refine Dj hbg e2 hr hm (by rw[uN,uN,hcl]<;>(try rw[uN])<;>(try simp only[jM,hxl,hul,hcl])<;>omega) ?_
    rw[Nat.mul_one]
    have:=Ll (c:=cur.toList) (us:=us) (ds:=xs.drop (i)) (a:=i) (z:=1) (m:=(n - i)) hul (by rw[jM,hxl]<;>omega) (by rw[hcl]; omega)
    rw[show i+1=(i+1) by omega,show(i+1)+(n - i)=(n+1) by omega]at this
    rw[this,← ht,List.take_take,Nat.min_eq_left (by omega)]
   ·obtain rfl:c=n:=by omega
    have hx:cur.toList=xs:=by rw[← ht,List.take_of_length_le (by omega)]
    rw[hx]at hg' hcl
    refine(Ts g c i b cc xs us w hlt (by omega) hg' hcl hul tb hbk h1x h1).mono fun e w' ⟨G,row,g1,g2,g3,g4,e1,e2,e3⟩=>⟨_,e1,?_,⟨e3.os,e3.tape,e3.output,e3.size,fun k hk _=>e3.block k hk (by simp)⟩,.inr rfl⟩
    refine Dj hb e2 g1 g2 (by rw[uN,uN,g3]<;>(try rw[uN])<;>(try simp only[jM,hxl,hul,g3])<;>omega) ?_
    rw[Nat.mul_one]
    have:=Lk (c:=row) (us:=us) (ds:=xs.drop (i)) (a:=i) (z:=1) (m:=(c - i)) hul (by rw[jM,hxl]<;>omega) (by rw[g3]; omega)
    rw[show i+1=(i+1) by omega,show(i+1)+(c - i)=(c+1) by omega]at this
    rw[this,g4]
theorem MX (base n i:Nat) (p:Option Addr) (c:Nat) (xs:List Value) (w:World) (hi:i<n) (hown:w.ownsRow base 9 1 (.slice p n c) n xs) (h1x:∀ u∈xs,u.oneCell'=true) :
  Calls Tryz.prog 181 #[.slice p n c,.int .i64 i,.int .i64 ((i:Int)+1)] w fun e w'=>e=.returned (.slice p (n - 1) c)/\w'.ownsRow base 9 1 (.slice p (n - 1) c) (n - 1) (xs.take (i)++xs.drop (i+1))/\w.grownBy w' (Value.slice p n c).ownBlock:=by
 have hxl:=hown.1
 rcases hown.2 with ⟨_,h⟩|⟨g,cap,cur,hv,hbg,hg,hnc,hm,hsz,ht⟩
 ·omega
 ·cases hv
  simp only[Nat.mul_one]at hxl ht hsz
  have hg':w.heap[g]? =some (.cells cur.toList.toArray 9 (0,0)):=by simpa using hg
  have hcl:cur.toList.length=c:=by simpa using hsz
  have hz6:zS.cells.toList.length=1:=rfl
  refine(qg0 g n c i cur.toList w hi hnc hm hg' hcl (by rw[ht]; exact h1x)).mono fun e w' ⟨e1,e2,e3⟩=>⟨e1,?_,e3⟩
  rw[ht]at e2
  have hd:(xs.drop (i+1)).length=(n - (i+1)):=by rw[jM,hxl]<;>omega
  have hl1:(lay cur.toList (i) (xs.drop (i+1))).length=c:=by rw[uN (by rw[hd,hcl]; omega),hcl]
  refine Dj hbg e2 (by omega) hm (by rw[uN (by rw[hz6,hl1]; omega),hl1]<;>omega) ?_
  rw[Nat.mul_one]
  have e4:(lay cur.toList (i) (xs.drop (i+1))).take ((n - 1))=xs.take (i)++xs.drop (i+1):=by
   unfold lay
   rw[← ht,List.take_take,Nat.min_eq_left (by omega),ht]
   exact List.take_left' (by rw[jb,hd,jt,hcl]; omega)
  rw[← e4]
  generalize lay cur.toList (i) (xs.drop (i+1))=L at hl1
  unfold lay
  rw[js,List.take_append_of_le_length (by rw[jt,hl1]; omega),List.take_take,Nat.min_self]
set_option maxHeartbeats 4000000 in
set_option maxRecDepth 100000 in
theorem aR (base n:Nat) (p:Option Addr) (c b cc:Nat) (xs us:List Value) (w:World) (hn:n<=1048577) (hown:w.ownsRow base 35 6 (.slice p n c) n xs) (hul:us.length=6) (hc:∀ j u,us[j]? =some u->w.cell? ((⟨b,0,none⟩:Addr).add j)=some u) (h1:∀ u∈us,u.oneCell'=true) (hb:base<=w.heap.size) :
  Calls Tryz.prog 184 #[.slice p n c,.int .i64 n,.slice (some ⟨b,0,none⟩) 1 cc] w fun e w'=>∃ v',e=.returned v'/\w'.ownsRow base 35 6 v' (n+1) (xs++us)/\w.grownBy w' (Value.slice p n c).ownBlock/\(v'.ownBlock=(Value.slice p n c).ownBlock\/v'.ownBlock=some w.heap.size):=by
 obtain⟨i0,hi,hz0,hz1,hz2⟩:=qd3
 have hzs:zV.cells.size=6:=rfl
 cases p with
 | none=>
  obtain rfl:n=0:=by
   rcases hown.2 with ⟨_,h⟩|⟨g,cap,cur,h,_⟩
   ·exact h
   ·cases h
  go_enter Tryz.func184,Tryz.ntmps184
  go_wp2_with (at_builtin; refine wpList_append_own_at _ rfl _ _ 23 rfl base 35 i0 zV 6 88 Tryz.underlying23 hi hz0 hz1 hz2 hzs (by decide) _ _ _ rfl hown ⟨b,0,none⟩ 1 cc us rfl hul hc h1 (by unfold maxLen; omega) (by omega) hb ?_; intro v' w1 ho hg _ hat)
  go_ret
  exact⟨v',rfl,ho,hg,hat⟩
 | some a=>
  go_enter Tryz.func184,Tryz.ntmps184
  go_wp2_with (at_builtin; refine wpList_append_own_at _ rfl _ _ 23 rfl base 35 i0 zV 6 88 Tryz.underlying23 hi hz0 hz1 hz2 hzs (by decide) _ _ _ rfl hown ⟨b,0,none⟩ 1 cc us rfl hul hc h1 (by unfold maxLen; omega) (by omega) hb ?_; intro v' w1 ho hg _ hat)
  all_goals (go_ret; exact⟨v',rfl,ho,hg,hat⟩)
theorem Nx (base n i:Nat) (p:Option Addr) (c b cc:Nat) (xs us:List Value) (w:World) (hi:i<=n) (hn:n<=1048577) (hown:w.ownsRow base 35 6 (.slice p n c) n xs) (hul:us.length=6) (tb:TypeId) (hbk:w.heap[b]? =some (.cells us.toArray tb (0,0))) (hne:(Value.slice p n c).ownBlock≠some b)
  (h1x:∀ u∈xs,u.oneCell'=true) (h1:∀ u∈us,u.oneCell'=true) (hb:base<=w.heap.size) :
  Calls Tryz.prog 184 #[.slice p n c,.int .i64 i,.slice (some ⟨b,0,none⟩) 1 cc] w fun e w'=>∃ v',e=.returned v'/\w'.ownsRow base 35 6 v' (n+1) (xs.take (i * 6)++us++xs.drop (i * 6))/\w.grownBy w' (Value.slice p n c).ownBlock/\(v'.ownBlock=(Value.slice p n c).ownBlock\/v'.ownBlock=some w.heap.size):=by
 have hxl:=hown.1
 by_cases e:i=n
 ·subst e
  refine(aR base i p c b cc xs us w hn hown hul (fun j u hj=>by rw[Addr.add_lit,jx,cell_of_row w b j us.toArray tb (0,0) hbk]; simpa using hj) h1 hb).mono fun e w' ⟨v',h1,h2,h3⟩=>⟨v',h1,?_,h3⟩
  rwa [List.take_of_length_le (by omega),List.drop_of_length_le (by omega),List.append_nil]
 ·have hlt:i<n:=by omega
  rcases hown.2 with ⟨_,h⟩|⟨g,cap,cur,hv,hbg,hg,hnc,hm,hsz,ht⟩
  ·omega
  ·cases hv
   have hg':w.heap[g]? =some (.cells cur.toList.toArray 35 (0,0)):=by simpa using hg
   have hcl:cur.toList.length=c * 6:=by simpa using hsz
   have hne':b≠g:=fun e=>hne (by rw[e]; rfl)
   by_cases hr:n+1<=c
   ·refine(Tv base g n c i b cc cur.toList us w hlt hr hm hg' hcl hul tb hbk hne' (by rw[ht]; exact h1x) h1).mono fun e w' ⟨e1,e2,e3⟩=>⟨_,e1,?_,e3,.inl rfl⟩
    rw[ht]at e2
    refine Dj hbg e2 hr hm (by rw[uN,uN,hcl]<;>(try rw[uN])<;>(try simp only[jM,hxl,hul,hcl])<;>omega) ?_
    have:=Ll (c:=cur.toList) (us:=us) (ds:=xs.drop (i * 6)) (a:=i * 6) (z:=6) (m:=(n - i) * 6) hul (by rw[jM,hxl]<;>omega) (by rw[hcl]; omega)
    rw[show i * 6+6=(i+1) * 6 by omega,show(i+1) * 6+(n - i) * 6=(n+1) * 6 by omega]at this
    rw[this,← ht,List.take_take,Nat.min_eq_left (by omega)]
   ·obtain rfl:c=n:=by omega
    have hx:cur.toList=xs:=by rw[← ht,List.take_of_length_le (by omega)]
    rw[hx]at hg' hcl
    refine(Tu g c i b cc xs us w hlt (by omega) hg' hcl hul tb hbk h1x h1).mono fun e w' ⟨G,row,g1,g2,g3,g4,e1,e2,e3⟩=>⟨_,e1,?_,⟨e3.os,e3.tape,e3.output,e3.size,fun k hk _=>e3.block k hk (by simp)⟩,.inr rfl⟩
    refine Dj hb e2 g1 g2 (by rw[uN,uN,g3]<;>(try rw[uN])<;>(try simp only[jM,hxl,hul,g3])<;>omega) ?_
    have:=Lk (c:=row) (us:=us) (ds:=xs.drop (i * 6)) (a:=i * 6) (z:=6) (m:=(c - i) * 6) hul (by rw[jM,hxl]<;>omega) (by rw[g3]; omega)
    rw[show i * 6+6=(i+1) * 6 by omega,show(i+1) * 6+(c - i) * 6=(c+1) * 6 by omega]at this
    rw[this,g4]
theorem MY (base n i:Nat) (p:Option Addr) (c:Nat) (xs:List Value) (w:World) (hi:i<n) (hown:w.ownsRow base 35 6 (.slice p n c) n xs) (h1x:∀ u∈xs,u.oneCell'=true) :
  Calls Tryz.prog 182 #[.slice p n c,.int .i64 i,.int .i64 ((i:Int)+1)] w fun e w'=>e=.returned (.slice p (n - 1) c)/\w'.ownsRow base 35 6 (.slice p (n - 1) c) (n - 1) (xs.take (i * 6)++xs.drop ((i+1) * 6))/\w.grownBy w' (Value.slice p n c).ownBlock:=by
 have hxl:=hown.1
 rcases hown.2 with ⟨_,h⟩|⟨g,cap,cur,hv,hbg,hg,hnc,hm,hsz,ht⟩
 ·omega
 ·cases hv
  have hg':w.heap[g]? =some (.cells cur.toList.toArray 35 (0,0)):=by simpa using hg
  have hcl:cur.toList.length=c * 6:=by simpa using hsz
  have hz6:zV.cells.toList.length=6:=rfl
  refine(qg1 g n c i cur.toList w hi hnc hm hg' hcl (by rw[ht]; exact h1x)).mono fun e w' ⟨e1,e2,e3⟩=>⟨e1,?_,e3⟩
  rw[ht]at e2
  have hd:(xs.drop ((i+1) * 6)).length=(n - (i+1)) * 6:=by rw[jM,hxl]<;>omega
  have hl1:(lay cur.toList (i * 6) (xs.drop ((i+1) * 6))).length=c * 6:=by rw[uN (by rw[hd,hcl]; omega),hcl]
  refine Dj hbg e2 (by omega) hm (by rw[uN (by rw[hz6,hl1]; omega),hl1]<;>omega) ?_
  have e4:(lay cur.toList (i * 6) (xs.drop ((i+1) * 6))).take ((n - 1) * 6)=xs.take (i * 6)++xs.drop ((i+1) * 6):=by
   unfold lay
   rw[← ht,List.take_take,Nat.min_eq_left (by omega),ht]
   exact List.take_left' (by rw[jb,hd,jt,hcl]; omega)
  rw[← e4]
  generalize lay cur.toList (i * 6) (xs.drop ((i+1) * 6))=L at hl1
  unfold lay
  rw[js,List.take_append_of_le_length (by rw[jt,hl1]; omega),List.take_take,Nat.min_self]
end W
end
section
open Go Go.Proofs Ax Go.RowKit
namespace W
def DU (n:Nat):List Val->Option (List Val)
 | []=>some []
 | v::l=>bnd (zG n v) fun u=>bnd (DU n l) fun us=>some (u::us)
theorem Xs {n:Nat}:∀{vs us:List Val},DU n vs=some us->us.length=vs.length/\∀(j:Nat) (v:Val),vs[j]? =some v->∃ u,us[j]? =some u/\zG n v=some u
 | [],us,h=>by cases h; exact⟨rfl,fun j v hj=>by simp at hj⟩
 | v::l,us,h=>by
  obtain⟨u,h1,h⟩:=qQ h
  obtain⟨us',h2,h⟩:=qQ h
  cases h
  obtain⟨e1,e2⟩:=Xs h2
  refine⟨by simp[e1],fun j v' hj=>?_⟩
  cases j with
  | zero=>simp only[List.getElem?_cons_zero,Option.some.injEq]at hj; subst hj; exact⟨u,rfl,h1⟩
  | succ j=>simpa using e2 j v' (by simpa using hj)
theorem bL (l:List Val):(Val.rows l).length=l.length:=Codec.length (C:=zx) l
theorem qbw {Lw:Nat} {H:PH Lw} {vs:List Val} {v:Value} (h:qO H (.sl (Val.rows vs)) v):∃ q d b o,v=.slice q vs.length d/\(vs≠[]->q=some ⟨b,o,none⟩)/\∀ j x,vs[j]? =some x->∃ us,zC H x.cells us/\∀ t u,us[t]? =some u->H b (o+j * 6+t)=some u:=by
 rcases h with ⟨h0,h⟩|⟨b,o,z,cap,rfl,_,rr⟩
 ·have e:vs=[]:=by
   have:=congrArg List.length h0
   rw[bL]at this
   exact jI this
  subst e
  rcases h with rfl|⟨a,cap,rfl⟩
  ·exact⟨none,0,0,0,rfl,fun h=>absurd rfl h,fun j x hj=>by simp at hj⟩
  ·exact⟨some a,cap,0,0,rfl,fun h=>absurd rfl h,fun j x hj=>by simp at hj⟩
 ·rw[bL]
  refine⟨_,_,b,o,rfl,fun _=>rfl,fun j x hj=>?_⟩
  have hr:(Val.rows vs)[j]? =some x.cells:=by
   show(zx.rows vs)[j]? =_
   rw[zx.hrows]; simp[hj]; rfl
  obtain⟨hz,us,hu,hc⟩:=rr.get hr
  have hz:z=6:=by rw[← hz]; exact zx.hz x
  subst hz
  exact⟨us,hu,hc⟩
set_option maxRecDepth 100000 in
theorem Pc {Lw:Nat} {H:PH Lw} {ks:List (List UInt8)} {p:Option Addr} {c:Nat} (hk:ks.length * 16<=140737488355328) (w:World) (s:SatH H w) (rk:qO H (.sl (qv ks)) (.slice p ks.length c)) :
  Calls Tryz.prog 56 #[.slice p ks.length c] w fun e w'=>∃ p' c',e=.returned (.slice p' ks.length c')/\w'.ownsRow w.heap.size 9 1 (.slice p' ks.length c') ks.length (ks.map fun s=>Value.string ⟨s.toArray⟩)/\Below w.heap.size w w':=by
 have hl:=bK ks
 by_cases h0:ks=[]
 ·subst h0
  exact(Pz p c w).mono fun e w' ⟨q,d,h1,h2,h3⟩=>⟨q,d,h1,h2,h3⟩
 ·rcases rk with ⟨h1,_⟩|⟨b,o,z,cap,e,_,rr⟩
  ·exact absurd (jI (by rw[← hl,h1]; rfl)) h0
  ·simp only[Value.slice.injEq]at e
   obtain⟨rfl,_,rfl⟩:=e
   have hz:=rN rr
   have hcl:=Tryz.slices_Clone_string b o ks.length c (ks.map fun s=>(⟨s.toArray⟩:ByteArray)) w (by rw[jl]; exact jw _) hk (fun j hj=>by
    rw[jl]at hj
    rw[(s.cell _ _ _ (hz j _ (jf hj))).1,List.getD_eq_getElem?_getD,List.getElem?_map,jf hj]
    rfl)
   refine hcl.mono fun e w' ⟨v',e1,ho,hn,hb⟩=>?_
   ·rw[List.take_of_length_le (by rw[jl]; exact jw _),List.map_map]at ho
    have ho:w'.ownsRow w.heap.size 9 1 v' ks.length (ks.map fun s=>Value.string ⟨s.toArray⟩):=ho
    rcases ho.2 with ⟨rfl,_⟩|⟨g,cap,cur,rfl,_⟩
    ·exact absurd rfl hn
    ·exact⟨_,_,e1,ho,hb⟩
def Ce {Lw:Nat} (H:PH Lw) (v:Value):Prop:=∀ b,v.ownBlock=some b->∀ o u,H b o≠some u
def qc5:Value->Int
 | .int _ n=>n
 | _=>0
theorem QH {Lw:Nat} {H H1:PH Lw} {w w1:World} (c:Calm H w H1 w1) (o:Obj):Calm H w H1 (w1.alloc o):=
 ⟨c.le,c.sat.block (by simp) fun b _ _ hv=>heap_alloc_old w1 o (c.sat.lt hv),⟨c.keep.os,c.keep.tape,c.keep.output,Nat.le_trans c.keep.size (by simp),fun k hk hn=>(heap_alloc_old w1 o (Nat.lt_of_lt_of_le hk c.keep.size)).trans (c.keep.block k hk hn)⟩,c.new⟩
theorem Xa {Lw:Nat} {H H1:PH Lw} {w w1 w2:World} (c:Calm H w H1 w1) {row:Option Nat} (k:w1.grownBy w2 row) (hrow:∀ b,row=some b->w.heap.size<=b/\∀ o u,H1 b o≠some u):Calm H w H1 w2:=
 ⟨c.le,c.sat.block k.size fun b o v hv=>k.block b (c.sat.lt hv) fun e=>(hrow b e.symm).2 o v hv,⟨k.os.trans c.keep.os,k.tape.trans c.keep.tape,k.output.trans c.keep.output,Nat.le_trans c.keep.size k.size,fun i hi hn=>(k.block i (Nat.lt_of_lt_of_le hi c.keep.size) fun e=>by have:=(hrow i e.symm).1; omega).trans (c.keep.block i hi hn)⟩,c.new⟩
theorem Ce.step {Lw:Nat} {H H1:PH Lw} {w w1:World} {v:Value} (h:Ce H v) (c:Calm H w H1 w1) (hlt:∀ b,v.ownBlock=some b->b<w.heap.size):Ce H1 v:=fun b hb o u hu=>by
 rcases c.new b o u hu with ⟨u',hu'⟩|h'
 ·exact h b hb o u' hu'
 ·have:=hlt b hb; omega
set_option maxHeartbeats 4000000 in
set_option maxRecDepth 100000 in
theorem Xr {Lw:Nat} {H:PH Lw} {n:Nat} {ks:List (List UInt8)} {vs us:List Val} (hu:DU n vs=some us) (hk:ks.length<=1048576) (hv:vs.length<=1048576) (p q:Option Addr) (c d:Nat) (w:World) (s:SatH H w)
  (rk:qO H (.sl (qv ks)) (.slice p ks.length c)) (rv:qO H (.sl (Val.rows vs)) (.slice q vs.length d)) :
  Calls Tryz.prog 147 #[.slice p ks.length c,.slice q vs.length d] w fun e w'=>∃ p' c' q' d' xs,∃ H':PH Lw,e=.returned (.tuple #[.slice p' ks.length c',.slice q' vs.length d']) /\
   w'.ownsRow w.heap.size 9 1 (.slice p' ks.length c') ks.length (ks.map fun s=>Value.string ⟨s.toArray⟩)/\w'.ownsRow w.heap.size 35 6 (.slice q' vs.length d') vs.length xs /\
   gk H' 6 (Val.rows us) xs/\(∀ u∈xs,u.oneCell'=true)/\Calm H w H' w'/\Ce H' (.slice p' ks.length c')/\Ce H' (.slice q' vs.length d')/\(∀ k,(Value.slice p' ks.length c').ownBlock=some k->(Value.slice q' vs.length d').ownBlock≠some k):=by
 obtain⟨i0,hi0,hz0,hzs,hzb⟩:=qd3
 obtain⟨hul,hat⟩:=Xs hu
 obtain⟨q1,d1,b,o,e,hq,hrow⟩:=qbw rv
 cases e
 have hz6:zV.cells.size=6:=rfl
 have mx:=mixed
 go_enter Tryz.func147,Tryz.ntmps147
 go_wp2_with (at_make; refine wpList_make_own _ rfl _ _ 23 rfl w.heap.size 35 i0 zV 6 Tryz.underlying23 hi0 hz0 hzs _ _ _ vs.length rfl rfl rfl (by rw[hzb]; omega) (by unfold maxLen; omega) (jw _) ?_; intro w1 hown0 hg0)
 go_loopw [6,8,14] (fun v6 _ v14 wr=>∃(j:Nat) (q':Option Addr) (d':Nat) (xs:List Value) (Hj:PH Lw),v14=.int .i64 (j:Int)/\j<=vs.length/\v6=.slice q' j d'/\wr.ownsRow w.heap.size 35 6 (.slice q' j d') j xs/\gk Hj 6 (Val.rows (us.take j)) xs/\(∀ u∈xs,u.oneCell'=true)/\Calm H w Hj wr/\Ce Hj (.slice q' j d')) (fun _ _ v14 _=>vs.length - (qc5 v14).toNat)
 case atStart=>
  refine⟨0,_,_,[],H,rfl,jS _,rfl,hown0,by simp[Val.rows,gk],by simp,Xa (Calm.refl s) hg0 (fun b h=>by cases h),fun b hb o u hu=>?_⟩
  simp[Value.ownBlock]at hb
  subst hb
  exact absurd (s.lt hu) (Nat.lt_irrefl _)
 case round=>
  obtain⟨j,q',d',xs,Hj,rfl,hjn,rfl,hown,hrep,h1x,hC,hnot⟩:=hrel
  rcases Nat.lt_or_ge j vs.length with hlt|hge
  ·obtain rfl:=hq (List.ne_nil_of_length_pos (by omega))
   obtain⟨u,huj,hcp⟩:=hat j _ (jf hlt)
   obtain⟨cs,hrl,hcs⟩:=hrow j _ (jf hlt)
   obtain⟨k,i,bb,st,p1,p2,n1,c1,m1,e1,rfl⟩:=Fx hrl
   have g0:=(hC.sat.cell _ _ _ (hC.le _ _ _ (hcs 0 _ rfl))).1
   have g1:=(hC.sat.cell _ _ _ (hC.le _ _ _ (hcs 1 _ rfl))).1
   have g2:=(hC.sat.cell _ _ _ (hC.le _ _ _ (hcs 2 _ rfl))).1
   have g3:=(hC.sat.cell _ _ _ (hC.le _ _ _ (hcs 3 _ rfl))).1
   have g4:=(hC.sat.cell _ _ _ (hC.le _ _ _ (hcs 4 _ rfl))).1
   have g5:=(hC.sat.cell _ _ _ (hC.le _ _ _ (hcs 5 _ rfl))).1
   rw[Nat.add_zero]at g0
   have hrl':=zC.mono hC.le hrl
   have hcall:=XE (fun _ _=>Tryz.call176 _ _) (fu n _ _ hcp) (QH hC (.cells #[.int .i64 k,.bool bb,.int .i64 i,.string st,.slice p1 n1 c1,.slice p2 m1 e1] 35)).sat ⟨_,[],rfl,⟨_,rfl,hrl'⟩,rfl⟩
   have b1:(0:Int)<=(j:Int):=by omega
   have b2:(j:Int)<(vs.length:Int):=by omega
   go_wp2_with (first
    | (go_at_call 176; refine hcall.mono ?_; rintro e w2 ⟨vv,H2,rfl,hC2,us2,rfl,hr2⟩; obtain⟨k',i',b',s',pp,qq,n',cc,m',ee,rfl⟩:=Fx hr2; have hown2:=(hown.alloc (.cells #[.int .i64 k,.bool bb,.int .i64 i,.string st,.slice p1 n1 c1,.slice p2 m1 e1] 35)).kept (row:=none) (w':=w2) ⟨hC2.keep.os,hC2.keep.tape,hC2.keep.output,hC2.keep.size,fun k hk _=>hC2.keep.block k hk id⟩ (by cases(Value.slice q' j d').ownBlock<;>simp); have hsz2:w.heap.size<=w2.heap.size:=Nat.le_trans hC.keep.size (Nat.le_trans (by simp) hC2.keep.size); have hown3:=hown2.alloc (.cells #[.int .i64 k',.bool b',.int .i64 i',.string s',.slice pp n' cc,.slice qq m' ee] 35))
    | (at_builtin; refine wpList_append_own_at _ rfl _ _ 23 rfl w.heap.size 35 i0 zV 6 88 Tryz.underlying23 hi0 hz0 hzs hzb hz6 (by decide) _ _ _ rfl hown3 _ 1 _ [.int .i64 k',.bool b',.int .i64 i',.string s',.slice pp n' cc,.slice qq m' ee] rfl rfl (fun t u hj=>SD _ _ _ t u hj) (by intro u hu; simp at hu; rcases hu with rfl|rfl|rfl|rfl|rfl|rfl<;>rfl) (by unfold maxLen; omega) (by omega) (by simp; omega) ?_; intro v' w3 ho3 hg3 _ hat3))
   go_roundw
   case rel=>
    have hN2:Ce H2 (.slice q' j d'):=hnot.step hC2 fun b hb=>by have:=(hown.lt b hb).2; simp; omega
    have hC3:Calm H w H2 w2:=(QH hC _).trans hC2
    have hC4:=Xa hC3 (bz (World.grownBy_alloc w2 _ _) hg3) fun b hb=>⟨(hown.lt b hb).1,hN2 b hb⟩
    rcases ho3.2 with ⟨_,h⟩|⟨g,cap,cur,rfl,_⟩
    ·omega
    ·refine⟨j+1,_,_,_,H2,by congr 1<;>omega,hlt,rfl,ho3,?_,?_,hC4,fun b hb o u hu=>?_⟩
     ·rw[List.take_add_one,huj]
      show gk H2 6 (zx.rows (us.take j++[u])) _
      rw[zx.hrows,jZ,← zx.hrows]
      exact(hrep.mono hC2.le).append ⟨zx.hz u,_,[],by simp,hr2,rfl⟩
     ·intro x hx
      rcases jy.1 hx with hx|hx
      ·exact h1x x hx
      ·simp at hx; rcases hx with rfl|rfl|rfl|rfl|rfl|rfl<;>rfl
     ·rcases hat3 with h|h
      ·exact hN2 b (h.symm.trans hb) o u hu
      ·rw[h]at hb
       have:=hC3.sat.lt hu
       simp at hb
       omega
   case measure=>simp[qc5]; omega
  ·obtain rfl:j=vs.length:=by omega
   have hcl:=Pc (by omega) wr hC.sat (qO.mono hC.le rk)
   have b2:¬ ((vs.length:Int)<(vs.length:Int)):=by omega
   go_wp2_with (go_at_call 56; refine hcl.mono ?_; rintro e w2 ⟨p',c',rfl,ho,hb⟩)
   go_ret2
   have hsz:=hC.keep.size
   refine⟨p',c',q',d',xs,Hj,rfl,⟨ho.1,ho.2.imp id fun⟨g,cap,cur,a,h,r⟩=>⟨g,cap,cur,a,Nat.le_trans hsz h,r⟩⟩,hown.kept (row:=none) ⟨hb.os,hb.tape,hb.output,hb.size,fun k hk _=>hb.block k hk⟩ (by cases(Value.slice q' vs.length d').ownBlock<;>simp),?_,h1x,hC.trans (UT hC.sat hb),fun b hb' o u hu=>?_,hnot,fun k hk e=>?_⟩
   ·rwa [List.take_of_length_le (by omega)]at hrep
   ·have:=(ho.lt b hb').1
    have:=hC.sat.lt hu
    omega
   ·have:=(ho.lt k hk).1
    have:=(hown.lt k e).2
    omega
end W
end
section
open Go Go.Proofs Ax Go.RowKit
namespace W
def Gt {A:Type} (l:List A) (j:Nat) (x:A):List A:=l.take j++[x]++l.drop j
def Uy {A:Type} (l:List A) (j:Nat):List A:=l.take j++l.drop (j+1)
theorem gZ {A:Type} {l:List A} {j:Nat} {x:A} (h:j<=l.length):(Gt l j x).length=l.length+1:=by
 simp only[Gt,jb,jt,jM,List.length_singleton]; omega
theorem xi {A:Type} {l:List A} {j:Nat} (h:j<l.length):(Uy l j).length=l.length - 1:=by
 simp only[Uy,jb,jt,jM]; omega
theorem gk.cut {Lw:Nat} {H:PH Lw} {z:Nat}:∀{rows:List (List PV)} {xs:List Value} (j:Nat),gk H z rows xs->gk H z (rows.take j) (xs.take (j * z))/\gk H z (rows.drop j) (xs.drop (j * z))
 | [],xs,j,h=>by
  have h:xs=[]:=h
  subst h
  simp[gk]
 | r::rs,xs,0,h=>by simpa[gk]using h
 | r::rs,xs,j+1,h=>by
  obtain⟨hz,a,b,rfl,ha,hb⟩:=h
  have hl:a.length=z:=(zC.length ha).trans hz
  obtain⟨h1,h2⟩:=gk.cut j hb
  have e:(j+1) * z=a.length+j * z:=by rw[hl,Nat.add_mul]; omega
  rw[e,List.take_length_add_append,List.drop_length_add_append]
  exact⟨⟨hz,a,_,rfl,ha,h1⟩,h2⟩
abbrev Lt (s:List UInt8):Value:=.string ⟨s.toArray⟩
structure PS {Lw:Nat} (H:PH Lw) (w:World) (H1:PH Lw) (W:World) (bx:Obj) (v1:Value) (ks:List (List UInt8)) (v2:Value) (us:List Val) (ys:List Value):Prop where
 o1:W.ownsRow (w.heap.size+1) 9 1 v1 ks.length (ks.map Lt)
 o2:W.ownsRow (w.heap.size+1) 35 6 v2 us.length ys
 rv:gk H1 6 (Val.rows us) ys
 on:∀ u∈ys,u.oneCell'=true
 cm:Calm H w H1 W
 n1:Ce H1 v1
 n2:Ce H1 v2
 ne:∀ k,v1.ownBlock=some k->v2.ownBlock≠some k
 lb:W.heap[w.heap.size]? =some bx
section
variable {Lw:Nat} {H H1 H2:PH Lw} {w W W':World} {bx:Obj} {v1 v2 v1' v2':Value} {ks ks':List (List UInt8)} {us us':List Val} {ys ys':List Value}
theorem PS.lt (h:PS H w H1 W bx v1 ks v2 us ys):w.heap.size<W.heap.size:=(jH.1 h.lb).1
theorem PS.quiet (h:PS H w H1 W bx v1 ks v2 us ys) (k:W.grownBy W' none):PS H w H1 W' bx v1 ks v2 us ys where
 o1:=h.o1.kept k (by cases v1.ownBlock<;>simp)
 o2:=h.o2.kept k (by cases v2.ownBlock<;>simp)
 rv:=h.rv
 on:=h.on
 cm:=Xa h.cm k fun b hb=>by cases hb
 n1:=h.n1
 n2:=h.n2
 ne:=h.ne
 lb:=(k.block _ h.lt (by simp)).trans h.lb
theorem PS.calm (h:PS H w H1 W bx v1 ks v2 us ys) (c:Calm H1 W H2 W'):PS H w H2 W' bx v1 ks v2 us ys where
 o1:=h.o1.kept (row:=none) ⟨c.keep.os,c.keep.tape,c.keep.output,c.keep.size,fun k hk _=>c.keep.block k hk id⟩ (by cases v1.ownBlock<;>simp)
 o2:=h.o2.kept (row:=none) ⟨c.keep.os,c.keep.tape,c.keep.output,c.keep.size,fun k hk _=>c.keep.block k hk id⟩ (by cases v2.ownBlock<;>simp)
 rv:=h.rv.mono c.le
 on:=h.on
 cm:=h.cm.trans c
 n1:=h.n1.step c fun b hb=>(h.o1.lt b hb).2
 n2:=h.n2.step c fun b hb=>(h.o2.lt b hb).2
 ne:=h.ne
 lb:=(c.keep.block _ h.lt id).trans h.lb
theorem PS.set1 (h:PS H w H1 W bx v1 ks v2 us ys) (k:W.grownBy W' v1.ownBlock) (o:W'.ownsRow (w.heap.size+1) 9 1 v1' ks'.length (ks'.map Lt)) (hb:v1'.ownBlock=v1.ownBlock\/v1'.ownBlock=some W.heap.size):PS H w H1 W' bx v1' ks' v2 us ys where
 o1:=o
 o2:=h.o2.kept k (by
  cases e:v2.ownBlock with
  | none=>exact .inl rfl
  | some b=>exact .inr fun e'=>h.ne b e'.symm e)
 rv:=h.rv
 on:=h.on
 cm:=Xa h.cm k fun b hb=>⟨by have:=(h.o1.lt b hb).1; omega,h.n1 b hb⟩
 n1:=fun b hb' o u hu=>by
  rcases hb with e|e
  ·exact h.n1 b (e.symm.trans hb') o u hu
  ·rw[e]at hb'
   have:=h.cm.sat.lt hu
   cases hb'
   omega
 n2:=h.n2
 ne:=fun k' hk' e=>by
  rcases hb with e'|e'
  ·exact h.ne k' (e'.symm.trans hk') e
  ·rw[e']at hk'
   have:=(h.o2.lt k' e).2
   cases hk'
   omega
 lb:=(k.block _ h.lt fun e=>by have:=(h.o1.lt _ e.symm).1; omega).trans h.lb
theorem PS.set2 (h:PS H w H1 W bx v1 ks v2 us ys) (k:W.grownBy W' v2.ownBlock) (o:W'.ownsRow (w.heap.size+1) 35 6 v2' us'.length ys') (rv:gk H1 6 (Val.rows us') ys') (on:∀ u∈ys',u.oneCell'=true) (hb:v2'.ownBlock=v2.ownBlock\/v2'.ownBlock=some W.heap.size):PS H w H1 W' bx v1 ks v2' us' ys' where
 o1:=h.o1.kept k (by
  cases e:v1.ownBlock with
  | none=>exact .inl rfl
  | some b=>exact .inr fun e'=>h.ne b e e'.symm)
 o2:=o
 rv:=rv
 on:=on
 cm:=Xa h.cm k fun b hb=>⟨by have:=(h.o2.lt b hb).1; omega,h.n2 b hb⟩
 n1:=h.n1
 n2:=fun b hb' o u hu=>by
  rcases hb with e|e
  ·exact h.n2 b (e.symm.trans hb') o u hu
  ·rw[e]at hb'
   have:=h.cm.sat.lt hu
   cases hb'
   omega
 ne:=fun k' hk' e=>by
  rcases hb with e'|e'
  ·exact h.ne k' hk' (e'.symm.trans e)
  ·rw[e']at e
   have:=(h.o1.lt k' hk').2
   cases e
   omega
 lb:=(k.block _ h.lt fun e=>by have:=(h.o2.lt _ e.symm).1; omega).trans h.lb
theorem XA {e:TypeId} {z n base:Nat} {v:Value} {xs:List Value} (h:W.ownsRow base e z v n xs) (b':Nat) (hb:b'<=base):W.ownsRow b' e z v n xs:=⟨h.1,h.2.imp id fun⟨g,cap,cur,a,h,r⟩=>⟨g,cap,cur,a,Nat.le_trans hb h,r⟩⟩
theorem NB (ks:List (List UInt8)) {Lw:Nat} {H:PH Lw}:gk H 1 (qv ks) (ks.map Lt):=by
 induction ks with
 | nil=>rfl
 | cons k ks ih=>exact⟨rfl,[Lt k],_,rfl,⟨_,[],rfl,rfl,rfl⟩,ih⟩
theorem PS.ret (h:PS H w H1 W bx v1 ks v2 us ys):∃ H5:PH Lw,Calm H w H5 W/\qO H5 (PV.tup [PV.sl (qv ks),PV.sl (Val.rows us)]) (.tuple #[v1,v2]):=by
 have kr:W.grownBy W none:=⟨rfl,rfl,rfl,jw _,fun _ _ _=>rfl⟩
 have b1:=Ev h.o1
 have b2:=Ev h.o2
 obtain⟨c1,l1⟩:=DS h.cm kr (fun b hb=>by cases hb) (XA h.o1 w.heap.size (by omega)) (fun b hb o u hu=>by rw[b1]at hb; exact h.n1 b hb o u hu) (by intro u hu; obtain⟨s,_,rfl⟩:=List.mem_map.1 hu; rfl)
 have hn:∀ b,qR v2=some b->∀ o u,xe H1 v1 (ks.map Lt) b o≠some u:=fun b hb o u hu=>by
  rw[b2]at hb
  unfold xe at hu
  split at hu
  ·rename_i hc
   rw[b1]at hc
   exact h.ne b hc.1 hb
  ·exact h.n2 b hb o u hu
 obtain⟨c2,l2⟩:=DS c1 kr (fun b hb=>by cases hb) (XA h.o2 w.heap.size (by omega)) hn h.on
 refine⟨_,c2,[v1,v2],rfl,_,_,rfl,?_,_,_,rfl,?_,rfl⟩
 ·exact qO.mono l2 (fz (NB ks) l1 (by rw[bK]; exact XA h.o1 0 (jS _)))
 ·exact fz (gk.mono l1 h.rv) l2 (by rw[bL]; exact XA h.o2 0 (jS _))
theorem MR (h:PS H w H1 W bx v1 ks v2 us ys) {n:Nat} {k:List UInt8} {i:Int} {ok:Bool} (hf:qg n ks k=some (i,ok)):Calls Tryz.prog 180 #[v1,Lt k] W fun e W'=>e=.returned (.tuple #[.int .i64 i,.bool ok])/\PS H w H1 W' bx v1 ks v2 us ys:=by
 have kr:W.grownBy W none:=⟨rfl,rfl,rfl,jw _,fun _ _ _=>rfl⟩
 have b1:=Ev h.o1
 obtain⟨c1,l1⟩:=DS h.cm kr (fun b hb=>by cases hb) (XA h.o1 w.heap.size (by omega)) (fun b hb o u hu=>by rw[b1]at hb; exact h.n1 b hb o u hu) (by intro u hu; obtain⟨s,_,rfl⟩:=List.mem_map.1 hu; rfl)
 have hr:=fz (NB ks) l1 (by rw[bK]; exact XA h.o1 0 (jS _))
 refine(XE (fun _ _=>Tryz.call180 _ _) (uu n _ _ _ hf) c1.sat ⟨_,_,rfl,hr,_,_,rfl,rfl,rfl⟩).mono fun e W' ⟨v,H',e1,hC,hv⟩=>?_
 obtain⟨vs,rfl,hv⟩:=hv
 obtain⟨a,_,rfl,ha,b,_,rfl,hb,rfl⟩:=hv
 have ha:a=.int .i64 i:=ha
 have hb:b=.bool ok:=hb
 subst ha hb
 exact⟨e1,h.quiet ⟨hC.keep.os,hC.keep.tape,hC.keep.output,hC.keep.size,fun k hk _=>hC.keep.block k hk id⟩⟩
end
end W
end
section
open Go Go.Proofs Ax Go.RowKit
namespace W
theorem oN (ks:List (List UInt8)) (j:Nat):(ks.map Lt).take j++(ks.map Lt).drop (j+1)=(Uy ks j).map Lt:=by simp[Uy,List.map_take,List.map_drop]
theorem oO (ks:List (List UInt8)) (j:Nat) (k:List UInt8):(ks.map Lt).take j++[Lt k]++(ks.map Lt).drop j=(Gt ks j k).map Lt:=by simp[Gt,List.map_take,List.map_drop]
theorem qd6 {Lw:Nat} {H:PH Lw} {us:List Val} {ys:List Value} (h:gk H 6 (Val.rows us) ys) (j:Nat):gk H 6 (Val.rows (Uy us j)) (ys.take (j * 6)++ys.drop ((j+1) * 6)):=by
 have e:Val.rows (Uy us j)=(Val.rows us).take j++(Val.rows us).drop (j+1):=by
  show zx.rows _=(zx.rows _).take _++(zx.rows _).drop _
  simp only[zx.hrows,Uy,jZ,List.map_take,List.map_drop]
 rw[e]
 exact(gk.cut j h).1.append (gk.cut (j+1) h).2
theorem qd7 {Lw:Nat} {H:PH Lw} {us:List Val} {ys cs:List Value} {u:Val} (h:gk H 6 (Val.rows us) ys) (j:Nat) (hu:zC H u.cells cs):gk H 6 (Val.rows (Gt us j u)) (ys.take (j * 6)++cs++ys.drop (j * 6)):=by
 have e:Val.rows (Gt us j u)=(Val.rows us).take j++[u.cells]++(Val.rows us).drop j:=by
  show zx.rows _=(zx.rows _).take _++[zx.cells u]++(zx.rows _).drop _
  simp only[zx.hrows,Gt,jZ,List.map_take,List.map_drop,List.map_cons,List.map_nil]
 rw[e]
 have h1:gk H 6 [u.cells] cs:=⟨zx.hz u,cs,[],by simp,hu,rfl⟩
 exact((gk.cut j h).1.append h1).append (gk.cut j h).2
section
variable {Lw:Nat} {H H1:PH Lw} {w W:World} {v1 v2:Value} {ks:List (List UInt8)} {us:List Val} {ys:List Value} {a0 a1 a2 a3 a4 a5:Value}
theorem PS.six (h:PS H w H1 W (.cells #[a0,a1,a2,a3,a4,a5] 35) v1 ks v2 us ys):W.cell? ⟨w.heap.size,0,none⟩=some a0/\W.cell? ⟨w.heap.size,1,none⟩=some a1/\W.cell? ⟨w.heap.size,2,none⟩=some a2/\W.cell? ⟨w.heap.size,3,none⟩=some a3/\W.cell? ⟨w.heap.size,4,none⟩=some a4/\W.cell? ⟨w.heap.size,5,none⟩=some a5:=by
 have:=h.lb
 refine⟨?_,?_,?_,?_,?_,?_⟩<;>simp[World.cell?,this]
theorem PS.first {bx:Obj} {m:Nat} (hl:us.length=m) {p q:Option Addr} {c d:Nat} (o1:W.ownsRow (w.alloc bx).heap.size 9 1 (.slice p ks.length c) ks.length (ks.map fun s=>Value.string ⟨s.toArray⟩)) (o2:W.ownsRow (w.alloc bx).heap.size 35 6 (.slice q m d) m ys)
  (rv:gk H1 6 (Val.rows us) ys) (on:∀ u∈ys,u.oneCell'=true) (cm:Calm H (w.alloc bx) H1 W) (n1:Ce H1 (.slice p ks.length c)) (n2:Ce H1 (.slice q m d)) (ne:∀ k,(Value.slice p ks.length c).ownBlock=some k->(Value.slice q m d).ownBlock≠some k) (s:SatH H w) :
  PS H w H1 W bx (.slice p ks.length c) ks (.slice q m d) us ys:=by
 have e:(w.alloc bx).heap.size=w.heap.size+1:=by simp
 rw[e]at o1 o2
 refine⟨o1,by rw[hl]; exact o2,rv,on,(QH (Calm.refl s) bx).trans cm,n1,n2,ne,?_⟩
 exact(cm.keep.block _ (by simp) id).trans (VZ w bx _ rfl)
theorem Hh (w:World) (o:Obj):w.grownBy (w.alloc o).drew none:=⟨rfl,rfl,rfl,by simp[World.drew],fun k hk _=>heap_alloc_old w o hk⟩
theorem qgh (k i:Int) (b:Bool) (s:ByteArray) (p q:Option Addr) (n c m e:Nat):∀ u∈[Value.int .i64 k,.bool b,.int .i64 i,.string s,.slice p n c,.slice q m e],u.oneCell'=true:=by
 intro u hu; simp at hu; rcases hu with rfl|rfl|rfl|rfl|rfl|rfl<;>rfl
theorem NM {p:Option Addr} {n m c d:Nat}:(Value.slice p n c).ownBlock=(Value.slice p m d).ownBlock:=by cases p<;>rfl
theorem NN {l:List (List UInt8)}:∀ u∈l.map Lt,u.oneCell'=true:=by intro u hu; obtain⟨s,_,rfl⟩:=List.mem_map.1 hu; rfl
end
set_option maxHeartbeats 8000000 in
set_option maxRecDepth 100000 in
theorem qbr {Lw:Nat} {H:PH Lw} {n:Nat} {ks:List (List UInt8)} {vs us:List Val} {k:List UInt8} {kd ii:Int} {bb:Bool} {st:List UInt8} {l:List Val} {q6:List (List UInt8)} {j:Nat} (hu:DU n vs=some us) (hlen:vs.length=ks.length) (hk:ks.length<=1048576) (hbs:qg n ks k=some ((j:Int),false)) (hj:j<=ks.length) (hkd:kd=0)
  (p q:Option Addr) (c d:Nat) (p5 p6:Option Addr) (c5 c6:Nat) (w:World) (s:SatH H w) (rk:qO H (.sl (qv ks)) (.slice p ks.length c)) (rv:qO H (.sl (Val.rows vs)) (.slice q ks.length d)) (r4:zC H (Val.mk kd bb ii st l q6).cells [.int .i64 kd,.bool bb,.int .i64 ii,.string ⟨st.toArray⟩,.slice p5 l.length c5,.slice p6 q6.length c6]) :
  Calls Tryz.prog 155 #[.slice p ks.length c,.slice q ks.length d,.string ⟨k.toArray⟩,.agg #[.int .i64 kd,.bool bb,.int .i64 ii,.string ⟨st.toArray⟩,.slice p5 l.length c5,.slice p6 q6.length c6]] w fun e w'=>∃ v,∃ H':PH Lw,e=.returned v/\Calm H w H' w'/\qO H' (PV.tup [PV.sl (qv ks),PV.sl (Val.rows us)]) v:=by
 have mx:=mixed
 obtain⟨hul,_⟩:=Xs hu
 have hcp:=Xr hu hk (by omega) p q c d (w.alloc (.cells #[.int .i64 kd,.bool bb,.int .i64 ii,.string ⟨st.toArray⟩,.slice p5 l.length c5,.slice p6 q6.length c6] 35)) (QH (Calm.refl s) _).sat rk (by rw[hlen]; exact rv)
 rw[hlen]at hcp hul
 have hj1:kwr .i64 ((j:Int)+1)=(j:Int)+1:=by rw[IntKind.wrap_i64]; omega
 subst hkd
 go_enter Tryz.func155,Tryz.ntmps155
 go_wp2_with (first
  | (go_at_call 147; refine hcp.mono ?_; rintro e w1 ⟨p',c',q',d',ys,H1,rfl,o1,o2,rvv,on,cm,n1,n2,ne⟩; have ps1:=PS.first hul o1 o2 rvv on cm n1 n2 ne s; clear o1 o2 rvv on cm n1 n2 ne; have hbc:=MR ps1 hbs)
  | (go_at_call 180; refine hbc.mono ?_; rintro e w2 ⟨rfl,ps2⟩; clear hbc hcp; obtain⟨t0,t1,t2,t3,t4,t5⟩:=ps2.six))
 go_ret2
 obtain⟨H5,hc5,hr5⟩:=ps2.ret
 exact⟨_,H5,rfl,hc5,hr5⟩
set_option maxHeartbeats 8000000 in
set_option maxRecDepth 100000 in
theorem qbt {Lw:Nat} {H:PH Lw} {n:Nat} {ks:List (List UInt8)} {vs us:List Val} {k:List UInt8} {kd ii:Int} {bb:Bool} {st:List UInt8} {l:List Val} {q6:List (List UInt8)} {j:Nat} (hu:DU n vs=some us) (hlen:vs.length=ks.length) (hk:ks.length<=1048576) (hbs:qg n ks k=some ((j:Int),true)) (hj:j<ks.length) (hkd:kd=0)
  (p q:Option Addr) (c d:Nat) (p5 p6:Option Addr) (c5 c6:Nat) (w:World) (s:SatH H w) (rk:qO H (.sl (qv ks)) (.slice p ks.length c)) (rv:qO H (.sl (Val.rows vs)) (.slice q ks.length d)) (r4:zC H (Val.mk kd bb ii st l q6).cells [.int .i64 kd,.bool bb,.int .i64 ii,.string ⟨st.toArray⟩,.slice p5 l.length c5,.slice p6 q6.length c6]) :
  Calls Tryz.prog 155 #[.slice p ks.length c,.slice q ks.length d,.string ⟨k.toArray⟩,.agg #[.int .i64 kd,.bool bb,.int .i64 ii,.string ⟨st.toArray⟩,.slice p5 l.length c5,.slice p6 q6.length c6]] w fun e w'=>∃ v,∃ H':PH Lw,e=.returned v/\Calm H w H' w'/\qO H' (PV.tup [PV.sl (qv (Uy ks j)),PV.sl (Val.rows (Uy us j))]) v:=by
 have mx:=mixed
 obtain⟨hul,_⟩:=Xs hu
 have hcp:=Xr hu hk (by omega) p q c d (w.alloc (.cells #[.int .i64 kd,.bool bb,.int .i64 ii,.string ⟨st.toArray⟩,.slice p5 l.length c5,.slice p6 q6.length c6] 35)) (QH (Calm.refl s) _).sat rk (by rw[hlen]; exact rv)
 rw[hlen]at hcp hul
 have hj1:kwr .i64 ((j:Int)+1)=(j:Int)+1:=by rw[IntKind.wrap_i64]; omega
 subst hkd
 go_enter Tryz.func155,Tryz.ntmps155
 go_wp2_with (first
  | (go_at_call 147; refine hcp.mono ?_; rintro e w1 ⟨p',c',q',d',ys,H1,rfl,o1,o2,rvv,on,cm,n1,n2,ne⟩; have ps1:=PS.first hul o1 o2 rvv on cm n1 n2 ne s; clear o1 o2 rvv on cm n1 n2 ne; have hbc:=MR ps1 hbs)
  | (go_at_call 180; refine hbc.mono ?_; rintro e w2 ⟨rfl,ps2⟩; clear hbc hcp; obtain⟨t0,t1,t2,t3,t4,t5⟩:=ps2.six; have hd1:=MX _ ks.length j p' c' _ w2 hj ps2.o1 NN)
  | (go_at_call 181; refine hd1.mono ?_; rintro e w3 ⟨rfl,ho3,hg3⟩; clear hd1; have ps3:=ps2.set1 (v1':=.slice p' (ks.length - 1) c') (ks':=Uy ks j) hg3 (by rw[xi hj,← oN]; exact ho3) (.inl NM); have hd2:=MY _ ks.length j q' d' ys w3 (by omega) (by have:=ps3.o2; rw[hul]at this; exact this) ps3.on)
  | (go_at_call 182; refine hd2.mono ?_; rintro e w4 ⟨rfl,ho4,hg4⟩; clear hd2; have ps4:=ps3.set2 (v2':=.slice q' (ks.length - 1) d') (us':=Uy us j) hg4 (by rw[xi (by omega),hul]; exact ho4) (qd6 ps3.rv j) (fun u hu=>(jy.1 hu).elim (fun h=>ps3.on u (List.mem_of_mem_take h)) fun h=>ps3.on u (List.mem_of_mem_drop h)) (.inl NM); obtain⟨x0,x1,x2,x3,x4,x5⟩:=ps4.six))
 go_ret2
 obtain⟨H5,hc5,hr5⟩:=ps4.ret
 exact⟨_,H5,rfl,hc5,hr5⟩
set_option maxHeartbeats 8000000 in
set_option maxRecDepth 100000 in
theorem qbs {Lw:Nat} {H:PH Lw} {n:Nat} {ks:List (List UInt8)} {vs us:List Val} {k:List UInt8} {kd ii:Int} {bb:Bool} {st:List UInt8} {l:List Val} {q6:List (List UInt8)} {j:Nat} (hu:DU n vs=some us) (hlen:vs.length=ks.length) (hk:ks.length<=1048576) (hbs:qg n ks k=some ((j:Int),false)) (hj:j<=ks.length) (hkd:kd≠0)
  {u:Val} (hcu:zG n ⟨kd,bb,ii,st,l,q6⟩=some u) (p q:Option Addr) (c d:Nat) (p5 p6:Option Addr) (c5 c6:Nat) (w:World) (s:SatH H w) (rk:qO H (.sl (qv ks)) (.slice p ks.length c)) (rv:qO H (.sl (Val.rows vs)) (.slice q ks.length d)) (r4:zC H (Val.mk kd bb ii st l q6).cells [.int .i64 kd,.bool bb,.int .i64 ii,.string ⟨st.toArray⟩,.slice p5 l.length c5,.slice p6 q6.length c6]) :
  Calls Tryz.prog 155 #[.slice p ks.length c,.slice q ks.length d,.string ⟨k.toArray⟩,.agg #[.int .i64 kd,.bool bb,.int .i64 ii,.string ⟨st.toArray⟩,.slice p5 l.length c5,.slice p6 q6.length c6]] w fun e w'=>∃ v,∃ H':PH Lw,e=.returned v/\Calm H w H' w'/\qO H' (PV.tup [PV.sl (qv (Gt ks j k)),PV.sl (Val.rows (Gt us j u))]) v:=by
 have mx:=mixed
 obtain⟨hul,_⟩:=Xs hu
 have hcp:=Xr hu hk (by omega) p q c d (w.alloc (.cells #[.int .i64 kd,.bool bb,.int .i64 ii,.string ⟨st.toArray⟩,.slice p5 l.length c5,.slice p6 q6.length c6] 35)) (QH (Calm.refl s) _).sat rk (by rw[hlen]; exact rv)
 rw[hlen]at hcp hul
 have hj1:kwr .i64 ((j:Int)+1)=(j:Int)+1:=by rw[IntKind.wrap_i64]; omega
 go_enter Tryz.func155,Tryz.ntmps155
 go_wp2_with (first
  | (go_at_call 147; refine hcp.mono ?_; rintro e w1 ⟨p',c',q',d',ys,H1,rfl,o1,o2,rvv,on,cm,n1,n2,ne⟩; have ps1:=PS.first hul o1 o2 rvv on cm n1 n2 ne s; clear o1 o2 rvv on cm n1 n2 ne; have hbc:=MR ps1 hbs)
  | (go_at_call 180; refine hbc.mono ?_; rintro e w2 ⟨rfl,ps2⟩; clear hbc hcp; obtain⟨t0,t1,t2,t3,t4,t5⟩:=ps2.six))
 have psA:=ps2.quiet (Hh w2 (.cells #[.string ⟨k.toArray⟩] 9))
 have hi1:=Nw _ ks.length j p' c' w2.heap.size 1 _ [Lt k] _ (by omega) (by omega) (by have:=psA.o1; skip; exact this) rfl 9 (show(w2.alloc (.cells #[.string ⟨k.toArray⟩] 9)).drew.heap[w2.heap.size]? =_ from VZ w2 _ _ rfl) (fun e=>by have:=(ps2.o1.lt _ e).2; omega) NN (by intro u hu; simp at hu; subst hu; rfl) (Nat.le_trans (by have:=psA.lt; omega) (jw _))
 have hlt:=ps2.lt
 obtain⟨z0,z1,z2,z3,z4,z5⟩:=psA.six
 go_region_with (first
  | (go_at_call 183; refine hi1.mono ?_; rintro e w5 ⟨v5,rfl,ho5,hg5,hb5⟩; have ps5:=psA.set1 (ks':=Gt ks j k) hg5 (by rw[gZ (by omega),← oO]; exact ho5) hb5; obtain⟨y0,y1,y2,y3,y4,y5⟩:=ps5.six; have hcall:=XE (fun _ _=>Tryz.call176 _ _) (fu n _ _ hcu) ps5.cm.sat ⟨_,[],rfl,⟨_,rfl,zC.mono ps5.cm.le r4⟩,rfl⟩)
  | (go_at_call 176; refine hcall.mono ?_; rintro e w6 ⟨vv,H2,rfl,hC2,us2,rfl,hr2⟩; clear hcall; obtain⟨k',i',b',s',pp,qq,n',cc,m',ee,rfl⟩:=Fx hr2; have ps6:=ps5.calm hC2; have ps7:=ps6.quiet (World.grownBy_alloc w6 (.cells #[.int .i64 k',.bool b',.int .i64 i',.string s',.slice pp n' cc,.slice qq m' ee] 35) none); have hus:=qgh k' i' b' s' pp qq n' cc m' ee; have hi2:=Nx _ ks.length j q' d' w6.heap.size 1 ys [.int .i64 k',.bool b',.int .i64 i',.string s',.slice pp n' cc,.slice qq m' ee] _ (by omega) (by omega) (by have:=ps7.o2; rw[hul]at this; exact this) rfl 35 (VZ w6 _ _ rfl) (fun e=>by have:=(ps6.o2.lt _ e).2; omega) ps7.on hus (by have:=ps7.lt; omega))
  | (go_at_call 184; refine hi2.mono ?_; rintro e w8 ⟨v8,rfl,ho8,hg8,hb8⟩; have ps8:=ps7.set2 (us':=Gt us j u) hg8 (by rw[gZ (by omega),hul]; exact ho8) (qd7 ps7.rv j hr2) (fun u hu=>(jy.1 hu).elim (fun h=>(jy.1 h).elim (fun h=>ps7.on u (List.mem_of_mem_take h)) (hus u)) fun h=>ps7.on u (List.mem_of_mem_drop h)) hb8))
 all_goals go_wp2
 all_goals go_ret2
 all_goals
  obtain⟨H5,hc5,hr5⟩:=ps8.ret
  exact⟨_,H5,rfl,hc5,hr5⟩
set_option maxHeartbeats 8000000 in
set_option maxRecDepth 100000 in
theorem qbu {Lw:Nat} {H:PH Lw} {n:Nat} {ks:List (List UInt8)} {vs us:List Val} {k:List UInt8} {kd ii:Int} {bb:Bool} {st:List UInt8} {l:List Val} {q6:List (List UInt8)} {j:Nat} (hu:DU n vs=some us) (hlen:vs.length=ks.length) (hk:ks.length<=1048576) (hbs:qg n ks k=some ((j:Int),true)) (hj:j<ks.length) (hkd:kd≠0)
  {u:Val} (hcu:zG n ⟨kd,bb,ii,st,l,q6⟩=some u) (p q:Option Addr) (c d:Nat) (p5 p6:Option Addr) (c5 c6:Nat) (w:World) (s:SatH H w) (rk:qO H (.sl (qv ks)) (.slice p ks.length c)) (rv:qO H (.sl (Val.rows vs)) (.slice q ks.length d)) (r4:zC H (Val.mk kd bb ii st l q6).cells [.int .i64 kd,.bool bb,.int .i64 ii,.string ⟨st.toArray⟩,.slice p5 l.length c5,.slice p6 q6.length c6]) :
  Calls Tryz.prog 155 #[.slice p ks.length c,.slice q ks.length d,.string ⟨k.toArray⟩,.agg #[.int .i64 kd,.bool bb,.int .i64 ii,.string ⟨st.toArray⟩,.slice p5 l.length c5,.slice p6 q6.length c6]] w fun e w'=>∃ v,∃ H':PH Lw,e=.returned v/\Calm H w H' w'/\qO H' (PV.tup [PV.sl (qv (Gt (Uy ks j) j k)),PV.sl (Val.rows (Gt (Uy us j) j u))]) v:=by
 have mx:=mixed
 obtain⟨hul,_⟩:=Xs hu
 have hcp:=Xr hu hk (by omega) p q c d (w.alloc (.cells #[.int .i64 kd,.bool bb,.int .i64 ii,.string ⟨st.toArray⟩,.slice p5 l.length c5,.slice p6 q6.length c6] 35)) (QH (Calm.refl s) _).sat rk (by rw[hlen]; exact rv)
 rw[hlen]at hcp hul
 have hj1:kwr .i64 ((j:Int)+1)=(j:Int)+1:=by rw[IntKind.wrap_i64]; omega
 go_enter Tryz.func155,Tryz.ntmps155
 go_wp2_with (first
  | (go_at_call 147; refine hcp.mono ?_; rintro e w1 ⟨p',c',q',d',ys,H1,rfl,o1,o2,rvv,on,cm,n1,n2,ne⟩; have ps1:=PS.first hul o1 o2 rvv on cm n1 n2 ne s; clear o1 o2 rvv on cm n1 n2 ne; have hbc:=MR ps1 hbs)
  | (go_at_call 180; refine hbc.mono ?_; rintro e w2 ⟨rfl,ps2⟩; clear hbc hcp; obtain⟨t0,t1,t2,t3,t4,t5⟩:=ps2.six; have hd1:=MX _ ks.length j p' c' _ w2 hj ps2.o1 NN)
  | (go_at_call 181; refine hd1.mono ?_; rintro e w3 ⟨rfl,ho3,hg3⟩; clear hd1; have ps3:=ps2.set1 (v1':=.slice p' (ks.length - 1) c') (ks':=Uy ks j) hg3 (by rw[xi hj,← oN]; exact ho3) (.inl NM); have hd2:=MY _ ks.length j q' d' ys w3 (by omega) (by have:=ps3.o2; rw[hul]at this; exact this) ps3.on)
  | (go_at_call 182; refine hd2.mono ?_; rintro e w4 ⟨rfl,ho4,hg4⟩; clear hd2; have ps4:=ps3.set2 (v2':=.slice q' (ks.length - 1) d') (us':=Uy us j) hg4 (by rw[xi (by omega),hul]; exact ho4) (qd6 ps3.rv j) (fun u hu=>(jy.1 hu).elim (fun h=>ps3.on u (List.mem_of_mem_take h)) fun h=>ps3.on u (List.mem_of_mem_drop h)) (.inl NM); obtain⟨x0,x1,x2,x3,x4,x5⟩:=ps4.six))
 have psA:=ps4.quiet (Hh w4 (.cells #[.string ⟨k.toArray⟩] 9))
 have hi1:=Nw _ (ks.length - 1) j p' c' w4.heap.size 1 _ [Lt k] _ (by omega) (by omega) (by have:=psA.o1; rw[xi hj]at this; exact this) rfl 9 (show(w4.alloc (.cells #[.string ⟨k.toArray⟩] 9)).drew.heap[w4.heap.size]? =_ from VZ w4 _ _ rfl) (fun e=>by have:=(ps4.o1.lt _ e).2; omega) NN (by intro u hu; simp at hu; subst hu; rfl) (Nat.le_trans (by have:=psA.lt; omega) (jw _))
 have hlt:=ps4.lt
 obtain⟨z0,z1,z2,z3,z4,z5⟩:=psA.six
 go_region_with (first
  | (go_at_call 183; refine hi1.mono ?_; rintro e w5 ⟨v5,rfl,ho5,hg5,hb5⟩; have ps5:=psA.set1 (ks':=Gt (Uy ks j) j k) hg5 (by rw[gZ (by rw[xi hj]; omega),xi hj,← oO]; exact ho5) hb5; obtain⟨y0,y1,y2,y3,y4,y5⟩:=ps5.six; have hcall:=XE (fun _ _=>Tryz.call176 _ _) (fu n _ _ hcu) ps5.cm.sat ⟨_,[],rfl,⟨_,rfl,zC.mono ps5.cm.le r4⟩,rfl⟩)
  | (go_at_call 176; refine hcall.mono ?_; rintro e w6 ⟨vv,H2,rfl,hC2,us2,rfl,hr2⟩; clear hcall; obtain⟨k',i',b',s',pp,qq,n',cc,m',ee,rfl⟩:=Fx hr2; have ps6:=ps5.calm hC2; have ps7:=ps6.quiet (World.grownBy_alloc w6 (.cells #[.int .i64 k',.bool b',.int .i64 i',.string s',.slice pp n' cc,.slice qq m' ee] 35) none); have hus:=qgh k' i' b' s' pp qq n' cc m' ee; have hi2:=Nx _ (ks.length - 1) j q' d' w6.heap.size 1 (ys.take (j * 6)++ys.drop ((j+1) * 6)) [.int .i64 k',.bool b',.int .i64 i',.string s',.slice pp n' cc,.slice qq m' ee] _ (by omega) (by omega) (by have:=ps7.o2; rw[xi (by omega),hul]at this; exact this) rfl 35 (VZ w6 _ _ rfl) (fun e=>by have:=(ps6.o2.lt _ e).2; omega) ps7.on hus (by have:=ps7.lt; omega))
  | (go_at_call 184; refine hi2.mono ?_; rintro e w8 ⟨v8,rfl,ho8,hg8,hb8⟩; have ps8:=ps7.set2 (us':=Gt (Uy us j) j u) hg8 (by rw[gZ (by rw[xi (by omega)]; omega),xi (by omega),hul]; exact ho8) (qd7 ps7.rv j hr2) (fun u hu=>(jy.1 hu).elim (fun h=>(jy.1 h).elim (fun h=>ps7.on u (List.mem_of_mem_take h)) (hus u)) fun h=>ps7.on u (List.mem_of_mem_drop h)) hb8))
 all_goals go_wp2
 all_goals go_ret2
 all_goals
  obtain⟨H5,hc5,hr5⟩:=ps8.ret
  exact⟨_,H5,rfl,hc5,hr5⟩
def bT (n:Nat) (ks:List (List UInt8)) (vs:List Val) (k:List UInt8) (v:Val):Option (List (List UInt8)×List Val):=
 chk (Nat.beq vs.length ks.length) (chk (Nat.ble ks.length 1048576) (bnd (DU n vs) fun us=>bnd (qg n ks k) fun x=>bnd (pY x.1) fun j=>
  match v with
  | ⟨kd,bb,ii,st,l,q⟩=>
   bif x.2 then chk (Nat.blt j ks.length) (bif kd==0 then some (Uy ks j,Uy us j)else bnd (zG n ⟨kd,bb,ii,st,l,q⟩) fun u=>some (Gt (Uy ks j) j k,Gt (Uy us j) j u))
   else chk (Nat.ble j ks.length) (bif kd==0 then some (ks,us)else bnd (zG n ⟨kd,bb,ii,st,l,q⟩) fun u=>some (Gt ks j k,Gt us j u))))
set_option maxHeartbeats 4000000 in
set_option maxRecDepth 100000 in
theorem FX (n:Nat):∀(ks:List (List UInt8)) (vs:List Val) (k:List UInt8) (v:Val) (r:List (List UInt8)×List Val),bT n ks vs k v=some r->qh Tryz.prog 155 [PV.sl (qv ks),PV.sl (Val.rows vs),PV.str k,PV.agg (zx.cells v)] (PV.tup [PV.sl (qv r.1),PV.sl (Val.rows r.2)]):=by
 intro ks vs k v r h Lw H w vv s rl
 obtain⟨kd,bb,ii,st,l,q⟩:=v
 unfold bT at h
 obtain⟨h1,h⟩:=qu h
 obtain⟨h2,h⟩:=qu h
 obtain⟨us,hu,h⟩:=qQ h
 obtain⟨⟨i,ok⟩,hb,h⟩:=qQ h
 obtain⟨j,hn,h⟩:=qQ h
 have hi:i=(j:Int):=cV hn
 subst hi
 have h1:vs.length=ks.length:=Nat.eq_of_beq_eq_true h1
 have h2:ks.length<=1048576:=jh h2
 obtain⟨v1,_,rfl,r1,v2,_,rfl,r2,v3,_,rfl,r3,v4,_,rfl,r4,hv⟩:=rl
 obtain rfl:=hv
 obtain⟨p,c,rfl⟩:=VB r1
 obtain⟨q2,d,rfl⟩:=VB r2
 have r3:v3=.string ⟨k.toArray⟩:=r3
 subst r3
 obtain⟨cs,rfl,r4⟩:=r4
 have r4':=r4
 simp only[zx,Val.cells,zC]at r4
 obtain⟨y1,_,rfl,h1',y2,_,rfl,h2',y3,_,rfl,h3',y4,_,rfl,h4',y5,_,rfl,h5',y6,_,rfl,h6',rfl⟩:=r4
 obtain⟨p5,c5,rfl⟩:=VB h5'
 obtain⟨p6,c6,rfl⟩:=VB h6'
 simp only[qO]at h1' h2' h3' h4'
 subst h1' h2' h3' h4'
 rw[show(callFunc 155 _).run Tryz.prog w=_ from Tryz.call155 _ _]
 refine⟨rfl,?_⟩
 rw[bK]at r1 ⊢
 rw[bL,h1]at r2 ⊢
 rw[bL,bK]at r4'
 rw[bL,bK]
 simp only[]at h
 cases ok with
 | false=>
  simp only[kcf]at h
  obtain⟨h3,h⟩:=qu h
  have h3:=jh h3
  cases e:kd==0 with
  | true=>
   rw[e]at h
   simp only[kct]at h
   obtain rfl:=Option.some.inj h
   exact qbr hu h1 h2 hb h3 (eq_of_beq e) p q2 c d p5 p6 c5 c6 w s r1 r2 r4'
  | false=>
   rw[e]at h
   simp only[kcf]at h
   obtain⟨u,hcu,h⟩:=qQ h
   obtain rfl:=Option.some.inj h
   exact qbs hu h1 h2 hb h3 (by simpa using e) hcu p q2 c d p5 p6 c5 c6 w s r1 r2 r4'
 | true=>
  simp only[kct]at h
  obtain⟨h3,h⟩:=qu h
  have h3:j<ks.length:=Nat.lt_of_lt_of_le (Nat.lt_succ_self j) (jh h3)
  cases e:kd==0 with
  | true=>
   rw[e]at h
   simp only[kct]at h
   obtain rfl:=Option.some.inj h
   exact qbt hu h1 h2 hb h3 (eq_of_beq e) p q2 c d p5 p6 c5 c6 w s r1 r2 r4'
  | false=>
   rw[e]at h
   simp only[kcf]at h
   obtain⟨u,hcu,h⟩:=qQ h
   obtain rfl:=Option.some.inj h
   exact qbu hu h1 h2 hb h3 (by simpa using e) hcu p q2 c d p5 p6 c5 c6 w s r1 r2 r4'
end W
end
