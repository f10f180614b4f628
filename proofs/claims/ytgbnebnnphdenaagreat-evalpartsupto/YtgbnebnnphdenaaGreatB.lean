/- A part of the proof: the abstract execution. -/
import Derived.Lib.AppendStr
import Derived.Laws.IdiomCopy
import Derived.Lib.ConvBytes
import Derived.Laws.OwnMore
import Derived.Deep.LoopGhost
import Derived.Laws.Externs
import Derived.Lib.Builder
import Derived.Shelf.Strings.Builder1
import Derived.Test.YtgbnebnnphdenaaGreatA
set_option linter.unusedVariables false
set_option linter.unusedSimpArgs false
set_option linter.unnecessarySimpa false
set_option linter.deprecated false
set_option linter.unusedSectionVars false
set_option linter.constructorNameAsVariable false
open Go renaming run_underlying->kru
open Go.IntKind renaming wrap->kwr,bits->kbt
open List renaming length_append->jb,getElem?_cons_zero->jd,getElem?_eq_getElem->jf,mem_cons->jg,map_cons->jk,length_map->jl,prefix_refl->jq,append_assoc->js,length_take->jt,nil_append->ju,mem_append->jy,getElem?_append_left->jB,getElem?_append_right->jC,getElem?_take->jE,getElem?_set->jF,getElem?_eq_some_iff->jG,eq_nil_of_length_eq_zero->jI,take_left->jJ,size_toArray->jL,length_drop->jM,map_nil->jN,map_toArray->kb
open Nat renaming le_of_ble_eq_true->jh,eq_of_beq_eq_true->jm,le_refl->jw,zero_add->jx,lt_irrefl->jR,zero_le->jS
open Bool renaming and_eq_true->ji,or_eq_true->jO,false_eq_true->jP
open Array renaming getElem?_eq_some_iff->jH,length_toList->jK,getD_eq_getD_getElem?->jX
open Int renaming toNat_natCast->jU
open Go.Result renaming andThen_ok->kc
open Go.Sem renaming run_bind->ke,run_pure->kf
open Go.Op renaming operands->kg
open Go.Call renaming operands->kh
section
namespace Ax
open Go
section
variable {P:Program} {w:World}
theorem GA {t ty e:TypeId} {i:TypeInfo} {z:Value} (q:P.underlying t=some (.slice e)) (r:P.info? e=some i) (hz:i.zero=some z) (D:z.cells.size=i.size)
  {v:Value} {n:Nat} {xs:List Value} (d:w.ownsRow 0 e i.size v n xs)
  {x:Value} {m:Nat} {news:List Value} (hl:news.length=m * i.size) (h1:∀ u∈news,u.oneCell'=true)
  (L:(m=0/\x=.slice none 0 0)\/∃ a c,x=.slice (some a) m c/\∀ j u,news[j]? =some u->w.cell? (a.add j)=some u)
  (M:n+m<=9223372036854775807) (hbytes:(n+m) * i.bytes<=140737488355328) :
  ∃ v' w',(Builtin.append_ #[t,t] ty #[v,x]).run P w=.ok v' w'/\w'.ownsRow 0 e i.size v' (n+m) (xs++news) /\
   ((qZ v'=qZ v/\(∀ g,qZ v=some g->Keep (fun b=>b=g) w w')/\(qZ v=none->w'=w))\/(qZ v'=some w.heap.size/\Keep (fun b=>b=w.heap.size) w w')):=by
 have hlen:(xs++news).length=(n+m) * i.size:=by rw[jb,d.1,hl,Nat.add_mul]
 have s:n+m<=maxLen:=by unfold maxLen; omega
 rcases L with ⟨rfl,rfl⟩|⟨E,c,rfl,f⟩
 ·have F:news=[]:=jI (by simpa using hl)
  subst F;refine⟨v,w,run_append_owned_none (P:=P) (w:=w) 0 t ty e i i.size q r v n xs d,by simpa using d,.inl ⟨rfl,fun g _=>Keep.refl _ w,fun _=>rfl⟩⟩
 have grown:∀ (old:Nat),(w.drew.alloc (.cells (xs.toArray++news.toArray++Builtin.zeroCells z.cells (grownCap w (n+m) old e - (n+m))) e)).ownsRow 0 e i.size
    (.slice (some ⟨w.heap.size,0,none⟩) (n+m) (grownCap w (n+m) old e)) (n+m) (xs++news):=by
  intro old;have G:=grownCap_ge w (n+m) old e;have o:grownCap w (n+m) old e<=maxLen:=grownCap_le_maxLen w (n+m) old e s;refine⟨hlen,.inr ⟨w.heap.size,_,_,rfl,jS _,heap_alloc_new w.drew _,G,o,?_,?_⟩⟩
  ·simp only[Array.size_append,jL,size_zeroCells,D,d.1,hl,← Nat.add_mul]
   congr 1;omega
  simp only[Array.toList_append,js];rw[← js,← hlen];exact jJ
 rcases d.2 with ⟨rfl,rfl⟩|⟨g,cap,cur,rfl,H,K,N,o,I,p⟩
 ·have J:xs=[]:=jI (by simpa using d.1)
  subst J;by_cases hm:m=0
  ·subst hm
   have F:news=[]:=jI (by simpa using hl);subst F;refine⟨.slice none 0 0,w,?_,World.ownsRow_nil w 0 e i.size,.inl ⟨rfl,fun g _=>Keep.refl _ w,fun _=>rfl⟩⟩
   simp[Builtin.append_,kru q,Go.sizeOf,typeInfo,r,Builtin.lenOf,Builtin.firstCells,loadCells,loadCellsFrom]
  have y:=run_append_nil (P:=P) w t ty e i z q r hz E m c news hl f (by omega) (by omega) (by have O:=hbytes; simp only[jx]at O; omega);have A:=grown 0;simp only[jx,ju,Array.empty_append]at A ⊢;exact⟨_,_,y,A,.inr ⟨rfl,fi w _ _⟩⟩
 by_cases l:n+m<=cap
 ·have B:n * i.size+news.length<=cur.size:=by rw[hl,I,← Nat.add_mul]; exact Nat.mul_le_mul_right _ l
  have y:=run_append_room (P:=P) w t ty e i q r g n cap cur K E m c news hl f h1 l B;refine⟨_,_,y,⟨hlen,.inr ⟨g,cap,_,rfl,H,setRow_heap w g cur _ e _ K,l,o,?_,?_⟩⟩,.inl ⟨rfl,fun R C=>?_,fun h=>by simp[qZ]at h⟩⟩
  ·simp only[jL,jb,jt,jM,jK]
   omega
  ·rw[p,← hlen]
   exact jJ
  simp[qZ]at C;subst C;exact⟨rfl,rfl,rfl,by simp,fun k _ Q=>setRow_other w g k _ Q⟩
 have holds:∀ j u,xs[j]? =some u->w.cell? ((⟨g,0,none⟩:Addr).add j)=some u:=d.cells (g:=g) rfl;have y:=run_append_grow (P:=P) w t ty e i z q r hz ⟨g,0,none⟩ n cap xs d.1 holds E m c news hl f (by omega) (by omega) (growslice_fits (by omega) hbytes);exact⟨_,_,y,grown cap,.inr ⟨rfl,fi w _ _⟩⟩
theorem Qn {t u ty e:TypeId} {i:TypeInfo} (x:P.underlying t=some (.slice e)) (hu:P.underlying u=some .string) (y:P.info? e=some i) (hz:i.zero=some (.int .u8 0)) (o:i.size=1)
  {v:Value} {n:Nat} {xs:List Value} (a:w.ownsRow 0 e 1 v n xs) (str:List UInt8)
  (D:n+str.length<=9223372036854775807) (hbytes:(n+str.length) * i.bytes<=140737488355328) :
  ∃ v' w',(Builtin.append_ #[t,u] ty #[v,.string ⟨str.toArray⟩]).run P w=.ok v' w'/\w'.ownsRow 0 e 1 v' (n+str.length) (xs++Lib.strCells ⟨str.toArray⟩) /\
   ((qZ v'=qZ v/\(∀ g,qZ v=some g->Keep (fun b=>b=g) w w')/\(qZ v=none->w'=w))\/(qZ v'=some w.heap.size/\Keep (fun b=>b=w.heap.size) w w')):=by
 have d:(⟨str.toArray⟩:ByteArray).size=str.length:=tt str;generalize hsg:(⟨str.toArray⟩:ByteArray)=sb at *;have hl:(Lib.strCells sb).length=str.length:=by rw[Lib.strCells_length,d]
 have hlen:(xs++Lib.strCells sb).length=(n+str.length) * 1:=by rw[jb,a.1,hl,Nat.mul_one,Nat.mul_one]
 have p:n+str.length<=maxLen:=by unfold maxLen; omega
 have grown:∀ (old:Nat),(w.drew.alloc (.cells (xs.toArray++(Lib.strCells sb).toArray++Builtin.zeroCells (Value.int .u8 0).cells (grownCap w (n+str.length) old e - (n+str.length))) e)).ownsRow 0 e 1
    (.slice (some ⟨w.heap.size,0,none⟩) (n+str.length) (grownCap w (n+str.length) old e)) (n+str.length) (xs++Lib.strCells sb):=by
  intro old;have z:=grownCap_ge w (n+str.length) old e;have l:grownCap w (n+str.length) old e<=maxLen:=grownCap_le_maxLen w (n+str.length) old e p;refine⟨hlen,.inr ⟨w.heap.size,_,_,rfl,jS _,heap_alloc_new w.drew _,z,l,?_,?_⟩⟩
  ·have h1:(Value.int .u8 0).cells.size=1:=rfl
   simp only[Array.size_append,jL,size_zeroCells,h1,a.1,hl];omega
  simp only[Array.toList_append,js];rw[← js,← hlen];exact jJ
 rcases a.2 with ⟨rfl,rfl⟩|⟨g,cap,cur,rfl,A,C,E,l,F,c⟩
 ·have B:xs=[]:=jI (by simpa using a.1)
  subst B;by_cases hm:str.length=0
  ·have G:Lib.strCells sb=[]:=jI (by omega)
   refine⟨.slice none 0 0,w,?_,by rw[hm,G]; exact World.ownsRow_nil w 0 e 1,.inl ⟨rfl,fun g _=>Keep.refl _ w,fun _=>rfl⟩⟩
   simp[Builtin.append_,kru x,kru hu,Go.sizeOf,typeInfo,y,Builtin.lenOf,Builtin.firstCells,d,hm]
  have f:=run_append_nil_string (P:=P) w t u ty e i (.int .u8 0) x hu y hz sb (by omega) (by omega) (by rw[d]; have H:=hbytes; simp only[jx]at H; omega);have q:=grown 0;simp only[jx,ju,Array.empty_append]at q ⊢;have e1:sb.data.map (fun b=>Value.int .u8 b.toNat)=(Lib.strCells sb).toArray:=by
   apply Array.ext';simp[Lib.strCells]
  rw[e1,d]at f;exact⟨_,_,f,q,.inr ⟨rfl,fi w _ _⟩⟩
 by_cases m:n+str.length<=cap
 ·have r:n+sb.size<=cur.size:=by rw[d]; omega
  have f:=Lib.run_append_room_string (P:=P) w t u ty e i x hu y o g n cap cur C sb (by omega) r;rw[d]at f;refine⟨_,_,f,⟨hlen,.inr ⟨g,cap,_,rfl,A,setRow_heap w g cur _ e _ C,m,l,?_,?_⟩⟩,.inl ⟨rfl,fun J s=>?_,fun h=>by simp[qZ]at h⟩⟩
  ·simp only[jL,jb,jt,jM,jK,hl]
   omega
  ·rw[Nat.mul_one]at c
   rw[c,← hlen];exact jJ
  simp[qZ]at s;subst s;exact⟨rfl,rfl,rfl,by simp,fun k _ I=>setRow_other w g k _ I⟩
 have holds:∀ j u,xs[j]? =some u->w.cell? ((⟨g,0,none⟩:Addr).add j)=some u:=a.cells (g:=g) rfl;have f:=Lib.run_append_grow_string (P:=P) w t u ty e i (.int .u8 0) x hu y hz ⟨g,0,none⟩ n cap xs (by rw[o]; exact a.1) holds sb (by omega) (by omega) (growslice_fits (by omega) (by rw[d]; exact hbytes));rw[d]at f;exact⟨_,_,f,grown cap,.inr ⟨rfl,fi w _ _⟩⟩
theorem PE (H:PH):∀ (l:List UInt8),cP H 1 (qx l) (Lib.strCells ⟨l.toArray⟩)
 | []=>by simp[qx,cP,Lib.strCells]
 | b::l=>by
  have:=PE H l;simp only[qx,jk,cP];refine⟨rfl,[.int .u8 b.toNat],Lib.strCells ⟨l.toArray⟩,by simp[Lib.strCells],?_,this⟩;simp[zz,qP]
theorem BT {f:FV} {R:List (List PV)->Prop} (h:Sw f R):∃ rows,R rows/\∀ (ρ:List Value) (H:PH) (x:Value),qR ρ H f x->qP H (.sl rows) x:=by
 unfold Sw at h;split at h
 ·exact⟨_,h,fun _ _ _ r=>r⟩
 ·exact⟨_,h,fun _ _ _ r=>r.2⟩
 ·refine⟨[],h,fun _ _ _ r=>?_⟩
  simp only[qR,qP]at r ⊢;exact .inl ⟨trivial,.inl r⟩
 exact h.elim
def vA (H:PH) (v:Value) (a:List Value):PH:=fun b o=>if qZ v=some b/\o<a.length then a[o]? else H b o
theorem nT {bs:Base} {ρ:List Value} {H:PH} {lo:List AObj} (s:SatW bs ρ H lo w) {e:TypeId} {z:Nat} {v:Value} {n:Nat} {xs:List Value} (t:w.ownsRow 0 e z v n xs)
  (E:∀ b,qZ v=some b->(∀ j u,xs[j]? =some u->H b j=some u)/\∀ o,n * z<=o->H b o=none)
  (hfree:∀ (g:Nat),qZ v=some g->∀ (k:Nat) (o':AObj) (v':Value),lo[k]? =some o'->ρ[k]? =some v'->o'.live=true->qZ v'≠some g)
  (howns:∀ g,qZ v=some g->bs.S g\/bs.w0.heap.size<=g)
  {w':World} {v':Value} {m:Nat} {news:List Value} (I:news.length=m * z) (h1:∀ u∈xs++news,u.oneCell'=true)
  (c:w'.ownsRow 0 e z v' (n+m) (xs++news))
  (F:(qZ v'=qZ v/\(∀ g,qZ v=some g->Keep (fun b=>b=g) w w')/\(qZ v=none->w'=w))\/(qZ v'=some w.heap.size/\Keep (fun b=>b=w.heap.size) w w')) :
  PH.le H (vA H v' (xs++news))/\SatW bs (ρ++[v']) (vA H v' (xs++news)) (lo++[.tail e z (n+m)]) w':=by
 have hlen:(xs++news).length=(n+m) * z:=c.1;have x:∀ b o u,qZ v'=some b->H b o=some u->o<xs.length/\(xs++news)[o]? =some u:=by
  intro b o u q hu;rcases F with ⟨d,_⟩|⟨d,_⟩
  ·rw[d]at q
   obtain⟨h2,h3⟩:=E b q;have f:o<xs.length:=by
    rw[t.1];rcases Nat.lt_or_ge o (n * z)with h|h
    ·exact h
    rw[h3 o h]at hu; cases hu
   refine⟨f,?_⟩;rw[jB f];have:=h2 o _ (jf f);rw[hu]at this;rw[jf f,← Option.some.inj this]
  rw[d]at q;cases q;exact absurd (s.sath.lt hu) (jR _)
 have i:PH.le H (vA H v' (xs++news)):=by
  intro b o u hu;unfold vA;split
  ·rename_i y; exact(x b o u y.1 hu).2
  exact hu
 refine⟨i,?_⟩;have hcell:∀ g,qZ v'=some g->∀ o u,(xs++news)[o]? =some u->w'.cell? ⟨g,o,none⟩=some u:=by
  intro g G o u hu;have:=c.cells (g:=g) (by
   rcases c.2 with ⟨rfl,_⟩|⟨K,cap,cur,rfl,_⟩
   ·simp[qZ]at G
   simpa[qZ,Value.ownBlock]using G) o u hu
  rwa [Addr.add_lit,jx]at this
 have l:SatH (vA H v' (xs++news)) w':=by
  refine⟨?_,s.sath.root.mono i⟩;intro b o u hu;unfold vA at hu;split at hu
  ·rename_i y
   exact⟨hcell b y.1 o u hu,h1 u (List.mem_of_getElem? hu)⟩
  rename_i y;obtain⟨A,hone⟩:=s.sath.cell b o u hu;refine⟨?_,hone⟩;have D:qZ v'≠some b:=fun q=>y ⟨q,by have:=(x b o u q hu).1; rw[jb]; omega⟩
  have f:=s.sath.lt hu;rcases F with ⟨d,B,k2⟩|⟨d,B⟩
  ·cases r:qZ v with
   | none=>rw[k2 r]; exact A
   | some g=>
    rw[World.cell?_of_block (w:=w) (a:=⟨b,o,none⟩) ((B g r).block b f (fun e=>D (by rw[d,r,e])))]
    exact A
  rw[World.cell?_of_block (w:=w) (a:=⟨b,o,none⟩) (B.block b f (by omega))];exact A
 have C:∀ ρ,ZK ρ (vA H v' (xs++news)) w' v' (.tail e z (n+m)):=by
  intro ρ;refine⟨xs++news,c,fun b q=>⟨fun j u hu=>?_,fun o L=>?_⟩⟩
  ·unfold vA
   rw[if_pos ⟨q,(jG.1 hu).1⟩];exact hu
  unfold vA;rw[if_neg (by rw[hlen]; omega)];cases J:H b o with
  | none=>rfl
  | some u=>
   have:=(x b o u q J).1;rw[t.1]at this;have:n * z<=(n+m) * z:=Nat.mul_le_mul_right _ (by omega);omega
 have p:∀ b o u,vA H v' (xs++news) b o=some u->(∃ u,H b o=some u)\/qZ v'=some b:=by
  intro b o u hu;unfold vA at hu;split at hu
  ·rename_i y; exact .inr y.1
  exact .inl ⟨u,hu⟩
 rcases F with ⟨d,B,k2⟩|⟨d,B⟩
 ·cases r:qZ v with
  | none=>
   have hw:=k2 r;subst hw;rw[r]at d;refine s.push (g:=w'.heap.size) (.inr d) (s.fresh (jw _)) (.inr s.keep.size) i l (fun b o u hu=>?_) (Keep.refl _ _) (C _);rcases p b o u hu with h|h
   ·exact .inl h
   rw[d]at h; cases h
  | some g=>
   rw[r]at d;refine s.push (g:=g) (.inl d) (hfree g r) (howns g r) i l (fun b o u hu=>?_) (B g r) (C _);rcases p b o u hu with h|h
   ·exact .inl h
   rw[d]at h; exact .inr (Option.some.inj h).symm
 refine s.push (g:=w.heap.size) (.inl d) (s.fresh (jw _)) (.inr s.keep.size) i l (fun b o u hu=>?_) B (C _);rcases p b o u hu with h|h
 ·exact .inl h
 rw[d]at h; exact .inr (Option.some.inj h).symm
theorem bu {H:PH} {v':Value} {e:TypeId} {z:Nat} {rows:List (List PV)} {b:List Value} {w':World} (f:cP H z rows b) (c:PH.le H (vA H v' b))
  (a:w'.ownsRow 0 e z v' rows.length b):qP (vA H v' b) (.sl rows) v':=by
 simp only[qP];rcases a.2 with ⟨rfl,h⟩|⟨g,cap,cur,rfl,_,_,d,_⟩
 ·exact .inl ⟨jI h,.inl rfl⟩
 refine .inr ⟨g,0,z,cap,rfl,d,(f.mono c).unflat fun j u hu=>?_⟩;unfold vA;rw[if_pos ⟨by simp[qZ],by have:=(jG.1 hu).1; omega⟩];simpa using hu
theorem cP.one {H:PH} {w:World} (s:SatH H w) {b o:Nat} {vs:List Value} (c:∀ j u,vs[j]? =some u->H b (o+j)=some u):∀ u∈vs,u.oneCell'=true:=fun u hu=>by
 obtain⟨j,a⟩:=List.getElem?_of_mem hu;exact(s _ _ _ (c j u a)).2
theorem Vd {w:World} {t:TypeId} {v:Value}:(newVar t v).run P w=.ok ⟨w.heap.size,0,none⟩ (w.alloc (.cells v.cells t)):=by
 simp[newVar,newRow]
theorem Fk {w:World} {t bt:TypeId} {i:TypeInfo} (d:P.info? t=some i) {b off:Nat} {cur:List Value} (e:w.heap[b]? =some (.cells cur.toArray bt (0,0))) {x:Value}
  (c:x.cells.size=i.size) (a:off+x.cells.size<=cur.length) (h1:∀ u∈x.cells.toList,u.oneCell'=true) :
  (Instr.storeAt t (.pointer (some ⟨b,off,none⟩)) x).run P w=.ok () (w.setRow b (cur.take off++x.cells.toList++cur.drop (off+x.cells.size)).toArray):=by
 have:=run_storeCells_at P b off bt x.cells.toList 0 cur.toArray w e (by simpa using a) h1;simp only[Nat.add_zero,jK]at this;simp[Instr.storeAt,Instr.sureAddr,storeVar,Go.sizeOf,typeInfo,d,c];rw[this];simp[c]
theorem EB {a b:Nat} (h:Nat.beq a b=true):a=b:=jm h
theorem ZA {H:PH}:∀ {l:List UInt8} {vs:List Value},zz H (l.map fun b=>PV.int .u8 b.toNat) vs->∀ (j:Nat) (c:UInt8),l[j]? =some c->vs[j]? =some (.int .u8 (c.toNat:Int))
 | [],_,_,j,c,h=>by simp at h
 | b::l,vs,r,j,c,h=>by
  simp only[jk,zz,qP]at r;obtain⟨v,a,rfl,rfl,rs⟩:=r;cases j with
  | zero=>simp at h; subst h; rfl
  | succ j=>simpa using ZA rs j c (by simpa using h)
theorem GZ {t:TypeId} {lo:List AObj} {R:FV->List AObj->Prop} (h:Lw P t lo R) :
  ∃ d lo',R d lo'/\zH true lo lo'/\∀ (bs:Base) (ρ:List Value) (H:PH) (w:World),SatW bs ρ H lo w->∃ v w',(Instr.alloc t true (.tuple #[])).run P w=.ok v w'/\dT bs ρ H d lo' v w':=by
 unfold Lw at h;obtain⟨i,z,m,e,hz,h,a⟩:=GS h;obtain⟨l,rfl,h⟩:=h;have h:=xb h;have h:=xc h;refine⟨_,_,h,zH.push _,fun bs ρ H w s=>?_⟩;refine⟨.pointer (some ⟨w.heap.size,0,none⟩),w.alloc (.cells z.cells t),?_,ρ++[.slice (some ⟨w.heap.size,0,none⟩) l.length l.length],H,List.prefix_append _ _,PH.le.refl H,?_,?_⟩
 ·simp only[Instr.alloc,ke,zeroValue,typeInfo,run_program,e,hz,Vd,kc,kf]
 ·refine s.push (g:=w.heap.size) (.inl rfl) (s.fresh (jw _)) (.inr s.keep.size) (PH.le.refl H) (de s.sath _) (fun b o v h=>.inl ⟨v,h⟩) (fU w _ _) ?_
  refine⟨w.heap.size,z.cells,t,l.length,0,0,rfl,heap_alloc_new w _,.inr (jw _),fun j c f=>?_,fun o=>?_⟩
  ·have:=ZA (a H) j c f
   simpa using this
  cases k:H w.heap.size o with
  | none=>rfl
  | some x=>exact absurd (s.sath.lt k) (jR _)
 ·exact⟨w.heap.size,l.length,l.length,by simp[← s.hlen],by simp⟩
theorem BU {bs:Base} {ρ:List Value} {H:PH} {lo:List AObj} (s:SatW bs ρ H lo w) {t:TypeId} {L:TypeInfo} (O:P.info? t=some L) {k i off b n cap z:Nat} {e:TypeId} {o:AObj} {rows:List (List PV)} {row a:List PV} {xv:Value} {xs:List Value}
  (Q:lo[k]? =some o) (D:o.live=true) (R:ρ[k]? =some (.slice (some ⟨b,0,none⟩) n cap)) (m:w.ownsRow 0 e z (.slice (some ⟨b,0,none⟩) n cap) rows.length xs) (h:cP H z rows xs) (h1:∀ u∈xs,u.oneCell'=true) (S:∀ o,H b o=none)
  (d:rows[i]? =some row) (hone:a.all EW=true) (T:off+a.length<=row.length) (hn:a.length=L.size) (E:zz H a xv.cells.toList) :
  ∃ w',(Instr.storeAt t (.pointer (some ⟨b,i * z+off,none⟩)) xv).run P w=.ok () w'/\(∀ o',ZK ρ H w' (.slice (some ⟨b,0,none⟩) n cap) o'->SatW bs ρ H (lo.set k o') w') /\
   w'.ownsRow 0 e z (.slice (some ⟨b,0,none⟩) n cap) (rows.set i (row.take off++a++row.drop (off+a.length))).length (xs.take (i * z+off)++xv.cells.toList++xs.drop (i * z+off+xv.cells.size)) /\
   cP H z (rows.set i (row.take off++a++row.drop (off+a.length))) (xs.take (i * z+off)++xv.cells.toList++xs.drop (i * z+off+xv.cells.size)) /\
   (∀ u∈xs.take (i * z+off)++xv.cells.toList++xs.drop (i * z+off+xv.cells.size),u.oneCell'=true)/\i * z+off+a.length<=xs.length/\xv.cells.size=a.length/\row.length=z:=by
 rcases m.2 with ⟨F,_⟩|⟨g,M,cur,F,_,N,p,hm,U,V⟩
 ·cases F
 cases F;have hlen:=E.length;have G:row.length=z:=by
  have v:=List.mem_of_getElem? d;have:∀ {rows:List (List PV)} {vs:List Value},cP H z rows vs->∀ r∈rows,r.length=z:=by
   intro rows
   induction rows with
   | nil=>intro vs _ r h; cases h
   | cons q qs ih=>
    intro vs x r h;obtain⟨hz,_,_,_,_,y⟩:=x;rcases jg.1 h with rfl|h
    ·exact hz
    exact ih y r h
  exact this h row v
 have I:i<rows.length:=(jG.1 d).1;have X:xs.length=rows.length * z:=h.length;have Y:i * z+z<=rows.length * z:=by
  rw[← Nat.succ_mul]; exact Nat.mul_le_mul_right _ I
 have A:rows.length * z<=cur.toList.length:=by
  have h2:cur.toList.length=cur.size:=by simp
  rw[h2,U]; exact Nat.mul_le_mul_right _ p
 have J:xv.cells.size=a.length:=by simpa using hlen
 have f:∀ u∈xv.cells.toList,u.oneCell'=true:=zz.one (fun c Z=>(List.all_eq_true.1 hone) c Z) E;have B:=Fk (P:=P) (w:=w) (t:=t) (bt:=e) (cur:=cur.toList) O (by simpa using N) (x:=xv) (off:=i * z+off) (by omega) (by omega) f;have C:(cur.toList.take (i * z+off)++xv.cells.toList++cur.toList.drop (i * z+off+xv.cells.size)).take (rows.length * z)=xs.take (i * z+off)++xv.cells.toList++xs.drop (i * z+off+xv.cells.size):=by
  rw[aF (by omega) (by simp) A,V]
 have l:=h.over (off:=off) d E (by omega);have j:(rows.set i (row.take off++a++row.drop (off+a.length))).length=rows.length:=by simp
 refine⟨_,B,fun o' K=>s.upd (k:=k) (b:=b) Q R D rfl S ⟨rfl,rfl,rfl,by simp,fun x _ hx=>setRow_other w b x _ hx⟩ K,?_,?_,?_,by omega,J,G⟩
 ·refine⟨?_,.inr ⟨b,cap,(cur.toList.take (i * z+off)++xv.cells.toList++cur.toList.drop (i * z+off+xv.cells.size)).toArray,by rw[j],jS _,setRow_heap w b _ _ e _ (by simpa using N),by rw[j]; exact p,hm,?_,?_⟩⟩
  ·rw[j]
   simp only[jb,jt,jM,jK];omega
  ·simp only[jL,jb,jt,jM,jK]at A ⊢
   omega
  rw[j]; exact C
 ·simpa using l
 intro u hu;rcases jy.1 hu with hu|hu
 ·rcases jy.1 hu with hu|hu
  ·exact h1 u (List.mem_of_mem_take hu)
  exact f u hu
 exact h1 u (List.mem_of_mem_drop hu)
theorem Zw {b:Nat} {e:TypeId} {c:Nat×Nat}:∀ (vs:List Value) (o:Nat) (w:World) (cs:Array Value),w.heap[b]? =some (.cells cs e c) ->
  ∃ a,(w.setCells b o vs).heap[b]? =some (.cells a e c)/\a.size=cs.size/\(∀ k,k<o->a[k]? =cs[k]?)/\(∀ j v,vs[j]? =some v->o+j<cs.size->a[o+j]? =some v)/\Keep (fun x=>x=b) w (w.setCells b o vs)
 | [],o,w,cs,h=>⟨cs,h,rfl,fun _ _=>rfl,fun j v g=>by simp at g,Keep.refl _ _⟩
 | v::vs,o,w,cs,h=>by
  have h1:(w.setCell ⟨b,o,none⟩ v).heap[b]? =some (.cells (cs.setIfInBounds o v) e c):=by
   simp[World.setCell,Array.getElem?_modify,h]
  have d:Keep (fun x=>x=b) w (w.setCell ⟨b,o,none⟩ v):=⟨rfl,rfl,rfl,by simp[World.setCell],fun x _ i=>by
   have:b≠x:=fun e=>i e.symm
   simp[World.setCell,Array.getElem?_modify,this]⟩
  obtain⟨a,l,a2,a3,a4,a5⟩:=Zw vs (o+1) (w.setCell ⟨b,o,none⟩ v) _ h1;refine⟨a,l,by simpa using a2,fun k d=>?_,fun j u hu f=>?_,d.trans a5⟩
  ·rw[a3 k (by omega),Array.getElem?_setIfInBounds,if_neg (by omega)]
  cases j with
  | zero=>
   simp only[jd,Option.some.injEq]at hu;subst hu;rw[Nat.add_zero]at f ⊢;rw[a3 o (by omega),Array.getElem?_setIfInBounds,if_pos rfl,if_pos f]
  | succ j=>
   rw[show o+(j+1)=o+1+j from by omega];exact a4 j u (by simpa using hu) (by simpa using(by omega:o+1+j<cs.size))
theorem LG {lo:List AObj} {t:TypeId} {k z i off:Nat} {x:FV} {R:FV->List AObj->Prop} (h:Rl P t lo k z i off x R) :
  ∃ fv lo',R fv lo'/\lo'.length=lo.length/\∀ (bs:Base) (ρ:List Value) (H:PH) (w:World) (a xv:Value),SatW bs ρ H lo w->qR ρ H (.eptr k z i off) a->qR ρ H x xv ->
   ∃ w',(Instr.storeAt t a xv).run P w=.ok () w'/\dT bs ρ H fv lo' undef w':=by
 unfold Rl at h;have m:=Zj h; clear h; obtain⟨cs,h,A⟩:=m;have m:=dC h; clear h; obtain⟨ps,h,B⟩:=m;have m:=xb h; clear h; have h:=m; clear m;have m:=vZ h; clear h; obtain⟨d,ti,hd,hi,h⟩:=m;split at h
 ·rename_i hn
  have hn:=EB hn;have m:=zE h; clear h; obtain⟨o,E,h⟩:=m;split at h
  ·rename_i e F rows
   obtain⟨row,⟨rfl,r,hone⟩,h⟩:=h;obtain⟨h,G⟩:=Qt h;obtain⟨I,hrows,h⟩:=h;obtain⟨h,hk⟩:=vB h;refine⟨_,_,h,by simp,fun bs ρ H w a xv s J rx=>?_⟩;obtain⟨b,n,cap,v,rfl⟩:=J;obtain⟨xs,y,hr,h1,Y⟩:=s.objs k _ _ E v;obtain⟨w',g,K,c1,c2,c3,_⟩:=BU s hi E rfl v y hr h1 (Y b rfl) r hone G (by omega) (B ρ H _ (A ρ H xv rx));subst hrows;exact⟨w',g,ρ,H,jq _,PH.le.refl H,K _ ⟨_,c1,c2,c3,fun b' L=>by cases L; exact Y b rfl⟩,by simp[qR,qP,zz,undef]⟩
  ·rename_i e F rows j kt
   obtain⟨row,kt',⟨rfl,r,hone,M⟩,h⟩:=h;obtain⟨h,G⟩:=Qt h;obtain⟨I,hrows,h⟩:=h;obtain⟨h,hk⟩:=vB h;refine⟨_,_,h,by simp,fun bs ρ H w a xv s J rx=>?_⟩;obtain⟨b,n,cap,v,rfl⟩:=J;obtain⟨xs,y,hr,h1,Y,hl⟩:=s.objs k _ _ E v;obtain⟨w',g,K,c1,c2,c3,c4,c5,c6⟩:=BU s hi E rfl v y hr h1 (Y b rfl) r hone G (by omega) (B ρ H _ (A ρ H xv rx));subst hrows;refine⟨w',g,ρ,H,jq _,PH.le.refl H,K _ ⟨_,c1,c2,c3,fun b' L=>by cases L; exact Y b rfl,fun u hu=>?_⟩,by simp[qR,qP,zz,undef]⟩
   rw[List.length_set]at hu;have N:i<rows.length:=(jG.1 r).1;rcases M with ⟨hjz,Z,rfl⟩|⟨rfl,hlast,O,rfl⟩
   ·refine hl u ?_
    have hp:(rows.length - 1) * F+j<i * F+off\/i * F+off+xv.cells.size<=(rows.length - 1) * F+j:=by
     rcases Nat.lt_or_ge i (rows.length - 1)with hlt|hge
     ·right
      have:(i+1) * F<=(rows.length - 1) * F:=Nat.mul_le_mul_right _ hlt;rw[Nat.add_mul]at this;omega
     have:i=rows.length - 1:=by omega
     subst this;rcases Z with h|h
     ·right; omega
     left; omega
    rcases hp with hp|hp
    ·rw[js,jB (by rw[jt]; omega),jE,if_pos hp]at hu
     exact hu
    rw[jC (by simp only[jb,jt,jK]; omega),List.getElem?_drop]at hu;rw[← hu];congr 1;simp only[jb,jt,jK];omega
   have p:i=rows.length - 1:=by omega
   subst p;have hx1:xv.cells.toList=[xv]:=by rw[(bx (f:=.tsl kt' O) rfl rx).1]
   rw[hx1,js,jC (by rw[jt]; omega),jt,Nat.min_eq_left (by omega),Nat.sub_self]at hu;simp at hu;rw[← hu];exact rx.1
  ·rename_i l
   split at h
   ·have m:=h; clear h; obtain⟨c,l',⟨rfl,rfl,N,hnc,hl'⟩,h⟩:=m
    have m:=vB h; clear h; obtain⟨h,hk⟩:=m;subst hnc;refine⟨_,_,h,by simp,fun bs ρ H w a xv s J rx=>?_⟩;obtain⟨b,n0,cap,v,rfl⟩:=J;obtain⟨b',cs,e',cap',lo',p,e1,Q,S,h2,hH⟩:=s.objs k _ _ E v;cases e1;have rl:=B ρ H _ (A ρ H xv rx);simp only[zz,qP]at rl;obtain⟨v0,vs',ev,rfl,rfl⟩:=rl;have T:xv.cells.size=1:=by
     have:xv.cells.toList.length=1:=by rw[ev]; rfl
     simpa using this
    have hcell:(w.cell? ⟨b,i,none⟩).isSome=true:=by
     simp only[World.cell?,Q];rw[h2 i _ (jf N)];rfl
    have hfz:w.frozen? ⟨b,i,none⟩=false:=by
     simp only[World.frozen?,Q];have:¬ (lo'<=i/\i<p):=by omega
     simpa using fun h1=>Nat.le_of_not_lt fun h2=>this ⟨h1,h2⟩
    have g:(Instr.storeAt t (.pointer (some ⟨b,i * 1+0,none⟩)) xv).run P w=.ok () (w.setCell ⟨b,i,none⟩ (.int .u8 (c.toNat:Int))):=by
     have h3:=run_storeCells_cells (P:=P) b i [.int .u8 (c.toNat:Int)] 0 w (fun j C=>by
      have:j=0:=by simpa using C
      subst this;simpa using hcell) (fun j C=>by
      have:j=0:=by simpa using C
      subst this;simpa using hfz) (by simp[Value.oneCell'])
     simp only[Nat.add_zero]at h3;have U:ti.size=1:=by
      have:[PV.int .u8 (c.toNat:Int)].length=ti.size:=by simpa using hn
      simpa using this.symm
     simp[Instr.storeAt,Instr.sureAddr,storeVar,Go.sizeOf,typeInfo,hi,U,T,ev,h3,World.setCells]
    have hset:(w.setCell ⟨b,i,none⟩ (.int .u8 (c.toNat:Int))).heap[b]? =some (.cells (cs.setIfInBounds i (.int .u8 (c.toNat:Int))) e' (lo',p)):=by
     simp[World.setCell,Array.getElem?_modify,Q]
    refine⟨_,g,ρ,H,jq _,PH.le.refl H,?_,by simp[qR,qP,zz,undef]⟩;refine s.upd (k:=k) (b:=b) E v rfl rfl hH ⟨rfl,rfl,rfl,by simp[World.setCell],fun x _ hx=>?_⟩ ?_
    ·have:b≠x:=fun e=>hx e.symm
     simp[World.setCell,Array.getElem?_modify,this]
    subst hl';refine⟨b,_,e',cap,lo',p,by simp,hset,by simpa using S,fun j c' q=>?_,hH⟩;rw[jF]at q;rw[Array.getElem?_setIfInBounds];split at q
    ·rename_i V
     subst V;cases q;have hcs':i<cs.size:=by
      have:=h2 i _ (jf N);exact(jH.1 this).1
     simp[hcs']
    rename_i V;simp only[V,if_false];exact h2 j c' q
   have m:=h; clear h; obtain⟨l',⟨rfl,rfl,rfl,D,hpe⟩,h⟩:=m;have m:=vB h; clear h; obtain⟨h,hk⟩:=m;refine⟨_,_,h,by simp,fun bs ρ H w a xv s J rx=>?_⟩;obtain⟨b,n0,cap,v,rfl⟩:=J;obtain⟨b',cs,e',cap',lo',p,e1,Q,S,h2,hH⟩:=s.objs k _ _ E v;cases e1;have rl:=B ρ H _ (A ρ H xv rx);rw[hpe]at rl;have hvl:xv.cells.toList.length=l.length:=by rw[rl.length,jl,D]
   have T:xv.cells.size=l.length:=by simpa using hvl
   have hcz:l.length<=cs.size:=by
    rcases Nat.eq_zero_or_pos l.length with m|m
    ·omega
    have:=h2 (l.length - 1) _ (jf (by omega));have:=(jH.1 this).1;omega
   have X:∀ u∈xv.cells.toList,u.oneCell'=true:=by
    intro u hu;obtain⟨j,C⟩:=List.getElem?_of_mem hu;have hjl:j<l'.length:=by have:=(jG.1 C).1; omega
    have:=ZA rl j _ (jf hjl);rw[C]at this;cases this;rfl
   have g:(Instr.storeAt t (.pointer (some ⟨b,0 * 1+0,none⟩)) xv).run P w=.ok () (w.setCells b 0 xv.cells.toList):=by
    have h3:=run_storeCells_cells (P:=P) b 0 xv.cells.toList 0 w (fun j C=>by
     simp only[World.cell?,Q];have:j<l.length:=by omega
     rw[show 0+0+j=j from by omega];rw[h2 j _ (jf this)];rfl) (fun j C=>by
     simp only[World.frozen?,Q];have:¬ (lo'<=0+0+j/\0+0+j<p):=by omega
     simpa using fun h1=>Nat.le_of_not_lt fun h2=>this ⟨by simpa using h1,by simpa using h2⟩) X
    have U:ti.size=l.length:=by
     have:ps.length=ti.size:=by simpa using hn
     rw[← this,hpe,jl,D]
    simp only[Nat.add_zero]at h3;simp[Instr.storeAt,Instr.sureAddr,storeVar,Go.sizeOf,typeInfo,hi,U,T,h3]
   obtain⟨cs',a1,a2,_,a4,a5⟩:=Zw xv.cells.toList 0 w cs Q;refine⟨_,g,ρ,H,jq _,PH.le.refl H,?_,by simp[qR,qP,zz,undef]⟩;refine s.upd (k:=k) (b:=b) E v rfl rfl hH a5 ?_;refine⟨b,cs',e',cap,lo',p,by rw[D],a1,by rw[D]; exact S,fun j c' q=>?_,hH⟩;have C:=(jG.1 q).1;have:=a4 j _ (ZA rl j c' q) (by omega);simpa using this
  exact h.elim
 exact h.elim
theorem Nk {E:Env} {lo:List AObj} {t:TypeId} {n:Nat} {zi:List (Nat×Operand)} {R:FV->List AObj->Prop} (h:PW P E lo t n zi R) :
  ∃ r lo',R r lo'/\zH true lo lo'/\∀ (bs:Base) (ρ:List Value) (H:PH) (w:World) (eval:Operand->Value),SatW bs ρ H lo w->(∀ x∈zi.map (·.2),qR ρ H (evF (qT E) x) (eval x)) ->
   ∃ v w',(Instr.buildSlice t n (zi.map fun(i,x)=>(i,eval x)).toArray).run P w=.ok v w'/\dT bs ρ H r lo' v w':=by
 unfold PW at h;have l:=vY h; clear h; obtain⟨e,i,hu,u,h⟩:=l;have l:=ZF h; clear h; obtain⟨k,m,rows,d,o,h,p,f,y⟩:=l;have e1:k=e:=by rw[hu]at d; cases d; rfl
 subst e1;have e2:m=i:=Option.some.inj (o.symm.trans u);subst e2;simp only at h;have h:=xb h;have h:=xc h;refine⟨_,_,h,zH.push _,fun bs ρ H w eval s z=>?_⟩;obtain⟨xs,A,j,hone⟩:=y trivial ρ H w eval z;have a:(w.alloc (.cells xs.toArray k)).ownsRow 0 k m.size (.slice (some ⟨w.heap.size,0,none⟩) n n) (0+rows.length) ([]++xs):=by
  rw[jx,ju];refine⟨j.length,.inr ⟨w.heap.size,n,xs.toArray,by rw[p],jS _,heap_alloc_new w _,by rw[p]; exact jw _,f,by simp[j.length,p],?_⟩⟩;rw[← j.length];exact List.take_length
 obtain⟨c,sat⟩:=nT s (World.ownsRow_nil w 0 k m.size) (fun b B=>by simp[qZ]at B) (fun g q=>by simp[qZ]at q) (fun g q=>by simp[qZ]at q) j.length (by simpa using hone) a (.inr ⟨rfl,fU w _ _⟩)
 simp only[jx,ju]at a sat c;exact⟨_,_,A,_,_,List.prefix_append _ _,c,sat,by simp[← s.hlen],bu j c a⟩
theorem LA {gr:Bool} {E:Env} {lo:List AObj} {t:TypeId} {n:Nat} {zi:List (Nat×Operand)} {R:FV->List AObj->Prop} (h:Sg P gr E lo t n zi R) :
  ∃ a lo',R a lo'/\zH true lo lo'/\∀ (bs:Base) (ρ:List Value) (H:PH) (w:World) (eval:Operand->Value),SatW bs ρ H lo w->(∀ x∈zi.map (·.2),qR ρ H (evF (qT E) x) (eval x)) ->
   ∃ v w',(Instr.buildSlice t n (zi.map fun(i,x)=>(i,eval x)).toArray).run P w=.ok v w'/\dT bs ρ H a lo' v w':=by
 cases gr with
 | true=>exact Nk h
 | false=>exact Nl h
theorem PZ {src dst:TypeId} {lo:List AObj} {x:FV} {R:FV->List AObj->Prop} (h:lf P src dst lo x R) :
  ∃ f lo',R f lo'/\∀ (bs:Base) (ρ:List Value) (H:PH) (w:World) (v:Value),SatW bs ρ H lo w->qR ρ H x v->∃ u w',(convert src dst v).run P w=.ok u w'/\dT bs ρ H f lo' u w':=by
 unfold lf at h;split at h
 ·rename_i l
  split at h
  ·rename_i us m
   split at h
   ·rename_i e n
    split at h
    ·rename_i he
     have a:=xb h; clear h; have h:=a; clear a;have a:=xc h; clear h; have h:=a; clear a;refine⟨_,_,h,fun bs ρ H w v s rx=>?_⟩;have ev:=pt rx;subst ev;refine⟨_,_,Lib.run_convert_string_bytes w src dst e ⟨l.toArray⟩ m n he,?_⟩;have d:Keep (fun b=>b=w.heap.size) w (Lib.bytesWorld w e ⟨l.toArray⟩):=by
      refine⟨?_,?_,?_,by rw[Lib.bytesWorld_size]; omega,fun k d _=>Lib.bytesWorld_at_old w e _ k d⟩<;>simp[Lib.bytesWorld,World.freeze,World.alloc,World.drew,-World.alloc_eq,-World.drew_eq]
     have hz:(⟨l.toArray⟩:ByteArray).size=l.length:=ByteArray.size_mk_toArray l;refine⟨ρ++[.slice (some ⟨w.heap.size,0,none⟩) (⟨l.toArray⟩:ByteArray).size (grownCap w (⟨l.toArray⟩:ByteArray).size 0 e)],H,List.prefix_append _ _,PH.le.refl H,?_,?_⟩
     ·refine s.push (g:=w.heap.size) (.inl rfl) (s.fresh (jw _)) (.inr s.keep.size) (PH.le.refl H) (s.sath.block fun b o v p=>Lib.bytesWorld_at_old w e _ b (s.sath.lt p)) (fun b o v h=>.inl ⟨v,h⟩) d ?_
      refine⟨w.heap.size,_,e,_,_,_,by rw[hz],Lib.bytesWorld_at_new w e _,?_,?_,fun o=>?_⟩
      ·exact .inl (by simp[Lib.bytesCells])
      ·intro j c i
       have q:=(jG.1 i).1;simp only[Lib.bytesCells];rw[Array.getElem?_append_left (by simpa using q)];simp[i]
      cases r:H w.heap.size o with
      | none=>rfl
      | some x=>exact absurd (s.sath.lt r) (jR _)
     ·simp only[qR]
      refine⟨by simp[← s.hlen],.inr ⟨w.heap.size,_,by rw[hz]⟩⟩
    exact h.elim
   exact h.elim
  exact h.elim
 exact h.elim
theorem EA {bs:Base} {ρ:List Value} {H:PH} {lo:List AObj} (s:SatW bs ρ H lo w) {t ty e:TypeId} {i:TypeInfo} {R:Value} (hu:P.underlying t=some (.slice e)) (V:P.info? e=some i) (hz:i.zero=some R) (K:R.cells.size=i.size)
  {p:Nat} {rows:List (List PV)} {v:Value} (L:lo[p]? =some (.vec e i.size rows)) (M:ρ[p]? =some v) {news:List (List PV)} {x:Value} (rx:qP H (.sl news) x) (B:∀ r∈news,r.length=i.size)
  (S:(rows++news).length * i.bytes<=140737488355328) (C:(rows++news).length<=9223372036854775807) :
  ∃ v' w',(Builtin.append_ #[t,t] ty #[v,x]).run P w=.ok v' w'/\dT bs ρ H (.vsl (lo.set p .dead).length (rows++news).length) (lo.set p .dead++[.vec e i.size (rows++news)]) v' w':=by
 obtain⟨xs,D,N,h1,T⟩:=s.objs p _ _ L M;have run:∃ vs:List Value,cP H i.size news vs/\(∀ u∈vs,u.oneCell'=true) /\
   ((news.length=0/\x=.slice none 0 0)\/∃ a c,x=.slice (some a) news.length c/\∀ j u,vs[j]? =some u->w.cell? (a.add j)=some u):=by
  rcases GP rx B with ⟨rfl,ex|⟨a',E,ex⟩⟩|⟨b,o,cap,vs,ex,_,J,U⟩
  ·exact⟨[],rfl,by simp,.inl ⟨rfl,ex⟩⟩
  ·exact⟨[],rfl,by simp,.inr ⟨a',E,ex,fun j u hu=>by simp at hu⟩⟩
  exact⟨vs,J,cP.one s.sath U,.inr ⟨⟨b,o,none⟩,cap,ex,fun j u hu=>by rw[Addr.add_lit]; exact(s.sath.cell _ _ _ (U j u hu)).1⟩⟩
 obtain⟨vs,J,hone,O⟩:=run;rw[jb]at S C;obtain⟨v',w',X,n,Y⟩:=GA (P:=P) (w:=w) (ty:=ty) hu V hz K D J.length hone O C S;refine⟨v',w',X,?_⟩;have sk:=s.kill p;have hfree:∀ g,qZ v=some g->∀ (k:Nat) (o':AObj) (u:Value),(lo.set p .dead)[k]? =some o'->ρ[k]? =some u->o'.live=true->qZ u≠some g:=by
  intro g Z k o' u m d hl;rw[jF]at m;split at m
  ·split at m
   ·cases m; simp[AObj.live]at hl
   cases m
  ·rename_i Q
   exact s.excl p k _ o' _ u g L m M d Q rfl hl Z
 have hV:∀ {a b:List (List PV)} {us ws:List Value},cP H i.size a us->cP H i.size b ws->cP H i.size (a++b) (us++ws):=fun x y=>x.append y
 have z:∀ u∈xs++vs,u.oneCell'=true:=fun u d=>by
  rcases jy.1 d with h|h
  ·exact h1 u h
  exact hone u h
 have F:qR (ρ++[v']) H (.vsl (lo.set p .dead).length (rows++news).length) v':=by
  refine⟨by simp[← s.hlen],?_⟩;rw[jb];rcases n.2 with ⟨rfl,h0⟩|⟨g,cap,cur,rfl,_⟩
  ·exact .inl ⟨h0,rfl⟩
  exact .inr ⟨g,cap,rfl⟩
 have A:(∀ b,qZ v'=some b->∀ o,H b o=none)->ZK (ρ++[v']) H w' v' (.vec e i.size (rows++news)):=fun hn=>
  ⟨xs++vs,by rw[jb]; exact n,hV N J,z,hn⟩
 refine⟨ρ++[v'],H,List.prefix_append _ _,PH.le.refl H,?_,F⟩;rcases Y with ⟨q,G,k2⟩|⟨q,G⟩
 ·cases f:qZ v with
  | none=>
   have hw:=k2 f;subst hw;rw[f]at q;exact sk.push (g:=w'.heap.size) (.inr q) (sk.fresh (jw _)) (.inr sk.keep.size) (PH.le.refl H) sk.sath (fun b o u hu=>.inl ⟨u,hu⟩) (Keep.refl _ _) (A (fun b l=>by rw[q]at l; cases l))
  | some g=>
   rw[f]at q;refine sk.push (g:=g) (.inl q) (hfree g f) (s.own p _ _ g L M rfl f) (PH.le.refl H) (s.sath.block fun b o u d=>(G g f).block b (s.sath.lt d) (fun e=>by subst e; rw[T _ f o]at d; cases d)) (fun b o u hu=>.inl ⟨u,hu⟩) (G g f) (A (fun b l=>by rw[q]at l; cases l; exact T _ f))
 have I:∀ o,H w.heap.size o=none:=fun o=>by
  cases hx:H w.heap.size o with
  | none=>rfl
  | some u=>exact absurd (s.sath.lt hx) (jR _)
 refine sk.push (g:=w.heap.size) (.inl q) (sk.fresh (jw _)) (.inr sk.keep.size) (PH.le.refl H) (s.sath.block fun b o u d=>G.block b (s.sath.lt d) (fun e=>by have:=s.sath.lt d; omega)) (fun b o u hu=>.inl ⟨u,hu⟩) G (A (fun b l=>by rw[q]at l; cases l; exact I))
theorem ib {bs:Base} {ρ:List Value} {H:PH} {lo:List AObj} (s:SatW bs ρ H lo w) {t ty e e2:TypeId} {i:TypeInfo} {N:Value} (hu:P.underlying t=some (.slice e)) (T:P.info? e=some i) (hz:i.zero=some N) (D:N.cells.size=i.size)
  {f j E z2:Nat} {rows d:List (List PV)} {r:List PV} {v:Value} (O:lo[f]? =some (.vl e i.size rows j E)) (Q:ρ[f]? =some v) {news:List (List PV)} {x:Value} (rx:qP H (.sl news) x) (z:∀ r∈news,r.length=i.size)
  (A:rows++news=d\/Cn (rows++news) d) (B:news=[r]) (F:r[j]? =some .nilsl) (G:d.length * i.bytes<=140737488355328) (I:d.length<=9223372036854775807) :
  ∃ v' w',(Builtin.append_ #[t,t] ty #[v,x]).run P w=.ok v' w'/\dT bs ρ H (.vsl (lo.set f AObj.dead++[AObj.tail e2 z2 0]).length d.length) (lo.set f .dead++[AObj.tail e2 z2 0]++[.vl e i.size d j (lo.set f .dead).length]) v' w':=by
 have hlen:(rows++news).length=d.length:=by
  rcases A with h|h
  ·rw[h]
  exact mR h
 have n:f<lo.length:=(jG.1 O).1;have s1:=s.view O rfl (o':=.vec e i.size rows) rfl (fun v hv ok=>qaz ok)
 have s2:SatW bs (ρ++[.slice none 0 0]) H (lo.set f (.vec e i.size rows)++[.tail e2 z2 0]) w:=
  s1.push (g:=w.heap.size) (.inr rfl) (s1.fresh (jw _)) (.inr s1.keep.size) (PH.le.refl H) s1.sath (fun b o u hu=>.inl ⟨u,hu⟩) (Keep.refl _ _) ⟨[],World.ownsRow_nil w 0 e2 z2,fun b G=>by simp[qZ]at G⟩
 have J:(lo.set f (.vec e i.size rows)++[AObj.tail e2 z2 0])[f]? =some (.vec e i.size rows):=by
  rw[jB (by simpa using n)]; simp[n]
 have K:(ρ++[Value.slice none 0 0])[f]? =some v:=by
  rw[jB (jG.1 Q).1]; exact Q
 obtain⟨v',w',U,ρ3,V,m,X,R,L⟩:=EA (ty:=ty) s2 hu T hz D J K rx z (by rw[hlen]; exact G) (by rw[hlen]; exact I);have C:(lo.set f (.vec e i.size rows)++[AObj.tail e2 z2 0]).set f .dead=lo.set f .dead++[.tail e2 z2 0]:=by
  rw[List.set_append_left _ _ (by simpa using n),List.set_set]
 rw[C]at R L;have M:ρ3[(lo.set f AObj.dead).length]? =some (.slice none 0 0):=by
  obtain⟨l,rfl⟩:=m;rw[List.length_set,← s.hlen];simp
 have s4:=R.view (k:=(lo.set f AObj.dead++[AObj.tail e2 z2 0]).length) (o:=.vec e i.size (rows++news)) (o':=.vl e i.size d j (lo.set f AObj.dead).length) (by simp) rfl rfl (fun u hu ok=>by
  obtain⟨xs,h1,h2,h3,h4⟩:=ok;refine⟨xs,by rw[← hlen]; exact h1,h2.le A,h3,h4,fun c Y=>?_⟩;rw[M];subst B;have p:(rows++[r])[d.length - 1]? =some r:=by
   rw[← hlen]; simp
  obtain⟨a,Z,ha⟩:=h2.get p;obtain⟨q,hq,S⟩:=Z.get F;have:=ha j q hq;rw[Y]at this;cases this;simp only[qP]at S;rw[S])
 have y:(lo.set f AObj.dead++[AObj.tail e2 z2 0]++[AObj.vec e i.size (rows++news)]).set (lo.set f AObj.dead++[AObj.tail e2 z2 0]).length (.vl e i.size d j (lo.set f AObj.dead).length)=lo.set f .dead++[.tail e2 z2 0]++[.vl e i.size d j (lo.set f .dead).length]:=by
  rw[List.set_append_right _ _ (jw _),Nat.sub_self]; rfl
 rw[y]at s4;obtain⟨l,hl⟩:=m;rw[hlen]at L;exact⟨v',w',U,ρ3,V,⟨[.slice none 0 0]++l,by rw[← hl]; simp⟩,X,s4,L⟩
theorem GG {o:Oper} {E:Env} {lo:List AObj} {R:FV->List AObj->Prop} (h:qak P o.op E lo R):∃ fv lo',R fv lo'/\zH (BK o.op) lo lo'/\fg P o (qT E) lo none fv lo':=by
 obtain⟨dst,op,ty,pos,after,guard⟩:=o;simp only at h;unfold qak at h;split at h
 ·
  rename_i t x;have m:=qG h; clear h; obtain⟨x',h,C⟩:=m;have m:=Zj h; clear h; obtain⟨cs,h,hcs⟩:=m;split at h
  ·rename_i h1
   have h:=xb h;have h:=xc h;refine⟨_,_,h,zH.push _,fun l bs ρ H w eval s B=>?_⟩;have rc:=hcs ρ H _ (C ρ H _ l (B x (by simp[kg])));simp only[execOp,Instr.box,ke,Vd,kc,kf];refine⟨_,H,List.prefix_append _ _,PH.le.refl H,s.pushBox (t:=t) rc,?_⟩;exact⟨w.heap.size,by simp[← s.hlen],rfl⟩
  exact h.elim
 ·
  rename_i t;obtain⟨i,z,ps,Q,hz,h,hps⟩:=GS h;have h:=Qp h;split at h
  ·rename_i h1
   have h:=xb h;have h:=xc h;refine⟨_,_,h,zH.push _,fun l bs ρ H w eval s B=>?_⟩;simp only[execOp,Instr.alloc,ke,zeroValue,typeInfo,run_program,Q,hz,Vd,kc,kf];refine⟨_,H,List.prefix_append _ _,PH.le.refl H,s.pushBox (t:=t) (zZ.of_RepL (hps H)),?_⟩;exact⟨w.heap.size,by simp[← s.hlen],rfl⟩
  exact h.elim
 ·
  rename_i t a x;have m:=qG h; clear h; obtain⟨a',h,ha'⟩:=m;have m:=qG h; clear h; obtain⟨x',h,C⟩:=m;split at h
  ·rename_i k off
   have m:=Zj h; clear h; obtain⟨cs,h,hcs⟩:=m;split at h
   ·rename_i h1
    have h:=xb h;obtain⟨d,i,hd,Q,h⟩:=vZ h;split at h
    ·rename_i hn
     have hn:=EB hn;have m:=zE h; clear h; obtain⟨ob,p,h⟩:=m;split at h
     ·rename_i bt cells
      obtain⟨h,hlen⟩:=rB h;obtain⟨h,hk⟩:=vB h;refine⟨_,_,h,zH.set _ _,fun l bs ρ H w eval s B=>?_⟩;obtain⟨b,G,e⟩:=ha' ρ H _ l (B a (by simp[kg]));have rc:=hcs ρ H _ (C ρ H _ l (B x (by simp[kg])));obtain⟨b',vs,e',hg',I,hH⟩:=s.objs k _ _ p G;cases e';have hsz:(eval x).cells.size=cs.length:=by have:=rc.length; simpa using this
      have J:=Fk (P:=P) (w:=w) (t:=t) (bt:=bt) Q hg' (x:=eval x) (off:=off) (by omega) (by rw[I.length]; omega) (Bo h1 rc);simp only[execOp,e,ke,J,kc,kf];refine⟨ρ,H,jq _,PH.le.refl H,s.setBox p G hg' hH ?_,by simp[qR,qP,zz,undef]⟩;rw[hsz];exact((I.take off).append rc).append (I.drop _)
     exact h.elim
    exact h.elim
   exact h.elim
  ·rename_i k z i off
   have m:=LG h; clear h; obtain⟨fv,lo',h,hl,hs⟩:=m;refine⟨fv,lo',h,zH.len hl,fun l bs ρ H w eval s B=>?_⟩;obtain⟨w',J,af⟩:=hs bs ρ H w _ _ s (ha' ρ H _ l (B a (by simp[kg]))) (C ρ H _ l (B x (by simp[kg])));simp only[execOp,ke,J,kc,kf];exact af
  exact h.elim
 ·
  rename_i sx xx t t';split at h
  ·rename_i htt
   have htt:=EB htt;subst htt;have m:=qG h; clear h; obtain⟨s',h,S⟩:=m;have m:=qG h; clear h; obtain⟨x',h,C⟩:=m;have m:=BT h; clear h; obtain⟨news,h,K⟩:=m;split at h
   ·rename_i Z n0
    unfold Sf at h;have m:=vY h; clear h; obtain⟨e,i,hu,Q,h⟩:=m;split at h
    ·exact h.elim
    split at h
    ·rename_i i' hi'
     have:i'=i:=Option.some.inj (hi'.symm.trans Q);subst this;split at h
     ·rename_i zv N
      split at h
      ·rename_i L
       have L:=EB L;have m:=zE h; clear h; obtain⟨ob,p,h⟩:=m;split at h
       ·rename_i e' z' rows
        obtain⟨rows',⟨rfl,he,hz,v,G,D⟩,h⟩:=h;subst he; subst hz;obtain⟨h,hk0⟩:=vB h;have h:=xb h;have h:=xc h;refine⟨_,_,h,zH.kill _ p rfl,fun l bs ρ H w eval s B=>?_⟩;obtain⟨hρ,_⟩:=S ρ H _ l (B sx (by simp[kg,kh]));have rx:=K ρ H _ (C ρ H _ l (B xx (by simp[kg,kh])));obtain⟨v',w',J,af⟩:=EA (ty:=ty) s hu Q N L p hρ rx v G D;simp only[execOp,resolve,invoke,builtin,ke,kf,kc,kb,jk,jN,J];rw[jx];exact af
       ·rename_i e' z' rows j kt0
        obtain⟨rows',r,e2,z2,⟨y,⟨hnew,hrj⟩,rfl,rfl,v,G,D⟩,h⟩:=h;obtain⟨h,hk0⟩:=vB h;have h:=xb h;have h:=xc h;have h:=xb h;have h:=xc h;refine⟨_,_,h,zH.trans (zH.kill _ p rfl) (zH.push _),fun l bs ρ H w eval s B=>?_⟩;obtain⟨hρ,_⟩:=S ρ H _ l (B sx (by simp[kg,kh]));have rx:=K ρ H _ (C ρ H _ l (B xx (by simp[kg,kh])));obtain⟨v',w',J,af⟩:=ib (ty:=ty) (e2:=e2) (z2:=z2) s hu Q N L p hρ rx v y hnew hrj G D;simp only[execOp,resolve,invoke,builtin,ke,kf,kc,kb,jk,jN,J];simp only[jx];exact af
       exact h.elim
      exact h.elim
     exact h.elim
    exact h.elim
   have m:=vY h; clear h; obtain⟨e,i,hu,Q,h⟩:=m;split at h
   ·exact h.elim
   split at h
   ·rename_i i' hi'
    have:i'=i:=Option.some.inj (hi'.symm.trans Q);subst this;split at h
    ·rename_i zv N
     split at h
     ·rename_i L
      have L:=EB L;split at h
      ·
       obtain⟨⟨v,G,D⟩,h⟩:=h;have h:=xb h;have h:=xc h;refine⟨_,_,h,zH.push _,fun l bs ρ H w eval s B=>?_⟩;have es:eval sx=.slice none 0 0:=by
        have:=S ρ H _ l (B sx (by simp[kg,kh]));simpa[qR,qP]using this
       have rx:=K ρ H _ (C ρ H _ l (B xx (by simp[kg,kh])));have run:∃ vs:List Value,cP H i'.size news vs/\(∀ u∈vs,u.oneCell'=true) /\
         ((news.length=0/\eval xx=.slice none 0 0)\/∃ a c,eval xx=.slice (some a) news.length c/\∀ j u,vs[j]? =some u->w.cell? (a.add j)=some u):=by
        rcases GP rx v with ⟨rfl,ex|⟨a',O,ex⟩⟩|⟨b,o,cap,vs,ex,_,T,hc⟩
        ·exact⟨[],rfl,by simp,.inl ⟨rfl,ex⟩⟩
        ·exact⟨[],rfl,by simp,.inr ⟨a',O,ex,fun j u hu=>by simp at hu⟩⟩
        exact⟨vs,T,cP.one s.sath hc,.inr ⟨⟨b,o,none⟩,cap,ex,fun j u hu=>by rw[Addr.add_lit]; exact(s.sath.cell _ _ _ (hc j u hu)).1⟩⟩
       obtain⟨vs,T,hone,hxx⟩:=run;obtain⟨v',w',J,f,hk⟩:=GA (P:=P) (w:=w) (ty:=ty) hu Q N L (World.ownsRow_nil w 0 e i'.size) T.length hone hxx (by omega) (by simpa using G);obtain⟨y,sat⟩:=nT s (World.ownsRow_nil w 0 e i'.size) (fun b G=>by simp[qZ]at G) (fun g l=>by simp[qZ]at l) (fun g l=>by simp[qZ]at l) T.length (by simpa using hone) f hk
       simp only[execOp,resolve,invoke,builtin,ke,kf,kc,kb,jk,jN,es,J];simp only[jx,ju]at f sat y;refine⟨_,_,List.prefix_append _ _,y,sat,by simp[← s.hlen],bu T y f⟩
      ·
       rename_i Z rows _;obtain⟨⟨v,G,D⟩,h⟩:=h;have m:=zE h; clear h; obtain⟨ob,p,h⟩:=m;split at h
       ·rename_i e' z' n
        obtain⟨⟨he,hz,hn⟩,h⟩:=h;subst he; subst hz; subst hn;obtain⟨h,hk0⟩:=vB h;have h:=xb h;have h:=xc h;refine⟨_,_,h,zH.kill _ p rfl,fun l bs ρ H w eval s B=>?_⟩;have rs:=S ρ H _ l (B sx (by simp[kg,kh]));obtain⟨F,rsl⟩:=rs;have rx:=K ρ H _ (C ρ H _ l (B xx (by simp[kg,kh])));obtain⟨xs,q,hxs⟩:=s.objs Z _ _ p F;have run:∃ vs:List Value,cP H i'.size news vs/\(∀ u∈vs,u.oneCell'=true) /\
          ((news.length=0/\eval xx=.slice none 0 0)\/∃ a c,eval xx=.slice (some a) news.length c/\∀ j u,vs[j]? =some u->w.cell? (a.add j)=some u):=by
         rcases GP rx (fun r J=>v r (by simp[J]))with ⟨rfl,ex|⟨a',O,ex⟩⟩|⟨b,o,cap,vs,ex,_,T,hc⟩
         ·exact⟨[],rfl,by simp,.inl ⟨rfl,ex⟩⟩
         ·exact⟨[],rfl,by simp,.inr ⟨a',O,ex,fun j u hu=>by simp at hu⟩⟩
         exact⟨vs,T,cP.one s.sath hc,.inr ⟨⟨b,o,none⟩,cap,ex,fun j u hu=>by rw[Addr.add_lit]; exact(s.sath.cell _ _ _ (hc j u hu)).1⟩⟩
        obtain⟨vs,T,hone,hxx⟩:=run;have old:cP H i'.size rows xs/\∀ u∈xs,u.oneCell'=true:=by
         rcases GP rsl (fun r J=>v r (by simp[J]))with ⟨rfl,ex⟩|⟨b,o,cap,us,ex,_,hv',hc⟩
         ·have:xs=[]:=jI (by simpa using q.1)
          subst this;exact⟨rfl,by simp⟩
         have hbk:qZ (eval sx)=some b:=by rw[ex]; rfl
         have ho:o=0:=by
          rcases q.2 with ⟨M,_⟩|⟨g,O,cur,M,_⟩
          ·rw[ex]at M; cases M
          rw[ex]at M; injection M with M; injection M with M; injection M
         subst ho;have:xs=us:=by
          refine List.ext_getElem? fun j=>?_;have l1:xs.length=us.length:=by rw[q.1,hv'.length]
          rcases Nat.lt_or_ge j xs.length with hj|hj
          ·have h1:=(hxs b hbk).1 j _ (jf hj)
           have h2:=hc j _ (jf (show j<us.length by omega));rw[jx]at h2;rw[jf hj,jf (show j<us.length by omega),← h1,← h2]
          rw[List.getElem?_eq_none hj,List.getElem?_eq_none (by omega)]
         subst this;exact⟨hv',cP.one s.sath hc⟩
        obtain⟨hvo,U⟩:=old;obtain⟨v',w',J,f,hk⟩:=GA (P:=P) (w:=w) (ty:=ty) hu Q N L q T.length hone hxx (by rw[jb]at D; exact D) (by rw[jb]at G; exact G);have sk:=s.kill Z;obtain⟨y,sat⟩:=nT sk q hxs (fun g l k o' u A V hl=>by
          rw[jF]at A;split at A
          ·first
            | (cases A; simp[AObj.live]at hl; done)
            | (split at A<;>first|(cases A; done)|(cases A; simp[AObj.live]at hl))
          ·rename_i hne
           exact s.excl Z k _ o' _ u g p A F V hne rfl hl l)
         (fun g l=>s.own Z _ _ g p F rfl l) T.length (fun u V=>by
          rcases jy.1 V with h|h
          ·exact U u h
          exact hone u h) f hk
        simp only[execOp,resolve,invoke,builtin,ke,kf,kc,kb,jk,jN,J];refine⟨_,_,List.prefix_append _ _,y,by rw[jb]; exact sat,?_,bu (hvo.append T) y (by rw[jb]; exact f)⟩;have:(0+(lo.set Z AObj.dead).length)=ρ.length:=by simp[s.hlen]
        rw[this];simp
       exact h.elim
      exact h.elim
     exact h.elim
    exact h.elim
   exact h.elim
  have m:=qG h; clear h; obtain⟨s',h,S⟩:=m;have m:=qG h; clear h; obtain⟨x',h,C⟩:=m;split at h
  case h_2=>exact h.elim
  rename_i str;split at h
  case h_2=>exact h.elim
  rename_i hut;have m:=vY h; clear h; obtain⟨e,i,hu,Q,h⟩:=m;split at h
  case h_2=>exact h.elim
  rename_i X;have X:=EB X;split at h
  case h_2=>exact h.elim
  rename_i i' hi';have:i'=i:=Option.some.inj (hi'.symm.trans Q);subst this;split at h
  case h_2=>exact h.elim
  rename_i N;have Y:(qx str).length=str.length:=by simp[qx]
  split at h
  ·obtain⟨⟨G,D⟩,h⟩:=h
   have h:=xb h;have h:=xc h;refine⟨_,_,h,zH.push _,fun l bs ρ H w eval s B=>?_⟩;have es:eval sx=.slice none 0 0:=by
    have:=S ρ H _ l (B sx (by simp[kg,kh]));simpa[qR,qP]using this
   have ex:=pt (C ρ H _ l (B xx (by simp[kg,kh])));obtain⟨v',w',J,f,hk⟩:=Qn (P:=P) (w:=w) (ty:=ty) hu hut Q N X (World.ownsRow_nil w 0 e 1) str (by omega) (by rw[Y]at G; simpa using G);have T:=PE H str;obtain⟨y,sat⟩:=nT s (World.ownsRow_nil w 0 e 1) (fun b G=>by simp[qZ]at G) (fun g l=>by simp[qZ]at l) (fun g l=>by simp[qZ]at l) (by rw[Lib.strCells_length,tt,Nat.mul_one]) (by simpa using Lib.strCells_oneCell _) f hk
   simp only[execOp,resolve,invoke,builtin,ke,kf,kc,kb,jk,jN,es,ex,J];simp only[jx,ju]at f sat y;refine⟨_,_,List.prefix_append _ _,y,by rw[X,Y]; exact sat,by simp[← s.hlen],bu T y (by rw[Y]; exact f)⟩
  ·rename_i Z rows
   obtain⟨⟨v,G,D⟩,h⟩:=h;have m:=zE h; clear h; obtain⟨ob,p,h⟩:=m;split at h
   case h_2=>exact h.elim
   rename_i e' z' n;obtain⟨⟨he,hz,hn⟩,h⟩:=h;subst he; subst hz; subst hn;obtain⟨h,hk0⟩:=vB h;have h:=xb h;have h:=xc h;refine⟨_,_,h,zH.kill _ p rfl,fun l bs ρ H w eval s B=>?_⟩;have rs:=S ρ H _ l (B sx (by simp[kg,kh]));obtain⟨F,rsl⟩:=rs;have ex:=pt (C ρ H _ l (B xx (by simp[kg,kh])));obtain⟨xs,q,hxs⟩:=s.objs Z _ _ p F;have old:cP H 1 rows xs/\∀ u∈xs,u.oneCell'=true:=by
    rcases GP rsl v with ⟨rfl,ex⟩|⟨b,o,cap,us,ex,_,hv',hc⟩
    ·have:xs=[]:=jI (by simpa using q.1)
     subst this;exact⟨rfl,by simp⟩
    have hbk:qZ (eval sx)=some b:=by rw[ex]; rfl
    have ho:o=0:=by
     rcases q.2 with ⟨M,_⟩|⟨g,O,cur,M,_⟩
     ·rw[ex]at M; cases M
     rw[ex]at M; injection M with M; injection M with M; injection M
    subst ho;have:xs=us:=by
     refine List.ext_getElem? fun j=>?_;have l1:xs.length=us.length:=by rw[q.1,hv'.length]
     rcases Nat.lt_or_ge j xs.length with hj|hj
     ·have h1:=(hxs b hbk).1 j _ (jf hj)
      have h2:=hc j _ (jf (show j<us.length by omega));rw[jx]at h2;rw[jf hj,jf (show j<us.length by omega),← h1,← h2]
     rw[List.getElem?_eq_none hj,List.getElem?_eq_none (by omega)]
    subst this;exact⟨hv',cP.one s.sath hc⟩
   obtain⟨hvo,U⟩:=old;rw[jb,Y]at G D;obtain⟨v',w',J,f,hk⟩:=Qn (P:=P) (w:=w) (ty:=ty) hu hut Q N X q str D G;have T:=PE H str;have sk:=s.kill Z;obtain⟨y,sat⟩:=nT sk q hxs (fun g l k o' u A V hl=>by
     rw[jF]at A;split at A
     ·first
       | (cases A; simp[AObj.live]at hl; done)
       | (split at A<;>first|(cases A; done)|(cases A; simp[AObj.live]at hl))
     ·rename_i hne
      exact s.excl Z k _ o' _ u g p A F V hne rfl hl l)
    (fun g l=>s.own Z _ _ g p F rfl l) (by rw[Lib.strCells_length,tt,Nat.mul_one]) (fun u V=>by
     rcases jy.1 V with h|h
     ·exact U u h
     exact Lib.strCells_oneCell _ u h) f hk
   simp only[execOp,resolve,invoke,builtin,ke,kf,kc,kb,jk,jN,ex,J];refine⟨_,_,List.prefix_append _ _,y,by rw[X,jb,Y]; exact sat,?_,bu (hvo.append T) y (by rw[jb,Y]; exact f)⟩;have:(0+(lo.set Z AObj.dead).length)=ρ.length:=by simp[s.hlen]
   rw[this];simp
  exact h.elim
 exact Rc (o:=⟨dst,_,ty,pos,after,guard⟩) h
end
end Ax
end
section
namespace Ax
open Go
section
variable {P:Program} {w:World}
theorem SatW.publishN {bs:Base} {ρ:List Value} {H:PH} {lo:List AObj} {w:World} (s:SatW bs ρ H lo w) {k:Nat} {e:TypeId} {z:Nat} {rows:List (List PV)} {v:Value} (m:lo[k]? =some (.vec e z rows)) (n:ρ[k]? =some v) :
  ∃ H',PH.le H H'/\SatW bs ρ H' (lo.set k .dead) w/\qP H' (.sl rows) v/\∀ b o,H b o=none->H' b o=none\/qZ v=some b:=by
 obtain⟨xs,a,y,h1,A⟩:=s.objs k _ _ m n;rcases a.2 with ⟨rfl,B⟩|⟨g,cap,cur,j,_,E,C,_⟩
 ·have:rows=[]:=jI B
  subst this;exact⟨H,PH.le.refl H,s.kill k,by simp[qP],fun _ _ h=>.inl h⟩
 have p:qZ v=some g:=by rw[j]; rfl
 have c:PH.le H (vA H v xs):=by
  intro b o u hu;unfold vA;split
  ·rename_i d
   rw[p]at d;obtain⟨q,_⟩:=d;cases q;rw[A g p o]at hu;cases hu
  ·exact hu
 have sk:=s.kill k;refine⟨vA H v xs,c,?_,bu y c a,fun b o h=>?_⟩
 rotate_left
 ·unfold vA
  split
  ·rename_i d; exact .inr d.1
  exact .inl h
 refine{ sath:=⟨fun b o u hu=>?_,s.sath.root.mono c⟩,hlen:=sk.hlen,pre:=sk.pre,objs:=fun i oi x f l=>?_,excl:=sk.excl,own:=sk.own,keep:=sk.keep,leH:=sk.leH.trans c,newH:=fun b o u hu=>?_ }
 ·unfold vA at hu
  split at hu
  ·rename_i d
   rw[p]at d;obtain⟨q,_⟩:=d;cases q;have:=a.cells (g:=g) (by rw[j]; rfl) o u hu;rw[Addr.add_lit,jx]at this;exact⟨this,h1 u (List.mem_of_getElem? hu)⟩
  exact s.sath.cell b o u hu
 ·rw[jF]at f
  split at f
  ·split at f
   ·cases f; trivial
   cases f
  ·rename_i r
   cases hl:oi.live with
   | false=>cases oi<;>simp[AObj.live]at hl; trivial
   | true=>
    refine(s.objs i oi x f l).keep (jq _) c (fun _ _ _=>rfl) (fun b o' t _ D=>?_)
    unfold vA;rw[if_neg (fun d=>s.excl k i _ oi _ x b m f n l r rfl hl d.1 t)]
    exact D
 unfold vA at hu;split at hu
 ·rename_i d
  exact .inr (s.own k _ v b m n rfl d.1)
 exact s.newH b o u hu
theorem SatW.publish {bs:Base} {ρ:List Value} {H:PH} {lo:List AObj} {w:World} (s:SatW bs ρ H lo w) {k:Nat} {e:TypeId} {z:Nat} {rows:List (List PV)} {v:Value} (d:lo[k]? =some (.vec e z rows)) (f:ρ[k]? =some v) :
  ∃ H',PH.le H H'/\SatW bs ρ H' (lo.set k .dead) w/\qP H' (.sl rows) v:=
 let ⟨H',a,b,c,_⟩:=s.publishN d f
 ⟨H',a,b,c⟩
def lp (P:Program) (own grow:Bool) (lo:List AObj) (t:TypeId) (l c:FV) (R:FV->List AObj->Prop):Prop:=
 match l with
 | .p (.int _ l)=>match c with
  | .p (.int _ c)=>Vq P t fun e z=>match P.info? e with
   | some i=>aS P e fun a=>match own with
    | false=>match grow with
     | false=>∃ n:Nat,(l=0/\c=n/\n * i.bytes<=140737488355328/\n<=9223372036854775807)/\VB lo 0 fun k=>rj lo (.tail e z 0) fun lo=>R (.tsl k []) lo
     | true=>∃ (n:Nat) (rows:List (List PV)),(l=n/\c=n/\n * i.bytes<=140737488355328/\n<=9223372036854775807/\(List.replicate n a=rows\/Cn (List.replicate n a) rows)/\a.length=z/\z≠0/\a.all EW=true) /\
       rj lo .dead fun lo=>R (.p (.sl rows)) lo
    | true=>match grow with
     | false=>∃ (n:Nat) (rows:List (List PV)),(l=n/\c=n/\n * i.bytes<=140737488355328/\n<=9223372036854775807/\(List.replicate n a=rows\/Cn (List.replicate n a) rows)/\a.length=z/\z≠0/\a.all EW=true) /\
       VB lo 0 fun k=>rj lo (.vec e z rows) fun lo=>R (.vsl k rows.length) lo
     | true=>(l=1/\c=1/\i.bytes<=140737488355328/\a.length=z/\z≠0)/\eU a fun cs=>match Uv cs with
      | true=>VB lo 0 fun k=>rj lo (.box e cs) fun lo=>R (.bsl k 0 1 1) lo
      | false=>False
   | none=>False
  | _=>False
 | _=>False
theorem Nt (z:Array Value) (n:Nat) (hz:z.size≠0):(madeCells z ((n+1) * z.size)).toList=z.toList++(madeCells z (n * z.size)).toList:=by
 unfold madeCells;simp only[Array.toList_map,Array.toList_range];rw[Nat.add_mul,Nat.one_mul,Nat.add_comm (n * z.size),List.range_add,List.map_append,List.map_map];congr 1
 ·refine List.ext_getElem? fun j=>?_
  simp only[List.getElem?_map,List.getElem?_range];by_cases a:j<z.size
  ·simp[List.getElem?_range a,a,Nat.mod_eq_of_lt a]
  have h2:z.toList[j]? =none:=by simp; omega
  rw[h2];simp; omega
 refine List.map_congr_left fun j _=>?_;simp[Nat.add_mod_left]
theorem BJ {H:PH} {a:List PV} {b:Value} (c:zz H a b.cells.toList) (d:a.length≠0):∀ n:Nat,cP H a.length (List.replicate n a) (madeCells b.cells (n * b.cells.size)).toList
 | 0=>by simp[cP,madeCells]
 | n+1=>by
  have hl:=c.length;have hz:b.cells.size≠0:=by simp at hl; omega
  rw[Nt _ _ hz,List.replicate_succ];exact⟨rfl,_,_,rfl,c,BJ c d n⟩
theorem Ri {own grow:Bool} {lo:List AObj} {t:TypeId} {l c:FV} {R:FV->List AObj->Prop} (h:lp P own grow lo t l c R) :
  ∃ X lo',R X lo'/\zH true lo lo'/\∀ (bs:Base) (ρ:List Value) (H:PH) (w:World) (vl vc:Value),SatW bs ρ H lo w->qR ρ H l vl->qR ρ H c vc ->
   ∃ v w',(Instr.makeSlice t vl vc).run P w=.ok v w'/\dT bs ρ H X lo' v w':=by
 unfold lp at h;split at h
 case h_2=>exact h.elim
 rename_i I l;split at h
 case h_2=>exact h.elim
 rename_i J c;have p:=vY h; clear h; obtain⟨e,i,hu,E,h⟩:=p;rw[E]at h;have p:=GS h; clear h; obtain⟨d,a,zs,T,hz,h,q⟩:=p;obtain rfl:d=i:=Option.some.inj (T.symm.trans E);split at h
 ·split at h
  ·have p:=h; clear h; obtain⟨n,⟨rfl,rfl,B,C⟩,h⟩:=p
   have h:=xb h;have h:=xc h;refine⟨_,_,h,zH.push _,fun bs ρ H w vl vc s K rc=>?_⟩;rw[xD K,xD rc];obtain⟨w',G,r,Y⟩:=run_make_own (P:=P) w 0 t e d a d.size hu E hz rfl I J n (by rw[Nat.mul_comm]; omega) C (jS _);have f:=run_make (P:=P) w t e d a hu E hz I J 0 n (Int.le_refl _) (by omega) (by
    have:((d.bytes * n:Nat):Int)<=281474976710656:=by rw[Nat.mul_comm]; omega
    rwa [Int.natCast_mul]at this) (by omega)
   simp only[Int.toNat_zero,jU]at f;have hw:w'=w.alloc (.cells (madeCells a.cells (n * d.size)) e):=by
    rw[G]at f
    injection f
   subst hw;refine⟨_,_,G,ρ++[.slice (some ⟨w.heap.size,0,none⟩) 0 n],H,List.prefix_append _ _,PH.le.refl H,?_,?_⟩
   ·refine s.push (g:=w.heap.size) (.inl rfl) (s.fresh (jw _)) (.inr s.keep.size) (PH.le.refl H) (de s.sath _) (fun b o v h=>.inl ⟨v,h⟩) (fU w _ _) ?_
    refine⟨[],r,fun b B=>⟨fun j u hu=>by simp at hu,fun o _=>?_⟩⟩
    simp only[qZ,Option.some.injEq]at B;subst B;cases M:H w.heap.size o with
    | none=>rfl
    | some x=>exact absurd (s.sath.lt M) (jR _)
   ·refine⟨by simp[← s.hlen],?_⟩
    simp only[qP];exact .inl ⟨trivial,.inr ⟨_,_,rfl⟩⟩
  have p:=h; clear h; obtain⟨n,rows,⟨rfl,rfl,B,C,m,F,N,hone⟩,h⟩:=p;have h:=xc h;refine⟨_,_,h,zH.push _,fun bs ρ H w vl vc s K rc=>?_⟩;rw[xD K,xD rc];have D:a.cells.size=d.size:=by have:=(q H).length; simp at this; omega
  obtain⟨w',G,r,Y⟩:=run_make_full (P:=P) w 0 t e d a d.size hu E hz rfl I J n (by rw[Nat.mul_comm]; omega) C (jS _);have f:=run_make (P:=P) w t e d a hu E hz I J n n (by omega) (Int.le_refl _) (by
   have:((d.bytes * n:Nat):Int)<=281474976710656:=by rw[Nat.mul_comm]; omega
   rwa [Int.natCast_mul]at this) (by omega)
  simp only[jU]at f;have hw:w'=w.alloc (.cells (madeCells a.cells (n * d.size)) e):=by
   rw[G]at f
   injection f
  subst hw;have hlen:rows.length=n:=by
   rcases m with rfl|m
   ·simp
   have:=mR m; simpa using this.symm
  have y:=BJ (q H) (by omega) n;have L:cP H d.size rows (madeCells a.cells (n * d.size)).toList:=by
   rw[D,F]at y;exact cP.le m y
  have h1:∀ u∈(madeCells a.cells (n * d.size)).toList,u.oneCell'=true:=by
   intro u A;unfold madeCells at A;simp only[Array.toList_map,List.mem_map]at A;obtain⟨j,_,rfl⟩:=A;have U:j % a.cells.size<a.cells.size:=Nat.mod_lt _ (by omega);have hm:a.cells[j % a.cells.size]! ∈a.cells.toList:=by
    rw[getElem!_pos a.cells _ U];simp
   exact zz.one (fun c V=>(List.all_eq_true.1 hone) c V) (q H) _ hm
  have sp:SatW bs (ρ++[.slice (some ⟨w.heap.size,0,none⟩) n n]) H (lo++[.vec e d.size rows]) (w.alloc (.cells (madeCells a.cells (n * d.size)) e)):=by
   refine s.push (g:=w.heap.size) (.inl rfl) (s.fresh (jw _)) (.inr s.keep.size) (PH.le.refl H) (de s.sath _) (fun b o v h=>.inl ⟨v,h⟩) (fU w _ _) ?_;refine⟨_,by rw[hlen]; exact r,L,h1,fun b B o=>?_⟩;simp only[qZ,Option.some.injEq]at B;subst B;cases M:H w.heap.size o with
   | none=>rfl
   | some x=>exact absurd (s.sath.lt M) (jR _)
  obtain⟨H',O,Q,Z⟩:=sp.publish (k:=lo.length) (e:=e) (z:=d.size) (rows:=rows) (v:=.slice (some ⟨w.heap.size,0,none⟩) n n) (by simp) (by simp[← s.hlen]);have S:(lo++[AObj.vec e d.size rows]).set lo.length .dead=lo++[.dead]:=by simp
  rw[S]at Q;exact⟨_,_,G,_,H',List.prefix_append _ _,O,Q,Z⟩
 split at h
 ·have p:=h; clear h; obtain⟨n,rows,⟨rfl,rfl,B,C,m,F,N,hone⟩,h⟩:=p
  have h:=xb h;have h:=xc h;refine⟨_,_,h,zH.push _,fun bs ρ H w vl vc s K rc=>?_⟩;rw[xD K,xD rc];have D:a.cells.size=d.size:=by have:=(q H).length; simp at this; omega
  obtain⟨w',G,r,Y⟩:=run_make_full (P:=P) w 0 t e d a d.size hu E hz rfl I J n (by rw[Nat.mul_comm]; omega) C (jS _);have f:=run_make (P:=P) w t e d a hu E hz I J n n (by omega) (Int.le_refl _) (by
   have:((d.bytes * n:Nat):Int)<=281474976710656:=by rw[Nat.mul_comm]; omega
   rwa [Int.natCast_mul]at this) (by omega)
  simp only[jU]at f;have hw:w'=w.alloc (.cells (madeCells a.cells (n * d.size)) e):=by
   rw[G]at f
   injection f
  subst hw;have hlen:rows.length=n:=by
   rcases m with rfl|m
   ·simp
   have:=mR m; simpa using this.symm
  have y:=BJ (q H) (by omega) n;have L:cP H d.size rows (madeCells a.cells (n * d.size)).toList:=by
   rw[D,F]at y;exact cP.le m y
  have h1:∀ u∈(madeCells a.cells (n * d.size)).toList,u.oneCell'=true:=by
   intro u A;unfold madeCells at A;simp only[Array.toList_map,List.mem_map]at A;obtain⟨j,_,rfl⟩:=A;have U:j % a.cells.size<a.cells.size:=Nat.mod_lt _ (by omega);have hm:a.cells[j % a.cells.size]! ∈a.cells.toList:=by
    rw[getElem!_pos a.cells _ U];simp
   exact zz.one (fun c V=>(List.all_eq_true.1 hone) c V) (q H) _ hm
  refine⟨_,_,G,ρ++[.slice (some ⟨w.heap.size,0,none⟩) n n],H,List.prefix_append _ _,PH.le.refl H,?_,?_⟩
  ·refine s.push (g:=w.heap.size) (.inl rfl) (s.fresh (jw _)) (.inr s.keep.size) (PH.le.refl H) (de s.sath _) (fun b o v h=>.inl ⟨v,h⟩) (fU w _ _) ?_
   refine⟨_,by rw[hlen]; exact r,L,h1,fun b B o=>?_⟩;simp only[qZ,Option.some.injEq]at B;subst B;cases M:H w.heap.size o with
   | none=>rfl
   | some x=>exact absurd (s.sath.lt M) (jR _)
  ·exact⟨by simp[← s.hlen],.inr ⟨w.heap.size,n,by rw[hlen]⟩⟩
 have p:=h; clear h; obtain⟨⟨rfl,rfl,B,F,N⟩,h⟩:=p;have p:=Qp h; clear h; have h:=p; clear p;split at h
 ·rename_i h1
  have h:=xb h;have h:=xc h;refine⟨_,_,h,zH.push _,fun bs ρ H w vl vc s K rc=>?_⟩;rw[xD K,xD rc];have D:a.cells.size=d.size:=by have:=(q H).length; simp at this; omega
  have f:=run_make (P:=P) w t e d a hu E hz I J 1 1 (by omega) (Int.le_refl _) (by omega) (by omega);have hm:madeCells a.cells (1 * d.size)=a.cells.toList.toArray:=by
   have p:=Nt a.cells 0 (by omega);rw[jx,D]at p;have h3:(madeCells a.cells (0 * d.size)).toList=[]:=by simp[madeCells]
   rw[h3,List.append_nil]at p;rw[← p]
  simp only[Int.toNat_one]at f;rw[hm]at f;refine⟨_,_,f,_,H,List.prefix_append _ _,PH.le.refl H,s.pushBox (t:=e) (zZ.of_RepL (q H)),?_⟩;exact⟨w.heap.size,by simp[← s.hlen],1,rfl,.inr rfl⟩
 exact h.elim
def lg (P:Program) (lo:List AObj) (t:TypeId) (d x:FV) (R:FV->List AObj->Prop):Prop:=
 match d with
 | .vsl k _=>Sw x fun src=>Qr k lo fun o=>match o with
  | .vec e z rows=>Vq P t fun _ a=>(a=z/\src.length=rows.length/\(∀ r∈src,r.length=z))/\Ue k (.vec e z src) lo fun lo=>R (.p (.int .i64 src.length)) lo
  | _=>False
 | _=>False
theorem Rb {lo:List AObj} {t:TypeId} {d x:FV} {R:FV->List AObj->Prop} (h:lg P lo t d x R) :
  ∃ S lo',R S lo'/\zH false lo lo'/\∀ (bs:Base) (ρ:List Value) (H:PH) (w:World) (T ty:TypeId) (G m:Value),SatW bs ρ H lo w->qR ρ H d G->qR ρ H x m ->
   ∃ v w',(Builtin.copy_ #[t,T] ty #[G,m]).run P w=.ok v w'/\dT bs ρ H S lo' v w':=by
 unfold lg at h;split at h
 case h_2=>exact h.elim
 rename_i k n;have f:=BT h; clear h; obtain⟨src,h,q⟩:=f;have f:=zE h; clear h; obtain⟨o,I,h⟩:=f;split at h
 case h_2=>exact h.elim
 rename_i e z rows;have f:=vY h; clear h; obtain⟨e',i,hu,U,⟨rfl,hlen,hw⟩,h⟩:=f;have f:=vB h; clear h; obtain⟨h,_⟩:=f;refine⟨_,_,h,zH.set _ _,fun bs ρ H w T ty G m s rd rx=>?_⟩;obtain⟨V,_⟩:=rd;have rs:=q ρ H m rx;obtain⟨xs,r,hr,h1,X⟩:=s.objs k _ _ I V;have ffirst:src=[]->∃ c:Array Value,(Builtin.firstCells i.size 0 m).run P w=.ok #[] w/\(Builtin.lenOf m).run P w=.ok 0 w:=by
  intro F;subst F;simp only[qP]at rs;have l0:∀ a:Addr,(loadCells a 0).run P w=.ok #[] w:=fun a=>by simpa using run_loadCells_list (P:=P) w a [] (by simp)
  rcases rs with ⟨_,rfl|⟨a,cap,rfl⟩⟩|⟨b,o',z',cap,rfl,_⟩
  ·exact⟨#[],by simp[Builtin.firstCells],by simp[Builtin.lenOf]⟩
  ·exact⟨#[],by simp[Builtin.firstCells,l0],by simp[Builtin.lenOf]⟩
  exact⟨#[],by simp[Builtin.firstCells,l0],by simp[Builtin.lenOf]⟩
 rcases r.2 with ⟨rfl,f⟩|⟨g,cap,cur,rfl,_,J,y,hm,Y,ht⟩
 ·have K:rows=[]:=jI f
  subst K;have A:src=[]:=jI (by simpa using hlen);obtain⟨_,L,hl⟩:=ffirst A;subst A;refine⟨goInt 0,w,?_,ρ,H,jq _,PH.le.refl H,?_,by simp[qR,qP,goInt]⟩
  ·simp[Builtin.copy_,kru hu,hl,Go.sizeOf,typeInfo,U,L]
  exact s.view I rfl rfl fun v hv ok=>ok
 have hb:qZ (Value.slice (some ⟨g,0,none⟩) rows.length cap)=some g:=rfl;obtain⟨vs,p,l,B,hone⟩:∃ vs:List Value,(Builtin.firstCells i.size src.length m).run P w=.ok vs.toArray w/\(Builtin.lenOf m).run P w=.ok src.length w/\cP H i.size src vs/\∀ u∈vs,u.oneCell'=true:=by
  rcases GP rs hw with ⟨F,_⟩|⟨b,o',Z,vs,rfl,_,B,hc⟩
  ·obtain⟨_,L,hl⟩:=ffirst F
   subst F;exact⟨[],by simpa using L,by simpa using hl,rfl,fun u hu=>by cases hu⟩
  have hl:=run_loadCells_list (P:=P) w ⟨b,o',none⟩ vs (fun j u hu=>by
   have:=(s.sath.cell b (o'+j) u (hc j u hu)).1
   rwa [Addr.add_lit])
  rw[B.length]at hl;exact⟨vs,by simp[Builtin.firstCells,hl],by simp[Builtin.lenOf],B,fun u hu=>by
   obtain⟨j,C⟩:=List.getElem?_of_mem hu;exact(s.sath.cell b (o'+j) u (hc j u C)).2⟩
 have M:vs.length=rows.length * i.size:=by rw[B.length,hlen]
 have hcl:rows.length * i.size<=cur.size:=by rw[Y]; exact Nat.mul_le_mul_right _ y
 obtain⟨N,a1,a2,a3,a4,a5⟩:=Zw vs 0 w cur J;have hcell:∀ j,j<vs.length->(w.cell? ⟨g,0+j,none⟩).isSome=true:=fun j C=>by
  rw[cell_of_row w g _ _ e _ J];have:j<cur.size:=by omega
  simp[this]
 have O:=run_storeCells_cells (P:=P) g 0 vs 0 w (by simpa using hcell) (fun j C=>frozen_of_row w g _ cur e J) hone
 refine⟨goInt src.length,w.setCells g 0 vs,?_,ρ,H,jq _,PH.le.refl H,?_,by simp[qR,qP,goInt]⟩
 ·have D:Nat.min src.length rows.length=src.length:=by rw[hlen]; exact Nat.min_self _
  simp[Builtin.copy_,kru hu,l,Go.sizeOf,typeInfo,U,D,p,O]
 refine s.upd (k:=k) (b:=g) I V rfl rfl (X g rfl) a5 ?_;refine⟨vs,⟨by rw[M,hlen],.inr ⟨g,cap,N,by rw[hlen],jS _,a1,by rw[hlen]; exact y,hm,by rw[a2]; exact Y,?_⟩⟩,B,hone,fun b Q o'=>X b Q o'⟩
 rw[hlen];refine List.ext_getElem? fun j=>?_;rw[jE];split
 ·rename_i C
  have E:j<vs.length:=by omega
  have:=a4 j vs[j] (by simp[E]) (by omega);rw[jx]at this;rw[jf E];simpa using this
 rename_i C;rw[List.getElem?_eq_none (by omega)]
def qbs (x:FV) (R:FV->Prop):Prop:=
 XC x fun cs=>Pd cs fun a=>match a.all EW with
  | true=>R (.hptr a)
  | false=>False
theorem Tf {x:FV} {R:FV->Prop} (h:qbs x R) :
  ∃ m,R m/\∀ (lo:List AObj) (bs:Base) (ρ:List Value) (H:PH) (w:World) (t:TypeId) (v:Value),SatW bs ρ H lo w->qR ρ H x v->∃ u w',(Instr.box t v).run P w=.ok u w'/\dT bs ρ H m lo u w':=by
 unfold qbs at h;obtain⟨cs,h,g⟩:=Zj h;obtain⟨y,h,i⟩:=dC h;split at h
 case h_2=>exact h.elim
 rename_i hone;refine⟨_,h,fun lo bs ρ H w t v s n=>?_⟩;have rl:=i ρ H _ (g ρ H v n);have h1:=zz.one (fun c p=>(List.all_eq_true.1 hone) c p) rl;have l:∀ o,H w.heap.size o=none:=fun o=>by
  cases q:H w.heap.size o with
  | none=>rfl
  | some x=>exact absurd (s.sath.lt q) (jR _)
 let H':PH:=fun b o=>if b=w.heap.size then v.cells.toList[o]? else H b o
 have a:PH.le H H':=fun b o u hu=>by
  show(if b=w.heap.size then _ else _)=_;rw[if_neg (fun e=>by subst e; rw[l o]at hu; cases hu)]
  exact hu
 have f:∀ o u,v.cells.toList[o]? =some u->H' w.heap.size o=some u:=fun o u hu=>by
  show(if w.heap.size=w.heap.size then _ else _)=_;rw[if_pos rfl]; exact hu
 have calm:Calm H w H' (w.alloc (.cells v.cells t)):=by
  refine⟨a,⟨fun b o u hu=>?_,s.sath.root.mono a⟩,?_,fun b o u hu=>?_⟩
  ·have d:(if b=w.heap.size then v.cells.toList[o]? else H b o)=some u:=hu
   clear hu;split at d
   ·rename_i e
    subst e;refine⟨?_,h1 u (List.mem_of_getElem? d)⟩;rw[cell_of_row _ _ _ v.cells t _ (heap_alloc_new w _)];simpa using d
   exact(de s.sath _).cell b o u d
  ·have:=fU w (.cells v.cells t) w.heap.size
   exact⟨this.os,this.tape,this.output,this.size,fun k r _=>this.block k r (fun e=>by omega)⟩
  have hu:(if b=w.heap.size then v.cells.toList[o]? else H b o)=some u:=hu;split at hu
  ·rename_i e; exact .inr (by omega)
  exact .inl ⟨u,hu⟩
 refine⟨.pointer (some ⟨w.heap.size,0,none⟩),w.alloc (.cells v.cells t),?_,ρ,H',jq _,a,s.calm calm,?_⟩
 ·simp only[Instr.box,ke,Vd,kc,kf]
 exact⟨w.heap.size,0,_,rfl,zz.mono a rl,fun j u hu=>by rw[jx]; exact f j u hu⟩
end
end Ax
namespace Ax
open Go
section
variable {P:Program} {w:World}
def PU (P:Program) (E:Env) (lo:List AObj) (t:TypeId) (n:Nat) (zi:List (Nat×Operand)) (R:FV->List AObj->Prop):Prop:=
 Vq P t fun e z=>match Nat.beq n 1 with
  | true=>match Nat.beq z 1 with
   | true=>match P.info? e with
    | some i=>match i.zero with
     | some zv=>match Nat.beq zv.cells.size 1 with
      | true=>match zi with
       | [(0,x)]=>evS E none x fun v=>match v with
        | .ptr k 0=>VB lo 0 fun m=>rj lo (.box e [.ptr k 0]) fun lo=>R (.bsl m 0 1 1) lo
        | _=>False
       | _=>False
      | false=>False
     | none=>False
    | none=>False
   | false=>False
  | false=>False
theorem Nj {E:Env} {lo:List AObj} {t:TypeId} {n:Nat} {zi:List (Nat×Operand)} {R:FV->List AObj->Prop} (h:PU P E lo t n zi R) :
  ∃ q lo',R q lo'/\zH true lo lo'/\∀ (bs:Base) (ρ:List Value) (H:PH) (w:World) (eval:Operand->Value),SatW bs ρ H lo w->(∀ x∈zi.map (·.2),qR ρ H (evF (qT E) x) (eval x)) ->
   ∃ v w',(Instr.buildSlice t n (zi.map fun(i,x)=>(i,eval x)).toArray).run P w=.ok v w'/\dT bs ρ H q lo' v w':=by
 unfold PU at h;have f:=vY h; clear h; obtain⟨e,i,hu,g,h⟩:=f;split at h
 case h_2=>exact h.elim
 rename_i j;split at h
 case h_2=>exact h.elim
 rename_i c;rw[g]at h;simp only at h;split at h
 case h_2=>exact h.elim
 rename_i m o;split at h
 case h_2=>exact h.elim
 rename_i d;split at h
 case h_2=>exact h.elim
 rename_i x;have f:=qG h; clear h; obtain⟨v0,h,p⟩:=f;split at h
 case h_2=>exact h.elim
 rename_i k;have h:=xb h;have h:=xc h;have j:n=1:=jm j;have c:i.size=1:=jm c;have d:m.cells.size=1:=jm d;subst j;refine⟨_,_,h,zH.push _,fun bs ρ H w eval s r=>?_⟩;obtain⟨b,u,he⟩:=p ρ H _ trivial (r x (by simp));have rc:zZ ρ H [FV.ptr k 0] [Value.pointer (some ⟨b,0,none⟩)]:=⟨_,[],rfl,⟨b,u,rfl⟩,rfl⟩;have hp:=s.pushBox (t:=e) rc;refine⟨.slice (some ⟨w.heap.size,0,none⟩) 1 1,w.alloc (.cells #[Value.pointer (some ⟨b,0,none⟩)] e),?_,_,H,List.prefix_append _ _,PH.le.refl H,hp,?_⟩
 ·have key:∀ (arr:Array Value) (v:Value),arr.size=1->v.cells = #[v]->Instr.fill (fun i=>some (i * 1,1)) arr [(0,v)]=some #[v]:=by
   intro arr v ha y;obtain⟨a,rfl⟩:∃ a,arr = #[a]:=by
    cases arr with
    | mk l=>
     match l,ha with
     | [a],_=>exact⟨a,rfl⟩
   simp[Instr.fill,y]
  have z:=key ((Array.range (1 * 1)).map (m.cells[· % m.cells.size]!)) (.pointer (some ⟨b,0,none⟩)) (by simp) rfl
  simp only[Instr.buildSlice,ke,kru hu,kc,Go.sizeOf,typeInfo,run_program,g,kf,c];simp only[show ¬ (1 * 1>2 ^ 24) by decide,if_false,show ¬ (1 * 1=0) by decide,ke,zeroValue,typeInfo,run_program,g,o,kc,kf,jk,jN,he];rw[z];simp[newRow]
 exact⟨w.heap.size,by simp[← s.hlen],1,rfl,.inr rfl⟩
def Lx (P:Program) (t:TypeId) (lo:List AObj) (x:FV) (R:FV->List AObj->Prop):Prop:=
 match x with
 | .bsl k 0 1 _=>Vq P t fun e z=>match Nat.beq z 1 with
  | true=>match P.info? e with
   | some i=>match i.zero with
    | some zv=>match Nat.beq zv.cells.size 1 with
     | true=>match Nat.ble i.bytes 140737488355328 with
      | true=>Qr k lo fun o=>match o with
       | .box _ [.ptr j 0]=>VB lo 0 fun m=>rj lo (.pbx e (.ptr j 0)) fun lo=>R (.bsl m 0 1 0) lo
       | _=>False
      | false=>False
     | false=>False
    | none=>False
   | none=>False
  | false=>False
 | _=>False
theorem Ly {t:TypeId} {lo:List AObj} {x:FV} {R:FV->List AObj->Prop} (h:Lx P t lo x R) :
  ∃ z lo',R z lo'/\zH true lo lo'/\∀ (bs:Base) (ρ:List Value) (H:PH) (w:World) (ty:TypeId) (m:Value),SatW bs ρ H lo w->qR ρ H x m ->
   ∃ v w',(Builtin.append_ #[t,t] ty #[.slice none 0 0,m]).run P w=.ok v w'/\dT bs ρ H z lo' v w':=by
 unfold Lx at h;split at h
 case h_2=>exact h.elim
 rename_i k K;have n:=vY h; clear h; obtain⟨e,i,hu,A,h⟩:=n;split at h
 case h_2=>exact h.elim
 rename_i a;rw[A]at h;simp only at h;split at h
 case h_2=>exact h.elim
 rename_i p r;split at h
 case h_2=>exact h.elim
 rename_i d;split at h
 case h_2=>exact h.elim
 rename_i f;have n:=zE h; clear h; obtain⟨o,C,h⟩:=n;split at h
 case h_2=>exact h.elim
 rename_i bt j;have h:=xb h;have h:=xc h;have a:i.size=1:=jm a;have d:p.cells.size=1:=jm d;have f:=jh f;refine⟨_,_,h,zH.push _,fun bs ρ H w ty m s rx=>?_⟩;obtain⟨b,D,c,rfl,_⟩:=rx;obtain⟨L,vs,E,F,rc,M⟩:=s.objs k _ _ C D;cases E;obtain⟨u,us,rfl,G,e2⟩:=rc;have e2:us=[]:=e2;subst e2;obtain⟨y,l,rfl⟩:=G;have I:=run_append_nil (P:=P) w t ty e i p hu A r ⟨b,0,none⟩ 1 c [Value.pointer (some ⟨y,0,none⟩)] (by simp[a]) (fun q u hu=>by
  have:=bw F 0 q u (by simpa using hu);rw[Addr.add_lit];simpa using this) (by omega) (by omega) (by omega)
 refine⟨_,_,I,ρ++[.pointer (some ⟨w.heap.size,0,none⟩)],H,List.prefix_append _ _,PH.le.refl H,?_,?_⟩
 ·refine s.push (g:=w.heap.size) (.inl rfl) (s.fresh (jw _)) (.inr s.keep.size) (PH.le.refl H) (s.sath.block fun b o v B=>?_) (fun b o v h=>.inl ⟨v,h⟩) (fi w _ _) ?_
  ·exact(fi w _ w.heap.size).block b (s.sath.lt B) (fun e=>absurd (s.sath.lt B) (by omega))
  refine⟨w.heap.size,.pointer (some ⟨y,0,none⟩),(Builtin.zeroCells p.cells (grownCap w 1 0 e - 1)).toList,rfl,?_,⟨y,by rw[jB (jG.1 l).1]; exact l,rfl⟩,fun o=>?_⟩
  ·refine(heap_alloc_new w.drew _).trans ?_
   congr 2;apply Array.toList_inj.1;simp
  cases J:H w.heap.size o with
  | none=>rfl
  | some x=>exact absurd (s.sath.lt J) (jR _)
 ·exact⟨w.heap.size,by simp[← s.hlen],_,rfl,.inl rfl⟩
def LB (P:Program) (p g:Bool) (E:Env) (lo:List AObj) (t:TypeId) (n:Nat) (zi:List (Nat×Operand)) (R:FV->List AObj->Prop):Prop:=
 match p with
 | true=>PU P E lo t n zi R
 | false=>Sg P g E lo t n zi R
theorem UG {p gr:Bool} {E:Env} {lo:List AObj} {t:TypeId} {n:Nat} {zi:List (Nat×Operand)} {R:FV->List AObj->Prop} (h:LB P p gr E lo t n zi R) :
  ∃ a lo',R a lo'/\zH true lo lo'/\∀ (bs:Base) (ρ:List Value) (H:PH) (w:World) (eval:Operand->Value),SatW bs ρ H lo w->(∀ x∈zi.map (·.2),qR ρ H (evF (qT E) x) (eval x)) ->
   ∃ v w',(Instr.buildSlice t n (zi.map fun(i,x)=>(i,eval x)).toArray).run P w=.ok v w'/\dT bs ρ H a lo' v w':=by
 cases p with
 | true=>exact Nj h
 | false=>exact LA h
def eM (P:Program) (inl:List Nat) (d:Option Tmp) (op:Op) (E:Env) (lo:List AObj) (no:Prop) (R:FV->List AObj->Prop):Prop:=
 match op with
 | .makeSlice t l c=>evS E none l fun l=>evS E none c fun c=>lp P (TT inl d) (eJ inl d) lo t l c R
 | .call { callee:=.builtin .copy,args:=⟨[x,y]⟩,argTypes:=⟨[t,_]⟩ }=>evS E none x fun x=>evS E none y fun y=>lg P lo t x y R
 | .box _ x=>match TT inl d with
  | true=>evS E none x fun x=>qbs x fun v=>R v lo
  | false=>no
 | .call { callee:=.builtin .append,args:=⟨[s,x]⟩,argTypes:=⟨[t,t']⟩ }=>ev E x fun v=>match v with
  | .bsl k o n c=>match Nat.beq t t' with
   | true=>evS E none s fun s=>match s with
    | .p .nilsl=>Lx P t lo (.bsl k o n c) R
    | _=>False
   | false=>False
  | _=>no
 | _=>no
theorem EO {inl:List Nat} {d:Option Tmp} {op:Op} {E:Env} {lo:List AObj} {no:Prop} {R:FV->List AObj->Prop} (h:eM P inl d op E lo no R) :
  no\/∃ g lo',R g lo'/\nV op=true/\(∀ (o:Oper) (inl:List Nat),o.op=op->gx inl o=true/\dh inl o=false)/\zH (BK op) lo lo'/\∀ o:Oper,o.op=op->fg P o (qT E) lo none g lo':=by
 unfold eM at h;split at h
 ·rename_i t l c
  have a:=qG h; clear h; obtain⟨C,h,hl⟩:=a;have a:=qG h; clear h; obtain⟨D,h,z⟩:=a;have a:=Ri h; clear h; obtain⟨g,lo',h,f,i⟩:=a;refine .inr ⟨g,lo',h,rfl,fun o inl e=>⟨by simp[gx,e,nV],by simp[dh,e]⟩,f,fun o e _ bs ρ H w eval s b=>?_⟩;rw[e]at b;obtain⟨v,w',f,j⟩:=i bs ρ H w _ _ s (hl ρ H _ trivial (b l (by simp[kg]))) (z ρ H _ trivial (b c (by simp[kg])));simp only[execOp,e,ke,f,kc,kf];exact j
 ·rename_i x y t u
  have a:=qG h; clear h; obtain⟨x',h,m⟩:=a;have a:=qG h; clear h; obtain⟨F,h,q⟩:=a;have a:=Rb h; clear h; obtain⟨g,lo',h,f,i⟩:=a;refine .inr ⟨g,lo',h,rfl,fun o inl e=>⟨by simp[gx,e,nV],by simp[dh,e]⟩,f,fun o e _ bs ρ H w eval s b=>?_⟩;rw[e]at b;obtain⟨v,w',f,j⟩:=i bs ρ H w u o.type _ _ s (m ρ H _ trivial (b x (by simp[kg,kh]))) (q ρ H _ trivial (b y (by simp[kg,kh])));simp only[execOp,e,resolve,invoke,builtin,ke,kf,kc,kb,jk,jN,f];exact j
 ·rename_i t x
  split at h
  ·have a:=qG h; clear h; obtain⟨x',h,m⟩:=a
   have a:=Tf (P:=P) h; clear h; obtain⟨g,h,i⟩:=a;refine .inr ⟨g,lo,h,rfl,fun o inl e=>⟨by simp[gx,e,nV],by simp[dh,e]⟩,zH.refl _,fun o e _ bs ρ H w eval s b=>?_⟩;rw[e]at b;obtain⟨v,w',f,j⟩:=i lo bs ρ H w t _ s (m ρ H _ trivial (b x (by simp[kg])));simp only[execOp,e,ke,f,kc,kf];exact j
  exact .inl h
 ·rename_i A x t u
  rw[Bw]at h;split at h
  ·rename_i k o n c B
   split at h
   ·rename_i p
    have p:=jm p;subst p;have a:=qG h; clear h; obtain⟨G,h,r⟩:=a;split at h
    ·have a:=Ly h; clear h; obtain⟨g,lo',h,f,i⟩:=a
     refine .inr ⟨g,lo',h,rfl,fun o inl e=>⟨by simp[gx,e,nV],by simp[dh,e]⟩,f,fun o e _ bs ρ H w eval s b=>?_⟩;rw[e]at b;have r1:=r ρ H _ trivial (b A (by simp[kg,kh]));have r2:=b x (by simp[kg,kh]);rw[B]at r2;simp only[qR,qP]at r1;obtain⟨v,w',f,j⟩:=i bs ρ H w o.type _ s r2;simp only[execOp,e,resolve,invoke,builtin,ke,kf,kc,kb,jk,jN,r1,f];exact j
    exact h.elim
   exact h.elim
  exact .inl h
 exact .inl h
end
end Ax
end
section
namespace Ax
open Go
def upd (e:Nat->FV) (d:Option Tmp) (v:FV):Nat->FV:=
 match d with
 | none=>e
 | some d=>fun t=>if t=d then v else e t
theorem Tl (d:Tmp) (v:FV) (E:Env):qT ((d,v)::E)=upd (qT E) (some d) v:=by
 funext t;simp only[qT,upd];by_cases h:t=d
 ·subst h; simp[Nat.beq_refl]
 have:Nat.beq t d=false:=by
  cases a:Nat.beq t d with
  | false=>rfl
  | true=>exact absurd (jm a) h
 simp[this,h]
def cK (ops:Array Oper) (o:Oper) (e:Nat->FV) (g:G):Prop:=
 match o.guard with
 | none=>g=none
 | some (j,want)=>∃ oj d b,ops[j]? =some oj/\oj.dst=some d /\
   ((e d=.p (.bool b)/\g=some (match want with|true=>b|false=>!b)) \/
    ∃ a,e d=.opt a (.p (.bool b))/\g=some (match want with|true=>a&&b|false=>a&&!b))
def Xw (P:Program) (sl:List Nat) (m:Bool) (n0:Nat) (o:Oper) (e:Nat->FV) (lo:List AObj) (g:G) (c:FV):Prop:=
 fg P o e lo g c lo/\(m=true->tW sl o=false->∃ d:Option (Nat×AObj),(∀ k b,d=some (k,b)->qdc sl n0 k=true/\b.boxy=true/\lo[k]? =some b)/\∀ a,(∀ k b,d=some (k,b)->a[k]? =some b)->fg P o e a g c a)
def Pg (sl:List Nat) (m:Bool) (n0:Nat) (o:Oper) (lo lo':List AObj):Prop:=
 m=true->n0<=lo.length->n0<=lo'.length/\(LN sl o=true->∀ k a,qdc sl n0 k=true->a.boxy=true->(lo[k]? =some a↔lo'[k]? =some a))
theorem LV {sl:List Nat} {n0 k:Nat} (h:qdc sl n0 k=true):k<n0/\UL sl (60000000+1000 * n0+k)=false:=by
 unfold qdc at h;split at h
 ·rename_i a
  split at h
  ·cases h
  rename_i hm; exact⟨jh a,hm⟩
 cases h
theorem zH.ok {sl:List Nat} {m:Bool} {n0:Nat} {o:Oper} {lo lo':List AObj} (a:m=true->dh sl o=false) (h:zH (BK o.op) lo lo'):Pg sl m n0 o lo lo':=fun b c=>⟨Nat.le_trans c h.1,fun hm k d e f=>by
 simp only[LN,a b,Bool.or_false]at hm;exact h.2 hm k d (Nat.lt_of_lt_of_le (LV e).1 c) f⟩
def rG (P:Program) (inl sl:List Nat) (m:Bool) (n0 N:Nat) (ops:Array Oper) (o:Oper) (e:Nat->FV) (lo:List AObj) (b:Nat->FV) (lo':List AObj):Prop:=
 ∃ g a,cK ops o e g/\(∀ d,o.dst=some d->d<N)/\b=upd e o.dst (tZ g a) /\
  ((gx inl o=true/\g=none/\fg P o e lo none a lo'/\Pg sl m n0 o lo lo') \/
   (gx inl o=false/\Vz o.op=true/\lo'=lo/\Xw P sl m n0 o e lo g a) \/
   (gx inl o=false/\Vz o.op=false/\lo'=lo/\∀ lo,fg P o e lo g a lo))
theorem Qo (o:Oper):gx [] o=nV o.op:=by
 unfold gx;split
 ·rename_i h; simp[h,UL,nV]
 ·rename_i h; simp[h,qdt,UL,nV]
 ·rename_i h
  simp only[h,TT,nV];split<;>simp[UL]
 ·rename_i h
  simp only[h,TT,nV];split<;>simp[UL]
 rfl
theorem sC {ops:List Oper} {o:Oper} {E:Env} {R:G->Prop} (h:BA ops o E R):∃ g,cK ops.toArray o (qT E) g/\R g:=by
 unfold BA at h;unfold cK;split at h
 ·rename_i e
  exact⟨none,by simp[e],h⟩
 rename_i j c e;obtain⟨oj,a,h⟩:=zE h;split at h
 ·rename_i d f
  rw[XH]at h;split at h
  ·rename_i b he
   cases c with
   | true=>exact⟨_,by simp only[e]; exact⟨oj,d,b,by simpa using a,f,.inl ⟨he,rfl⟩⟩,h⟩
   | false=>exact⟨_,by simp only[e]; exact⟨oj,d,b,by simpa using a,f,.inl ⟨he,rfl⟩⟩,h⟩
  ·rename_i i b he
   cases c with
   | true=>exact⟨_,by simp only[e]; exact⟨oj,d,b,by simpa using a,f,.inr ⟨i,he,rfl⟩⟩,h⟩
   | false=>exact⟨_,by simp only[e]; exact⟨oj,d,b,by simpa using a,f,.inr ⟨i,he,rfl⟩⟩,h⟩
  ·exact h.elim
 exact h.elim
theorem xC {N:Nat} {d:Option Tmp} {v:FV} {E:Env} {R:Env->Prop} (h:tq N d v E R) :
  (∀ t,d=some t->t<N)/\∃ E',qT E'=upd (qT E) d v/\R E':=by
 unfold tq at h;split at h
 ·rename_i t
  split at h
  ·rename_i b
   rw[Na]at h;refine⟨fun c a=>?_,_,Tl t v E,h⟩;cases a;exact jh b
  exact h.elim
 exact⟨fun t a=>(by cases a),E,rfl,h⟩
theorem BG {P:Program} {o:Oper} {t:TypeId} {x i:Operand} {ok:Bool} (a:o.op=.lookup t x i ok) {E:Env} {g:G} {lo:List AObj} {x' f:FV} (b:Str g (evF (qT E) x) x') (c:Str g (evF (qT E) i) f) {R:FV->Prop} (h:Zp P g t lo x' f ok R) :
  ∃ d,R d/\fg P o (qT E) lo g d lo:=by
 obtain⟨d,h,_,k⟩:=Nn h;refine⟨_,h,fun e bs ρ H w eval s j=>?_⟩;obtain⟨v,l,m⟩:=k e bs ρ H w _ _ s (b ρ H _ e (j x (by simp[a,kg]))) (c ρ H _ e (j i (by simp[a,kg])));simp only[execOp,a];exact upon_value s l m
theorem NV {P:Program} {N:Nat} {all:List Oper} {o:Oper} {E:Env} {lo:List AObj} {R:Env->List AObj->Prop} (h:Rx P N all o E lo R) :
  ∃ E' lo',rG P [] [] false 0 N all.toArray o (qT E) lo (qT E') lo'/\R E' lo':=by
 unfold Rx at h;unfold rG;simp only[Qo];obtain⟨g,f,h⟩:=sC h;split at h
 ·rename_i hl
  have he:nV o.op=false:=by
   cases k:o.op<;>simp[k,Vz]at hl<;>rfl
  have fin:∀ {a:FV},fg P o (qT E) lo g a lo->Xw P [] false 0 o (qT E) lo g a:=fun h=>⟨h,fun h=>by cases h⟩
  split at h
  ·rename_i t x j
   obtain⟨a,h,b⟩:=Rg j h;obtain⟨c,E',e,h⟩:=xC h;exact⟨E',lo,⟨g,a,f,c,e,.inr (.inl ⟨he,hl,rfl,fin b⟩)⟩,h⟩
  ·rename_i p d x j
   obtain⟨a,h,b⟩:=Ra j h;obtain⟨c,E',e,h⟩:=xC h;exact⟨E',lo,⟨g,a,f,c,e,.inr (.inl ⟨he,hl,rfl,fin b⟩)⟩,h⟩
  ·rename_i t x i ok j
   obtain⟨x',h,l⟩:=qG h;obtain⟨q,h,m⟩:=qG h;obtain⟨a,h,b⟩:=BG j l m h;obtain⟨c,E',e,h⟩:=xC h;exact⟨E',lo,⟨g,a,f,c,e,.inr (.inl ⟨he,hl,rfl,fin b⟩)⟩,h⟩
  exact h.elim
 rename_i hl;split at h
 ·rename_i he
  split at h
  ·obtain⟨a,lo',h,n,b⟩:=GG h
   obtain⟨c,E',e,h⟩:=xC h;exact⟨E',lo',⟨none,a,f,c,e,.inl ⟨he,rfl,b,n.ok (fun h=>by cases h)⟩⟩,h⟩
  exact h.elim
 rename_i he;obtain⟨a,h,b⟩:=BI h;obtain⟨c,E',e,h⟩:=xC h;exact⟨E',lo,⟨g,a,f,c,e,.inr (.inr ⟨he,hl,rfl,b⟩)⟩,h⟩
def qal (P:Program) (sl:List Nat) (t:TypeId) (lo:List AObj) (n0:Nat) (x:FV) (R:FV->Prop):Prop:=
 match x with
 | .ptr k off=>match qdc sl n0 k with
  | true=>Zo P t lo (.ptr k off) R
  | false=>False
 | .hptr row=>Zo P t [] (.hptr row) R
 | _=>False
def Sh (P:Program) (sl:List Nat) (g:G) (t:TypeId) (lo:List AObj) (n0:Nat) (x key:FV) (ok:Bool) (R:FV->Prop):Prop:=
 match x with
 | .mref k=>match qdc sl n0 k with
  | true=>Zp P g t lo (.mref k) key ok R
  | false=>False
 | _=>False
def qaj (P:Program) (g:G) (src dst:TypeId) (x:FV) (R:FV->Prop):Prop:=
 match x with
 | .p p=>BD P g src dst [] (.p p) R
 | .tsl k rows=>BD P g src dst [] (.tsl k rows) R
 | _=>False
def qcw (P:Program) (sl:List Nat) (n0 N:Nat) (all:List Oper) (o:Oper) (E:Env) (lo:List AObj) (R:Env->List AObj->Prop):Prop:=
 BA all o E fun g=>
  match Vz o.op with
  | true=>match o.op with
   | .load t x=>evS E g x fun x=>qal P sl t lo n0 x fun v=>tq N o.dst (tZ g v) E fun E=>R E lo
   | .convert s d x=>evS E g x fun x=>qaj P g s d x fun v=>tq N o.dst (tZ g v) E fun E=>R E lo
   | .lookup t x i ok=>evS E g x fun x=>evS E g i fun i=>Sh P sl g t lo n0 x i ok fun v=>tq N o.dst (tZ g v) E fun E=>R E lo
   | _=>False
  | false=>match nV o.op with
   | true=>match g with
    | none=>qak P o.op E lo fun v lo=>tq N o.dst v E fun E=>R E lo
    | some _=>False
   | false=>eN P o.op E g fun v=>tq N o.dst (tZ g v) E fun E=>R E lo
theorem rA {α:Type}:∀ {n:Nat} {l:List α} {a:α} {R:α->Prop},l[n]? =some a->R a->Qr n l R
 | 0,[],a,R,h,_=>by simp at h
 | 0,b::l,a,R,h,hr=>by simp at h; subst h; exact hr
 | n+1,[],a,R,h,_=>by simp at h
 | n+1,b::l,a,R,h,hr=>rA (n:=n) (l:=l) (by simpa using h) hr
theorem eH {v:FV} {R:PV->Prop} (h:qc7 v R):∃ p,R p/\∀ R':PV->Prop,R' p->qc7 v R':=by
 unfold qc7 at h;split at h
 ·exact⟨_,h,fun R' a=>a⟩
 ·exact⟨_,h,fun R' a=>a⟩
 ·exact⟨_,h,fun R' a=>a⟩
 exact h.elim
theorem ir:∀ {c:FV} {R:List PV->Prop},Bq c R->∃ p,R p/\∀ R':List PV->Prop,R' p->Bq c R':=by
 intro c
 induction c with
 | cap0=>intro R h; exact⟨_,h,fun R' d=>d⟩
 | cap a b _ ihb=>
  intro R h;simp only[Bq]at h;obtain⟨p,h,hp⟩:=eH h;obtain⟨f,h,e⟩:=ihb h;exact⟨_,h,fun R' d=>by simp only[Bq]; exact hp _ (e _ d)⟩
 | _=>intro R h; simp[Bq]at h
theorem eI {v:FV} {R:PV->Prop} (h:PR v R):∃ p,R p/\∀ R':PV->Prop,R' p->PR v R':=by
 unfold PR at h;split at h
 ·exact⟨_,h,fun R' a=>a⟩
 ·exact⟨_,h,fun R' a=>a⟩
 ·exact⟨_,h,fun R' a=>a⟩
 ·obtain⟨c,h,b⟩:=ir h
  exact⟨_,h,fun R' a=>b _ a⟩
 exact h.elim
theorem ln {P:Program} {t:TypeId} {lo:List AObj} {k off:Nat} {R:FV->Prop} (h:Zo P t lo (.ptr k off) R) :
  ∃ x m,R x/\lo[k]? =some m/\m.boxy=true/\∀ e:List AObj,e[k]? =some m->Zo P t e (.ptr k off) (fun v=>v=x):=by
 unfold Zo at h;obtain⟨m,g,h⟩:=zE h;split at h
 ·rename_i bt cells
  obtain⟨h,f⟩:=fh h;obtain⟨d,i,q,s,h⟩:=vZ h;have dropI:∀ {n:Nat} {l:List FV} {R:List FV->Prop},n<=l.length->R (l.drop n)->ZT n l R:=by
   intro n
   induction n with
   | zero=>intro l R _ h; simpa[ZT]using h
   | succ n ih=>
    intro l R hl h;cases l with
    | nil=>simp at hl
    | cons a l=>exact ih (by simpa using hl) (by simpa using h)
  have takeI:∀ {n:Nat} {l:List FV} {R:List FV->Prop},n<=l.length->R (l.take n)->UT n l R:=by
   intro n
   induction n with
   | zero=>intro l R _ h; simpa[UT]using h
   | succ n ih=>
    intro l R hl h;cases l with
    | nil=>simp at hl
    | cons a l=>exact ih (l:=l) (R:=fun l=>R (a::l)) (by simpa using hl) (by simpa using h)
  have frzI:∀ {l:List FV} {R:List PV->Prop},Pd l R->∃ o,R o/\∀ R',R' o->Pd l R':=by
   intro l
   induction l with
   | nil=>intro R h; exact⟨[],h,fun R' h=>h⟩
   | cons v l ih=>
    intro R h;simp only[Pd]at h;obtain⟨p,h,u⟩:=eI h;obtain⟨o,h,hp⟩:=ih h;exact⟨_,h,fun R' z=>by simp only[Pd]; exact u _ (hp _ z)⟩
  have typeI:∀ {R:Bool->Nat->Prop},R (oY d) i.size->mT P t R:=by
   intro R h;unfold mT;simp only[q,s];exact h
  split at h
  ·rename_i b
   obtain⟨h,y⟩:=df h;split at h
   ·rename_i j
    refine⟨_,_,h,g,rfl,fun e h2=>?_⟩;unfold Zo;refine rA h2 (dropI f (typeI ?_));rw[b];refine takeI y ?_;rw[j]
   rename_i j;obtain⟨o,h,w⟩:=frzI h;refine⟨_,_,h,g,rfl,fun e h2=>?_⟩;unfold Zo;refine rA h2 (dropI f (typeI ?_));rw[b];refine takeI y ?_;rw[j];exact w _ rfl
  rename_i b;split at h
  ·rename_i c r A
   refine⟨_,_,h,g,rfl,fun e h2=>?_⟩;unfold Zo;refine rA h2 (dropI f (typeI ?_));rw[b];simp only[A]
  exact h.elim
 ·rename_i bt c
  split at h
  ·rename_i B
   obtain⟨d,i,q,s,h⟩:=vZ h;split at h
   ·exact h.elim
   rename_i b;refine⟨_,_,h,g,rfl,fun e h2=>?_⟩;unfold Zo;refine rA h2 ?_;simp only[B];unfold mT;simp only[q,s,b]
  exact h.elim
 exact h.elim
theorem Rh {P:Program} {g:G} {t:TypeId} {lo:List AObj} {k:Nat} {key:FV} {ok:Bool} {R:FV->Prop} (h:Zp P g t lo (.mref k) key ok R) :
  ∃ q j,R q/\lo[k]? =some j/\j.boxy=true/\∀ e:List AObj,e[k]? =some j->Zp P g t e (.mref k) key ok (fun v=>v=q):=by
 cases key<;>simp only[Zp]at h;rename_i l;obtain⟨j,n,h⟩:=zE h;split at h
 ·rename_i d es mk
  have mapI:∀ {R:TypeId->Prop},qan P t d l R->∃ c,R c/\∀ R':TypeId->Prop,R' c->qan P t d l R':=by
   intro R h;unfold qan at h;split at h
   ·rename_i A c u
    split at h
    ·rename_i r w
     have keyI:∀ {R:Prop},Rm r d l R->R/\∀ R':Prop,R'->Rm r d l R':=by
      intro R h;unfold Rm at h;split at h
      ·exact⟨h,fun R' a=>a⟩
      ·exact⟨h,fun R' a=>a⟩
      ·split at h
       ·rename_i h1
        split at h
        ·rename_i h2
         refine⟨h,fun R' a=>?_⟩;simp only[Rm,h1,h2];exact a
        exact h.elim
       exact h.elim
      exact h.elim
     obtain⟨h,x⟩:=keyI h;refine⟨c,h,fun R' a=>?_⟩;unfold qan;simp only[u,w];exact x _ a
    exact h.elim
   exact h.elim
  have zeroI:∀ {c:TypeId} {R:PV->Prop},Pa P c R->∃ z,R z/\∀ R':PV->Prop,R' z->Pa P c R':=by
   intro c R h;have vsI:∀ {vs:List Value} {R:List PV->Prop},TR vs R->∃ m,R m/\∀ R':List PV->Prop,R' m->TR vs R':=by
    intro vs
    induction vs with
    | nil=>intro R h; exact⟨[],h,fun R' h=>h⟩
    | cons v vs ih=>
     intro R h;simp only[TR]at h;split at h
     ·rename_i p hp
      obtain⟨m,h,f⟩:=ih h;refine⟨_,h,fun R' a=>?_⟩;simp only[TR,hp];exact f _ a
     exact h.elim
   unfold Pa at h;split at h
   ·rename_i i s
    split at h
    ·rename_i vs hz
     obtain⟨m,h,f⟩:=vsI h;refine⟨_,h,fun R' a=>?_⟩;unfold Pa;simp only[s,hz];exact f _ a
    ·rename_i v y hz
     split at h
     ·rename_i p hp
      refine⟨_,h,fun R' a=>?_⟩;unfold Pa;simp only[s,hz,hp];exact a
     exact h.elim
    exact h.elim
   exact h.elim
  obtain⟨c,h,h1⟩:=mapI h;obtain⟨z,h,h2⟩:=zeroI h;obtain⟨v,b,o,h⟩:=h;refine⟨_,_,h,n,rfl,fun e h3=>?_⟩;simp only[Zp];exact rA h3 (h1 _ (h2 _ ⟨v,b,o,rfl⟩))
 exact h.elim
theorem Ny {α:Type} {R R':α->Prop} (h:∀ a,R a->R' a):∀ {n:Nat} {l:List α},Qr n l R->Qr n l R'
 | 0,[],x=>x
 | 0,a::_,x=>h a x
 | n+1,[],x=>x
 | n+1,_::l,x=>Ny h (n:=n) (l:=l) x
theorem NQ {α:Type}:∀ {n:Nat} {x:α} {l:List α} {R R':List α->Prop},(∀ a,R a->R' a)->Ue n x l R->Ue n x l R'
 | 0,x,[],_,_,_,y=>y
 | 0,x,_::l,_,_,h,y=>h _ y
 | n+1,x,[],_,_,_,y=>y
 | n+1,x,a::l,R,R',h,y=>NQ (n:=n) (x:=x) (l:=l) (R:=fun l=>R (a::l)) (R':=fun l=>R' (a::l)) (fun _=>h _) y
theorem Sx {α:Type}:∀ {n:Nat} {x:α} {l:List α} {R:List α->Prop},Ue n x l R->Ue n x l (fun b=>R b/\b.length=l.length/\∀ j,j≠n->b[j]? =l[j]?)
 | 0,x,[],_,h=>h
 | 0,x,_::l,_,h=>⟨h,by simp,fun j c=>by cases j with|zero=>exact absurd rfl c|succ j=>simp⟩
 | n+1,x,[],_,h=>h
 | n+1,x,a::l,R,h=>by
  have h1:Ue n x l (fun l=>R (a::l)):=h
  refine NQ (n:=n) (x:=x) (l:=l) (R':=fun b=>R (a::b)/\(a::b).length=(a::l).length/\∀ j,j≠n+1->(a::b)[j]? =(a::l)[j]?) ?_ (Sx h1)
  rintro b ⟨d,hl,c⟩;refine⟨d,by simp[hl],fun j e=>?_⟩;cases j with
  | zero=>simp
  | succ j=>simpa using c j (by omega)
theorem XZ:∀ {off:Nat} {vs old:List FV} {R R':List FV->Prop},(∀ a,R a->R' a)->XJ off vs old R->XJ off vs old R'
 | 0,[],old,_,_,h,y=>by cases old<;>exact h _ y
 | 0,v::vs,[],_,_,_,y=>y
 | 0,v::vs,_::old,R,R',h,y=>XZ (off:=0) (vs:=vs) (old:=old) (R:=fun l=>R (v::l)) (R':=fun l=>R' (v::l)) (fun _=>h _) y
 | n+1,vs,[],_,_,_,y=>by cases vs<;>exact y
 | n+1,vs,a::old,R,R',h,y=>by
  cases vs with
  | nil=>exact XZ (off:=n) (vs:=[]) (old:=old) (R:=fun l=>R (a::l)) (R':=fun l=>R' (a::l)) (fun _=>h _) y
  | cons v vs=>exact XZ (off:=n) (vs:=v::vs) (old:=old) (R:=fun l=>R (a::l)) (R':=fun l=>R' (a::l)) (fun _=>h _) y
theorem Nv:∀ {cs:List PV} {R R':List FV->Prop},(∀ a,R a->R' a)->eU cs R->eU cs R'
 | [],_,_,h,y=>h _ y
 | c::cs,R,R',h,y=>Nv (cs:=cs) (R:=fun l=>R (.p c::l)) (R':=fun l=>R' (.p c::l)) (fun _=>h _) y
theorem Br:∀ {c:FV} {R R':List FV->Prop},(∀ a,R a->R' a)->XE c R->XE c R'
 | .cap0,_,_,h,y=>h _ y
 | .cap a b,R,R',h,y=>Br (c:=b) (R:=fun l=>R (a::l)) (R':=fun l=>R' (a::l)) (fun _=>h _) y
 | .top,_,_,_,y|.p _,_,_,_,y|.opt ..,_,_,_,y|.tsl ..,_,_,_,y|.ptr ..,_,_,_,y|.hptr _,_,_,_,y|.bself _,_,_,_,y|.bsl ..,_,_,_,y|.vsl ..,_,_,_,y|.eptr ..,_,_,_,y|.mref _,_,_,_,y|.pair ..,_,_,_,y|.stmp _,_,_,_,y|.clo ..,_,_,_,y|.fagg _,_,_,_,y|.nxt ..,_,_,_,y=>by simp[XE]at y
theorem PJ {v:FV} {R R':List FV->Prop} (h:∀ a,R a->R' a) (y:XC v R):XC v R':=by
 unfold XC at *;split at y
 ·exact Nv h y
 ·exact Br h y
 split at y
 ·exact h _ y
 exact y.elim
theorem Nq {α:Type}:∀ {l:List α} {n:Nat} {R R':Nat->Prop},(∀ a,R a->R' a)->VB l n R->VB l n R'
 | [],n,_,_,h,y=>h _ y
 | _::l,n,R,R',h,y=>Nq (l:=l) (n:=n+1) h y
theorem TA {P:Program} {t:TypeId} {R R':Bool->Nat->Prop} (h:∀ a b,R a b->R' a b) (y:mT P t R):mT P t R':=by
 unfold mT at *;split at y
 ·split at y
  ·exact h _ _ y
  exact y.elim
 exact y.elim
theorem Er {P:Program} {t:TypeId} {a x:Operand} {E:Env} {lo:List AObj} {R:FV->List AObj->Prop} {k off:Nat} (ha:evF (qT E) a=.ptr k off) (h:qak P (.store t a x) E lo R) :
  qak P (.store t a x) E lo (fun v lo'=>R v lo'/\lo'.length=lo.length/\∀ j,j≠k->lo'[j]? =lo[j]?):=by
 simp only[qak,evS,Bw,ha]at h ⊢;have main:∀ v:FV,(XC v fun vs=>match Uv vs with
   | true=>VB vs 0 fun n=>mT P t fun _ m=>match Nat.beq n m with
    | true=>Qr k lo fun o=>match o with
     | .box bt cells=>XJ off vs cells fun cells=>Ue k (.box bt cells) lo fun lo=>R (.p (.tup [])) lo
     | _=>False
    | false=>False
   | false=>False)->(XC v fun vs=>match Uv vs with
   | true=>VB vs 0 fun n=>mT P t fun _ m=>match Nat.beq n m with
    | true=>Qr k lo fun o=>match o with
     | .box bt cells=>XJ off vs cells fun cells=>Ue k (.box bt cells) lo fun lo'=>R (.p (.tup [])) lo'/\lo'.length=lo.length/\∀ j,j≠k->lo'[j]? =lo[j]?
     | _=>False
    | false=>False
   | false=>False):=fun v h=>by
  refine PJ (fun vs h=>?_) h;split at h
  ·refine Nq (fun n h=>?_) h
   refine TA (fun _ m h=>?_) h;split at h
   ·refine Ny (fun o h=>?_) h
    split at h
    ·refine XZ (fun cells h=>?_) h
     exact Sx h
    exact h.elim
   exact h.elim
  exact h.elim
 split at h
 ·exact⟨h.1,main _ h.2⟩
 exact main _ h
def Rk (P:Program) (sl:List Nat) (n0:Nat) (t:TypeId) (a x:Operand) (E:Env) (lo:List AObj) (R:FV->List AObj->Prop):Prop:=
 ev E a fun v=>match v with
  | .ptr k _=>match UL sl (60000000+1000 * n0+k)with
   | true=>qak P (.store t a x) E lo R
   | false=>False
  | _=>False
theorem Np {P:Program} {sl:List Nat} {o:Oper} {t:TypeId} {a x:Operand} (d:o.op=.store t a x) {m:Bool} {n0:Nat} {E:Env} {lo:List AObj} {R:FV->List AObj->Prop} (h:Rk P sl n0 t a x E lo R) :
  ∃ b lo',R b lo'/\Pg sl m n0 o lo lo'/\fg P o (qT E) lo none b lo':=by
 unfold Rk at h;simp only[Bw]at h;split at h
 ·rename_i k off f
  split at h
  ·rename_i g
   have h2:=Er f h;rw[← d]at h2;obtain⟨b,lo',⟨h,hlen,i⟩,_,j⟩:=GG h2;refine⟨b,lo',h,fun _ l=>⟨by omega,fun _ k' n hp _=>?_⟩,j⟩;have c:k'≠k:=fun e=>by
    have:=(LV hp).2;rw[e,g]at this;cases this
   rw[i k' c]
  exact h.elim
 exact h.elim
theorem TB {P:Program} {sl:List Nat} {n0 N:Nat} {all:List Oper} {o:Oper} {E:Env} {lo:List AObj} {R:Env->List AObj->Prop} (M:dh sl o=false) (h:qcw P sl n0 N all o E lo R) :
  ∃ E' lo',rG P [] sl true n0 N all.toArray o (qT E) lo (qT E') lo'/\R E' lo':=by
 unfold qcw at h;unfold rG;simp only[Qo];obtain⟨g,q,h⟩:=sC h;split at h
 ·rename_i hl
  have he:nV o.op=false:=by
   cases O:o.op<;>simp[O,Vz]at hl<;>rfl
  split at h
  ·rename_i t x F
   obtain⟨x',h,z⟩:=qG h;have sem:∀ {f:List AObj} {j:FV},Zo P t f x' (fun v=>v=j)->fg P o (qT E) f g j f:=by
    intro f j h;obtain⟨T,h,y⟩:=GI h;subst h;intro q bs ρ H w eval s K;obtain⟨a,u,_,G,L⟩:=y bs ρ H w _ s (z ρ H _ q (K x (by simp[F,kg])));simp only[execOp,F];exact upon_value s G L
   unfold qal at h;split at h
   ·rename_i k off
    split at h
    ·rename_i U
     obtain⟨j,J,h,B,V,m⟩:=ln h;obtain⟨A,E',C,h⟩:=xC h;refine⟨E',lo,⟨g,j,q,A,C,.inr (.inl ⟨he,hl,rfl,sem (m lo B),fun _ _=>⟨some (k,J),fun k' I e=>?_,fun f h2=>sem (m f (h2 k J rfl))⟩⟩)⟩,h⟩
     cases e;exact⟨U,V,B⟩
    exact h.elim
   ·rename_i row
    have h1:∃ j,(tq N o.dst (tZ g j) E fun E=>R E lo)/\∀ f,Zo P t f (.hptr row) (fun v=>v=j):=by
     unfold Zo at h;obtain⟨d,i,A,Z,h⟩:=vZ h;have typeI:∀ {R:Bool->Nat->Prop},R (oY d) i.size->mT P t R:=by
      intro R h;unfold mT;simp only[A,Z];exact h
     split at h
     ·rename_i D
      obtain⟨h,hn⟩:=df h;refine⟨_,h,fun f=>?_⟩;unfold Zo;refine typeI ?_;rw[D];have takeI:∀ {n:Nat} {l:List PV} {R:List PV->Prop},n<=l.length->R (l.take n)->UT n l R:=by
       intro n
       induction n with
       | zero=>intro l R _ h; simpa[UT]using h
       | succ n ih=>
        intro l R hl h;cases l with
        | nil=>simp at hl
        | cons a l=>exact ih (l:=l) (R:=fun l=>R (a::l)) (by simpa using hl) (by simpa using h)
      exact takeI hn rfl
     rename_i D;split at h
     ·rename_i c r
      refine⟨_,h,fun f=>?_⟩;unfold Zo;refine typeI ?_;rw[D]
     exact h.elim
    obtain⟨j,h,m⟩:=h1;obtain⟨A,E',C,h⟩:=xC h;exact⟨E',lo,⟨g,j,q,A,C,.inr (.inl ⟨he,hl,rfl,sem (m lo),fun _ _=>⟨none,fun k' I e=>(by cases e),fun f _=>sem (m f)⟩⟩)⟩,h⟩
   exact h.elim
  ·rename_i sr d x F
   obtain⟨x',h,z⟩:=qG h;have key:∃ j,(tq N o.dst (tZ g j) E fun E=>R E lo)/\∀ f,fg P o (qT E) f g j f:=by
    unfold qaj at h;split at h
    ·rename_i p
     obtain⟨j,h,y⟩:=Ub h;refine⟨j,h,fun f q bs ρ H w eval s K=>?_⟩;have s0:SatW { S:=RF,w0:=w,H0:=H,r0:=[] } [] H [] w:={ sath:=s.sath,hlen:=rfl,pre:=jq _,objs:=fun k o v h=>by simp at h,excl:=fun k _ o _ v _ b h=>by simp at h,own:=fun k o v b h=>by simp at h,keep:=Keep.refl _ w,leH:=PH.le.refl H,newH:=fun b o v h=>.inl ⟨v,h⟩ }
     have rx:=z ρ H _ q (K x (by simp[F,kg]));obtain⟨u,G,L⟩:=y q _ [] H w _ s0 rx;simp only[execOp,F];exact upon_value s G (L.mono (List.nil_prefix) (PH.le.refl H))
    ·rename_i k rows
     have h':BD P g sr d [] (.p (.sl rows)) fun v=>tq N o.dst (tZ g v) E fun E=>R E lo:=h
     obtain⟨j,h,y⟩:=Ub h';refine⟨j,h,fun f q bs ρ H w eval s K=>?_⟩;have s0:SatW { S:=RF,w0:=w,H0:=H,r0:=[] } [] H [] w:={ sath:=s.sath,hlen:=rfl,pre:=jq _,objs:=fun k o v h=>by simp at h,excl:=fun k _ o _ v _ b h=>by simp at h,own:=fun k o v b h=>by simp at h,keep:=Keep.refl _ w,leH:=PH.le.refl H,newH:=fun b o v h=>.inl ⟨v,h⟩ }
     have rx:=z ρ H _ q (K x (by simp[F,kg]));obtain⟨u,G,L⟩:=y q _ [] H w _ s0 rx.2;simp only[execOp,F];exact upon_value s G (L.mono (List.nil_prefix) (PH.le.refl H))
    exact h.elim
   obtain⟨j,h,y⟩:=key;obtain⟨A,E',C,h⟩:=xC h;exact⟨E',lo,⟨g,j,q,A,C,.inr (.inl ⟨he,hl,rfl,y lo,fun _ _=>⟨none,fun k' I e=>(by cases e),fun f _=>y f⟩⟩)⟩,h⟩
  ·rename_i t x i ok F
   have X:=qG h; clear h; obtain⟨x',h,z⟩:=X;have X:=qG h; clear h; obtain⟨i',h,Y⟩:=X;unfold Sh at h;split at h
   ·rename_i k
    split at h
    ·rename_i U
     obtain⟨j,J,h,B,V,m⟩:=Rh h;obtain⟨A,E',C,h⟩:=xC h;have sem:∀ {f:List AObj},f[k]? =some J->fg P o (qT E) f g j f:=by
      intro f h2;obtain⟨T,e,y⟩:=BG F z Y (m f h2);subst e;exact y
     refine⟨E',lo,⟨g,j,q,A,C,.inr (.inl ⟨he,hl,rfl,sem B,fun _ _=>⟨some (k,J),fun k' I e=>?_,fun f h2=>sem (h2 k J rfl)⟩⟩)⟩,h⟩
     cases e;exact⟨U,V,B⟩
    exact h.elim
   exact h.elim
  exact h.elim
 rename_i hl;split at h
 ·rename_i he
  split at h
  ·obtain⟨j,lo',h,G,y⟩:=GG h
   obtain⟨A,E',C,h⟩:=xC h;exact⟨E',lo',⟨none,j,q,A,C,.inl ⟨he,rfl,y,G.ok (fun _=>M)⟩⟩,h⟩
  exact h.elim
 rename_i he;obtain⟨j,h,y⟩:=BI h;obtain⟨A,E',C,h⟩:=xC h;exact⟨E',lo,⟨g,j,q,A,C,.inr (.inr ⟨he,hl,rfl,y⟩)⟩,h⟩
section
variable {P:Program} {N:Nat} {ops:Array Oper} {Q:Exit->Act->World->Prop}
theorem iR {tmps:Array Value} {d:Nat} {b:Bool} (h:tmps.getD d undef=.bool b):tmps[d]? =some (.bool b):=by
 rw[jX]at h;cases a:tmps[d]? with
 | none=>simp[a,undef]at h
 | some v=>simp[a]at h; rw[h]
theorem Sat.put {bs:Base} {ρ ρ':List Value} {H H':PH} {e:Nat->FV} {lo lo':List AObj} {a:Act} {w w':World} {d:Option Tmp} {v:Value} {c:FV}
  (s:Sat bs N ρ H e lo a w) (f:ρ <+: ρ') (g:PH.le H H') (i:SatW bs ρ' H' lo' w') (j:∀ t,d=some t->t<N) (k:qR ρ' H' c v) :
  Sat bs N ρ' H' (upd e d c) lo' (a.put d v) w':=by
 refine{ i with slots:=fun t=>?_,width:=?_,defers:=?_ }
 ·cases d with
  | none=>exact(s.slots t).mono f g
  | some d=>
   have b:d<a.tmps.size:=by rw[s.width]; exact j d rfl
   simp only[upd,Act.put];by_cases h:t=d
   ·subst h
    simp[jX,b,k]
   simp only[h,if_false];have:=(s.slots t).mono f g
   rwa [show(a.tmps.setIfInBounds d v).getD t undef=a.tmps.getD t undef by
    rw[jX,jX,Array.getElem?_setIfInBounds_ne (Ne.symm h)]]
 ·cases d<;>simp[Act.put,s.width]
 cases d<;>exact s.defers
theorem NY {o:Oper} {e:Nat->FV} {g:G} {a:Act} (i:cK ops o e g) {ρ:List Value} {H:PH} (m:∀ t,qR ρ H (e t) (a.tmps.getD t undef)) :
  Region.wanted o (yielded ops a.tmps)=g.getD true:=by
 unfold cK at i;unfold Region.wanted;split at i
 ·rename_i h; simp[h,i]
 rename_i j c h;obtain⟨oj,d,b,f,k,l⟩:=i;simp only[h];rcases l with ⟨he,rfl⟩|⟨n,he,rfl⟩
 ·have h1:=m d
  rw[he]at h1;have h2:=iR (rh h1);simp only[yielded,f,Option.bind_some,k,h2];cases c<;>cases b<;>rfl
 ·have h1:=m d
  rw[he]at h1;cases n with
  | true=>
   have h2:=iR (rh (ρ:=ρ) (H:=H) (b:=b) (by simpa only[qR,if_true]using h1));simp only[yielded,f,Option.bind_some,k,h2];cases c<;>cases b<;>rfl
  | false=>
   have h2:a.tmps.getD d undef=undef:=by simpa[qR]using h1
   have h3:∀ b,a.tmps[d]? ≠some (.bool b):=fun b l=>by
    rw[jX,l]at h2;simp[undef]at h2
   have h4:yielded ops a.tmps j=none:=by
    simp only[yielded,f,Option.bind_some,k]
    try (split<;>first|rfl|exact absurd (by assumption) (h3 _))
   rw[h4];cases c<;>rfl
theorem rG.wp {bs:Base} {ρ:List Value} {H:PH} {o:Oper} {e y:Nat->FV} {lo lo':List AObj} {a:Act} {w:World} {K:Act->World->Prop} {i:Nat} (A:ops[i]? =some o)
  {inl:List Nat} {m:Bool} {n0:Nat} (st:rG P inl inl m n0 N ops o e lo y lo') (s:Sat bs N ρ H e lo a w) (l:∀ ρ' H' a' w',Sat bs N ρ' H' y lo' a' w'->K a' w'):wpOp P ops Q i K a w:=by
 obtain⟨g,k,B,z,rfl,d⟩:=st;unfold wpOp;simp only[A];rw[NY B s.slots];have sem:gOn g->MJ P bs ρ H k lo' ((execOp a.eval o).run P w):=by
  intro c;have p:=fun x (_:x∈o.op.operands)=>sB s.slots x
  rcases d with ⟨_,rfl,d,_⟩|⟨_,_,rfl,d⟩|⟨_,_,rfl,d⟩
  ·exact d c bs ρ H w a.eval s.toSatW p
  ·exact d.1 c bs ρ H w a.eval s.toSatW p
  exact d _ c bs ρ H w a.eval s.toSatW p
 have run:∀ j,(∀ ρ' H' v,qR ρ' H' k v->qR ρ' H' j v)->(∀ ρ' H' a' w',Sat bs N ρ' H' (upd e o.dst j) lo' a' w'->K a' w')->gOn g->o.wp P a w K Q:=by
  intro j C q c;have h:=sem c;have fin:∀ v w',dT bs ρ H k lo' v w'->K (a.put o.dst v) w':=fun v w' ⟨ρ',H',h1,h2,h3,h4⟩=>q _ _ _ _ (s.put h1 h2 h3 z (C _ _ _ h4))
  unfold Oper.wp;generalize (execOp a.eval o).run P w=r at *;cases r with
  | ok n w'=>
   cases n<;>simp only[MJ]at h<;>simp only[Oper.upon]
   case value v=>exact fin v w' h
   case skip=>exact fin undef w' h
   case enter f args=>exact h.mono fun E t ⟨v,D,h1⟩=>by subst D; exact fin v t h1
  | halt x w'=>simp only[MJ]at h
 cases g with
 | none=>exact .inl (run k (fun _ _ _ h=>h) l trivial)
 | some b=>
  cases b with
  | true=>exact .inl (run _ (fun _ _ _ h=>by simpa[tZ,qR]using h) l rfl)
  | false=>
   have u:lo'=lo:=by
    rcases d with ⟨_,h,_⟩|⟨_,_,h,_⟩|⟨_,_,h,_⟩
    ·cases h
    ·exact h
    exact h
   subst u;exact l _ _ _ _ (s.put (jq _) (PH.le.refl H) s.toSatW z (by simp[tZ,qR]))
def vO (P:Program) (f:FuncId) (args:List FV) (lo:List AObj) (R:FV->List AObj->Prop):Prop:=
 ∀ (bs:Base) (ρ:List Value) (H:PH) (w:World) (vs:List Value),SatW bs ρ H lo w->zZ ρ H args vs ->
  match (callFunc f vs.toArray).run P w with
  | .ok (.value v) w'=>∃ r lo',dT bs ρ H r lo' v w'/\R r lo'
  | .ok (.enter f' args') w'=>w'=w/\Calls P f' args' w fun b a=>∃ v r lo',b=.returned v/\dT bs ρ H r lo' v a/\R r lo'
  | _=>False
theorem vO.mono {f:FuncId} {args:List FV} {lo:List AObj} {R R':FV->List AObj->Prop} (h:vO P f args lo R) (b:∀ r lo,R r lo->R' r lo):vO P f args lo R':=by
 intro bs ρ H w vs s c;have:=h bs ρ H w vs s c;generalize (callFunc f vs.toArray).run P w=x at *;cases x with
 | ok n w'=>
  cases n<;>simp only at this ⊢ <;> try exact this
  ·obtain⟨r,lo',a,k⟩:=this; exact⟨r,lo',a,b _ _ k⟩
  exact⟨this.1,this.2.mono fun g d ⟨v,r,lo',e,a,k⟩=>⟨v,r,lo',e,a,b _ _ k⟩⟩
 | halt x w'=>exact this
def ik (v:FV) (lo:List AObj) (no:Prop) (R:List AObj->Prop):Prop:=
 match v with
 | .ptr k off=>Qr k lo fun o=>match o with
  | .box T cells=>ZT off cells fun cs=>match cs with
   | .bself j::_=>(XJ off [.p .nilp] cells fun cells'=>Ue k (.box T cells') lo R)/\(XJ off [.ptr j 0] cells fun cells'=>Ue k (.box T cells') lo R)
   | _=>no
  | _=>no
 | _=>no
theorem zZ.over {ρ:List Value} {H:PH}:∀ {cs:List FV} {vs:List Value} {off:Nat} {c:FV} {v:Value},zZ ρ H cs vs->vs[off]? =some v->qR ρ H c v ->
  zZ ρ H (cs.take off++[c]++cs.drop (off+1)) vs
 | [],vs,off,c,v,h,hv,r=>by simp only[zZ]at h; subst h; simp at hv
 | d::cs,vs,0,c,v,h,hv,r=>by
  obtain⟨u,a,rfl,_,rs⟩:=h;simp only[jd,Option.some.injEq]at hv;subst hv;simpa using⟨u,a,rfl,r,rs⟩
 | d::cs,vs,off+1,c,v,h,hv,r=>by
  obtain⟨u,a,rfl,b,rs⟩:=h;have:=rs.over (off:=off) (c:=c) (v:=v) (by simpa using hv) r;have e:(d::cs).drop (off+1+1)=cs.drop (off+1):=rfl;rw[List.take_succ_cons,e,List.cons_append,List.cons_append];exact⟨u,a,rfl,b,this⟩
theorem SatW.rebox {bs:Base} {ρ:List Value} {H:PH} {lo:List AObj} {w:World} {k:Nat} {T:TypeId} {cells cells':List FV} (s:SatW bs ρ H lo w) (g:lo[k]? =some (.box T cells))
  (h:∀ vs,zZ ρ H cells vs->ρ[k]? ≠none->(∃ b,ρ[k]? =some (.pointer (some ⟨b,0,none⟩))/\w.heap[b]? =some (.cells vs.toArray T (0,0)))->zZ ρ H cells' vs):SatW bs ρ H (lo.set k (.box T cells')) w where
 sath:=s.sath
 hlen:=by simpa using s.hlen
 pre:=s.pre
 objs:=fun i o v a c=>by
  rw[jF]at a;split at a
  ·rename_i e
   subst e;split at a
   ·cases a
    obtain⟨b,vs,rfl,p,q,r⟩:=s.objs _ _ _ g c;exact⟨b,vs,rfl,p,h vs q (by rw[c]; simp) ⟨b,c,p⟩,r⟩
   cases a
  ·exact s.objs i o v a c
 excl:=fun i j o o' v v' b a t c l m hl n d=>by
  have key:∀ {i:Nat} {o:AObj},(lo.set k (.box T cells'))[i]? =some o->o.live=true->∃ f,lo[i]? =some f/\f.live=true:=by
   intro i o a hl;rw[jF]at a;split at a
   ·rename_i e; subst e; exact⟨_,g,rfl⟩
   exact⟨o,a,hl⟩
  obtain⟨f,h2,u⟩:=key a hl;obtain⟨x,h3,y⟩:=key t n;exact s.excl i j f x v v' b h2 h3 c l m u y d
 own:=fun i o v b a c hl d=>by
  rw[jF]at a;split at a
  ·rename_i e; subst e; exact s.own _ _ v b g c rfl d
  exact s.own i o v b a c hl d
 keep:=s.keep
 leH:=s.leH
 newH:=s.newH
theorem PI {bs:Base} {ρ:List Value} {H:PH} {e:Nat->FV} {lo:List AObj} {a:Act} {w:World} {v:FV} {no:Prop} {R:List AObj->Prop} (h:ik v lo no R) (s:Sat bs N ρ H e lo a w) :
  no\/∃ lo',R lo'/\Sat bs N ρ H e lo' a w:=by
 unfold ik at h;split at h
 ·rename_i k off
  obtain⟨o,q,h⟩:=zE h;split at h
  ·rename_i T cells
   obtain⟨h,z⟩:=fh h;split at h
   ·rename_i j cs t
    have B:cells[off]? =some (.bself j):=by
     have:=congrArg (fun l=>l[0]?) t
     simpa using this
    obtain⟨h1,h2⟩:=h;obtain⟨h1,_⟩:=rB h1;obtain⟨h2,_⟩:=rB h2;obtain⟨h1,_⟩:=vB h1;obtain⟨h2,_⟩:=vB h2
    right
    have g:k<ρ.length:=by rw[s.hlen]; exact(jG.1 q).1
    obtain⟨b,vs,C,D,m,_⟩:=s.objs k _ _ q (jf g);have get:∀ {cs:List FV} {vs:List Value} {i:Nat} {c:FV},zZ ρ H cs vs->cs[i]? =some c->∃ v,vs[i]? =some v/\qR ρ H c v:=by
     intro cs
     induction cs with
     | nil=>intro vs i c _ h; simp at h
     | cons d cs ih=>
      intro vs i c x h;obtain⟨v,E,rfl,r,rs⟩:=x;cases i with
      | zero=>simp at h; subst h; exact⟨v,by simp,r⟩
      | succ i=>simp at h; obtain⟨u,hu,F⟩:=ih rs h; exact⟨u,by simpa using hu,F⟩
    obtain⟨x,A,G,I,y⟩:=get m B;have uniq:∀ f,(∃ b,ρ[k]? =some (.pointer (some ⟨b,0,none⟩))/\w.heap[b]? =some (.cells f.toArray T (0,0)))->f=vs:=by
     rintro f ⟨J,e2,n⟩;rw[jf g,C]at e2;cases e2;rw[D]at n;have:=congrArg Array.toList (Obj.cells.inj (Option.some.inj n)).1;simpa using this.symm
    rcases y with rfl|rfl
    ·refine⟨_,h1,{ (s.toSatW.rebox (cells':=cells.take off++[.p .nilp]++cells.drop (off+1)) q fun f r _ hw=>?_)with slots:=s.slots,width:=s.width,defers:=s.defers }⟩
     have:=uniq f hw;subst this;exact r.over A (by simp[qR,qP])
    refine⟨_,h2,{ (s.toSatW.rebox (cells':=cells.take off++[.ptr j 0]++cells.drop (off+1)) q fun f r _ hw=>?_)with slots:=s.slots,width:=s.width,defers:=s.defers }⟩;have:=uniq f hw;subst this;exact r.over A ⟨G,I,rfl⟩
   exact .inl h
  exact .inl h
 exact .inl h
def qc6 {α:Type}:List α->List α->(List α->Prop)->Prop
 | [],m,R=>R m
 | a::l,m,R=>qc6 l m fun l=>R (a::l)
def qcx (P:Program) (inl:List Nat) (N:Nat) (all:List Oper) (o:Oper) (E:Env) (lo:List AObj) (R:Env->List AObj->Prop):Prop:=
 match o.op with
 | .call { callee:=.value (.func f),args:=⟨xs⟩,argTypes:=_ }=>match UL inl f with
  | true=>match o.guard with
   | none=>evL E none xs fun vs=>vO P f vs lo fun r lo=>tq N o.dst r E fun E=>R E lo
   | some _=>BA all o E fun g=>match g with
    | some b=>(b=true->evL E (some b) xs fun vs=>vO P f vs lo fun r lo=>tq N o.dst (.opt b r) E fun E=>R E lo)/\(b=false->∃ v,tq N o.dst (.opt b v) E fun E=>R E lo)
    | none=>False
  | false=>Rx P N all o E lo R
 | .call { callee:=.value (.tmp t),args:=⟨xs⟩,argTypes:=_ }=>match qdt inl t with
  | true=>match o.guard with
   | none=>evS E none (.tmp t) fun a=>evL E none xs fun vs=>match a with
    | .clo f c=>XE c fun cs=>qc6 vs cs fun vs=>vO P f vs lo fun r lo=>tq N o.dst r E fun E=>R E lo
    | .p (.fn f)=>vO P f vs lo fun r lo=>tq N o.dst r E fun E=>R E lo
    | _=>False
   | some _=>False
  | false=>Rx P N all o E lo R
 | .call { callee:=.builtin .len,args:=⟨[x]⟩,argTypes:=⟨[t]⟩ }=>ev E x fun v=>match v with
  | .mref k=>match o.guard with
   | none=>qbu P t lo (.mref k) fun v=>tq N o.dst v E fun E=>R E lo
   | some _=>False
  | _=>Rx P N all o E lo R
 | .buildSlice t n ⟨zi⟩=>match TT inl o.dst with
  | true=>match o.guard with
   | none=>LB P (qgi inl o.dst) (eJ inl o.dst) E lo t n zi fun v lo=>tq N o.dst v E fun E=>R E lo
   | some _=>False
  | false=>Rx P N all o E lo R
 | .convert sr d x=>match TT inl o.dst with
  | true=>match o.guard with
   | none=>evS E none x fun x=>lf P sr d lo x fun v lo=>tq N o.dst v E fun E=>R E lo
   | some _=>False
  | false=>Rx P N all o E lo R
 | .alloc t=>match TT inl o.dst with
  | true=>match o.guard with
   | none=>Lw P t lo fun v lo=>tq N o.dst v E fun E=>R E lo
   | some _=>False
  | false=>Rx P N all o E lo R
 | .build t ⟨zi⟩=>match eJ inl o.dst with
  | true=>match o.guard with
   | none=>Lz P E none t zi fun v=>tq N o.dst v E fun E=>R E lo
   | some _=>False
  | false=>Rx P N all o E lo R
 | .load t x=>ev E x fun v=>match v with
  | .eptr k z i off=>match o.guard with
   | none=>EN P t lo k z i off fun v=>tq N o.dst v E fun E=>R E lo
   | some _=>False
  | .opt g' (.eptr k z i off)=>BA all o E fun g=>match g with
   | some g=>(g=true->g'=true)/\BF P g t lo k z i off fun v=>tq N o.dst (.opt g v) E fun E=>R E lo
   | none=>False
  | v=>ik v lo (Rx P N all o E lo R) (fun lo'=>Rx P N all o E lo' R)
 | op=>match o.guard with
  | none=>eM P inl o.dst op E lo (Rx P N all o E lo R) fun v lo=>tq N o.dst v E fun E=>R E lo
  | some _=>Rx P N all o E lo R
def SH (P:Program) (inl:List Nat) (N:Nat) (all:List Oper) (K:Env->List AObj->Prop):List Oper->Env->List AObj->Prop
 | [],E,lo=>K E lo
 | o::rest,E,lo=>qcx P inl N all o E lo (SH P inl N all K rest)
theorem XA {α:Type}:∀ {l m:List α} {R:List α->Prop},qc6 l m R->R (l++m)
 | [],m,R,h=>h
 | a::l,_,R,h=>XA (l:=l) (R:=fun l=>R (a::l)) h
theorem Ry {bs:Base} {all:List Oper} {inl:List Nat} {o:Oper} {i:Nat} (U:all[i]? =some o) {ρ:List Value} {H:PH} {E:Env} {lo:List AObj} {a:Act} {w:World} {R:Env->List AObj->Prop} {K:Act->World->Prop}
  (s:Sat bs N ρ H (qT E) lo a w) (h:qcx P inl N all o E lo R) (S:∀ E' lo' ρ' H' a' w',R E' lo'->Sat bs N ρ' H' (qT E') lo' a' w'->K a' w'):wpOp P all.toArray Q i K a w:=by
 have plain:∀ lo,Sat bs N ρ H (qT E) lo a w->Rx P N all o E lo R->wpOp P all.toArray Q i K a w:=by
  intro lo s h;obtain⟨E',lo',st,h⟩:=NV h;exact st.wp (by simpa using U) s fun ρ' H' a' w' D=>S E' lo' ρ' H' a' w' h D
 have F:all.toArray[i]? =some o:=by simpa using U
 have fin:∀ v w',(∃ r lo',dT bs ρ H r lo' v w'/\tq N o.dst r E fun E=>R E lo')->K (a.put o.dst v) w':=by
  rintro v w' ⟨r,lo',⟨ρ',H',h1,h2,h3,h4⟩,hp⟩;obtain⟨G,E',I,V⟩:=xC hp;exact S E' lo' ρ' H' _ w' V (by rw[I]; exact s.put h1 h2 h3 G h4)
 have value:o.guard=none->(∃ v w' r lo',(execOp a.eval o).run P w=.ok (.value v) w'/\dT bs ρ H r lo' v w'/\tq N o.dst r E fun E=>R E lo')->wpOp P all.toArray Q i K a w:=by
  rintro l ⟨v,w',r,lo',p,y,hp⟩;unfold wpOp;simp only[F,Region.wanted,l,if_true];refine .inl ?_;unfold Oper.wp;rw[p];simp only[Oper.upon];exact fin v w' ⟨r,lo',y,hp⟩
 have calls:o.guard=none->∀ (f:FuncId) (vs:List FV) (us:List Value),zZ ρ H vs us->(execOp a.eval o).run P w=(callFunc f us.toArray).run P w->(vO P f vs lo fun r lo=>tq N o.dst r E fun E=>R E lo)->wpOp P all.toArray Q i K a w:=by
  intro l f vs us O p h;have:=h bs ρ H w us s.toSatW O;unfold wpOp;simp only[F,Region.wanted,l,if_true];refine .inl ?_;unfold Oper.wp;rw[p];generalize (callFunc f us.toArray).run P w=x at *;cases x with
  | ok n w'=>
   cases n<;>simp only at this<;>simp only[Oper.upon]
   case value v=>exact fin v w' this
   case enter f' args'=>
    obtain⟨rfl,B⟩:=this;exact B.mono fun en J ⟨v,r,lo',e,y,k⟩=>by subst e; exact fin v J ⟨r,lo',y,k⟩
   all_goals exact this.elim
  | halt x w'=>exact this.elim
 unfold qcx at h;split at h
 ·rename_i f xs ts j
  split at h
  ·rename_i hm
   split at h
   ·rename_i l
    obtain⟨vs,h,A⟩:=mz h;refine calls l f vs (xs.map a.eval) (A ρ H a.eval trivial (fun x _=>sB s.slots x)) ?_ h
    have L:a.eval (.func f)=.func (.func f) #[] #[]:=rfl;simp only[execOp,j,resolve,Deferred.ofValue,invoke,L,ke,kf,kc,kb,Array.empty_append,Array.append_empty]
   obtain⟨g,l,h⟩:=sC h;split at h
   ·rename_i b
    unfold wpOp;simp only[F];rw[NY l s.slots];cases b with
    | true=>
     obtain⟨vs,h,A⟩:=mz (h.1 rfl);have O:=A ρ H a.eval rfl (fun x _=>sB s.slots x)
     have B:=h bs ρ H w _ s.toSatW O;refine .inl ?_;have fin2:∀ v w',(∃ r lo',dT bs ρ H r lo' v w'/\tq N o.dst (.opt true r) E fun E=>R E lo')->K (a.put o.dst v) w':=by
      rintro v w' ⟨r,lo',⟨ρ',H',h1,h2,h3,h4⟩,hp⟩;exact fin v w' ⟨.opt true r,lo',⟨ρ',H',h1,h2,h3,by simpa[qR]using h4⟩,hp⟩
     unfold Oper.wp;have L:a.eval (.func f)=.func (.func f) #[] #[]:=rfl;simp only[execOp,j,resolve,Deferred.ofValue,invoke,L,ke,kf,kc,kb,Array.empty_append,Array.append_empty];generalize (callFunc f (List.map a.eval xs).toArray).run P w=x at *;cases x with
     | ok n w'=>
      cases n<;>simp only at B<;>simp only[Oper.upon]
      case value v=>exact fin2 v w' B
      case enter f' args'=>
       obtain⟨rfl,B⟩:=B;exact B.mono fun en J ⟨v,r,lo',e,y,k⟩=>by subst e; exact fin2 v J ⟨r,lo',y,k⟩
      all_goals exact B.elim
     | halt x w'=>exact B.elim
    | false=>
     obtain⟨v,hp⟩:=h.2 rfl;obtain⟨G,E',I,V⟩:=xC hp;exact S E' lo ρ H _ w V (by rw[I]; exact s.put (jq _) (PH.le.refl H) s.toSatW G (by simp[qR]))
   exact h.elim
  exact plain lo s h
 ·rename_i t xs ts j
  split at h
  ·rename_i hm
   split at h
   ·rename_i l
    have m:=qG h; clear h; obtain⟨q,h,X⟩:=m;have m:=mz h; clear h; obtain⟨vs,h,A⟩:=m;have O:=A ρ H a.eval trivial (fun x _=>sB s.slots x)
    have rf:=X ρ H _ trivial (sB s.slots (.tmp t));split at h
    ·rename_i f c
     have m:=sA h; clear h; obtain⟨cs,h,Y⟩:=m;have h:=XA h;obtain⟨us,L,rc⟩:=rf;refine calls l f _ (xs.map a.eval++us) (O.append (Y _ _ _ rc)) ?_ h;simp only[execOp,j,resolve,Deferred.ofValue,invoke,L,ke,kf,kc,kb,List.append_toArray,ju]
    ·rename_i f
     have L:a.eval (.tmp t)=.func (.func f) #[] #[]:=by simpa[qR,qP]using rf
     refine calls l f vs (xs.map a.eval) O ?_ h;simp only[execOp,j,resolve,Deferred.ofValue,invoke,L,ke,kf,kc,kb,Array.empty_append,Array.append_empty]
    exact h.elim
   exact h.elim
  exact plain lo s h
 ·rename_i x t j
  rw[Bw]at h;split at h
  ·rename_i k T
   split at h
   ·rename_i l
    have m:=Tg h; clear h; obtain⟨q,h,u⟩:=m;have rx:=sB s.slots x;rw[T]at rx;obtain⟨v,p,M⟩:=u bs ρ H w o.type _ s.toSatW rx;refine value l ⟨v,w,q,lo,?_,uQ s.toSatW M,h⟩;simp only[execOp,j,resolve,invoke,builtin,ke,kf,kc,kb,jk,jN,p]
   exact h.elim
  exact plain lo s h
 ·rename_i t n zi j
  split at h
  ·split at h
   ·rename_i l
    have m:=UG h; clear h; obtain⟨q,lo',h,_,u⟩:=m;obtain⟨v,w',p,y⟩:=u bs ρ H w a.eval s.toSatW (fun x _=>sB s.slots x)
    refine value l ⟨v,w',q,lo',?_,y,h⟩;simp only[execOp,j,kb,ke,p,kc,kf]
   exact h.elim
  exact plain lo s h
 ·rename_i sr d x j
  split at h
  ·split at h
   ·rename_i l
    have m:=qG h; clear h; obtain⟨x',h,Z⟩:=m;have m:=PZ h; clear h; obtain⟨q,lo',h,u⟩:=m;obtain⟨v,w',p,y⟩:=u bs ρ H w _ s.toSatW (Z ρ H _ trivial (sB s.slots x));refine value l ⟨v,w',q,lo',?_,y,h⟩;simp only[execOp,j,ke,p,kc,kf]
   exact h.elim
  exact plain lo s h
 ·rename_i t j
  split at h
  ·split at h
   ·rename_i l
    obtain⟨q,lo',h,_,u⟩:=GZ h;obtain⟨v,w',p,y⟩:=u bs ρ H w s.toSatW;refine value l ⟨v,w',q,lo',?_,y,h⟩;simp only[execOp,j,ke,p,kc,kf]
   exact h.elim
  exact plain lo s h
 ·rename_i t zi j
  split at h
  ·split at h
   ·rename_i l
    have m:=Fa h; clear h; obtain⟨q,h,u⟩:=m;obtain⟨v,p,M⟩:=u trivial ρ H w a.eval (fun x _=>sB s.slots x)
    refine value l ⟨v,w,q,lo,?_,uQ s.toSatW M,h⟩;simp only[execOp,j,kb,ke,p,kc,kf]
   exact h.elim
  exact plain lo s h
 ·rename_i t x j
  rw[Bw]at h;split at h
  ·rename_i k z i off T
   split at h
   ·rename_i l
    have m:=Uc h; clear h; obtain⟨q,h,u⟩:=m;have rx:=sB s.slots x;rw[T]at rx;obtain⟨v,p,M⟩:=u bs ρ H w _ s.toSatW rx;refine value l ⟨v,w,q,lo,?_,uQ s.toSatW M,h⟩;simp only[execOp,j,ke,p,kc,kf]
   exact h.elim
  ·rename_i g' k z i' off T
   have m:=sC h; clear h; obtain⟨g,l,h⟩:=m;split at h
   ·rename_i g
    obtain⟨hgg,h⟩:=h;have m:=Fb h; clear h; obtain⟨q,h,u⟩:=m;obtain⟨G,E',I,h⟩:=xC h;have st:rG P [] [] false 0 N all.toArray o (qT E) lo (qT E') lo:=by
     refine⟨some g,q,l,G,I,.inr (.inl ⟨?_,?_,rfl,⟨fun C bs ρ H w eval s hx=>?_,fun h=>by cases h⟩⟩)⟩
     ·rw[Qo]; simp[j,nV]
     ·simp[j,Vz]
     have C:g=true:=C;have rx:=hx x (by simp[j,kg]);rw[T]at rx;simp only[qR,hgg C,if_true]at rx;obtain⟨v,p,M⟩:=u C bs ρ H w _ s rx;simp only[execOp,j];exact upon_value s p M
    exact st.wp (by simpa using U) s fun ρ' H' a' w' D=>S E' lo ρ' H' a' w' h D
   exact h.elim
  rcases PI h s with h|⟨lo',h,D⟩
  ·exact plain lo s h
  exact plain lo' D h
 split at h
 ·rename_i l
  rcases EO h with h|⟨q,lo',h,he,hi,p,u⟩
  ·exact plain lo s h
  obtain⟨G,E',I,h⟩:=xC h;have st:rG P inl inl false 0 N all.toArray o (qT E) lo (qT E') lo':=
   ⟨none,q,by simp[cK,l],G,I,.inl ⟨(hi o inl rfl).1,rfl,u o rfl,fun h=>by cases h⟩⟩
  exact st.wp (by simpa using U) s fun ρ' H' a' w' D=>S E' lo' ρ' H' a' w' h D
 exact plain lo s h
theorem Fl {bs:Base} {all:List Oper} {inl:List Nat} {K:Env->List AObj->Prop} (b:∀ ρ H E lo a w,Sat bs N ρ H (qT E) lo a w->K E lo->Q .normal a w) :
  ∀ (l:List Oper) (k:Nat),(∀ j,l[j]? =all[k+j]?)->∀ (ρ:List Value) (H:PH) (E:Env) (lo:List AObj) (a:Act) (w:World),Sat bs N ρ H (qT E) lo a w->SH P inl N all K l E lo ->
   wpOps P all.toArray Q (List.range' k l.length) a w
 | [],k,_,ρ,H,E,lo,a,w,s,h=>by
  simp only[List.length_nil,List.range'_zero,wpOps];exact b ρ H E lo a w s h
 | o::l,k,hl,ρ,H,E,lo,a,w,s,h=>by
  rw[List.length_cons,List.range'_succ,wpOps_cons];refine Ry (by have:=hl 0; simpa using this.symm) s h fun E' lo' ρ' H' a' w' c d=>?_;exact Fl b l (k+1) (fun j=>by have:=hl (j+1); simpa[Nat.add_assoc,Nat.add_comm 1 j]using this) ρ' H' E' lo' a' w' d c
theorem Ey {bs:Base} {ρ:List Value} {H:PH} {E:Env} {lo:List AObj} {a:Act} {w:World} {K:Env->List AObj->Prop} {inl:List Nat} {id:Nat} {l:List Oper}
  (b:∀ ρ H E lo a w,Sat bs N ρ H (qT E) lo a w->K E lo->Q .normal a w) (s:Sat bs N ρ H (qT E) lo a w) (h:SH P inl N l K l E lo):(Code.region id l.toArray false).wp P Q a w:=by
 refine wp_region ?_;have:=Fl (P:=P) b l 0 (by simp) ρ H E lo a w s h;simpa[List.range_eq_range']using this
def qc5 (P:Program) (inl:List Nat) (m:Bool) (n0 N:Nat) (ops:Array Oper) (K:(Nat->FV)->List AObj->Prop):Nat->Array Bool->(Nat->FV)->List AObj->Prop
 | 0,listed,e,lo=>Region.ready .any ops listed=[]/\K e lo
 | fuel+1,listed,e,lo=>(Region.ready .any ops listed=[]->K e lo) /\
   ∀ i∈Region.ready .any ops listed,∃ o a lo',ops[i]? =some o/\rG P inl inl m n0 N ops o e lo a lo'/\qc5 P inl m n0 N ops K fuel (listed.setIfInBounds i true) a lo'
theorem Zz {inl:List Nat} {m:Bool} {n0:Nat} {bs:Base} {K:(Nat->FV)->List AObj->Prop} (b:∀ ρ H e lo a w,Sat bs N ρ H e lo a w->K e lo->Q .normal a w) :
  ∀ (fuel:Nat) (listed:Array Bool) (ρ:List Value) (H:PH) (e:Nat->FV) (lo:List AObj) (a:Act) (w:World),Sat bs N ρ H e lo a w->qc5 P inl m n0 N ops K fuel listed e lo->wpAny P .any ops Q fuel listed a w
 | 0,_,ρ,H,e,lo,a,w,s,h=>⟨h.1,b ρ H e lo a w s h.2⟩
 | fuel+1,listed,ρ,H,e,lo,a,w,s,h=>⟨fun c=>b ρ H e lo a w s (h.1 c),fun i d=>by
  obtain⟨o,f,lo',g,st,j⟩:=h.2 i d;exact st.wp g s fun ρ' H' a' w' k=>Zz b fuel _ ρ' H' f lo' a' w' k j⟩
theorem fg.congr {o:Oper} {e a:Nat->FV} {lo lo':List AObj} {g:G} {b:FV} (h:fg P o e lo g b lo') (he:∀ x∈o.op.operands,evF a x=evF e x):fg P o a lo g b lo':=
 fun c bs ρ H w eval s d=>h c bs ρ H w eval s fun x hm=>by rw[← he x hm]; exact d x hm
theorem iJ {e:Nat->FV} {d:Option Tmp} {v:FV} {o:Oper} (h:∀ t,d=some t->t ∉ o.looksAt ops):∀ x∈o.op.operands,evF (upd e d v) x=evF e x:=by
 intro x a;cases d with
 | none=>rfl
 | some d=>
  cases x with
  | tmp t=>
   have:t≠d:=fun b=>by
    subst b;exact h t rfl (List.mem_append_left _ (List.mem_filterMap.2 ⟨.tmp t,by simpa using a,rfl⟩))
   simp[evF,upd,this]
  | _=>rfl
theorem Nd {e:Nat->FV} {d:Option Tmp} {v:FV} {o:Oper} {g:G} (h:∀ t,d=some t->t ∉ o.looksAt ops):cK ops o (upd e d v) g↔cK ops o e g:=by
 unfold cK;split
 ·exact Iff.rfl
 rename_i j k l;have key:∀ oj f,ops[j]? =some oj->oj.dst=some f->upd e d v f=e f:=by
  intro oj f a c;cases d with
  | none=>rfl
  | some d=>
   have:f≠d:=fun m=>by
    subst m;refine h f rfl (List.mem_append_right _ ?_);simp[l,a,c]
   simp[upd,this]
 constructor
 ·rintro⟨oj,f,b,a,c,i⟩
  rw[key oj f a c]at i;exact⟨oj,f,b,a,c,i⟩
 rintro⟨oj,f,b,a,c,i⟩;refine⟨oj,f,b,a,c,?_⟩;rw[key oj f a c];exact i
theorem oO {e:Nat->FV} {d a:Option Tmp} {v v':FV} (h:∀ t,d=some t->a≠some t):upd (upd e d v) a v'=upd (upd e a v') d v:=by
 cases d with
 | none=>rfl
 | some d=>
  cases a with
  | none=>rfl
  | some a=>
   have b:a≠d:=fun c=>h d rfl (by rw[c])
   funext t;simp only[upd];by_cases h1:t=a
   ·have h2:t≠d:=fun h2=>b (by rw[← h1,← h2])
    simp[h1,b]
   by_cases h2:t=d
   ·have:¬ d=a:=fun h3=>b h3.symm
    simp[h2,this]
   simp[h1,h2]
def Ch (inl:List Nat) (m:Bool) (oi oj:Oper):Bool:=!iv inl m oi oj&&!iv inl m oj oi
theorem Xw.congr {sl:List Nat} {m:Bool} {n0:Nat} {o:Oper} {e b:Nat->FV} {lo:List AObj} {g:G} {c:FV} (h:Xw P sl m n0 o e lo g c) (he:∀ x∈o.op.operands,evF b x=evF e x):Xw P sl m n0 o b lo g c:=
 ⟨h.1.congr he,fun hm d=>let ⟨kk,h1,h2⟩:=h.2 hm d; ⟨kk,h1,fun a h3=>(h2 a h3).congr he⟩⟩
theorem Xw.back {sl:List Nat} {m:Bool} {n0:Nat} {o l:Oper} {e:Nat->FV} {lo f:List AObj} {g:G} {n:FV} (h:Xw P sl m n0 o e f g n) (hm:m=true) (q:n0<=lo.length) (he:Pg sl m n0 l lo f) (hmild:LN sl l=true) (i:tW sl o=false):Xw P sl m n0 o e lo g n:=by
 obtain⟨p,h1,h2⟩:=h.2 hm i;have h3:=(he hm q).2 hmild;have h4:∀ k d,p=some (k,d)->lo[k]? =some d:=fun k d j=>let ⟨a,b,c⟩:=h1 k d j; (h3 k d a b).2 c
 exact⟨h2 lo h4,fun _ _=>⟨p,fun k d j=>⟨(h1 k d j).1,(h1 k d j).2.1,h4 k d j⟩,h2⟩⟩
theorem Xw.forth {sl:List Nat} {m:Bool} {n0:Nat} {o l:Oper} {e:Nat->FV} {lo d:List AObj} {g:G} {n:FV} (h:Xw P sl m n0 o e lo g n) (hm:m=true) (q:n0<=lo.length) (he:Pg sl m n0 l lo d) (hmild:LN sl l=true) (i:tW sl o=false):Xw P sl m n0 o e d g n:=by
 obtain⟨p,h1,h2⟩:=h.2 hm i;have h3:=(he hm q).2 hmild;have h4:∀ k f,p=some (k,f)->d[k]? =some f:=fun k f j=>let ⟨a,b,c⟩:=h1 k f j; (h3 k f a b).1 c
 exact⟨h2 d h4,fun _ _=>⟨p,fun k f j=>⟨(h1 k f j).1,(h1 k f j).2.1,h4 k f j⟩,h2⟩⟩
theorem rG.grow {inl:List Nat} {m:Bool} {n0:Nat} {o:Oper} {e b:Nat->FV} {lo lo':List AObj} (st:rG P inl inl m n0 N ops o e lo b lo') (a:m=true->n0<=lo.length):m=true->n0<=lo'.length:=by
 intro hm;obtain⟨g,d,_,_,_,c⟩:=st;rcases c with ⟨_,_,_,he⟩|⟨_,_,rfl,_⟩|⟨_,_,rfl,_⟩
 ·exact(he hm (a hm)).1
 ·exact a hm
 exact a hm
theorem rG.swap {inl:List Nat} {m:Bool} {n0:Nat} {oi oj:Oper} {e z e2:Nat->FV} {lo t n:List AObj} (A:m=true->n0<=lo.length) (v:oi.apart ops oj=true) (o:Ch inl m oi oj=true)
  (g:rG P inl inl m n0 N ops oi e lo z t) (d:rG P inl inl m n0 N ops oj z t e2 n):∃ u p,rG P inl inl m n0 N ops oj e lo u p/\rG P inl inl m n0 N ops oi u p e2 n:=by
 obtain⟨B,a2,a3⟩:=Oper.apart_spec v;obtain⟨k,j,w,q,rfl,C⟩:=g;obtain⟨l,h,y,r,rfl,sj⟩:=d;have gj':=(Nd B).1 y;have gi':cK ops oi (upd e oj.dst (tZ l h)) k:=(Nd a3).2 w;have ci:∀ x∈oi.op.operands,evF (upd e oj.dst (tZ l h)) x=evF e x:=iJ a3;have cj:∀ x∈oj.op.operands,evF e x=evF (upd e oi.dst (tZ k j)) x:=fun x D=>(iJ B x D).symm;have a:upd (upd e oi.dst (tZ k j)) oj.dst (tZ l h)=upd (upd e oj.dst (tZ l h)) oi.dst (tZ k j):=oO a2;simp only[Ch,iv,ji,Bool.not_eq_true',Bool.and_eq_false_iff,Bool.or_eq_false_iff,Bool.not_eq_false']at o;rcases C with ⟨f,rfl,g,s⟩|⟨f,li,rfl,g⟩|⟨f,li,rfl,g⟩
 ·rcases sj with ⟨b,rfl,d,_⟩|⟨b,i,rfl,d⟩|⟨b,i,rfl,d⟩
  ·simp[f,b]at o
  ·
   have c:(m=true/\LN inl oi=true)/\tW inl oj=false:=by simpa[f,b,i]using o
   exact⟨_,lo,⟨l,h,gj',r,rfl,.inr (.inl ⟨b,i,rfl,(d.congr cj).back c.1.1 (A c.1.1) s c.1.2 c.2⟩)⟩,⟨_,j,gi',q,a,.inl ⟨f,rfl,g.congr ci,s⟩⟩⟩
  exact⟨_,lo,⟨l,h,gj',r,rfl,.inr (.inr ⟨b,i,rfl,fun lo=>(d lo).congr cj⟩)⟩,⟨_,j,gi',q,a,.inl ⟨f,rfl,g.congr ci,s⟩⟩⟩
 ·rcases sj with ⟨b,rfl,d,s⟩|⟨b,i,rfl,d⟩|⟨b,i,rfl,d⟩
  ·have c:(m=true/\LN inl oj=true)/\tW inl oi=false:=by simpa[f,b,li]using o
   exact⟨_,n,⟨_,h,gj',r,rfl,.inl ⟨b,rfl,d.congr cj,s⟩⟩,⟨k,j,gi',q,a,.inr (.inl ⟨f,li,rfl,(g.congr ci).forth c.1.1 (A c.1.1) s c.1.2 c.2⟩)⟩⟩
  ·exact⟨_,_,⟨l,h,gj',r,rfl,.inr (.inl ⟨b,i,rfl,d.congr cj⟩)⟩,⟨k,j,gi',q,a,.inr (.inl ⟨f,li,rfl,g.congr ci⟩)⟩⟩
  exact⟨_,_,⟨l,h,gj',r,rfl,.inr (.inr ⟨b,i,rfl,fun lo=>(d lo).congr cj⟩)⟩,⟨k,j,gi',q,a,.inr (.inl ⟨f,li,rfl,g.congr ci⟩)⟩⟩
 rcases sj with ⟨b,rfl,d,s⟩|⟨b,i,rfl,d⟩|⟨b,i,rfl,d⟩
 ·exact⟨_,n,⟨_,h,gj',r,rfl,.inl ⟨b,rfl,d.congr cj,s⟩⟩,⟨k,j,gi',q,a,.inr (.inr ⟨f,li,rfl,fun lo=>(g lo).congr ci⟩)⟩⟩
 ·exact⟨_,_,⟨l,h,gj',r,rfl,.inr (.inl ⟨b,i,rfl,d.congr cj⟩)⟩,⟨k,j,gi',q,a,.inr (.inr ⟨f,li,rfl,fun lo=>(g lo).congr ci⟩)⟩⟩
 exact⟨_,_,⟨l,h,gj',r,rfl,.inr (.inr ⟨b,i,rfl,fun lo=>(d lo).congr cj⟩)⟩,⟨k,j,gi',q,a,.inr (.inr ⟨f,li,rfl,fun lo=>(g lo).congr ci⟩)⟩⟩
def Ez (ops:Array Oper) (listed:Array Bool):Prop:=∀ (k:Nat) (ok:Oper),ops[k]? =some ok->listed.getD k false=true->∀ x∈ok.after,Region.binds .any x=true->listed.getD x.on false=true
theorem iS (l:Array Bool) (j k:Nat) (h:l.getD k false=true):(l.setIfInBounds j true).getD k false=true:=by
 rw[jX,Array.getElem?_setIfInBounds];split
 ·split<;>rename_i h2 h3
  ·rfl
  rw[jX]at h; subst h2; rw[Array.getElem?_eq_none (by omega)]at h; exact h
 rw[jX]at h; exact h
theorem Ez.set {ops:Array Oper} {listed:Array Bool} (h:Ez ops listed) {j:Nat} (g:j∈Region.ready .any ops listed):Ez ops (listed.setIfInBounds j true):=by
 obtain⟨_,oj,b,a⟩:=mem_ready.1 g;intro k ok c hl x d f;refine iS _ _ _ ?_;by_cases e:k=j
 ·subst e
  have:ok=oj:=Option.some.inj (c.symm.trans b);subst this;exact a x d f
 refine h k ok c ?_ x d f;rw[getD_set_ne false (fun e2=>e e2.symm)]at hl
 exact hl
theorem Fj {ops:Array Oper} {listed:Array Bool} (h:Ez ops listed) {i:Nat}:∀ (f j:Nat) (oj:Oper),ops[j]? =some oj->(∀ x∈oj.after,Region.binds .any x=true->listed.getD x.on false=true)->XK ops i f j=true->listed.getD i false=true
 | 0,_,_,_,_,b=>by simp[XK]at b
 | f+1,j,oj,hj,ha,b=>by
  simp only[XK,hj,jO]at b;rcases b with b|b
  ·obtain⟨x,c,a⟩:=Array.any_eq_true'.1 b
   simp only[ji,beq_iff_eq]at a;rw[← a.2];exact ha x c a.1
  obtain⟨x,c,a⟩:=Array.any_eq_true'.1 b;simp only[ji]at a;cases he:ops[x.on]? with
  | none=>
   cases f with
   | zero=>simp[XK]at a
   | succ f=>simp[XK,he]at a
  | some ox=>exact Fj h f x.on ox he (fun y e d=>h x.on ox he (ha x c a.1) y e d) a.2
theorem SK {inl:List Nat} {m:Bool} {n0:Nat} {K:(Nat->FV)->List AObj->Prop} {i:Nat} {oi:Oper} (M:ops[i]? =some oi) :
  ∀ (fuel:Nat) (listed:Array Bool) (e r:Nat->FV) (lo b:List AObj),
   (∀ j oj,ops[j]? =some oj->j≠i->listed.getD j true=false->(∀ x∈oj.after,Region.binds .any x=true->x.on≠i)->XK ops i ops.size j=false->oi.apart ops oj=true/\Ch inl m oi oj=true) ->
   Ez ops listed->(m=true->n0<=lo.length)->i∈Region.ready .any ops listed->rG P inl inl m n0 N ops oi e lo r b ->
   qc5 P inl m n0 N ops K fuel (listed.setIfInBounds i true) r b->qc5 P inl m n0 N ops K (fuel+1) listed e lo:=by
 intro fuel
 induction fuel with
 | zero=>
  intro listed e r lo b _ _ _ f st H;refine⟨fun h=>(by rw[h]at f; cases f),fun j s=>?_⟩;by_cases a:j=i
  ·subst a; exact⟨oi,r,b,M,st,H⟩
  have:=ready_mono s a;rw[H.1]at this;cases this
 | succ fuel ih=>
  intro listed e r lo b hfree t O f st H;refine⟨fun h=>(by rw[h]at f; cases f),fun j s=>?_⟩;by_cases a:j=i
  ·subst a; exact⟨oi,r,b,M,st,H⟩
  obtain⟨oj,e2,C,d,D,h1⟩:=H.2 j (ready_mono s a);obtain⟨g,c,u,l⟩:=mem_ready.1 s;have:c=oj:=Option.some.inj (u.symm.trans d);subst this;have v:∀ x∈c.after,Region.binds .any x=true->x.on≠i:=fun x he R E=>by
   have h1:=l x he R;have w:=(mem_ready.1 f).1;rw[E]at h1;rcases Nat.lt_or_ge i listed.size with p|p
   ·simp[p]at w h1; rw[w]at h1; cases h1
   simp[Array.getElem?_eq_none p]at h1
  have q:XK ops i ops.size j=false:=by
   cases F:XK ops i ops.size j with
   | false=>rfl
   | true=>
    have h1:=Fj t _ j c d l F;have w:=(mem_ready.1 f).1;rcases Nat.lt_or_ge i listed.size with p|p
    ·simp[p]at w h1; rw[w]at h1; cases h1
    simp[Array.getElem?_eq_none p]at h1
  obtain⟨G,I⟩:=hfree j c d a g v q;obtain⟨y,n,o,z⟩:=rG.swap O G I st D;refine⟨c,y,n,d,o,ih (listed.setIfInBounds j true) y e2 n C (fun k ok S J A L q=>?_) (t.set (ready_mono s a |> fun _=>s)) (o.grow O) (ready_mono f (Ne.symm a)) z ?_⟩
  ·refine hfree k ok S J ?_ L q
   by_cases B:j=k
   ·subst B; exact g
   rw[getD_set_ne true B]at A; exact A
  rw[Array.setIfInBounds_comm _ _ a];exact h1
theorem MY {inl:List Nat} {m:Bool} {listed:Array Bool} {i:Nat} {oi:Oper} (e:ops[i]? =some oi) (h:Region.effFree inl m ops listed i=true) (j:Nat) (oj:Oper) (d:ops[j]? =some oj) (a:j≠i)
  (b:listed.getD j true=false) (c:XK ops i ops.size j=false):Ch inl m oi oj=true:=by
 simp only[Region.effFree,e,List.all_eq_true,List.mem_range]at h;have h1:=h j (jH.1 d).1;simp only[d,jO,beq_iff_eq,a,false_or,b,jP]at h1;rcases h1 with h1|h1
 ·exact h1
 rw[c]at h1; cases h1
def leK (n0:Nat) (lo:List AObj) (R:Prop):Prop:=
 match n0 with
 | 0=>R
 | n0+1=>VB lo 0 fun n=>match Nat.ble (n0+1) n with
  | true=>R
  | false=>False
def Ex (P:Program) (inl:List Nat) (m:Bool) (n0 N:Nat) (all:List Oper) (o:Oper) (E:Env) (lo:List AObj) (R:Env->List AObj->Prop):Prop:=
 match m with
 | false=>Rx P N all o E lo R
 | true=>qcw P inl n0 N all o E lo R
def BY (P:Program) (inl:List Nat) (m:Bool) (n0 N:Nat) (all:List Oper) (o:Oper) (E:Env) (lo:List AObj) (R:Env->List AObj->Prop):Prop:=
 match o.op with
 | .call { callee:=.value (.func f),args:=⟨xs⟩,argTypes:=_ }=>match UL inl f with
  | true=>match o.guard with
   | none=>evL E none xs fun vs=>match UL inl (86000000+f)with
    | false=>∃ r lo',vO P f vs lo (fun a b=>a=r/\b=lo')/\leK n0 lo' (tq N o.dst r E fun E=>R E lo')
    | true=>∃ r l,vO P f vs lo (fun a b=>a=r/\b=lo++l)/\qc6 lo l fun lo'=>leK n0 lo' (tq N o.dst r E fun E=>R E lo')
   | some _=>False
  | false=>Ex P inl m n0 N all o E lo R
 | .call { callee:=.value (.tmp t),args:=⟨xs⟩,argTypes:=_ }=>match qdt inl t with
  | true=>match o.guard with
   | none=>evS E none (.tmp t) fun d=>evL E none xs fun vs=>match d with
    | .clo f c=>XE c fun cs=>qc6 vs cs fun vs=>match UL inl (85000000+t)with
     | false=>∃ r lo',vO P f vs lo (fun a b=>a=r/\b=lo')/\leK n0 lo' (tq N o.dst r E fun E=>R E lo')
     | true=>∃ r l,vO P f vs lo (fun a b=>a=r/\b=lo++l)/\qc6 lo l fun lo'=>leK n0 lo' (tq N o.dst r E fun E=>R E lo')
    | _=>False
   | some _=>False
  | false=>Ex P inl m n0 N all o E lo R
 | .buildSlice t n ⟨zi⟩=>match TT inl o.dst with
  | true=>match o.guard with
   | none=>LB P (qgi inl o.dst) (eJ inl o.dst) E lo t n zi fun v lo=>tq N o.dst v E fun E=>R E lo
   | some _=>False
  | false=>Ex P inl m n0 N all o E lo R
 | .alloc t=>match TT inl o.dst with
  | true=>match o.guard with
   | none=>Lw P t lo fun v lo=>tq N o.dst v E fun E=>R E lo
   | some _=>False
  | false=>Ex P inl m n0 N all o E lo R
 | .convert _ _ _=>match TT inl o.dst with
  | true=>False
  | false=>Ex P inl m n0 N all o E lo R
 | .store t (.tmp a) x=>match UL inl (50000000+a)with
  | true=>match o.guard with
   | none=>Rk P inl n0 t (.tmp a) x E lo fun v lo=>tq N o.dst v E fun E=>R E lo
   | some _=>False
  | false=>Ex P inl m n0 N all o E lo R
 | .load t x=>ev E x fun v=>match v with
  | .eptr k z i off=>match (match m with|false=>true|true=>tW inl o)with
   | true=>match o.guard with
    | none=>EN P t lo k z i off fun v=>tq N o.dst v E fun E=>R E lo
    | some _=>False
   | false=>False
  | .opt g' (.eptr k z i off)=>match (match m with|false=>true|true=>tW inl o)with
   | true=>BA all o E fun g=>match g with
    | some g=>(g=true->g'=true)/\BF P g t lo k z i off fun v=>tq N o.dst (.opt g v) E fun E=>R E lo
    | none=>False
   | false=>False
  | _=>Ex P inl m n0 N all o E lo R
 | op=>match o.guard with
  | none=>eM P inl o.dst op E lo (Ex P inl m n0 N all o E lo R) fun v lo=>tq N o.dst v E fun E=>R E lo
  | some _=>Ex P inl m n0 N all o E lo R
def NW (P:Program) (inl:List Nat) (m:Bool) (n0 N:Nat) (all:List Oper) (K:Env->List AObj->Prop):List Oper->Env->List AObj->Prop
 | [],E,lo=>K E lo
 | o::rest,E,lo=>BY P inl m n0 N all o E lo (NW P inl m n0 N all K rest)
theorem Ck {n0:Nat} {lo:List AObj} {R:Prop} (h:leK n0 lo R):R/\n0<=lo.length:=by
 unfold leK at h;split at h
 ·exact⟨h,jS _⟩
 have h:=xb h;rw[jx]at h;split at h
 ·rename_i a; exact⟨h,jh a⟩
 exact h.elim
theorem mU {inl:List Nat} {m:Bool} {n0:Nat} {all:List Oper} {o:Oper} {E:Env} {lo:List AObj} {R:Env->List AObj->Prop} (D:m=false->n0=0) (h:BY P inl m n0 N all o E lo R) :
  ∃ E' lo',rG P inl inl m n0 N all.toArray o (qT E) lo (qT E') lo'/\R E' lo':=by
 have plain:gx inl o=nV o.op->dh inl o=false->(Ex P inl m n0 N all o E lo R)->∃ E' lo',rG P inl inl m n0 N all.toArray o (qT E) lo (qT E') lo'/\R E' lo':=by
  intro e hst h;cases m with
  | false=>
   obtain rfl:=D rfl;obtain⟨E',lo',st,h⟩:=NV h;refine⟨E',lo',?_,h⟩;obtain⟨g,C,h1,h2,h3,h4⟩:=st;refine⟨g,C,h1,h2,h3,?_⟩;simp only[Qo]at h4;simp only[e];rcases h4 with ⟨a,b,c,d⟩|⟨a,b,c,d⟩|h4
   ·exact .inl ⟨a,b,c,fun h=>by cases h⟩
   ·exact .inr (.inl ⟨a,b,c,d.1,fun h=>by cases h⟩)
   exact .inr (.inr h4)
  | true=>
   obtain⟨E',lo',st,h⟩:=TB hst h;refine⟨E',lo',?_,h⟩;unfold rG at st ⊢;simp only[Qo]at st;simp only[e];exact st
 unfold BY at h;split at h
 ·rename_i f xs K j
  split at h
  ·rename_i hm
   split at h
   ·rename_i q
    obtain⟨vs,h,S⟩:=mz h;have main:∀ r lo',vO P f vs lo (fun a b=>a=r/\b=lo')->Pg inl m n0 o lo lo'->(tq N o.dst r E fun E=>R E lo')->∃ E' lo',rG P inl inl m n0 N all.toArray o (qT E) lo (qT E') lo'/\R E' lo':=by
     intro r lo' G T h;obtain⟨u,E',y,h⟩:=xC h;refine⟨E',lo',⟨none,r,by simp[cK,q],u,y,.inl ⟨by simp[gx,j,hm],rfl,?_,T⟩⟩,h⟩;intro _ bs ρ H w eval s F;have rl:=S ρ H eval trivial (fun x U=>F x (by rw[j]; simp[kg,kh,U]))
     have:=G bs ρ H w _ s rl;have hf:eval (.func f)=.func (.func f) #[] #[]:=by
      have:=F (.func f) (by rw[j]; simp[kg,kh]);simpa[evF,qR,qP]using this
     simp only[execOp,j,resolve,Deferred.ofValue,invoke,hf,ke,kf,kc,kb,Array.empty_append,Array.append_empty];generalize (callFunc f (List.map eval xs).toArray).run P w=x at *;cases x with
     | ok n w'=>
      cases n<;>simp only at this<;>simp only[MJ]
      case value v=>
       obtain⟨r',V,I,rfl,rfl⟩:=this;exact I
      case enter f' args'=>
       obtain⟨rfl,X⟩:=this;exact X.mono fun en w'' ⟨v,r',V,e,I,e1,e2⟩=>by subst e1; subst e2; exact⟨v,e,I⟩
      all_goals exact this.elim
     | halt x w'=>exact this.elim
    split at h
    ·rename_i hb
     obtain⟨r,lo',G,h⟩:=h;obtain⟨h,A⟩:=Ck h;exact main r lo' G (fun _ _=>⟨A,fun hmild=>by simp[j,BK,LN,dh,hb]at hmild⟩) h
    obtain⟨r,l,G,h⟩:=h;have h:=XA h;obtain⟨h,A⟩:=Ck h;refine main r (lo++l) G (fun _ hn=>⟨A,fun _ k ob Y _=>?_⟩) h;rw[jB (Nat.lt_of_lt_of_le (LV Y).1 hn)]
   exact h.elim
  rename_i hm;exact plain (by simp only[gx,j,nV]; simpa using hm) (by simp[dh,j,hm]) h
 ·rename_i t xs K j
  split at h
  ·rename_i hm
   split at h
   ·rename_i q
    have D:=qG h; clear h; obtain⟨C,h,hfv⟩:=D;have D:=mz h; clear h; obtain⟨vs,h,S⟩:=D;split at h
    ·rename_i f c
     have D:=sA h; clear h; obtain⟨cs,h,hcs⟩:=D;have h:=XA h;have main:∀ r lo',vO P f (vs++cs) lo (fun a b=>a=r/\b=lo')->Pg inl m n0 o lo lo'->(tq N o.dst r E fun E=>R E lo')->∃ E' lo',rG P inl inl m n0 N all.toArray o (qT E) lo (qT E') lo'/\R E' lo':=by
      intro r lo' G T h;obtain⟨u,E',y,h⟩:=xC h;refine⟨E',lo',⟨none,r,by simp[cK,q],u,y,.inl ⟨by simp[gx,j,hm],rfl,?_,T⟩⟩,h⟩;intro _ bs ρ H w eval s F;have rl:=S ρ H eval trivial (fun x U=>F x (by rw[j]; simp[kg,kh,U]))
      have rf:=hfv ρ H (eval (.tmp t)) trivial (F (.tmp t) (by rw[j]; simp[kg,kh]));obtain⟨us,hf,rc⟩:=rf;have:=G bs ρ H w _ s (rl.append (hcs _ _ _ rc));simp only[execOp,j,resolve,Deferred.ofValue,invoke,hf,ke,kf,kc,kb,List.append_toArray,ju];generalize (callFunc f (List.map eval xs++us).toArray).run P w=x at *;cases x with
      | ok n w'=>
       cases n<;>simp only at this<;>simp only[MJ]
       case value v=>
        obtain⟨r',V,I,rfl,rfl⟩:=this;exact I
       case enter f' args'=>
        obtain⟨rfl,X⟩:=this;exact X.mono fun en w'' ⟨v,r',V,e,I,e1,e2⟩=>by subst e1; subst e2; exact⟨v,e,I⟩
       all_goals exact this.elim
      | halt x w'=>exact this.elim
     split at h
     ·rename_i hb
      obtain⟨r,lo',G,h⟩:=h;obtain⟨h,A⟩:=Ck h;exact main r lo' G (fun _ _=>⟨A,fun hmild=>by simp[j,BK,LN,dh,hb]at hmild⟩) h
     obtain⟨r,l,G,h⟩:=h;have h:=XA h;obtain⟨h,A⟩:=Ck h;refine main r (lo++l) G (fun _ hn=>⟨A,fun _ k ob Y _=>?_⟩) h;rw[jB (Nat.lt_of_lt_of_le (LV Y).1 hn)]
    exact h.elim
   exact h.elim
  rename_i hm;exact plain (by simp only[gx,j,nV]; simpa using hm) (by simp[dh,j,hm]) h
 ·rename_i t n zi j
  split at h
  ·rename_i hown
   split at h
   ·rename_i q
    obtain⟨C,lo',h,B,p⟩:=UG h;obtain⟨u,E',y,h⟩:=xC h;have Z:BK o.op=true:=by simp[j,BK]
    refine⟨E',lo',⟨none,C,by simp[cK,q],u,y,.inl ⟨by simp[gx,j,hown],rfl,?_,zH.ok (fun _=>by simp[dh,j]) (by rw[Z]; exact B)⟩⟩,h⟩
    intro _ bs ρ H w eval s F;obtain⟨v,w',B,I⟩:=p bs ρ H w eval s (fun x hx'=>F x (by rw[j]; simpa[kg]using hx'))
    simp only[execOp,j,kb,ke,B,kc,kf];exact I
   exact h.elim
  rename_i hm;exact plain (by simp only[gx,j,nV]; simpa using hm) (by simp[dh,j]) h
 ·rename_i t j
  split at h
  ·split at h
   ·rename_i q
    obtain⟨C,lo',h,B,p⟩:=GZ h;obtain⟨u,E',y,h⟩:=xC h;have Z:BK o.op=true:=by simp[j,BK]
    refine⟨E',lo',⟨none,C,by simp[cK,q],u,y,.inl ⟨by simp[gx,j,nV],rfl,?_,zH.ok (fun _=>by simp[dh,j]) (by rw[Z]; exact B)⟩⟩,h⟩
    intro _ bs ρ H w eval s F;obtain⟨v,w',B,I⟩:=p bs ρ H w s;simp only[execOp,j,ke,B,kc,kf];exact I
   exact h.elim
  exact plain (by simp[gx,j]) (by simp[dh,j]) h
 ·rename_i sr d x j
  split at h
  ·exact h.elim
  rename_i hm;exact plain (by simp only[gx,j,nV]; simpa using hm) (by simp[dh,j]) h
 ·rename_i t a x j
  split at h
  ·rename_i hs0
   split at h
   ·rename_i q
    obtain⟨C,lo',h,B,p⟩:=Np (m:=m) (n0:=n0) j h;obtain⟨u,E',y,h⟩:=xC h;exact⟨E',lo',⟨none,C,by simp[cK,q],u,y,.inl ⟨by simp[gx,j,nV],rfl,p,B⟩⟩,h⟩
   exact h.elim
  rename_i hm;exact plain (by simp[gx,j]) (by simpa[dh,j]using hm) h
 ·rename_i t x j
  rw[Bw]at h;split at h
  ·rename_i k z i off Y
   split at h
   ·rename_i J
    split at h
    ·rename_i q
     have D:=Uc h; clear h; obtain⟨C,h,p⟩:=D;obtain⟨u,E',y,h⟩:=xC h;refine⟨E',lo,⟨none,C,by simp[cK,q],u,y,.inr (.inl ⟨by simp[gx,j,nV],by simp[j,Vz],rfl,⟨?_,fun hm p=>by rw[hm]at J; rw[show tW inl o=true from J]at p; cases p⟩⟩)⟩,h⟩
     intro _ bs ρ H w eval s F;have rx:=F x (by simp[j,kg]);rw[Y]at rx;obtain⟨v,B,rv⟩:=p bs ρ H w _ s rx;simp only[execOp,j];exact upon_value s B rv
    exact h.elim
   exact h.elim
  ·rename_i g' k z i off Y
   split at h
   ·rename_i J
    have D:=sC h; clear h; obtain⟨g,q,h⟩:=D;split at h
    ·rename_i g
     obtain⟨hgg,h⟩:=h;have D:=Fb h; clear h; obtain⟨C,h,p⟩:=D;obtain⟨u,E',y,h⟩:=xC h;refine⟨E',lo,⟨some g,C,q,u,y,.inr (.inl ⟨by simp[gx,j,nV],by simp[j,Vz],rfl,⟨?_,fun hm p=>by rw[hm]at J; rw[show tW inl o=true from J]at p; cases p⟩⟩)⟩,h⟩
     intro L bs ρ H w eval s F;have L:g=true:=L;have rx:=F x (by simp[j,kg]);rw[Y]at rx;simp only[qR,hgg L,if_true]at rx;obtain⟨v,B,rv⟩:=p L bs ρ H w _ s rx;simp only[execOp,j];exact upon_value s B rv
    exact h.elim
   exact h.elim
  exact plain (by simp[gx,j]) (by simp[dh,j]) h
 rename_i M O hne3 hne6 hne5 hne4 hne7;have e1:gx inl o=nV o.op:=by
  unfold gx;split
  ·rename_i f xs K j; exact absurd j (M f xs.toList K)
  ·rename_i f xs K j; exact absurd j (O f xs.toList K)
  ·rename_i t n zi j; exact absurd j (hne3 t n zi.toList)
  ·rename_i sr d x j; exact absurd j (hne5 sr d x)
  rfl
 have e2:dh inl o=false:=by
  unfold dh;split
  ·rename_i t a x j; exact absurd j (hne4 t a x)
  ·rename_i t xs K j; exact absurd j (O t xs.toList K)
  ·rename_i f xs K j; exact absurd j (M f xs.toList K)
  rfl
 split at h
 ·rename_i q
  rcases EO h with h|⟨C,lo',h,he,hi,B,p⟩
  ·exact plain e1 e2 h
  obtain⟨u,E',y,h⟩:=xC h;exact⟨E',lo',⟨none,C,by simp[cK,q],u,y,.inl ⟨(hi o inl rfl).1,rfl,p o rfl,zH.ok (fun _=>e2) B⟩⟩,h⟩
 exact plain e1 e2 h
theorem RD {inl:List Nat} {m:Bool} {n0:Nat} (a:m=false->n0=0) {K:(Nat->FV)->List AObj->Prop} {K':Env->List AObj->Prop} {all:List Oper} (i:∀ E lo,K' E lo->K (qT E) lo) :
  ∀ (l:List Oper) (k:Nat) (listed:Array Bool) (E:Env) (lo:List AObj),(∀ j,l[j]? =all[k+j]?)->Ez all.toArray listed->(m=true->n0<=lo.length) ->
  Region.lexFrom .any all.toArray l.length k listed=true->Region.effFrom inl m all.toArray l.length k listed=true->NW P inl m n0 N all K' l E lo->qc5 P inl m n0 N all.toArray K l.length listed (qT E) lo
 | [],_,_,E,lo,_,_,_,hB,_,h=>⟨by simpa[Region.lexFrom]using hB,i E lo h⟩
 | o::l,k,listed,E,lo,hl,hcl,hn,hB,hF,h=>by
  have d:all.toArray[k]? =some o:=by have:=hl 0; simpa using this.symm
  simp only[List.length_cons,Region.lexFrom,Region.effFrom,ji]at hB hF;obtain⟨⟨n,q⟩,e⟩:=hB;obtain⟨E',lo',st,h⟩:=mU a h;refine SK d l.length listed (qT E) (qT E') lo lo' (fun j oj p b c f g=>⟨Region.free_spec d q j oj p b c f,MY d hF.1 j oj p b c g⟩) hcl hn (by simpa using n) st ?_;exact RD a i l (k+1) _ E' lo' (fun j=>by have:=hl (j+1); simpa[Nat.add_assoc,Nat.add_comm 1 j]using this) (hcl.set (by simpa using n)) (st.grow hn) e hF.2 h
theorem UX {inl:List Nat} {c:Bool} {n0:Nat} {bs:Base} {ρ:List Value} {H:PH} {E:Env} {lo:List AObj} {a:Act} {w:World} {K:Env->List AObj->Prop} {id:Nat} {l:List Oper} (hm:P.follows .mixedOrders=true) (f:c=false->n0=0) (i:c=true->n0<=lo.length)
  (g:MX inl c l.toArray=true) (j:∀ ρ H E lo a w,Sat bs N ρ H (qT E) lo a w->K E lo->Q .normal a w) (s:Sat bs N ρ H (qT E) lo a w) (h:NW P inl c n0 N l K l E lo):(Code.region id l.toArray true).wp P Q a w:=by
 simp only[MX,Go.Region.lexB,ji]at g;have s':Sat bs N ρ H (qT E) lo a { w with drawn:=w.drawn+1 }:=by
  refine{ (s.toSatW.calm (H':=H) (w':={ w with drawn:=w.drawn+1 }) ⟨PH.le.refl H,⟨s.sath.cell,s.sath.root⟩,⟨rfl,rfl,rfl,jw _,fun _ _ _=>rfl⟩,fun b o v h=>.inl ⟨v,h⟩⟩)with slots:=s.slots,width:=s.width,defers:=s.defers }
 refine wp_region_any hm (Zz (inl:=inl) (m:=c) (n0:=n0) (K:=fun e lo=>∃ E,qT E=e/\K E lo) (fun ρ H e lo a w s ⟨E,n,d⟩=>j ρ H E lo a w (by rw[n]; exact s) d) _ _ ρ H (qT E) lo a _ s' ?_)
 have:=RD (P:=P) (inl:=inl) (m:=c) (n0:=n0) (N:=N) f (K:=fun e lo=>∃ E,qT E=e/\K E lo) (K':=K) (fun E lo d=>⟨E,rfl,d⟩) l 0 (Array.replicate l.toArray.size false) E lo (by simp) (fun k ok d hl=>by simp only[jX,Array.getElem?_replicate]at hl; split at hl<;>cases hl) i (by simpa using g.1.2) (by simpa using g.2) h
 simpa using this
def BQ (ops:Array Oper) (listed:Array Bool) (l:List Nat):Bool:=Region.ready .any ops listed==l
def Lo (ops:Array Oper):Bool:=decide (ops.size=4)&&BQ ops #[false,false,false,false] [0]&&BQ ops #[true,false,false,false] [1,2]&&BQ ops #[true,true,false,false] [2]&&BQ ops #[true,false,true,false] [1] &&
 BQ ops #[true,true,true,false] [3]&&BQ ops #[true,true,true,true] []
def Mc (P:Program) (inl:List Nat) (N:Nat) (ops:List Oper) (K:Env->List AObj->Prop) (E:Env) (lo:List AObj):Prop:=
 match ops with
 | [o0,o1,o2,o3]=>BY P inl false 0 N ops o0 E lo fun E lo=>
   BY P inl false 0 N ops o1 E lo (fun E lo=>BY P inl false 0 N ops o2 E lo (fun E lo=>BY P inl false 0 N ops o3 E lo K)) /\
   BY P inl false 0 N ops o2 E lo (fun E lo=>BY P inl false 0 N ops o1 E lo (fun E lo=>BY P inl false 0 N ops o3 E lo K))
 | _=>False
theorem BZ {inl:List Nat} {bs:Base} {ρ:List Value} {H:PH} {E:Env} {lo:List AObj} {a:Act} {w:World} {K:Env->List AObj->Prop} {id:Nat} {l:List Oper} (hm:P.follows .mixedOrders=true)
  (t:Lo l.toArray=true) (A:∀ ρ H E lo a w,Sat bs N ρ H (qT E) lo a w->K E lo->Q .normal a w) (s:Sat bs N ρ H (qT E) lo a w) (h:Mc P inl N l K E lo):(Code.region id l.toArray true).wp P Q a w:=by
 have s':Sat bs N ρ H (qT E) lo a { w with drawn:=w.drawn+1 }:=by
  refine{ (s.toSatW.calm (H':=H) (w':={ w with drawn:=w.drawn+1 }) ⟨PH.le.refl H,⟨s.sath.cell,s.sath.root⟩,⟨rfl,rfl,rfl,jw _,fun _ _ _=>rfl⟩,fun b o v h=>.inl ⟨v,h⟩⟩)with slots:=s.slots,width:=s.width,defers:=s.defers }
 unfold Mc at h;split at h
 ·rename_i j d f g
  simp only[Lo,BQ,ji,beq_iff_eq]at t;obtain⟨⟨⟨⟨⟨⟨_,r0⟩,u⟩,x⟩,y⟩,z⟩,B⟩:=t;refine wp_region_any hm (Zz (inl:=inl) (m:=false) (n0:=0) (K:=fun e lo=>∃ E,qT E=e/\K E lo) (fun ρ H e lo a w s ⟨E,C,D⟩=>A ρ H E lo a w (by rw[C]; exact s) D) 4 _ ρ H (qT E) lo a _ s' ?_)
  obtain⟨M,F,n,h1,h2⟩:=mU (fun _=>rfl) h
  have last:∀ {E lo},BY P inl false 0 N [j,d,f,g] g E lo K->qc5 P inl false 0 N #[j,d,f,g] (fun e lo=>∃ E,qT E=e/\K E lo) 1 #[true,true,true,false] (qT E) lo:=by
   intro E lo h;obtain⟨G,I,p,h⟩:=mU (fun _=>rfl) h
   refine⟨fun e=>(by rw[z]at e; cases e),fun i c=>?_⟩;rw[z]at c;obtain rfl:i=3:=by simpa using c
   exact⟨g,_,_,rfl,p,B,G,rfl,h⟩
  refine⟨fun e=>(by rw[show Array.replicate (List.toArray [j,d,f,g]).size false = #[false,false,false,false]from rfl,r0]at e; cases e),fun i c=>?_⟩;rw[show Array.replicate (List.toArray [j,d,f,g]).size false = #[false,false,false,false]from rfl,r0]at c;obtain rfl:i=0:=by simpa using c
  refine⟨j,_,_,rfl,n,?_⟩;refine⟨fun e=>(by rw[show(Array.replicate (List.toArray [j,d,f,g]).size false).setIfInBounds 0 true = #[true,false,false,false]from rfl,u]at e; cases e),fun i c=>?_⟩;rw[show(Array.replicate (List.toArray [j,d,f,g]).size false).setIfInBounds 0 true = #[true,false,false,false]from rfl,u]at c;have c:i=1\/i=2:=by simpa using c
  rcases c with rfl|rfl
  ·obtain⟨J,q,k,h1⟩:=mU (fun _=>rfl) h1
   obtain⟨L,r,st2,h1⟩:=mU (fun _=>rfl) h1
   refine⟨d,_,_,rfl,k,fun e=>(by rw[show((Array.replicate (List.toArray [j,d,f,g]).size false).setIfInBounds 0 true).setIfInBounds 1 true = #[true,true,false,false]from rfl,x]at e; cases e),fun i c=>?_⟩;rw[show((Array.replicate (List.toArray [j,d,f,g]).size false).setIfInBounds 0 true).setIfInBounds 1 true = #[true,true,false,false]from rfl,x]at c;obtain rfl:i=2:=by simpa using c
   exact⟨f,_,_,rfl,st2,last h1⟩
  obtain⟨J,q,k,h2⟩:=mU (fun _=>rfl) h2
  obtain⟨L,r,st2,h2⟩:=mU (fun _=>rfl) h2
  refine⟨f,_,_,rfl,k,fun e=>(by rw[show((Array.replicate (List.toArray [j,d,f,g]).size false).setIfInBounds 0 true).setIfInBounds 2 true = #[true,false,true,false]from rfl,y]at e; cases e),fun i c=>?_⟩;rw[show((Array.replicate (List.toArray [j,d,f,g]).size false).setIfInBounds 0 true).setIfInBounds 2 true = #[true,false,true,false]from rfl,y]at c;obtain rfl:i=1:=by simpa using c
  exact⟨d,_,_,rfl,st2,last h2⟩
 exact h.elim
end
end Ax
end
section
namespace Ax
open Go
abbrev KA:=AX->Env->List AObj->Prop
def aX (x:AX) (e:Exit):Prop:=
 match x,e with
 | .normal,.normal=>True
 | .exit i,.exit j=>i=j
 | .ret,.ret=>True
 | _,_=>False
def TX (bs:Base) (N:Nat) (K:KA):Exit->Act->World->Prop:=fun e a w=>∃ x ρ H E lo,aX x e/\Sat bs N ρ H (qT E) lo a w/\K x E lo
def my (inl:List Nat):Code->Bool
 | .seq a b=>my inl a&&my inl b
 | .cond _ t e=>my inl t&&my inl e
 | .block _ c=>my inl c
 | .loop c=>my inl c
 | .region id ops d=>!d||(match UL inl (90000000+id)with|true=>Lo ops|false=>MX inl (Si inl id) ops)
 | _=>true
def WpA (P:Program) (N nb:Nat) (c:Code) (K:KA) (E:Env) (lo:List AObj):Prop:=
 ∀ (bs:Base) (ρ:List Value) (H:PH) (a:Act) (w:World),bs.r0.length=nb->Sat bs N ρ H (qT E) lo a w->c.wp P (TX bs N K) a w
def zj (P:Program) (inl:List Nat) (N nb:Nat) (body:Code) (K:KA) (E:Env) (lo:List AObj):Prop:=
 P.follows .mixedOrders=true->my inl body=true->WpA P N nb (.loop body) K E lo
def mw (P:Program) (inl:List Nat) (N nb:Nat) (a b:Code) (K:KA) (E:Env) (lo:List AObj):Prop:=
 P.follows .mixedOrders=true->my inl a=true->my inl b=true->WpA P N nb (.seq a b) K E lo
def Bx (id:Nat):Code->Nat
 | .seq a b=>Bx id a+Bx id b
 | .cond _ t e=>Bx id t+Bx id e
 | .block _ c=>Bx id c
 | .loop c=>Bx id c
 | .exit i=>match Nat.beq i id with|true=>1|false=>0
 | _=>0
def TC:Code->Nat
 | .seq a b=>match TC a with|0=>0|_=>TC b
 | .cond _ t e=>TC t+TC e
 | .block id c=>TC c+Bx id c
 | .loop _=>0
 | .exit _=>0
 | .ret=>0
 | _=>1
def qah:Code->Bool
 | .cond _ _ _=>true
 | .seq _ b=>qah b
 | _=>false
def qfq (inl:List Nat) (a:Code):Bool:=match UL inl 1000000 with
 | true=>(match Nat.ble 2 (TC a)with
  | true=>true
  | false=>match UL inl 1000001 with
   | true=>qah a
   | false=>false)
 | false=>false
def vc (P:Program) (inl:List Nat) (N nb:Nat):Code->KA->Env->List AObj->Prop
 | .skip,K,E,lo=>K .normal E lo
 | .seq a b,K,E,lo=>match qfq inl a with
  | true=>mw P inl N nb a b K E lo
  | false=>vc P inl N nb a (fun x E lo=>match x with|.normal=>vc P inl N nb b K E lo|.exit i=>K (.exit i) E lo|.ret=>K .ret E lo) E lo
 | .cond c t e,K,E,lo=>ev E c fun v=>match v with
  | .p (.bool b)=>(b=true->vc P inl N nb t K E lo)/\(b=false->vc P inl N nb e K E lo)
  | _=>False
 | .block id c,K,E,lo=>vc P inl N nb c (fun x E lo=>match x with
   | .exit i=>(match Nat.beq i id with|true=>K .normal E lo|false=>K (.exit i) E lo)
   | .normal=>K .normal E lo
   | .ret=>K .ret E lo) E lo
 | .exit id,K,E,lo=>K (.exit id) E lo
 | .ret,K,E,lo=>K .ret E lo
 | .region id ⟨ops⟩ d,K,E,lo=>match d with
  | false=>SH P inl N ops (K .normal) ops E lo
  | true=>match UL inl (90000000+id)with
   | true=>Mc P inl N ops (K .normal) E lo
   | false=>match Si inl id with
    | false=>NW P inl false 0 N ops (K .normal) ops E lo
    | true=>VB lo 0 fun n0=>NW P inl true n0 N ops (K .normal) ops E lo
 | .loop body,K,E,lo=>zj P inl N nb body K E lo
 | c,K,E,lo=>WpA P N nb c K E lo
theorem TX.mono {bs:Base} {N:Nat} {K K':KA} (h:∀ x E lo,K x E lo->K' x E lo) {e:Exit} {a:Act} {w:World} (p:TX bs N K e a w):TX bs N K' e a w:=
 let ⟨x,ρ,H,E,lo,hx,s,k⟩:=p
 ⟨x,ρ,H,E,lo,hx,s,h x E lo k⟩
theorem WpA.mono {P:Program} {N nb:Nat} {c:Code} {K K':KA} {E:Env} {lo:List AObj} (h:∀ x E lo,K x E lo->K' x E lo) (w:WpA P N nb c K E lo):WpA P N nb c K' E lo:=
 fun bs ρ H a ww b s=>wp_mono (w bs ρ H a ww b s) fun _ _ _ p=>p.mono h
theorem cq {P:Program} {inl:List Nat} (hm:P.follows .mixedOrders=true) {N nb:Nat}:∀ (c:Code) (K:KA) (E:Env) (lo:List AObj),my inl c=true->vc P inl N nb c K E lo->WpA P N nb c K E lo
 | .skip,K,E,lo,_,h=>fun bs ρ H a w f s=>wp_skip ⟨.normal,ρ,H,E,lo,trivial,s,h⟩
 | .seq x y,K,E,lo,hd,h=>fun bs ρ H a w f s=>by
  simp only[my,ji]at hd;simp only[vc]at h;split at h
  ·exact h hm hd.1 hd.2 bs ρ H a w f s
  refine wp_seq (wp_mono (cq hm x _ E lo hd.1 h bs ρ H a w f s) fun e a w p=>?_);obtain⟨x',ρ',H',E',lo',q,m,k⟩:=p;cases x'<;>cases e<;>simp only[aX]at q
  ·exact cq hm y K E' lo' hd.2 k bs ρ' H' a w f m
  ·exact⟨.exit _,ρ',H',E',lo',q,m,k⟩
  exact⟨.ret,ρ',H',E',lo',trivial,m,k⟩
 | .cond c t e,K,E,lo,hd,h=>fun bs ρ H a w f s=>by
  simp only[my,ji]at hd;simp only[vc,Bw]at h;have o:=sB s.slots c;split at h
  ·rename_i b u
   rw[u]at o;exact wp_cond_split (rh o) (fun n=>cq hm t K E lo hd.1 (h.1 n) bs ρ H a w f s) (fun n=>cq hm e K E lo hd.2 (h.2 n) bs ρ H a w f s)
  exact h.elim
 | .block id c,K,E,lo,hd,h=>fun bs ρ H a w f s=>by
  refine wp_block (wp_mono (cq hm c _ E lo hd h bs ρ H a w f s) fun e a w p=>?_);obtain⟨x',ρ',H',E',lo',q,m,k⟩:=p;cases x'<;>cases e<;>simp only[aX]at q
  ·exact⟨.normal,ρ',H',E',lo',trivial,m,k⟩
  ·rename_i i j
   subst q;simp only[Exit.inBlock];by_cases v:i=id
   ·subst v
    simp only[Nat.beq_refl]at k;simp only[if_true];exact⟨.normal,ρ',H',E',lo',trivial,m,k⟩
   have:Nat.beq i id=false:=by
    cases f:Nat.beq i id with
    | false=>rfl
    | true=>exact absurd (jm f) v
   simp only[this]at k;simp only[v,if_false];exact⟨.exit i,ρ',H',E',lo',rfl,m,k⟩
  exact⟨.ret,ρ',H',E',lo',trivial,m,k⟩
 | .exit id,K,E,lo,_,h=>fun bs ρ H a w f s=>wp_exit ⟨.exit id,ρ,H,E,lo,rfl,s,h⟩
 | .ret,K,E,lo,_,h=>fun bs ρ H a w f s=>wp_ret ⟨.ret,ρ,H,E,lo,trivial,s,h⟩
 | .region id ⟨ops⟩ d,K,E,lo,hd,h=>fun bs ρ H a w f s=>by
  have r:∀ ρ H E lo a w,Sat bs N ρ H (qT E) lo a w->K .normal E lo->TX bs N K .normal a w:=fun ρ H E lo a w s k=>⟨.normal,ρ,H,E,lo,trivial,s,k⟩;cases d with
  | false=>exact Ey (P:=P) (l:=ops) r s h
  | true=>
   have g:(match UL inl (90000000+id)with|true=>Lo ops.toArray|false=>MX inl (Si inl id) ops.toArray)=true:=by simpa[my]using hd
   simp only[vc]at h;split at h
   ·rename_i o
    rw[o]at g;exact BZ hm g r s h
   rename_i o;rw[o]at g;replace g:MX inl (Si inl id) ops.toArray=true:=g;split at h
   ·rename_i hl
    rw[hl]at g;exact UX hm (fun _=>rfl) (fun h=>by cases h) g r s h
   rename_i hl;rw[hl]at g;have h:=xb h;rw[jx]at h;exact UX hm (fun h=>by cases h) (fun _=>jw _) g r s h
 | .loop body,K,E,lo,hd,h=>h hm hd
 | .rangeFunc ..,K,E,lo,_,h=>h
 | .scope _,K,E,lo,_,h=>h
 | .label _,K,E,lo,_,h=>h
 | .goto _,K,E,lo,_,h=>h
 | .refuse _,K,E,lo,_,h=>h
def FV.ren (π:Nat->Nat):FV->FV
 | .opt g v=>.opt g (v.ren π)
 | .tsl k rows=>.tsl (π k) rows
 | .ptr k off=>.ptr (π k) off
 | .bself k=>.bself (π k)
 | .bsl k off len cp=>.bsl (π k) off len cp
 | .vsl k n=>.vsl (π k) n
 | .eptr k z i off=>.eptr (π k) z i off
 | .mref k=>.mref (π k)
 | .pair a b=>.pair (a.ren π) (b.ren π)
 | .stmp k=>.stmp (π k)
 | .clo f c=>.clo f (c.ren π)
 | .cap a b=>.cap (a.ren π) (b.ren π)
 | .fagg c=>.fagg (c.ren π)
 | .asl k off n=>.asl (π k) off n
 | .ifs t c=>.ifs t (c.ren π)
 | v=>v
def leF (π:Nat->Nat) (fresh:List Nat) (v v':FV):Prop:=
 match v' with
 | .top=>True
 | .p p'=>match v with
  | .p p=>p=p'\/nle p p'
  | .tsl _ rows=>PV.sl rows=p'
  | .clo f c=>Bq c fun cs=>PV.clo f cs=p'
  | _=>False
 | .tsl k' rows'=>match v with
  | .tsl k rows=>k=π k'/\rows=rows'/\k' ∉ fresh
  | .p .nilsl=>rows'=[]/\k'∈fresh
  | _=>False
 | .ptr k' off'=>match v with
  | .ptr k off=>k=π k'/\off=off'/\k' ∉ fresh
  | _=>False
 | .bself k'=>match v with
  | .bself k=>k=π k'/\k' ∉ fresh
  | .ptr k off=>k=π k'/\off=0/\k' ∉ fresh
  | _=>False
 | .bsl k' off' len' cap'=>match v with
  | .bsl k off len cap=>k=π k'/\off=off'/\len=len'/\cap=cap'/\k' ∉ fresh
  | _=>False
 | .hptr row'=>match v with
  | .hptr row=>row=row'
  | _=>False
 | .vsl k' n'=>match v with
  | .vsl k n=>k=π k'/\n=n'/\k' ∉ fresh
  | .p .nilsl=>n'=0/\k'∈fresh
  | _=>False
 | .eptr k' z' i' off'=>match v with
  | .eptr k z i off=>k=π k'/\z=z'/\i=i'/\off=off'/\k' ∉ fresh
  | _=>False
 | .mref k'=>match v with
  | .mref k=>k=π k'/\k' ∉ fresh
  | _=>False
 | .pair a' b'=>match v with
  | .pair a b=>leF π fresh a a'/\leF π fresh b b'
  | _=>False
 | .stmp k'=>match v with
  | .stmp k=>k=π k'/\k' ∉ fresh
  | _=>False
 | .clo f' c'=>match v with
  | .clo f c=>f=f'/\leF π fresh c c'
  | _=>False
 | .cap0=>match v with
  | .cap0=>True
  | _=>False
 | .cap a' b'=>match v with
  | .cap a b=>leF π fresh a a'/\leF π fresh b b'
  | _=>False
 | .fagg c'=>match v with
  | .fagg c=>leF π fresh c c'
  | _=>False
 | .nxt ok' a' b'=>match v with
  | .nxt ok a b=>ok=ok'/\a=a'/\b=b'
  | _=>False
 | .asl k' off' n'=>match v with
  | .asl k off n=>k=π k'/\off=off'/\n=n'/\k' ∉ fresh
  | _=>False
 | .ifs t' c'=>match v with
  | .ifs t c=>t=t'/\leF π fresh c c'
  | _=>False
 | .opt _ _=>False
def leC (π:Nat->Nat) (fresh:List Nat) (k':Nat) (v v':FV):Prop:=
 match v,v' with
 | .p .nilp,.bself k=>k=k'/\k ∉ fresh
 | v,v'=>leF π fresh v v'
def fZ (π:Nat->Nat) (fresh:List Nat) (k':Nat) (o o':AObj):Prop:=
 match o' with
 | .dead=>True
 | .box t' cells'=>match o with
  | .box t cells=>t=t'/\cells.length=cells'.length/\∀ (i:Nat) (c a:FV),cells[i]? =some c->cells'[i]? =some a->leC π fresh k' c a
  | _=>False
 | .tail e z n=>o=.tail e z n
 | .vec e z rows=>o=.vec e z rows
 | .mp d es mk'=>mk'=none/\∃ mk,o=.mp d es mk
 | .sit l p=>o=.sit l p
 | .bv l=>o=.bv l
 | .vl e z rows j k'=>k' ∉ fresh/\o=.vl e z rows j (π k')
 | .pbx t' a=>match o with
  | .pbx t c=>t=t'/\leF π fresh c a
  | _=>False
structure Weak (nb:Nat) (E:Env) (lo:List AObj) (E':Env) (lo':List AObj) (π:Nat->Nat) (fresh:List Nat):Prop where
 bounds:∀ k,k<lo'.length->k ∉ fresh->π k<lo.length
 keep:∀ k,k<nb->π k=k/\k ∉ fresh
 nb:nb<=lo'.length
 inj:∀ i j oi oj,lo'[i]? =some oi->lo'[j]? =some oj->oi.live=true->oj.live=true->i ∉ fresh->j ∉ fresh->π i=π j->i=j
 frsh:∀ k,k∈fresh->∃ e z,lo'[k]? =some (.tail e z 0)\/lo'[k]? =some (.vec e z [])\/∃ j k2,lo'[k]? =some (.vl e z [] j k2)
 obj:∀ k o',lo'[k]? =some o'->k ∉ fresh->∃ o,lo[π k]? =some o/\fZ π fresh k o o'
 slot:∀ t v,(t,v)∈E'->leF π fresh (qT E t) v
theorem Nr:∀ {E:Env} {t:Nat},qT E t=.top\/(t,qT E t)∈E
 | [],t=>.inl rfl
 | (t',v)::E,t=>by
  simp only[qT];cases a:Nat.beq t t' with
  | true=>
   have:=jm a;subst this;exact .inr (by simp)
  | false=>
   rcases Nr (E:=E) (t:=t)with h|h
   ·exact .inl h
   exact .inr (by simp[h])
def Pf (ρ:List Value) (π:Nat->Nat) (fresh:List Nat) (n:Nat):List Value:=(List.range n).map fun k=>if k∈fresh then .slice none 0 0 else ρ.getD (π k) undef
theorem gy {ρ:List Value} {π:Nat->Nat} {fresh:List Nat} {n k:Nat} (h:k<n):(Pf ρ π fresh n)[k]? =some (if k∈fresh then .slice none 0 0 else ρ.getD (π k) undef):=by
 simp[Pf,h]
def FV.names:FV->List Nat
 | .opt _ v=>v.names
 | .tsl k _=>[k]
 | .ptr k _=>[k]
 | .bself k=>[k]
 | .bsl k _ _ _=>[k]
 | .vsl k _=>[k]
 | .eptr k _ _ _=>[k]
 | .mref k=>[k]
 | .pair a b=>a.names++b.names
 | .stmp k=>[k]
 | .clo _ c=>c.names
 | .fagg c=>c.names
 | .asl k _ _=>[k]
 | .ifs _ c=>c.names
 | .cap a b=>a.names++b.names
 | _=>[]
theorem LJ {ρ:List Value} {H:PH} {π:Nat->Nat} {fresh:List Nat} {n:Nat} {v v':FV} {x:Value} (h:leF π fresh v v') (j:∀ k∈v'.names,k<n) (r:qR ρ H v x) :
  qR (Pf ρ π fresh n) H v' x:=by
 induction v' generalizing v x with
 | top=>trivial
 | p p'=>
  cases v<;>simp only[leF]at h
  ·rename_i p
   rcases h with rfl|h
   ·exact r
   exact GM h r
  ·subst h; exact r.2
  obtain⟨t,e,o⟩:=GC h;subst e;obtain⟨vs,e,r⟩:=r;simp only[qR,qP];exact⟨vs,e,o _ _ _ r⟩
 | opt g v' _=>simp[leF]at h
 | tsl k' rows'=>
  have a:=j k' (by simp[FV.names]);cases v<;>simp only[leF]at h
  ·rename_i p
   cases p<;>simp only at h;obtain⟨rfl,d⟩:=h;simp only[qR,qP]at r ⊢;subst r;exact⟨by rw[gy a]; simp[d],.inl ⟨trivial,.inl rfl⟩⟩
  rename_i k rows;obtain⟨rfl,rfl,d⟩:=h;obtain⟨f,l⟩:=r;refine⟨?_,l⟩;rw[gy a];simp[d,List.getD_eq_getElem?_getD,f]
 | ptr k' off'=>
  have a:=j k' (by simp[FV.names]);cases v<;>simp only[leF]at h;rename_i k off;obtain⟨rfl,rfl,d⟩:=h;obtain⟨b,f,l⟩:=r;refine⟨b,?_,l⟩;rw[gy a];simp[d,List.getD_eq_getElem?_getD,f]
 | hptr row=>
  cases v<;>simp only[leF]at h;rw[h]at r;exact r
 | bself k'=>
  have a:=j k' (by simp[FV.names]);cases v<;>simp only[leF]at h
  ·rename_i k off
   obtain⟨rfl,rfl,d⟩:=h;obtain⟨b,f,rfl⟩:=r;refine⟨b,?_,.inr rfl⟩;rw[gy a];simp[d,List.getD_eq_getElem?_getD,f]
  rename_i k;obtain⟨rfl,d⟩:=h;obtain⟨b,f,l⟩:=r;refine⟨b,?_,l⟩;rw[gy a];simp[d,List.getD_eq_getElem?_getD,f]
 | bsl k' off' len' cap'=>
  have a:=j k' (by simp[FV.names]);cases v<;>simp only[leF]at h;rename_i k off len cap;obtain⟨rfl,rfl,rfl,rfl,d⟩:=h;obtain⟨b,f,l⟩:=r;refine⟨b,?_,l⟩;rw[gy a];simp[d,List.getD_eq_getElem?_getD,f]
 | vsl k' n'=>
  have a:=j k' (by simp[FV.names]);cases v<;>simp only[leF]at h
  ·rename_i p
   cases p<;>simp only at h;obtain⟨rfl,d⟩:=h;simp only[qR,qP]at r ⊢;subst r;exact⟨by rw[gy a]; simp[d],.inl ⟨trivial,rfl⟩⟩
  rename_i k n;obtain⟨rfl,rfl,d⟩:=h;obtain⟨f,l⟩:=r;refine⟨?_,l⟩;rw[gy a];simp[d,List.getD_eq_getElem?_getD,f]
 | eptr k' z' i' off'=>
  have a:=j k' (by simp[FV.names]);cases v<;>simp only[leF]at h;rename_i k z i off;obtain⟨rfl,rfl,rfl,rfl,d⟩:=h;obtain⟨b,n,cap,f,rfl⟩:=r;refine⟨b,n,cap,?_,rfl⟩;rw[gy a];simp[d,List.getD_eq_getElem?_getD,f]
 | mref k'=>
  have a:=j k' (by simp[FV.names]);cases v<;>simp only[leF]at h;rename_i k;obtain⟨rfl,d⟩:=h;obtain⟨b,f,l⟩:=r;refine⟨b,?_,l⟩;rw[gy a];simp[d,List.getD_eq_getElem?_getD,f]
 | pair a' b' iha ihb=>
  cases v<;>simp only[leF]at h;obtain⟨u,w,rfl,q,s⟩:=r;exact⟨u,w,rfl,iha h.1 (fun k a=>j k (by simp[FV.names,a])) q,ihb h.2 (fun k a=>j k (by simp[FV.names,a])) s⟩
 | stmp k'=>
  have a:=j k' (by simp[FV.names]);cases v<;>simp only[leF]at h;rename_i k;obtain⟨rfl,d⟩:=h;simp only[qR]at r ⊢;rw[gy a];simp[d,List.getD_eq_getElem?_getD,r]
 | clo f' c' ih=>
  cases v<;>simp only[leF]at h;obtain⟨rfl,h⟩:=h;obtain⟨vs,rfl,rc⟩:=r;exact⟨vs,rfl,ih h (fun k a=>j k (by simp[FV.names,a])) rc⟩
 | cap0=>
  cases v<;>simp only[leF]at h;exact r
 | fagg c' ih=>
  cases v<;>simp only[leF]at h;obtain⟨vs,rfl,rc⟩:=r;exact⟨vs,rfl,ih h (fun k a=>j k (by simp[FV.names,a])) rc⟩
 | nxt ok' a' b'=>
  cases v<;>simp only[leF]at h;obtain⟨rfl,rfl,rfl⟩:=h;exact r
 | ifs t' c' ih=>
  cases v<;>simp only[leF]at h;obtain⟨rfl,h⟩:=h;obtain⟨u,rfl,rc⟩:=r;exact⟨u,rfl,ih h (fun k a=>j k (by simp[FV.names,a])) rc⟩
 | asl k' off' n'=>
  have a:=j k' (by simp[FV.names]);cases v<;>simp only[leF]at h;rename_i k off n;obtain⟨rfl,rfl,rfl,d⟩:=h;obtain⟨b,m,cap,c,f,rfl⟩:=r;refine⟨b,m,cap,c,?_,rfl⟩;rw[gy a];simp[d,List.getD_eq_getElem?_getD,f]
 | cap a' b' iha ihb=>
  cases v<;>simp only[leF]at h;obtain⟨u,w,rfl,q,s⟩:=r;exact⟨u,w,rfl,iha h.1 (fun k a=>j k (by simp[FV.names,a])) q,ihb h.2 (fun k a=>j k (by simp[FV.names,a])) s⟩
theorem qbw {ρ:List Value} {H:PH} {π:Nat->Nat} {fresh:List Nat} {n k' b:Nat} {v v':FV} {x:Value} (a:(Pf ρ π fresh n)[k']? =some (.pointer (some ⟨b,0,none⟩))) (h:leC π fresh k' v v') (c:∀ k∈v'.names,k<n) (r:qR ρ H v x) :
  qR (Pf ρ π fresh n) H v' x:=by
 unfold leC at h;split at h
 ·obtain⟨rfl,_⟩:=h
  simp only[qR,qP]at r;exact⟨b,a,.inl r⟩
 exact LJ h c r
theorem zZ.le {ρ:List Value} {H:PH} {π:Nat->Nat} {fresh:List Nat} {n k' b:Nat} (f:(Pf ρ π fresh n)[k']? =some (.pointer (some ⟨b,0,none⟩))):∀ {cs a:List FV} {vs:List Value},cs.length=a.length ->
  (∀ (i:Nat) (c d:FV),cs[i]? =some c->a[i]? =some d->leC π fresh k' c d)->(∀ c∈a,∀ k∈c.names,k<n)->zZ ρ H cs vs->zZ (Pf ρ π fresh n) H a vs
 | [],[],vs,_,_,_,r=>r
 | [],_::_,_,h,_,_,_=>by simp at h
 | _::_,[],_,h,_,_,_=>by simp at h
 | c::cs,d::a,vs,hl,hle,hn,r=>by
  obtain⟨v,e,rfl,g,rs⟩:=r;exact⟨v,e,rfl,qbw f (hle 0 c d rfl rfl) (hn d (by simp)) g,zZ.le f (by simpa using hl) (fun i=>hle (i+1)) (fun c j=>hn c (by simp[j])) rs⟩
def lQ (E:Env) (lo:List AObj):Prop:=(∀ t v,(t,v)∈E->∀ k∈v.names,k<lo.length)/\(∀ t cells,AObj.box t cells∈lo->∀ c∈cells,∀ k∈c.names,k<lo.length)/\(∀ e z rows j k,AObj.vl e z rows j k∈lo->k<lo.length)/\∀ t c,AObj.pbx t c∈lo->∀ k∈c.names,k<lo.length
theorem Sat.weak {bs:Base} {N:Nat} {ρ:List Value} {H:PH} {E E':Env} {lo lo':List AObj} {a:Act} {w:World} {π:Nat->Nat} {fresh:List Nat} (s:Sat bs N ρ H (qT E) lo a w)
  (h:Weak bs.r0.length E lo E' lo' π fresh) (L:lQ E' lo'):Sat bs N (Pf ρ π fresh lo'.length) H (qT E') lo' a w:=by
 have get:∀ {k:Nat} {v:Value},(Pf ρ π fresh lo'.length)[k]? =some v->k<lo'.length/\((k∈fresh/\v=.slice none 0 0)\/(k ∉ fresh/\ρ[π k]? =some v)):=by
  intro k v q;have r:k<lo'.length:=by have:=(jG.1 q).1; simpa[Pf]using this
  rw[gy r]at q;refine⟨r,?_⟩;by_cases y:k∈fresh
  ·simp[y]at q; exact .inl ⟨y,q.symm⟩
  simp only[y,if_false]at q;refine .inr ⟨y,?_⟩;have:=h.bounds k r y;rw[← s.hlen]at this;rw[List.getD_eq_getElem?_getD,jf this]at q;rw[jf this];simpa using q
 refine{ sath:=s.sath,hlen:=by simp[Pf],pre:=?_,objs:=?_,excl:=?_,own:=?_,keep:=s.keep,leH:=s.leH,newH:=s.newH,slots:=?_,width:=s.width,defers:=s.defers }
 ·obtain⟨l,hl⟩:=s.pre
  have hlen:bs.r0.length<=lo'.length:=h.nb;have:(Pf ρ π fresh lo'.length).take bs.r0.length=bs.r0:=by
   refine List.ext_getElem? fun i=>?_;rw[jE];split
   ·rename_i A
    rw[gy (by omega)];obtain⟨e1,e2⟩:=h.keep i A;simp only[e2,if_false,e1];rw[List.getD_eq_getElem?_getD,← hl,jB A,jf A];rfl
   rename_i A;rw[List.getElem?_eq_none (by omega)]
  rw[← this];exact List.take_prefix _ _
 ·intro k o v r q
  obtain⟨hlt,M⟩:=get q;rcases M with ⟨y,rfl⟩|⟨y,hρ⟩
  ·obtain⟨e,z,he⟩:=h.frsh k y
   rw[r]at he;rcases he with he|he|⟨j,k2,he⟩
   ·cases he
    exact⟨[],World.ownsRow_nil w 0 e z,fun b x=>by simp[qZ]at x⟩
   ·cases he
    exact⟨[],World.ownsRow_nil w 0 e z,rfl,fun u hu=>(by cases hu),fun b x=>by simp[qZ]at x⟩
   cases he;exact⟨[],World.ownsRow_nil w 0 e z,rfl,fun u hu=>(by cases hu),fun b x=>by simp[qZ]at x,fun u hu=>by simp at hu⟩
  obtain⟨o0,O,f⟩:=h.obj k o r y;have g:=s.objs _ _ _ O hρ;cases o with
  | dead=>trivial
  | box t' cells'=>
   cases o0<;>simp only[fZ]at f;rename_i t cells;obtain⟨rfl,hl,B⟩:=f;obtain⟨b,vs,rfl,F,rc,P⟩:=g;exact⟨b,vs,rfl,F,rc.le q hl B (fun c M k Q=>L.2.1 _ _ (List.mem_of_getElem? r) c M k Q),P⟩
  | tail e z n=>
   simp only[fZ]at f;subst f;exact g
  | vec e z rows=>
   simp only[fZ]at f;subst f;exact g
  | mp d es mk'=>
   simp only[fZ]at f;obtain⟨rfl,mk,rfl⟩:=f;obtain⟨b,ents,clock,rfl,F,C,⟨h1,h2,_⟩,R⟩:=g;exact⟨b,ents,clock,rfl,F,C,⟨h1,h2,fun key s e=>by cases e⟩,R⟩
  | sit l p=>
   simp only[fZ]at f;subst f;exact g
  | bv l=>
   simp only[fZ]at f;subst f;exact g
  | vl e z rows j k'=>
   simp only[fZ]at f;obtain⟨S,rfl⟩:=f;obtain⟨xs,ho,C,h1,R,hl⟩:=g;refine⟨xs,ho,C,h1,R,fun u hu=>?_⟩;rw[gy (L.2.2.1 _ _ _ _ _ (List.mem_of_getElem? r))];simp[S,List.getD_eq_getElem?_getD,hl u hu]
  | pbx t' c'=>
   cases o0<;>simp only[fZ]at f;rename_i t c;obtain⟨rfl,B⟩:=f;obtain⟨b,u,us,rfl,F,rc,P⟩:=g;exact⟨b,u,us,rfl,F,LJ B (L.2.2.2 _ _ (List.mem_of_getElem? r)) rc,P⟩
 ·intro i j oi oj vi vj b A hj T U V G I x J
  obtain⟨h1,X⟩:=get T;obtain⟨h2,c2⟩:=get U;rcases X with ⟨_,rfl⟩|⟨f1,Y⟩
  ·simp[qZ]at x
  rcases c2 with ⟨_,rfl⟩|⟨f2,r2⟩
  ·simp[qZ]at J
  obtain⟨K,D,m⟩:=h.obj i oi A f1;obtain⟨o2,Z,l2⟩:=h.obj j oj hj f2;have live:∀ {k:Nat} {o o':AObj},fZ π fresh k o o'->o'.live=true->o.live=true:=by
   intro k o o' f hl;cases o' with
   | dead=>simp[AObj.live]at hl
   | box t c=>cases o<;>simp only[fZ]at f; rfl
   | tail e z n=>simp only[fZ]at f; subst f; rfl
   | vec e z n=>simp only[fZ]at f; subst f; rfl
   | mp d es mk=>simp only[fZ]at f; obtain⟨_,_,rfl⟩:=f; rfl
   | sit l p=>simp only[fZ]at f; subst f; rfl
   | bv l=>simp only[fZ]at f; subst f; rfl
   | vl e z rows j k'=>simp only[fZ]at f; obtain⟨_,rfl⟩:=f; rfl
   | pbx t c=>cases o<;>simp only[fZ]at f; rfl
  exact s.excl (π i) (π j) K o2 vi vj b D Z Y r2 (fun e=>V (h.inj i j oi oj A hj G I f1 f2 e)) (live m G) (live l2 I) x J
 ·intro k o v b r q hl x
  obtain⟨h1,X⟩:=get q;rcases X with ⟨_,rfl⟩|⟨f1,Y⟩
  ·simp[qZ]at x
  obtain⟨K,D,m⟩:=h.obj k o r f1;refine s.own (π k) K v b D Y ?_ x;cases o with
  | dead=>simp[AObj.live]at hl
  | box t c=>cases K<;>simp only[fZ]at m; rfl
  | tail e z n=>simp only[fZ]at m; subst m; rfl
  | vec e z n=>simp only[fZ]at m; subst m; rfl
  | mp d es mk=>simp only[fZ]at m; obtain⟨_,_,rfl⟩:=m; rfl
  | sit l p=>simp only[fZ]at m; subst m; rfl
  | bv l=>simp only[fZ]at m; subst m; rfl
  | vl e z rows j k'=>simp only[fZ]at m; obtain⟨_,rfl⟩:=m; rfl
  | pbx t c=>cases K<;>simp only[fZ]at m; rfl
 ·intro t
  rcases Nr (E:=E') (t:=t)with he|he
  ·rw[he]; trivial
  exact LJ (h.slot t _ he) (L.1 t _ he) (s.slots t)
end Ax
end
section
namespace Ax
open Go
def lH (E:Env) (π:Nat->Nat) (fresh:List Nat):Env->Prop
 | []=>True
 | (t,v)::E'=>qam E t (fun u=>leF π fresh u v)/\lH E π fresh E'
def GJ (π:Nat->Nat) (fresh:List Nat) (k':Nat):List FV->List FV->Prop
 | [],[]=>True
 | c::cs,c'::cs'=>leC π fresh k' c c'/\GJ π fresh k' cs cs'
 | _,_=>False
def ea (π:Nat->Nat) (fresh:List Nat) (k':Nat) (o o':AObj):Prop:=
 match o' with
 | .dead=>True
 | .box t' cells'=>match o with
  | .box t cells=>t=t'/\GJ π fresh k' cells cells'
  | _=>False
 | .tail e z n=>match o with
  | .tail e' z' n'=>e'=e/\z'=z/\n'=n
  | _=>False
 | .vec e z rows=>match o with
  | .vec e' z' rows'=>e'=e/\z'=z/\rows'=rows
  | _=>False
 | .mp d es mk=>match o with
  | .mp d' es' _=>mk=none/\d'=d/\es'=es
  | _=>False
 | .sit l p=>match o with
  | .sit l' p'=>l'=l/\p'=p
  | _=>False
 | .bv l=>match o with
  | .bv l'=>l'=l
  | _=>False
 | .vl e z rows j k'=>match o with
  | .vl e' z' rows' j2 k=>k' ∉ fresh/\e'=e/\z'=z/\rows'=rows/\j2=j/\k=π k'
  | _=>False
 | .pbx t' c'=>match o with
  | .pbx t c=>t=t'/\leF π fresh c c'
  | _=>False
def Ro (lo:List AObj) (π:Nat->Nat) (fresh:List Nat):Nat->List AObj->Prop
 | _,[]=>True
 | k,o'::lo'=>(match fresh.contains k with
   | true=>match o' with|.tail _ _ n=>n=0|.vec _ _ rows=>rows=[]|.vl _ _ rows _ _=>rows=[]|_=>False
   | false=>Qr (π k) lo fun o=>ea π fresh k o o')/\Ro lo π fresh (k+1) lo'
def πOf (l:List Nat):Nat->Nat:=fun k=>l.getD k 0
def qc2 (nb:Nat) (l fresh:List Nat):Bool:=
 decide (nb<=l.length)&&(List.range nb).all (fun k=>l.getD k 0==k&&!fresh.contains k) &&
 (List.range l.length).all (fun i=>(List.range l.length).all fun j=>fresh.contains i||fresh.contains j||l.getD i 0 != l.getD j 0||i==j) &&
 fresh.all (fun k=>decide (k<l.length))
def qd7:AObj->Bool
 | .dead=>true
 | _=>false
def ez:List AObj->Nat->Bool
 | [],_=>false
 | a::_,0=>qd7 a
 | _::l,i+1=>ez l i
theorem GD {o:AObj} (hl:o.live=true):∀ {l:List AObj} {i:Nat},l[i]? =some o->ez l i=false
 | [],_,h=>by simp at h
 | a::l,0,h=>by
  simp at h; subst h;cases a<;>first|rfl|(simp[AObj.live]at hl)
 | a::l,i+1,h=>by
  simp at h;exact GD (l:=l) (i:=i) hl h
def qc3 (nb:Nat) (l fresh:List Nat) (lo:List AObj):Bool:=
 decide (nb<=l.length)&&(List.range nb).all (fun k=>l.getD k 0==k&&!fresh.contains k) &&
 (List.range l.length).all (fun i=>(List.range l.length).all fun j=>fresh.contains i||fresh.contains j||l.getD i 0 != l.getD j 0||i==j||ez lo i||ez lo j) &&
 fresh.all (fun k=>decide (k<l.length))
def cO (n:Nat):FV->Bool
 | .opt _ v=>cO n v
 | .tsl k _=>decide (k<n)
 | .ptr k _=>decide (k<n)
 | .bself k=>decide (k<n)
 | .bsl k _ _ _=>decide (k<n)
 | .vsl k _=>decide (k<n)
 | .eptr k _ _ _=>decide (k<n)
 | .mref k=>decide (k<n)
 | .pair a b=>cO n a&&cO n b
 | .stmp k=>decide (k<n)
 | .asl k _ _=>decide (k<n)
 | .ifs _ c=>cO n c
 | .clo _ c=>cO n c
 | .fagg c=>cO n c
 | .cap a b=>cO n a&&cO n b
 | _=>true
def Nx (n:Nat):Env->Bool
 | []=>true
 | (_,v)::E=>cO n v&&Nx n E
def EU (n:Nat):List FV->Bool
 | []=>true
 | v::l=>cO n v&&EU n l
def nW (n:Nat):List AObj->Bool
 | []=>true
 | .box _ cells::l=>EU n cells&&nW n l
 | .vl _ _ _ _ k::l=>decide (k<n)&&nW n l
 | .pbx _ c::l=>cO n c&&nW n l
 | _::l=>nW n l
def Eo (nb:Nat) (E:Env) (lo:List AObj) (E':Env) (lo':List AObj):Prop:=
 ∃ l fresh:List Nat,(qc3 nb l fresh lo'=true/\l.length=lo'.length/\Nx lo'.length E'=true/\nW lo'.length lo'=true)/\lH E (πOf l) fresh E'/\Ro lo (πOf l) fresh 0 lo'
theorem EP {E:Env} {π:Nat->Nat} {fresh:List Nat}:∀ {E':Env},lH E π fresh E'->∀ t v,(t,v)∈E'->leF π fresh (qT E t) v
 | [],_,t,v,h=>by simp at h
 | (t',v')::E',h,t,v,hm=>by
  simp only[lH,XH]at h;rcases jg.1 hm with e|hm
  ·cases e; exact h.1
  exact EP h.2 t v hm
theorem Fe {π:Nat->Nat} {fresh:List Nat} {k':Nat}:∀ {cs a:List FV},GJ π fresh k' cs a->cs.length=a.length/\∀ (i:Nat) (c e:FV),cs[i]? =some c->a[i]? =some e->leC π fresh k' c e
 | [],[],_=>⟨rfl,fun i c e h=>by simp at h⟩
 | [],_::_,h=>by simp[GJ]at h
 | _::_,[],h=>by simp[GJ]at h
 | c::cs,e::a,h=>by
  simp only[GJ]at h;obtain⟨h1,h2⟩:=Fe h.2;refine⟨by simp[h1],fun i d g f b=>?_⟩;cases i with
  | zero=>simp at f b; subst f; subst b; exact h.1
  | succ i=>exact h2 i d g (by simpa using f) (by simpa using b)
theorem lI {π:Nat->Nat} {fresh:List Nat} {k':Nat} {o o':AObj} (h:ea π fresh k' o o'):fZ π fresh k' o o':=by
 cases o' with
 | dead=>trivial
 | box t' cells'=>
  cases o<;>simp only[ea]at h;exact⟨h.1,Fe h.2⟩
 | tail e z n=>
  cases o<;>simp only[ea]at h;obtain⟨rfl,rfl,rfl⟩:=h;rfl
 | vec e z n=>
  cases o<;>simp only[ea]at h;obtain⟨rfl,rfl,rfl⟩:=h;rfl
 | mp d es mk=>
  cases o<;>simp only[ea]at h;obtain⟨rfl,rfl,rfl⟩:=h;exact⟨rfl,_,rfl⟩
 | sit l p=>
  cases o<;>simp only[ea]at h;obtain⟨rfl,rfl⟩:=h;rfl
 | bv l=>
  cases o<;>simp only[ea]at h;subst h;rfl
 | vl e z rows j k'=>
  cases o<;>simp only[ea]at h;obtain⟨a,rfl,rfl,rfl,rfl,rfl⟩:=h;exact⟨a,rfl⟩
 | pbx t' c'=>
  cases o<;>simp only[ea]at h;exact h
theorem GK {lo:List AObj} {π:Nat->Nat} {fresh:List Nat}:∀ {lo':List AObj} {k:Nat},Ro lo π fresh k lo'->∀ (i:Nat) (o':AObj),lo'[i]? =some o' ->
  (k+i∈fresh->∃ e z,o'=.tail e z 0\/o'=.vec e z []\/∃ j k2,o'=.vl e z [] j k2)/\(k+i ∉ fresh->∃ o,lo[π (k+i)]? =some o/\fZ π fresh (k+i) o o')
 | [],_,_,i,o',h=>by simp at h
 | o1::lo',k,h,i,o',a=>by
  simp only[Ro]at h;cases i with
  | zero=>
   simp at a;subst a;simp only[Nat.add_zero];cases b:fresh.contains k with
   | true=>
    simp only[b]at h;have hm:k∈fresh:=by simpa using b
    refine⟨fun _=>?_,fun c=>absurd hm c⟩
    have h1:=h.1;split at h1
    ·rename_i e z n; exact⟨e,z,.inl (by rw[h1])⟩
    ·rename_i e z rows; exact⟨e,z,.inr (.inl (by rw[h1]))⟩
    ·rename_i e z rows j k2; exact⟨e,z,.inr (.inr ⟨j,k2,by rw[h1]⟩)⟩
    exact h1.elim
   | false=>
    simp only[b]at h;have hm:k ∉ fresh:=by simpa using b
    refine⟨fun c=>absurd c hm,fun _=>?_⟩
    obtain⟨o,a,hl⟩:=zE h.1;exact⟨o,a,lI hl⟩
  | succ i=>
   have:=GK h.2 i o' (by simpa using a);have e:k+1+i=k+(i+1):=by omega
   rwa [e]at this
theorem uX {n:Nat}:∀ {v:FV},cO n v=true->∀ k∈v.names,k<n
 | .opt _ v,h,k,d=>uX (v:=v) h k d
 | .tsl k' _,h,k,d=>by simp[FV.names]at d; subst d; simpa[cO]using h
 | .ptr k' _,h,k,d=>by simp[FV.names]at d; subst d; simpa[cO]using h
 | .top,_,k,d=>by simp[FV.names]at d
 | .p _,_,k,d=>by simp[FV.names]at d
 | .hptr _,_,k,d=>by simp[FV.names]at d
 | .bself k',h,k,d=>by simp[FV.names]at d; subst d; simpa[cO]using h
 | .bsl k' _ _ _,h,k,d=>by simp[FV.names]at d; subst d; simpa[cO]using h
 | .vsl k' _,h,k,d=>by simp[FV.names]at d; subst d; simpa[cO]using h
 | .eptr k' _ _ _,h,k,d=>by simp[FV.names]at d; subst d; simpa[cO]using h
 | .mref k',h,k,d=>by simp[FV.names]at d; subst d; simpa[cO]using h
 | .pair a b,h,k,d=>by
  simp only[cO,ji]at h;rcases jy.1 d with d|d
  ·exact uX (v:=a) h.1 k d
  exact uX (v:=b) h.2 k d
 | .stmp k',h,k,d=>by simp[FV.names]at d; subst d; simpa[cO]using h
 | .clo _ c,h,k,d=>uX (v:=c) h k d
 | .fagg c,h,k,d=>uX (v:=c) h k d
 | .nxt _ _ _,_,k,d=>by simp[FV.names]at d
 | .asl k' _ _,h,k,d=>by simp[FV.names]at d; subst d; simpa[cO]using h
 | .ifs _ c,h,k,d=>uX (v:=c) h k d
 | .cap0,_,k,d=>by simp[FV.names]at d
 | .cap a b,h,k,d=>by
  simp only[cO,ji]at h;rcases jy.1 d with d|d
  ·exact uX (v:=a) h.1 k d
  exact uX (v:=b) h.2 k d
theorem BM {n:Nat}:∀ {E:Env},Nx n E=true->∀ t v,(t,v)∈E->∀ k∈v.names,k<n
 | [],_,t,v,h=>by simp at h
 | (t',v')::E,h,t,v,hm=>by
  simp only[Nx,ji]at h;rcases jg.1 hm with e|hm
  ·cases e; exact uX h.1
  exact BM h.2 t v hm
theorem Zs {n:Nat}:∀ {l:List FV},EU n l=true->∀ v∈l,∀ k∈v.names,k<n
 | [],_,v,h=>by simp at h
 | v'::l,h,v,hm=>by
  simp only[EU,ji]at h;rcases jg.1 hm with e|hm
  ·cases e; exact uX h.1
  exact Zs h.2 v hm
theorem Zt {n:Nat}:∀ {lo:List AObj},nW n lo=true->∀ t cells,AObj.box t cells∈lo->∀ c∈cells,∀ k∈c.names,k<n
 | [],_,t,cells,h=>by simp at h
 | o::lo,h,t,cells,hm=>by
  rcases jg.1 hm with e|a
  ·subst e
   simp only[nW,ji]at h;exact Zs h.1
  cases o<;>simp only[nW,ji]at h<;>first|exact Zt h.2 t cells a|exact Zt h t cells a
theorem tn {n:Nat}:∀ {lo:List AObj},nW n lo=true->∀ t c,AObj.pbx t c∈lo->∀ k∈c.names,k<n
 | [],_,_,_,h=>by simp at h
 | o::lo,h,t,c,hm=>by
  rcases jg.1 hm with he|a
  ·subst he
   simp only[nW,ji]at h;exact uX h.1
  cases o<;>simp only[nW,ji]at h<;>first|exact tn h.2 _ _ a|exact tn h _ _ a
theorem tm {n:Nat}:∀ {lo:List AObj},nW n lo=true->∀ e z rows j k,AObj.vl e z rows j k∈lo->k<n
 | [],_,_,_,_,_,_,h=>by simp at h
 | o::lo,h,e,z,rows,j,k,hm=>by
  rcases jg.1 hm with he|a
  ·subst he
   simp only[nW,ji,kde]at h;exact h.1
  cases o<;>simp only[nW,ji]at h<;>first|exact tm h.2 _ _ _ _ _ a|exact tm h _ _ _ _ _ a
theorem Eo.sat {bs:Base} {N:Nat} {ρ:List Value} {H:PH} {E E':Env} {lo lo':List AObj} {a:Act} {w:World} (s:Sat bs N ρ H (qT E) lo a w) (h:Eo bs.r0.length E lo E' lo') :
  ∃ ρ',Sat bs N ρ' H (qT E') lo' a w:=by
 obtain⟨l,fresh,⟨t,hl,x,f⟩,y,g⟩:=h;simp only[qc3,ji,kde,List.all_eq_true,List.mem_range,jO,beq_iff_eq,Bool.not_eq_true',bne_iff_ne]at t;obtain⟨⟨⟨h1,h2⟩,h3⟩,h4⟩:=t;have get:=fun(i:Nat) (o':AObj) (d:lo'[i]? =some o')=>GK g i o' d;simp only[jx]at get;refine⟨_,s.weak (π:=πOf l) (fresh:=fresh) (lo':=lo') ?_ ⟨BM x,Zt f,tm f,tn f⟩⟩;refine{ bounds:=fun k c m=>?_,keep:=fun k c=>?_,nb:=by omega,inj:=fun i j oi oj u v n p q r e=>?_,frsh:=fun k c=>?_,obj:=fun k o' d m=>(get k o' d).2 m,slot:=EP y }
 ·obtain⟨o,d,_⟩:=(get k _ (jf c)).2 m
  exact(jG.1 d).1
 ·obtain⟨A,e2⟩:=h2 k c
  exact⟨A,by simpa using e2⟩
 ·have h1:=(jG.1 u).1
  have h2:=(jG.1 v).1;have:=h3 i (by omega) j (by omega);simp only[List.contains_iff_mem,q,r,GD n u,GD p v,jP,or_false,false_or]at this;rcases this with h|h
  ·exact absurd e h
  exact h
 have b:k<lo'.length:=by have:=h4 k c; omega
 obtain⟨e,z,he⟩:=(get k _ (jf b)).1 c;exact⟨e,z,he.imp (fun he=>by rw[jf b,he]) (fun he=>he.imp (fun he=>by rw[jf b,he]) (fun⟨j,k2,he⟩=>⟨j,k2,by rw[jf b,he]⟩))⟩
theorem zj.of {P:Program} (inl:List Nat) {N nb:Nat} {body:Code} {K:KA} {E:Env} {lo:List AObj} {S:Type} (l:S->Env) (m:S->List AObj) (ok:S->Prop) (μ:S->Nat) (d:S) (y:ok d)
  (hw:Eo nb E lo (l d) (m d))
  (round:∀ s,ok s->vc P inl N nb body (fun x E' lo'=>match x with
   | .normal=>∃ c,ok c/\μ c<μ s/\Eo nb E' lo' (l c) (m c)
   | .exit i=>K (.exit i) E' lo'
   | .ret=>K .ret E' lo') (l s) (m s)):zj P inl N nb body K E lo:=by
 intro hm z bs ρ H a w A sat;subst A;obtain⟨ρ',f⟩:=hw.sat sat;refine wp_loop_ghost (I:=fun n a w=>∃ s ρ H,μ s=n/\ok s/\Sat bs N ρ H (qT (l s)) (m s) a w) (μ d) ⟨d,ρ',H,rfl,y,f⟩ fun n a w ⟨s,ρ,H,B,o,sat⟩=>?_;refine wp_mono (cq hm body _ _ _ z (round s o) bs ρ H a w rfl sat) fun e a w p=>?_;obtain⟨x,ρ2,q,u,g,v,b,k⟩:=p;cases x<;>cases e<;>simp only[aX]at v
 ·obtain⟨c,h,r,t⟩:=k
  obtain⟨ρ3,j⟩:=t.sat b;exact⟨μ c,B ▸ r,c,ρ3,q,rfl,h,j⟩
 ·exact⟨.exit _,ρ2,q,u,g,v,b,k⟩
 exact⟨.ret,ρ2,q,u,g,trivial,b,k⟩
def ag (P:Program) (E:Env) (lo:List AObj) (r:ResultVar) (R:FV->Prop):Prop:=
 match r with
 | .tmp t=>qam E t R
 | .cell a t=>qam E a fun v=>Zo P t lo v R
def qfu (lo:List AObj) (v:FV) (R:PV->List AObj->Prop):Prop:=
 match v with
 | .vsl k _=>Qr k lo fun o=>match o with
  | .vec _ _ rows=>Ue k .dead lo fun lo=>R (.sl rows) lo
  | _=>False
 | v=>PR v fun p=>R p lo
def qfc:List FV->List AObj->(List PV->List AObj->Prop)->Prop
 | [],lo,R=>R [] lo
 | v::cs,lo,R=>qfu lo v fun p lo=>qfc cs lo fun a lo=>R (p::a) lo
def qfv (lo:List AObj) (v:FV) (R:FV->List AObj->Prop):Prop:=
 match v with
 | .vsl k _=>Qr k lo fun o=>match o with
  | .vec _ _ rows=>Ue k .dead lo fun lo=>R (.p (.sl rows)) lo
  | .vl _ _ rows _ _=>Ue k .dead lo fun lo=>R (.p (.sl rows)) lo
  | _=>False
 | .fagg c=>XE c fun cs=>qfc cs lo fun a lo=>R (.p (.agg a)) lo
 | v=>R v lo
def qeq (P:Program) (E:Env) (lo:List AObj):List ResultVar->(List PV->Prop)->Prop
 | [],R=>R []
 | r::rs,R=>ag P E lo r fun v=>qfv lo v fun v lo=>PR v fun v=>qeq P E lo rs fun l=>R (v::l)
def qgk (P:Program) (fn:Func) (R:PV->Prop):KA:=fun x E lo=>match x with
 | .exit _=>False
 | _=>qeq P E lo fn.results.toList fun vs=>match vs with
   | [v]=>R v
   | vs=>R (.tup vs)
def toF:PV->FV
 | .hp row=>.hptr row
 | v=>.p v
theorem qcq {ρ:List Value} {H:PH} {v:PV} {x:Value} (h:qP H v x):qR ρ H (toF v) x:=by
 cases v<;>simp only[toF]<;>first|exact h|(simp only[qP]at h; simp only[qR]; exact h)
def Te:Nat->List PV->Env
 | _,[]=>[]
 | n,v::vs=>(n,toF v)::Te (n+1) vs
def qey (P:Program) (inl:List Nat) (fn:Func) (args:List PV) (R:PV->Prop):Prop:=
 match fn.body with
 | some c=>vc P inl fn.ntmps 0 c (qgk P fn R) (Te 0 args) []
 | none=>False
def iN (inl:List Nat) (fn:Func) (n:Nat):Bool:=(match fn.body with|some c=>my inl c|none=>false)&&decide (n<=fn.ntmps)
def Enters (P:Program) (f:FuncId):Prop:=∀ (args:Array Value) (w:World),(callFunc f args).run P w=.ok (.enter f args) w
def NL (tmps:Array Value):ResultVar->Sem Value
 | .tmp t=>pure (tmps.getD t undef)
 | .cell p t=>do loadVar t (← asAddr (tmps.getD p undef))
theorem rD (fn:Func) (tmps:Array Value):results fn tmps=(do
  let vs ← fn.results.mapM (NL tmps)
  pure (if h:vs.size=1 then vs[0]else .tuple vs)):=by
 unfold results;congr 1
theorem aa {lo:List AObj} {v:FV} {R:PV->List AObj->Prop} (h:qfu lo v R):∃ f lo',R f lo'/\∀ (bs:Base) (N:Nat) (ρ:List Value) (H:PH) (e:Nat->FV) (a:Act) (w:World) (x:Value),Sat bs N ρ H e lo a w->qR ρ H v x ->
  ∃ H',PH.le H H'/\Sat bs N ρ H' e lo' a w/\qP H' f x:=by
 unfold qfu at h;split at h
 ·rename_i k n
  obtain⟨o,c,h⟩:=zE h;split at h
  ·rename_i e z rows
   obtain⟨h,_⟩:=vB h;refine⟨_,_,h,fun bs N ρ H ev a w x s r=>?_⟩;obtain⟨H',b,d,g⟩:=s.toSatW.publish c r.1;exact⟨H',b,{ d with slots:=fun t=>(s.slots t).mono (jq _) b,width:=s.width,defers:=s.defers },g⟩
  exact h.elim
 obtain⟨p,h,hp⟩:=dB h;exact⟨_,_,h,fun bs N ρ H e a w x s r=>⟨H,PH.le.refl H,s,hp _ _ _ r⟩⟩
theorem NH:∀ {cs:List FV} {lo:List AObj} {R:List PV->List AObj->Prop},qfc cs lo R->∃ d lo',R d lo'/\∀ (bs:Base) (N:Nat) (ρ:List Value) (H:PH) (e:Nat->FV) (a:Act) (w:World) (vs:List Value),Sat bs N ρ H e lo a w->zZ ρ H cs vs ->
  ∃ H',PH.le H H'/\Sat bs N ρ H' e lo' a w/\zz H' d vs
 | [],lo,R,h=>⟨[],lo,h,fun bs N ρ H e a w vs s r=>⟨H,PH.le.refl H,s,by simp only[zZ]at r; simp only[zz]; exact r⟩⟩
 | v::cs,lo,R,h=>by
  simp only[qfc]at h;obtain⟨p,i,h,h1⟩:=aa h;obtain⟨d,j,h,h2⟩:=NH h;refine⟨_,_,h,fun bs N ρ H e a w vs s r=>?_⟩;obtain⟨u,us,rfl,k,rs⟩:=r;obtain⟨H1,b,s1,f⟩:=h1 bs N ρ H e a w u s k;obtain⟨l,c,s2,g⟩:=h2 bs N ρ H1 e a w us s1 (rs.mono (jq _) b);exact⟨l,b.trans c,s2,by simp only[zz]; exact⟨u,us,rfl,qP.mono c f,g⟩⟩
theorem ad {lo:List AObj} {v:FV} {R:FV->List AObj->Prop} (h:qfv lo v R):∃ f lo',R f lo'/\∀ (bs:Base) (N:Nat) (ρ:List Value) (H:PH) (e:Nat->FV) (a:Act) (w:World) (x:Value),Sat bs N ρ H e lo a w->qR ρ H v x ->
  ∃ H',PH.le H H'/\Sat bs N ρ H' e lo' a w/\qR ρ H' f x:=by
 unfold qfv at h;split at h
 ·rename_i k n
  obtain⟨o,i,h⟩:=zE h;split at h
  ·rename_i e z rows
   obtain⟨h,_⟩:=vB h;refine⟨_,_,h,fun bs N ρ H ev a w x s r=>?_⟩;obtain⟨H',b,d,g⟩:=s.toSatW.publish i r.1;exact⟨H',b,{ d with slots:=fun t=>(s.slots t).mono (jq _) b,width:=s.width,defers:=s.defers },g⟩
  ·rename_i e z rows j u
   obtain⟨h,_⟩:=vB h;refine⟨_,_,h,fun bs N ρ H ev a w x s r=>?_⟩;have s1:=s.toSatW.view i rfl (o':=.vec e z rows) rfl (fun v y ok=>qaz ok)
   have l:k<lo.length:=(jG.1 i).1;have m:(lo.set k (AObj.vec e z rows))[k]? =some (AObj.vec e z rows):=by simp[l]
   obtain⟨H',b,d,g⟩:=s1.publish m r.1;rw[List.set_set]at d;exact⟨H',b,{ d with slots:=fun t=>(s.slots t).mono (jq _) b,width:=s.width,defers:=s.defers },g⟩
  exact h.elim
 ·rename_i c
  obtain⟨cs,h,p⟩:=sA h;obtain⟨A,lo',h,q⟩:=NH h;refine⟨_,_,h,fun bs N ρ H e a w x s r=>?_⟩;obtain⟨vs,rfl,rc⟩:=r;obtain⟨H',b,d,g⟩:=q bs N ρ H e a w vs s (p _ _ _ rc);exact⟨H',b,d,by simp only[qR,qP]; exact⟨vs,rfl,g⟩⟩
 exact⟨_,_,h,fun bs N ρ H e a w x s r=>⟨H,PH.le.refl H,s,r⟩⟩
theorem XL {P:Program} {E:Env} {lo:List AObj} {r:ResultVar} {R:FV->Prop} (h:ag P E lo r R):∃ f,R f/\∀ (bs:Base) (N:Nat) (ρ:List Value) (H:PH) (a:Act) (w:World),Sat bs N ρ H (qT E) lo a w ->
  ∃ v,(NL a.tmps r).run P w=.ok v w/\qR ρ H f v:=by
 cases r with
 | tmp t=>
  simp only[ag,XH]at h;exact⟨_,h,fun bs N ρ H a w s=>⟨a.tmps.getD t undef,rfl,s.slots t⟩⟩
 | cell q t=>
  simp only[ag,XH]at h;obtain⟨c,h,hl⟩:=GI h;refine⟨c,h,fun bs N ρ H a w s=>?_⟩;obtain⟨g,u,e,b,d⟩:=hl bs ρ H w _ s.toSatW (s.slots q);refine⟨u,?_,d⟩;simp only[Instr.loadAt,e,Instr.sureAddr,ke,kf,kc]at b;simp only[NL,e,asAddr,ke,kf,kc,b]
theorem NK {P:Program} {E:Env}:∀ {l:List ResultVar} {lo:List AObj} {R:List PV->Prop},qeq P E lo l R->∃ c,R c/\c.length=l.length/\∀ (bs:Base) (N:Nat) (ρ:List Value) (H:PH) (a:Act) (w:World),Sat bs N ρ H (qT E) lo a w ->
  ∃ (vs:List Value) (H':PH) (lo':List AObj),(l.mapM (m:=Sem) (NL a.tmps)).run P w=.ok vs w/\zz H' c vs/\PH.le H H'/\Sat bs N ρ H' (qT E) lo' a w
 | [],lo,R,h=>⟨[],h,rfl,fun bs N ρ H a w s=>⟨[],H,lo,by simp,by simp[zz],PH.le.refl H,s⟩⟩
 | r::rs,lo,R,h=>by
  simp only[qeq]at h;obtain⟨f,h,h1⟩:=XL h;obtain⟨t,k,h,h2⟩:=ad h;obtain⟨p,h,hp⟩:=dB h;obtain⟨c,h,hlen,h3⟩:=NK h;refine⟨p::c,h,by simp[hlen],fun bs N ρ H a w s=>?_⟩;obtain⟨v,n,o⟩:=h1 bs N ρ H a w s;obtain⟨H1,d,s1,e⟩:=h2 bs N ρ H _ a w v s o;obtain⟨vs,q,g,i,j,b,s2⟩:=h3 bs N ρ H1 a w s1;refine⟨v::vs,q,g,?_,by simp only[zz]; exact⟨v,vs,rfl,qP.mono b (hp _ _ _ e),j⟩,d.trans b,s2⟩;simp only[List.mapM_cons,ke,n,kc,i,kf]
theorem oC {P:Program} {fn:Func} {E:Env} {lo:List AObj} {x:AX} {R:PV->Prop} (h:qgk P fn R x E lo):∃ p,R p/\(x=.normal\/x=.ret) /\
  ∀ (bs:Base) (N:Nat) (ρ:List Value) (H:PH) (a:Act) (w:World),Sat bs N ρ H (qT E) lo a w->∃ (v:Value) (H':PH) (lo':List AObj),(results fn a.tmps).run P w=.ok v w/\qP H' p v/\PH.le H H'/\Sat bs N ρ H' (qT E) lo' a w:=by
 have key:∀ {x:AX},(x=.normal\/x=.ret)->(qeq P E lo fn.results.toList fun vs=>match vs with
   | [v]=>R v
   | vs=>R (.tup vs))->∃ p,R p/\(x=.normal\/x=.ret) /\
  ∀ (bs:Base) (N:Nat) (ρ:List Value) (H:PH) (a:Act) (w:World),Sat bs N ρ H (qT E) lo a w->∃ (v:Value) (H':PH) (lo':List AObj),(results fn a.tmps).run P w=.ok v w/\qP H' p v/\PH.le H H'/\Sat bs N ρ H' (qT E) lo' a w:=by
  intro x k h;obtain⟨n,h,e,m⟩:=NK h;clear e;split at h
  ·rename_i p
   refine⟨p,h,k,fun bs N ρ H a w s=>?_⟩;obtain⟨vs,H',lo',f,d,c,g⟩:=m bs N ρ H a w s;simp only[zz]at d;obtain⟨v,_,rfl,o,rfl⟩:=d;refine⟨v,H',lo',?_,o,c,g⟩;rw[rD,Array.mapM_eq_mapM_toList];simp only[ke,Sem.run_map,f,kc];rfl
  rename_i j;refine⟨_,h,k,fun bs N ρ H a w s=>?_⟩;obtain⟨vs,H',lo',f,d,c,g⟩:=m bs N ρ H a w s;refine⟨.tuple vs.toArray,H',lo',?_,by simp only[qP]; exact⟨vs,rfl,d⟩,c,g⟩;rw[rD,Array.mapM_eq_mapM_toList];simp only[ke,Sem.run_map,f,kc,kf];have:¬ vs.toArray.size=1:=by
   intro h1;have hl:=d.length;simp at h1;rw[h1]at hl;cases n with
   | nil=>simp at hl
   | cons a l=>cases l with
    | nil=>exact j a rfl
    | cons b l=>simp at hl
  simp only[this,dif_neg,not_false_eq_true]
 cases x with
 | normal=>exact key (.inl rfl) h
 | exit i=>exact h.elim
 | ret=>exact key (.inr rfl) h
theorem EL:∀ (n:Nat) (args:List PV) (t:Nat),qT (Te n args) t=match (if n<=t then args[t - n]? else none)with|some v=>toF v|none=>.top
 | n,[],t=>by simp[Te,qT]
 | n,v::vs,t=>by
  simp only[Te,qT];cases a:Nat.beq t n with
  | true=>
   have:=jm a;subst this;simp
  | false=>
   have b:t≠n:=fun e=>by subst e; simp[Nat.beq_refl]at a
   simp only;rw[EL (n+1) vs t];by_cases h:n<=t
   ·have h1:n+1<=t:=by omega
    have h2:t - n=(t - (n+1))+1:=by omega
    simp[h,h1,h2]
   have h1:¬ n+1<=t:=by omega
   simp[h,h1]
theorem qc.of_vcR {P:Program} {f:FuncId} {fn:Func} {args:List PV} {r:PV} {inl:List Nat} {R:PV->Prop} (hm:P.follows .mixedOrders=true) (he:Enters P f) (A:P.funcs[f]? =some fn) (g:iN inl fn args.length=true)
  (B:∀ (p:PV) (v:Value) (H:PH),R p->qP H p v->qP H r v) (h:qey P inl fn args R):qc P f args r:=by
 intro H w vs C y;rw[he];refine⟨rfl,?_⟩;simp only[iN,ji,kde]at g;obtain⟨j,I⟩:=g;unfold qey at h;cases l:fn.body with
 | none=>simp[l]at j
 | some c=>
  simp only[l]at h j;refine calls_of_wp A l ?_;have hl:=y.length;have sat:Sat { S:=RF,w0:=w,H0:=H,r0:=[] } fn.ntmps [] H (qT (Te 0 args)) [] { tmps:=vs.toArray++Array.replicate (fn.ntmps - vs.toArray.size) undef,defers:=[] } w:=by
   refine{ sath:=C,hlen:=rfl,pre:=jq _,objs:=fun k o v h=>by simp at h,excl:=fun k _ o _ v _ b h=>by simp at h,own:=fun k o v b h=>by simp at h,keep:=Keep.refl _ w,leH:=PH.le.refl H,newH:=fun b o v h=>.inl ⟨v,h⟩,slots:=fun t=>?_,width:=by simp; omega,defers:=rfl }
   rw[EL];simp only[jS,if_true,Nat.sub_zero];cases D:args[t]? with
   | none=>trivial
   | some p=>
    obtain⟨v,d,m⟩:=y.get D;have n:=(jG.1 d).1;have:(vs.toArray++Array.replicate (fn.ntmps - vs.toArray.size) undef).getD t undef=v:=by
     rw[jX,Array.getElem?_append_left (by simpa using n)];simp[d]
    rw[this];exact qcq m
  refine wp_mono (cq hm c _ _ _ j h _ [] H _ w rfl sat) fun e a w' p=>?_;obtain⟨x,ρ',H',E',lo',E,q,k⟩:=p;obtain⟨p,hp,s,i⟩:=oC k;obtain⟨v,z,F,d,m,G,s2⟩:=i _ _ ρ' H' a w' q;have fin:∃ v,(results fn a.tmps).run P w'=.ok v w'/\(fun e u=>∃ v H',e=Ending.returned v/\Calm H w H' u/\qP H' r v) (.returned v) w':=
   ⟨v,d,v,z,rfl,⟨s2.leH,s2.sath,s2.keep,fun b o v d=>by
    rcases s2.newH b o v d with h|h|h
    ·exact .inl h
    ·exact h.elim
    exact .inr h⟩,B p v z hp m⟩
  rcases s with rfl|rfl<;>cases e<;>simp only[aX]at E
  ·exact⟨q.defers,fin⟩
  exact⟨q.defers,fin⟩
theorem qc.of_vc {P:Program} {f:FuncId} {fn:Func} {args:List PV} {r:PV} {inl:List Nat} (hm:P.follows .mixedOrders=true) (he:Enters P f) (b:P.funcs[f]? =some fn) (a:iN inl fn args.length=true)
  (h:qey P inl fn args (fun v=>v=r)):qc P f args r:=
 qc.of_vcR (R:=fun v=>v=r) hm he b a (fun _ _ _ e x=>e ▸ x) h
end Ax
end
section
namespace Ax
open Go
def qbx (ρ:List Value) (lo:List AObj):Nat->Prop:=fun b=>∃ (k:Nat) (o:AObj) (v:Value),lo[k]? =some o/\ρ[k]? =some v/\o.live=true/\qZ v=some b
theorem SatW.lend {bs:Base} {ρ:List Value} {H:PH} {lo:List AObj} {w:World} (s:SatW bs ρ H lo w):SatW { S:=qbx ρ lo,w0:=w,H0:=H,r0:=ρ } ρ H lo w where
 sath:=s.sath
 hlen:=s.hlen
 pre:=jq _
 objs:=s.objs
 excl:=s.excl
 own:=fun k o v b a c hl d=>.inl ⟨k,o,v,a,c,hl,d⟩
 keep:=Keep.refl _ w
 leH:=PH.le.refl H
 newH:=fun b o v h=>.inl ⟨v,h⟩
theorem SatW.back {bs:Base} {ρ ρ':List Value} {H H':PH} {lo lo':List AObj} {w w':World} (s:SatW bs ρ H lo w) (a:SatW { S:=qbx ρ lo,w0:=w,H0:=H,r0:=ρ } ρ' H' lo' w'):SatW bs ρ' H' lo' w':=by
 have d:∀ b,qbx ρ lo b->bs.S b\/bs.w0.heap.size<=b:=fun b ⟨k,o,v,e,c,hl,f⟩=>s.own k o v b e c hl f
 refine{ sath:=a.sath,hlen:=a.hlen,pre:=s.pre.trans a.pre,objs:=a.objs,excl:=a.excl,own:=fun k o v b e c hl f=>?_,keep:=s.keep.step a.keep d,leH:=s.leH.trans a.leH,newH:=fun b o v c=>?_ }
 ·rcases a.own k o v b e c hl f with h|h
  ·exact d b h
  exact .inr (Nat.le_trans s.keep.size h)
 rcases a.newH b o v c with ⟨u,hu⟩|h|h
 ·exact s.newH b o u hu
 ·exact .inr (d b h)
 exact .inr (.inr (Nat.le_trans s.keep.size h))
def sD:Nat->List FV->Env
 | _,[]=>[]
 | n,v::vs=>(n,v)::sD (n+1) vs
theorem XX:∀ (n:Nat) (args:List FV) (t:Nat),qT (sD n args) t=(if n<=t then args[t - n]? else none).getD .top
 | n,[],t=>by simp[sD,qT]
 | n,v::vs,t=>by
  simp only[sD,qT];cases a:Nat.beq t n with
  | true=>
   have:=jm a;subst this;simp
  | false=>
   have b:t≠n:=fun e=>by subst e; simp[Nat.beq_refl]at a
   simp only;rw[XX (n+1) vs t];by_cases h:n<=t
   ·have h1:n+1<=t:=by omega
    have h2:t - n=(t - (n+1))+1:=by omega
    simp[h,h1,h2]
   have h1:¬ n+1<=t:=by omega
   simp[h,h1]
theorem zZ.get {ρ:List Value} {H:PH}:∀ {cs:List FV} {vs:List Value} {i:Nat} {c:FV},zZ ρ H cs vs->cs[i]? =some c->∃ v,vs[i]? =some v/\qR ρ H c v
 | [],_,_,_,_,h=>by simp at h
 | c::cs,vs,i,c',x,h=>by
  obtain⟨v,a,rfl,r,rs⟩:=x;cases i with
  | zero=>simp at h; subst h; exact⟨v,by simp,r⟩
  | succ i=>simp at h; obtain⟨u,hu,b⟩:=rs.get h; exact⟨u,by simpa using hu,b⟩
def qfe (v1 v2:FV) (R:FV->Prop):Prop:=
 match v1 with
 | .p p1=>match v2 with
  | .p p2=>R (.p (.tup [p1,p2]))
  | .tsl _ rows=>R (.p (.tup [p1,.sl rows]))
  | v2=>R (.pair (.p p1) v2)
 | .tsl _ rows1=>match v2 with
  | .p p2=>R (.p (.tup [.sl rows1,p2]))
  | .tsl _ rows=>R (.p (.tup [.sl rows1,.sl rows]))
  | v2=>R (.pair (.p (.sl rows1)) v2)
 | v1=>match v2 with
  | .tsl _ rows=>R (.pair v1 (.p (.sl rows)))
  | v2=>R (.pair v1 v2)
def frL (P:Program) (E:Env) (lo:List AObj):List ResultVar->(List PV->Prop)->Prop
 | [],R=>R []
 | r::rs,R=>ag P E lo r fun v=>PR v fun v=>frL P E lo rs fun l=>R (v::l)
theorem aG {v1 v2:FV} {R:FV->Prop} (h:qfe v1 v2 R):∃ v,R v/\∀ (ρ:List Value) (H:PH) (x y:Value),qR ρ H v1 x->qR ρ H v2 y->qR ρ H v (.tuple #[x,y]):=by
 have pp:∀ (c d:PV) (ρ:List Value) (H:PH) (x y:Value),qP H c x->qP H d y->qR ρ H (.p (.tup [c,d])) (.tuple #[x,y]):=fun c d ρ H x y a b=>by
  simp only[qR,qP];exact⟨[x,y],rfl,by simp only[zz]; exact⟨x,_,rfl,a,y,[],rfl,b,rfl⟩⟩
 unfold qfe at h;split at h
 ·split at h
  ·exact⟨_,h,fun ρ H x y a b=>pp _ _ ρ H x y a b⟩
  ·exact⟨_,h,fun ρ H x y a b=>pp _ _ ρ H x y a b.2⟩
  exact⟨_,h,fun ρ H x y a b=>⟨x,y,rfl,a,b⟩⟩
 ·split at h
  ·exact⟨_,h,fun ρ H x y a b=>pp _ _ ρ H x y a.2 b⟩
  ·exact⟨_,h,fun ρ H x y a b=>pp _ _ ρ H x y a.2 b.2⟩
  exact⟨_,h,fun ρ H x y a b=>⟨x,y,rfl,a.2,b⟩⟩
 split at h
 ·exact⟨_,h,fun ρ H x y a b=>⟨x,y,rfl,a,b.2⟩⟩
 exact⟨_,h,fun ρ H x y a b=>⟨x,y,rfl,a,b⟩⟩
theorem RY {P:Program} {E:Env} {lo:List AObj}:∀ {l:List ResultVar} {R:List PV->Prop},frL P E lo l R->∃ b,R b/\b.length=l.length/\∀ (bs:Base) (N:Nat) (ρ:List Value) (H:PH) (a:Act) (w:World),Sat bs N ρ H (qT E) lo a w ->
  ∃ vs:List Value,(l.mapM (m:=Sem) (NL a.tmps)).run P w=.ok vs w/\zz H b vs
 | [],R,h=>⟨[],h,rfl,fun bs N ρ H a w s=>⟨[],by simp,by simp[zz]⟩⟩
 | r::rs,R,h=>by
  simp only[frL]at h;obtain⟨f,h,h1⟩:=XL h;obtain⟨p,h,hp⟩:=dB h;obtain⟨b,h,hlen,h2⟩:=RY h;refine⟨p::b,h,by simp[hlen],fun bs N ρ H a w s=>?_⟩;obtain⟨v,e,g⟩:=h1 bs N ρ H a w s;obtain⟨vs,c,d⟩:=h2 bs N ρ H a w s;refine⟨v::vs,?_,by simp only[zz]; exact⟨v,vs,rfl,hp _ _ _ g,d⟩⟩;simp only[List.mapM_cons,ke,e,kc,c,kf]
def qfz (P:Program) (fn:Func) (R:FV->List AObj->Prop):KA:=fun x E lo=>match x with
 | .exit _=>False
 | _=>match fn.results.toList with
  | [r]=>ag P E lo r fun v=>R v lo
  | []=>R (.p (.tup [])) lo
  | [r1,r2]=>ag P E lo r1 fun v1=>ag P E lo r2 fun v2=>qfe v1 v2 fun v=>R v lo
  | r::rs=>frL P E lo (r::rs) fun vs=>R (.p (.tup vs)) lo
def vcI (P:Program) (inl:List Nat) (fn:Func) (args:List FV) (lo:List AObj) (R:FV->List AObj->Prop):Prop:=
 match fn.body with
 | some c=>VB lo 0 fun nb=>vc P inl fn.ntmps nb c (qfz P fn R) (sD 0 args) lo
 | none=>False
theorem NM {P:Program} {fn:Func} {E:Env} {lo:List AObj} {x:AX} {R:FV->List AObj->Prop} (h:qfz P fn R x E lo):∃ p,R p lo/\(x=.normal\/x=.ret) /\
  ∀ (bs:Base) (N:Nat) (ρ:List Value) (H:PH) (a:Act) (w:World),Sat bs N ρ H (qT E) lo a w->∃ v,(results fn a.tmps).run P w=.ok v w/\qR ρ H p v:=by
 have key:∀ {x:AX},(x=.normal\/x=.ret)->(match fn.results.toList with
  | [r]=>ag P E lo r fun v=>R v lo
  | []=>R (.p (.tup [])) lo
  | [y,z]=>ag P E lo y fun v1=>ag P E lo z fun v2=>qfe v1 v2 fun v=>R v lo
  | r::rs=>frL P E lo (r::rs) fun vs=>R (.p (.tup vs)) lo)->∃ p,R p lo/\(x=.normal\/x=.ret) /\
  ∀ (bs:Base) (N:Nat) (ρ:List Value) (H:PH) (a:Act) (w:World),Sat bs N ρ H (qT E) lo a w->∃ v,(results fn a.tmps).run P w=.ok v w/\qR ρ H p v:=by
  intro x g h;split at h
  ·rename_i r c
   obtain⟨f,h,d⟩:=XL h;refine⟨f,h,g,fun bs N ρ H a w s=>?_⟩;obtain⟨v,C,D⟩:=d bs N ρ H a w s;refine⟨v,?_,D⟩;rw[rD,Array.mapM_eq_mapM_toList,c];simp only[List.mapM_cons,List.mapM_nil,ke,Sem.run_map,C,kc,kf];rfl
  ·rename_i c
   refine⟨_,h,g,fun bs N ρ H a w s=>⟨.tuple #[],?_,by simp only[qR,qP]; exact⟨[],rfl,rfl⟩⟩⟩;rw[rD,Array.mapM_eq_mapM_toList,c];simp only[List.mapM_nil,ke,Sem.run_map,kc,kf];rfl
  ·rename_i y z c
   obtain⟨f1,h,j⟩:=XL h;obtain⟨f2,h,k⟩:=XL h;obtain⟨f,h,d⟩:=aG h;refine⟨f,h,g,fun bs N ρ H a w s=>?_⟩;obtain⟨v1,m,n⟩:=j bs N ρ H a w s;obtain⟨v2,o,q⟩:=k bs N ρ H a w s;refine⟨.tuple #[v1,v2],?_,d _ _ _ _ n q⟩;rw[rD,Array.mapM_eq_mapM_toList,c];simp only[List.mapM_cons,List.mapM_nil,ke,Sem.run_map,m,o,kc,kf];rfl
  rename_i r rs e A c;obtain⟨F,h,t,d⟩:=RY h;refine⟨_,h,g,fun bs N ρ H a w s=>?_⟩;obtain⟨vs,u,B⟩:=d bs N ρ H a w s;refine⟨.tuple vs.toArray,?_,by simp only[qR,qP]; exact⟨vs,rfl,B⟩⟩;rw[rD,Array.mapM_eq_mapM_toList,c];simp only[ke,Sem.run_map,u,kc,kf];have:¬ vs.toArray.size=1:=by
   intro h1;simp at h1;have hl:vs.length=(r::rs).length:=by rw[B.length,t]
   rw[h1]at hl;cases rs with
   | nil=>exact e rfl
   | cons b l=>simp at hl
  simp only[this,dif_neg,not_false_eq_true]
 cases x with
 | normal=>exact key (.inl rfl) h
 | exit i=>exact h.elim
 | ret=>exact key (.inr rfl) h
theorem vO.of_vc {P:Program} {f:FuncId} {fn:Func} {args:List FV} {lo:List AObj} {R:FV->List AObj->Prop} {inl:List Nat} (hm:P.follows .mixedOrders=true) (he:Enters P f) (y:P.funcs[f]? =some fn) (d:iN inl fn args.length=true)
  (h:vcI P inl fn args lo R):vO P f args lo R:=by
 intro bs ρ H w vs s u;rw[he];refine⟨rfl,?_⟩;simp only[iN,ji,kde]at d;obtain⟨j,D⟩:=d;unfold vcI at h;cases l:fn.body with
 | none=>simp[l]at j
 | some c=>
  simp only[l]at h j;have h:=xb h;rw[jx]at h;refine calls_of_wp y l ?_;have hl:=u.length;have sat:Sat { S:=qbx ρ lo,w0:=w,H0:=H,r0:=ρ } fn.ntmps ρ H (qT (sD 0 args)) lo { tmps:=vs.toArray++Array.replicate (fn.ntmps - vs.toArray.size) undef,defers:=[] } w:=by
   refine{ s.lend with slots:=fun t=>?_,width:=by simp; omega,defers:=rfl }
   rw[XX];simp only[jS,if_true,Nat.sub_zero];cases z:args[t]? with
   | none=>trivial
   | some p=>
    obtain⟨v,i,m⟩:=u.get z;have n:=(jG.1 i).1;have:(vs.toArray++Array.replicate (fn.ntmps - vs.toArray.size) undef).getD t undef=v:=by
     rw[jX,Array.getElem?_append_left (by simpa using n)];simp[i]
    rw[this];exact m
  refine wp_mono (cq hm c _ _ _ j h _ ρ H _ w s.hlen sat) fun e a w' p=>?_;obtain⟨x,ρ',H',E',lo',A,b,k⟩:=p;obtain⟨p,B,o,g⟩:=NM k;obtain⟨v,i,m⟩:=g _ _ ρ' H' a w' b;have fin:∃ v,(results fn a.tmps).run P w'=.ok v w'/\(fun C q=>∃ v r lo',C=Ending.returned v/\dT bs ρ H r lo' v q/\R r lo') (.returned v) w':=
   ⟨v,i,v,p,lo',rfl,⟨ρ',H',b.pre,b.leH,s.back b.toSatW,m⟩,B⟩
  rcases o with rfl|rfl<;>cases e<;>simp only[aX]at A
  ·exact⟨b.defers,fin⟩
  exact⟨b.defers,fin⟩
end Ax
end
section
namespace Ax
open Go
inductive Val where
 | mk (kind:Int) (b:Bool) (i:Int) (s:List UInt8) (l:List Val) (k:List (List UInt8))
def qi (l:List (List UInt8)):List (List PV):=l.map fun s=>[.str s]
mutual
def Val.cells:Val->List PV
 | .mk k b i s l ks=>[.int .i64 k,.bool b,.int .i64 i,.str s,.sl (Val.rows l),.sl (qi ks)]
def Val.rows:List Val->List (List PV)
 | []=>[]
 | v::l=>v.cells::Val.rows l
end
abbrev Val.pv (v:Val):PV:=.agg v.cells
def vals (l:List Val):List (List PV):=l.map Val.cells
theorem rows_eq:∀ l:List Val,Val.rows l=vals l
 | []=>rfl
 | v::l=>by simp only[Val.rows,vals,jk]; rw[rows_eq l]; rfl
@[simp] theorem qcn (l:List (List UInt8)):(qi l).length=l.length:=by simp[qi]
@[simp] theorem qcv (l:List Val):(vals l).length=l.length:=by simp[vals]
theorem XD (v:Val):v.cells.length=6:=by cases v; rfl
theorem aQ (n:Int) (a:-9223372036854775808<=n) (h1:n<=9223372036854775807):kwr .i64 n=n:=IntWalk.i64_in n ⟨a,h1⟩
instance:Inhabited Val:=⟨.mk 0 false 0 [] [] []⟩
end Ax
end
section
namespace Ax
open Go
def qge:List (List UInt8)->Nat
 | []=>0
 | k::l=>k.length+1+qge l
mutual
def Val.big:Val->Nat
 | .mk _ _ _ s l ks=>1+s.length+qf5 l+qge ks
def qf5:List Val->Nat
 | []=>0
 | v::l=>Val.big v+qf5 l
end
end Ax
end
section
namespace Ax
open Go
theorem Ln:∀ a b:List UInt8,(Op.bytesLess a b||a==b)=!Op.bytesLess b a
 | [],[]=>rfl
 | [],_::_=>rfl
 | _::_,[]=>rfl
 | x::xs,y::ys=>by
  have ih:=Ln xs ys;simp only[Op.bytesLess];rcases Nat.lt_trichotomy x.toNat y.toNat with h|h|h
  ·have h1:x<y:=UInt8.lt_iff_toNat_lt.2 h
   have h2:¬ y<x:=fun c=>by have:=UInt8.lt_iff_toNat_lt.1 c; omega
   have h3:¬ y=x:=fun c=>by subst c; omega
   simp[h1,h2,h3]
  ·have h1:x=y:=UInt8.toNat.inj h
   subst h1;have h2:¬ x<x:=fun c=>by have:=UInt8.lt_iff_toNat_lt.1 c; omega
   simp only[h2,List.cons_beq_cons];simpa using ih
  have h1:¬ x<y:=fun c=>by have:=UInt8.lt_iff_toNat_lt.1 c; omega
  have h2:y<x:=UInt8.lt_iff_toNat_lt.2 h;have h3:¬ x=y:=fun c=>by subst c; omega
  simp[h1,h2,h3]
end Ax
end
section
namespace Ax
open Go
end Ax
end
section
namespace Ax
open Go
theorem vO.noEscape {P:Program} {f:FuncId} {fn:Func} (hf:P.funcs[f]? =some fn) (hname:(fn.name == "runtime.NumGoroutine")=false) (hb:fn.body.isNone=true) (hn:Extern.findNext fn=none)
  (he:Extern.find fn=some Extern.AbiNoEscape.same) {v:FV} {lo:List AObj} {R:FV->List AObj->Prop} (h:R v lo):vO P f [v] lo R:=by
 intro bs ρ H w vs s rl;simp only[zZ]at rl;obtain⟨v',_,rfl,rv,rfl⟩:=rl;rw[show([v']:List Value).toArray = #[v']from rfl,run_callFunc_extern hf hname hb hn he];exact⟨v,lo,⟨ρ,H,jq _,PH.le.refl H,s,rv⟩,h⟩
end Ax
end
section
namespace Go.Proofs
open Go Go.Shelf Go.RowKit Ax
variable {P:Program} {ρ:Ren}
def Bl (l:List UInt8) (v:Value) (w:World) (e:Ending) (w':World):Prop:=
 e=.returned (.string ⟨l.toArray⟩)/\(w'=w.drew\/(∃ g n,qZ v=some g/\w'=w.drew.freeze ⟨g,0,none⟩ n)\/∃ o,w'=w.drew.alloc o)
set_option maxHeartbeats 2000000 in
set_option maxRecDepth 100000 in
theorem Any.String_exact (L:Lays.n169 P ρ) (X:Builder.Extra P ρ) (b:Nat) (l:List UInt8) (w:World) (p v:Value) (c:w.heap[b]? =some (.cells #[p,v] (ρ.t 72) (0,0)))
  (a:w.ownsRow 0 (ρ.t 5) 1 v l.length (Lib.byteCells l)) (k:l≠[]) :
  Calls P (ρ.f 169) #[.pointer (some ⟨b,0,none⟩)] w (Bl l v w):=by
 have d:l.length≠0:=by simpa using k
 obtain⟨g,cap,cur,rfl,m,n,e,o,h⟩:∃ g cap cur,v=.slice (some ⟨g,0,none⟩) l.length cap/\w.heap[g]? =some (.cells cur (ρ.t 5) (0,0))/\l.length<=cap/\cap<=maxLen/\cur.size=cap * 1/\cur.toList.take (l.length * 1)=Lib.byteCells l:=by
  rcases a.2 with ⟨_,hz⟩|⟨g,cap,cur,q,_,r⟩
  ·exact absurd hz d
  exact⟨g,cap,cur,q,r⟩
 have c1:w.drew.cell? ⟨b,1,none⟩=some (.slice (some ⟨g,0,none⟩) l.length cap):=by
  have:w.drew.heap[b]? =some (.cells #[p,.slice (some ⟨g,0,none⟩) l.length cap] (ρ.t 72) (0,0)):=c;rw[Lib.cell_of_heap this]; rfl
 have s:(Builtin.unsafeSliceData_ #[(ρ.t 37)] (ρ.t 127) #[.slice (some ⟨g,0,none⟩) l.length cap]).run P w.drew=.ok (.pointer (some ⟨g,0,none⟩)) w.drew:=
  Lib.run_unsafeSliceData_row _ _ _ _ _ _ (by omega)
 have u:(Builtin.unsafeString_ #[(ρ.t 127),(ρ.t 3)] (ρ.t 9) #[.pointer (some ⟨g,0,none⟩),.int .i64 l.length]).run P w.drew=.ok (.string ⟨l.toArray⟩) (w.drew.freeze ⟨g,0,none⟩ l.length):=by
  refine Lib.run_unsafeString_row w.drew (ρ.t 127) (ρ.t 3) (ρ.t 9) (ρ.t 5) L.t127 X.cellsByte g cur.size (by have i:w.drew.heap[g]? =some (.cells cur (ρ.t 5) (0,0)):=m; simp[World.shape?,i]) l k (by omega) (by unfold maxLen at e; omega) ?_;intro j x y;exact a.cells (g:=g) rfl j (.int .u8 x.toNat) (by simp[Lib.byteCells,y])
 have mixed:=L.mixed;have t72:=L.t72; have a72:=L.a72; have z72:=L.z72; have v72:=L.v72; have u72:=kru L.t72;have t70:=L.t70; have a70:=L.a70; have z70:=L.z70; have v70:=L.v70; have u70:=kru L.t70;have t37:=L.t37; have a37:=L.a37; have z37:=L.z37; have v37:=L.v37; have u37:=kru L.t37;have t127:=L.t127; have a127:=L.a127; have z127:=L.z127; have v127:=L.v127; have u127:=kru L.t127;have t3:=L.t3; have a3:=L.a3; have z3:=L.z3; have v3:=L.v3; have u3:=kru L.t3;have t9:=L.t9; have a9:=L.a9; have z9:=L.z9; have v9:=L.v9; have u9:=kru L.t9;have t5:=X.t5; have a5:=X.a5; have z5:=X.z5; have v5:=X.v5; have u5:=kru X.t5
 go_enter L.f169,Body.n169_ntmps ρ
 go_wp2
 go_region_o
 all_goals (go_wp2; go_ret; exact⟨rfl,.inr (.inl ⟨g,l.length,rfl,rfl⟩)⟩)
theorem Any.String_empty (L:Lays.n169 P ρ) (X:Builder.Extra P ρ) (b:Nat) (w:World) (p v:Value) (a:w.heap[b]? =some (.cells #[p,v] (ρ.t 72) (0,0)))
  (c:w.ownsRow 0 (ρ.t 5) 1 v 0 []) :
  Calls P (ρ.f 169) #[.pointer (some ⟨b,0,none⟩)] w fun e w'=>e=.returned (.string ⟨#[]⟩)/\Below w.heap.size w w':=by
 rcases c.2 with ⟨rfl,_⟩|⟨g,cap,cur,rfl,_,h,_,_,_,_⟩
 ·exact Any.Builder_String_nil L X _ b p w a
 by_cases d:cap=0
 ·subst d
  exact Any.Builder_String_noroom L X _ b g p cur w (jw _) a h
 exact Any.Builder_String_room L X _ b g cap p w d a
end Go.Proofs
end
section
namespace Ax
open Go Go.Proofs Go.RowKit
structure Shut (v:Value) (w w':World):Prop where
 os:w'.os=w.os
 tape:w'.tape=w.tape
 output:w'.output=w.output
 size:w.heap.size<=w'.heap.size
 block:∀ k,k<w.heap.size->qZ v≠some k->w'.heap[k]? =w.heap[k]?
 cell:∀ a x,w.cell? a=some x->w'.cell? a=some x
theorem Shut.of {l:List UInt8} {v:Value} {w w':World} {e:Ending} (h:Bl l v w e w'):Shut v w w':=by
 obtain⟨_,rfl|⟨g,n,j,rfl⟩|⟨o,rfl⟩⟩:=h
 ·exact⟨rfl,rfl,rfl,jw _,fun _ _ _=>rfl,fun _ _ h=>h⟩
 ·have m:∀ k,k≠g->(w.drew.freeze ⟨g,0,none⟩ n).heap[k]? =w.heap[k]?:=by
   intro k f;unfold World.freeze;split
   ·rfl
   simp only[Array.getElem?_modify];rw[if_neg (by omega)]; rfl
  refine⟨?_,?_,?_,?_,fun k _ f=>m k (fun e=>f (by rw[j,e])),fun a x b=>?_⟩
  ·unfold World.freeze; split<;>rfl
  ·unfold World.freeze; split<;>rfl
  ·unfold World.freeze; split<;>rfl
  ·unfold World.freeze; split
   ·exact jw _
   simp
  unfold World.freeze;split
  ·exact b
  unfold World.cell? at b ⊢;split at b
  ·rename_i c p q r
   have i:w.drew.heap[a.block]? =some (.cells c p q):=r;simp only[Array.getElem?_modify,i,Option.map_some];by_cases d:g=a.block
   ·simp only[d,if_true]; exact b
   simp only[d,if_false]; exact b
  exact absurd b (by simp)
 refine⟨rfl,rfl,rfl,by simp,fun k f _=>?_,fun a x b=>?_⟩
 ·exact Go.RowKit.Below.heap_alloc w.drew o k f
 rw[World.cell?_alloc_lt (h:=World.block_lt_of_cell? w.drew a b)]; exact b
theorem SatW.shut {bs:Base} {ρ:List Value} {H:PH} {lo:List AObj} {w w':World} (s:SatW bs ρ H lo w) {j:Nat} {v:Value} {e:TypeId} {z n:Nat} (f:lo[j]? =some (.tail e z n)) (g:ρ[j]? =some v)
  (h:Shut v w w'):SatW bs ρ H (lo.set j .dead) w' where
 sath:=⟨fun b o x l=>⟨h.cell _ _ (s.sath.cell b o x l).1,(s.sath.cell b o x l).2⟩,s.sath.root⟩
 hlen:=by simpa using s.hlen
 pre:=s.pre
 objs:=fun i o u a hu=>by
  rw[jF]at a;split at a
  ·split at a
   ·cases a; trivial
   cases a
  ·rename_i c
   cases hl:o.live with
   | false=>cases o<;>simp[AObj.live]at hl; trivial
   | true=>
    refine(s.objs i o u a hu).keep (jq _) (PH.le.refl H) (fun b q d=>h.block b d fun e=>?_) (fun _ _ _ _ r=>r)
    exact s.excl i j o _ u v b a f hu g (fun e=>c e.symm) hl rfl q e
 excl:=s.kill j |>.excl
 own:=s.kill j |>.own
 keep:=by
  refine⟨h.os.trans s.keep.os,h.tape.trans s.keep.tape,h.output.trans s.keep.output,Nat.le_trans s.keep.size h.size,fun k m p=>?_⟩;rw[h.block k (Nat.lt_of_lt_of_le m s.keep.size) fun e=>?_]
  ·exact s.keep.block k m p
  rcases s.own j _ v k f g rfl e with h1|h1
  ·exact p h1
  omega
 leH:=s.leH
 newH:=s.newH
theorem vO.string {P:Program} {f:FuncId} {T E:TypeId} (m:∀ args w,(callFunc f args).run P w=.ok (.enter f args) w)
  (D:∀ (b:Nat) (l:List UInt8) (w:World) (p v:Value),w.heap[b]? =some (.cells #[p,v] T (0,0))->w.ownsRow 0 E 1 v l.length (Lib.byteCells l)->l≠[] ->
   Calls P f #[.pointer (some ⟨b,0,none⟩)] w (Bl l v w))
  {k j:Nat} {a:FV} {bs:List UInt8} {lo:List AObj} {n:Nat} {R:FV->List AObj->Prop} (F:lo[k]? =some (.box T [a,.tsl j (qx bs)])) (y:lo[j]? =some (.tail E 1 n))
  (A:bs≠[]) (h:R (.p (.str bs)) (lo.set j .dead)):vO P f [.ptr k 0] lo R:=by
 intro G ρ H w vs s I;obtain⟨u,_,rfl,J,rfl⟩:=I;obtain⟨b,K,rfl⟩:=J;rw[show([Value.pointer (some ⟨b,0,none⟩)]:List Value).toArray = #[.pointer (some ⟨b,0,none⟩)]from rfl,m];refine⟨rfl,?_⟩;obtain⟨Q,vs,L,M,q,_⟩:=s.objs k _ _ F K;cases L;simp only[zZ]at q;obtain⟨p,_,rfl,_,v,_,rfl,⟨B,d⟩,rfl⟩:=q;obtain⟨xs,c,S⟩:=s.objs j _ v y B;have t:n=bs.length/\xs=Lib.byteCells bs:=by
  simp only[qP]at d;rcases d with ⟨i,_⟩|⟨g,o,z,cap,rfl,_,N⟩
  ·exact absurd (by simpa[qx]using i) A
  rcases c.2 with ⟨i,_⟩|⟨U,C,cur,i,_⟩
  ·cases i
  simp only[Value.slice.injEq,Option.some.injEq,Addr.mk.injEq]at i;obtain⟨⟨rfl,rfl,_⟩,O,_⟩:=i;have r:n=bs.length:=by rw[← O]; simp[qx]
  refine⟨r,?_⟩;have hl:=c.1;have hcell:=Hh s.sath N;refine List.ext_getElem (by rw[hl,Lib.byteCells_length,r,Nat.mul_one]) fun j h1 h2=>?_;have x:j<bs.length:=by rw[Lib.byteCells_length]at h2; exact h2
  have c1:=c.cells (g:=g) rfl j _ (jf h1);rw[hcell j x]at c1;simp only[Option.some.injEq]at c1;rw[← c1];simp[Lib.byteCells]
 obtain⟨rfl,rfl⟩:=t;refine(D b bs w p v M c A).mono fun e w' hp=>?_;exact⟨_,.p (.str bs),lo.set j .dead,hp.1,⟨ρ,H,jq _,PH.le.refl H,s.shut y B (Shut.of hp),by simp[qR,qP]⟩,h⟩
theorem SatH.below {H:PH} {w w':World} (s:SatH H w) (h:Below w.heap.size w w'):Calm H w H w':=
 ⟨PH.le.refl H,s.block fun b _ _ a=>h.block b (s.lt a),⟨h.os,h.tape,h.output,h.size,fun k c _=>h.block k c⟩,fun _ _ v a=>.inl ⟨v,a⟩⟩
abbrev Bm (P:Program) (f:FuncId) (T E:TypeId):Prop:=∀ (b:Nat) (w:World) (p v:Value),w.heap[b]? =some (.cells #[p,v] T (0,0))->w.ownsRow 0 E 1 v 0 [] ->
   Calls P f #[.pointer (some ⟨b,0,none⟩)] w fun e w'=>e=.returned (.string ⟨#[]⟩)/\Below w.heap.size w w'
theorem vO.string_any {P:Program} {f:FuncId} {T E:TypeId} (i:∀ args w,(callFunc f args).run P w=.ok (.enter f args) w)
  (D:∀ (b:Nat) (l:List UInt8) (w:World) (p v:Value),w.heap[b]? =some (.cells #[p,v] T (0,0))->w.ownsRow 0 E 1 v l.length (Lib.byteCells l)->l≠[] ->
   Calls P f #[.pointer (some ⟨b,0,none⟩)] w (Bl l v w)) (x:Bm P f T E)
  {k j:Nat} {a:FV} {bs:List UInt8} {lo:List AObj} {n:Nat} {R:FV->List AObj->Prop} (A:lo[k]? =some (.box T [a,.tsl j (qx bs)])) (B:lo[j]? =some (.tail E 1 n))
  (h:R (.p (.str bs)) (lo.set j .dead)):vO P f [.ptr k 0] lo R:=by
 by_cases C:bs=[]
 ·subst C
  intro F ρ H w vs s G;obtain⟨u,_,rfl,I,rfl⟩:=G;obtain⟨b,J,rfl⟩:=I;rw[show([Value.pointer (some ⟨b,0,none⟩)]:List Value).toArray = #[.pointer (some ⟨b,0,none⟩)]from rfl,i];refine⟨rfl,?_⟩;obtain⟨Q,vs,K,L,q,_⟩:=s.objs k _ _ A J;cases K;simp only[zZ]at q;obtain⟨p,_,rfl,_,v,_,rfl,⟨M,m⟩,rfl⟩:=q;obtain⟨xs,d,S⟩:=s.objs j _ v B M;have N:n=0:=by
   simp only[qP,qx,jN]at m;rcases m with ⟨_,r⟩|⟨g,o,z,cap,rfl,_,_⟩
   ·rcases d.2 with ⟨_,hz⟩|⟨O,t,cur,c,_⟩
    ·exact hz
    rcases r with r|⟨a0,U,r⟩
    ·rw[r]at c; cases c
    rw[r]at c;simp only[Value.slice.injEq]at c;exact c.2.1.symm
   rcases d.2 with ⟨c,hz⟩|⟨O,t,cur,c,_⟩
   ·cases c
   simp only[Value.slice.injEq]at c;exact c.2.1.symm
  subst N;have y:xs=[]:=by have:=d.1; simpa using this
  subst y;refine(x b w p v L d).mono fun e w' hp=>?_;exact⟨_,.p (.str []),lo.set j .dead,hp.1,⟨ρ,H,jq _,PH.le.refl H,(s.kill j).calm (s.sath.below hp.2),by simp[qR,qP]⟩,h⟩
 exact vO.string i D A B C h
end Ax
end
section
namespace Ax
open Go
mutual
def PV.norm:PV->PV
 | .nilsl=>.sl []
 | .agg cs=>.agg (Et cs)
 | .tup cs=>.tup (Et cs)
 | .sl rows=>.sl (Rt rows)
 | v=>v
def Et:List PV->List PV
 | []=>[]
 | c::cs=>c.norm::Et cs
def Rt:List (List PV)->List (List PV)
 | []=>[]
 | r::rs=>Et r::Rt rs
end
theorem XI:∀ rows:List (List PV),(Rt rows).length=rows.length
 | []=>rfl
 | _::l=>by simp[Rt,XI l]
theorem Fg:∀ cs:List PV,(Et cs).length=cs.length
 | []=>rfl
 | _::l=>by simp[Et,Fg l]
mutual
theorem qP.norm {H:PH}:∀ {c:PV} {v:Value},qP H c v->qP H c.norm v
 | .nilsl,v,h=>by simp only[PV.norm,qP]at *; exact .inl ⟨trivial,.inl h⟩
 | .agg cs,v,h=>by
  simp only[PV.norm,qP]at *;obtain⟨vs,e,r⟩:=h;exact⟨vs,e,zz.norm r⟩
 | .tup cs,v,h=>by
  simp only[PV.norm,qP]at *;obtain⟨vs,e,r⟩:=h;exact⟨vs,e,zz.norm r⟩
 | .sl rows,v,h=>by
  simp only[PV.norm,qP]at *;rcases h with ⟨rfl,h⟩|⟨b,o,z,cap,e,hc,r⟩
  ·exact .inl ⟨rfl,h⟩
  exact .inr ⟨b,o,z,cap,by rw[XI]; exact e,by rw[XI]; exact hc,nS.norm r⟩
 | .bool _,_,h|.int ..,_,h|.str _,_,h|.nilp,_,h|.fn _,_,h|.nilfn,_,h|.nili,_,h|.nilmap,_,h|.ifc ..,_,h|.hp _,_,h|.clo ..,_,h|.bfn ..,_,h|.ifo ..,_,h=>by
  simpa only[PV.norm]using h
theorem zz.norm {H:PH}:∀ {cs:List PV} {vs:List Value},zz H cs vs->zz H (Et cs) vs
 | [],_,h=>by simpa only[Et]using h
 | c::cs,vs,h=>by
  simp only[Et,zz]at *;obtain⟨v,vs',e,r,rs⟩:=h;exact⟨v,vs',e,qP.norm r,zz.norm rs⟩
theorem nS.norm {H:PH} {b z:Nat}:∀ {rows:List (List PV)} {o:Nat},nS H b z o rows->nS H b z o (Rt rows)
 | [],_,h=>by simpa only[Rt]using h
 | r::rs,o,h=>by
  simp only[Rt,nS]at *;obtain⟨e,⟨vs,q,c⟩,rr⟩:=h;exact⟨by rw[Fg]; exact e,⟨vs,zz.norm q,c⟩,nS.norm rr⟩
end
theorem qc.norm {P:Program} {f:FuncId} {args:List PV} {r r':PV} (h:qc P f args r) (e:r.norm=r'):qc P f args r':=by
 subst e;intro H w vs a b;have:=h H w vs a b;generalize (callFunc f vs.toArray).run P w=x at *;cases x with
 | ok n w'=>
  cases n<;>simp only[XR]at this ⊢ <;> try exact this
  ·obtain⟨H',c,r⟩:=this; exact⟨H',c,qP.norm r⟩
  exact⟨this.1,this.2.mono fun g d ⟨v,H',e,c,r⟩=>⟨v,H',e,c,qP.norm r⟩⟩
 | halt x w'=>exact this
theorem qc.args {P:Program} {f:FuncId} {args args':List PV} {r:PV} (h:qc P f args' r) (e:Et args=args'):qc P f args r:=by
 subst e;exact fun H w vs a b=>h H w vs a (zz.norm b)
end Ax
end
section
namespace Ax
open Go
section
variable {A R S:Type}
def chk (b:Bool) (k:Option R):Option R:=match b with|true=>k|false=>none
theorem qg {b:Bool} {k:Option R} {r:R} (h:chk b k=some r):b=true/\k=some r:=by
 cases b with
 | true=>exact⟨rfl,h⟩
 | false=>cases h
def bnd (o:Option A) (k:A->Option R):Option R:=match o with|some a=>k a|none=>none
theorem RL {o:Option A} {k:A->Option R} {r:R} (h:bnd o k=some r):∃ x,o=some x/\k x=some r:=by
 cases o with
 | some a=>exact⟨a,rfl,h⟩
 | none=>cases h
theorem mC {c:Bool} {a b:Option R} {r:R} (h:(bif c then a else b)=some r) (d:c=true):a=some r:=by subst d; exact h
theorem gf {c:Bool} {a b:Option R} {r:R} (h:(bif c then a else b)=some r) (d:c=false):b=some r:=by subst d; exact h
def idx (l:List A) (i:Int):Option A:=if 0<=i then l[i.toNat]? else none
theorem zW {l:List A} {i:Int} {x:A} (h:idx l i=some x):0<=i/\l[i.toNat]? =some x:=by
 unfold idx at h;split at h
 ·exact⟨by assumption,h⟩
 cases h
def qE [Inhabited A] (g:Bool) (o:Option A):Option A:=bif g then o else some default
theorem qb [Inhabited A] {g:Bool} {o:Option A} {x:A} (h:qE g o=some x) (a:g=true):o=some x:=by subst a; exact h
def Qq (i:Int):Option Nat:=if 0<=i then some i.toNat else none
theorem zC {i:Int} {n:Nat} (h:Qq i=some n):i=n:=by
 unfold Qq at h;split at h
 ·cases h; omega
 cases h
def u8I (i:Int):Option UInt8:=if 0<=i/\i<256 then some (UInt8.ofNat i.toNat)else none
theorem vh {i:Int} {b:UInt8} (h:u8I i=some b):i=(b.toNat:Int):=by
 unfold u8I at h;split at h
 ·cases h
  simp only[UInt8.toNat_ofNat'];omega
 cases h
theorem gd {g c:Bool} (h:(bif g then c else true)=true) (a:g=true):c=true:=by subst a; exact h
def qA (B:(S->Option R)->S->Option R):Nat->S->Option R
 | 0,_=>none
 | n+1,s=>B (qA B n) s
end
structure Codec (A:Type) where
 cells:A->List PV
 rows:List A->List (List PV)
 z:Nat
 hrows:∀ l,rows l=l.map cells
 hz:∀ a,(cells a).length=z
 hone:∀ a,(cells a).all EW=true
namespace Codec
variable {A:Type} (C:Codec A)
theorem at_ {l:List A} {i:Int} {x:A} (h:idx l i=some x):0<=i/\(C.rows l)[i.toNat]? =some (C.cells x)/\(C.cells x).length=C.z:=by
 obtain⟨a,h1⟩:=zW h;exact⟨a,by rw[C.hrows]; simp[h1],C.hz x⟩
theorem length (l:List A):(C.rows l).length=l.length:=by rw[C.hrows]; simp
theorem append (a b:List A):C.rows a++C.rows b=C.rows (a++b):=by simp[C.hrows]
theorem take (l:List A) (n:Nat):(C.rows l).take n=C.rows (l.take n):=by simp[C.hrows]
theorem drop (l:List A) (n:Nat):(C.rows l).drop n=C.rows (l.drop n):=by simp[C.hrows]
theorem cut (l:List A) (n m:Nat):((C.rows l).take n).drop m=C.rows ((l.take n).drop m):=by simp[C.hrows]
theorem dropAll (l:List A) (m:Nat):((C.rows l).take (C.rows l).length).drop m=C.rows (l.drop m):=by rw[List.take_length,C.drop]
theorem wide (l:List A):∀ r∈C.rows l,r.length=C.z:=by
 intro r b;rw[C.hrows]at b;obtain⟨a,_,rfl⟩:=List.mem_map.1 b;exact C.hz a
theorem one (l:List A):∀ r∈C.rows l,r.length=C.z/\r.all EW=true:=by
 intro r b;rw[C.hrows]at b;obtain⟨a,_,rfl⟩:=List.mem_map.1 b;exact⟨C.hz a,C.hone a⟩
theorem made (x:A) (n:Nat) {a:List PV} (h:a=C.cells x):List.replicate n a=C.rows (List.replicate n x)\/Cn (List.replicate n a) (C.rows (List.replicate n x)):=by
 subst h; rw[C.hrows]; exact .inl (by simp)
theorem madeN (x:A) (n:Nat) {a:List PV} (h:Pe a (C.cells x)):List.replicate n a=C.rows (List.replicate n x)\/Cn (List.replicate n a) (C.rows (List.replicate n x)):=by
 rw[C.hrows];refine .inr ?_
 induction n with
 | zero=>trivial
 | succ n ih=>simp only[List.replicate_succ,jk,Cn]; exact⟨h,by simpa using ih⟩
end Codec
def xO (k:IntKind) (l:List Int):List (List PV):=l.map fun n=>[PV.int k n]
def ZH {A:Type} (C:Codec A) (l:List (List A)):List (List PV):=l.map fun x=>[PV.sl (C.rows x)]
def ca:Codec (List UInt8):={ cells:=fun s=>[.str s],rows:=qi,z:=1,hrows:=fun _=>rfl,hz:=fun _=>rfl,hone:=fun _=>rfl }
def xw:Codec UInt8:={ cells:=fun b=>[.int .u8 b.toNat],rows:=qx,z:=1,hrows:=fun _=>rfl,hz:=fun _=>rfl,hone:=fun _=>rfl }
def qbp (k:IntKind):Codec Int:={ cells:=fun n=>[.int k n],rows:=xO k,z:=1,hrows:=fun _=>rfl,hz:=fun _=>rfl,hone:=fun _=>rfl }
def slC {A:Type} (C:Codec A):Codec (List A):={ cells:=fun x=>[.sl (C.rows x)],rows:=ZH C,z:=1,hrows:=fun _=>rfl,hz:=fun _=>rfl,hone:=fun _=>rfl }
theorem Val.one (v:Val):v.cells.all EW=true:=by cases v; rfl
def qS:Codec Val:={ cells:=Val.cells,rows:=Val.rows,z:=6,hrows:=fun l=>rows_eq l,hz:=XD,hone:=Val.one }
theorem Gz {a:List PV} (h:a.all EW=true):∀ c∈a,EW c=true:=by simpa using h
theorem qaa {k:IntKind} {es:List Int} {cs:List PV} {i x:Int} {n:Nat} (h:idx es i=some x) (e:es.map (PV.int k)=cs) (b:es.length<=n):0<=i/\i<(n:Int)/\cs[i.toNat]? =some (.int k x):=by
 obtain⟨a,h1⟩:=zW h;have h2:=(jG.1 h1).1;refine⟨a,by omega,?_⟩;rw[← e];simp[h1]
theorem zy {n b:Nat} (h:decide (n * b<=140737488355328)=true) (a:1<=b):n<=9223372036854775807:=by
 have:=kod h;have:n * 1<=n * b:=Nat.mul_le_mul_left n a;omega
theorem qc.leArgs {P:Program} {f:FuncId} {args args':List PV} {r:PV} (h:qc P f args' r) (e:Pe args args'):qc P f args r:=
 fun H w vs a b=>h H w vs a (tp e b)
theorem qc.le {P:Program} {f:FuncId} {args:List PV} {r r':PV} (h:qc P f args r) (e:nle r r'):qc P f args r':=by
 intro H w vs a b;have:=h H w vs a b;generalize (callFunc f vs.toArray).run P w=x at *;cases x with
 | ok n w'=>
  cases n<;>simp only[XR]at this ⊢ <;> try exact this
  ·obtain⟨H',c,r⟩:=this; exact⟨H',c,GM e r⟩
  exact⟨this.1,this.2.mono fun i d ⟨v,H',g,c,r⟩=>⟨v,H',g,c,GM e r⟩⟩
 | halt x w'=>exact this
theorem zj.fn {P:Program} (inl:List Nat) {N nb:Nat} {body:Code} {K:KA} {E:Env} {lo:List AObj} {S R:Type} (l:S->Env) (m:S->List AObj) {B:(S->Option R)->S->Option R} {n:Nat} {o:S} {r:R}
  (h:qA B n o=some r) (hw:Eo nb E lo (l o) (m o))
  (round:∀ (next:S->Option R) (s:S),B next s=some r->vc P inl N nb body (fun x E' lo'=>match x with
   | .normal=>∃ c,next c=some r/\Eo nb E' lo' (l c) (m c)
   | .exit i=>K (.exit i) E' lo'
   | .ret=>K .ret E' lo') (l s) (m s)):zj P inl N nb body K E lo:=by
 intro hm z bs ρ H a w D sat;subst D;obtain⟨ρ',d⟩:=hw.sat sat;refine wp_loop_ghost (I:=fun n a w=>∃ s ρ H,qA B n s=some r/\Sat bs N ρ H (qT (l s)) (m s) a w) n ⟨o,ρ',H,h,d⟩ fun n a w ⟨s,ρ,H,u,sat⟩=>?_;cases n with
 | zero=>cases u
 | succ n=>
  refine wp_mono (cq hm body _ _ _ z (round (qA B n) s u) bs ρ H a w rfl sat) fun e a w p=>?_;obtain⟨x,ρ2,q,v,f,y,b,k⟩:=p;cases x<;>cases e<;>simp only[aX]at y
  ·obtain⟨c,g,t⟩:=k
   obtain⟨ρ3,j⟩:=t.sat b;exact⟨n,Nat.lt_succ_self _,c,ρ3,q,g,j⟩
  ·exact⟨.exit _,ρ2,q,v,f,y,b,k⟩
  exact⟨.ret,ρ2,q,v,f,trivial,b,k⟩
theorem mw.go {P:Program} {inl:List Nat} {N nb:Nat} {x y:Code} {K:KA} {E:Env} {lo:List AObj}
  (h:vc P inl N nb x (fun e E lo=>match e with|.normal=>vc P inl N nb y K E lo|.exit i=>K (.exit i) E lo|.ret=>K .ret E lo) E lo):mw P inl N nb x y K E lo:=by
 intro hm b f bs ρ H a w d s;refine wp_seq (wp_mono (cq hm x _ E lo b h bs ρ H a w d s) fun e a w p=>?_);obtain⟨x',ρ',H',E',lo',b,c,k⟩:=p;cases x'<;>cases e<;>simp only[aX]at b
 ·exact cq hm y K E' lo' f k bs ρ' H' a w d c
 ·exact⟨.exit _,ρ',H',E',lo',b,c,k⟩
 exact⟨.ret,ρ',H',E',lo',trivial,c,k⟩
theorem mw.cut {P:Program} {inl:List Nat} {N nb:Nat} {x y:Code} {K:KA} {E:Env} {lo:List AObj} {S R:Type} (l:S->Env) (m:S->List AObj) (k:S->Option R) {r:R}
  (o:∀ s,k s=some r->vc P inl N nb y K (l s) (m s))
  (b:vc P inl N nb x (fun e E lo=>match e with|.normal=>∃ s,k s=some r/\Eo nb E lo (l s) (m s)|.exit i=>K (.exit i) E lo|.ret=>K .ret E lo) E lo):mw P inl N nb x y K E lo:=by
 intro hm c d bs ρ H a w n s;refine wp_seq (wp_mono (cq hm x _ E lo c b bs ρ H a w n s) fun e a w p=>?_);obtain⟨x',ρ',H',E',lo',b,f,g⟩:=p;cases x'<;>cases e<;>simp only[aX]at b
 ·obtain⟨st,h,j⟩:=g
  subst n;obtain⟨ρ3,q⟩:=j.sat f;exact cq hm y K _ _ d (o st h) bs ρ3 H' a w rfl q
 ·exact⟨.exit _,ρ',H',E',lo',b,f,g⟩
 exact⟨.ret,ρ',H',E',lo',trivial,f,g⟩
theorem qc.of_vcN {P:Program} {f:FuncId} {fn:Func} {args:List PV} {r:PV} {inl:List Nat} (hm:P.follows .mixedOrders=true) (he:Enters P f) (b:P.funcs[f]? =some fn) (a:iN inl fn args.length=true)
  (h:qey P inl fn args (fun v=>nle v r)):qc P f args r:=
 qc.of_vcR hm he b a (fun _ _ _=>GM) h
section
variable {A R S:Type}
theorem zJ (B:(S->Option R)->S->Option R) (n:Nat) (s:S):qA B (n+1) s=B (qA B n) s:=rfl
@[simp] theorem za (a:A) (k:A->Option R):bnd (some a) k=k a:=rfl
@[simp] theorem qf9 (k:A->Option R):bnd none k=none:=rfl
@[simp] theorem qga (k:Option R):chk true k=k:=rfl
@[simp] theorem qfn (b:Bool) (k:Option R):chk b (chk b k)=chk b k:=by cases b<;>rfl
@[simp] theorem gL [Inhabited A] (o:Option A):qE true o=o:=rfl
@[simp] theorem Ls [Inhabited A] (o:Option A):qE false o=some default:=rfl
@[simp] theorem zG (l:List A) (i:Nat):idx l (i:Int)=l[i]?:=by unfold idx; simp
@[simp] theorem Sd (l:List A):idx l 0=l[0]?:=by unfold idx; simp
@[simp] theorem natI_nat (i:Nat):Qq (i:Int)=some i:=by unfold Qq; simp
@[simp] theorem SC (b:UInt8):u8I ((b.toNat:Nat):Int)=some b:=by
 have:=b.toNat_lt;unfold u8I;rw[if_pos ⟨Int.natCast_nonneg _,by omega⟩];simp
@[simp] theorem MN (l:List UInt8):(qx l).length=l.length:=by simp[qx]
@[simp] theorem qo (l:List Val):(Val.rows l).length=l.length:=by rw[rows_eq]; simp
theorem vH {b:Bool} (k:Option R) (h:b=true):chk b k=k:=by subst h; rfl
end
end Ax
end
