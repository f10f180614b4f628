/- A part of the proof: the abstract execution. -/
import Derived.Lib.AppendStr
import Derived.Laws.IdiomCopy
import Derived.Lib.ConvBytes
import Derived.Laws.OwnMore
import Derived.Deep.LoopGhost
import Derived.Laws.Externs
import Derived.Lib.Builder
import Derived.Shelf.Strings.Builder1
import Derived.Test.YtglihheagfnakaaGreatA
set_option linter.unusedVariables false
set_option linter.unusedSimpArgs false
set_option linter.unnecessarySimpa false
set_option linter.deprecated false
set_option linter.unusedSectionVars false
set_option linter.constructorNameAsVariable false
open Go renaming run_underlying->kru
open Go.IntKind renaming wrap->kwr,bits->kbt
open List renaming length_cons->ja,length_append->jb,length_nil->jc,getElem?_cons_zero->jd,getElem?_eq_getElem->jf,mem_cons->jg,map_cons->jk,length_map->jl,prefix_refl->jq,append_assoc->js,length_take->jt,nil_append->ju,mem_append->jy,getElem?_append_left->jB,getElem?_append_right->jC,getElem?_take->jE,getElem?_set->jF,getElem?_eq_some_iff->jG,eq_nil_of_length_eq_zero->jI,take_left->jJ,size_toArray->jL,length_drop->jM,map_nil->jN,map_toArray->jY
open Nat renaming le_of_ble_eq_true->jh,eq_of_beq_eq_true->jm,le_refl->jw,zero_add->jx,lt_irrefl->jQ,zero_le->jR
open Bool renaming and_eq_true->ji,or_eq_true->jO,false_eq_true->jP
open Array renaming getElem?_eq_some_iff->jH,length_toList->jK,getD_eq_getD_getElem?->jV
open Int renaming toNat_natCast->jS
open Go.Result renaming andThen_ok->jZ
open Go.Sem renaming run_bind->ka,run_pure->ke
open Go.Op renaming operands->kf
open Go.Call renaming operands->kg
section
namespace Ax
open Go
variable {Lw:Nat}
section
variable {P:Program} {w:World}
theorem VH {t ty e:TypeId} {i:TypeInfo} {z:Value} (s:P.underlying t=some (.slice e)) (y:P.info? e=some i) (hz:i.zero=some z) (F:z.cells.size=i.size)
  {v:Value} {n:Nat} {xs:List Value} (d:w.ownsRow 0 e i.size v n xs)
  {x:Value} {m:Nat} {news:List Value} (o:news.length=m * i.size) (N:∀ u∈news,u.oneCell'=true)
  (O:(m=0/\x=.slice none 0 0)\/∃ a c,x=.slice (some a) m c/\∀ j u,news[j]? =some u->w.cell? (a.add j)=some u)
  (Q:n+m<=9223372036854775807) (hbytes:(n+m) * i.bytes<=140737488355328) :
  ∃ v' w',(Builtin.append_ #[t,t] ty #[v,x]).run P w=.ok v' w'/\w'.ownsRow 0 e i.size v' (n+m) (xs++news) /\
   ((qI v'=qI v/\(∀ g,qI v=some g->Keep (fun b=>b=g) w w')/\(qI v=none->w'=w))\/(qI v'=some w.heap.size/\Keep (fun b=>b=w.heap.size) w w')):=by
 have hlen:(xs++news).length=(n+m) * i.size:=by rw[jb,d.1,o,Nat.add_mul]
 have A:n+m<=maxLen:=by unfold maxLen; omega
 rcases O with ⟨rfl,rfl⟩|⟨G,c,rfl,f⟩
 ·have H:news=[]:=jI (by simpa using o)
  subst H;refine⟨v,w,run_append_owned_none (P:=P) (w:=w) 0 t ty e i i.size s y v n xs d,by simpa using d,.inl ⟨rfl,fun g _=>Keep.refl _ w,fun _=>rfl⟩⟩
 have grown:∀ (old:Nat),(w.drew.alloc (.cells (xs.toArray++news.toArray++Builtin.zeroCells z.cells (grownCap w (n+m) old e - (n+m))) e)).ownsRow 0 e i.size
    (.slice (some ⟨w.heap.size,0,none⟩) (n+m) (grownCap w (n+m) old e)) (n+m) (xs++news):=by
  intro old;have I:=grownCap_ge w (n+m) old e;have p:grownCap w (n+m) old e<=maxLen:=grownCap_le_maxLen w (n+m) old e A;refine⟨hlen,.inr ⟨w.heap.size,_,_,rfl,jR _,heap_alloc_new w.drew _,I,p,?_,?_⟩⟩
  ·simp only[Array.size_append,jL,size_zeroCells,F,d.1,o,← Nat.add_mul]
   congr 1;omega
  simp only[Array.toList_append,js];rw[← js,← hlen];exact jJ
 rcases d.2 with ⟨rfl,rfl⟩|⟨g,cap,cur,rfl,J,M,R,p,K,q⟩
 ·have L:xs=[]:=jI (by simpa using d.1)
  subst L;by_cases hm:m=0
  ·subst hm
   have H:news=[]:=jI (by simpa using o);subst H;refine⟨.slice none 0 0,w,?_,World.ownsRow_nil w 0 e i.size,.inl ⟨rfl,fun g _=>Keep.refl _ w,fun _=>rfl⟩⟩
   simp[Builtin.append_,kru s,Go.sizeOf,typeInfo,y,Builtin.lenOf,Builtin.firstCells,loadCells,loadCellsFrom]
  have B:=run_append_nil (P:=P) w t ty e i z s y hz G m c news o f (by omega) (by omega) (by have S:=hbytes; simp only[jx]at S; omega);have C:=grown 0;simp only[jx,ju,Array.empty_append]at C ⊢;exact⟨_,_,B,C,.inr ⟨rfl,xC w _ _⟩⟩
 by_cases l:n+m<=cap
 ·have D:n * i.size+news.length<=cur.size:=by rw[o,K,← Nat.add_mul]; exact Nat.mul_le_mul_right _ l
  have B:=run_append_room (P:=P) w t ty e i s y g n cap cur M G m c news o f N l D;refine⟨_,_,B,⟨hlen,.inr ⟨g,cap,_,rfl,J,setRow_heap w g cur _ e _ M,l,p,?_,?_⟩⟩,.inl ⟨rfl,fun U E=>?_,fun h=>by simp[qI]at h⟩⟩
  ·simp only[jL,jb,jt,jM,jK]
   omega
  ·rw[q,← hlen]
   exact jJ
  simp[qI]at E;subst E;exact⟨rfl,rfl,rfl,by simp,fun k _ T=>setRow_other w g k _ T⟩
 have r:∀ j u,xs[j]? =some u->w.cell? ((⟨g,0,none⟩:Addr).add j)=some u:=d.cells (g:=g) rfl;have B:=run_append_grow (P:=P) w t ty e i z s y hz ⟨g,0,none⟩ n cap xs d.1 r G m c news o f (by omega) (by omega) (growslice_fits (by omega) hbytes);exact⟨_,_,B,grown cap,.inr ⟨rfl,xC w _ _⟩⟩
theorem sE {t u ty e:TypeId} {i:TypeInfo} (y:P.underlying t=some (.slice e)) (hu:P.underlying u=some .string) (z:P.info? e=some i) (hz:i.zero=some (.int .u8 0)) (p:i.size=1)
  {v:Value} {n:Nat} {xs:List Value} (a:w.ownsRow 0 e 1 v n xs) (str:List UInt8)
  (F:n+str.length<=9223372036854775807) (hbytes:(n+str.length) * i.bytes<=140737488355328) :
  ∃ v' w',(Builtin.append_ #[t,u] ty #[v,.string ⟨str.toArray⟩]).run P w=.ok v' w'/\w'.ownsRow 0 e 1 v' (n+str.length) (xs++Lib.strCells ⟨str.toArray⟩) /\
   ((qI v'=qI v/\(∀ g,qI v=some g->Keep (fun b=>b=g) w w')/\(qI v=none->w'=w))\/(qI v'=some w.heap.size/\Keep (fun b=>b=w.heap.size) w w')):=by
 have d:(⟨str.toArray⟩:ByteArray).size=str.length:=pR str;generalize hsg:(⟨str.toArray⟩:ByteArray)=sb at *;have A:(Lib.strCells sb).length=str.length:=by rw[Lib.strCells_length,d]
 have hlen:(xs++Lib.strCells sb).length=(n+str.length) * 1:=by rw[jb,a.1,A,Nat.mul_one,Nat.mul_one]
 have q:n+str.length<=maxLen:=by unfold maxLen; omega
 have grown:∀ (old:Nat),(w.drew.alloc (.cells (xs.toArray++(Lib.strCells sb).toArray++Builtin.zeroCells (Value.int .u8 0).cells (grownCap w (n+str.length) old e - (n+str.length))) e)).ownsRow 0 e 1
    (.slice (some ⟨w.heap.size,0,none⟩) (n+str.length) (grownCap w (n+str.length) old e)) (n+str.length) (xs++Lib.strCells sb):=by
  intro old;have B:=grownCap_ge w (n+str.length) old e;have l:grownCap w (n+str.length) old e<=maxLen:=grownCap_le_maxLen w (n+str.length) old e q;refine⟨hlen,.inr ⟨w.heap.size,_,_,rfl,jR _,heap_alloc_new w.drew _,B,l,?_,?_⟩⟩
  ·have G:(Value.int .u8 0).cells.size=1:=rfl
   simp only[Array.size_append,jL,size_zeroCells,G,a.1,A];omega
  simp only[Array.toList_append,js];rw[← js,← hlen];exact jJ
 rcases a.2 with ⟨rfl,rfl⟩|⟨g,cap,cur,rfl,C,E,H,l,I,c⟩
 ·have D:xs=[]:=jI (by simpa using a.1)
  subst D;by_cases hm:str.length=0
  ·have J:Lib.strCells sb=[]:=jI (by omega)
   refine⟨.slice none 0 0,w,?_,by rw[hm,J]; exact World.ownsRow_nil w 0 e 1,.inl ⟨rfl,fun g _=>Keep.refl _ w,fun _=>rfl⟩⟩
   simp[Builtin.append_,kru y,kru hu,Go.sizeOf,typeInfo,z,Builtin.lenOf,Builtin.firstCells,d,hm]
  have f:=run_append_nil_string (P:=P) w t u ty e i (.int .u8 0) y hu z hz sb (by omega) (by omega) (by rw[d]; have K:=hbytes; simp only[jx]at K; omega);have r:=grown 0;simp only[jx,ju,Array.empty_append]at r ⊢;have e1:sb.data.map (fun b=>Value.int .u8 b.toNat)=(Lib.strCells sb).toArray:=by
   apply Array.ext';simp[Lib.strCells]
  rw[e1,d]at f;exact⟨_,_,f,r,.inr ⟨rfl,xC w _ _⟩⟩
 by_cases m:n+str.length<=cap
 ·have s:n+sb.size<=cur.size:=by rw[d]; omega
  have f:=Lib.run_append_room_string (P:=P) w t u ty e i y hu z p g n cap cur E sb (by omega) s;rw[d]at f;refine⟨_,_,f,⟨hlen,.inr ⟨g,cap,_,rfl,C,setRow_heap w g cur _ e _ E,m,l,?_,?_⟩⟩,.inl ⟨rfl,fun M x=>?_,fun h=>by simp[qI]at h⟩⟩
  ·simp only[jL,jb,jt,jM,jK,A]
   omega
  ·rw[Nat.mul_one]at c
   rw[c,← hlen];exact jJ
  simp[qI]at x;subst x;exact⟨rfl,rfl,rfl,by simp,fun k _ L=>setRow_other w g k _ L⟩
 have o:∀ j u,xs[j]? =some u->w.cell? ((⟨g,0,none⟩:Addr).add j)=some u:=a.cells (g:=g) rfl;have f:=Lib.run_append_grow_string (P:=P) w t u ty e i (.int .u8 0) y hu z hz ⟨g,0,none⟩ n cap xs (by rw[p]; exact a.1) o sb (by omega) (by omega) (growslice_fits (by omega) (by rw[d]; exact hbytes));rw[d]at f;exact⟨_,_,f,grown cap,.inr ⟨rfl,xC w _ _⟩⟩
theorem LH (H:(PH Lw)):∀ (l:List UInt8),fp H 1 (qp l) (Lib.strCells ⟨l.toArray⟩)
 | []=>by simp[qp,fp,Lib.strCells]
 | b::l=>by
  have:=LH H l;simp only[qp,jk,fp];refine⟨rfl,[.int .u8 b.toNat],Lib.strCells ⟨l.toArray⟩,by simp[Lib.strCells],?_,this⟩;simp[qU,qu]
theorem FW {f:FV} {R:List (List PV)->Prop} (h:Ns f R):∃ rows,R rows/\∀ ⦃Lw:Nat⦄ (ρ:List Value) (H:(PH Lw)) (x:Value),qL ρ H f x->qu H (.sl rows) x:=by
 unfold Ns at h;split at h
 ·exact⟨_,h,fun _ _ _ _ r=>r⟩
 ·exact⟨_,h,fun _ _ _ _ r=>r.2⟩
 ·refine⟨[],h,fun _ _ _ _ r=>?_⟩
  simp only[qL,qu]at r ⊢;exact .inl ⟨trivial,.inl r⟩
 exact h.elim
def xk (H:(PH Lw)) (v:Value) (a:List Value):(PH Lw):=fun b o=>if qI v=some b/\o<a.length then a[o]? else H b o
theorem fq {bs:(Base Lw)} {ρ:List Value} {H:(PH Lw)} {lo:List AObj} (s:SatW bs ρ H lo w) {e:TypeId} {z:Nat} {v:Value} {n:Nat} {xs:List Value} (x:w.ownsRow 0 e z v n xs)
  (F:∀ b,qI v=some b->(∀ j u,xs[j]? =some u->H b j=some u)/\∀ o,n * z<=o->H b o=none)
  (hfree:∀ (g:Nat),qI v=some g->∀ (k:Nat) (o':AObj) (v':Value),lo[k]? =some o'->ρ[k]? =some v'->o'.live=true->qI v'≠some g)
  (howns:∀ g,qI v=some g->bs.S g\/bs.w0.heap.size<=g)
  {w':World} {v':Value} {m:Nat} {news:List Value} (I:news.length=m * z) (J:∀ u∈xs++news,u.oneCell'=true)
  (c:w'.ownsRow 0 e z v' (n+m) (xs++news))
  (D:(qI v'=qI v/\(∀ g,qI v=some g->Keep (fun b=>b=g) w w')/\(qI v=none->w'=w))\/(qI v'=some w.heap.size/\Keep (fun b=>b=w.heap.size) w w')) :
  PH.le H (xk H v' (xs++news))/\SatW bs (ρ++[v']) (xk H v' (xs++news)) (lo++[.tail e z (n+m)]) w':=by
 have hlen:(xs++news).length=(n+m) * z:=c.1;have y:∀ b o u,qI v'=some b->H b o=some u->o<xs.length/\(xs++news)[o]? =some u:=by
  intro b o u r hu;rcases D with ⟨e1,_⟩|⟨e1,_⟩
  ·rw[e1]at r
   obtain⟨K,L⟩:=F b r;have d:o<xs.length:=by
    rw[x.1];rcases Nat.lt_or_ge o (n * z)with h|h
    ·exact h
    rw[L o h]at hu; cases hu
   refine⟨d,?_⟩;rw[jB d];have:=K o _ (jf d);rw[hu]at this;rw[jf d,← Option.some.inj this]
  rw[e1]at r;cases r;exact absurd (s.sath.lt hu) (jQ _)
 have l:PH.le H (xk H v' (xs++news)):=by
  intro b o u hu;unfold xk;split
  ·rename_i t; exact(y b o u t.1 hu).2
  exact hu
 refine⟨l,?_⟩;have hcell:∀ g,qI v'=some g->∀ o u,(xs++news)[o]? =some u->w'.cell? ⟨g,o,none⟩=some u:=by
  intro g G o u hu;have:=c.cells (g:=g) (by
   rcases c.2 with ⟨rfl,_⟩|⟨O,cap,cur,rfl,_⟩
   ·simp[qI]at G
   simpa[qI,Value.ownBlock]using G) o u hu
  rwa [Addr.add_lit,jx]at this
 have p:SatH (xk H v' (xs++news)) w':=by
  refine⟨?_,s.sath.root.mono l,by rcases D with ⟨_,i,k2⟩|⟨_,i⟩; { cases f:qI v with|none=>rw[k2 f]; exact s.sath.low|some g=>exact Nat.le_trans s.sath.low (i g f).size }; { exact Nat.le_trans s.sath.low i.size },?_⟩
  rotate_left
  ·intro b o u hu M
   by_cases A:qI v'=some b
   ·exact .own c A
   unfold xk at hu;rw[if_neg (fun t=>A t.1)]at hu
   have d:=s.sath.lt hu;refine(s.sath.nf b o u hu M).block ?_;rcases D with ⟨e1,i,k2⟩|⟨e1,i⟩
   ·cases f:qI v with
    | none=>rw[k2 f]
    | some g=>exact(i g f).block b d (fun e=>A (by rw[e1,f,e]))
   ·exact i.block b d (by omega)
  intro b o u hu;unfold xk at hu;split at hu
  ·rename_i t
   exact⟨hcell b t.1 o u hu,J u (List.mem_of_getElem? hu)⟩
  rename_i t;obtain⟨B,hone⟩:=s.sath.cell b o u hu;refine⟨?_,hone⟩;have E:qI v'≠some b:=fun r=>t ⟨r,by have:=(y b o u r hu).1; rw[jb]; omega⟩
  have d:=s.sath.lt hu;rcases D with ⟨e1,i,k2⟩|⟨e1,i⟩
  ·cases f:qI v with
   | none=>rw[k2 f]; exact B
   | some g=>
    rw[World.cell?_of_block (w:=w) (a:=⟨b,o,none⟩) ((i g f).block b d (fun e=>E (by rw[e1,f,e])))]
    exact B
  rw[World.cell?_of_block (w:=w) (a:=⟨b,o,none⟩) (i.block b d (by omega))];exact B
 have C:∀ ρ,sD ρ (xk H v' (xs++news)) w' v' (.tail e z (n+m)):=by
  intro ρ;refine⟨xs++news,c,fun b r=>⟨fun j u hu=>?_,fun o Q=>?_⟩⟩
  ·unfold xk
   rw[if_pos ⟨r,(jG.1 hu).1⟩];exact hu
  unfold xk;rw[if_neg (by rw[hlen]; omega)];cases N:H b o with
  | none=>rfl
  | some u=>
   have:=(y b o u r N).1;rw[x.1]at this;have:n * z<=(n+m) * z:=Nat.mul_le_mul_right _ (by omega);omega
 have q:∀ b o u,xk H v' (xs++news) b o=some u->(∃ u,H b o=some u)\/qI v'=some b:=by
  intro b o u hu;unfold xk at hu;split at hu
  ·rename_i t; exact .inr t.1
  exact .inl ⟨u,hu⟩
 rcases D with ⟨e1,i,k2⟩|⟨e1,i⟩
 ·cases f:qI v with
  | none=>
   have hw:=k2 f;subst hw;rw[f]at e1;refine s.push (g:=w'.heap.size) (.inr e1) (s.fresh (jw _)) (.inr s.keep.size) l p (fun b o u hu=>?_) (Keep.refl _ _) (C _);rcases q b o u hu with h|h
   ·exact .inl h
   rw[e1]at h; cases h
  | some g=>
   rw[f]at e1;refine s.push (g:=g) (.inl e1) (hfree g f) (howns g f) l p (fun b o u hu=>?_) (i g f) (C _);rcases q b o u hu with h|h
   ·exact .inl h
   rw[e1]at h; exact .inr (Option.some.inj h).symm
 refine s.push (g:=w.heap.size) (.inl e1) (s.fresh (jw _)) (.inr s.keep.size) l p (fun b o u hu=>?_) i (C _);rcases q b o u hu with h|h
 ·exact .inl h
 rw[e1]at h; exact .inr (Option.some.inj h).symm
theorem ue {H:(PH Lw)} {v':Value} {e:TypeId} {z:Nat} {rows:List (List PV)} {b:List Value} {w':World} (f:fp H z rows b) (c:PH.le H (xk H v' b))
  (a:w'.ownsRow 0 e z v' rows.length b):qu (xk H v' b) (.sl rows) v':=by
 simp only[qu];rcases a.2 with ⟨rfl,h⟩|⟨g,cap,cur,rfl,_,_,d,_⟩
 ·exact .inl ⟨jI h,.inl rfl⟩
 refine .inr ⟨g,0,z,cap,rfl,d,(f.mono c).unflat fun j u hu=>?_⟩;unfold xk;rw[if_pos ⟨by simp[qI],by have:=(jG.1 hu).1; omega⟩];simpa using hu
theorem fp.one {H:(PH Lw)} {w:World} (s:SatH H w) {b o:Nat} {vs:List Value} (c:∀ j u,vs[j]? =some u->H b (o+j)=some u):∀ u∈vs,u.oneCell'=true:=fun u hu=>by
 obtain⟨j,a⟩:=List.getElem?_of_mem hu;exact(s _ _ _ (c j u a)).2
theorem PT {H:PH Lw} (sath:SatH H w) {t ty e:TypeId} {i:TypeInfo} {z:Value} (C:P.underlying t=some (.slice e)) (D:P.info? e=some i) (hz:i.zero=some z) (F:z.cells.size=i.size)
  {rows news:List (List PV)} {E xv:Value} (rs:qu H (.sl rows) E) (hp:∃ p n,E=.slice p n n) (rx:qu H (.sl news) xv) (k:∀ r∈rows++news,r.length=i.size)
  (l:(rows++news).length<=9223372036854775807) (hbytes:(rows++news).length * i.bytes<=140737488355328) :
  ∃ v' w',(Builtin.append_ #[t,t] ty #[E,xv]).run P w=.ok v' w'/\((news=[]/\v'=E/\w'=w) \/
   ∃ a:List Value,fp H i.size (rows++news) a/\(∀ u∈a,u.oneCell'=true)/\w'.ownsRow 0 e i.size v' (rows++news).length a/\qI v'=some w.heap.size/\Keep (fun b=>b=w.heap.size) w w'):=by
 obtain⟨p,n,rfl⟩:=hp;have nothing:∀ (q:Option Addr) (c:Nat),xv=.slice q 0 c->(Builtin.append_ #[t,t] ty #[.slice p n n,xv]).run P w=.ok (.slice p n n) w:=by
  rintro q c rfl;cases p<;>cases q<;>simp[Builtin.append_,kru C,Go.sizeOf,typeInfo,D,Builtin.lenOf,Builtin.firstCells,loadCells,loadCellsFrom,storeCells]
 rcases tN rx (fun r f=>k r (by simp[f]))with ⟨rfl,rfl|⟨G,d,rfl⟩⟩|⟨b,o,cap,vs,rfl,_,v,L⟩
 ·exact⟨_,_,nothing none 0 rfl,.inl ⟨rfl,rfl,rfl⟩⟩
 ·exact⟨_,_,nothing (some G) d rfl,.inl ⟨rfl,rfl,rfl⟩⟩
 by_cases x:news=[]
 ·subst x
  exact⟨_,_,nothing _ _ rfl,.inl ⟨rfl,rfl,rfl⟩⟩
 have y:0<news.length:=List.length_pos_iff.2 x;rw[jb]at l hbytes;have hcell:∀ j u,vs[j]? =some u->w.cell? ((⟨b,o,none⟩:Addr).add j)=some u:=fun j u hu=>by rw[Addr.add_lit]; exact(sath.cell _ _ _ (L j u hu)).1
 have hone:=fp.one sath L;have grown:∀ (xs:List Value) (old:Nat),fp H i.size rows xs->(∀ u∈xs,u.oneCell'=true)->∃ a:List Value,fp H i.size (rows++news) a/\(∀ u∈a,u.oneCell'=true) /\
   (w.drew.alloc (.cells (xs.toArray++vs.toArray++Builtin.zeroCells z.cells (grownCap w (rows.length+news.length) old e - (rows.length+news.length))) e)).ownsRow 0 e i.size
    (.slice (some ⟨w.heap.size,0,none⟩) (rows.length+news.length) (grownCap w (rows.length+news.length) old e)) (rows++news).length a:=by
  intro xs old I g;have J:=grownCap_ge w (rows.length+news.length) old e;have K:grownCap w (rows.length+news.length) old e<=maxLen:=grownCap_le_maxLen w (rows.length+news.length) old e (by unfold maxLen; omega);have A:=(I.append v).length;refine⟨xs++vs,I.append v,fun u hu=>(jy.1 hu).elim (g u) (hone u),A,.inr ⟨w.heap.size,_,_,by rw[jb],jR _,heap_alloc_new w.drew _,by rw[jb]; exact J,K,?_,?_⟩⟩
  ·simp only[Array.size_append,jL,size_zeroCells,F,I.length,v.length,← Nat.add_mul]
   congr 1;omega
  simp only[Array.toList_append,js];rw[← js,← A];exact jJ
 rcases tN rs (fun r f=>k r (by simp[f]))with ⟨rfl,e1|⟨G,d,e1⟩⟩|⟨M,o',d,us,e1,_,hu,B⟩
 ·cases e1
  have f:=run_append_nil (P:=P) w t ty e i z C D hz ⟨b,o,none⟩ news.length cap vs v.length hcell y (by simp at l; omega) (by simp at hbytes; omega);obtain⟨a,g,m,s⟩:=grown [] 0 rfl (by simp);simp only[jc,jx,ju,Array.empty_append]at g m s ⊢;exact⟨_,_,f,.inr ⟨a,g,m,s,rfl,xC w _ _⟩⟩
 ·cases e1
  have f:=run_append_grow (P:=P) w t ty e i z C D hz G 0 0 [] (by simp) (fun j u hu=>by simp at hu) ⟨b,o,none⟩ news.length cap vs v.length hcell (by omega) (by simp at l; omega) (growslice_fits (by omega) (by simpa using hbytes))
  obtain⟨a,g,m,s⟩:=grown [] 0 rfl (by simp);simp only[jc,ju]at f g m s ⊢;exact⟨_,_,f,.inr ⟨a,g,m,s,rfl,xC w _ _⟩⟩
 cases e1;have f:=run_append_grow (P:=P) w t ty e i z C D hz ⟨M,o',none⟩ rows.length rows.length us hu.length (fun j u h=>by rw[Addr.add_lit]; exact(sath.cell _ _ _ (B j u h)).1) ⟨b,o,none⟩ news.length cap vs v.length hcell (by omega) (by omega) (growslice_fits (by omega) hbytes)
 obtain⟨a,g,m,s⟩:=grown us rows.length hu (fp.one sath B);exact⟨_,_,f,.inr ⟨a,g,m,s,rfl,xC w _ _⟩⟩
theorem Zk {w:World} {t:TypeId} {v:Value}:(newVar t v).run P w=.ok ⟨w.heap.size,0,none⟩ (w.alloc (.cells v.cells t)):=by
 simp[newVar,newRow]
theorem Ug {w:World} {t bt:TypeId} {i:TypeInfo} (d:P.info? t=some i) {b off:Nat} {cur:List Value} (e:w.heap[b]? =some (.cells cur.toArray bt (0,0))) {x:Value}
  (c:x.cells.size=i.size) (a:off+x.cells.size<=cur.length) (f:∀ u∈x.cells.toList,u.oneCell'=true) :
  (Instr.storeAt t (.pointer (some ⟨b,off,none⟩)) x).run P w=.ok () (w.setRow b (cur.take off++x.cells.toList++cur.drop (off+x.cells.size)).toArray):=by
 have:=run_storeCells_at P b off bt x.cells.toList 0 cur.toArray w e (by simpa using a) f;simp only[Nat.add_zero,jK]at this;simp[Instr.storeAt,Instr.sureAddr,storeVar,Go.sizeOf,typeInfo,d,c];rw[this];simp[c]
theorem Bn {a b:Nat} (h:Nat.beq a b=true):a=b:=jm h
theorem tR {H:(PH Lw)}:∀ {l:List UInt8} {vs:List Value},qU H (l.map fun b=>PV.int .u8 b.toNat) vs->∀ (j:Nat) (c:UInt8),l[j]? =some c->vs[j]? =some (.int .u8 (c.toNat:Int))
 | [],_,_,j,c,h=>by simp at h
 | b::l,vs,r,j,c,h=>by
  simp only[jk,qU,qu]at r;obtain⟨v,a,rfl,rfl,rs⟩:=r;cases j with
  | zero=>simp at h; subst h; rfl
  | succ j=>simpa using tR rs j c (by simpa using h)
theorem Ua {t:TypeId} {lo:List AObj} {R:FV->List AObj->Prop} (h:DM P t lo R) :
  ∃ d lo',R d lo'/\zA true lo lo'/\∀ ⦃Lw:Nat⦄ (bs:(Base Lw)) (ρ:List Value) (H:(PH Lw)) (w:World),SatW bs ρ H lo w->∃ v w',(Instr.alloc t true (.tuple #[])).run P w=.ok v w'/\dJ bs ρ H d lo' v w':=by
 unfold DM at h;obtain⟨i,z,m,e,hz,h,a⟩:=VU h;obtain⟨l,rfl,h⟩:=h;have h:=zG h;have h:=zK h;refine⟨_,_,h,zA.push _,fun Lw bs ρ H w s=>?_⟩;refine⟨.pointer (some ⟨w.heap.size,0,none⟩),w.alloc (.cells z.cells t),?_,ρ++[.slice (some ⟨w.heap.size,0,none⟩) l.length l.length],H,List.prefix_append _ _,PH.le.refl H,?_,?_⟩
 ·simp only[Instr.alloc,ka,zeroValue,typeInfo,run_program,e,hz,Zk,jZ,ke]
 ·refine s.push (g:=w.heap.size) (.inl rfl) (s.fresh (jw _)) (.inr s.keep.size) (PH.le.refl H) (gJ s.sath _) (fun b o v h=>.inl ⟨v,h⟩) (gH w _ _) ?_
  refine⟨w.heap.size,z.cells,t,l.length,0,0,rfl,heap_alloc_new w _,.inr (jw _),fun j c f=>?_,fun o=>?_⟩
  ·have:=tR (a H) j c f
   simpa using this
  cases k:H w.heap.size o with
  | none=>rfl
  | some x=>exact absurd (s.sath.lt k) (jQ _)
 ·exact⟨w.heap.size,l.length,l.length,by simp[← s.hlen],by simp⟩
theorem FZ {bs:(Base Lw)} {ρ:List Value} {H:(PH Lw)} {lo:List AObj} (s:SatW bs ρ H lo w) {t:TypeId} {L:TypeInfo} (Q:P.info? t=some L) {k i off b n cap z:Nat} {e:TypeId} {o:AObj} {rows:List (List PV)} {row a:List PV} {xv:Value} {xs:List Value}
  (R:lo[k]? =some o) (D:o.live=true) (S:ρ[k]? =some (.slice (some ⟨b,0,none⟩) n cap)) (m:w.ownsRow 0 e z (.slice (some ⟨b,0,none⟩) n cap) rows.length xs) (h:fp H z rows xs) (M:∀ u∈xs,u.oneCell'=true) (T:∀ o,H b o=none)
  (d:rows[i]? =some row) (hone:a.all Eo=true) (U:off+a.length<=row.length) (hn:a.length=L.size) (E:qU H a xv.cells.toList) :
  ∃ w',(Instr.storeAt t (.pointer (some ⟨b,i * z+off,none⟩)) xv).run P w=.ok () w'/\(∀ o',sD ρ H w' (.slice (some ⟨b,0,none⟩) n cap) o'->SatW bs ρ H (lo.set k o') w') /\
   w'.ownsRow 0 e z (.slice (some ⟨b,0,none⟩) n cap) (rows.set i (row.take off++a++row.drop (off+a.length))).length (xs.take (i * z+off)++xv.cells.toList++xs.drop (i * z+off+xv.cells.size)) /\
   fp H z (rows.set i (row.take off++a++row.drop (off+a.length))) (xs.take (i * z+off)++xv.cells.toList++xs.drop (i * z+off+xv.cells.size)) /\
   (∀ u∈xs.take (i * z+off)++xv.cells.toList++xs.drop (i * z+off+xv.cells.size),u.oneCell'=true)/\i * z+off+a.length<=xs.length/\xv.cells.size=a.length/\row.length=z:=by
 rcases m.2 with ⟨F,_⟩|⟨g,N,cur,F,_,O,p,hm,V,X⟩
 ·cases F
 cases F;have hlen:=E.length;have G:row.length=z:=by
  have v:=List.mem_of_getElem? d;have:∀ {rows:List (List PV)} {vs:List Value},fp H z rows vs->∀ r∈rows,r.length=z:=by
   intro rows
   induction rows with
   | nil=>intro vs _ r h; cases h
   | cons q qs ih=>
    intro vs x r h;obtain⟨hz,_,_,_,_,y⟩:=x;rcases jg.1 h with rfl|h
    ·exact hz
    exact ih y r h
  exact this h row v
 have I:i<rows.length:=(jG.1 d).1;have Y:xs.length=rows.length * z:=h.length;have Z:i * z+z<=rows.length * z:=by
  rw[← Nat.succ_mul]; exact Nat.mul_le_mul_right _ I
 have A:rows.length * z<=cur.toList.length:=by
  have h2:cur.toList.length=cur.size:=by simp
  rw[h2,V]; exact Nat.mul_le_mul_right _ p
 have J:xv.cells.size=a.length:=by simpa using hlen
 have f:∀ u∈xv.cells.toList,u.oneCell'=true:=qU.one (fun c hc=>(List.all_eq_true.1 hone) c hc) E;have B:=Ug (P:=P) (w:=w) (t:=t) (bt:=e) (cur:=cur.toList) Q (by simpa using O) (x:=xv) (off:=i * z+off) (by omega) (by omega) f;have C:(cur.toList.take (i * z+off)++xv.cells.toList++cur.toList.drop (i * z+off+xv.cells.size)).take (rows.length * z)=xs.take (i * z+off)++xv.cells.toList++xs.drop (i * z+off+xv.cells.size):=by
  rw[Su (by omega) (by simp) A,X]
 have l:=h.over (off:=off) d E (by omega);have j:(rows.set i (row.take off++a++row.drop (off+a.length))).length=rows.length:=by simp
 refine⟨_,B,fun o' K=>s.upd (k:=k) (b:=b) R S D rfl T ⟨rfl,rfl,rfl,by simp,fun x _ hx=>setRow_other w b x _ hx⟩ K,?_,?_,?_,by omega,J,G⟩
 ·refine⟨?_,.inr ⟨b,cap,(cur.toList.take (i * z+off)++xv.cells.toList++cur.toList.drop (i * z+off+xv.cells.size)).toArray,by rw[j],jR _,setRow_heap w b _ _ e _ (by simpa using O),by rw[j]; exact p,hm,?_,?_⟩⟩
  ·rw[j]
   simp only[jb,jt,jM,jK];omega
  ·simp only[jL,jb,jt,jM,jK]at A ⊢
   omega
  rw[j]; exact C
 ·simpa using l
 intro u hu;rcases jy.1 hu with hu|hu
 ·rcases jy.1 hu with hu|hu
  ·exact M u (List.mem_of_mem_take hu)
  exact f u hu
 exact M u (List.mem_of_mem_drop hu)
theorem tM {b:Nat} {e:TypeId} {fz:Nat×Nat}:∀ (vs:List Value) (o:Nat) (w:World) (cs:Array Value),w.heap[b]? =some (.cells cs e fz) ->
  ∃ a,(w.setCells b o vs).heap[b]? =some (.cells a e fz)/\a.size=cs.size/\(∀ k,k<o->a[k]? =cs[k]?)/\(∀ j v,vs[j]? =some v->o+j<cs.size->a[o+j]? =some v)/\Keep (fun x=>x=b) w (w.setCells b o vs)
 | [],o,w,cs,h=>⟨cs,h,rfl,fun _ _=>rfl,fun j v f=>by simp at f,Keep.refl _ _⟩
 | v::vs,o,w,cs,h=>by
  have g:(w.setCell ⟨b,o,none⟩ v).heap[b]? =some (.cells (cs.setIfInBounds o v) e fz):=by
   simp[World.setCell,Array.getElem?_modify,h]
  have c:Keep (fun x=>x=b) w (w.setCell ⟨b,o,none⟩ v):=⟨rfl,rfl,rfl,by simp[World.setCell],fun x _ i=>by
   have:b≠x:=fun e=>i e.symm
   simp[World.setCell,Array.getElem?_modify,this]⟩
  obtain⟨a,l,a2,a3,a4,a5⟩:=tM vs (o+1) (w.setCell ⟨b,o,none⟩ v) _ g;refine⟨a,l,by simpa using a2,fun k c=>?_,fun j u hu d=>?_,c.trans a5⟩
  ·rw[a3 k (by omega),Array.getElem?_setIfInBounds,if_neg (by omega)]
  cases j with
  | zero=>
   simp only[jd,Option.some.injEq]at hu;subst hu;rw[Nat.add_zero]at d ⊢;rw[a3 o (by omega),Array.getElem?_setIfInBounds,if_pos rfl,if_pos d]
  | succ j=>
   rw[show o+(j+1)=o+1+j from by omega];exact a4 j u (by simpa using hu) (by simpa using(by omega:o+1+j<cs.size))
theorem DU {lo:List AObj} {t:TypeId} {k z i off:Nat} {x:FV} {R:FV->List AObj->Prop} (h:Mm P t lo k z i off x R) :
  ∃ fv lo',R fv lo'/\lo'.length=lo.length/\∀ ⦃Lw:Nat⦄ (bs:(Base Lw)) (ρ:List Value) (H:(PH Lw)) (w:World) (a xv:Value),SatW bs ρ H lo w->qL ρ H (.eptr k z i off) a->qL ρ H x xv ->
   ∃ w',(Instr.storeAt t a xv).run P w=.ok () w'/\dJ bs ρ H fv lo' undef w':=by
 unfold Mm at h;have m:=tA h; clear h; obtain⟨cs,h,B⟩:=m;have m:=dH h; clear h; obtain⟨ps,h,C⟩:=m;have m:=zG h; clear h; have h:=m; clear m;have m:=vk h; clear h; obtain⟨d,ti,hd,hi,h⟩:=m;split at h
 ·rename_i hn
  have hn:=Bn hn;have m:=zd h; clear h; obtain⟨o,F,h⟩:=m;split at h
  ·rename_i e G rows
   obtain⟨row,⟨rfl,r,hone⟩,h⟩:=h;obtain⟨h,I⟩:=sM h;obtain⟨J,hrows,h⟩:=h;obtain⟨h,hk⟩:=xL h;refine⟨_,_,h,by simp,fun Lw bs ρ H w a xv s K rx=>?_⟩;obtain⟨b,n,cap,v,rfl⟩:=K;obtain⟨xs,y,hr,L,hh⟩:=s.objs k _ _ F v;obtain⟨w',g,M,c1,c2,c3,_⟩:=FZ s hi F rfl v y hr L (hh b rfl) r hone I (by omega) (C ρ H _ (B ρ H xv rx));subst hrows;exact⟨w',g,ρ,H,jq _,PH.le.refl H,M _ ⟨_,c1,c2,c3,fun b' N=>by cases N; exact hh b rfl⟩,by simp[qL,qu,qU,undef]⟩
  ·rename_i e G rows j kt
   obtain⟨row,kt',⟨rfl,r,hone,O⟩,h⟩:=h;obtain⟨h,I⟩:=sM h;obtain⟨J,hrows,h⟩:=h;obtain⟨h,hk⟩:=xL h;refine⟨_,_,h,by simp,fun Lw bs ρ H w a xv s K rx=>?_⟩;obtain⟨b,n,cap,v,rfl⟩:=K;obtain⟨xs,y,hr,L,hh,hl⟩:=s.objs k _ _ F v;obtain⟨w',g,M,c1,c2,c3,c4,c5,c6⟩:=FZ s hi F rfl v y hr L (hh b rfl) r hone I (by omega) (C ρ H _ (B ρ H xv rx));subst hrows;refine⟨w',g,ρ,H,jq _,PH.le.refl H,M _ ⟨_,c1,c2,c3,fun b' N=>by cases N; exact hh b rfl,fun u hu=>?_⟩,by simp[qL,qu,qU,undef]⟩
   rw[List.length_set]at hu;have Q:i<rows.length:=(jG.1 r).1;rcases O with ⟨hjz,hout,rfl⟩|⟨rfl,hlast,S,rfl⟩
   ·refine hl u ?_
    have hp:(rows.length - 1) * G+j<i * G+off\/i * G+off+xv.cells.size<=(rows.length - 1) * G+j:=by
     rcases Nat.lt_or_ge i (rows.length - 1)with hlt|hge
     ·right
      have:(i+1) * G<=(rows.length - 1) * G:=Nat.mul_le_mul_right _ hlt;rw[Nat.add_mul]at this;omega
     have:i=rows.length - 1:=by omega
     subst this;rcases hout with h|h
     ·right; omega
     left; omega
    rcases hp with hp|hp
    ·rw[js,jB (by rw[jt]; omega),jE,if_pos hp]at hu
     exact hu
    rw[jC (by simp only[jb,jt,jK]; omega),List.getElem?_drop]at hu;rw[← hu];congr 1;simp only[jb,jt,jK];omega
   have p:i=rows.length - 1:=by omega
   subst p;have hx1:xv.cells.toList=[xv]:=by rw[(cQ (f:=.tsl kt' S) rfl rx).1]
   rw[hx1,js,jC (by rw[jt]; omega),jt,Nat.min_eq_left (by omega),Nat.sub_self]at hu;simp at hu;rw[← hu];exact rx.1
  ·rename_i l
   split at h
   ·have m:=h; clear h; obtain⟨c,l',⟨rfl,rfl,Q,hnc,hl'⟩,h⟩:=m
    have m:=xL h; clear h; obtain⟨h,hk⟩:=m;subst hnc;refine⟨_,_,h,by simp,fun Lw bs ρ H w a xv s K rx=>?_⟩;obtain⟨b,n0,cap,v,rfl⟩:=K;obtain⟨b',cs,e',cap',lo',p,e1,T,U,A,hH⟩:=s.objs k _ _ F v;cases e1;have rl:=C ρ H _ (B ρ H xv rx);simp only[qU,qu]at rl;obtain⟨v0,vs',ev,rfl,rfl⟩:=rl;have V:xv.cells.size=1:=by
     have:xv.cells.toList.length=1:=by rw[ev]; rfl
     simpa using this
    have hcell:(w.cell? ⟨b,i,none⟩).isSome=true:=by
     simp only[World.cell?,T];rw[A i _ (jf Q)];rfl
    have hfz:w.frozen? ⟨b,i,none⟩=false:=by
     simp only[World.frozen?,T];have:¬ (lo'<=i/\i<p):=by omega
     simpa using fun L=>Nat.le_of_not_lt fun A=>this ⟨L,A⟩
    have g:(Instr.storeAt t (.pointer (some ⟨b,i * 1+0,none⟩)) xv).run P w=.ok () (w.setCell ⟨b,i,none⟩ (.int .u8 (c.toNat:Int))):=by
     have h3:=run_storeCells_cells (P:=P) b i [.int .u8 (c.toNat:Int)] 0 w (fun j D=>by
      have:j=0:=by simpa using D
      subst this;simpa using hcell) (fun j D=>by
      have:j=0:=by simpa using D
      subst this;simpa using hfz) (by simp[Value.oneCell'])
     simp only[Nat.add_zero]at h3;have X:ti.size=1:=by
      have:[PV.int .u8 (c.toNat:Int)].length=ti.size:=by simpa using hn
      simpa using this.symm
     simp[Instr.storeAt,Instr.sureAddr,storeVar,Go.sizeOf,typeInfo,hi,X,V,ev,h3,World.setCells]
    have hset:(w.setCell ⟨b,i,none⟩ (.int .u8 (c.toNat:Int))).heap[b]? =some (.cells (cs.setIfInBounds i (.int .u8 (c.toNat:Int))) e' (lo',p)):=by
     simp[World.setCell,Array.getElem?_modify,T]
    refine⟨_,g,ρ,H,jq _,PH.le.refl H,?_,by simp[qL,qu,qU,undef]⟩;refine s.upd (k:=k) (b:=b) F v rfl rfl hH ⟨rfl,rfl,rfl,by simp[World.setCell],fun x _ hx=>?_⟩ ?_
    ·have:b≠x:=fun e=>hx e.symm
     simp[World.setCell,Array.getElem?_modify,this]
    subst hl';refine⟨b,_,e',cap,lo',p,by simp,hset,by simpa using U,fun j c' q=>?_,hH⟩;rw[jF]at q;rw[Array.getElem?_setIfInBounds];split at q
    ·rename_i Y
     subst Y;cases q;have hcs':i<cs.size:=by
      have:=A i _ (jf Q);exact(jH.1 this).1
     simp[hcs']
    rename_i Y;simp only[Y,if_false];exact A j c' q
   have m:=h; clear h; obtain⟨l',⟨rfl,rfl,rfl,E,hpe⟩,h⟩:=m;have m:=xL h; clear h; obtain⟨h,hk⟩:=m;refine⟨_,_,h,by simp,fun Lw bs ρ H w a xv s K rx=>?_⟩;obtain⟨b,n0,cap,v,rfl⟩:=K;obtain⟨b',cs,e',cap',lo',p,e1,T,U,A,hH⟩:=s.objs k _ _ F v;cases e1;have rl:=C ρ H _ (B ρ H xv rx);rw[hpe]at rl;have hvl:xv.cells.toList.length=l.length:=by rw[rl.length,jl,E]
   have V:xv.cells.size=l.length:=by simpa using hvl
   have hcz:l.length<=cs.size:=by
    rcases Nat.eq_zero_or_pos l.length with m|m
    ·omega
    have:=A (l.length - 1) _ (jf (by omega));have:=(jH.1 this).1;omega
   have Z:∀ u∈xv.cells.toList,u.oneCell'=true:=by
    intro u hu;obtain⟨j,D⟩:=List.getElem?_of_mem hu;have hjl:j<l'.length:=by have:=(jG.1 D).1; omega
    have:=tR rl j _ (jf hjl);rw[D]at this;cases this;rfl
   have g:(Instr.storeAt t (.pointer (some ⟨b,0 * 1+0,none⟩)) xv).run P w=.ok () (w.setCells b 0 xv.cells.toList):=by
    have h3:=run_storeCells_cells (P:=P) b 0 xv.cells.toList 0 w (fun j D=>by
     simp only[World.cell?,T];have:j<l.length:=by omega
     rw[show 0+0+j=j from by omega];rw[A j _ (jf this)];rfl) (fun j D=>by
     simp only[World.frozen?,T];have:¬ (lo'<=0+0+j/\0+0+j<p):=by omega
     simpa using fun L=>Nat.le_of_not_lt fun A=>this ⟨by simpa using L,by simpa using A⟩) Z
    have X:ti.size=l.length:=by
     have:ps.length=ti.size:=by simpa using hn
     rw[← this,hpe,jl,E]
    simp only[Nat.add_zero]at h3;simp[Instr.storeAt,Instr.sureAddr,storeVar,Go.sizeOf,typeInfo,hi,X,V,h3]
   obtain⟨cs',a1,a2,_,a4,a5⟩:=tM xv.cells.toList 0 w cs T;refine⟨_,g,ρ,H,jq _,PH.le.refl H,?_,by simp[qL,qu,qU,undef]⟩;refine s.upd (k:=k) (b:=b) F v rfl rfl hH a5 ?_;refine⟨b,cs',e',cap,lo',p,by rw[E],a1,by rw[E]; exact U,fun j c' q=>?_,hH⟩;have D:=(jG.1 q).1;have:=a4 j _ (tR rl j c' q) (by omega);simpa using this
  exact h.elim
 exact h.elim
theorem Hu {E:Env} {lo:List AObj} {t:TypeId} {n:Nat} {qZ:List (Nat×Operand)} {R:FV->List AObj->Prop} (h:LY P E lo t n qZ R) :
  ∃ r lo',R r lo'/\zA true lo lo'/\∀ ⦃Lw:Nat⦄ (bs:(Base Lw)) (ρ:List Value) (H:(PH Lw)) (w:World) (eval:Operand->Value),SatW bs ρ H lo w->(∀ x∈qZ.map (·.2),qL ρ H (oT (qG E) x) (eval x)) ->
   ∃ v w',(Instr.buildSlice t n (qZ.map fun(i,x)=>(i,eval x)).toArray).run P w=.ok v w'/\dJ bs ρ H r lo' v w':=by
 unfold LY at h;have l:=vh h; clear h; obtain⟨e,i,hu,u,h⟩:=l;have l:=tW h; clear h; obtain⟨k,m,rows,d,o,h,p,f,y⟩:=l;have e1:k=e:=by rw[hu]at d; cases d; rfl
 subst e1;have e2:m=i:=Option.some.inj (o.symm.trans u);subst e2;simp only at h;have h:=zG h;have h:=zK h;refine⟨_,_,h,zA.push _,fun Lw bs ρ H w eval s z=>?_⟩;obtain⟨xs,A,j,hone⟩:=y trivial ρ H w eval z;have a:(w.alloc (.cells xs.toArray k)).ownsRow 0 k m.size (.slice (some ⟨w.heap.size,0,none⟩) n n) (0+rows.length) ([]++xs):=by
  rw[jx,ju];refine⟨j.length,.inr ⟨w.heap.size,n,xs.toArray,by rw[p],jR _,heap_alloc_new w _,by rw[p]; exact jw _,f,by simp[j.length,p],?_⟩⟩;rw[← j.length];exact List.take_length
 obtain⟨c,sat⟩:=fq s (World.ownsRow_nil w 0 k m.size) (fun b B=>by simp[qI]at B) (fun g q=>by simp[qI]at q) (fun g q=>by simp[qI]at q) j.length (by simpa using hone) a (.inr ⟨rfl,gH w _ _⟩)
 simp only[jx,ju]at a sat c;exact⟨_,_,A,_,_,List.prefix_append _ _,c,sat,by simp[← s.hlen],ue j c a⟩
theorem DP {a:Bool} {E:Env} {lo:List AObj} {t:TypeId} {n:Nat} {qZ:List (Nat×Operand)} {R:FV->List AObj->Prop} (h:Nd P a E lo t n qZ R) :
  ∃ b lo',R b lo'/\zA true lo lo'/\∀ ⦃Lw:Nat⦄ (bs:(Base Lw)) (ρ:List Value) (H:(PH Lw)) (w:World) (eval:Operand->Value),SatW bs ρ H lo w->(∀ x∈qZ.map (·.2),qL ρ H (oT (qG E) x) (eval x)) ->
   ∃ v w',(Instr.buildSlice t n (qZ.map fun(i,x)=>(i,eval x)).toArray).run P w=.ok v w'/\dJ bs ρ H b lo' v w':=by
 cases a with
 | true=>exact Hu h
 | false=>exact Hv h
theorem Mb {src dst:TypeId} {lo:List AObj} {x:FV} {R:FV->List AObj->Prop} (h:RB P src dst lo x R) :
  ∃ f lo',R f lo'/\∀ ⦃Lw:Nat⦄ (bs:(Base Lw)) (ρ:List Value) (H:(PH Lw)) (w:World) (v:Value),SatW bs ρ H lo w->qL ρ H x v->∃ u w',(convert src dst v).run P w=.ok u w'/\dJ bs ρ H f lo' u w':=by
 unfold RB at h;split at h
 ·rename_i l
  split at h
  ·rename_i us m
   split at h
   ·rename_i e n
    split at h
    ·rename_i he
     have a:=zG h; clear h; have h:=a; clear a;have a:=zK h; clear h; have h:=a; clear a;refine⟨_,_,h,fun Lw bs ρ H w v s rx=>?_⟩;have ev:=mB rx;subst ev;refine⟨_,_,Lib.run_convert_string_bytes w src dst e ⟨l.toArray⟩ m n he,?_⟩;have d:Keep (fun b=>b=w.heap.size) w (Lib.bytesWorld w e ⟨l.toArray⟩):=by
      refine⟨?_,?_,?_,by rw[Lib.bytesWorld_size]; omega,fun k d _=>Lib.bytesWorld_at_old w e _ k d⟩<;>simp[Lib.bytesWorld,World.freeze,World.alloc,World.drew,-World.alloc_eq,-World.drew_eq]
     have hz:(⟨l.toArray⟩:ByteArray).size=l.length:=ByteArray.size_mk_toArray l;refine⟨ρ++[.slice (some ⟨w.heap.size,0,none⟩) (⟨l.toArray⟩:ByteArray).size (grownCap w (⟨l.toArray⟩:ByteArray).size 0 e)],H,List.prefix_append _ _,PH.le.refl H,?_,?_⟩
     ·refine s.push (g:=w.heap.size) (.inl rfl) (s.fresh (jw _)) (.inr s.keep.size) (PH.le.refl H) (s.sath.block d.size fun b o v p=>Lib.bytesWorld_at_old w e _ b (s.sath.lt p)) (fun b o v h=>.inl ⟨v,h⟩) d ?_
      refine⟨w.heap.size,_,e,_,_,_,by rw[hz],Lib.bytesWorld_at_new w e _,?_,?_,fun o=>?_⟩
      ·exact .inl (by simp[Lib.bytesCells])
      ·intro j c i
       have q:=(jG.1 i).1;simp only[Lib.bytesCells];rw[Array.getElem?_append_left (by simpa using q)];simp[i]
      cases r:H w.heap.size o with
      | none=>rfl
      | some x=>exact absurd (s.sath.lt r) (jQ _)
     ·simp only[qL]
      refine⟨by simp[← s.hlen],.inr ⟨w.heap.size,_,by rw[hz]⟩⟩
    exact h.elim
   exact h.elim
  exact h.elim
 exact h.elim
theorem Bm {bs:(Base Lw)} {ρ:List Value} {H:(PH Lw)} {lo:List AObj} (s:SatW bs ρ H lo w) {t ty e:TypeId} {i:TypeInfo} {O:Value} (hu:P.underlying t=some (.slice e)) (U:P.info? e=some i) (hz:i.zero=some O) (I:O.cells.size=i.size)
  {k0:Nat} {rows:List (List PV)} {v:Value} (J:lo[k0]? =some (.vec e i.size rows)) (K:ρ[k0]? =some v) {news:List (List PV)} {x:Value} (rx:qu H (.sl news) x) (A:∀ r∈news,r.length=i.size)
  (Q:(rows++news).length * i.bytes<=140737488355328) (B:(rows++news).length<=9223372036854775807) :
  ∃ v' w',(Builtin.append_ #[t,t] ty #[v,x]).run P w=.ok v' w'/\dJ bs ρ H (.vsl (lo.set k0 .dead).length (rows++news).length) (lo.set k0 .dead++[.vec e i.size (rows++news)]) v' w':=by
 obtain⟨xs,C,L,V,R⟩:=s.objs k0 _ _ J K;have run:∃ vs:List Value,fp H i.size news vs/\(∀ u∈vs,u.oneCell'=true) /\
   ((news.length=0/\x=.slice none 0 0)\/∃ a c,x=.slice (some a) news.length c/\∀ j u,vs[j]? =some u->w.cell? (a.add j)=some u):=by
  rcases tN rx A with ⟨rfl,ex|⟨X,D,ex⟩⟩|⟨b,o,cap,vs,ex,_,G,S⟩
  ·exact⟨[],rfl,by simp,.inl ⟨rfl,ex⟩⟩
  ·exact⟨[],rfl,by simp,.inr ⟨X,D,ex,fun j u hu=>by simp at hu⟩⟩
  exact⟨vs,G,fp.one s.sath S,.inr ⟨⟨b,o,none⟩,cap,ex,fun j u hu=>by rw[Addr.add_lit]; exact(s.sath.cell _ _ _ (S j u hu)).1⟩⟩
 obtain⟨vs,G,hone,M⟩:=run;rw[jb]at Q B;obtain⟨v',w',Y,n,Z⟩:=VH (P:=P) (w:=w) (ty:=ty) hu U hz I C G.length hone M B Q;refine⟨v',w',Y,?_⟩;have sk:=s.kill k0;have hfree:∀ g,qI v=some g->∀ (k:Nat) (o':AObj) (u:Value),(lo.set k0 .dead)[k]? =some o'->ρ[k]? =some u->o'.live=true->qI u≠some g:=by
  intro g hg k o' u m d T;rw[jF]at m;split at m
  ·split at m
   ·cases m; simp[AObj.live]at T
   cases m
  ·rename_i N
   exact s.excl k0 k _ o' _ u g J m K d N rfl T hg
 have hV:∀ {a b:List (List PV)} {us ws:List Value},fp H i.size a us->fp H i.size b ws->fp H i.size (a++b) (us++ws):=fun x y=>x.append y
 have p:∀ u∈xs++vs,u.oneCell'=true:=fun u d=>by
  rcases jy.1 d with h|h
  ·exact V u h
  exact hone u h
 have E:qL (ρ++[v']) H (.vsl (lo.set k0 .dead).length (rows++news).length) v':=by
  refine⟨by simp[← s.hlen],?_⟩;rw[jb];rcases n.2 with ⟨rfl,h0⟩|⟨g,cap,cur,rfl,_⟩
  ·exact .inl ⟨h0,rfl⟩
  exact .inr ⟨g,cap,rfl⟩
 have q:(∀ b,qI v'=some b->∀ o,H b o=none)->sD (ρ++[v']) H w' v' (.vec e i.size (rows++news)):=fun hn=>
  ⟨xs++vs,by rw[jb]; exact n,hV L G,p,hn⟩
 refine⟨ρ++[v'],H,List.prefix_append _ _,PH.le.refl H,?_,E⟩;rcases Z with ⟨e1,z,k2⟩|⟨e1,z⟩
 ·cases f:qI v with
  | none=>
   have hw:=k2 f;subst hw;rw[f]at e1;exact sk.push (g:=w'.heap.size) (.inr e1) (sk.fresh (jw _)) (.inr sk.keep.size) (PH.le.refl H) sk.sath (fun b o u hu=>.inl ⟨u,hu⟩) (Keep.refl _ _) (q (fun b l=>by rw[e1]at l; cases l))
  | some g=>
   rw[f]at e1;refine sk.push (g:=g) (.inl e1) (hfree g f) (s.own k0 _ _ g J K rfl f) (PH.le.refl H) (s.sath.block (z g f).size fun b o u d=>(z g f).block b (s.sath.lt d) (fun e=>by subst e; rw[R _ f o]at d; cases d)) (fun b o u hu=>.inl ⟨u,hu⟩) (z g f) (q (fun b l=>by rw[e1]at l; cases l; exact R _ f))
 have F:∀ o,H w.heap.size o=none:=fun o=>by
  cases hx:H w.heap.size o with
  | none=>rfl
  | some u=>exact absurd (s.sath.lt hx) (jQ _)
 refine sk.push (g:=w.heap.size) (.inl e1) (sk.fresh (jw _)) (.inr sk.keep.size) (PH.le.refl H) (s.sath.block z.size fun b o u d=>z.block b (s.sath.lt d) (fun e=>by have:=s.sath.lt d; omega)) (fun b o u hu=>.inl ⟨u,hu⟩) z (q (fun b l=>by rw[e1]at l; cases l; exact F))
theorem PD {bs:(Base Lw)} {ρ:List Value} {H:(PH Lw)} {lo:List AObj} (s:SatW bs ρ H lo w) {t ty e e2:TypeId} {i:TypeInfo} {M:Value} (hu:P.underlying t=some (.slice e)) (T:P.info? e=some i) (hz:i.zero=some M) (C:M.cells.size=i.size)
  {k0 j D z2:Nat} {rows d:List (List PV)} {r:List PV} {v:Value} (N:lo[k0]? =some (.vl e i.size rows j D)) (O:ρ[k0]? =some v) {news:List (List PV)} {x:Value} (rx:qu H (.sl news) x) (y:∀ r∈news,r.length=i.size)
  (z:rows++news=d\/FL (rows++news) d) (A:news=[r]) (E:r[j]? =some .nilsl) (F:d.length * i.bytes<=140737488355328) (G:d.length<=9223372036854775807) :
  ∃ v' w',(Builtin.append_ #[t,t] ty #[v,x]).run P w=.ok v' w'/\dJ bs ρ H (.vsl (lo.set k0 AObj.dead++[AObj.tail e2 z2 0]).length d.length) (lo.set k0 .dead++[AObj.tail e2 z2 0]++[.vl e i.size d j (lo.set k0 .dead).length]) v' w':=by
 have hlen:(rows++news).length=d.length:=by
  rcases z with h|h
  ·rw[h]
  exact bo h
 have m:k0<lo.length:=(jG.1 N).1;have s1:=s.view N rfl (o':=.vec e i.size rows) rfl (fun v hv ok=>iB ok)
 have s2:SatW bs (ρ++[.slice none 0 0]) H (lo.set k0 (.vec e i.size rows)++[.tail e2 z2 0]) w:=
  s1.push (g:=w.heap.size) (.inr rfl) (s1.fresh (jw _)) (.inr s1.keep.size) (PH.le.refl H) s1.sath (fun b o u hu=>.inl ⟨u,hu⟩) (Keep.refl _ _) ⟨[],World.ownsRow_nil w 0 e2 z2,fun b F=>by simp[qI]at F⟩
 have I:(lo.set k0 (.vec e i.size rows)++[AObj.tail e2 z2 0])[k0]? =some (.vec e i.size rows):=by
  rw[jB (by simpa using m)]; simp[m]
 have J:(ρ++[Value.slice none 0 0])[k0]? =some v:=by
  rw[jB (jG.1 O).1]; exact O
 obtain⟨v',w',U,ρ3,V,f,X,Q,K⟩:=Bm (ty:=ty) s2 hu T hz C I J rx y (by rw[hlen]; exact F) (by rw[hlen]; exact G);have B:(lo.set k0 (.vec e i.size rows)++[AObj.tail e2 z2 0]).set k0 .dead=lo.set k0 .dead++[.tail e2 z2 0]:=by
  rw[List.set_append_left _ _ (by simpa using m),List.set_set]
 rw[B]at Q K;have L:ρ3[(lo.set k0 AObj.dead).length]? =some (.slice none 0 0):=by
  obtain⟨l,rfl⟩:=f;rw[List.length_set,← s.hlen];simp
 have s4:=Q.view (k:=(lo.set k0 AObj.dead++[AObj.tail e2 z2 0]).length) (o:=.vec e i.size (rows++news)) (o':=.vl e i.size d j (lo.set k0 AObj.dead).length) (by simp) rfl rfl (fun u hu ok=>by
  obtain⟨xs,Y,R,Z,h4⟩:=ok;refine⟨xs,by rw[← hlen]; exact Y,R.le z,Z,h4,fun c hc=>?_⟩;rw[L];subst A;have n:(rows++[r])[d.length - 1]? =some r:=by
   rw[← hlen]; simp
  obtain⟨a,ra,ha⟩:=R.get n;obtain⟨q,hq,S⟩:=ra.get E;have:=ha j q hq;rw[hc]at this;cases this;simp only[qu]at S;rw[S])
 have p:(lo.set k0 AObj.dead++[AObj.tail e2 z2 0]++[AObj.vec e i.size (rows++news)]).set (lo.set k0 AObj.dead++[AObj.tail e2 z2 0]).length (.vl e i.size d j (lo.set k0 AObj.dead).length)=lo.set k0 .dead++[.tail e2 z2 0]++[.vl e i.size d j (lo.set k0 .dead).length]:=by
  rw[List.set_append_right _ _ (jw _),Nat.sub_self]; rfl
 rw[p]at s4;obtain⟨l,hl⟩:=f;rw[hlen]at K;exact⟨v',w',U,ρ3,V,⟨[.slice none 0 0]++l,by rw[← hl]; simp⟩,X,s4,K⟩
theorem VN {o:Oper} {E:Env} {lo:List AObj} {R:FV->List AObj->Prop} (h:ig P o.op E lo R):∃ fv lo',R fv lo'/\zA (FJ o.op) lo lo'/\uR P o (qG E) lo none fv lo':=by
 obtain⟨dst,op,ty,pos,after,guard⟩:=o;simp only at h;unfold ig at h;split at h
 ·
  rename_i t x;have v:=qB h; clear h; obtain⟨x',h,D⟩:=v;have v:=tA h; clear h; obtain⟨cs,h,hcs⟩:=v;split at h
  ·rename_i h1
   have h:=zG h;have h:=zK h;refine⟨_,_,h,zA.push _,fun l Lw bs ρ H w eval s B=>?_⟩;have rc:=hcs ρ H _ (D ρ H _ l (B x (by simp[kf])));simp only[execOp,Instr.box,ka,Zk,jZ,ke];refine⟨_,H,List.prefix_append _ _,PH.le.refl H,s.pushBox (t:=t) rc,?_⟩;exact⟨w.heap.size,by simp[← s.hlen],rfl⟩
  exact h.elim
 ·
  rename_i t;obtain⟨i,z,ps,S,hz,h,hps⟩:=VU h;have h:=sK h;split at h
  ·rename_i h1
   have h:=zG h;have h:=zK h;refine⟨_,_,h,zA.push _,fun l Lw bs ρ H w eval s B=>?_⟩;simp only[execOp,Instr.alloc,ka,zeroValue,typeInfo,run_program,S,hz,Zk,jZ,ke];refine⟨_,H,List.prefix_append _ _,PH.le.refl H,s.pushBox (t:=t) (zJ.of_RepL (hps H)),?_⟩;exact⟨w.heap.size,by simp[← s.hlen],rfl⟩
  exact h.elim
 ·
  rename_i t a x;have v:=qB h; clear h; obtain⟨a',h,ha'⟩:=v;have v:=qB h; clear h; obtain⟨x',h,D⟩:=v;split at h
  ·rename_i k off
   have v:=tA h; clear h; obtain⟨cs,h,hcs⟩:=v;split at h
   ·rename_i h1
    have h:=zG h;obtain⟨d,i,hd,S,h⟩:=vk h;split at h
    ·rename_i hn
     have hn:=Bn hn;have v:=zd h; clear h; obtain⟨ob,y,h⟩:=v;split at h
     ·rename_i bt cells
      obtain⟨h,hlen⟩:=ng h;obtain⟨h,T⟩:=xL h;refine⟨_,_,h,zA.set _ _,fun l Lw bs ρ H w eval s B=>?_⟩;obtain⟨b,G,e⟩:=ha' ρ H _ l (B a (by simp[kf]));have rc:=hcs ρ H _ (D ρ H _ l (B x (by simp[kf])));obtain⟨b',vs,e',hg',O,hH⟩:=s.objs k _ _ y G;cases e';have hsz:(eval x).cells.size=cs.length:=by have:=rc.length; simpa using this
      have J:=Ug (P:=P) (w:=w) (t:=t) (bt:=bt) S hg' (x:=eval x) (off:=off) (by omega) (by rw[O.length]; omega) (Fm h1 rc);simp only[execOp,e,ka,J,jZ,ke];refine⟨ρ,H,jq _,PH.le.refl H,s.setBox y G hg' hH ?_,by simp[qL,qu,qU,undef]⟩;rw[hsz];exact((O.take off).append rc).append (O.drop _)
     exact h.elim
    exact h.elim
   exact h.elim
  ·rename_i k z i off
   have v:=DU h; clear h; obtain⟨fv,lo',h,hl,hs⟩:=v;refine⟨fv,lo',h,zA.len hl,fun l Lw bs ρ H w eval s B=>?_⟩;obtain⟨w',J,af⟩:=hs bs ρ H w _ _ s (ha' ρ H _ l (B a (by simp[kf]))) (D ρ H _ l (B x (by simp[kf])));simp only[execOp,ka,J,jZ,ke];exact af
  exact h.elim
 ·
  rename_i sx xx t t';split at h
  ·rename_i htt
   have htt:=Bn htt;subst htt;have v:=qB h; clear h; obtain⟨s',h,Q⟩:=v;have v:=qB h; clear h; obtain⟨x',h,D⟩:=v;have v:=FW h; clear h; obtain⟨news,h,I⟩:=v;split at h
   ·rename_i k0 n0
    unfold Nc at h;have v:=vh h; clear h; obtain⟨e,i,hu,S,h⟩:=v;split at h
    ·exact h.elim
    split at h
    ·rename_i i' hi'
     have:i'=i:=Option.some.inj (hi'.symm.trans S);subst this;split at h
     ·rename_i zv M
      split at h
      ·rename_i K
       have K:=Bn K;have v:=zd h; clear h; obtain⟨ob,y,h⟩:=v;split at h
       ·rename_i e' z' rows
        obtain⟨rows',⟨rfl,he,hz,q,G,F⟩,h⟩:=h;subst he; subst hz;obtain⟨h,hk0⟩:=xL h;have h:=zG h;have h:=zK h;refine⟨_,_,h,zA.kill _ y rfl,fun l Lw bs ρ H w eval s B=>?_⟩;obtain⟨hρ,_⟩:=Q ρ H _ l (B sx (by simp[kf,kg]));have rx:=I ρ H _ (D ρ H _ l (B xx (by simp[kf,kg])));obtain⟨v',w',J,af⟩:=Bm (ty:=ty) s hu S M K y hρ rx q G F;simp only[execOp,resolve,invoke,builtin,ka,ke,jZ,jY,jk,jN,J];rw[jx];exact af
       ·rename_i e' z' rows j kt0
        obtain⟨rows',r,e2,z2,⟨p,⟨hnew,hrj⟩,rfl,rfl,q,G,F⟩,h⟩:=h;obtain⟨h,hk0⟩:=xL h;have h:=zG h;have h:=zK h;have h:=zG h;have h:=zK h;refine⟨_,_,h,zA.trans (zA.kill _ y rfl) (zA.push _),fun l Lw bs ρ H w eval s B=>?_⟩;obtain⟨hρ,_⟩:=Q ρ H _ l (B sx (by simp[kf,kg]));have rx:=I ρ H _ (D ρ H _ l (B xx (by simp[kf,kg])));obtain⟨v',w',J,af⟩:=PD (ty:=ty) (e2:=e2) (z2:=z2) s hu S M K y hρ rx q p hnew hrj G F;simp only[execOp,resolve,invoke,builtin,ka,ke,jZ,jY,jk,jN,J];simp only[jx];exact af
       exact h.elim
      exact h.elim
     exact h.elim
    exact h.elim
   have v:=vh h; clear h; obtain⟨e,i,hu,S,h⟩:=v;split at h
   ·exact h.elim
   split at h
   ·rename_i i' hi'
    have:i'=i:=Option.some.inj (hi'.symm.trans S);subst this;split at h
    ·rename_i zv M
     split at h
     ·rename_i K
      have K:=Bn K;split at h
      ·
       obtain⟨⟨q,G,F⟩,h⟩:=h;have h:=zG h;have h:=zK h;refine⟨_,_,h,zA.push _,fun l Lw bs ρ H w eval s B=>?_⟩;have es:eval sx=.slice none 0 0:=by
        have:=Q ρ H _ l (B sx (by simp[kf,kg]));simpa[qL,qu]using this
       have rx:=I ρ H _ (D ρ H _ l (B xx (by simp[kf,kg])));have run:∃ vs:List Value,fp H i'.size news vs/\(∀ u∈vs,u.oneCell'=true) /\
         ((news.length=0/\eval xx=.slice none 0 0)\/∃ a c,eval xx=.slice (some a) news.length c/\∀ j u,vs[j]? =some u->w.cell? (a.add j)=some u):=by
        rcases tN rx q with ⟨rfl,ex|⟨a',U,ex⟩⟩|⟨b,o,cap,vs,ex,_,N,hc⟩
        ·exact⟨[],rfl,by simp,.inl ⟨rfl,ex⟩⟩
        ·exact⟨[],rfl,by simp,.inr ⟨a',U,ex,fun j u hu=>by simp at hu⟩⟩
        exact⟨vs,N,fp.one s.sath hc,.inr ⟨⟨b,o,none⟩,cap,ex,fun j u hu=>by rw[Addr.add_lit]; exact(s.sath.cell _ _ _ (hc j u hu)).1⟩⟩
       obtain⟨vs,N,hone,hxx⟩:=run;obtain⟨v',w',J,f,T⟩:=VH (P:=P) (w:=w) (ty:=ty) hu S M K (World.ownsRow_nil w 0 e i'.size) N.length hone hxx (by omega) (by simpa using G);obtain⟨p,sat⟩:=fq s (World.ownsRow_nil w 0 e i'.size) (fun b G=>by simp[qI]at G) (fun g l=>by simp[qI]at l) (fun g l=>by simp[qI]at l) N.length (by simpa using hone) f T
       simp only[execOp,resolve,invoke,builtin,ka,ke,jZ,jY,jk,jN,es,J];simp only[jx,ju]at f sat p;refine⟨_,_,List.prefix_append _ _,p,sat,by simp[← s.hlen],ue N p f⟩
      ·
       rename_i k0 rows _;obtain⟨⟨q,G,F⟩,h⟩:=h;have v:=zd h; clear h; obtain⟨ob,y,h⟩:=v;split at h
       ·rename_i e' z' n
        obtain⟨⟨he,hz,hn⟩,h⟩:=h;subst he; subst hz; subst hn;obtain⟨h,hk0⟩:=xL h;have h:=zG h;have h:=zK h;refine⟨_,_,h,zA.kill _ y rfl,fun l Lw bs ρ H w eval s B=>?_⟩;have rs:=Q ρ H _ l (B sx (by simp[kf,kg]));obtain⟨L,V⟩:=rs;have rx:=I ρ H _ (D ρ H _ l (B xx (by simp[kf,kg])));obtain⟨xs,A,hxs⟩:=s.objs k0 _ _ y L;have run:∃ vs:List Value,fp H i'.size news vs/\(∀ u∈vs,u.oneCell'=true) /\
          ((news.length=0/\eval xx=.slice none 0 0)\/∃ a c,eval xx=.slice (some a) news.length c/\∀ j u,vs[j]? =some u->w.cell? (a.add j)=some u):=by
         rcases tN rx (fun r J=>q r (by simp[J]))with ⟨rfl,ex|⟨a',U,ex⟩⟩|⟨b,o,cap,vs,ex,_,N,hc⟩
         ·exact⟨[],rfl,by simp,.inl ⟨rfl,ex⟩⟩
         ·exact⟨[],rfl,by simp,.inr ⟨a',U,ex,fun j u hu=>by simp at hu⟩⟩
         exact⟨vs,N,fp.one s.sath hc,.inr ⟨⟨b,o,none⟩,cap,ex,fun j u hu=>by rw[Addr.add_lit]; exact(s.sath.cell _ _ _ (hc j u hu)).1⟩⟩
        obtain⟨vs,N,hone,hxx⟩:=run;have old:fp H i'.size rows xs/\∀ u∈xs,u.oneCell'=true:=by
         rcases tN V (fun r J=>q r (by simp[J]))with ⟨rfl,ex⟩|⟨b,o,cap,us,ex,_,hv',hc⟩
         ·have:xs=[]:=jI (by simpa using A.1)
          subst this;exact⟨rfl,by simp⟩
         have X:qI (eval sx)=some b:=by rw[ex]; rfl
         have ho:o=0:=by
          rcases A.2 with ⟨e1,_⟩|⟨g,U,cur,e1,_⟩
          ·rw[ex]at e1; cases e1
          rw[ex]at e1; injection e1 with e1; injection e1 with e1; injection e1
         subst ho;have:xs=us:=by
          refine List.ext_getElem? fun j=>?_;have l1:xs.length=us.length:=by rw[A.1,hv'.length]
          rcases Nat.lt_or_ge j xs.length with hj|hj
          ·have h1:=(hxs b X).1 j _ (jf hj)
           have h2:=hc j _ (jf (show j<us.length by omega));rw[jx]at h2;rw[jf hj,jf (show j<us.length by omega),← h1,← h2]
          rw[List.getElem?_eq_none hj,List.getElem?_eq_none (by omega)]
         subst this;exact⟨hv',fp.one s.sath hc⟩
        obtain⟨hvo,Y⟩:=old;obtain⟨v',w',J,f,T⟩:=VH (P:=P) (w:=w) (ty:=ty) hu S M K A N.length hone hxx (by rw[jb]at F; exact F) (by rw[jb]at G; exact G);have sk:=s.kill k0;obtain⟨p,sat⟩:=fq sk A hxs (fun g l k o' u C Z hl=>by
          rw[jF]at C;split at C
          ·first
            | (cases C; simp[AObj.live]at hl; done)
            | (split at C<;>first|(cases C; done)|(cases C; simp[AObj.live]at hl))
          ·rename_i hne
           exact s.excl k0 k _ o' _ u g y C L Z hne rfl hl l)
         (fun g l=>s.own k0 _ _ g y L rfl l) N.length (fun u Z=>by
          rcases jy.1 Z with h|h
          ·exact Y u h
          exact hone u h) f T
        simp only[execOp,resolve,invoke,builtin,ka,ke,jZ,jY,jk,jN,J];refine⟨_,_,List.prefix_append _ _,p,by rw[jb]; exact sat,?_,ue (hvo.append N) p (by rw[jb]; exact f)⟩;have:(0+(lo.set k0 AObj.dead).length)=ρ.length:=by simp[s.hlen]
        rw[this];simp
       exact h.elim
      ·
       rename_i rows _;obtain⟨⟨q,G,F⟩,own,h⟩:=h;cases own with
       | true=>
        obtain⟨hne,h⟩:=h;have h:=zG h;have h:=zK h;refine⟨_,_,h,zA.push _,fun l Lw bs ρ H w eval s B=>?_⟩;obtain⟨V,hp⟩:=Q ρ H _ l (B sx (by simp[kf,kg]));have rx:=I ρ H _ (D ρ H _ l (B xx (by simp[kf,kg])));obtain⟨v',w',J,⟨v,_⟩|⟨ys,N,hone,f,X,T⟩⟩:=PT (P:=P) (ty:=ty) s.sath hu S M K V hp rx q F G
        ·exact absurd v hne
        obtain⟨p,sat⟩:=fq (m:=(rows++news).length) (news:=ys) s (World.ownsRow_nil w 0 e i'.size) (fun b G=>by simp[qI]at G) (fun g l=>by simp[qI]at l) (fun g l=>by simp[qI]at l) N.length (by simpa using hone) (by simpa using f) (.inr ⟨X,T⟩)
        simp only[execOp,resolve,invoke,builtin,ka,ke,jZ,jY,jk,jN,J];simp only[jx,ju]at sat p;refine⟨_,_,List.prefix_append _ _,p,sat,by simp[← s.hlen],ue N p f⟩
       | false=>
        obtain⟨rows',rfl,h⟩:=h;refine⟨_,_,h,zA.refl _,fun l Lw bs ρ H w eval s B=>?_⟩;obtain⟨V,hp⟩:=Q ρ H _ l (B sx (by simp[kf,kg]));have rx:=I ρ H _ (D ρ H _ l (B xx (by simp[kf,kg])));obtain⟨v',w',J,⟨rfl,rfl,rfl⟩|⟨ys,N,hone,f,X,T⟩⟩:=PT (P:=P) (ty:=ty) s.sath hu S M K V hp rx q F G
        ·simp only[execOp,resolve,invoke,builtin,ka,ke,jZ,jY,jk,jN,J]
         refine⟨ρ,H,jq _,PH.le.refl H,s,?_⟩;simp only[qL,List.append_nil];exact V
        obtain⟨p,sat⟩:=fq (m:=(rows++news).length) (news:=ys) s (World.ownsRow_nil w 0 e i'.size) (fun b G=>by simp[qI]at G) (fun g l=>by simp[qI]at l) (fun g l=>by simp[qI]at l) N.length (by simpa using hone) (by simpa using f) (.inr ⟨X,T⟩)
        simp only[ju]at sat p;have calm:Calm H w (xk H v' ys) w':=⟨p,sat.sath,⟨T.os,T.tape,T.output,T.size,fun k hk1 _=>T.block k hk1 (by omega)⟩,fun b o u hu=>by
         unfold xk at hu;split at hu
         ·rename_i hc
          rw[X]at hc;exact .inr (by have:=Option.some.inj hc.1; omega)
         exact .inl ⟨u,hu⟩⟩
        simp only[execOp,resolve,invoke,builtin,ka,ke,jZ,jY,jk,jN,J];exact⟨ρ,_,jq _,p,s.calm calm,ue N p f⟩
      exact h.elim
     exact h.elim
    exact h.elim
   exact h.elim
  have v:=qB h; clear h; obtain⟨s',h,Q⟩:=v;have v:=qB h; clear h; obtain⟨x',h,D⟩:=v;split at h
  case h_2=>exact h.elim
  rename_i str;split at h
  case h_2=>exact h.elim
  rename_i hut;have v:=vh h; clear h; obtain⟨e,i,hu,S,h⟩:=v;split at h
  case h_2=>exact h.elim
  rename_i hz1;have hz1:=Bn hz1;split at h
  case h_2=>exact h.elim
  rename_i i' hi';have:i'=i:=Option.some.inj (hi'.symm.trans S);subst this;split at h
  case h_2=>exact h.elim
  rename_i M;have hbl:(qp str).length=str.length:=by simp[qp]
  split at h
  ·obtain⟨⟨G,F⟩,h⟩:=h
   have h:=zG h;have h:=zK h;refine⟨_,_,h,zA.push _,fun l Lw bs ρ H w eval s B=>?_⟩;have es:eval sx=.slice none 0 0:=by
    have:=Q ρ H _ l (B sx (by simp[kf,kg]));simpa[qL,qu]using this
   have ex:=mB (D ρ H _ l (B xx (by simp[kf,kg])));obtain⟨v',w',J,f,T⟩:=sE (P:=P) (w:=w) (ty:=ty) hu hut S M hz1 (World.ownsRow_nil w 0 e 1) str (by omega) (by rw[hbl]at G; simpa using G);have N:=LH H str;obtain⟨p,sat⟩:=fq s (World.ownsRow_nil w 0 e 1) (fun b G=>by simp[qI]at G) (fun g l=>by simp[qI]at l) (fun g l=>by simp[qI]at l) (by rw[Lib.strCells_length,pR,Nat.mul_one]) (by simpa using Lib.strCells_oneCell _) f T
   simp only[execOp,resolve,invoke,builtin,ka,ke,jZ,jY,jk,jN,es,ex,J];simp only[jx,ju]at f sat p;refine⟨_,_,List.prefix_append _ _,p,by rw[hz1,hbl]; exact sat,by simp[← s.hlen],ue N p (by rw[hbl]; exact f)⟩
  ·rename_i k0 rows
   obtain⟨⟨q,G,F⟩,h⟩:=h;have v:=zd h; clear h; obtain⟨ob,y,h⟩:=v;split at h
   case h_2=>exact h.elim
   rename_i e' z' n;obtain⟨⟨he,hz,hn⟩,h⟩:=h;subst he; subst hz; subst hn;obtain⟨h,hk0⟩:=xL h;have h:=zG h;have h:=zK h;refine⟨_,_,h,zA.kill _ y rfl,fun l Lw bs ρ H w eval s B=>?_⟩;have rs:=Q ρ H _ l (B sx (by simp[kf,kg]));obtain⟨L,V⟩:=rs;have ex:=mB (D ρ H _ l (B xx (by simp[kf,kg])));obtain⟨xs,A,hxs⟩:=s.objs k0 _ _ y L;have old:fp H 1 rows xs/\∀ u∈xs,u.oneCell'=true:=by
    rcases tN V q with ⟨rfl,ex⟩|⟨b,o,cap,us,ex,_,hv',hc⟩
    ·have:xs=[]:=jI (by simpa using A.1)
     subst this;exact⟨rfl,by simp⟩
    have X:qI (eval sx)=some b:=by rw[ex]; rfl
    have ho:o=0:=by
     rcases A.2 with ⟨e1,_⟩|⟨g,U,cur,e1,_⟩
     ·rw[ex]at e1; cases e1
     rw[ex]at e1; injection e1 with e1; injection e1 with e1; injection e1
    subst ho;have:xs=us:=by
     refine List.ext_getElem? fun j=>?_;have l1:xs.length=us.length:=by rw[A.1,hv'.length]
     rcases Nat.lt_or_ge j xs.length with hj|hj
     ·have h1:=(hxs b X).1 j _ (jf hj)
      have h2:=hc j _ (jf (show j<us.length by omega));rw[jx]at h2;rw[jf hj,jf (show j<us.length by omega),← h1,← h2]
     rw[List.getElem?_eq_none hj,List.getElem?_eq_none (by omega)]
    subst this;exact⟨hv',fp.one s.sath hc⟩
   obtain⟨hvo,Y⟩:=old;rw[jb,hbl]at G F;obtain⟨v',w',J,f,T⟩:=sE (P:=P) (w:=w) (ty:=ty) hu hut S M hz1 A str F G;have N:=LH H str;have sk:=s.kill k0;obtain⟨p,sat⟩:=fq sk A hxs (fun g l k o' u C Z hl=>by
     rw[jF]at C;split at C
     ·first
       | (cases C; simp[AObj.live]at hl; done)
       | (split at C<;>first|(cases C; done)|(cases C; simp[AObj.live]at hl))
     ·rename_i hne
      exact s.excl k0 k _ o' _ u g y C L Z hne rfl hl l)
    (fun g l=>s.own k0 _ _ g y L rfl l) (by rw[Lib.strCells_length,pR,Nat.mul_one]) (fun u Z=>by
     rcases jy.1 Z with h|h
     ·exact Y u h
     exact Lib.strCells_oneCell _ u h) f T
   simp only[execOp,resolve,invoke,builtin,ka,ke,jZ,jY,jk,jN,ex,J];refine⟨_,_,List.prefix_append _ _,p,by rw[hz1,jb,hbl]; exact sat,?_,ue (hvo.append N) p (by rw[jb,hbl]; exact f)⟩;have:(0+(lo.set k0 AObj.dead).length)=ρ.length:=by simp[s.hlen]
   rw[this];simp
  exact h.elim
 exact Me (o:=⟨dst,_,ty,pos,after,guard⟩) h
end
end Ax
end
section
namespace Ax
open Go
variable {Lw:Nat}
section
variable {P:Program} {w:World}
theorem SatW.publishN {bs:(Base Lw)} {ρ:List Value} {H:(PH Lw)} {lo:List AObj} {w:World} (s:SatW bs ρ H lo w) {k:Nat} {e:TypeId} {z:Nat} {rows:List (List PV)} {v:Value} (n:lo[k]? =some (.vec e z rows)) (p:ρ[k]? =some v) :
  ∃ H',PH.le H H'/\SatW bs ρ H' (lo.set k .dead) w/\qu H' (.sl rows) v/\∀ b o,H b o=none->H' b o=none\/qI v=some b:=by
 obtain⟨xs,a,y,A,B⟩:=s.objs k _ _ n p;rcases a.2 with ⟨rfl,C⟩|⟨g,cap,cur,j,_,G,D,_⟩
 ·have:rows=[]:=jI C
  subst this;exact⟨H,PH.le.refl H,s.kill k,by simp[qu],fun _ _ h=>.inl h⟩
 have q:qI v=some g:=by rw[j]; rfl
 have d:PH.le H (xk H v xs):=by
  intro b o u hu;unfold xk;split
  ·rename_i c
   rw[q]at c;obtain⟨e1,_⟩:=c;cases e1;rw[B g q o]at hu;cases hu
  ·exact hu
 have sk:=s.kill k;refine⟨xk H v xs,d,?_,ue y d a,fun b o h=>?_⟩
 rotate_left
 ·unfold xk
  split
  ·rename_i c; exact .inr c.1
  exact .inl h
 refine{ sath:=⟨fun b o u hu=>?_,s.sath.root.mono d,s.sath.low,fun b o u hu E=>by
  by_cases l:qI v=some b
  ·exact .own a l
  unfold xk at hu;rw[if_neg (fun c=>l c.1)]at hu
  exact s.sath.nf b o u hu E⟩,hlen:=sk.hlen,pre:=sk.pre,objs:=fun i oi vi f m=>?_,excl:=sk.excl,own:=sk.own,keep:=sk.keep,leH:=sk.leH.trans d,newH:=fun b o u hu=>?_ }
 ·unfold xk at hu
  split at hu
  ·rename_i c
   rw[q]at c;obtain⟨e1,_⟩:=c;cases e1;have:=a.cells (g:=g) (by rw[j]; rfl) o u hu;rw[Addr.add_lit,jx]at this;exact⟨this,A u (List.mem_of_getElem? hu)⟩
  exact s.sath.cell b o u hu
 ·rw[jF]at f
  split at f
  ·split at f
   ·cases f; trivial
   cases f
  ·rename_i r
   cases x:oi.live with
   | false=>cases oi<;>simp[AObj.live]at x; trivial
   | true=>
    refine(s.objs i oi vi f m).keep (jq _) d (fun _ _ _=>rfl) (fun b o' t _ F=>?_)
    unfold xk;rw[if_neg (fun c=>s.excl k i _ oi _ vi b n f p m r rfl x c.1 t)]
    exact F
 unfold xk at hu;split at hu
 ·rename_i c
  exact .inr (s.own k _ v b n p rfl c.1)
 exact s.newH b o u hu
theorem SatW.publish {bs:(Base Lw)} {ρ:List Value} {H:(PH Lw)} {lo:List AObj} {w:World} (s:SatW bs ρ H lo w) {k:Nat} {e:TypeId} {z:Nat} {rows:List (List PV)} {v:Value} (d:lo[k]? =some (.vec e z rows)) (f:ρ[k]? =some v) :
  ∃ H',PH.le H H'/\SatW bs ρ H' (lo.set k .dead) w/\qu H' (.sl rows) v:=
 let ⟨H',a,b,c,_⟩:=s.publishN d f
 ⟨H',a,b,c⟩
def RI (P:Program) (own grow:Bool) (lo:List AObj) (t:TypeId) (l c:FV) (R:FV->List AObj->Prop):Prop:=
 match l with
 | .p (.int _ l)=>match c with
  | .p (.int _ c)=>Zz P t fun e z=>match P.info? e with
   | some i=>SF P e fun a=>match own with
    | false=>match grow with
     | false=>∃ n:Nat,(l=0/\c=n/\n * i.bytes<=140737488355328/\n<=9223372036854775807)/\Zg lo 0 fun k=>mC lo (.tail e z 0) fun lo=>R (.tsl k []) lo
     | true=>∃ (n:Nat) (rows:List (List PV)),(l=n/\c=n/\n * i.bytes<=140737488355328/\n<=9223372036854775807/\(List.replicate n a=rows\/FL (List.replicate n a) rows)/\a.length=z/\z≠0/\a.all Eo=true) /\
       mC lo .dead fun lo=>R (.p (.sl rows)) lo
    | true=>match grow with
     | false=>∃ (n:Nat) (rows:List (List PV)),(l=n/\c=n/\n * i.bytes<=140737488355328/\n<=9223372036854775807/\(List.replicate n a=rows\/FL (List.replicate n a) rows)/\a.length=z/\z≠0/\a.all Eo=true) /\
       Zg lo 0 fun k=>mC lo (.vec e z rows) fun lo=>R (.vsl k rows.length) lo
     | true=>(l=1/\c=1/\i.bytes<=140737488355328/\a.length=z/\z≠0)/\Tk a fun cs=>match XK cs with
      | true=>Zg lo 0 fun k=>mC lo (.box e cs) fun lo=>R (.bsl k 0 1 1) lo
      | false=>False
   | none=>False
  | _=>False
 | _=>False
theorem HD (z:Array Value) (n:Nat) (hz:z.size≠0):(madeCells z ((n+1) * z.size)).toList=z.toList++(madeCells z (n * z.size)).toList:=by
 unfold madeCells;simp only[Array.toList_map,Array.toList_range];rw[Nat.add_mul,Nat.one_mul,Nat.add_comm (n * z.size),List.range_add,List.map_append,List.map_map];congr 1
 ·refine List.ext_getElem? fun j=>?_
  simp only[List.getElem?_map,List.getElem?_range];by_cases a:j<z.size
  ·simp[List.getElem?_range a,a,Nat.mod_eq_of_lt a]
  have b:z.toList[j]? =none:=by simp; omega
  rw[b];simp; omega
 refine List.map_congr_left fun j _=>?_;simp[Nat.add_mod_left]
theorem FH {H:(PH Lw)} {a:List PV} {b:Value} (c:qU H a b.cells.toList) (d:a.length≠0):∀ n:Nat,fp H a.length (List.replicate n a) (madeCells b.cells (n * b.cells.size)).toList
 | 0=>by simp[fp,madeCells]
 | n+1=>by
  have e:=c.length;have hz:b.cells.size≠0:=by simp at e; omega
  rw[HD _ _ hz,List.replicate_succ];exact⟨rfl,_,_,rfl,c,FH c d n⟩
theorem Mj {own grow:Bool} {lo:List AObj} {t:TypeId} {l c:FV} {R:FV->List AObj->Prop} (h:RI P own grow lo t l c R) :
  ∃ Y lo',R Y lo'/\zA true lo lo'/\∀ ⦃Lw:Nat⦄ (bs:(Base Lw)) (ρ:List Value) (H:(PH Lw)) (w:World) (vl vc:Value),SatW bs ρ H lo w->qL ρ H l vl->qL ρ H c vc ->
   ∃ v w',(Instr.makeSlice t vl vc).run P w=.ok v w'/\dJ bs ρ H Y lo' v w':=by
 unfold RI at h;split at h
 case h_2=>exact h.elim
 rename_i I l;split at h
 case h_2=>exact h.elim
 rename_i J c;have p:=vh h; clear h; obtain⟨e,i,hu,E,h⟩:=p;rw[E]at h;have p:=VU h; clear h; obtain⟨d,a,zs,U,hz,h,q⟩:=p;obtain rfl:d=i:=Option.some.inj (U.symm.trans E);split at h
 ·split at h
  ·have p:=h; clear h; obtain⟨n,⟨rfl,rfl,B,C⟩,h⟩:=p
   have h:=zG h;have h:=zK h;refine⟨_,_,h,zA.push _,fun Lw bs ρ H w vl vc s K rc=>?_⟩;rw[xi K,xi rc];obtain⟨w',G,r,Z⟩:=run_make_own (P:=P) w 0 t e d a d.size hu E hz rfl I J n (by rw[Nat.mul_comm]; omega) C (jR _);have f:=run_make (P:=P) w t e d a hu E hz I J 0 n (Int.le_refl _) (by omega) (by
    have:((d.bytes * n:Nat):Int)<=281474976710656:=by rw[Nat.mul_comm]; omega
    rwa [Int.natCast_mul]at this) (by omega)
   simp only[Int.toNat_zero,jS]at f;have hw:w'=w.alloc (.cells (madeCells a.cells (n * d.size)) e):=by
    rw[G]at f
    injection f
   subst hw;refine⟨_,_,G,ρ++[.slice (some ⟨w.heap.size,0,none⟩) 0 n],H,List.prefix_append _ _,PH.le.refl H,?_,?_⟩
   ·refine s.push (g:=w.heap.size) (.inl rfl) (s.fresh (jw _)) (.inr s.keep.size) (PH.le.refl H) (gJ s.sath _) (fun b o v h=>.inl ⟨v,h⟩) (gH w _ _) ?_
    refine⟨[],r,fun b B=>⟨fun j u hu=>by simp at hu,fun o _=>?_⟩⟩
    simp only[qI,Option.some.injEq]at B;subst B;cases M:H w.heap.size o with
    | none=>rfl
    | some x=>exact absurd (s.sath.lt M) (jQ _)
   ·refine⟨by simp[← s.hlen],?_⟩
    simp only[qu];exact .inl ⟨trivial,.inr ⟨_,_,rfl⟩⟩
  have p:=h; clear h; obtain⟨n,rows,⟨rfl,rfl,B,C,m,F,N,hone⟩,h⟩:=p;have h:=zK h;refine⟨_,_,h,zA.push _,fun Lw bs ρ H w vl vc s K rc=>?_⟩;rw[xi K,xi rc];have D:a.cells.size=d.size:=by have:=(q H).length; simp at this; omega
  obtain⟨w',G,r,Z⟩:=run_make_full (P:=P) w 0 t e d a d.size hu E hz rfl I J n (by rw[Nat.mul_comm]; omega) C (jR _);have f:=run_make (P:=P) w t e d a hu E hz I J n n (by omega) (Int.le_refl _) (by
   have:((d.bytes * n:Nat):Int)<=281474976710656:=by rw[Nat.mul_comm]; omega
   rwa [Int.natCast_mul]at this) (by omega)
  simp only[jS]at f;have hw:w'=w.alloc (.cells (madeCells a.cells (n * d.size)) e):=by
   rw[G]at f
   injection f
  subst hw;have hlen:rows.length=n:=by
   rcases m with rfl|m
   ·simp
   have:=bo m; simpa using this.symm
  have y:=FH (q H) (by omega) n;have L:fp H d.size rows (madeCells a.cells (n * d.size)).toList:=by
   rw[D,F]at y;exact fp.le m y
  have T:∀ u∈(madeCells a.cells (n * d.size)).toList,u.oneCell'=true:=by
   intro u A;unfold madeCells at A;simp only[Array.toList_map,List.mem_map]at A;obtain⟨j,_,rfl⟩:=A;have V:j % a.cells.size<a.cells.size:=Nat.mod_lt _ (by omega);have hm:a.cells[j % a.cells.size]! ∈a.cells.toList:=by
    rw[getElem!_pos a.cells _ V];simp
   exact qU.one (fun c X=>(List.all_eq_true.1 hone) c X) (q H) _ hm
  have sp:SatW bs (ρ++[.slice (some ⟨w.heap.size,0,none⟩) n n]) H (lo++[.vec e d.size rows]) (w.alloc (.cells (madeCells a.cells (n * d.size)) e)):=by
   refine s.push (g:=w.heap.size) (.inl rfl) (s.fresh (jw _)) (.inr s.keep.size) (PH.le.refl H) (gJ s.sath _) (fun b o v h=>.inl ⟨v,h⟩) (gH w _ _) ?_;refine⟨_,by rw[hlen]; exact r,L,T,fun b B o=>?_⟩;simp only[qI,Option.some.injEq]at B;subst B;cases M:H w.heap.size o with
   | none=>rfl
   | some x=>exact absurd (s.sath.lt M) (jQ _)
  obtain⟨H',O,Q,rp⟩:=sp.publish (k:=lo.length) (e:=e) (z:=d.size) (rows:=rows) (v:=.slice (some ⟨w.heap.size,0,none⟩) n n) (by simp) (by simp[← s.hlen]);have S:(lo++[AObj.vec e d.size rows]).set lo.length .dead=lo++[.dead]:=by simp
  rw[S]at Q;exact⟨_,_,G,_,H',List.prefix_append _ _,O,Q,rp⟩
 split at h
 ·have p:=h; clear h; obtain⟨n,rows,⟨rfl,rfl,B,C,m,F,N,hone⟩,h⟩:=p
  have h:=zG h;have h:=zK h;refine⟨_,_,h,zA.push _,fun Lw bs ρ H w vl vc s K rc=>?_⟩;rw[xi K,xi rc];have D:a.cells.size=d.size:=by have:=(q H).length; simp at this; omega
  obtain⟨w',G,r,Z⟩:=run_make_full (P:=P) w 0 t e d a d.size hu E hz rfl I J n (by rw[Nat.mul_comm]; omega) C (jR _);have f:=run_make (P:=P) w t e d a hu E hz I J n n (by omega) (Int.le_refl _) (by
   have:((d.bytes * n:Nat):Int)<=281474976710656:=by rw[Nat.mul_comm]; omega
   rwa [Int.natCast_mul]at this) (by omega)
  simp only[jS]at f;have hw:w'=w.alloc (.cells (madeCells a.cells (n * d.size)) e):=by
   rw[G]at f
   injection f
  subst hw;have hlen:rows.length=n:=by
   rcases m with rfl|m
   ·simp
   have:=bo m; simpa using this.symm
  have y:=FH (q H) (by omega) n;have L:fp H d.size rows (madeCells a.cells (n * d.size)).toList:=by
   rw[D,F]at y;exact fp.le m y
  have T:∀ u∈(madeCells a.cells (n * d.size)).toList,u.oneCell'=true:=by
   intro u A;unfold madeCells at A;simp only[Array.toList_map,List.mem_map]at A;obtain⟨j,_,rfl⟩:=A;have V:j % a.cells.size<a.cells.size:=Nat.mod_lt _ (by omega);have hm:a.cells[j % a.cells.size]! ∈a.cells.toList:=by
    rw[getElem!_pos a.cells _ V];simp
   exact qU.one (fun c X=>(List.all_eq_true.1 hone) c X) (q H) _ hm
  refine⟨_,_,G,ρ++[.slice (some ⟨w.heap.size,0,none⟩) n n],H,List.prefix_append _ _,PH.le.refl H,?_,?_⟩
  ·refine s.push (g:=w.heap.size) (.inl rfl) (s.fresh (jw _)) (.inr s.keep.size) (PH.le.refl H) (gJ s.sath _) (fun b o v h=>.inl ⟨v,h⟩) (gH w _ _) ?_
   refine⟨_,by rw[hlen]; exact r,L,T,fun b B o=>?_⟩;simp only[qI,Option.some.injEq]at B;subst B;cases M:H w.heap.size o with
   | none=>rfl
   | some x=>exact absurd (s.sath.lt M) (jQ _)
  ·exact⟨by simp[← s.hlen],.inr ⟨w.heap.size,n,by rw[hlen]⟩⟩
 have p:=h; clear h; obtain⟨⟨rfl,rfl,B,F,N⟩,h⟩:=p;have p:=sK h; clear h; have h:=p; clear p;split at h
 ·rename_i T
  have h:=zG h;have h:=zK h;refine⟨_,_,h,zA.push _,fun Lw bs ρ H w vl vc s K rc=>?_⟩;rw[xi K,xi rc];have D:a.cells.size=d.size:=by have:=(q H).length; simp at this; omega
  have f:=run_make (P:=P) w t e d a hu E hz I J 1 1 (by omega) (Int.le_refl _) (by omega) (by omega);have hm:madeCells a.cells (1 * d.size)=a.cells.toList.toArray:=by
   have p:=HD a.cells 0 (by omega);rw[jx,D]at p;have h3:(madeCells a.cells (0 * d.size)).toList=[]:=by simp[madeCells]
   rw[h3,List.append_nil]at p;rw[← p]
  simp only[Int.toNat_one]at f;rw[hm]at f;refine⟨_,_,f,_,H,List.prefix_append _ _,PH.le.refl H,s.pushBox (t:=e) (zJ.of_RepL (q H)),?_⟩;exact⟨w.heap.size,by simp[← s.hlen],1,rfl,.inr rfl⟩
 exact h.elim
def RC (P:Program) (lo:List AObj) (t:TypeId) (d x:FV) (R:FV->List AObj->Prop):Prop:=
 match d with
 | .vsl k _=>Ns x fun src=>nX k lo fun o=>match o with
  | .vec e z rows=>Zz P t fun _ a=>(a=z/\src.length=rows.length/\(∀ r∈src,r.length=z))/\Xn k (.vec e z src) lo fun lo=>R (.p (.int .i64 src.length)) lo
  | _=>False
 | _=>False
theorem Md {lo:List AObj} {t:TypeId} {d x:FV} {R:FV->List AObj->Prop} (h:RC P lo t d x R) :
  ∃ T lo',R T lo'/\zA false lo lo'/\∀ ⦃Lw:Nat⦄ (bs:(Base Lw)) (ρ:List Value) (H:(PH Lw)) (w:World) (U ty:TypeId) (I m:Value),SatW bs ρ H lo w->qL ρ H d I->qL ρ H x m ->
   ∃ v w',(Builtin.copy_ #[t,U] ty #[I,m]).run P w=.ok v w'/\dJ bs ρ H T lo' v w':=by
 unfold RC at h;split at h
 case h_2=>exact h.elim
 rename_i k n;have f:=FW h; clear h; obtain⟨src,h,r⟩:=f;have f:=zd h; clear h; obtain⟨o,J,h⟩:=f;split at h
 case h_2=>exact h.elim
 rename_i e z rows;have f:=vh h; clear h; obtain⟨e',i,hu,V,⟨rfl,hlen,hw⟩,h⟩:=f;have f:=xL h; clear h; obtain⟨h,_⟩:=f;refine⟨_,_,h,zA.set _ _,fun Lw bs ρ H w U ty I m s rd rx=>?_⟩;obtain⟨X,_⟩:=rd;have rs:=r ρ H m rx;obtain⟨xs,y,hr,h1,Y⟩:=s.objs k _ _ J X;have ffirst:src=[]->∃ c:Array Value,(Builtin.firstCells i.size 0 m).run P w=.ok #[] w/\(Builtin.lenOf m).run P w=.ok 0 w:=by
  intro G;subst G;simp only[qu]at rs;have l0:∀ a:Addr,(loadCells a 0).run P w=.ok #[] w:=fun a=>by simpa using run_loadCells_list (P:=P) w a [] (by simp)
  rcases rs with ⟨_,rfl|⟨a,cap,rfl⟩⟩|⟨b,o',z',cap,rfl,_⟩
  ·exact⟨#[],by simp[Builtin.firstCells],by simp[Builtin.lenOf]⟩
  ·exact⟨#[],by simp[Builtin.firstCells,l0],by simp[Builtin.lenOf]⟩
  exact⟨#[],by simp[Builtin.firstCells,l0],by simp[Builtin.lenOf]⟩
 rcases y.2 with ⟨rfl,f⟩|⟨g,cap,cur,rfl,_,K,A,hm,Z,ht⟩
 ·have L:rows=[]:=jI f
  subst L;have B:src=[]:=jI (by simpa using hlen);obtain⟨_,M,q⟩:=ffirst B;subst B;refine⟨goInt 0,w,?_,ρ,H,jq _,PH.le.refl H,?_,by simp[qL,qu,goInt]⟩
  ·simp[Builtin.copy_,kru hu,q,Go.sizeOf,typeInfo,V,M]
  exact s.view J rfl rfl fun v hv ok=>ok
 have hb:qI (Value.slice (some ⟨g,0,none⟩) rows.length cap)=some g:=rfl;obtain⟨vs,p,l,C,hone⟩:∃ vs:List Value,(Builtin.firstCells i.size src.length m).run P w=.ok vs.toArray w/\(Builtin.lenOf m).run P w=.ok src.length w/\fp H i.size src vs/\∀ u∈vs,u.oneCell'=true:=by
  rcases tN rs hw with ⟨G,_⟩|⟨b,o',cap',vs,rfl,_,C,hc⟩
  ·obtain⟨_,M,q⟩:=ffirst G
   subst G;exact⟨[],by simpa using M,by simpa using q,rfl,fun u hu=>by cases hu⟩
  have q:=run_loadCells_list (P:=P) w ⟨b,o',none⟩ vs (fun j u hu=>by
   have:=(s.sath.cell b (o'+j) u (hc j u hu)).1
   rwa [Addr.add_lit])
  rw[C.length]at q;exact⟨vs,by simp[Builtin.firstCells,q],by simp[Builtin.lenOf],C,fun u hu=>by
   obtain⟨j,D⟩:=List.getElem?_of_mem hu;exact(s.sath.cell b (o'+j) u (hc j u D)).2⟩
 have N:vs.length=rows.length * i.size:=by rw[C.length,hlen]
 have hcl:rows.length * i.size<=cur.size:=by rw[Z]; exact Nat.mul_le_mul_right _ A
 obtain⟨O,a1,a2,a3,a4,a5⟩:=tM vs 0 w cur K;have hcell:∀ j,j<vs.length->(w.cell? ⟨g,0+j,none⟩).isSome=true:=fun j D=>by
  rw[cell_of_row w g _ _ e _ K];have:j<cur.size:=by omega
  simp[this]
 have Q:=run_storeCells_cells (P:=P) g 0 vs 0 w (by simpa using hcell) (fun j D=>frozen_of_row w g _ cur e K) hone
 refine⟨goInt src.length,w.setCells g 0 vs,?_,ρ,H,jq _,PH.le.refl H,?_,by simp[qL,qu,goInt]⟩
 ·have E:Nat.min src.length rows.length=src.length:=by rw[hlen]; exact Nat.min_self _
  simp[Builtin.copy_,kru hu,l,Go.sizeOf,typeInfo,V,E,p,Q]
 refine s.upd (k:=k) (b:=g) J X rfl rfl (Y g rfl) a5 ?_;refine⟨vs,⟨by rw[N,hlen],.inr ⟨g,cap,O,by rw[hlen],jR _,a1,by rw[hlen]; exact A,hm,by rw[a2]; exact Z,?_⟩⟩,C,hone,fun b S o'=>Y b S o'⟩
 rw[hlen];refine List.ext_getElem? fun j=>?_;rw[jE];split
 ·rename_i D
  have F:j<vs.length:=by omega
  have:=a4 j vs[j] (by simp[F]) (by omega);rw[jx]at this;rw[jf F];simpa using this
 rename_i D;rw[List.getElem?_eq_none (by omega)]
def iO (x:FV) (R:FV->Prop):Prop:=
 QN x fun cs=>LU cs fun a=>match a.all Eo with
  | true=>R (.hptr a)
  | false=>False
theorem NO {x:FV} {R:FV->Prop} (h:iO x R) :
  ∃ m,R m/\∀ (lo:List AObj) ⦃Lw:Nat⦄ (bs:(Base Lw)) (ρ:List Value) (H:(PH Lw)) (w:World) (t:TypeId) (v:Value),SatW bs ρ H lo w->qL ρ H x v->∃ u w',(Instr.box t v).run P w=.ok u w'/\dJ bs ρ H m lo u w':=by
 unfold iO at h;obtain⟨cs,h,g⟩:=tA h;obtain⟨A,h,i⟩:=dH h;split at h
 case h_2=>exact h.elim
 rename_i hone;refine⟨_,h,fun lo Lw bs ρ H w t v s n=>?_⟩;have rl:=i ρ H _ (g ρ H v n);have p:=qU.one (fun c q=>(List.all_eq_true.1 hone) c q) rl;have l:∀ o,H w.heap.size o=none:=fun o=>by
  cases r:H w.heap.size o with
  | none=>rfl
  | some x=>exact absurd (s.sath.lt r) (jQ _)
 let H':(PH Lw):=fun b o=>if b=w.heap.size then v.cells.toList[o]? else H b o
 have d:PH.le H H':=fun b o u hu=>by
  show(if b=w.heap.size then _ else _)=_;rw[if_neg (fun e=>by subst e; rw[l o]at hu; cases hu)]
  exact hu
 have f:∀ o u,v.cells.toList[o]? =some u->H' w.heap.size o=some u:=fun o u hu=>by
  show(if w.heap.size=w.heap.size then _ else _)=_;rw[if_pos rfl]; exact hu
 have calm:Calm H w H' (w.alloc (.cells v.cells t)):=by
  refine⟨d,⟨fun b o u hu=>?_,s.sath.root.mono d,by have:=s.sath.low; simp; omega,fun b o u hu y=>by
   have a:(if b=w.heap.size then v.cells.toList[o]? else H b o)=some u:=hu;split at a
   ·rename_i e1; subst e1; exact .of (heap_alloc_new w _)
   exact(gJ s.sath _).nf b o u a y⟩,?_,fun b o u hu=>?_⟩
  ·have a:(if b=w.heap.size then v.cells.toList[o]? else H b o)=some u:=hu
   clear hu;split at a
   ·rename_i e
    subst e;refine⟨?_,p u (List.mem_of_getElem? a)⟩;rw[cell_of_row _ _ _ v.cells t _ (heap_alloc_new w _)];simpa using a
   exact(gJ s.sath _).cell b o u a
  ·have:=gH w (.cells v.cells t) w.heap.size
   exact⟨this.os,this.tape,this.output,this.size,fun k z _=>this.block k z (fun e=>by omega)⟩
  have hu:(if b=w.heap.size then v.cells.toList[o]? else H b o)=some u:=hu;split at hu
  ·rename_i e; exact .inr (by omega)
  exact .inl ⟨u,hu⟩
 refine⟨.pointer (some ⟨w.heap.size,0,none⟩),w.alloc (.cells v.cells t),?_,ρ,H',jq _,d,s.calm calm,?_⟩
 ·simp only[Instr.box,ka,Zk,jZ,ke]
 exact⟨w.heap.size,0,_,rfl,qU.mono d rl,fun j u hu=>by rw[jx]; exact f j u hu⟩
end
end Ax
namespace Ax
open Go
section
variable {P:Program} {w:World}
def LX (P:Program) (E:Env) (lo:List AObj) (t:TypeId) (n:Nat) (qZ:List (Nat×Operand)) (R:FV->List AObj->Prop):Prop:=
 Zz P t fun e z=>match Nat.beq n 1 with
  | true=>match Nat.beq z 1 with
   | true=>match P.info? e with
    | some i=>match i.zero with
     | some zv=>match Nat.beq zv.cells.size 1 with
      | true=>match qZ with
       | [(0,x)]=>oV E none x fun v=>match v with
        | .ptr k 0=>Zg lo 0 fun m=>mC lo (.box e [.ptr k 0]) fun lo=>R (.bsl m 0 1 1) lo
        | _=>False
       | _=>False
      | false=>False
     | none=>False
    | none=>False
   | false=>False
  | false=>False
theorem Ht {E:Env} {lo:List AObj} {t:TypeId} {n:Nat} {qZ:List (Nat×Operand)} {R:FV->List AObj->Prop} (h:LX P E lo t n qZ R) :
  ∃ q lo',R q lo'/\zA true lo lo'/\∀ ⦃Lw:Nat⦄ (bs:(Base Lw)) (ρ:List Value) (H:(PH Lw)) (w:World) (eval:Operand->Value),SatW bs ρ H lo w->(∀ x∈qZ.map (·.2),qL ρ H (oT (qG E) x) (eval x)) ->
   ∃ v w',(Instr.buildSlice t n (qZ.map fun(i,x)=>(i,eval x)).toArray).run P w=.ok v w'/\dJ bs ρ H q lo' v w':=by
 unfold LX at h;have f:=vh h; clear h; obtain⟨e,i,hu,g,h⟩:=f;split at h
 case h_2=>exact h.elim
 rename_i j;split at h
 case h_2=>exact h.elim
 rename_i c;rw[g]at h;simp only at h;split at h
 case h_2=>exact h.elim
 rename_i m o;split at h
 case h_2=>exact h.elim
 rename_i d;split at h
 case h_2=>exact h.elim
 rename_i x;have f:=qB h; clear h; obtain⟨v0,h,p⟩:=f;split at h
 case h_2=>exact h.elim
 rename_i k;have h:=zG h;have h:=zK h;have j:n=1:=jm j;have c:i.size=1:=jm c;have d:m.cells.size=1:=jm d;subst j;refine⟨_,_,h,zA.push _,fun Lw bs ρ H w eval s r=>?_⟩;obtain⟨b,u,he⟩:=p ρ H _ trivial (r x (by simp));have rc:zJ ρ H [FV.ptr k 0] [Value.pointer (some ⟨b,0,none⟩)]:=⟨_,[],rfl,⟨b,u,rfl⟩,rfl⟩;have hp:=s.pushBox (t:=e) rc;refine⟨.slice (some ⟨w.heap.size,0,none⟩) 1 1,w.alloc (.cells #[Value.pointer (some ⟨b,0,none⟩)] e),?_,_,H,List.prefix_append _ _,PH.le.refl H,hp,?_⟩
 ·have key:∀ (arr:Array Value) (v:Value),arr.size=1->v.cells = #[v]->Instr.fill (fun i=>some (i * 1,1)) arr [(0,v)]=some #[v]:=by
   intro arr v y z;obtain⟨a,rfl⟩:∃ a,arr = #[a]:=by
    cases arr with
    | mk l=>
     match l,y with
     | [a],_=>exact⟨a,rfl⟩
   simp[Instr.fill,z]
  have A:=key ((Array.range (1 * 1)).map (m.cells[· % m.cells.size]!)) (.pointer (some ⟨b,0,none⟩)) (by simp) rfl
  simp only[Instr.buildSlice,ka,kru hu,jZ,Go.sizeOf,typeInfo,run_program,g,ke,c];simp only[show ¬ (1 * 1>2 ^ 24) by decide,if_false,show ¬ (1 * 1=0) by decide,ka,zeroValue,typeInfo,run_program,g,o,jZ,ke,jk,jN,he];rw[A];simp[newRow]
 exact⟨w.heap.size,by simp[← s.hlen],1,rfl,.inr rfl⟩
def DN (P:Program) (t:TypeId) (lo:List AObj) (x:FV) (R:FV->List AObj->Prop):Prop:=
 match x with
 | .bsl k 0 1 _=>Zz P t fun e z=>match Nat.beq z 1 with
  | true=>match P.info? e with
   | some i=>match i.zero with
    | some zv=>match Nat.beq zv.cells.size 1 with
     | true=>match Nat.ble i.bytes 140737488355328 with
      | true=>nX k lo fun o=>match o with
       | .box _ [.ptr j 0]=>Zg lo 0 fun m=>mC lo (.pbx e (.ptr j 0)) fun lo=>R (.bsl m 0 1 0) lo
       | _=>False
      | false=>False
     | false=>False
    | none=>False
   | none=>False
  | false=>False
 | _=>False
theorem DO {t:TypeId} {lo:List AObj} {x:FV} {R:FV->List AObj->Prop} (h:DN P t lo x R) :
  ∃ z lo',R z lo'/\zA true lo lo'/\∀ ⦃Lw:Nat⦄ (bs:(Base Lw)) (ρ:List Value) (H:(PH Lw)) (w:World) (ty:TypeId) (m:Value),SatW bs ρ H lo w->qL ρ H x m ->
   ∃ v w',(Builtin.append_ #[t,t] ty #[.slice none 0 0,m]).run P w=.ok v w'/\dJ bs ρ H z lo' v w':=by
 unfold DN at h;split at h
 case h_2=>exact h.elim
 rename_i k J;have n:=vh h; clear h; obtain⟨e,i,hu,A,h⟩:=n;split at h
 case h_2=>exact h.elim
 rename_i a;rw[A]at h;simp only at h;split at h
 case h_2=>exact h.elim
 rename_i p r;split at h
 case h_2=>exact h.elim
 rename_i d;split at h
 case h_2=>exact h.elim
 rename_i f;have n:=zd h; clear h; obtain⟨o,C,h⟩:=n;split at h
 case h_2=>exact h.elim
 rename_i bt j;have h:=zG h;have h:=zK h;have a:i.size=1:=jm a;have d:p.cells.size=1:=jm d;have f:=jh f;refine⟨_,_,h,zA.push _,fun Lw bs ρ H w ty m s rx=>?_⟩;obtain⟨b,D,c,rfl,_⟩:=rx;obtain⟨K,vs,e1,E,rc,L⟩:=s.objs k _ _ C D;cases e1;obtain⟨u,us,rfl,F,e2⟩:=rc;have e2:us=[]:=e2;subst e2;obtain⟨y,l,rfl⟩:=F;have G:=run_append_nil (P:=P) w t ty e i p hu A r ⟨b,0,none⟩ 1 c [Value.pointer (some ⟨y,0,none⟩)] (by simp[a]) (fun q u hu=>by
  have:=cP E 0 q u (by simpa using hu);rw[Addr.add_lit];simpa using this) (by omega) (by omega) (by omega)
 refine⟨_,_,G,ρ++[.pointer (some ⟨w.heap.size,0,none⟩)],H,List.prefix_append _ _,PH.le.refl H,?_,?_⟩
 ·refine s.push (g:=w.heap.size) (.inl rfl) (s.fresh (jw _)) (.inr s.keep.size) (PH.le.refl H) (s.sath.block (xC w _ w.heap.size).size fun b o v B=>?_) (fun b o v h=>.inl ⟨v,h⟩) (xC w _ _) ?_
  ·exact(xC w _ w.heap.size).block b (s.sath.lt B) (fun e=>absurd (s.sath.lt B) (by omega))
  refine⟨w.heap.size,.pointer (some ⟨y,0,none⟩),(Builtin.zeroCells p.cells (grownCap w 1 0 e - 1)).toList,rfl,?_,⟨y,by rw[jB (jG.1 l).1]; exact l,rfl⟩,fun o=>?_⟩
  ·refine(heap_alloc_new w.drew _).trans ?_
   congr 2;apply Array.toList_inj.1;simp
  cases I:H w.heap.size o with
  | none=>rfl
  | some x=>exact absurd (s.sath.lt I) (jQ _)
 ·exact⟨w.heap.size,by simp[← s.hlen],_,rfl,.inl rfl⟩
def DQ (P:Program) (p g:Bool) (E:Env) (lo:List AObj) (t:TypeId) (n:Nat) (qZ:List (Nat×Operand)) (R:FV->List AObj->Prop):Prop:=
 match p with
 | true=>LX P E lo t n qZ R
 | false=>Nd P g E lo t n qZ R
theorem XO {p b:Bool} {E:Env} {lo:List AObj} {t:TypeId} {n:Nat} {qZ:List (Nat×Operand)} {R:FV->List AObj->Prop} (h:DQ P p b E lo t n qZ R) :
  ∃ a lo',R a lo'/\zA true lo lo'/\∀ ⦃Lw:Nat⦄ (bs:(Base Lw)) (ρ:List Value) (H:(PH Lw)) (w:World) (eval:Operand->Value),SatW bs ρ H lo w->(∀ x∈qZ.map (·.2),qL ρ H (oT (qG E) x) (eval x)) ->
   ∃ v w',(Instr.buildSlice t n (qZ.map fun(i,x)=>(i,eval x)).toArray).run P w=.ok v w'/\dJ bs ρ H a lo' v w':=by
 cases p with
 | true=>exact Ht h
 | false=>exact DP h
def Td (P:Program) (inl:List Nat) (d:Option Tmp) (op:Op) (E:Env) (lo:List AObj) (no:Prop) (R:FV->List AObj->Prop):Prop:=
 match op with
 | .makeSlice t l c=>oV E none l fun l=>oV E none c fun c=>RI P (Py inl d) (Rr inl d) lo t l c R
 | .call { callee:=.builtin .copy,args:=⟨[x,y]⟩,argTypes:=⟨[t,_]⟩ }=>oV E none x fun x=>oV E none y fun y=>RC P lo t x y R
 | .box _ x=>match Py inl d with
  | true=>oV E none x fun x=>iO x fun v=>R v lo
  | false=>no
 | .call { callee:=.builtin .append,args:=⟨[s,x]⟩,argTypes:=⟨[t,t']⟩ }=>ev E x fun v=>match v with
  | .bsl k o n c=>match Nat.beq t t' with
   | true=>oV E none s fun s=>match s with
    | .p .nilsl=>DN P t lo (.bsl k o n c) R
    | _=>False
   | false=>False
  | _=>no
 | _=>no
theorem Bx {inl:List Nat} {d:Option Tmp} {op:Op} {E:Env} {lo:List AObj} {no:Prop} {R:FV->List AObj->Prop} (h:Td P inl d op E lo no R) :
  no\/∃ g lo',R g lo'/\bm op=true/\(∀ (o:Oper) (inl:List Nat),o.op=op->vU inl o=true/\fw inl o=false)/\zA (FJ op) lo lo'/\∀ o:Oper,o.op=op->uR P o (qG E) lo none g lo':=by
 unfold Td at h;split at h
 ·rename_i t l c
  have a:=qB h; clear h; obtain⟨l',h,z⟩:=a;have a:=qB h; clear h; obtain⟨F,h,A⟩:=a;have a:=Mj h; clear h; obtain⟨g,lo',h,f,i⟩:=a;refine .inr ⟨g,lo',h,rfl,fun o inl e=>⟨by simp[vU,e,bm],by simp[fw,e]⟩,f,fun o e _ Lw bs ρ H w eval s b=>?_⟩;rw[e]at b;obtain⟨v,w',f,j⟩:=i bs ρ H w _ _ s (z ρ H _ trivial (b l (by simp[kf]))) (A ρ H _ trivial (b c (by simp[kf])));simp only[execOp,e,ka,f,jZ,ke];exact j
 ·rename_i x y t u
  have a:=qB h; clear h; obtain⟨B,h,m⟩:=a;have a:=qB h; clear h; obtain⟨G,h,q⟩:=a;have a:=Md h; clear h; obtain⟨g,lo',h,f,i⟩:=a;refine .inr ⟨g,lo',h,rfl,fun o inl e=>⟨by simp[vU,e,bm],by simp[fw,e]⟩,f,fun o e _ Lw bs ρ H w eval s b=>?_⟩;rw[e]at b;obtain⟨v,w',f,j⟩:=i bs ρ H w u o.type _ _ s (m ρ H _ trivial (b x (by simp[kf,kg]))) (q ρ H _ trivial (b y (by simp[kf,kg])));simp only[execOp,e,resolve,invoke,builtin,ka,ke,jZ,jY,jk,jN,f];exact j
 ·rename_i t x
  split at h
  ·have a:=qB h; clear h; obtain⟨B,h,m⟩:=a
   have a:=NO (P:=P) h; clear h; obtain⟨g,h,i⟩:=a;refine .inr ⟨g,lo,h,rfl,fun o inl e=>⟨by simp[vU,e,bm],by simp[fw,e]⟩,zA.refl _,fun o e _ Lw bs ρ H w eval s b=>?_⟩;rw[e]at b;obtain⟨v,w',f,j⟩:=i lo bs ρ H w t _ s (m ρ H _ trivial (b x (by simp[kf])));simp only[execOp,e,ka,f,jZ,ke];exact j
  exact .inl h
 ·rename_i C x t u
  rw[Ft]at h;split at h
  ·rename_i k o n c D
   split at h
   ·rename_i p
    have p:=jm p;subst p;have a:=qB h; clear h; obtain⟨I,h,r⟩:=a;split at h
    ·have a:=DO h; clear h; obtain⟨g,lo',h,f,i⟩:=a
     refine .inr ⟨g,lo',h,rfl,fun o inl e=>⟨by simp[vU,e,bm],by simp[fw,e]⟩,f,fun o e _ Lw bs ρ H w eval s b=>?_⟩;rw[e]at b;have r1:=r ρ H _ trivial (b C (by simp[kf,kg]));have r2:=b x (by simp[kf,kg]);rw[D]at r2;simp only[qL,qu]at r1;obtain⟨v,w',f,j⟩:=i bs ρ H w o.type _ s r2;simp only[execOp,e,resolve,invoke,builtin,ka,ke,jZ,jY,jk,jN,r1,f];exact j
    exact h.elim
   exact h.elim
  exact .inl h
 exact .inl h
end
end Ax
end
section
namespace Ax
open Go
variable {Lw:Nat}
def upd (e:Nat->FV) (d:Option Tmp) (v:FV):Nat->FV:=
 match d with
 | none=>e
 | some d=>fun t=>if t=d then v else e t
theorem NV (d:Tmp) (v:FV) (E:Env):qG ((d,v)::E)=upd (qG E) (some d) v:=by
 funext t;simp only[qG,upd];by_cases h:t=d
 ·subst h; simp[Nat.beq_refl]
 have:Nat.beq t d=false:=by
  cases a:Nat.beq t d with
  | false=>rfl
  | true=>exact absurd (jm a) h
 simp[this,h]
def gN (ops:Array Oper) (o:Oper) (e:Nat->FV) (g:G):Prop:=
 match o.guard with
 | none=>g=none
 | some (j,want)=>∃ oj d b,ops[j]? =some oj/\oj.dst=some d /\
   ((e d=.p (.bool b)/\g=some (match want with|true=>b|false=>!b)) \/
    ∃ a,e d=.opt a (.p (.bool b))/\g=some (match want with|true=>a&&b|false=>a&&!b))
def QI (P:Program) (sl:List Nat) (m:Bool) (n0:Nat) (o:Oper) (e:Nat->FV) (lo:List AObj) (g:G) (c:FV):Prop:=
 uR P o e lo g c lo/\(m=true->rW sl o=false->∃ d:Option (Nat×AObj),(∀ k b,d=some (k,b)->lR sl n0 k=true/\b.boxy=true/\lo[k]? =some b)/\∀ a,(∀ k b,d=some (k,b)->a[k]? =some b)->uR P o e a g c a)
def Lp (sl:List Nat) (m:Bool) (n0:Nat) (o:Oper) (lo lo':List AObj):Prop:=
 m=true->n0<=lo.length->n0<=lo'.length/\(Eb sl o=true->∀ k a,lR sl n0 k=true->a.boxy=true->(lo[k]? =some a↔lo'[k]? =some a))
theorem Ee {sl:List Nat} {n0 k:Nat} (h:lR sl n0 k=true):k<n0/\XQ sl (60000000+1000 * n0+k)=false:=by
 unfold lR at h;split at h
 ·rename_i a
  split at h
  ·cases h
  rename_i hm; exact⟨jh a,hm⟩
 cases h
theorem zA.ok {sl:List Nat} {m:Bool} {n0:Nat} {o:Oper} {lo lo':List AObj} (a:m=true->fw sl o=false) (h:zA (FJ o.op) lo lo'):Lp sl m n0 o lo lo':=fun b c=>⟨Nat.le_trans c h.1,fun hm k d e f=>by
 simp only[Eb,a b,Bool.or_false]at hm;exact h.2 hm k d (Nat.lt_of_lt_of_le (Ee e).1 c) f⟩
def nj (P:Program) (inl sl:List Nat) (m:Bool) (n0 N:Nat) (ops:Array Oper) (o:Oper) (e:Nat->FV) (lo:List AObj) (b:Nat->FV) (lo':List AObj):Prop:=
 ∃ g a,gN ops o e g/\(∀ d,o.dst=some d->d<N)/\b=upd e o.dst (rX g a) /\
  ((vU inl o=true/\g=none/\uR P o e lo none a lo'/\Lp sl m n0 o lo lo') \/
   (vU inl o=false/\QQ o.op=true/\lo'=lo/\QI P sl m n0 o e lo g a) \/
   (vU inl o=false/\QQ o.op=false/\lo'=lo/\∀ lo,uR P o e lo g a lo))
theorem sJ (o:Oper):vU [] o=bm o.op:=by
 unfold vU;split
 ·rename_i h; simp[h,XQ,bm]
 ·rename_i h; simp[h,ad,XQ,bm]
 ·rename_i h
  simp only[h,Py,bm];split<;>simp[XQ]
 ·rename_i h
  simp only[h,Py,bm];split<;>simp[XQ]
 rfl
theorem nT {ops:List Oper} {o:Oper} {E:Env} {R:G->Prop} (h:Fz ops o E R):∃ g,gN ops.toArray o (qG E) g/\R g:=by
 unfold Fz at h;unfold gN;split at h
 ·rename_i e
  exact⟨none,by simp[e],h⟩
 rename_i j c e;obtain⟨oj,a,h⟩:=zd h;split at h
 ·rename_i d f
  rw[QT]at h;split at h
  ·rename_i b he
   cases c with
   | true=>exact⟨_,by simp only[e]; exact⟨oj,d,b,by simpa using a,f,.inl ⟨he,rfl⟩⟩,h⟩
   | false=>exact⟨_,by simp only[e]; exact⟨oj,d,b,by simpa using a,f,.inl ⟨he,rfl⟩⟩,h⟩
  ·rename_i i b he
   cases c with
   | true=>exact⟨_,by simp only[e]; exact⟨oj,d,b,by simpa using a,f,.inr ⟨i,he,rfl⟩⟩,h⟩
   | false=>exact⟨_,by simp only[e]; exact⟨oj,d,b,by simpa using a,f,.inr ⟨i,he,rfl⟩⟩,h⟩
  ·exact h.elim
 exact h.elim
theorem zZ {N:Nat} {d:Option Tmp} {v:FV} {E:Env} {R:Env->Prop} (h:nY N d v E R) :
  (∀ t,d=some t->t<N)/\∃ E',qG E'=upd (qG E) d v/\R E':=by
 unfold nY at h;split at h
 ·rename_i t
  split at h
  ·rename_i b
   rw[Hk]at h;refine⟨fun c a=>?_,_,NV t v E,h⟩;cases a;exact jh b
  exact h.elim
 exact⟨fun t a=>(by cases a),E,rfl,h⟩
theorem FE {P:Program} {o:Oper} {t:TypeId} {x i:Operand} {ok:Bool} (a:o.op=.lookup t x i ok) {E:Env} {g:G} {lo:List AObj} {f j:FV} (b:oL g (oT (qG E) x) f) (c:oL g (oT (qG E) i) j) {R:FV->Prop} (h:tG P g t lo f j ok R) :
  ∃ d,R d/\uR P o (qG E) lo g d lo:=by
 obtain⟨d,h,_,l⟩:=Hw h;refine⟨_,h,fun e Lw bs ρ H w eval s k=>?_⟩;obtain⟨v,m,n⟩:=l e bs ρ H w _ _ s (b ρ H _ e (k x (by simp[a,kf]))) (c ρ H _ e (k i (by simp[a,kf])));simp only[execOp,a];exact qT s m n
theorem Lf {P:Program} {N:Nat} {all:List Oper} {o:Oper} {E:Env} {lo:List AObj} {R:Env->List AObj->Prop} (h:MB P N all o E lo R) :
  ∃ E' lo',nj P [] [] false 0 N all.toArray o (qG E) lo (qG E') lo'/\R E' lo':=by
 unfold MB at h;unfold nj;simp only[sJ];obtain⟨g,j,h⟩:=nT h;split at h
 ·rename_i f
  have he:bm o.op=false:=by
   cases l:o.op<;>simp[l,QQ]at f<;>rfl
  have oX:∀ {a:FV},uR P o (qG E) lo g a lo->QI P [] false 0 o (qG E) lo g a:=fun h=>⟨h,fun h=>by cases h⟩
  split at h
  ·rename_i t x k
   obtain⟨a,h,b⟩:=Mh k h;obtain⟨c,E',e,h⟩:=zZ h;exact⟨E',lo,⟨g,a,j,c,e,.inr (.inl ⟨he,f,rfl,oX b⟩)⟩,h⟩
  ·rename_i q d x k
   obtain⟨a,h,b⟩:=Mc k h;obtain⟨c,E',e,h⟩:=zZ h;exact⟨E',lo,⟨g,a,j,c,e,.inr (.inl ⟨he,f,rfl,oX b⟩)⟩,h⟩
  ·rename_i t x i ok k
   obtain⟨r,h,m⟩:=qB h;obtain⟨s,h,n⟩:=qB h;obtain⟨a,h,b⟩:=FE k m n h;obtain⟨c,E',e,h⟩:=zZ h;exact⟨E',lo,⟨g,a,j,c,e,.inr (.inl ⟨he,f,rfl,oX b⟩)⟩,h⟩
  exact h.elim
 rename_i f;split at h
 ·rename_i he
  split at h
  ·obtain⟨a,lo',h,p,b⟩:=VN h
   obtain⟨c,E',e,h⟩:=zZ h;exact⟨E',lo',⟨none,a,j,c,e,.inl ⟨he,rfl,b,p.ok (fun h=>by cases h)⟩⟩,h⟩
  exact h.elim
 rename_i he;obtain⟨a,h,b⟩:=FG h;obtain⟨c,E',e,h⟩:=zZ h;exact⟨E',lo,⟨g,a,j,c,e,.inr (.inr ⟨he,f,rfl,b⟩)⟩,h⟩
def ij (P:Program) (sl:List Nat) (t:TypeId) (lo:List AObj) (n0:Nat) (x:FV) (R:FV->Prop):Prop:=
 match x with
 | .ptr k off=>match lR sl n0 k with
  | true=>tF P t lo (.ptr k off) R
  | false=>False
 | .hptr row=>tF P t [] (.hptr row) R
 | _=>False
def Nf (P:Program) (sl:List Nat) (g:G) (t:TypeId) (lo:List AObj) (n0:Nat) (x key:FV) (ok:Bool) (R:FV->Prop):Prop:=
 match x with
 | .mref k=>match lR sl n0 k with
  | true=>tG P g t lo (.mref k) key ok R
  | false=>False
 | _=>False
def ie (P:Program) (g:G) (src dst:TypeId) (x:FV) (R:FV->Prop):Prop:=
 match x with
 | .p p=>FB P g src dst [] (.p p) R
 | .tsl k rows=>FB P g src dst [] (.tsl k rows) R
 | _=>False
def lG (P:Program) (sl:List Nat) (n0 N:Nat) (all:List Oper) (o:Oper) (E:Env) (lo:List AObj) (R:Env->List AObj->Prop):Prop:=
 Fz all o E fun g=>
  match QQ o.op with
  | true=>match o.op with
   | .load t x=>oV E g x fun x=>ij P sl t lo n0 x fun v=>nY N o.dst (rX g v) E fun E=>R E lo
   | .convert s d x=>oV E g x fun x=>ie P g s d x fun v=>nY N o.dst (rX g v) E fun E=>R E lo
   | .lookup t x i ok=>oV E g x fun x=>oV E g i fun i=>Nf P sl g t lo n0 x i ok fun v=>nY N o.dst (rX g v) E fun E=>R E lo
   | _=>False
  | false=>match bm o.op with
   | true=>match g with
    | none=>ig P o.op E lo fun v lo=>nY N o.dst v E fun E=>R E lo
    | some _=>False
   | false=>Te P o.op E g fun v=>nY N o.dst (rX g v) E fun E=>R E lo
theorem nd {α:Type}:∀ {n:Nat} {l:List α} {a:α} {R:α->Prop},l[n]? =some a->R a->nX n l R
 | 0,[],a,R,h,_=>by simp at h
 | 0,b::l,a,R,h,hr=>by simp at h; subst h; exact hr
 | n+1,[],a,R,h,_=>by simp at h
 | n+1,b::l,a,R,h,hr=>nd (n:=n) (l:=l) (by simpa using h) hr
theorem SZ {v:FV} {R:PV->Prop} (h:lO v R):∃ p,R p/\∀ R':PV->Prop,R' p->lO v R':=by
 unfold lO at h;split at h
 ·exact⟨_,h,fun R' a=>a⟩
 ·exact⟨_,h,fun R' a=>a⟩
 ·exact⟨_,h,fun R' a=>a⟩
 exact h.elim
theorem EW:∀ {c:FV} {R:List PV->Prop},VI c R->∃ p,R p/\∀ R':List PV->Prop,R' p->VI c R':=by
 intro c
 induction c with
 | cap0=>intro R h; exact⟨_,h,fun R' d=>d⟩
 | cap a b _ ihb=>
  intro R h;simp only[VI]at h;obtain⟨p,h,hp⟩:=SZ h;obtain⟨f,h,e⟩:=ihb h;exact⟨_,h,fun R' d=>by simp only[VI]; exact hp _ (e _ d)⟩
 | _=>intro R h; simp[VI]at h
theorem Ta {v:FV} {R:PV->Prop} (h:LS v R):∃ p,R p/\∀ R':PV->Prop,R' p->LS v R':=by
 unfold LS at h;split at h
 ·exact⟨_,h,fun R' a=>a⟩
 ·exact⟨_,h,fun R' a=>a⟩
 ·exact⟨_,h,fun R' a=>a⟩
 ·obtain⟨c,h,b⟩:=EW h
  exact⟨_,h,fun R' a=>b _ a⟩
 ·obtain⟨c,h,b⟩:=EW h
  exact⟨_,h,fun R' a=>b _ a⟩
 exact h.elim
theorem RH {P:Program} {t:TypeId} {lo:List AObj} {k off:Nat} {R:FV->Prop} (h:tF P t lo (.ptr k off) R) :
  ∃ z q,R z/\lo[k]? =some q/\q.boxy=true/\∀ e:List AObj,e[k]? =some q->tF P t e (.ptr k off) (fun v=>v=z):=by
 unfold tF at h;obtain⟨q,g,h⟩:=zd h;split at h
 ·rename_i bt cells
  obtain⟨h,f⟩:=uS h;obtain⟨d,i,u,w,h⟩:=vk h;have dropI:∀ {n:Nat} {l:List FV} {R:List FV->Prop},n<=l.length->R (l.drop n)->Qb n l R:=by
   intro n
   induction n with
   | zero=>intro l R _ h; simpa[Qb]using h
   | succ n ih=>
    intro l R o h;cases l with
    | nil=>simp at o
    | cons a l=>exact ih (by simpa using o) (by simpa using h)
  have takeI:∀ {n:Nat} {l:List FV} {R:List FV->Prop},n<=l.length->R (l.take n)->XX n l R:=by
   intro n
   induction n with
   | zero=>intro l R _ h; simpa[XX]using h
   | succ n ih=>
    intro l R o h;cases l with
    | nil=>simp at o
    | cons a l=>exact ih (l:=l) (R:=fun l=>R (a::l)) (by simpa using o) (by simpa using h)
  have frzI:∀ {l:List FV} {R:List PV->Prop},LU l R->∃ s,R s/\∀ R',R' s->LU l R':=by
   intro l
   induction l with
   | nil=>intro R h; exact⟨[],h,fun R' h=>h⟩
   | cons v l ih=>
    intro R h;simp only[LU]at h;obtain⟨p,h,x⟩:=Ta h;obtain⟨s,h,hp⟩:=ih h;exact⟨_,h,fun R' B=>by simp only[LU]; exact x _ (hp _ B)⟩
  have typeI:∀ {R:Bool->Nat->Prop},R (SL d) i.size->bp P t R:=by
   intro R h;unfold bp;simp only[u,w];exact h
  split at h
  ·rename_i b
   obtain⟨h,A⟩:=fL h;split at h
   ·rename_i j
    refine⟨_,_,h,g,rfl,fun e m=>?_⟩;unfold tF;refine nd m (dropI f (typeI ?_));rw[b];refine takeI A ?_;rw[j]
   rename_i j;obtain⟨s,h,y⟩:=frzI h;refine⟨_,_,h,g,rfl,fun e m=>?_⟩;unfold tF;refine nd m (dropI f (typeI ?_));rw[b];refine takeI A ?_;rw[j];exact y _ rfl
  rename_i b;split at h
  ·rename_i c r C
   refine⟨_,_,h,g,rfl,fun e m=>?_⟩;unfold tF;refine nd m (dropI f (typeI ?_));rw[b];simp only[C]
  exact h.elim
 ·rename_i bt c
  split at h
  ·rename_i D
   obtain⟨d,i,u,w,h⟩:=vk h;split at h
   ·exact h.elim
   rename_i b;refine⟨_,_,h,g,rfl,fun e m=>?_⟩;unfold tF;refine nd m ?_;simp only[D];unfold bp;simp only[u,w,b]
  exact h.elim
 exact h.elim
theorem Mi {P:Program} {g:G} {t:TypeId} {lo:List AObj} {k:Nat} {key:FV} {ok:Bool} {R:FV->Prop} (h:tG P g t lo (.mref k) key ok R) :
  ∃ s j,R s/\lo[k]? =some j/\j.boxy=true/\∀ e:List AObj,e[k]? =some j->tG P g t e (.mref k) key ok (fun v=>v=s):=by
 cases key<;>simp only[tG]at h;rename_i l;obtain⟨j,n,h⟩:=zd h;split at h
 ·rename_i d es mk
  have mapI:∀ {R:TypeId->Prop},iq P t d l R->∃ c,R c/\∀ R':TypeId->Prop,R' c->iq P t d l R':=by
   intro R h;unfold iq at h;split at h
   ·rename_i D c x
    split at h
    ·rename_i u y
     have keyI:∀ {R:Prop},Mn u d l R->R/\∀ R':Prop,R'->Mn u d l R':=by
      intro R h;unfold Mn at h;split at h
      ·exact⟨h,fun R' a=>a⟩
      ·exact⟨h,fun R' a=>a⟩
      ·split at h
       ·rename_i o
        split at h
        ·rename_i q
         refine⟨h,fun R' a=>?_⟩;simp only[Mn,o,q];exact a
        exact h.elim
       exact h.elim
      exact h.elim
     obtain⟨h,A⟩:=keyI h;refine⟨c,h,fun R' a=>?_⟩;unfold iq;simp only[x,y];exact A _ a
    exact h.elim
   exact h.elim
  have zeroI:∀ {c:TypeId} {R:PV->Prop},Ll P c R->∃ z,R z/\∀ R':PV->Prop,R' z->Ll P c R':=by
   intro c R h;have vsI:∀ {vs:List Value} {R:List PV->Prop},Pw vs R->∃ m,R m/\∀ R':List PV->Prop,R' m->Pw vs R':=by
    intro vs
    induction vs with
    | nil=>intro R h; exact⟨[],h,fun R' h=>h⟩
    | cons v vs ih=>
     intro R h;simp only[Pw]at h;split at h
     ·rename_i p hp
      obtain⟨m,h,f⟩:=ih h;refine⟨_,h,fun R' a=>?_⟩;simp only[Pw,hp];exact f _ a
     exact h.elim
   unfold Ll at h;split at h
   ·rename_i i w
    split at h
    ·rename_i vs hz
     obtain⟨m,h,f⟩:=vsI h;refine⟨_,h,fun R' a=>?_⟩;unfold Ll;simp only[w,hz];exact f _ a
    ·rename_i v B hz
     split at h
     ·rename_i p hp
      refine⟨_,h,fun R' a=>?_⟩;unfold Ll;simp only[w,hz,hp];exact a
     exact h.elim
    exact h.elim
   exact h.elim
  obtain⟨c,h,o⟩:=mapI h;obtain⟨z,h,q⟩:=zeroI h;obtain⟨v,b,r,h⟩:=h;refine⟨_,_,h,n,rfl,fun e C=>?_⟩;simp only[tG];exact nd C (o _ (q _ ⟨v,b,r,rfl⟩))
 exact h.elim
theorem HJ {α:Type} {R R':α->Prop} (h:∀ a,R a->R' a):∀ {n:Nat} {l:List α},nX n l R->nX n l R'
 | 0,[],x=>x
 | 0,a::_,x=>h a x
 | n+1,[],x=>x
 | n+1,_::l,x=>HJ h (n:=n) (l:=l) x
theorem HZ {α:Type}:∀ {n:Nat} {x:α} {l:List α} {R R':List α->Prop},(∀ a,R a->R' a)->Xn n x l R->Xn n x l R'
 | 0,x,[],_,_,_,y=>y
 | 0,x,_::l,_,_,h,y=>h _ y
 | n+1,x,[],_,_,_,y=>y
 | n+1,x,a::l,R,R',h,y=>HZ (n:=n) (x:=x) (l:=l) (R:=fun l=>R (a::l)) (R':=fun l=>R' (a::l)) (fun _=>h _) y
theorem Nu {α:Type}:∀ {n:Nat} {x:α} {l:List α} {R:List α->Prop},Xn n x l R->Xn n x l (fun l'=>R l'/\l'.length=l.length/\∀ j,j≠n->l'[j]? =l[j]?)
 | 0,x,[],_,h=>h
 | 0,x,_::l,_,h=>⟨h,by simp,fun j b=>by cases j with|zero=>exact absurd rfl b|succ j=>simp⟩
 | n+1,x,[],_,h=>h
 | n+1,x,a::l,R,h=>by
  have c:Xn n x l (fun l=>R (a::l)):=h
  refine HZ (n:=n) (x:=x) (l:=l) (R':=fun l'=>R (a::l')/\(a::l').length=(a::l).length/\∀ j,j≠n+1->(a::l')[j]? =(a::l)[j]?) ?_ (Nu c)
  rintro l' ⟨d,e,b⟩;refine⟨d,by simp[e],fun j f=>?_⟩;cases j with
  | zero=>simp
  | succ j=>simpa using b j (by omega)
theorem Zh:∀ {off:Nat} {vs old:List FV} {R R':List FV->Prop},(∀ a,R a->R' a)->QX off vs old R->QX off vs old R'
 | 0,[],old,_,_,h,y=>by cases old<;>exact h _ y
 | 0,v::vs,[],_,_,_,y=>y
 | 0,v::vs,_::old,R,R',h,y=>Zh (off:=0) (vs:=vs) (old:=old) (R:=fun l=>R (v::l)) (R':=fun l=>R' (v::l)) (fun _=>h _) y
 | n+1,vs,[],_,_,_,y=>by cases vs<;>exact y
 | n+1,vs,a::old,R,R',h,y=>by
  cases vs with
  | nil=>exact Zh (off:=n) (vs:=[]) (old:=old) (R:=fun l=>R (a::l)) (R':=fun l=>R' (a::l)) (fun _=>h _) y
  | cons v vs=>exact Zh (off:=n) (vs:=v::vs) (old:=old) (R:=fun l=>R (a::l)) (R':=fun l=>R' (a::l)) (fun _=>h _) y
theorem HF:∀ {cs:List PV} {R R':List FV->Prop},(∀ a,R a->R' a)->Tk cs R->Tk cs R'
 | [],_,_,h,y=>h _ y
 | c::cs,R,R',h,y=>HF (cs:=cs) (R:=fun l=>R (.p c::l)) (R':=fun l=>R' (.p c::l)) (fun _=>h _) y
theorem Fp:∀ {c:FV} {R R':List FV->Prop},(∀ a,R a->R' a)->mG c R->mG c R'
 | .cap0,_,_,h,y=>h _ y
 | .cap a b,R,R',h,y=>Fp (c:=b) (R:=fun l=>R (a::l)) (R':=fun l=>R' (a::l)) (fun _=>h _) y
 | .top,_,_,_,y|.p _,_,_,_,y|.opt ..,_,_,_,y|.tsl ..,_,_,_,y|.ptr ..,_,_,_,y|.hptr _,_,_,_,y|.bself _,_,_,_,y|.bsl ..,_,_,_,y|.vsl ..,_,_,_,y|.eptr ..,_,_,_,y|.mref _,_,_,_,y|.pair ..,_,_,_,y|.stmp _,_,_,_,y|.clo ..,_,_,_,y|.fagg _,_,_,_,y|.nxt ..,_,_,_,y=>by simp[mG]at y
theorem LJ {v:FV} {R R':List FV->Prop} (h:∀ a,R a->R' a) (y:QN v R):QN v R':=by
 unfold QN at *;split at y
 ·exact HF h y
 ·exact Fp h y
 split at y
 ·exact h _ y
 exact y.elim
theorem Hz {α:Type}:∀ {l:List α} {n:Nat} {R R':Nat->Prop},(∀ a,R a->R' a)->Zg l n R->Zg l n R'
 | [],n,_,_,h,y=>h _ y
 | _::l,n,R,R',h,y=>Hz (l:=l) (n:=n+1) h y
theorem Pd {P:Program} {t:TypeId} {R R':Bool->Nat->Prop} (h:∀ a b,R a b->R' a b) (y:bp P t R):bp P t R':=by
 unfold bp at *;split at y
 ·split at y
  ·exact h _ _ y
  exact y.elim
 exact y.elim
theorem Bg {P:Program} {t:TypeId} {a x:Operand} {E:Env} {lo:List AObj} {R:FV->List AObj->Prop} {k off:Nat} (b:oT (qG E) a=.ptr k off) (h:ig P (.store t a x) E lo R) :
  ig P (.store t a x) E lo (fun v lo'=>R v lo'/\lo'.length=lo.length/\∀ j,j≠k->lo'[j]? =lo[j]?):=by
 simp only[ig,oV,Ft,b]at h ⊢;have main:∀ v:FV,(QN v fun vs=>match XK vs with
   | true=>Zg vs 0 fun n=>bp P t fun _ m=>match Nat.beq n m with
    | true=>nX k lo fun o=>match o with
     | .box bt cells=>QX off vs cells fun cells=>Xn k (.box bt cells) lo fun lo=>R (.p (.tup [])) lo
     | _=>False
    | false=>False
   | false=>False)->(QN v fun vs=>match XK vs with
   | true=>Zg vs 0 fun n=>bp P t fun _ m=>match Nat.beq n m with
    | true=>nX k lo fun o=>match o with
     | .box bt cells=>QX off vs cells fun cells=>Xn k (.box bt cells) lo fun lo'=>R (.p (.tup [])) lo'/\lo'.length=lo.length/\∀ j,j≠k->lo'[j]? =lo[j]?
     | _=>False
    | false=>False
   | false=>False):=fun v h=>by
  refine LJ (fun vs h=>?_) h;split at h
  ·refine Hz (fun n h=>?_) h
   refine Pd (fun _ m h=>?_) h;split at h
   ·refine HJ (fun o h=>?_) h
    split at h
    ·refine Zh (fun cells h=>?_) h
     exact Nu h
    exact h.elim
   exact h.elim
  exact h.elim
 split at h
 ·exact⟨h.1,main _ h.2⟩
 exact main _ h
def Ml (P:Program) (sl:List Nat) (n0:Nat) (t:TypeId) (a x:Operand) (E:Env) (lo:List AObj) (R:FV->List AObj->Prop):Prop:=
 ev E a fun v=>match v with
  | .ptr k _=>match XQ sl (60000000+1000 * n0+k)with
   | true=>ig P (.store t a x) E lo R
   | false=>False
  | _=>False
theorem Hy {P:Program} {sl:List Nat} {o:Oper} {t:TypeId} {a x:Operand} (f:o.op=.store t a x) {m:Bool} {n0:Nat} {E:Env} {lo:List AObj} {R:FV->List AObj->Prop} (h:Ml P sl n0 t a x E lo R) :
  ∃ b lo',R b lo'/\Lp sl m n0 o lo lo'/\uR P o (qG E) lo none b lo':=by
 unfold Ml at h;simp only[Ft]at h;split at h
 ·rename_i k off g
  split at h
  ·rename_i i
   have d:=Bg g h;rw[← f]at d;obtain⟨b,lo',⟨h,hlen,j⟩,_,l⟩:=VN d;refine⟨b,lo',h,fun _ n=>⟨by omega,fun _ k' p hp _=>?_⟩,l⟩;have c:k'≠k:=fun e=>by
    have:=(Ee hp).2;rw[e,i]at this;cases this
   rw[j k' c]
  exact h.elim
 exact h.elim
theorem Pe {P:Program} {sl:List Nat} {n0 N:Nat} {all:List Oper} {o:Oper} {E:Env} {lo:List AObj} {R:Env->List AObj->Prop} (T:fw sl o=false) (h:lG P sl n0 N all o E lo R) :
  ∃ E' lo',nj P [] sl true n0 N all.toArray o (qG E) lo (qG E') lo'/\R E' lo':=by
 unfold lG at h;unfold nj;simp only[sJ];obtain⟨g,q,h⟩:=nT h;split at h
 ·rename_i F
  have he:bm o.op=false:=by
   cases U:o.op<;>simp[U,QQ]at F<;>rfl
  split at h
  ·rename_i t x G
   obtain⟨V,h,z⟩:=qB h;have sem:∀ {f:List AObj} {j:FV},tF P t f V (fun v=>v=j)->uR P o (qG E) f g j f:=by
    intro f j h;obtain⟨X,h,y⟩:=VP h;subst h;intro q Lw bs ρ H w eval s L;obtain⟨a,u,_,I,M⟩:=y bs ρ H w _ s (z ρ H _ q (L x (by simp[G,kf])));simp only[execOp,G];exact qT s I M
   unfold ij at h;split at h
   ·rename_i k off
    split at h
    ·rename_i Y
     obtain⟨j,K,h,B,Z,m⟩:=RH h;obtain⟨A,E',C,h⟩:=zZ h;refine⟨E',lo,⟨g,j,q,A,C,.inr (.inl ⟨he,F,rfl,sem (m lo B),fun _ _=>⟨some (k,K),fun k' J e=>?_,fun f O=>sem (m f (O k K rfl))⟩⟩)⟩,h⟩
     cases e;exact⟨Y,Z,B⟩
    exact h.elim
   ·rename_i row
    have h1:∃ j,(nY N o.dst (rX g j) E fun E=>R E lo)/\∀ f,tF P t f (.hptr row) (fun v=>v=j):=by
     unfold tF at h;obtain⟨d,i,A,hi,h⟩:=vk h;have typeI:∀ {R:Bool->Nat->Prop},R (SL d) i.size->bp P t R:=by
      intro R h;unfold bp;simp only[A,hi];exact h
     split at h
     ·rename_i D
      obtain⟨h,hn⟩:=fL h;refine⟨_,h,fun f=>?_⟩;unfold tF;refine typeI ?_;rw[D];have takeI:∀ {n:Nat} {l:List PV} {R:List PV->Prop},n<=l.length->R (l.take n)->XX n l R:=by
       intro n
       induction n with
       | zero=>intro l R _ h; simpa[XX]using h
       | succ n ih=>
        intro l R F h;cases l with
        | nil=>simp at F
        | cons a l=>exact ih (l:=l) (R:=fun l=>R (a::l)) (by simpa using F) (by simpa using h)
      exact takeI hn rfl
     rename_i D;split at h
     ·rename_i c r
      refine⟨_,h,fun f=>?_⟩;unfold tF;refine typeI ?_;rw[D]
     exact h.elim
    obtain⟨j,h,m⟩:=h1;obtain⟨A,E',C,h⟩:=zZ h;exact⟨E',lo,⟨g,j,q,A,C,.inr (.inl ⟨he,F,rfl,sem (m lo),fun _ _=>⟨none,fun k' J e=>(by cases e),fun f _=>sem (m f)⟩⟩)⟩,h⟩
   exact h.elim
  ·rename_i sr d x G
   obtain⟨V,h,z⟩:=qB h;have key:∃ j,(nY N o.dst (rX g j) E fun E=>R E lo)/\∀ f,uR P o (qG E) f g j f:=by
    unfold ie at h;split at h
    ·rename_i p
     obtain⟨j,h,y⟩:=Xi h;refine⟨j,h,fun f q Lw bs ρ H w eval s L=>?_⟩;have s0:SatW { S:=EA,w0:=w,H0:=H,r0:=[] } [] H [] w:={ sath:=s.sath,hlen:=rfl,pre:=jq _,objs:=fun k o v h=>by simp at h,excl:=fun k _ o _ v _ b h=>by simp at h,own:=fun k o v b h=>by simp at h,keep:=Keep.refl _ w,leH:=PH.le.refl H,newH:=fun b o v h=>.inl ⟨v,h⟩ }
     have rx:=z ρ H _ q (L x (by simp[G,kf]));obtain⟨u,I,M⟩:=y q _ [] H w _ s0 rx;simp only[execOp,G];exact qT s I (M.mono (List.nil_prefix) (PH.le.refl H))
    ·rename_i k rows
     have h':FB P g sr d [] (.p (.sl rows)) fun v=>nY N o.dst (rX g v) E fun E=>R E lo:=h
     obtain⟨j,h,y⟩:=Xi h';refine⟨j,h,fun f q Lw bs ρ H w eval s L=>?_⟩;have s0:SatW { S:=EA,w0:=w,H0:=H,r0:=[] } [] H [] w:={ sath:=s.sath,hlen:=rfl,pre:=jq _,objs:=fun k o v h=>by simp at h,excl:=fun k _ o _ v _ b h=>by simp at h,own:=fun k o v b h=>by simp at h,keep:=Keep.refl _ w,leH:=PH.le.refl H,newH:=fun b o v h=>.inl ⟨v,h⟩ }
     have rx:=z ρ H _ q (L x (by simp[G,kf]));obtain⟨u,I,M⟩:=y q _ [] H w _ s0 rx.2;simp only[execOp,G];exact qT s I (M.mono (List.nil_prefix) (PH.le.refl H))
    exact h.elim
   obtain⟨j,h,y⟩:=key;obtain⟨A,E',C,h⟩:=zZ h;exact⟨E',lo,⟨g,j,q,A,C,.inr (.inl ⟨he,F,rfl,y lo,fun _ _=>⟨none,fun k' J e=>(by cases e),fun f _=>y f⟩⟩)⟩,h⟩
  ·rename_i t x i ok G
   have h0:=qB h; clear h; obtain⟨V,h,z⟩:=h0;have h0:=qB h; clear h; obtain⟨i',h,hi'⟩:=h0;unfold Nf at h;split at h
   ·rename_i k
    split at h
    ·rename_i Y
     obtain⟨j,K,h,B,Z,m⟩:=Mi h;obtain⟨A,E',C,h⟩:=zZ h;have sem:∀ {f:List AObj},f[k]? =some K->uR P o (qG E) f g j f:=by
      intro f O;obtain⟨X,e,y⟩:=FE G z hi' (m f O);subst e;exact y
     refine⟨E',lo,⟨g,j,q,A,C,.inr (.inl ⟨he,F,rfl,sem B,fun _ _=>⟨some (k,K),fun k' J e=>?_,fun f O=>sem (O k K rfl)⟩⟩)⟩,h⟩
     cases e;exact⟨Y,Z,B⟩
    exact h.elim
   exact h.elim
  exact h.elim
 rename_i F;split at h
 ·rename_i he
  split at h
  ·obtain⟨j,lo',h,I,y⟩:=VN h
   obtain⟨A,E',C,h⟩:=zZ h;exact⟨E',lo',⟨none,j,q,A,C,.inl ⟨he,rfl,y,I.ok (fun _=>T)⟩⟩,h⟩
  exact h.elim
 rename_i he;obtain⟨j,h,y⟩:=FG h;obtain⟨A,E',C,h⟩:=zZ h;exact⟨E',lo,⟨g,j,q,A,C,.inr (.inr ⟨he,F,rfl,y⟩)⟩,h⟩
section
variable {P:Program} {N:Nat} {ops:Array Oper} {Q:Exit->Act->World->Prop}
theorem Rl {tmps:Array Value} {d:Nat} {b:Bool} (h:tmps.getD d undef=.bool b):tmps[d]? =some (.bool b):=by
 rw[jV]at h;cases a:tmps[d]? with
 | none=>simp[a,undef]at h
 | some v=>simp[a]at h; rw[h]
theorem Sat.put {bs:(Base Lw)} {ρ ρ':List Value} {H H':(PH Lw)} {e:Nat->FV} {lo lo':List AObj} {a:Act} {w w':World} {d:Option Tmp} {v:Value} {c:FV}
  (s:Sat bs N ρ H e lo a w) (f:ρ <+: ρ') (g:PH.le H H') (i:SatW bs ρ' H' lo' w') (j:∀ t,d=some t->t<N) (k:qL ρ' H' c v) :
  Sat bs N ρ' H' (upd e d c) lo' (a.put d v) w':=by
 refine{ i with slots:=fun t=>?_,width:=?_,defers:=?_ }
 ·cases d with
  | none=>exact(s.slots t).mono f g
  | some d=>
   have b:d<a.tmps.size:=by rw[s.width]; exact j d rfl
   simp only[upd,Act.put];by_cases h:t=d
   ·subst h
    simp[jV,b,k]
   simp only[h,if_false];have:=(s.slots t).mono f g
   rwa [show(a.tmps.setIfInBounds d v).getD t undef=a.tmps.getD t undef by
    rw[jV,jV,Array.getElem?_setIfInBounds_ne (Ne.symm h)]]
 ·cases d<;>simp[Act.put,s.width]
 cases d<;>exact s.defers
theorem Lj {o:Oper} {e:Nat->FV} {g:G} {a:Act} (l:gN ops o e g) {ρ:List Value} {H:(PH Lw)} (p:∀ t,qL ρ H (e t) (a.tmps.getD t undef)) :
  Region.wanted o (yielded ops a.tmps)=g.getD true:=by
 unfold gN at l;unfold Region.wanted;split at l
 ·rename_i h; simp[h,l]
 rename_i j c h;obtain⟨oj,d,b,f,m,n⟩:=l;simp only[h];rcases n with ⟨he,rfl⟩|⟨q,he,rfl⟩
 ·have i:=p d
  rw[he]at i;have k:=Rl (mY i);simp only[yielded,f,Option.bind_some,m,k];cases c<;>cases b<;>rfl
 ·have i:=p d
  rw[he]at i;cases q with
  | true=>
   have k:=Rl (mY (ρ:=ρ) (H:=H) (b:=b) (by simpa only[qL,if_true]using i));simp only[yielded,f,Option.bind_some,m,k];cases c<;>cases b<;>rfl
  | false=>
   have k:a.tmps.getD d undef=undef:=by simpa[qL]using i
   have r:∀ b,a.tmps[d]? ≠some (.bool b):=fun b n=>by
    rw[jV,n]at k;simp[undef]at k
   have s:yielded ops a.tmps j=none:=by
    simp only[yielded,f,Option.bind_some,m]
    try (split<;>first|rfl|exact absurd (by assumption) (r _))
   rw[s];cases c<;>rfl
theorem nj.wp {bs:(Base Lw)} {ρ:List Value} {H:(PH Lw)} {o:Oper} {e z:Nat->FV} {lo lo':List AObj} {a:Act} {w:World} {K:Act->World->Prop} {i:Nat} (B:ops[i]? =some o)
  {inl:List Nat} {m:Bool} {n0:Nat} (st:nj P inl inl m n0 N ops o e lo z lo') (s:Sat bs N ρ H e lo a w) (l:∀ ρ' H' a' w',Sat bs N ρ' H' z lo' a' w'->K a' w'):wpOp P ops Q i K a w:=by
 obtain⟨g,k,C,A,rfl,d⟩:=st;unfold wpOp;simp only[B];rw[Lj C s.slots];have sem:oZ g->EU P bs ρ H k lo' ((execOp a.eval o).run P w):=by
  intro c;have p:=fun x (_:x∈o.op.operands)=>nQ s.slots x
  rcases d with ⟨_,rfl,d,_⟩|⟨_,_,rfl,d⟩|⟨_,_,rfl,d⟩
  ·exact d c bs ρ H w a.eval s.toSatW p
  ·exact d.1 c bs ρ H w a.eval s.toSatW p
  exact d _ c bs ρ H w a.eval s.toSatW p
 have run:∀ j,(∀ (ρ':List Value) (H':PH Lw) (v:Value),qL ρ' H' k v->qL ρ' H' j v)->(∀ ρ' H' a' w',Sat bs N ρ' H' (upd e o.dst j) lo' a' w'->K a' w')->oZ g->o.wp P a w K Q:=by
  intro j D q c;have h:=sem c;have oX:∀ v w',dJ bs ρ H k lo' v w'->K (a.put o.dst v) w':=fun v w' ⟨ρ',H',t,E,F,G⟩=>q _ _ _ _ (s.put t E F A (D _ _ _ G))
  unfold Oper.wp;generalize (execOp a.eval o).run P w=r at *;cases r with
  | ok n w'=>
   cases n<;>simp only[EU]at h<;>simp only[Oper.upon]
   case value v=>exact oX v w' h
   case skip=>exact oX undef w' h
   case enter f args=>exact h.mono fun I u ⟨v,e1,t⟩=>by subst e1; exact oX v u t
  | halt x w'=>simp only[EU]at h
 cases g with
 | none=>exact .inl (run k (fun _ _ _ h=>h) l trivial)
 | some b=>
  cases b with
  | true=>exact .inl (run _ (fun _ _ _ h=>by simpa[rX,qL]using h) l rfl)
  | false=>
   have y:lo'=lo:=by
    rcases d with ⟨_,h,_⟩|⟨_,_,h,_⟩|⟨_,_,h,_⟩
    ·cases h
    ·exact h
    exact h
   subst y;exact l _ _ _ _ (s.put (jq _) (PH.le.refl H) s.toSatW A (by simp[rX,qL]))
def vF (P:Program) (f:FuncId) (args:List FV) (lo:List AObj) (R:FV->List AObj->Prop):Prop:=
 ∀ ⦃Lw:Nat⦄ (bs:(Base Lw)) (ρ:List Value) (H:(PH Lw)) (w:World) (vs:List Value),SatW bs ρ H lo w->zJ ρ H args vs ->
  match (callFunc f vs.toArray).run P w with
  | .ok (.value v) w'=>∃ r lo',dJ bs ρ H r lo' v w'/\R r lo'
  | .ok (.enter f' args') w'=>w'=w/\Calls P f' args' w fun b a=>∃ v r lo',b=.returned v/\dJ bs ρ H r lo' v a/\R r lo'
  | _=>False
theorem vF.mono {f:FuncId} {args:List FV} {lo:List AObj} {R R':FV->List AObj->Prop} (h:vF P f args lo R) (b:∀ r lo,R r lo->R' r lo):vF P f args lo R':=by
 intro Lw bs ρ H w vs s c;have:=h bs ρ H w vs s c;generalize (callFunc f vs.toArray).run P w=x at *;cases x with
 | ok n w'=>
  cases n<;>simp only at this ⊢ <;> try exact this
  ·obtain⟨r,lo',a,k⟩:=this; exact⟨r,lo',a,b _ _ k⟩
  exact⟨this.1,this.2.mono fun g d ⟨v,r,lo',e,a,k⟩=>⟨v,r,lo',e,a,b _ _ k⟩⟩
 | halt x w'=>exact this
def PL (v:FV) (lo:List AObj) (no:Prop) (R:List AObj->Prop):Prop:=
 match v with
 | .ptr k off=>nX k lo fun o=>match o with
  | .box T cells=>Qb off cells fun cs=>match cs with
   | .bself j::_=>(QX off [.p .nilp] cells fun cells'=>Xn k (.box T cells') lo R)/\(QX off [.ptr j 0] cells fun cells'=>Xn k (.box T cells') lo R)
   | _=>no
  | _=>no
 | _=>no
theorem zJ.over {ρ:List Value} {H:(PH Lw)}:∀ {cs:List FV} {vs:List Value} {off:Nat} {c:FV} {v:Value},zJ ρ H cs vs->vs[off]? =some v->qL ρ H c v ->
  zJ ρ H (cs.take off++[c]++cs.drop (off+1)) vs
 | [],vs,off,c,v,h,hv,r=>by simp only[zJ]at h; subst h; simp at hv
 | d::cs,vs,0,c,v,h,hv,r=>by
  obtain⟨u,a,rfl,_,rs⟩:=h;simp only[jd,Option.some.injEq]at hv;subst hv;simpa using⟨u,a,rfl,r,rs⟩
 | d::cs,vs,off+1,c,v,h,hv,r=>by
  obtain⟨u,a,rfl,b,rs⟩:=h;have:=rs.over (off:=off) (c:=c) (v:=v) (by simpa using hv) r;have e:(d::cs).drop (off+1+1)=cs.drop (off+1):=rfl;rw[List.take_succ_cons,e,List.cons_append,List.cons_append];exact⟨u,a,rfl,b,this⟩
theorem SatW.rebox {bs:(Base Lw)} {ρ:List Value} {H:(PH Lw)} {lo:List AObj} {w:World} {k:Nat} {T:TypeId} {cells cells':List FV} (s:SatW bs ρ H lo w) (l:lo[k]? =some (.box T cells))
  (h:∀ vs,zJ ρ H cells vs->ρ[k]? ≠none->(∃ b,ρ[k]? =some (.pointer (some ⟨b,0,none⟩))/\w.heap[b]? =some (.cells vs.toArray T (0,0)))->zJ ρ H cells' vs):SatW bs ρ H (lo.set k (.box T cells')) w where
 sath:=s.sath
 hlen:=by simpa using s.hlen
 pre:=s.pre
 objs:=fun i o v a c=>by
  rw[jF]at a;split at a
  ·rename_i e
   subst e;split at a
   ·cases a
    obtain⟨b,vs,rfl,q,r,t⟩:=s.objs _ _ _ l c;exact⟨b,vs,rfl,q,h vs r (by rw[c]; simp) ⟨b,c,q⟩,t⟩
   cases a
  ·exact s.objs i o v a c
 excl:=fun i j o o' v v' b a u c m n d p f=>by
  have key:∀ {i:Nat} {o:AObj},(lo.set k (.box T cells'))[i]? =some o->o.live=true->∃ g,lo[i]? =some g/\g.live=true:=by
   intro i o a d;rw[jF]at a;split at a
   ·rename_i e; subst e; exact⟨_,l,rfl⟩
   exact⟨o,a,d⟩
  obtain⟨g,x,y⟩:=key a d;obtain⟨z,A,B⟩:=key u p;exact s.excl i j g z v v' b x A c m n y B f
 own:=fun i o v b a c d f=>by
  rw[jF]at a;split at a
  ·rename_i e; subst e; exact s.own _ _ v b l c rfl f
  exact s.own i o v b a c d f
 keep:=s.keep
 leH:=s.leH
 newH:=s.newH
theorem LI {bs:(Base Lw)} {ρ:List Value} {H:(PH Lw)} {e:Nat->FV} {lo:List AObj} {a:Act} {w:World} {v:FV} {no:Prop} {R:List AObj->Prop} (h:PL v lo no R) (s:Sat bs N ρ H e lo a w) :
  no\/∃ lo',R lo'/\Sat bs N ρ H e lo' a w:=by
 unfold PL at h;split at h
 ·rename_i k off
  obtain⟨o,y,h⟩:=zd h;split at h
  ·rename_i T cells
   obtain⟨h,B⟩:=uS h;split at h
   ·rename_i j cs z
    have D:cells[off]? =some (.bself j):=by
     have:=congrArg (fun l=>l[0]?) z
     simpa using this
    obtain⟨m,n⟩:=h;obtain⟨m,_⟩:=ng m;obtain⟨n,_⟩:=ng n;obtain⟨m,_⟩:=xL m;obtain⟨n,_⟩:=xL n
    right
    have g:k<ρ.length:=by rw[s.hlen]; exact(jG.1 y).1
    obtain⟨b,vs,E,F,q,_⟩:=s.objs k _ _ y (jf g);have get:∀ {cs:List FV} {vs:List Value} {i:Nat} {c:FV},zJ ρ H cs vs->cs[i]? =some c->∃ v,vs[i]? =some v/\qL ρ H c v:=by
     intro cs
     induction cs with
     | nil=>intro vs i c _ h; simp at h
     | cons d cs ih=>
      intro vs i c x h;obtain⟨v,G,rfl,r,rs⟩:=x;cases i with
      | zero=>simp at h; subst h; exact⟨v,by simp,r⟩
      | succ i=>simp at h; obtain⟨u,hu,I⟩:=ih rs h; exact⟨u,by simpa using hu,I⟩
    obtain⟨x,C,J,K,A⟩:=get q D;have uniq:∀ f,(∃ b,ρ[k]? =some (.pointer (some ⟨b,0,none⟩))/\w.heap[b]? =some (.cells f.toArray T (0,0)))->f=vs:=by
     rintro f ⟨L,e2,t⟩;rw[jf g,E]at e2;cases e2;rw[F]at t;have:=congrArg Array.toList (Obj.cells.inj (Option.some.inj t)).1;simpa using this.symm
    rcases A with rfl|rfl
    ·refine⟨_,m,{ (s.toSatW.rebox (cells':=cells.take off++[.p .nilp]++cells.drop (off+1)) y fun f r _ hw=>?_)with slots:=s.slots,width:=s.width,defers:=s.defers }⟩
     have:=uniq f hw;subst this;exact r.over C (by simp[qL,qu])
    refine⟨_,n,{ (s.toSatW.rebox (cells':=cells.take off++[.ptr j 0]++cells.drop (off+1)) y fun f r _ hw=>?_)with slots:=s.slots,width:=s.width,defers:=s.defers }⟩;have:=uniq f hw;subst this;exact r.over C ⟨J,K,rfl⟩
   exact .inl h
  exact .inl h
 exact .inl h
def lN {α:Type}:List α->List α->(List α->Prop)->Prop
 | [],m,R=>R m
 | a::l,m,R=>lN l m fun l=>R (a::l)
def lH (P:Program) (inl:List Nat) (N:Nat) (all:List Oper) (o:Oper) (E:Env) (lo:List AObj) (R:Env->List AObj->Prop):Prop:=
 match o.op with
 | .call { callee:=.value (.func f),args:=⟨xs⟩,argTypes:=_ }=>match XQ inl f with
  | true=>match o.guard with
   | none=>oU E none xs fun vs=>vF P f vs lo fun r lo=>nY N o.dst r E fun E=>R E lo
   | some _=>Fz all o E fun g=>match g with
    | some b=>(b=true->oU E (some b) xs fun vs=>vF P f vs lo fun r lo=>nY N o.dst (.opt b r) E fun E=>R E lo)/\(b=false->∃ v,nY N o.dst (.opt b v) E fun E=>R E lo)
    | none=>False
  | false=>MB P N all o E lo R
 | .call { callee:=.value (.tmp t),args:=⟨xs⟩,argTypes:=_ }=>match ad inl t with
  | true=>match o.guard with
   | none=>oV E none (.tmp t) fun a=>oU E none xs fun vs=>match a with
    | .clo f c=>mG c fun cs=>lN vs cs fun vs=>vF P f vs lo fun r lo=>nY N o.dst r E fun E=>R E lo
    | .p (.fn f)=>vF P f vs lo fun r lo=>nY N o.dst r E fun E=>R E lo
    | _=>False
   | some _=>False
  | false=>MB P N all o E lo R
 | .call { callee:=.builtin .len,args:=⟨[x]⟩,argTypes:=⟨[t]⟩ }=>ev E x fun v=>match v with
  | .mref k=>match o.guard with
   | none=>iQ P t lo (.mref k) fun v=>nY N o.dst v E fun E=>R E lo
   | some _=>False
  | _=>MB P N all o E lo R
 | .buildSlice t n ⟨qZ⟩=>match Py inl o.dst with
  | true=>match o.guard with
   | none=>DQ P (oc inl o.dst) (Rr inl o.dst) E lo t n qZ fun v lo=>nY N o.dst v E fun E=>R E lo
   | some _=>False
  | false=>MB P N all o E lo R
 | .convert sr d x=>match Py inl o.dst with
  | true=>match o.guard with
   | none=>oV E none x fun x=>RB P sr d lo x fun v lo=>nY N o.dst v E fun E=>R E lo
   | some _=>False
  | false=>MB P N all o E lo R
 | .alloc t=>match Py inl o.dst with
  | true=>match o.guard with
   | none=>DM P t lo fun v lo=>nY N o.dst v E fun E=>R E lo
   | some _=>False
  | false=>MB P N all o E lo R
 | .build t ⟨qZ⟩=>match Rr inl o.dst with
  | true=>match o.guard with
   | none=>FA P E none t qZ fun v=>nY N o.dst v E fun E=>R E lo
   | some _=>False
  | false=>MB P N all o E lo R
 | .load t x=>ev E x fun v=>match v with
  | .eptr k z i off=>match o.guard with
   | none=>Bw P t lo k z i off fun v=>nY N o.dst v E fun E=>R E lo
   | some _=>False
  | .opt g' (.eptr k z i off)=>Fz all o E fun g=>match g with
   | some g=>(g=true->g'=true)/\FD P g t lo k z i off fun v=>nY N o.dst (.opt g v) E fun E=>R E lo
   | none=>False
  | v=>PL v lo (MB P N all o E lo R) (fun lo'=>MB P N all o E lo' R)
 | op=>match o.guard with
  | none=>Td P inl o.dst op E lo (MB P N all o E lo R) fun v lo=>nY N o.dst v E fun E=>R E lo
  | some _=>MB P N all o E lo R
def Nz (P:Program) (inl:List Nat) (N:Nat) (all:List Oper) (K:Env->List AObj->Prop):List Oper->Env->List AObj->Prop
 | [],E,lo=>K E lo
 | o::rest,E,lo=>lH P inl N all o E lo (Nz P inl N all K rest)
theorem QM {α:Type}:∀ {l m:List α} {R:List α->Prop},lN l m R->R (l++m)
 | [],m,R,h=>h
 | a::l,_,R,h=>QM (l:=l) (R:=fun l=>R (a::l)) h
theorem MC {bs:(Base Lw)} {all:List Oper} {inl:List Nat} {o:Oper} {i:Nat} (V:all[i]? =some o) {ρ:List Value} {H:(PH Lw)} {E:Env} {lo:List AObj} {a:Act} {w:World} {R:Env->List AObj->Prop} {K:Act->World->Prop}
  (s:Sat bs N ρ H (qG E) lo a w) (h:lH P inl N all o E lo R) (T:∀ E' lo' ρ' H' D w',R E' lo'->Sat bs N ρ' H' (qG E') lo' D w'->K D w'):wpOp P all.toArray Q i K a w:=by
 have plain:∀ lo,Sat bs N ρ H (qG E) lo a w->MB P N all o E lo R->wpOp P all.toArray Q i K a w:=by
  intro lo s h;obtain⟨E',lo',st,h⟩:=Lf h;exact st.wp (by simpa using V) s fun ρ' H' D w' F=>T E' lo' ρ' H' D w' h F
 have G:all.toArray[i]? =some o:=by simpa using V
 have oX:∀ v w',(∃ r lo',dJ bs ρ H r lo' v w'/\nY N o.dst r E fun E=>R E lo')->K (a.put o.dst v) w':=by
  rintro v w' ⟨r,lo',⟨ρ',H',X,Y,Z,h4⟩,hp⟩;obtain⟨I,E',J,hR⟩:=zZ hp;exact T E' lo' ρ' H' _ w' hR (by rw[J]; exact s.put X Y Z I h4)
 have value:o.guard=none->(∃ v w' r lo',(execOp a.eval o).run P w=.ok (.value v) w'/\dJ bs ρ H r lo' v w'/\nY N o.dst r E fun E=>R E lo')->wpOp P all.toArray Q i K a w:=by
  rintro l ⟨v,w',r,lo',p,y,hp⟩;unfold wpOp;simp only[G,Region.wanted,l,if_true];refine .inl ?_;unfold Oper.wp;rw[p];simp only[Oper.upon];exact oX v w' ⟨r,lo',y,hp⟩
 have calls:o.guard=none->∀ (f:FuncId) (vs:List FV) (us:List Value),zJ ρ H vs us->(execOp a.eval o).run P w=(callFunc f us.toArray).run P w->(vF P f vs lo fun r lo=>nY N o.dst r E fun E=>R E lo)->wpOp P all.toArray Q i K a w:=by
  intro l f vs us S p h;have:=h bs ρ H w us s.toSatW S;unfold wpOp;simp only[G,Region.wanted,l,if_true];refine .inl ?_;unfold Oper.wp;rw[p];generalize (callFunc f us.toArray).run P w=x at *;cases x with
  | ok n w'=>
   cases n<;>simp only at this<;>simp only[Oper.upon]
   case value v=>exact oX v w' this
   case enter f' args'=>
    obtain⟨rfl,B⟩:=this;exact B.mono fun en L ⟨v,r,lo',e,y,k⟩=>by subst e; exact oX v L ⟨r,lo',y,k⟩
   all_goals exact this.elim
  | halt x w'=>exact this.elim
 unfold lH at h;split at h
 ·rename_i f xs ts j
  split at h
  ·rename_i hm
   split at h
   ·rename_i l
    obtain⟨vs,h,A⟩:=dG h;refine calls l f vs (xs.map a.eval) (A ρ H a.eval trivial (fun x _=>nQ s.slots x)) ?_ h
    have M:a.eval (.func f)=.func (.func f) #[] #[]:=rfl;simp only[execOp,j,resolve,Deferred.ofValue,invoke,M,ka,ke,jZ,jY,Array.empty_append,Array.append_empty]
   obtain⟨g,l,h⟩:=nT h;split at h
   ·rename_i b
    unfold wpOp;simp only[G];rw[Lj l s.slots];cases b with
    | true=>
     obtain⟨vs,h,A⟩:=dG (h.1 rfl);have S:=A ρ H a.eval rfl (fun x _=>nQ s.slots x)
     have B:=h bs ρ H w _ s.toSatW S;refine .inl ?_;have fin2:∀ v w',(∃ r lo',dJ bs ρ H r lo' v w'/\nY N o.dst (.opt true r) E fun E=>R E lo')->K (a.put o.dst v) w':=by
      rintro v w' ⟨r,lo',⟨ρ',H',X,Y,Z,h4⟩,hp⟩;exact oX v w' ⟨.opt true r,lo',⟨ρ',H',X,Y,Z,by simpa[qL]using h4⟩,hp⟩
     unfold Oper.wp;have M:a.eval (.func f)=.func (.func f) #[] #[]:=rfl;simp only[execOp,j,resolve,Deferred.ofValue,invoke,M,ka,ke,jZ,jY,Array.empty_append,Array.append_empty];generalize (callFunc f (List.map a.eval xs).toArray).run P w=x at *;cases x with
     | ok n w'=>
      cases n<;>simp only at B<;>simp only[Oper.upon]
      case value v=>exact fin2 v w' B
      case enter f' args'=>
       obtain⟨rfl,B⟩:=B;exact B.mono fun en L ⟨v,r,lo',e,y,k⟩=>by subst e; exact fin2 v L ⟨r,lo',y,k⟩
      all_goals exact B.elim
     | halt x w'=>exact B.elim
    | false=>
     obtain⟨v,hp⟩:=h.2 rfl;obtain⟨I,E',J,hR⟩:=zZ hp;exact T E' lo ρ H _ w hR (by rw[J]; exact s.put (jq _) (PH.le.refl H) s.toSatW I (by simp[qL]))
   exact h.elim
  exact plain lo s h
 ·rename_i t xs ts j
  split at h
  ·rename_i hm
   split at h
   ·rename_i l
    have m:=qB h; clear h; obtain⟨q,h,hfv⟩:=m;have m:=dG h; clear h; obtain⟨vs,h,A⟩:=m;have S:=A ρ H a.eval trivial (fun x _=>nQ s.slots x)
    have rf:=hfv ρ H _ trivial (nQ s.slots (.tmp t));split at h
    ·rename_i f c
     have m:=bl h; clear h; obtain⟨cs,h,hcs⟩:=m;have h:=QM h;obtain⟨us,M,rc⟩:=rf;refine calls l f _ (xs.map a.eval++us) (S.append (hcs _ _ _ rc)) ?_ h;simp only[execOp,j,resolve,Deferred.ofValue,invoke,M,ka,ke,jZ,jY,List.append_toArray,ju]
    ·rename_i f
     have M:a.eval (.tmp t)=.func (.func f) #[] #[]:=by simpa[qL,qu]using rf
     refine calls l f vs (xs.map a.eval) S ?_ h;simp only[execOp,j,resolve,Deferred.ofValue,invoke,M,ka,ke,jZ,jY,Array.empty_append,Array.append_empty]
    exact h.elim
   exact h.elim
  exact plain lo s h
 ·rename_i x t j
  rw[Ft]at h;split at h
  ·rename_i k U
   split at h
   ·rename_i l
    have m:=NP h; clear h; obtain⟨q,h,u⟩:=m;have rx:=nQ s.slots x;rw[U]at rx;obtain⟨v,p,O⟩:=u bs ρ H w o.type _ s.toSatW rx;refine value l ⟨v,w,q,lo,?_,vS s.toSatW O,h⟩;simp only[execOp,j,resolve,invoke,builtin,ka,ke,jZ,jY,jk,jN,p]
   exact h.elim
  exact plain lo s h
 ·rename_i t n qZ j
  split at h
  ·split at h
   ·rename_i l
    have m:=XO h; clear h; obtain⟨q,lo',h,_,u⟩:=m;obtain⟨v,w',p,y⟩:=u bs ρ H w a.eval s.toSatW (fun x _=>nQ s.slots x)
    refine value l ⟨v,w',q,lo',?_,y,h⟩;simp only[execOp,j,jY,ka,p,jZ,ke]
   exact h.elim
  exact plain lo s h
 ·rename_i sr d x j
  split at h
  ·split at h
   ·rename_i l
    have m:=qB h; clear h; obtain⟨x',h,hx'⟩:=m;have m:=Mb h; clear h; obtain⟨q,lo',h,u⟩:=m;obtain⟨v,w',p,y⟩:=u bs ρ H w _ s.toSatW (hx' ρ H _ trivial (nQ s.slots x));refine value l ⟨v,w',q,lo',?_,y,h⟩;simp only[execOp,j,ka,p,jZ,ke]
   exact h.elim
  exact plain lo s h
 ·rename_i t j
  split at h
  ·split at h
   ·rename_i l
    obtain⟨q,lo',h,_,u⟩:=Ua h;obtain⟨v,w',p,y⟩:=u bs ρ H w s.toSatW;refine value l ⟨v,w',q,lo',?_,y,h⟩;simp only[execOp,j,ka,p,jZ,ke]
   exact h.elim
  exact plain lo s h
 ·rename_i t qZ j
  split at h
  ·split at h
   ·rename_i l
    have m:=QR h; clear h; obtain⟨q,h,u⟩:=m;obtain⟨v,p,O⟩:=u trivial ρ H w a.eval (fun x _=>nQ s.slots x)
    refine value l ⟨v,w,q,lo,?_,vS s.toSatW O,h⟩;simp only[execOp,j,jY,ka,p,jZ,ke]
   exact h.elim
  exact plain lo s h
 ·rename_i t x j
  rw[Ft]at h;split at h
  ·rename_i k z i off U
   split at h
   ·rename_i l
    have m:=Xj h; clear h; obtain⟨q,h,u⟩:=m;have rx:=nQ s.slots x;rw[U]at rx;obtain⟨v,p,O⟩:=u bs ρ H w _ s.toSatW rx;refine value l ⟨v,w,q,lo,?_,vS s.toSatW O,h⟩;simp only[execOp,j,ka,p,jZ,ke]
   exact h.elim
  ·rename_i g' k z i' off U
   have m:=nT h; clear h; obtain⟨g,l,h⟩:=m;split at h
   ·rename_i g
    obtain⟨hgg,h⟩:=h;have m:=Ub h; clear h; obtain⟨q,h,u⟩:=m;obtain⟨I,E',J,h⟩:=zZ h;have st:nj P [] [] false 0 N all.toArray o (qG E) lo (qG E') lo:=by
     refine⟨some g,q,l,I,J,.inr (.inl ⟨?_,?_,rfl,⟨fun C Lw bs ρ H w eval s hx=>?_,fun h=>by cases h⟩⟩)⟩
     ·rw[sJ]; simp[j,bm]
     ·simp[j,QQ]
     have C:g=true:=C;have rx:=hx x (by simp[j,kf]);rw[U]at rx;simp only[qL,hgg C,if_true]at rx;obtain⟨v,p,O⟩:=u C bs ρ H w _ s rx;simp only[execOp,j];exact qT s p O
    exact st.wp (by simpa using V) s fun ρ' H' D w' F=>T E' lo ρ' H' D w' h F
   exact h.elim
  rcases LI h s with h|⟨lo',h,F⟩
  ·exact plain lo s h
  exact plain lo' F h
 split at h
 ·rename_i l
  rcases Bx h with h|⟨q,lo',h,he,hi,p,u⟩
  ·exact plain lo s h
  obtain⟨I,E',J,h⟩:=zZ h;have st:nj P inl inl false 0 N all.toArray o (qG E) lo (qG E') lo':=
   ⟨none,q,by simp[gN,l],I,J,.inl ⟨(hi o inl rfl).1,rfl,u o rfl,fun h=>by cases h⟩⟩
  exact st.wp (by simpa using V) s fun ρ' H' D w' F=>T E' lo' ρ' H' D w' h F
 exact plain lo s h
theorem Uh {bs:(Base Lw)} {all:List Oper} {inl:List Nat} {K:Env->List AObj->Prop} (b:∀ ρ H E lo a w,Sat bs N ρ H (qG E) lo a w->K E lo->Q .normal a w) :
  ∀ (l:List Oper) (k:Nat),(∀ j,l[j]? =all[k+j]?)->∀ (ρ:List Value) (H:(PH Lw)) (E:Env) (lo:List AObj) (a:Act) (w:World),Sat bs N ρ H (qG E) lo a w->Nz P inl N all K l E lo ->
   wpOps P all.toArray Q (List.range' k l.length) a w
 | [],k,_,ρ,H,E,lo,a,w,s,h=>by
  simp only[jc,List.range'_zero,wpOps];exact b ρ H E lo a w s h
 | o::l,k,hl,ρ,H,E,lo,a,w,s,h=>by
  rw[ja,List.range'_succ,wpOps_cons];refine MC (by have:=hl 0; simpa using this.symm) s h fun E' lo' ρ' H' c w' d e=>?_;exact Uh b l (k+1) (fun j=>by have:=hl (j+1); simpa[Nat.add_assoc,Nat.add_comm 1 j]using this) ρ' H' E' lo' c w' e d
theorem Bk {bs:(Base Lw)} {ρ:List Value} {H:(PH Lw)} {E:Env} {lo:List AObj} {a:Act} {w:World} {K:Env->List AObj->Prop} {inl:List Nat} {id:Nat} {l:List Oper}
  (b:∀ ρ H E lo a w,Sat bs N ρ H (qG E) lo a w->K E lo->Q .normal a w) (s:Sat bs N ρ H (qG E) lo a w) (h:Nz P inl N l K l E lo):(Code.region id l.toArray false).wp P Q a w:=by
 refine wp_region ?_;have:=Uh (P:=P) b l 0 (by simp) ρ H E lo a w s h;simpa[List.range_eq_range']using this
def iD (P:Program) (inl:List Nat) (m:Bool) (n0 N:Nat) (ops:Array Oper) (K:(Nat->FV)->List AObj->Prop):Nat->Array Bool->(Nat->FV)->List AObj->Prop
 | 0,listed,e,lo=>Region.ready .any ops listed=[]/\K e lo
 | fuel+1,listed,e,lo=>(Region.ready .any ops listed=[]->K e lo) /\
   ∀ i∈Region.ready .any ops listed,∃ o a lo',ops[i]? =some o/\nj P inl inl m n0 N ops o e lo a lo'/\iD P inl m n0 N ops K fuel (listed.setIfInBounds i true) a lo'
theorem mZ {inl:List Nat} {m:Bool} {n0:Nat} {bs:(Base Lw)} {K:(Nat->FV)->List AObj->Prop} (b:∀ ρ H e lo a w,Sat bs N ρ H e lo a w->K e lo->Q .normal a w) :
  ∀ (fuel:Nat) (listed:Array Bool) (ρ:List Value) (H:(PH Lw)) (e:Nat->FV) (lo:List AObj) (a:Act) (w:World),Sat bs N ρ H e lo a w->iD P inl m n0 N ops K fuel listed e lo->wpAny P .any ops Q fuel listed a w
 | 0,_,ρ,H,e,lo,a,w,s,h=>⟨h.1,b ρ H e lo a w s h.2⟩
 | fuel+1,listed,ρ,H,e,lo,a,w,s,h=>⟨fun c=>b ρ H e lo a w s (h.1 c),fun i d=>by
  obtain⟨o,f,lo',g,st,j⟩:=h.2 i d;exact st.wp g s fun ρ' H' k w' l=>mZ b fuel _ ρ' H' f lo' k w' l j⟩
theorem uR.congr {o:Oper} {e a:Nat->FV} {lo lo':List AObj} {g:G} {b:FV} (h:uR P o e lo g b lo') (he:∀ x∈o.op.operands,oT a x=oT e x):uR P o a lo g b lo':=
 fun c Lw bs ρ H w eval s d=>h c bs ρ H w eval s fun x hm=>by rw[← he x hm]; exact d x hm
theorem Re {e:Nat->FV} {d:Option Tmp} {v:FV} {o:Oper} (h:∀ t,d=some t->t ∉ o.looksAt ops):∀ x∈o.op.operands,oT (upd e d v) x=oT e x:=by
 intro x a;cases d with
 | none=>rfl
 | some d=>
  cases x with
  | tmp t=>
   have:t≠d:=fun e1=>by
    subst e1;exact h t rfl (List.mem_append_left _ (List.mem_filterMap.2 ⟨.tmp t,by simpa using a,rfl⟩))
   simp[oT,upd,this]
  | _=>rfl
theorem Ho {e:Nat->FV} {d:Option Tmp} {v:FV} {o:Oper} {g:G} (h:∀ t,d=some t->t ∉ o.looksAt ops):gN ops o (upd e d v) g↔gN ops o e g:=by
 unfold gN;split
 ·exact Iff.rfl
 rename_i j k l;have key:∀ oj f,ops[j]? =some oj->oj.dst=some f->upd e d v f=e f:=by
  intro oj f a c;cases d with
  | none=>rfl
  | some d=>
   have:f≠d:=fun e1=>by
    subst e1;refine h f rfl (List.mem_append_right _ ?_);simp[l,a,c]
   simp[upd,this]
 constructor
 ·rintro⟨oj,f,b,a,c,i⟩
  rw[key oj f a c]at i;exact⟨oj,f,b,a,c,i⟩
 rintro⟨oj,f,b,a,c,i⟩;refine⟨oj,f,b,a,c,?_⟩;rw[key oj f a c];exact i
theorem TG {e:Nat->FV} {d a:Option Tmp} {v v':FV} (h:∀ t,d=some t->a≠some t):upd (upd e d v) a v'=upd (upd e a v') d v:=by
 cases d with
 | none=>rfl
 | some d=>
  cases a with
  | none=>rfl
  | some a=>
   have b:a≠d:=fun e1=>h d rfl (by rw[e1])
   funext t;simp only[upd];by_cases f:t=a
   ·have c:t≠d:=fun c=>b (by rw[← f,← c])
    simp[f,b]
   by_cases c:t=d
   ·have:¬ d=a:=fun g=>b g.symm
    simp[c,this]
   simp[f,c]
def Ge (inl:List Nat) (m:Bool) (oi oj:Oper):Bool:=!PR inl m oi oj&&!PR inl m oj oi
theorem QI.congr {sl:List Nat} {m:Bool} {n0:Nat} {o:Oper} {e b:Nat->FV} {lo:List AObj} {g:G} {c:FV} (h:QI P sl m n0 o e lo g c) (he:∀ x∈o.op.operands,oT b x=oT e x):QI P sl m n0 o b lo g c:=
 ⟨h.1.congr he,fun hm d=>let ⟨kk,h1,h2⟩:=h.2 hm d; ⟨kk,h1,fun a f=>(h2 a f).congr he⟩⟩
theorem QI.back {sl:List Nat} {m:Bool} {n0:Nat} {o n:Oper} {e:Nat->FV} {lo f:List AObj} {g:G} {p:FV} (h:QI P sl m n0 o e f g p) (hm:m=true) (t:n0<=lo.length) (he:Lp sl m n0 n lo f) (hmild:Eb sl n=true) (i:rW sl o=false):QI P sl m n0 o e lo g p:=by
 obtain⟨q,l,r⟩:=h.2 hm i;have u:=(he hm t).2 hmild;have s:∀ k d,q=some (k,d)->lo[k]? =some d:=fun k d j=>let ⟨a,b,c⟩:=l k d j; (u k d a b).2 c
 exact⟨r lo s,fun _ _=>⟨q,fun k d j=>⟨(l k d j).1,(l k d j).2.1,s k d j⟩,r⟩⟩
theorem QI.forth {sl:List Nat} {m:Bool} {n0:Nat} {o n:Oper} {e:Nat->FV} {lo d:List AObj} {g:G} {p:FV} (h:QI P sl m n0 o e lo g p) (hm:m=true) (t:n0<=lo.length) (he:Lp sl m n0 n lo d) (hmild:Eb sl n=true) (i:rW sl o=false):QI P sl m n0 o e d g p:=by
 obtain⟨q,l,r⟩:=h.2 hm i;have u:=(he hm t).2 hmild;have s:∀ k f,q=some (k,f)->d[k]? =some f:=fun k f j=>let ⟨a,b,c⟩:=l k f j; (u k f a b).1 c
 exact⟨r d s,fun _ _=>⟨q,fun k f j=>⟨(l k f j).1,(l k f j).2.1,s k f j⟩,r⟩⟩
theorem nj.grow {inl:List Nat} {m:Bool} {n0:Nat} {o:Oper} {e b:Nat->FV} {lo lo':List AObj} (st:nj P inl inl m n0 N ops o e lo b lo') (a:m=true->n0<=lo.length):m=true->n0<=lo'.length:=by
 intro hm;obtain⟨g,d,_,_,_,c⟩:=st;rcases c with ⟨_,_,_,he⟩|⟨_,_,rfl,_⟩|⟨_,_,rfl,_⟩
 ·exact(he hm (a hm)).1
 ·exact a hm
 exact a hm
theorem nj.swap {inl:List Nat} {m:Bool} {n0:Nat} {oi oj:Oper} {e e1 e2:Nat->FV} {lo t n:List AObj} (z:m=true->n0<=lo.length) (v:oi.apart ops oj=true) (o:Ge inl m oi oj=true)
  (g:nj P inl inl m n0 N ops oi e lo e1 t) (d:nj P inl inl m n0 N ops oj e1 t e2 n):∃ u p,nj P inl inl m n0 N ops oj e lo u p/\nj P inl inl m n0 N ops oi u p e2 n:=by
 obtain⟨A,a2,a3⟩:=Oper.apart_spec v;obtain⟨k,j,w,q,rfl,B⟩:=g;obtain⟨l,h,y,r,rfl,sj⟩:=d;have gj':=(Ho A).1 y;have gi':gN ops oi (upd e oj.dst (rX l h)) k:=(Ho a3).2 w;have ci:∀ x∈oi.op.operands,oT (upd e oj.dst (rX l h)) x=oT e x:=Re a3;have cj:∀ x∈oj.op.operands,oT e x=oT (upd e oi.dst (rX k j)) x:=fun x C=>(Re A x C).symm;have a:upd (upd e oi.dst (rX k j)) oj.dst (rX l h)=upd (upd e oj.dst (rX l h)) oi.dst (rX k j):=TG a2;simp only[Ge,PR,ji,Bool.not_eq_true',Bool.and_eq_false_iff,Bool.or_eq_false_iff,Bool.not_eq_false']at o;rcases B with ⟨f,rfl,g,s⟩|⟨f,li,rfl,g⟩|⟨f,li,rfl,g⟩
 ·rcases sj with ⟨b,rfl,d,_⟩|⟨b,i,rfl,d⟩|⟨b,i,rfl,d⟩
  ·simp[f,b]at o
  ·
   have c:(m=true/\Eb inl oi=true)/\rW inl oj=false:=by simpa[f,b,i]using o
   exact⟨_,lo,⟨l,h,gj',r,rfl,.inr (.inl ⟨b,i,rfl,(d.congr cj).back c.1.1 (z c.1.1) s c.1.2 c.2⟩)⟩,⟨_,j,gi',q,a,.inl ⟨f,rfl,g.congr ci,s⟩⟩⟩
  exact⟨_,lo,⟨l,h,gj',r,rfl,.inr (.inr ⟨b,i,rfl,fun lo=>(d lo).congr cj⟩)⟩,⟨_,j,gi',q,a,.inl ⟨f,rfl,g.congr ci,s⟩⟩⟩
 ·rcases sj with ⟨b,rfl,d,s⟩|⟨b,i,rfl,d⟩|⟨b,i,rfl,d⟩
  ·have c:(m=true/\Eb inl oj=true)/\rW inl oi=false:=by simpa[f,b,li]using o
   exact⟨_,n,⟨_,h,gj',r,rfl,.inl ⟨b,rfl,d.congr cj,s⟩⟩,⟨k,j,gi',q,a,.inr (.inl ⟨f,li,rfl,(g.congr ci).forth c.1.1 (z c.1.1) s c.1.2 c.2⟩)⟩⟩
  ·exact⟨_,_,⟨l,h,gj',r,rfl,.inr (.inl ⟨b,i,rfl,d.congr cj⟩)⟩,⟨k,j,gi',q,a,.inr (.inl ⟨f,li,rfl,g.congr ci⟩)⟩⟩
  exact⟨_,_,⟨l,h,gj',r,rfl,.inr (.inr ⟨b,i,rfl,fun lo=>(d lo).congr cj⟩)⟩,⟨k,j,gi',q,a,.inr (.inl ⟨f,li,rfl,g.congr ci⟩)⟩⟩
 rcases sj with ⟨b,rfl,d,s⟩|⟨b,i,rfl,d⟩|⟨b,i,rfl,d⟩
 ·exact⟨_,n,⟨_,h,gj',r,rfl,.inl ⟨b,rfl,d.congr cj,s⟩⟩,⟨k,j,gi',q,a,.inr (.inr ⟨f,li,rfl,fun lo=>(g lo).congr ci⟩)⟩⟩
 ·exact⟨_,_,⟨l,h,gj',r,rfl,.inr (.inl ⟨b,i,rfl,d.congr cj⟩)⟩,⟨k,j,gi',q,a,.inr (.inr ⟨f,li,rfl,fun lo=>(g lo).congr ci⟩)⟩⟩
 exact⟨_,_,⟨l,h,gj',r,rfl,.inr (.inr ⟨b,i,rfl,fun lo=>(d lo).congr cj⟩)⟩,⟨k,j,gi',q,a,.inr (.inr ⟨f,li,rfl,fun lo=>(g lo).congr ci⟩)⟩⟩
def Gx (ops:Array Oper) (listed:Array Bool):Prop:=∀ (k:Nat) (ok:Oper),ops[k]? =some ok->listed.getD k false=true->∀ x∈ok.after,Region.binds .any x=true->listed.getD x.on false=true
theorem Rm (l:Array Bool) (j k:Nat) (h:l.getD k false=true):(l.setIfInBounds j true).getD k false=true:=by
 rw[jV,Array.getElem?_setIfInBounds];split
 ·split<;>rename_i a b
  ·rfl
  rw[jV]at h; subst a; rw[Array.getElem?_eq_none (by omega)]at h; exact h
 rw[jV]at h; exact h
theorem Gx.set {ops:Array Oper} {listed:Array Bool} (h:Gx ops listed) {j:Nat} (i:j∈Region.ready .any ops listed):Gx ops (listed.setIfInBounds j true):=by
 obtain⟨_,oj,b,a⟩:=mem_ready.1 i;intro k ok c d x f g;refine Rm _ _ _ ?_;by_cases e:k=j
 ·subst e
  have:ok=oj:=Option.some.inj (c.symm.trans b);subst this;exact a x f g
 refine h k ok c ?_ x f g;rw[getD_set_ne false (fun e2=>e e2.symm)]at d
 exact d
theorem Uf {ops:Array Oper} {listed:Array Bool} (h:Gx ops listed) {i:Nat}:∀ (f j:Nat) (oj:Oper),ops[j]? =some oj->(∀ x∈oj.after,Region.binds .any x=true->listed.getD x.on false=true)->QY ops i f j=true->listed.getD i false=true
 | 0,_,_,_,_,b=>by simp[QY]at b
 | f+1,j,oj,hj,ha,b=>by
  simp only[QY,hj,jO]at b;rcases b with b|b
  ·obtain⟨x,c,a⟩:=Array.any_eq_true'.1 b
   simp only[ji,beq_iff_eq]at a;rw[← a.2];exact ha x c a.1
  obtain⟨x,c,a⟩:=Array.any_eq_true'.1 b;simp only[ji]at a;cases he:ops[x.on]? with
  | none=>
   cases f with
   | zero=>simp[QY]at a
   | succ f=>simp[QY,he]at a
  | some ox=>exact Uf h f x.on ox he (fun y e d=>h x.on ox he (ha x c a.1) y e d) a.2
theorem Bl {inl:List Nat} {m:Bool} {n0:Nat} {K:(Nat->FV)->List AObj->Prop} {i:Nat} {oi:Oper} (M:ops[i]? =some oi) :
  ∀ (fuel:Nat) (listed:Array Bool) (e e1:Nat->FV) (lo b:List AObj),
   (∀ j oj,ops[j]? =some oj->j≠i->listed.getD j true=false->(∀ x∈oj.after,Region.binds .any x=true->x.on≠i)->QY ops i ops.size j=false->oi.apart ops oj=true/\Ge inl m oi oj=true) ->
   Gx ops listed->(m=true->n0<=lo.length)->i∈Region.ready .any ops listed->nj P inl inl m n0 N ops oi e lo e1 b ->
   iD P inl m n0 N ops K fuel (listed.setIfInBounds i true) e1 b->iD P inl m n0 N ops K (fuel+1) listed e lo:=by
 intro fuel
 induction fuel with
 | zero=>
  intro listed e e1 lo b _ _ _ g st H;refine⟨fun h=>(by rw[h]at g; cases g),fun j s=>?_⟩;by_cases a:j=i
  ·subst a; exact⟨oi,e1,b,M,st,H⟩
  have:=ready_mono s a;rw[H.1]at this;cases this
 | succ fuel ih=>
  intro listed e e1 lo b hfree t O g st H;refine⟨fun h=>(by rw[h]at g; cases g),fun j s=>?_⟩;by_cases a:j=i
  ·subst a; exact⟨oi,e1,b,M,st,H⟩
  obtain⟨oj,e2,C,f,D,c⟩:=H.2 j (ready_mono s a);obtain⟨l,d,u,n⟩:=mem_ready.1 s;have:d=oj:=Option.some.inj (u.symm.trans f);subst this;have v:∀ x∈d.after,Region.binds .any x=true->x.on≠i:=fun x he R E=>by
   have c:=n x he R;have w:=(mem_ready.1 g).1;rw[E]at c;rcases Nat.lt_or_ge i listed.size with q|q
   ·simp[q]at w c; rw[w]at c; cases c
   simp[Array.getElem?_eq_none q]at c
  have r:QY ops i ops.size j=false:=by
   cases F:QY ops i ops.size j with
   | false=>rfl
   | true=>
    have c:=Uf t _ j d f n F;have w:=(mem_ready.1 g).1;rcases Nat.lt_or_ge i listed.size with q|q
    ·simp[q]at w c; rw[w]at c; cases c
    simp[Array.getElem?_eq_none q]at c
  obtain⟨G,I⟩:=hfree j d f a l v r;obtain⟨y,o,p,z⟩:=nj.swap O G I st D;refine⟨d,y,o,f,p,ih (listed.setIfInBounds j true) y e2 o C (fun k ok S J A L r=>?_) (t.set (ready_mono s a |> fun _=>s)) (p.grow O) (ready_mono g (Ne.symm a)) z ?_⟩
  ·refine hfree k ok S J ?_ L r
   by_cases B:j=k
   ·subst B; exact l
   rw[getD_set_ne true B]at A; exact A
  rw[Array.setIfInBounds_comm _ _ a];exact c
theorem VY {inl:List Nat} {m:Bool} {listed:Array Bool} {i:Nat} {oi:Oper} (f:ops[i]? =some oi) (h:Region.effFree inl m ops listed i=true) (j:Nat) (oj:Oper) (e:ops[j]? =some oj) (b:j≠i)
  (c:listed.getD j true=false) (d:QY ops i ops.size j=false):Ge inl m oi oj=true:=by
 simp only[Region.effFree,f,List.all_eq_true,List.mem_range]at h;have a:=h j (jH.1 e).1;simp only[e,jO,beq_iff_eq,b,false_or,c,jP]at a;rcases a with a|a
 ·exact a
 rw[d]at a; cases a
def leK (n0:Nat) (lo:List AObj) (R:Prop):Prop:=
 match n0 with
 | 0=>R
 | n0+1=>Zg lo 0 fun n=>match Nat.ble (n0+1) n with
  | true=>R
  | false=>False
def Ca (P:Program) (inl:List Nat) (m:Bool) (n0 N:Nat) (all:List Oper) (o:Oper) (E:Env) (lo:List AObj) (R:Env->List AObj->Prop):Prop:=
 match m with
 | false=>MB P N all o E lo R
 | true=>lG P inl n0 N all o E lo R
def XZ (P:Program) (inl:List Nat) (m:Bool) (n0 N:Nat) (all:List Oper) (o:Oper) (E:Env) (lo:List AObj) (R:Env->List AObj->Prop):Prop:=
 match o.op with
 | .call { callee:=.value (.func f),args:=⟨xs⟩,argTypes:=_ }=>match XQ inl f with
  | true=>match o.guard with
   | none=>oU E none xs fun vs=>match XQ inl (86000000+f)with
    | false=>∃ r lo',vF P f vs lo (fun a b=>a=r/\b=lo')/\leK n0 lo' (nY N o.dst r E fun E=>R E lo')
    | true=>∃ r l,vF P f vs lo (fun a b=>a=r/\b=lo++l)/\lN lo l fun lo'=>leK n0 lo' (nY N o.dst r E fun E=>R E lo')
   | some _=>False
  | false=>Ca P inl m n0 N all o E lo R
 | .call { callee:=.value (.tmp t),args:=⟨xs⟩,argTypes:=_ }=>match ad inl t with
  | true=>match o.guard with
   | none=>oV E none (.tmp t) fun d=>oU E none xs fun vs=>match d with
    | .clo f c=>mG c fun cs=>lN vs cs fun vs=>match XQ inl (85000000+t)with
     | false=>∃ r lo',vF P f vs lo (fun a b=>a=r/\b=lo')/\leK n0 lo' (nY N o.dst r E fun E=>R E lo')
     | true=>∃ r l,vF P f vs lo (fun a b=>a=r/\b=lo++l)/\lN lo l fun lo'=>leK n0 lo' (nY N o.dst r E fun E=>R E lo')
    | _=>False
   | some _=>False
  | false=>Ca P inl m n0 N all o E lo R
 | .buildSlice t n ⟨qZ⟩=>match Py inl o.dst with
  | true=>match o.guard with
   | none=>DQ P (oc inl o.dst) (Rr inl o.dst) E lo t n qZ fun v lo=>nY N o.dst v E fun E=>R E lo
   | some _=>False
  | false=>Ca P inl m n0 N all o E lo R
 | .alloc t=>match Py inl o.dst with
  | true=>match o.guard with
   | none=>DM P t lo fun v lo=>nY N o.dst v E fun E=>R E lo
   | some _=>False
  | false=>Ca P inl m n0 N all o E lo R
 | .convert _ _ _=>match Py inl o.dst with
  | true=>False
  | false=>Ca P inl m n0 N all o E lo R
 | .store t (.tmp a) x=>match XQ inl (50000000+a)with
  | true=>match o.guard with
   | none=>Ml P inl n0 t (.tmp a) x E lo fun v lo=>nY N o.dst v E fun E=>R E lo
   | some _=>False
  | false=>Ca P inl m n0 N all o E lo R
 | .load t x=>ev E x fun v=>match v with
  | .eptr k z i off=>match (match m with|false=>true|true=>rW inl o)with
   | true=>match o.guard with
    | none=>Bw P t lo k z i off fun v=>nY N o.dst v E fun E=>R E lo
    | some _=>False
   | false=>False
  | .opt g' (.eptr k z i off)=>match (match m with|false=>true|true=>rW inl o)with
   | true=>Fz all o E fun g=>match g with
    | some g=>(g=true->g'=true)/\FD P g t lo k z i off fun v=>nY N o.dst (.opt g v) E fun E=>R E lo
    | none=>False
   | false=>False
  | _=>Ca P inl m n0 N all o E lo R
 | .build t ⟨qZ⟩=>match Rr inl o.dst with
  | true=>match o.guard with
   | none=>FA P E none t qZ fun v=>nY N o.dst v E fun E=>R E lo
   | some _=>False
  | false=>Ca P inl m n0 N all o E lo R
 | op=>match o.guard with
  | none=>Td P inl o.dst op E lo (Ca P inl m n0 N all o E lo R) fun v lo=>nY N o.dst v E fun E=>R E lo
  | some _=>Ca P inl m n0 N all o E lo R
def Lg (P:Program) (inl:List Nat) (m:Bool) (n0 N:Nat) (all:List Oper) (K:Env->List AObj->Prop):List Oper->Env->List AObj->Prop
 | [],E,lo=>K E lo
 | o::rest,E,lo=>XZ P inl m n0 N all o E lo (Lg P inl m n0 N all K rest)
theorem Gh {n0:Nat} {lo:List AObj} {R:Prop} (h:leK n0 lo R):R/\n0<=lo.length:=by
 unfold leK at h;split at h
 ·exact⟨h,jR _⟩
 have h:=zG h;rw[jx]at h;split at h
 ·rename_i a; exact⟨h,jh a⟩
 exact h.elim
theorem gK {inl:List Nat} {m:Bool} {n0:Nat} {all:List Oper} {o:Oper} {E:Env} {lo:List AObj} {R:Env->List AObj->Prop} (F:m=false->n0=0) (h:XZ P inl m n0 N all o E lo R) :
  ∃ E' lo',nj P inl inl m n0 N all.toArray o (qG E) lo (qG E') lo'/\R E' lo':=by
 have plain:vU inl o=bm o.op->fw inl o=false->(Ca P inl m n0 N all o E lo R)->∃ E' lo',nj P inl inl m n0 N all.toArray o (qG E) lo (qG E') lo'/\R E' lo':=by
  intro e hst h;cases m with
  | false=>
   obtain rfl:=F rfl;obtain⟨E',lo',st,h⟩:=Lf h;refine⟨E',lo',?_,h⟩;obtain⟨g,B,h1,h2,h3,h4⟩:=st;refine⟨g,B,h1,h2,h3,?_⟩;simp only[sJ]at h4;simp only[e];rcases h4 with ⟨a,b,c,d⟩|⟨a,b,c,d⟩|h4
   ·exact .inl ⟨a,b,c,fun h=>by cases h⟩
   ·exact .inr (.inl ⟨a,b,c,d.1,fun h=>by cases h⟩)
   exact .inr (.inr h4)
  | true=>
   obtain⟨E',lo',st,h⟩:=Pe hst h;refine⟨E',lo',?_,h⟩;unfold nj at st ⊢;simp only[sJ]at st;simp only[e];exact st
 unfold XZ at h;split at h
 ·rename_i f xs K j
  split at h
  ·rename_i hm
   split at h
   ·rename_i q
    obtain⟨vs,h,S⟩:=dG h;have main:∀ r lo',vF P f vs lo (fun a b=>a=r/\b=lo')->Lp inl m n0 o lo lo'->(nY N o.dst r E fun E=>R E lo')->∃ E' lo',nj P inl inl m n0 N all.toArray o (qG E) lo (qG E') lo'/\R E' lo':=by
     intro r lo' G T h;obtain⟨u,E',y,h⟩:=zZ h;refine⟨E',lo',⟨none,r,by simp[gN,q],u,y,.inl ⟨by simp[vU,j,hm],rfl,?_,T⟩⟩,h⟩;intro _ Lw bs ρ H w eval s D;have rl:=S ρ H eval trivial (fun x U=>D x (by rw[j]; simp[kf,kg,U]))
     have:=G bs ρ H w _ s rl;have hf:eval (.func f)=.func (.func f) #[] #[]:=by
      have:=D (.func f) (by rw[j]; simp[kf,kg]);simpa[oT,qL,qu]using this
     simp only[execOp,j,resolve,Deferred.ofValue,invoke,hf,ka,ke,jZ,jY,Array.empty_append,Array.append_empty];generalize (callFunc f (List.map eval xs).toArray).run P w=x at *;cases x with
     | ok n w'=>
      cases n<;>simp only at this<;>simp only[EU]
      case value v=>
       obtain⟨r',V,I,rfl,rfl⟩:=this;exact I
      case enter f' args'=>
       obtain⟨rfl,X⟩:=this;exact X.mono fun en w'' ⟨v,r',V,e,I,e1,e2⟩=>by subst e1; subst e2; exact⟨v,e,I⟩
      all_goals exact this.elim
     | halt x w'=>exact this.elim
    split at h
    ·rename_i hb
     obtain⟨r,lo',G,h⟩:=h;obtain⟨h,C⟩:=Gh h;exact main r lo' G (fun _ _=>⟨C,fun hmild=>by simp[j,FJ,Eb,fw,hb]at hmild⟩) h
    obtain⟨r,l,G,h⟩:=h;have h:=QM h;obtain⟨h,C⟩:=Gh h;refine main r (lo++l) G (fun _ hn=>⟨C,fun _ k ob Y _=>?_⟩) h;rw[jB (Nat.lt_of_lt_of_le (Ee Y).1 hn)]
   exact h.elim
  rename_i hm;exact plain (by simp only[vU,j,bm]; simpa using hm) (by simp[fw,j,hm]) h
 ·rename_i t xs K j
  split at h
  ·rename_i hm
   split at h
   ·rename_i q
    have F:=qB h; clear h; obtain⟨B,h,hfv⟩:=F;have F:=dG h; clear h; obtain⟨vs,h,S⟩:=F;split at h
    ·rename_i f c
     have F:=bl h; clear h; obtain⟨cs,h,hcs⟩:=F;have h:=QM h;have main:∀ r lo',vF P f (vs++cs) lo (fun a b=>a=r/\b=lo')->Lp inl m n0 o lo lo'->(nY N o.dst r E fun E=>R E lo')->∃ E' lo',nj P inl inl m n0 N all.toArray o (qG E) lo (qG E') lo'/\R E' lo':=by
      intro r lo' G T h;obtain⟨u,E',y,h⟩:=zZ h;refine⟨E',lo',⟨none,r,by simp[gN,q],u,y,.inl ⟨by simp[vU,j,hm],rfl,?_,T⟩⟩,h⟩;intro _ Lw bs ρ H w eval s D;have rl:=S ρ H eval trivial (fun x U=>D x (by rw[j]; simp[kf,kg,U]))
      have rf:=hfv ρ H (eval (.tmp t)) trivial (D (.tmp t) (by rw[j]; simp[kf,kg]));obtain⟨us,hf,rc⟩:=rf;have:=G bs ρ H w _ s (rl.append (hcs _ _ _ rc));simp only[execOp,j,resolve,Deferred.ofValue,invoke,hf,ka,ke,jZ,jY,List.append_toArray,ju];generalize (callFunc f (List.map eval xs++us).toArray).run P w=x at *;cases x with
      | ok n w'=>
       cases n<;>simp only at this<;>simp only[EU]
       case value v=>
        obtain⟨r',V,I,rfl,rfl⟩:=this;exact I
       case enter f' args'=>
        obtain⟨rfl,X⟩:=this;exact X.mono fun en w'' ⟨v,r',V,e,I,e1,e2⟩=>by subst e1; subst e2; exact⟨v,e,I⟩
       all_goals exact this.elim
      | halt x w'=>exact this.elim
     split at h
     ·rename_i hb
      obtain⟨r,lo',G,h⟩:=h;obtain⟨h,C⟩:=Gh h;exact main r lo' G (fun _ _=>⟨C,fun hmild=>by simp[j,FJ,Eb,fw,hb]at hmild⟩) h
     obtain⟨r,l,G,h⟩:=h;have h:=QM h;obtain⟨h,C⟩:=Gh h;refine main r (lo++l) G (fun _ hn=>⟨C,fun _ k ob Y _=>?_⟩) h;rw[jB (Nat.lt_of_lt_of_le (Ee Y).1 hn)]
    exact h.elim
   exact h.elim
  rename_i hm;exact plain (by simp only[vU,j,bm]; simpa using hm) (by simp[fw,j,hm]) h
 ·rename_i t n qZ j
  split at h
  ·rename_i hown
   split at h
   ·rename_i q
    obtain⟨B,lo',h,A,p⟩:=XO h;obtain⟨u,E',y,h⟩:=zZ h;have Z:FJ o.op=true:=by simp[j,FJ]
    refine⟨E',lo',⟨none,B,by simp[gN,q],u,y,.inl ⟨by simp[vU,j,hown],rfl,?_,zA.ok (fun _=>by simp[fw,j]) (by rw[Z]; exact A)⟩⟩,h⟩
    intro _ Lw bs ρ H w eval s D;obtain⟨v,w',A,I⟩:=p bs ρ H w eval s (fun x hx'=>D x (by rw[j]; simpa[kf]using hx'))
    simp only[execOp,j,jY,ka,A,jZ,ke];exact I
   exact h.elim
  rename_i hm;exact plain (by simp only[vU,j,bm]; simpa using hm) (by simp[fw,j]) h
 ·rename_i t j
  split at h
  ·split at h
   ·rename_i q
    obtain⟨B,lo',h,A,p⟩:=Ua h;obtain⟨u,E',y,h⟩:=zZ h;have Z:FJ o.op=true:=by simp[j,FJ]
    refine⟨E',lo',⟨none,B,by simp[gN,q],u,y,.inl ⟨by simp[vU,j,bm],rfl,?_,zA.ok (fun _=>by simp[fw,j]) (by rw[Z]; exact A)⟩⟩,h⟩
    intro _ Lw bs ρ H w eval s D;obtain⟨v,w',A,I⟩:=p bs ρ H w s;simp only[execOp,j,ka,A,jZ,ke];exact I
   exact h.elim
  exact plain (by simp[vU,j]) (by simp[fw,j]) h
 ·rename_i sr d x j
  split at h
  ·exact h.elim
  rename_i hm;exact plain (by simp only[vU,j,bm]; simpa using hm) (by simp[fw,j]) h
 ·rename_i t a x j
  split at h
  ·rename_i hs0
   split at h
   ·rename_i q
    obtain⟨B,lo',h,A,p⟩:=Hy (m:=m) (n0:=n0) j h;obtain⟨u,E',y,h⟩:=zZ h;exact⟨E',lo',⟨none,B,by simp[gN,q],u,y,.inl ⟨by simp[vU,j,bm],rfl,p,A⟩⟩,h⟩
   exact h.elim
  rename_i hm;exact plain (by simp[vU,j]) (by simpa[fw,j]using hm) h
 ·rename_i t x j
  rw[Ft]at h;split at h
  ·rename_i k z i off Y
   split at h
   ·rename_i J
    split at h
    ·rename_i q
     have F:=Xj h; clear h; obtain⟨B,h,p⟩:=F;obtain⟨u,E',y,h⟩:=zZ h;refine⟨E',lo,⟨none,B,by simp[gN,q],u,y,.inr (.inl ⟨by simp[vU,j,bm],by simp[j,QQ],rfl,⟨?_,fun hm p=>by rw[hm]at J; rw[show rW inl o=true from J]at p; cases p⟩⟩)⟩,h⟩
     intro _ Lw bs ρ H w eval s D;have rx:=D x (by simp[j,kf]);rw[Y]at rx;obtain⟨v,A,rv⟩:=p bs ρ H w _ s rx;simp only[execOp,j];exact qT s A rv
    exact h.elim
   exact h.elim
  ·rename_i g' k z i off Y
   split at h
   ·rename_i J
    have F:=nT h; clear h; obtain⟨g,q,h⟩:=F;split at h
    ·rename_i g
     obtain⟨hgg,h⟩:=h;have F:=Ub h; clear h; obtain⟨B,h,p⟩:=F;obtain⟨u,E',y,h⟩:=zZ h;refine⟨E',lo,⟨some g,B,q,u,y,.inr (.inl ⟨by simp[vU,j,bm],by simp[j,QQ],rfl,⟨?_,fun hm p=>by rw[hm]at J; rw[show rW inl o=true from J]at p; cases p⟩⟩)⟩,h⟩
     intro L Lw bs ρ H w eval s D;have L:g=true:=L;have rx:=D x (by simp[j,kf]);rw[Y]at rx;simp only[qL,hgg L,if_true]at rx;obtain⟨v,A,rv⟩:=p L bs ρ H w _ s rx;simp only[execOp,j];exact qT s A rv
    exact h.elim
   exact h.elim
  exact plain (by simp[vU,j]) (by simp[fw,j]) h
 ·rename_i t qZ j
  split at h
  ·split at h
   ·rename_i q
    obtain⟨B,h,p⟩:=QR h;obtain⟨u,E',y,h⟩:=zZ h;refine⟨E',lo,⟨none,B,by simp[gN,q],u,y,.inr (.inr ⟨by simp[vU,j,bm],by simp[j,QQ],rfl,?_⟩)⟩,h⟩;intro _ hg' Lw bs ρ H w eval s D;obtain⟨v,A,rv⟩:=p hg' ρ H w eval (fun x hx'=>D x (by rw[j]; simpa[kf]using hx'))
    simp only[execOp,j,jY];exact qT s A rv
   exact h.elim
  exact plain (by simp[vU,j]) (by simp[fw,j]) h
 rename_i M O hne3 hne6 hne5 hne4 hne7 hne8;have e1:vU inl o=bm o.op:=by
  unfold vU;split
  ·rename_i f xs K j; exact absurd j (M f xs.toList K)
  ·rename_i f xs K j; exact absurd j (O f xs.toList K)
  ·rename_i t n qZ j; exact absurd j (hne3 t n qZ.toList)
  ·rename_i sr d x j; exact absurd j (hne5 sr d x)
  rfl
 have e2:fw inl o=false:=by
  unfold fw;split
  ·rename_i t a x j; exact absurd j (hne4 t a x)
  ·rename_i t xs K j; exact absurd j (O t xs.toList K)
  ·rename_i f xs K j; exact absurd j (M f xs.toList K)
  rfl
 split at h
 ·rename_i q
  rcases Bx h with h|⟨B,lo',h,he,hi,A,p⟩
  ·exact plain e1 e2 h
  obtain⟨u,E',y,h⟩:=zZ h;exact⟨E',lo',⟨none,B,by simp[gN,q],u,y,.inl ⟨(hi o inl rfl).1,rfl,p o rfl,zA.ok (fun _=>e2) A⟩⟩,h⟩
 exact plain e1 e2 h
theorem MF {inl:List Nat} {m:Bool} {n0:Nat} (a:m=false->n0=0) {K:(Nat->FV)->List AObj->Prop} {K':Env->List AObj->Prop} {all:List Oper} (i:∀ E lo,K' E lo->K (qG E) lo) :
  ∀ (l:List Oper) (k:Nat) (listed:Array Bool) (E:Env) (lo:List AObj),(∀ j,l[j]? =all[k+j]?)->Gx all.toArray listed->(m=true->n0<=lo.length) ->
  Region.lexFrom .any all.toArray l.length k listed=true->Region.effFrom inl m all.toArray l.length k listed=true->Lg P inl m n0 N all K' l E lo->iD P inl m n0 N all.toArray K l.length listed (qG E) lo
 | [],_,_,E,lo,_,_,_,hB,_,h=>⟨by simpa[Region.lexFrom]using hB,i E lo h⟩
 | o::l,k,listed,E,lo,hl,hcl,hn,hB,hF,h=>by
  have d:all.toArray[k]? =some o:=by have:=hl 0; simpa using this.symm
  simp only[ja,Region.lexFrom,Region.effFrom,ji]at hB hF;obtain⟨⟨n,q⟩,e⟩:=hB;obtain⟨E',lo',st,h⟩:=gK a h;refine Bl d l.length listed (qG E) (qG E') lo lo' (fun j oj p b c f g=>⟨Region.free_spec d q j oj p b c f,VY d hF.1 j oj p b c g⟩) hcl hn (by simpa using n) st ?_;exact MF a i l (k+1) _ E' lo' (fun j=>by have:=hl (j+1); simpa[Nat.add_assoc,Nat.add_comm 1 j]using this) (hcl.set (by simpa using n)) (st.grow hn) e hF.2 h
theorem Va {inl:List Nat} {c:Bool} {n0:Nat} {bs:(Base Lw)} {ρ:List Value} {H:(PH Lw)} {E:Env} {lo:List AObj} {a:Act} {w:World} {K:Env->List AObj->Prop} {id:Nat} {l:List Oper} (hm:P.follows .mixedOrders=true) (f:c=false->n0=0) (j:c=true->n0<=lo.length)
  (g:Hf inl c l.toArray=true) (n:∀ ρ H E lo a w,Sat bs N ρ H (qG E) lo a w->K E lo->Q .normal a w) (s:Sat bs N ρ H (qG E) lo a w) (h:Lg P inl c n0 N l K l E lo):(Code.region id l.toArray true).wp P Q a w:=by
 simp only[Hf,Go.Region.lexB,ji]at g;have s':Sat bs N ρ H (qG E) lo a { w with drawn:=w.drawn+1 }:=by
  refine{ (s.toSatW.calm (H':=H) (w':={ w with drawn:=w.drawn+1 }) ⟨PH.le.refl H,⟨s.sath.cell,s.sath.root,s.sath.low,s.sath.nf⟩,⟨rfl,rfl,rfl,jw _,fun _ _ _=>rfl⟩,fun b o v h=>.inl ⟨v,h⟩⟩)with slots:=s.slots,width:=s.width,defers:=s.defers }
 refine wp_region_any hm (mZ (inl:=inl) (m:=c) (n0:=n0) (K:=fun e lo=>∃ E,qG E=e/\K E lo) (fun ρ H e lo a w s ⟨E,p,d⟩=>n ρ H E lo a w (by rw[p]; exact s) d) _ _ ρ H (qG E) lo a _ s' ?_)
 have:=MF (P:=P) (inl:=inl) (m:=c) (n0:=n0) (N:=N) f (K:=fun e lo=>∃ E,qG E=e/\K E lo) (K':=K) (fun E lo d=>⟨E,rfl,d⟩) l 0 (Array.replicate l.toArray.size false) E lo (by simp) (fun k ok d i=>by simp only[jV,Array.getElem?_replicate]at i; split at i<;>cases i) j (by simpa using g.1.2) (by simpa using g.2) h
 simpa using this
inductive Plan where
 | done
 | one (i:Nat) (p:Plan)
 | two (i:Nat) (p:Plan) (j:Nat) (q:Plan)
def FO (inl:List Nat) (m:Bool) (ops:Array Oper):Plan->Nat->Array Bool->Bool
 | .done,0,l=>(Region.ready .any ops l).isEmpty
 | .one i p,f+1,l=>(Region.ready .any ops l).contains i&&Region.free .any ops l i&&Region.effFree inl m ops l i&&FO inl m ops p f (l.setIfInBounds i true)
 | .two i p j q,f+1,l=>Region.ready .any ops l==[i,j]&&FO inl m ops p f (l.setIfInBounds i true)&&FO inl m ops q f (l.setIfInBounds j true)
 | _,_,_=>false
def Lh (P:Program) (inl:List Nat) (m:Bool) (n0 N:Nat) (ops:List Oper) (K:Env->List AObj->Prop):Plan->Env->List AObj->Prop
 | .done,E,lo=>K E lo
 | .one i p,E,lo=>nX i ops fun o=>XZ P inl m n0 N ops o E lo (Lh P inl m n0 N ops K p)
 | .two i p j q,E,lo=>(nX i ops fun o=>XZ P inl m n0 N ops o E lo (Lh P inl m n0 N ops K p))/\(nX j ops fun o=>XZ P inl m n0 N ops o E lo (Lh P inl m n0 N ops K q))
theorem Xp {inl:List Nat} {m:Bool} {n0:Nat} (a:m=false->n0=0) {K:(Nat->FV)->List AObj->Prop} {K':Env->List AObj->Prop} {all:List Oper} (n:∀ E lo,K' E lo->K (qG E) lo) :
  ∀ (p:Plan) (f:Nat) (listed:Array Bool) (E:Env) (lo:List AObj),Gx all.toArray listed->(m=true->n0<=lo.length) ->
  FO inl m all.toArray p f listed=true->Lh P inl m n0 N all K' p E lo->iD P inl m n0 N all.toArray K f listed (qG E) lo
 | .done,0,listed,E,lo,_,_,hB,h=>⟨by simpa[FO]using hB,n E lo h⟩
 | .one i p,f+1,listed,E,lo,hcl,hn,hB,h=>by
  simp only[FO,ji]at hB;obtain⟨⟨⟨b,x⟩,y⟩,r⟩:=hB;obtain⟨o,c,h⟩:=zd h;have s:all.toArray[i]? =some o:=by simpa using c
  obtain⟨E',lo',st,h⟩:=gK a h;refine Bl s f listed (qG E) (qG E') lo lo' (fun j oj v d g t u=>⟨Region.free_spec s x j oj v d g t,VY s y j oj v d g u⟩) hcl hn (by simpa using b) st ?_;exact Xp a n p f _ E' lo' (hcl.set (by simpa using b)) (st.grow hn) r h
 | .two i p j q,f+1,listed,E,lo,hcl,hn,hB,h=>by
  simp only[FO,ji,beq_iff_eq]at hB;obtain⟨⟨b,hp⟩,z⟩:=hB;refine⟨fun e=>(by rw[b]at e; cases e),fun k l=>?_⟩;have w:=hcl.set l;rw[b]at l;have l:k=i\/k=j:=by simpa using l
  rcases l with rfl|rfl
  ·obtain⟨o,c,h⟩:=zd h.1
   obtain⟨E',lo',st,h⟩:=gK a h;exact⟨o,_,_,by simpa using c,st,Xp a n p f _ E' lo' w (st.grow hn) hp h⟩
  obtain⟨o,c,h⟩:=zd h.2;obtain⟨E',lo',st,h⟩:=gK a h;exact⟨o,_,_,by simpa using c,st,Xp a n q f _ E' lo' w (st.grow hn) z h⟩
 | .done,_+1,_,_,_,_,_,hB,_=>by simp[FO]at hB
 | .one ..,0,_,_,_,_,_,hB,_=>by simp[FO]at hB
 | .two ..,0,_,_,_,_,_,hB,_=>by simp[FO]at hB
def FT (ops:Array Oper) (listed:Array Bool) (l:List Nat):Bool:=Region.ready .any ops listed==l
def DF (ops:Array Oper):Bool:=!(ops.size==4)||FT ops #[false,false,false,false] [0]&&FT ops #[true,false,false,false] [1,2]&&FT ops #[true,true,false,false] [2]&&FT ops #[true,false,true,false] [1] &&
 FT ops #[true,true,true,false] [3]&&FT ops #[true,true,true,true] []
def Ei (P:Program) (inl:List Nat) (N:Nat) (ops:List Oper) (K:Env->List AObj->Prop) (E:Env) (lo:List AObj):Prop:=
 match ops with
 | [o0,o1,o2,o3]=>XZ P inl false 0 N ops o0 E lo fun E lo=>
   XZ P inl false 0 N ops o1 E lo (fun E lo=>XZ P inl false 0 N ops o2 E lo (fun E lo=>XZ P inl false 0 N ops o3 E lo K)) /\
   XZ P inl false 0 N ops o2 E lo (fun E lo=>XZ P inl false 0 N ops o1 E lo (fun E lo=>XZ P inl false 0 N ops o3 E lo K))
 | ops=>∃ p:Plan,FO inl true ops.toArray p ops.length (Array.replicate ops.length false)=true/\Zg lo 0 fun n0=>Lh P inl true n0 N ops K p E lo
theorem Cb {inl:List Nat} {bs:(Base Lw)} {ρ:List Value} {H:(PH Lw)} {E:Env} {lo:List AObj} {a:Act} {w:World} {K:Env->List AObj->Prop} {id:Nat} {l:List Oper} (hm:P.follows .mixedOrders=true)
  (D:DF l.toArray=true) (F:∀ ρ H E lo a w,Sat bs N ρ H (qG E) lo a w->K E lo->Q .normal a w) (s:Sat bs N ρ H (qG E) lo a w) (h:Ei P inl N l K E lo):(Code.region id l.toArray true).wp P Q a w:=by
 have s':Sat bs N ρ H (qG E) lo a { w with drawn:=w.drawn+1 }:=by
  refine{ (s.toSatW.calm (H':=H) (w':={ w with drawn:=w.drawn+1 }) ⟨PH.le.refl H,⟨s.sath.cell,s.sath.root,s.sath.low,s.sath.nf⟩,⟨rfl,rfl,rfl,jw _,fun _ _ _=>rfl⟩,fun b o v h=>.inl ⟨v,h⟩⟩)with slots:=s.slots,width:=s.width,defers:=s.defers }
 unfold Ei at h;split at h
 ·rename_i j d f g
  simp only[DF,FT,jL,ja,jc,kbs,Bool.not_true,Bool.false_or,ji,beq_iff_eq]at D;obtain⟨⟨⟨⟨⟨r0,G⟩,I⟩,J⟩,L⟩,M⟩:=D;refine wp_region_any hm (mZ (inl:=inl) (m:=false) (n0:=0) (K:=fun e lo=>∃ E,qG E=e/\K E lo) (fun ρ H e lo a w s ⟨E,x,r⟩=>F ρ H E lo a w (by rw[x]; exact s) r) 4 _ ρ H (qG E) lo a _ s' ?_)
  obtain⟨V,O,y,t,u⟩:=gK (fun _=>rfl) h
  have last:∀ {E lo},XZ P inl false 0 N [j,d,f,g] g E lo K->iD P inl false 0 N #[j,d,f,g] (fun e lo=>∃ E,qG E=e/\K E lo) 1 #[true,true,true,false] (qG E) lo:=by
   intro E lo h;obtain⟨R,S,z,h⟩:=gK (fun _=>rfl) h
   refine⟨fun e=>(by rw[L]at e; cases e),fun i c=>?_⟩;rw[L]at c;obtain rfl:i=3:=by simpa using c
   exact⟨g,_,_,rfl,z,M,R,rfl,h⟩
  refine⟨fun e=>(by rw[show Array.replicate (List.toArray [j,d,f,g]).size false = #[false,false,false,false]from rfl,r0]at e; cases e),fun i c=>?_⟩;rw[show Array.replicate (List.toArray [j,d,f,g]).size false = #[false,false,false,false]from rfl,r0]at c;obtain rfl:i=0:=by simpa using c
  refine⟨j,_,_,rfl,y,?_⟩;refine⟨fun e=>(by rw[show(Array.replicate (List.toArray [j,d,f,g]).size false).setIfInBounds 0 true = #[true,false,false,false]from rfl,G]at e; cases e),fun i c=>?_⟩;rw[show(Array.replicate (List.toArray [j,d,f,g]).size false).setIfInBounds 0 true = #[true,false,false,false]from rfl,G]at c;have c:i=1\/i=2:=by simpa using c
  rcases c with rfl|rfl
  ·obtain⟨T,A,n,t⟩:=gK (fun _=>rfl) t
   obtain⟨U,B,q,t⟩:=gK (fun _=>rfl) t
   refine⟨d,_,_,rfl,n,fun e=>(by rw[show((Array.replicate (List.toArray [j,d,f,g]).size false).setIfInBounds 0 true).setIfInBounds 1 true = #[true,true,false,false]from rfl,I]at e; cases e),fun i c=>?_⟩;rw[show((Array.replicate (List.toArray [j,d,f,g]).size false).setIfInBounds 0 true).setIfInBounds 1 true = #[true,true,false,false]from rfl,I]at c;obtain rfl:i=2:=by simpa using c
   exact⟨f,_,_,rfl,q,last t⟩
  obtain⟨T,A,n,u⟩:=gK (fun _=>rfl) u
  obtain⟨U,B,q,u⟩:=gK (fun _=>rfl) u
  refine⟨f,_,_,rfl,n,fun e=>(by rw[show((Array.replicate (List.toArray [j,d,f,g]).size false).setIfInBounds 0 true).setIfInBounds 2 true = #[true,false,true,false]from rfl,J]at e; cases e),fun i c=>?_⟩;rw[show((Array.replicate (List.toArray [j,d,f,g]).size false).setIfInBounds 0 true).setIfInBounds 2 true = #[true,false,true,false]from rfl,J]at c;obtain rfl:i=1:=by simpa using c
  exact⟨d,_,_,rfl,q,last u⟩
 obtain⟨p,hp,h⟩:=h;have h:=zG h;rw[jx]at h;refine wp_region_any hm (mZ (inl:=inl) (m:=true) (n0:=lo.length) (K:=fun e lo=>∃ E,qG E=e/\K E lo) (fun ρ H e lo a w s ⟨E,x,r⟩=>F ρ H E lo a w (by rw[x]; exact s) r) _ _ ρ H (qG E) lo a _ s' ?_)
 have:=Xp (P:=P) (inl:=inl) (m:=true) (n0:=lo.length) (N:=N) (fun h=>by cases h) (K:=fun e lo=>∃ E,qG E=e/\K E lo) (K':=K) (fun E lo r=>⟨E,rfl,r⟩) p l.length (Array.replicate l.length false) E lo (fun k ok r C=>by simp only[jV,Array.getElem?_replicate]at C; split at C<;>cases C) (fun _=>jw _) hp h
 simpa using this
end
end Ax
end
section
namespace Ax
open Go
variable {Lw:Nat}
abbrev KA:=AX->Env->List AObj->Prop
def Pj (x:AX) (e:Exit):Prop:=
 match x,e with
 | .normal,.normal=>True
 | .exit i,.exit j=>i=j
 | .ret,.ret=>True
 | _,_=>False
def PC (bs:(Base Lw)) (N:Nat) (K:KA):Exit->Act->World->Prop:=fun e a w=>∃ x ρ H E lo,Pj x e/\Sat bs N ρ H (qG E) lo a w/\K x E lo
def dF (inl:List Nat):Code->Bool
 | .seq a b=>dF inl a&&dF inl b
 | .cond _ t e=>dF inl t&&dF inl e
 | .block _ c=>dF inl c
 | .loop c=>dF inl c
 | .region id ops d=>!d||(match XQ inl (90000000+id)with|true=>DF ops|false=>Hf inl (Ng inl id) ops)
 | _=>true
def oO (P:Program) (N nb:Nat) (c:Code) (K:KA) (E:Env) (lo:List AObj):Prop:=
 ∀ ⦃Lw:Nat⦄ (bs:(Base Lw)) (ρ:List Value) (H:(PH Lw)) (a:Act) (w:World),bs.r0.length=nb->Sat bs N ρ H (qG E) lo a w->c.wp P (PC bs N K) a w
def qP (P:Program) (inl:List Nat) (N nb:Nat) (body:Code) (K:KA) (E:Env) (lo:List AObj):Prop:=
 P.follows .mixedOrders=true->dF inl body=true->oO P N nb (.loop body) K E lo
def gW (P:Program) (inl:List Nat) (N nb:Nat) (a b:Code) (K:KA) (E:Env) (lo:List AObj):Prop:=
 P.follows .mixedOrders=true->dF inl a=true->dF inl b=true->oO P N nb (.seq a b) K E lo
def Fu (id:Nat):Code->Nat
 | .seq a b=>Fu id a+Fu id b
 | .cond _ t e=>Fu id t+Fu id e
 | .block _ c=>Fu id c
 | .loop c=>Fu id c
 | .exit i=>match Nat.beq i id with|true=>1|false=>0
 | _=>0
def Pf:Code->Nat
 | .seq a b=>match Pf a with|0=>0|_=>Pf b
 | .cond _ t e=>Pf t+Pf e
 | .block id c=>Pf c+Fu id c
 | .loop _=>0
 | .exit _=>0
 | .ret=>0
 | _=>1
def ib:Code->Bool
 | .cond _ _ _=>true
 | .seq _ b=>ib b
 | _=>false
def er (inl:List Nat) (a:Code):Bool:=match XQ inl 1000000 with
 | true=>(match Nat.ble 2 (Pf a)with
  | true=>true
  | false=>match XQ inl 1000001 with
   | true=>ib a
   | false=>false)
 | false=>false
def vc (P:Program) (inl:List Nat) (N nb:Nat):Code->KA->Env->List AObj->Prop
 | .skip,K,E,lo=>K .normal E lo
 | .seq a b,K,E,lo=>match er inl a with
  | true=>gW P inl N nb a b K E lo
  | false=>vc P inl N nb a (fun x E lo=>match x with|.normal=>vc P inl N nb b K E lo|.exit i=>K (.exit i) E lo|.ret=>K .ret E lo) E lo
 | .cond c t e,K,E,lo=>ev E c fun v=>match v with
  | .p (.bool b)=>(b=true->vc P inl N nb t K E lo)/\(b=false->vc P inl N nb e K E lo)
  | _=>False
 | .block id c,K,E,lo=>vc P inl N nb c (fun x E lo=>match x with
   | .exit i=>(match Nat.beq i id with|true=>K .normal E lo|false=>K (.exit i) E lo)
   | .normal=>K .normal E lo
   | .ret=>K .ret E lo) E lo
 | .exit id,K,E,lo=>K (.exit id) E lo
 | .ret,K,E,lo=>K .ret E lo
 | .region id ⟨ops⟩ d,K,E,lo=>match d with
  | false=>Nz P inl N ops (K .normal) ops E lo
  | true=>match XQ inl (90000000+id)with
   | true=>Ei P inl N ops (K .normal) E lo
   | false=>match Ng inl id with
    | false=>Lg P inl false 0 N ops (K .normal) ops E lo
    | true=>Zg lo 0 fun n0=>Lg P inl true n0 N ops (K .normal) ops E lo
 | .loop body,K,E,lo=>qP P inl N nb body K E lo
 | c,K,E,lo=>oO P N nb c K E lo
theorem PC.mono {bs:(Base Lw)} {N:Nat} {K K':KA} (h:∀ x E lo,K x E lo->K' x E lo) {e:Exit} {a:Act} {w:World} (p:PC bs N K e a w):PC bs N K' e a w:=
 let ⟨x,ρ,H,E,lo,hx,s,k⟩:=p
 ⟨x,ρ,H,E,lo,hx,s,h x E lo k⟩
theorem oO.mono {P:Program} {N nb:Nat} {c:Code} {K K':KA} {E:Env} {lo:List AObj} (h:∀ x E lo,K x E lo->K' x E lo) (w:oO P N nb c K E lo):oO P N nb c K' E lo:=
 fun Lw bs ρ H a ww b s=>wp_mono (w bs ρ H a ww b s) fun _ _ _ p=>p.mono h
theorem uD {P:Program} {inl:List Nat} (hm:P.follows .mixedOrders=true) {N nb:Nat}:∀ (c:Code) (K:KA) (E:Env) (lo:List AObj),dF inl c=true->vc P inl N nb c K E lo->oO P N nb c K E lo
 | .skip,K,E,lo,_,h=>fun Lw bs ρ H a w f s=>wp_skip ⟨.normal,ρ,H,E,lo,trivial,s,h⟩
 | .seq x y,K,E,lo,hd,h=>fun Lw bs ρ H a w f s=>by
  simp only[dF,ji]at hd;simp only[vc]at h;split at h
  ·exact h hm hd.1 hd.2 bs ρ H a w f s
  refine wp_seq (wp_mono (uD hm x _ E lo hd.1 h bs ρ H a w f s) fun e a w p=>?_);obtain⟨u,ρ',H',E',lo',q,m,k⟩:=p;cases u<;>cases e<;>simp only[Pj]at q
  ·exact uD hm y K E' lo' hd.2 k bs ρ' H' a w f m
  ·exact⟨.exit _,ρ',H',E',lo',q,m,k⟩
  exact⟨.ret,ρ',H',E',lo',trivial,m,k⟩
 | .cond c t e,K,E,lo,hd,h=>fun Lw bs ρ H a w f s=>by
  simp only[dF,ji]at hd;simp only[vc,Ft]at h;have o:=nQ s.slots c;split at h
  ·rename_i b v
   rw[v]at o;exact wp_cond_split (mY o) (fun n=>uD hm t K E lo hd.1 (h.1 n) bs ρ H a w f s) (fun n=>uD hm e K E lo hd.2 (h.2 n) bs ρ H a w f s)
  exact h.elim
 | .block id c,K,E,lo,hd,h=>fun Lw bs ρ H a w f s=>by
  refine wp_block (wp_mono (uD hm c _ E lo hd h bs ρ H a w f s) fun e a w p=>?_);obtain⟨u,ρ',H',E',lo',q,m,k⟩:=p;cases u<;>cases e<;>simp only[Pj]at q
  ·exact⟨.normal,ρ',H',E',lo',trivial,m,k⟩
  ·rename_i i j
   subst q;simp only[Exit.inBlock];by_cases z:i=id
   ·subst z
    simp only[Nat.beq_refl]at k;simp only[if_true];exact⟨.normal,ρ',H',E',lo',trivial,m,k⟩
   have:Nat.beq i id=false:=by
    cases f:Nat.beq i id with
    | false=>rfl
    | true=>exact absurd (jm f) z
   simp only[this]at k;simp only[z,if_false];exact⟨.exit i,ρ',H',E',lo',rfl,m,k⟩
  exact⟨.ret,ρ',H',E',lo',trivial,m,k⟩
 | .exit id,K,E,lo,_,h=>fun Lw bs ρ H a w f s=>wp_exit ⟨.exit id,ρ,H,E,lo,rfl,s,h⟩
 | .ret,K,E,lo,_,h=>fun Lw bs ρ H a w f s=>wp_ret ⟨.ret,ρ,H,E,lo,trivial,s,h⟩
 | .region id ⟨ops⟩ d,K,E,lo,hd,h=>fun Lw bs ρ H a w f s=>by
  have r:∀ ρ H E lo a w,Sat bs N ρ H (qG E) lo a w->K .normal E lo->PC bs N K .normal a w:=fun ρ H E lo a w s k=>⟨.normal,ρ,H,E,lo,trivial,s,k⟩;cases d with
  | false=>exact Bk (P:=P) (l:=ops) r s h
  | true=>
   have g:(match XQ inl (90000000+id)with|true=>DF ops.toArray|false=>Hf inl (Ng inl id) ops.toArray)=true:=by simpa[dF]using hd
   simp only[vc]at h;split at h
   ·rename_i o
    rw[o]at g;exact Cb hm g r s h
   rename_i o;rw[o]at g;replace g:Hf inl (Ng inl id) ops.toArray=true:=g;split at h
   ·rename_i A
    rw[A]at g;exact Va hm (fun _=>rfl) (fun h=>by cases h) g r s h
   rename_i A;rw[A]at g;have h:=zG h;rw[jx]at h;exact Va hm (fun h=>by cases h) (fun _=>jw _) g r s h
 | .loop body,K,E,lo,hd,h=>h hm hd
 | .rangeFunc ..,K,E,lo,_,h=>h
 | .scope _,K,E,lo,_,h=>h
 | .label _,K,E,lo,_,h=>h
 | .goto _,K,E,lo,_,h=>h
 | .refuse _,K,E,lo,_,h=>h
def FV.ren (π:Nat->Nat):FV->FV
 | .opt g v=>.opt g (v.ren π)
 | .tsl k rows=>.tsl (π k) rows
 | .ptr k off=>.ptr (π k) off
 | .bself k=>.bself (π k)
 | .bsl k off len cp=>.bsl (π k) off len cp
 | .vsl k n=>.vsl (π k) n
 | .eptr k z i off=>.eptr (π k) z i off
 | .mref k=>.mref (π k)
 | .pair a b=>.pair (a.ren π) (b.ren π)
 | .stmp k=>.stmp (π k)
 | .clo f c=>.clo f (c.ren π)
 | .cap a b=>.cap (a.ren π) (b.ren π)
 | .fagg c=>.fagg (c.ren π)
 | .asl k off n=>.asl (π k) off n
 | .ifs t c=>.ifs t (c.ren π)
 | v=>v
def leF (π:Nat->Nat) (fresh:List Nat) (v v':FV):Prop:=
 match v' with
 | .top=>True
 | .p p'=>match v with
  | .p p=>p=p'\/nle p p'
  | .tsl _ rows=>PV.sl rows=p'
  | .clo f c=>VI c fun cs=>PV.clo f cs=p'
  | .fagg c=>VI c fun cs=>PV.agg cs=p'
  | _=>False
 | .tsl k' rows'=>match v with
  | .tsl k rows=>k=π k'/\rows=rows'/\k' ∉ fresh
  | .p .nilsl=>rows'=[]/\k'∈fresh
  | _=>False
 | .ptr k' off'=>match v with
  | .ptr k off=>k=π k'/\off=off'/\k' ∉ fresh
  | _=>False
 | .bself k'=>match v with
  | .bself k=>k=π k'/\k' ∉ fresh
  | .ptr k off=>k=π k'/\off=0/\k' ∉ fresh
  | _=>False
 | .bsl k' off' len' cap'=>match v with
  | .bsl k off len cap=>k=π k'/\off=off'/\len=len'/\cap=cap'/\k' ∉ fresh
  | _=>False
 | .hptr row'=>match v with
  | .hptr row=>row=row'
  | _=>False
 | .vsl k' n'=>match v with
  | .vsl k n=>k=π k'/\n=n'/\k' ∉ fresh
  | .p .nilsl=>n'=0/\k'∈fresh
  | _=>False
 | .eptr k' z' i' off'=>match v with
  | .eptr k z i off=>k=π k'/\z=z'/\i=i'/\off=off'/\k' ∉ fresh
  | _=>False
 | .mref k'=>match v with
  | .mref k=>k=π k'/\k' ∉ fresh
  | _=>False
 | .pair a' b'=>match v with
  | .pair a b=>leF π fresh a a'/\leF π fresh b b'
  | _=>False
 | .stmp k'=>match v with
  | .stmp k=>k=π k'/\k' ∉ fresh
  | _=>False
 | .clo f' c'=>match v with
  | .clo f c=>f=f'/\leF π fresh c c'
  | _=>False
 | .cap0=>match v with
  | .cap0=>True
  | _=>False
 | .cap a' b'=>match v with
  | .cap a b=>leF π fresh a a'/\leF π fresh b b'
  | _=>False
 | .fagg c'=>match v with
  | .fagg c=>leF π fresh c c'
  | _=>False
 | .nxt ok' a' b'=>match v with
  | .nxt ok a b=>ok=ok'/\a=a'/\b=b'
  | _=>False
 | .asl k' off' n'=>match v with
  | .asl k off n=>k=π k'/\off=off'/\n=n'/\k' ∉ fresh
  | _=>False
 | .ifs t' c'=>match v with
  | .ifs t c=>t=t'/\leF π fresh c c'
  | _=>False
 | .cut rows'=>match v with
  | .cut rows=>rows=rows'
  | _=>False
 | .opt _ _=>False
def leC (π:Nat->Nat) (fresh:List Nat) (k':Nat) (v v':FV):Prop:=
 match v,v' with
 | .p .nilp,.bself k=>k=k'/\k ∉ fresh
 | v,v'=>leF π fresh v v'
def gO (π:Nat->Nat) (fresh:List Nat) (k':Nat) (o o':AObj):Prop:=
 match o' with
 | .dead=>True
 | .box t' cells'=>match o with
  | .box t cells=>t=t'/\cells.length=cells'.length/\∀ (i:Nat) (c a:FV),cells[i]? =some c->cells'[i]? =some a->leC π fresh k' c a
  | _=>False
 | .tail e z n=>o=.tail e z n
 | .vec e z rows=>o=.vec e z rows
 | .mp d es mk'=>mk'=none/\∃ mk,o=.mp d es mk
 | .sit l p=>o=.sit l p
 | .bv l=>o=.bv l
 | .vl e z rows j k'=>k' ∉ fresh/\o=.vl e z rows j (π k')
 | .pbx t' a=>match o with
  | .pbx t c=>t=t'/\leF π fresh c a
  | _=>False
structure Weak (nb:Nat) (E:Env) (lo:List AObj) (E':Env) (lo':List AObj) (π:Nat->Nat) (fresh:List Nat):Prop where
 bounds:∀ k,k<lo'.length->k ∉ fresh->π k<lo.length
 keep:∀ k,k<nb->π k=k/\k ∉ fresh
 nb:nb<=lo'.length
 inj:∀ i j oi oj,lo'[i]? =some oi->lo'[j]? =some oj->oi.live=true->oj.live=true->i ∉ fresh->j ∉ fresh->π i=π j->i=j
 frsh:∀ k,k∈fresh->∃ e z,lo'[k]? =some (.tail e z 0)\/lo'[k]? =some (.vec e z [])\/∃ j k2,lo'[k]? =some (.vl e z [] j k2)
 obj:∀ k o',lo'[k]? =some o'->k ∉ fresh->∃ o,lo[π k]? =some o/\gO π fresh k o o'
 slot:∀ t v,(t,v)∈E'->leF π fresh (qG E t) v
theorem HA:∀ {E:Env} {t:Nat},qG E t=.top\/(t,qG E t)∈E
 | [],t=>.inl rfl
 | (t',v)::E,t=>by
  simp only[qG];cases a:Nat.beq t t' with
  | true=>
   have:=jm a;subst this;exact .inr (by simp)
  | false=>
   rcases HA (E:=E) (t:=t)with h|h
   ·exact .inl h
   exact .inr (by simp[h])
def Lo (ρ:List Value) (π:Nat->Nat) (fresh:List Nat) (n:Nat):List Value:=(List.range n).map fun k=>if k∈fresh then .slice none 0 0 else ρ.getD (π k) undef
theorem ur {ρ:List Value} {π:Nat->Nat} {fresh:List Nat} {n k:Nat} (h:k<n):(Lo ρ π fresh n)[k]? =some (if k∈fresh then .slice none 0 0 else ρ.getD (π k) undef):=by
 simp[Lo,h]
def FV.names:FV->List Nat
 | .opt _ v=>v.names
 | .tsl k _=>[k]
 | .ptr k _=>[k]
 | .bself k=>[k]
 | .bsl k _ _ _=>[k]
 | .vsl k _=>[k]
 | .eptr k _ _ _=>[k]
 | .mref k=>[k]
 | .pair a b=>a.names++b.names
 | .stmp k=>[k]
 | .clo _ c=>c.names
 | .fagg c=>c.names
 | .asl k _ _=>[k]
 | .ifs _ c=>c.names
 | .cap a b=>a.names++b.names
 | _=>[]
theorem DV {ρ:List Value} {H:(PH Lw)} {π:Nat->Nat} {fresh:List Nat} {n:Nat} {v v':FV} {x:Value} (h:leF π fresh v v') (j:∀ k∈v'.names,k<n) (r:qL ρ H v x) :
  qL (Lo ρ π fresh n) H v' x:=by
 induction v' generalizing v x with
 | top=>trivial
 | p p'=>
  cases v<;>simp only[leF]at h
  ·rename_i p
   rcases h with rfl|h
   ·exact r
   exact Xm h r
  ·subst h; exact r.2
  ·obtain⟨t,e,o⟩:=sF h
   subst e;obtain⟨vs,e,r⟩:=r;simp only[qL,qu];exact⟨vs,e,o _ _ _ r⟩
  obtain⟨t,e,o⟩:=sF h;subst e;obtain⟨vs,e,r⟩:=r;simp only[qL,qu];exact⟨vs,e,o _ _ _ r⟩
 | opt g v' _=>simp[leF]at h
 | tsl k' rows'=>
  have a:=j k' (by simp[FV.names]);cases v<;>simp only[leF]at h
  ·rename_i p
   cases p<;>simp only at h;obtain⟨rfl,d⟩:=h;simp only[qL,qu]at r ⊢;subst r;exact⟨by rw[ur a]; simp[d],.inl ⟨trivial,.inl rfl⟩⟩
  rename_i k rows;obtain⟨rfl,rfl,d⟩:=h;obtain⟨f,l⟩:=r;refine⟨?_,l⟩;rw[ur a];simp[d,List.getD_eq_getElem?_getD,f]
 | ptr k' off'=>
  have a:=j k' (by simp[FV.names]);cases v<;>simp only[leF]at h;rename_i k off;obtain⟨rfl,rfl,d⟩:=h;obtain⟨b,f,l⟩:=r;refine⟨b,?_,l⟩;rw[ur a];simp[d,List.getD_eq_getElem?_getD,f]
 | hptr row=>
  cases v<;>simp only[leF]at h;rw[h]at r;exact r
 | bself k'=>
  have a:=j k' (by simp[FV.names]);cases v<;>simp only[leF]at h
  ·rename_i k off
   obtain⟨rfl,rfl,d⟩:=h;obtain⟨b,f,rfl⟩:=r;refine⟨b,?_,.inr rfl⟩;rw[ur a];simp[d,List.getD_eq_getElem?_getD,f]
  rename_i k;obtain⟨rfl,d⟩:=h;obtain⟨b,f,l⟩:=r;refine⟨b,?_,l⟩;rw[ur a];simp[d,List.getD_eq_getElem?_getD,f]
 | bsl k' off' len' cap'=>
  have a:=j k' (by simp[FV.names]);cases v<;>simp only[leF]at h;rename_i k off len cap;obtain⟨rfl,rfl,rfl,rfl,d⟩:=h;obtain⟨b,f,l⟩:=r;refine⟨b,?_,l⟩;rw[ur a];simp[d,List.getD_eq_getElem?_getD,f]
 | vsl k' n'=>
  have a:=j k' (by simp[FV.names]);cases v<;>simp only[leF]at h
  ·rename_i p
   cases p<;>simp only at h;obtain⟨rfl,d⟩:=h;simp only[qL,qu]at r ⊢;subst r;exact⟨by rw[ur a]; simp[d],.inl ⟨trivial,rfl⟩⟩
  rename_i k n;obtain⟨rfl,rfl,d⟩:=h;obtain⟨f,l⟩:=r;refine⟨?_,l⟩;rw[ur a];simp[d,List.getD_eq_getElem?_getD,f]
 | eptr k' z' i' off'=>
  have a:=j k' (by simp[FV.names]);cases v<;>simp only[leF]at h;rename_i k z i off;obtain⟨rfl,rfl,rfl,rfl,d⟩:=h;obtain⟨b,n,cap,f,rfl⟩:=r;refine⟨b,n,cap,?_,rfl⟩;rw[ur a];simp[d,List.getD_eq_getElem?_getD,f]
 | mref k'=>
  have a:=j k' (by simp[FV.names]);cases v<;>simp only[leF]at h;rename_i k;obtain⟨rfl,d⟩:=h;obtain⟨b,f,l⟩:=r;refine⟨b,?_,l⟩;rw[ur a];simp[d,List.getD_eq_getElem?_getD,f]
 | pair a' b' iha ihb=>
  cases v<;>simp only[leF]at h;obtain⟨u,w,rfl,q,s⟩:=r;exact⟨u,w,rfl,iha h.1 (fun k a=>j k (by simp[FV.names,a])) q,ihb h.2 (fun k a=>j k (by simp[FV.names,a])) s⟩
 | stmp k'=>
  have a:=j k' (by simp[FV.names]);cases v<;>simp only[leF]at h;rename_i k;obtain⟨rfl,d⟩:=h;simp only[qL]at r ⊢;rw[ur a];simp[d,List.getD_eq_getElem?_getD,r]
 | clo f' c' ih=>
  cases v<;>simp only[leF]at h;obtain⟨rfl,h⟩:=h;obtain⟨vs,rfl,rc⟩:=r;exact⟨vs,rfl,ih h (fun k a=>j k (by simp[FV.names,a])) rc⟩
 | cap0=>
  cases v<;>simp only[leF]at h;exact r
 | fagg c' ih=>
  cases v<;>simp only[leF]at h;obtain⟨vs,rfl,rc⟩:=r;exact⟨vs,rfl,ih h (fun k a=>j k (by simp[FV.names,a])) rc⟩
 | nxt ok' a' b'=>
  cases v<;>simp only[leF]at h;obtain⟨rfl,rfl,rfl⟩:=h;exact r
 | ifs t' c' ih=>
  cases v<;>simp only[leF]at h;obtain⟨rfl,h⟩:=h;obtain⟨u,rfl,rc⟩:=r;exact⟨u,rfl,ih h (fun k a=>j k (by simp[FV.names,a])) rc⟩
 | cut rows'=>
  cases v<;>simp only[leF]at h;subst h;exact r
 | asl k' off' n'=>
  have a:=j k' (by simp[FV.names]);cases v<;>simp only[leF]at h;rename_i k off n;obtain⟨rfl,rfl,rfl,d⟩:=h;obtain⟨b,m,cap,c,f,rfl⟩:=r;refine⟨b,m,cap,c,?_,rfl⟩;rw[ur a];simp[d,List.getD_eq_getElem?_getD,f]
 | cap a' b' iha ihb=>
  cases v<;>simp only[leF]at h;obtain⟨u,w,rfl,q,s⟩:=r;exact⟨u,w,rfl,iha h.1 (fun k a=>j k (by simp[FV.names,a])) q,ihb h.2 (fun k a=>j k (by simp[FV.names,a])) s⟩
theorem iU {ρ:List Value} {H:(PH Lw)} {π:Nat->Nat} {fresh:List Nat} {n k' b:Nat} {v v':FV} {x:Value} (a:(Lo ρ π fresh n)[k']? =some (.pointer (some ⟨b,0,none⟩))) (h:leC π fresh k' v v') (c:∀ k∈v'.names,k<n) (r:qL ρ H v x) :
  qL (Lo ρ π fresh n) H v' x:=by
 unfold leC at h;split at h
 ·obtain⟨rfl,_⟩:=h
  simp only[qL,qu]at r;exact⟨b,a,.inl r⟩
 exact DV h c r
theorem zJ.le {ρ:List Value} {H:(PH Lw)} {π:Nat->Nat} {fresh:List Nat} {n k' b:Nat} (f:(Lo ρ π fresh n)[k']? =some (.pointer (some ⟨b,0,none⟩))):∀ {cs a:List FV} {vs:List Value},cs.length=a.length ->
  (∀ (i:Nat) (c d:FV),cs[i]? =some c->a[i]? =some d->leC π fresh k' c d)->(∀ c∈a,∀ k∈c.names,k<n)->zJ ρ H cs vs->zJ (Lo ρ π fresh n) H a vs
 | [],[],vs,_,_,_,r=>r
 | [],_::_,_,h,_,_,_=>by simp at h
 | _::_,[],_,h,_,_,_=>by simp at h
 | c::cs,d::a,vs,hl,hle,hn,r=>by
  obtain⟨v,e,rfl,g,rs⟩:=r;exact⟨v,e,rfl,iU f (hle 0 c d rfl rfl) (hn d (by simp)) g,zJ.le f (by simpa using hl) (fun i=>hle (i+1)) (fun c j=>hn c (by simp[j])) rs⟩
def Sa (E:Env) (lo:List AObj):Prop:=(∀ t v,(t,v)∈E->∀ k∈v.names,k<lo.length)/\(∀ t cells,AObj.box t cells∈lo->∀ c∈cells,∀ k∈c.names,k<lo.length)/\(∀ e z rows j k,AObj.vl e z rows j k∈lo->k<lo.length)/\∀ t c,AObj.pbx t c∈lo->∀ k∈c.names,k<lo.length
theorem Sat.weak {bs:(Base Lw)} {N:Nat} {ρ:List Value} {H:(PH Lw)} {E E':Env} {lo lo':List AObj} {a:Act} {w:World} {π:Nat->Nat} {fresh:List Nat} (s:Sat bs N ρ H (qG E) lo a w)
  (h:Weak bs.r0.length E lo E' lo' π fresh) (O:Sa E' lo'):Sat bs N (Lo ρ π fresh lo'.length) H (qG E') lo' a w:=by
 have get:∀ {k:Nat} {v:Value},(Lo ρ π fresh lo'.length)[k]? =some v->k<lo'.length/\((k∈fresh/\v=.slice none 0 0)\/(k ∉ fresh/\ρ[π k]? =some v)):=by
  intro k v q;have r:k<lo'.length:=by have:=(jG.1 q).1; simpa[Lo]using this
  rw[ur r]at q;refine⟨r,?_⟩;by_cases y:k∈fresh
  ·simp[y]at q; exact .inl ⟨y,q.symm⟩
  simp only[y,if_false]at q;refine .inr ⟨y,?_⟩;have:=h.bounds k r y;rw[← s.hlen]at this;rw[List.getD_eq_getElem?_getD,jf this]at q;rw[jf this];simpa using q
 refine{ sath:=s.sath,hlen:=by simp[Lo],pre:=?_,objs:=?_,excl:=?_,own:=?_,keep:=s.keep,leH:=s.leH,newH:=s.newH,slots:=?_,width:=s.width,defers:=s.defers }
 ·obtain⟨l,A⟩:=s.pre
  have hlen:bs.r0.length<=lo'.length:=h.nb;have:(Lo ρ π fresh lo'.length).take bs.r0.length=bs.r0:=by
   refine List.ext_getElem? fun i=>?_;rw[jE];split
   ·rename_i B
    rw[ur (by omega)];obtain⟨e1,e2⟩:=h.keep i B;simp only[e2,if_false,e1];rw[List.getD_eq_getElem?_getD,← A,jB B,jf B];rfl
   rename_i B;rw[List.getElem?_eq_none (by omega)]
  rw[← this];exact List.take_prefix _ _
 ·intro k o v r q
  obtain⟨hlt,P⟩:=get q;rcases P with ⟨y,rfl⟩|⟨y,hρ⟩
  ·obtain⟨e,z,he⟩:=h.frsh k y
   rw[r]at he;rcases he with he|he|⟨j,k2,he⟩
   ·cases he
    exact⟨[],World.ownsRow_nil w 0 e z,fun b x=>by simp[qI]at x⟩
   ·cases he
    exact⟨[],World.ownsRow_nil w 0 e z,rfl,fun u hu=>(by cases hu),fun b x=>by simp[qI]at x⟩
   cases he;exact⟨[],World.ownsRow_nil w 0 e z,rfl,fun u hu=>(by cases hu),fun b x=>by simp[qI]at x,fun u hu=>by simp at hu⟩
  obtain⟨o0,Q,f⟩:=h.obj k o r y;have g:=s.objs _ _ _ Q hρ;cases o with
  | dead=>trivial
  | box t' cells'=>
   cases o0<;>simp only[gO]at f;rename_i t cells;obtain⟨rfl,A,C⟩:=f;obtain⟨b,vs,rfl,G,rc,R⟩:=g;exact⟨b,vs,rfl,G,rc.le q A C (fun c P k S=>O.2.1 _ _ (List.mem_of_getElem? r) c P k S),R⟩
  | tail e z n=>
   simp only[gO]at f;subst f;exact g
  | vec e z rows=>
   simp only[gO]at f;subst f;exact g
  | mp d es mk'=>
   simp only[gO]at f;obtain⟨rfl,mk,rfl⟩:=f;obtain⟨b,ents,clock,rfl,G,D,⟨I,h2,_⟩,T⟩:=g;exact⟨b,ents,clock,rfl,G,D,⟨I,h2,fun key s e=>by cases e⟩,T⟩
  | sit l p=>
   simp only[gO]at f;subst f;exact g
  | bv l=>
   simp only[gO]at f;subst f;exact g
  | vl e z rows j k'=>
   simp only[gO]at f;obtain⟨U,rfl⟩:=f;obtain⟨xs,ho,D,I,T,A⟩:=g;refine⟨xs,ho,D,I,T,fun u hu=>?_⟩;rw[ur (O.2.2.1 _ _ _ _ _ (List.mem_of_getElem? r))];simp[U,List.getD_eq_getElem?_getD,A u hu]
  | pbx t' c'=>
   cases o0<;>simp only[gO]at f;rename_i t c;obtain⟨rfl,C⟩:=f;obtain⟨b,u,us,rfl,G,rc,R⟩:=g;exact⟨b,u,us,rfl,G,DV C (O.2.2.2 _ _ (List.mem_of_getElem? r)) rc,R⟩
 ·intro i j oi oj vi vj b B hj V X Y J K x L
  obtain⟨I,c1⟩:=get V;obtain⟨h2,c2⟩:=get X;rcases c1 with ⟨_,rfl⟩|⟨f1,Z⟩
  ·simp[qI]at x
  rcases c2 with ⟨_,rfl⟩|⟨f2,r2⟩
  ·simp[qI]at L
  obtain⟨M,F,m⟩:=h.obj i oi B f1;obtain⟨o2,ho2,l2⟩:=h.obj j oj hj f2;have live:∀ {k:Nat} {o o':AObj},gO π fresh k o o'->o'.live=true->o.live=true:=by
   intro k o o' f A;cases o' with
   | dead=>simp[AObj.live]at A
   | box t c=>cases o<;>simp only[gO]at f; rfl
   | tail e z n=>simp only[gO]at f; subst f; rfl
   | vec e z n=>simp only[gO]at f; subst f; rfl
   | mp d es mk=>simp only[gO]at f; obtain⟨_,_,rfl⟩:=f; rfl
   | sit l p=>simp only[gO]at f; subst f; rfl
   | bv l=>simp only[gO]at f; subst f; rfl
   | vl e z rows j k'=>simp only[gO]at f; obtain⟨_,rfl⟩:=f; rfl
   | pbx t c=>cases o<;>simp only[gO]at f; rfl
  exact s.excl (π i) (π j) M o2 vi vj b F ho2 Z r2 (fun e=>Y (h.inj i j oi oj B hj J K f1 f2 e)) (live m J) (live l2 K) x L
 ·intro k o v b r q A x
  obtain⟨I,c1⟩:=get q;rcases c1 with ⟨_,rfl⟩|⟨f1,Z⟩
  ·simp[qI]at x
  obtain⟨M,F,m⟩:=h.obj k o r f1;refine s.own (π k) M v b F Z ?_ x;cases o with
  | dead=>simp[AObj.live]at A
  | box t c=>cases M<;>simp only[gO]at m; rfl
  | tail e z n=>simp only[gO]at m; subst m; rfl
  | vec e z n=>simp only[gO]at m; subst m; rfl
  | mp d es mk=>simp only[gO]at m; obtain⟨_,_,rfl⟩:=m; rfl
  | sit l p=>simp only[gO]at m; subst m; rfl
  | bv l=>simp only[gO]at m; subst m; rfl
  | vl e z rows j k'=>simp only[gO]at m; obtain⟨_,rfl⟩:=m; rfl
  | pbx t c=>cases M<;>simp only[gO]at m; rfl
 ·intro t
  rcases HA (E:=E') (t:=t)with he|he
  ·rw[he]; trivial
  exact DV (h.slot t _ he) (O.1 t _ he) (s.slots t)
end Ax
end
section
namespace Ax
open Go
variable {Lw:Nat}
def RR (E:Env) (π:Nat->Nat) (fresh:List Nat):Env->Prop
 | []=>True
 | (t,v)::E'=>ik E t (fun u=>leF π fresh u v)/\RR E π fresh E'
def VQ (π:Nat->Nat) (fresh:List Nat) (k':Nat):List FV->List FV->Prop
 | [],[]=>True
 | c::cs,c'::cs'=>leC π fresh k' c c'/\VQ π fresh k' cs cs'
 | _,_=>False
def SH (π:Nat->Nat) (fresh:List Nat) (k':Nat) (o o':AObj):Prop:=
 match o' with
 | .dead=>True
 | .box t' cells'=>match o with
  | .box t cells=>t=t'/\VQ π fresh k' cells cells'
  | _=>False
 | .tail e z n=>match o with
  | .tail e' z' n'=>e'=e/\z'=z/\n'=n
  | _=>False
 | .vec e z rows=>match o with
  | .vec e' z' rows'=>e'=e/\z'=z/\rows'=rows
  | _=>False
 | .mp d es mk=>match o with
  | .mp d' es' _=>mk=none/\d'=d/\es'=es
  | _=>False
 | .sit l p=>match o with
  | .sit l' p'=>l'=l/\p'=p
  | _=>False
 | .bv l=>match o with
  | .bv l'=>l'=l
  | _=>False
 | .vl e z rows j k'=>match o with
  | .vl e' z' rows' j2 k=>k' ∉ fresh/\e'=e/\z'=z/\rows'=rows/\j2=j/\k=π k'
  | _=>False
 | .pbx t' c'=>match o with
  | .pbx t c=>t=t'/\leF π fresh c c'
  | _=>False
def Mp (lo:List AObj) (π:Nat->Nat) (fresh:List Nat):Nat->List AObj->Prop
 | _,[]=>True
 | k,o'::lo'=>(match fresh.contains k with
   | true=>match o' with|.tail _ _ n=>n=0|.vec _ _ rows=>rows=[]|.vl _ _ rows _ _=>rows=[]|_=>False
   | false=>nX (π k) lo fun o=>SH π fresh k o o')/\Mp lo π fresh (k+1) lo'
def πOf (l:List Nat):Nat->Nat:=fun k=>l.getD k 0
def lJ (nb:Nat) (l fresh:List Nat):Bool:=
 decide (nb<=l.length)&&(List.range nb).all (fun k=>l.getD k 0==k&&!fresh.contains k) &&
 (List.range l.length).all (fun i=>(List.range l.length).all fun j=>fresh.contains i||fresh.contains j||l.getD i 0 != l.getD j 0||i==j) &&
 fresh.all (fun k=>decide (k<l.length))
def ai:AObj->Bool
 | .dead=>true
 | _=>false
def SP:List AObj->Nat->Bool
 | [],_=>false
 | a::_,0=>ai a
 | _::l,i+1=>SP l i
theorem VK {o:AObj} (b:o.live=true):∀ {l:List AObj} {i:Nat},l[i]? =some o->SP l i=false
 | [],_,h=>by simp at h
 | a::l,0,h=>by
  simp at h; subst h;cases a<;>first|rfl|(simp[AObj.live]at b)
 | a::l,i+1,h=>by
  simp at h;exact VK (l:=l) (i:=i) b h
def lK (nb:Nat) (l fresh:List Nat) (lo:List AObj):Bool:=
 decide (nb<=l.length)&&(List.range nb).all (fun k=>l.getD k 0==k&&!fresh.contains k) &&
 (List.range l.length).all (fun i=>(List.range l.length).all fun j=>fresh.contains i||fresh.contains j||l.getD i 0 != l.getD j 0||i==j||SP lo i||SP lo j) &&
 fresh.all (fun k=>decide (k<l.length))
def fu (n:Nat):FV->Bool
 | .opt _ v=>fu n v
 | .tsl k _=>decide (k<n)
 | .ptr k _=>decide (k<n)
 | .bself k=>decide (k<n)
 | .bsl k _ _ _=>decide (k<n)
 | .vsl k _=>decide (k<n)
 | .eptr k _ _ _=>decide (k<n)
 | .mref k=>decide (k<n)
 | .pair a b=>fu n a&&fu n b
 | .stmp k=>decide (k<n)
 | .asl k _ _=>decide (k<n)
 | .ifs _ c=>fu n c
 | .clo _ c=>fu n c
 | .fagg c=>fu n c
 | .cap a b=>fu n a&&fu n b
 | _=>true
def HG (n:Nat):Env->Bool
 | []=>true
 | (_,v)::E=>fu n v&&HG n E
def BB (n:Nat):List FV->Bool
 | []=>true
 | v::l=>fu n v&&BB n l
def mb (n:Nat):List AObj->Bool
 | []=>true
 | .box _ cells::l=>BB n cells&&mb n l
 | .vl _ _ _ _ k::l=>decide (k<n)&&mb n l
 | .pbx _ c::l=>fu n c&&mb n l
 | _::l=>mb n l
def UY (nb:Nat) (E:Env) (lo:List AObj) (E':Env) (lo':List AObj):Prop:=
 ∃ l fresh:List Nat,(lK nb l fresh lo'=true/\l.length=lo'.length/\HG lo'.length E'=true/\mb lo'.length lo'=true)/\RR E (πOf l) fresh E'/\Mp lo (πOf l) fresh 0 lo'
theorem By {E:Env} {π:Nat->Nat} {fresh:List Nat}:∀ {E':Env},RR E π fresh E'->∀ t v,(t,v)∈E'->leF π fresh (qG E t) v
 | [],_,t,v,h=>by simp at h
 | (t',v')::E',h,t,v,hm=>by
  simp only[RR,QT]at h;rcases jg.1 hm with e|hm
  ·cases e; exact h.1
  exact By h.2 t v hm
theorem Ud {π:Nat->Nat} {fresh:List Nat} {k':Nat}:∀ {cs a:List FV},VQ π fresh k' cs a->cs.length=a.length/\∀ (i:Nat) (c e:FV),cs[i]? =some c->a[i]? =some e->leC π fresh k' c e
 | [],[],_=>⟨rfl,fun i c e h=>by simp at h⟩
 | [],_::_,h=>by simp[VQ]at h
 | _::_,[],h=>by simp[VQ]at h
 | c::cs,e::a,h=>by
  simp only[VQ]at h;obtain⟨g,j⟩:=Ud h.2;refine⟨by simp[g],fun i d k f b=>?_⟩;cases i with
  | zero=>simp at f b; subst f; subst b; exact h.1
  | succ i=>exact j i d k (by simpa using f) (by simpa using b)
theorem RS {π:Nat->Nat} {fresh:List Nat} {k':Nat} {o o':AObj} (h:SH π fresh k' o o'):gO π fresh k' o o':=by
 cases o' with
 | dead=>trivial
 | box t' cells'=>
  cases o<;>simp only[SH]at h;exact⟨h.1,Ud h.2⟩
 | tail e z n=>
  cases o<;>simp only[SH]at h;obtain⟨rfl,rfl,rfl⟩:=h;rfl
 | vec e z n=>
  cases o<;>simp only[SH]at h;obtain⟨rfl,rfl,rfl⟩:=h;rfl
 | mp d es mk=>
  cases o<;>simp only[SH]at h;obtain⟨rfl,rfl,rfl⟩:=h;exact⟨rfl,_,rfl⟩
 | sit l p=>
  cases o<;>simp only[SH]at h;obtain⟨rfl,rfl⟩:=h;rfl
 | bv l=>
  cases o<;>simp only[SH]at h;subst h;rfl
 | vl e z rows j k'=>
  cases o<;>simp only[SH]at h;obtain⟨a,rfl,rfl,rfl,rfl,rfl⟩:=h;exact⟨a,rfl⟩
 | pbx t' c'=>
  cases o<;>simp only[SH]at h;exact h
theorem VR {lo:List AObj} {π:Nat->Nat} {fresh:List Nat}:∀ {lo':List AObj} {k:Nat},Mp lo π fresh k lo'->∀ (i:Nat) (o':AObj),lo'[i]? =some o' ->
  (k+i∈fresh->∃ e z,o'=.tail e z 0\/o'=.vec e z []\/∃ j k2,o'=.vl e z [] j k2)/\(k+i ∉ fresh->∃ o,lo[π (k+i)]? =some o/\gO π fresh (k+i) o o')
 | [],_,_,i,o',h=>by simp at h
 | o1::lo',k,h,i,o',a=>by
  simp only[Mp]at h;cases i with
  | zero=>
   simp at a;subst a;simp only[Nat.add_zero];cases c:fresh.contains k with
   | true=>
    simp only[c]at h;have hm:k∈fresh:=by simpa using c
    refine⟨fun _=>?_,fun d=>absurd hm d⟩
    have b:=h.1;split at b
    ·rename_i e z n; exact⟨e,z,.inl (by rw[b])⟩
    ·rename_i e z rows; exact⟨e,z,.inr (.inl (by rw[b]))⟩
    ·rename_i e z rows j k2; exact⟨e,z,.inr (.inr ⟨j,k2,by rw[b]⟩)⟩
    exact b.elim
   | false=>
    simp only[c]at h;have hm:k ∉ fresh:=by simpa using c
    refine⟨fun d=>absurd d hm,fun _=>?_⟩
    obtain⟨o,a,f⟩:=zd h.1;exact⟨o,a,RS f⟩
  | succ i=>
   have:=VR h.2 i o' (by simpa using a);have e:k+1+i=k+(i+1):=by omega
   rwa [e]at this
theorem vV {n:Nat}:∀ {v:FV},fu n v=true->∀ k∈v.names,k<n
 | .opt _ v,h,k,d=>vV (v:=v) h k d
 | .tsl k' _,h,k,d=>by simp[FV.names]at d; subst d; simpa[fu]using h
 | .ptr k' _,h,k,d=>by simp[FV.names]at d; subst d; simpa[fu]using h
 | .top,_,k,d=>by simp[FV.names]at d
 | .p _,_,k,d=>by simp[FV.names]at d
 | .hptr _,_,k,d=>by simp[FV.names]at d
 | .bself k',h,k,d=>by simp[FV.names]at d; subst d; simpa[fu]using h
 | .bsl k' _ _ _,h,k,d=>by simp[FV.names]at d; subst d; simpa[fu]using h
 | .vsl k' _,h,k,d=>by simp[FV.names]at d; subst d; simpa[fu]using h
 | .eptr k' _ _ _,h,k,d=>by simp[FV.names]at d; subst d; simpa[fu]using h
 | .mref k',h,k,d=>by simp[FV.names]at d; subst d; simpa[fu]using h
 | .pair a b,h,k,d=>by
  simp only[fu,ji]at h;rcases jy.1 d with d|d
  ·exact vV (v:=a) h.1 k d
  exact vV (v:=b) h.2 k d
 | .stmp k',h,k,d=>by simp[FV.names]at d; subst d; simpa[fu]using h
 | .clo _ c,h,k,d=>vV (v:=c) h k d
 | .fagg c,h,k,d=>vV (v:=c) h k d
 | .nxt _ _ _,_,k,d=>by simp[FV.names]at d
 | .asl k' _ _,h,k,d=>by simp[FV.names]at d; subst d; simpa[fu]using h
 | .ifs _ c,h,k,d=>vV (v:=c) h k d
 | .cut _,_,k,d=>by simp[FV.names]at d
 | .cap0,_,k,d=>by simp[FV.names]at d
 | .cap a b,h,k,d=>by
  simp only[fu,ji]at h;rcases jy.1 d with d|d
  ·exact vV (v:=a) h.1 k d
  exact vV (v:=b) h.2 k d
theorem FK {n:Nat}:∀ {E:Env},HG n E=true->∀ t v,(t,v)∈E->∀ k∈v.names,k<n
 | [],_,t,v,h=>by simp at h
 | (t',v')::E,h,t,v,hm=>by
  simp only[HG,ji]at h;rcases jg.1 hm with e|hm
  ·cases e; exact vV h.1
  exact FK h.2 t v hm
theorem tH {n:Nat}:∀ {l:List FV},BB n l=true->∀ v∈l,∀ k∈v.names,k<n
 | [],_,v,h=>by simp at h
 | v'::l,h,v,hm=>by
  simp only[BB,ji]at h;rcases jg.1 hm with e|hm
  ·cases e; exact vV h.1
  exact tH h.2 v hm
theorem tI {n:Nat}:∀ {lo:List AObj},mb n lo=true->∀ t cells,AObj.box t cells∈lo->∀ c∈cells,∀ k∈c.names,k<n
 | [],_,t,cells,h=>by simp at h
 | o::lo,h,t,cells,hm=>by
  rcases jg.1 hm with e|a
  ·subst e
   simp only[mb,ji]at h;exact tH h.1
  cases o<;>simp only[mb,ji]at h<;>first|exact tI h.2 t cells a|exact tI h t cells a
theorem pL {n:Nat}:∀ {lo:List AObj},mb n lo=true->∀ t c,AObj.pbx t c∈lo->∀ k∈c.names,k<n
 | [],_,_,_,h=>by simp at h
 | o::lo,h,t,c,hm=>by
  rcases jg.1 hm with he|a
  ·subst he
   simp only[mb,ji]at h;exact vV h.1
  cases o<;>simp only[mb,ji]at h<;>first|exact pL h.2 _ _ a|exact pL h _ _ a
theorem pJ {n:Nat}:∀ {lo:List AObj},mb n lo=true->∀ e z rows j k,AObj.vl e z rows j k∈lo->k<n
 | [],_,_,_,_,_,_,h=>by simp at h
 | o::lo,h,e,z,rows,j,k,hm=>by
  rcases jg.1 hm with he|a
  ·subst he
   simp only[mb,ji,kde]at h;exact h.1
  cases o<;>simp only[mb,ji]at h<;>first|exact pJ h.2 _ _ _ _ _ a|exact pJ h _ _ _ _ _ a
theorem UY.sat {bs:(Base Lw)} {N:Nat} {ρ:List Value} {H:(PH Lw)} {E E':Env} {lo lo':List AObj} {a:Act} {w:World} (s:Sat bs N ρ H (qG E) lo a w) (h:UY bs.r0.length E lo E' lo') :
  ∃ ρ',Sat bs N ρ' H (qG E') lo' a w:=by
 obtain⟨l,fresh,⟨t,F,y,f⟩,A,g⟩:=h;simp only[lK,ji,kde,List.all_eq_true,List.mem_range,jO,beq_iff_eq,Bool.not_eq_true',bne_iff_ne]at t;obtain⟨⟨⟨B,u⟩,C⟩,D⟩:=t;have get:=fun(i:Nat) (o':AObj) (d:lo'[i]? =some o')=>VR g i o' d;simp only[jx]at get;refine⟨_,s.weak (π:=πOf l) (fresh:=fresh) (lo':=lo') ?_ ⟨FK y,tI f,pJ f,pL f⟩⟩;refine{ bounds:=fun k c m=>?_,keep:=fun k c=>?_,nb:=by omega,inj:=fun i j oi oj v x n p q r e=>?_,frsh:=fun k c=>?_,obj:=fun k o' d m=>(get k o' d).2 m,slot:=By A }
 ·obtain⟨o,d,_⟩:=(get k _ (jf c)).2 m
  exact(jG.1 d).1
 ·obtain⟨e1,e2⟩:=u k c
  exact⟨e1,by simpa using e2⟩
 ·have B:=(jG.1 v).1
  have u:=(jG.1 x).1;have:=C i (by omega) j (by omega);simp only[List.contains_iff_mem,q,r,VK n v,VK p x,jP,or_false,false_or]at this;rcases this with h|h
  ·exact absurd e h
  exact h
 have b:k<lo'.length:=by have:=D k c; omega
 obtain⟨e,z,he⟩:=(get k _ (jf b)).1 c;exact⟨e,z,he.imp (fun he=>by rw[jf b,he]) (fun he=>he.imp (fun he=>by rw[jf b,he]) (fun⟨j,k2,he⟩=>⟨j,k2,by rw[jf b,he]⟩))⟩
theorem qP.of {P:Program} (inl:List Nat) {N nb:Nat} {body:Code} {K:KA} {E:Env} {lo:List AObj} {S:Type} (l:S->Env) (m:S->List AObj) (ok:S->Prop) (μ:S->Nat) (d:S) (y:ok d)
  (hw:UY nb E lo (l d) (m d))
  (round:∀ s,ok s->vc P inl N nb body (fun x E' lo'=>match x with
   | .normal=>∃ c,ok c/\μ c<μ s/\UY nb E' lo' (l c) (m c)
   | .exit i=>K (.exit i) E' lo'
   | .ret=>K .ret E' lo') (l s) (m s)):qP P inl N nb body K E lo:=by
 intro hm z Lw bs ρ H a w A sat;subst A;obtain⟨ρ',f⟩:=hw.sat sat;refine wp_loop_ghost (I:=fun n a w=>∃ s ρ H,μ s=n/\ok s/\Sat bs N ρ H (qG (l s)) (m s) a w) (μ d) ⟨d,ρ',H,rfl,y,f⟩ fun n a w ⟨s,ρ,H,B,o,sat⟩=>?_;refine wp_mono (uD hm body _ _ _ z (round s o) bs ρ H a w rfl sat) fun e a w p=>?_;obtain⟨x,ρ2,q,u,g,v,b,k⟩:=p;cases x<;>cases e<;>simp only[Pj]at v
 ·obtain⟨c,h,r,t⟩:=k
  obtain⟨ρ3,j⟩:=t.sat b;exact⟨μ c,B ▸ r,c,ρ3,q,rfl,h,j⟩
 ·exact⟨.exit _,ρ2,q,u,g,v,b,k⟩
 exact⟨.ret,ρ2,q,u,g,trivial,b,k⟩
def Pz (P:Program) (E:Env) (lo:List AObj) (r:ResultVar) (R:FV->Prop):Prop:=
 match r with
 | .tmp t=>ik E t R
 | .cell a t=>ik E a fun v=>tF P t lo v R
def aW (lo:List AObj) (v:FV) (R:PV->List AObj->Prop):Prop:=
 match v with
 | .vsl k _=>nX k lo fun o=>match o with
  | .vec _ _ rows=>Xn k .dead lo fun lo=>R (.sl rows) lo
  | _=>False
 | v=>LS v fun p=>R p lo
def aX:List FV->List AObj->(List PV->List AObj->Prop)->Prop
 | [],lo,R=>R [] lo
 | v::cs,lo,R=>aW lo v fun p lo=>aX cs lo fun a lo=>R (p::a) lo
def eD (lo:List AObj) (v:FV) (R:FV->List AObj->Prop):Prop:=
 match v with
 | .vsl k _=>nX k lo fun o=>match o with
  | .vec _ _ rows=>Xn k .dead lo fun lo=>R (.p (.sl rows)) lo
  | .vl _ _ rows _ _=>Xn k .dead lo fun lo=>R (.p (.sl rows)) lo
  | _=>False
 | .fagg c=>mG c fun cs=>aX cs lo fun a lo=>R (.p (.agg a)) lo
 | v=>R v lo
def aC (P:Program) (E:Env) (lo:List AObj):List ResultVar->(List PV->Prop)->Prop
 | [],R=>R []
 | r::rs,R=>Pz P E lo r fun v=>eD lo v fun v lo=>LS v fun v=>aC P E lo rs fun l=>R (v::l)
def oe (P:Program) (fn:Func) (R:PV->Prop):KA:=fun x E lo=>match x with
 | .exit _=>False
 | _=>aC P E lo fn.results.toList fun vs=>match vs with
   | [v]=>R v
   | vs=>R (.tup vs)
def toF:PV->FV
 | .hp row=>.hptr row
 | v=>.p v
theorem Sv {ρ:List Value} {H:(PH Lw)} {v:PV} {x:Value} (h:qu H v x):qL ρ H (toF v) x:=by
 cases v<;>simp only[toF]<;>first|exact h|(simp only[qu]at h; simp only[qL]; exact h)
def Hs:Nat->List PV->Env
 | _,[]=>[]
 | n,v::vs=>(n,toF v)::Hs (n+1) vs
def aJ (P:Program) (inl:List Nat) (fn:Func) (args:List PV) (R:PV->Prop):Prop:=
 match fn.body with
 | some c=>vc P inl fn.ntmps 0 c (oe P fn R) (Hs 0 args) []
 | none=>False
def MT (inl:List Nat) (fn:Func) (n:Nat):Bool:=(match fn.body with|some c=>dF inl c|none=>false)&&decide (n<=fn.ntmps)
def Enters (P:Program) (f:FuncId):Prop:=∀ (args:Array Value) (w:World),(callFunc f args).run P w=.ok (.enter f args) w
def BL (tmps:Array Value):ResultVar->Sem Value
 | .tmp t=>pure (tmps.getD t undef)
 | .cell p t=>do loadVar t (← asAddr (tmps.getD p undef))
theorem cR (fn:Func) (tmps:Array Value):results fn tmps=(do
  let vs ← fn.results.mapM (BL tmps)
  pure (if h:vs.size=1 then vs[0]else .tuple vs)):=by
 unfold results;congr 1
theorem HP {lo:List AObj} {v:FV} {R:PV->List AObj->Prop} (h:aW lo v R):∃ f lo',R f lo'/\∀ ⦃Lw:Nat⦄ (bs:(Base Lw)) (N:Nat) (ρ:List Value) (H:(PH Lw)) (e:Nat->FV) (a:Act) (w:World) (x:Value),Sat bs N ρ H e lo a w->qL ρ H v x ->
  ∃ H',PH.le H H'/\Sat bs N ρ H' e lo' a w/\qu H' f x:=by
 unfold aW at h;split at h
 ·rename_i k n
  obtain⟨o,c,h⟩:=zd h;split at h
  ·rename_i e z rows
   obtain⟨h,_⟩:=xL h;refine⟨_,_,h,fun Lw bs N ρ H ev a w x s r=>?_⟩;obtain⟨H',b,d,g⟩:=s.toSatW.publish c r.1;exact⟨H',b,{ d with slots:=fun t=>(s.slots t).mono (jq _) b,width:=s.width,defers:=s.defers },g⟩
  exact h.elim
 obtain⟨p,h,hp⟩:=cd h;exact⟨_,_,h,fun Lw bs N ρ H e a w x s r=>⟨H,PH.le.refl H,s,hp _ _ _ r⟩⟩
theorem HQ:∀ {cs:List FV} {lo:List AObj} {R:List PV->List AObj->Prop},aX cs lo R->∃ d lo',R d lo'/\∀ ⦃Lw:Nat⦄ (bs:(Base Lw)) (N:Nat) (ρ:List Value) (H:(PH Lw)) (e:Nat->FV) (a:Act) (w:World) (vs:List Value),Sat bs N ρ H e lo a w->zJ ρ H cs vs ->
  ∃ H',PH.le H H'/\Sat bs N ρ H' e lo' a w/\qU H' d vs
 | [],lo,R,h=>⟨[],lo,h,fun Lw bs N ρ H e a w vs s r=>⟨H,PH.le.refl H,s,by simp only[zJ]at r; simp only[qU]; exact r⟩⟩
 | v::cs,lo,R,h=>by
  simp only[aX]at h;obtain⟨p,i,h,j⟩:=HP h;obtain⟨d,k,h,l⟩:=HQ h;refine⟨_,_,h,fun Lw bs N ρ H e a w vs s r=>?_⟩;obtain⟨u,us,rfl,m,rs⟩:=r;obtain⟨H1,b,s1,f⟩:=j bs N ρ H e a w u s m;obtain⟨n,c,s2,g⟩:=l bs N ρ H1 e a w us s1 (rs.mono (jq _) b);exact⟨n,b.trans c,s2,by simp only[qU]; exact⟨u,us,rfl,qu.mono c f,g⟩⟩
theorem Si {lo:List AObj} {v:FV} {R:FV->List AObj->Prop} (h:eD lo v R):∃ f lo',R f lo'/\∀ ⦃Lw:Nat⦄ (bs:(Base Lw)) (N:Nat) (ρ:List Value) (H:(PH Lw)) (e:Nat->FV) (a:Act) (w:World) (x:Value),Sat bs N ρ H e lo a w->qL ρ H v x ->
  ∃ H',PH.le H H'/\Sat bs N ρ H' e lo' a w/\qL ρ H' f x:=by
 unfold eD at h;split at h
 ·rename_i k n
  obtain⟨o,i,h⟩:=zd h;split at h
  ·rename_i e z rows
   obtain⟨h,_⟩:=xL h;refine⟨_,_,h,fun Lw bs N ρ H ev a w x s r=>?_⟩;obtain⟨H',b,d,g⟩:=s.toSatW.publish i r.1;exact⟨H',b,{ d with slots:=fun t=>(s.slots t).mono (jq _) b,width:=s.width,defers:=s.defers },g⟩
  ·rename_i e z rows j u
   obtain⟨h,_⟩:=xL h;refine⟨_,_,h,fun Lw bs N ρ H ev a w x s r=>?_⟩;have s1:=s.toSatW.view i rfl (o':=.vec e z rows) rfl (fun v y ok=>iB ok)
   have l:k<lo.length:=(jG.1 i).1;have m:(lo.set k (AObj.vec e z rows))[k]? =some (AObj.vec e z rows):=by simp[l]
   obtain⟨H',b,d,g⟩:=s1.publish m r.1;rw[List.set_set]at d;exact⟨H',b,{ d with slots:=fun t=>(s.slots t).mono (jq _) b,width:=s.width,defers:=s.defers },g⟩
  exact h.elim
 ·rename_i c
  obtain⟨cs,h,p⟩:=bl h;obtain⟨A,lo',h,q⟩:=HQ h;refine⟨_,_,h,fun Lw bs N ρ H e a w x s r=>?_⟩;obtain⟨vs,rfl,rc⟩:=r;obtain⟨H',b,d,g⟩:=q bs N ρ H e a w vs s (p _ _ _ rc);exact⟨H',b,d,by simp only[qL,qu]; exact⟨vs,rfl,g⟩⟩
 exact⟨_,_,h,fun Lw bs N ρ H e a w x s r=>⟨H,PH.le.refl H,s,r⟩⟩
theorem sN {P:Program} {E:Env} {lo:List AObj} {r:ResultVar} {R:FV->Prop} (h:Pz P E lo r R):∃ f,R f/\∀ ⦃Lw:Nat⦄ (bs:(Base Lw)) (N:Nat) (ρ:List Value) (H:(PH Lw)) (a:Act) (w:World),Sat bs N ρ H (qG E) lo a w ->
  ∃ v,(BL a.tmps r).run P w=.ok v w/\qL ρ H f v:=by
 cases r with
 | tmp t=>
  simp only[Pz,QT]at h;exact⟨_,h,fun Lw bs N ρ H a w s=>⟨a.tmps.getD t undef,rfl,s.slots t⟩⟩
 | cell q t=>
  simp only[Pz,QT]at h;obtain⟨c,h,d⟩:=VP h;refine⟨c,h,fun Lw bs N ρ H a w s=>?_⟩;obtain⟨i,u,e,b,g⟩:=d bs ρ H w _ s.toSatW (s.slots q);refine⟨u,?_,g⟩;simp only[Instr.loadAt,e,Instr.sureAddr,ka,ke,jZ]at b;simp only[BL,e,asAddr,ka,ke,jZ,b]
theorem HU {P:Program} {E:Env}:∀ {l:List ResultVar} {lo:List AObj} {R:List PV->Prop},aC P E lo l R->∃ c,R c/\c.length=l.length/\∀ ⦃Lw:Nat⦄ (bs:(Base Lw)) (N:Nat) (ρ:List Value) (H:(PH Lw)) (a:Act) (w:World),Sat bs N ρ H (qG E) lo a w ->
  ∃ (vs:List Value) (H':(PH Lw)) (lo':List AObj),(l.mapM (m:=Sem) (BL a.tmps)).run P w=.ok vs w/\qU H' c vs/\PH.le H H'/\Sat bs N ρ H' (qG E) lo' a w
 | [],lo,R,h=>⟨[],h,rfl,fun Lw bs N ρ H a w s=>⟨[],H,lo,by simp,by simp[qU],PH.le.refl H,s⟩⟩
 | r::rs,lo,R,h=>by
  simp only[aC]at h;obtain⟨f,h,k⟩:=sN h;obtain⟨y,n,h,o⟩:=Si h;obtain⟨p,h,hp⟩:=cd h;obtain⟨c,h,hlen,q⟩:=HU h;refine⟨p::c,h,by simp[hlen],fun Lw bs N ρ H a w s=>?_⟩;obtain⟨v,t,u⟩:=k bs N ρ H a w s;obtain⟨H1,d,s1,e⟩:=o bs N ρ H _ a w v s u;obtain⟨vs,x,g,i,j,b,s2⟩:=q bs N ρ H1 a w s1;refine⟨v::vs,x,g,?_,by simp only[qU]; exact⟨v,vs,rfl,qu.mono b (hp _ _ _ e),j⟩,d.trans b,s2⟩;simp only[List.mapM_cons,ka,t,jZ,i,ke]
theorem TA {P:Program} {fn:Func} {E:Env} {lo:List AObj} {x:AX} {R:PV->Prop} (h:oe P fn R x E lo):∃ p,R p/\(x=.normal\/x=.ret) /\
  ∀ ⦃Lw:Nat⦄ (bs:(Base Lw)) (N:Nat) (ρ:List Value) (H:(PH Lw)) (a:Act) (w:World),Sat bs N ρ H (qG E) lo a w->∃ (v:Value) (H':(PH Lw)) (lo':List AObj),(results fn a.tmps).run P w=.ok v w/\qu H' p v/\PH.le H H'/\Sat bs N ρ H' (qG E) lo' a w:=by
 have key:∀ {x:AX},(x=.normal\/x=.ret)->(aC P E lo fn.results.toList fun vs=>match vs with
   | [v]=>R v
   | vs=>R (.tup vs))->∃ p,R p/\(x=.normal\/x=.ret) /\
  ∀ ⦃Lw:Nat⦄ (bs:(Base Lw)) (N:Nat) (ρ:List Value) (H:(PH Lw)) (a:Act) (w:World),Sat bs N ρ H (qG E) lo a w->∃ (v:Value) (H':(PH Lw)) (lo':List AObj),(results fn a.tmps).run P w=.ok v w/\qu H' p v/\PH.le H H'/\Sat bs N ρ H' (qG E) lo' a w:=by
  intro x m h;obtain⟨q,h,e,n⟩:=HU h;clear e;split at h
  ·rename_i p
   refine⟨p,h,m,fun Lw bs N ρ H a w s=>?_⟩;obtain⟨vs,H',lo',f,d,c,g⟩:=n bs N ρ H a w s;simp only[qU]at d;obtain⟨v,_,rfl,r,rfl⟩:=d;refine⟨v,H',lo',?_,r,c,g⟩;rw[cR,Array.mapM_eq_mapM_toList];simp only[ka,Sem.run_map,f,jZ];rfl
  rename_i j;refine⟨_,h,m,fun Lw bs N ρ H a w s=>?_⟩;obtain⟨vs,H',lo',f,d,c,g⟩:=n bs N ρ H a w s;refine⟨.tuple vs.toArray,H',lo',?_,by simp only[qu]; exact⟨vs,rfl,d⟩,c,g⟩;rw[cR,Array.mapM_eq_mapM_toList];simp only[ka,Sem.run_map,f,jZ,ke];have:¬ vs.toArray.size=1:=by
   intro o;have k:=d.length;simp at o;rw[o]at k;cases q with
   | nil=>simp at k
   | cons a l=>cases l with
    | nil=>exact j a rfl
    | cons b l=>simp at k
  simp only[this,dif_neg,not_false_eq_true]
 cases x with
 | normal=>exact key (.inl rfl) h
 | exit i=>exact h.elim
 | ret=>exact key (.inr rfl) h
theorem VM:∀ (n:Nat) (args:List PV) (t:Nat),qG (Hs n args) t=match (if n<=t then args[t - n]? else none)with|some v=>toF v|none=>.top
 | n,[],t=>by simp[Hs,qG]
 | n,v::vs,t=>by
  simp only[Hs,qG];cases b:Nat.beq t n with
  | true=>
   have:=jm b;subst this;simp
  | false=>
   have c:t≠n:=fun e=>by subst e; simp[Nat.beq_refl]at b
   simp only;rw[VM (n+1) vs t];by_cases h:n<=t
   ·have a:n+1<=t:=by omega
    have d:t - n=(t - (n+1))+1:=by omega
    simp[h,a,d]
   have a:¬ n+1<=t:=by omega
   simp[h,a]
theorem qc.of_vcR {P:Program} {f:FuncId} {fn:Func} {args:List PV} {r:PV} {inl:List Nat} {R:PV->Prop} (hm:P.follows .mixedOrders=true) (he:Enters P f) (A:P.funcs[f]? =some fn) (g:MT inl fn args.length=true)
  (B:∀ (p:PV) (v:Value) ⦃Lw:Nat⦄ (H:(PH Lw)),R p->qu H p v->qu H r v) (h:aJ P inl fn args R):qc P f args r:=by
 intro Lw H w vs C y;rw[he];refine⟨rfl,?_⟩;simp only[MT,ji,kde]at g;obtain⟨j,I⟩:=g;unfold aJ at h;cases l:fn.body with
 | none=>simp[l]at j
 | some c=>
  simp only[l]at h j;refine calls_of_wp A l ?_;have J:=y.length;have sat:Sat { S:=EA,w0:=w,H0:=H,r0:=[] } fn.ntmps [] H (qG (Hs 0 args)) [] { tmps:=vs.toArray++Array.replicate (fn.ntmps - vs.toArray.size) undef,defers:=[] } w:=by
   refine{ sath:=C,hlen:=rfl,pre:=jq _,objs:=fun k o v h=>by simp at h,excl:=fun k _ o _ v _ b h=>by simp at h,own:=fun k o v b h=>by simp at h,keep:=Keep.refl _ w,leH:=PH.le.refl H,newH:=fun b o v h=>.inl ⟨v,h⟩,slots:=fun t=>?_,width:=by simp; omega,defers:=rfl }
   rw[VM];simp only[jR,if_true,Nat.sub_zero];cases D:args[t]? with
   | none=>trivial
   | some p=>
    obtain⟨v,d,m⟩:=y.get D;have n:=(jG.1 d).1;have:(vs.toArray++Array.replicate (fn.ntmps - vs.toArray.size) undef).getD t undef=v:=by
     rw[jV,Array.getElem?_append_left (by simpa using n)];simp[d]
    rw[this];exact Sv m
  refine wp_mono (uD hm c _ _ _ j h _ [] H _ w rfl sat) fun e a w' p=>?_;obtain⟨x,ρ',H',E',lo',E,q,k⟩:=p;obtain⟨p,hp,s,i⟩:=TA k;obtain⟨v,z,F,d,m,G,s2⟩:=i _ _ ρ' H' a w' q;have oX:∃ v,(results fn a.tmps).run P w'=.ok v w'/\(fun e u=>∃ v H',e=Ending.returned v/\Calm H w H' u/\qu H' r v) (.returned v) w':=
   ⟨v,d,v,z,rfl,⟨s2.leH,s2.sath,s2.keep,fun b o v d=>by
    rcases s2.newH b o v d with h|h|h
    ·exact .inl h
    ·exact h.elim
    exact .inr h⟩,B p v z hp m⟩
  rcases s with rfl|rfl<;>cases e<;>simp only[Pj]at E
  ·exact⟨q.defers,oX⟩
  exact⟨q.defers,oX⟩
theorem qc.of_vc {P:Program} {f:FuncId} {fn:Func} {args:List PV} {r:PV} {inl:List Nat} (hm:P.follows .mixedOrders=true) (he:Enters P f) (b:P.funcs[f]? =some fn) (a:MT inl fn args.length=true)
  (h:aJ P inl fn args (fun v=>v=r)):qc P f args r:=
 qc.of_vcR (R:=fun v=>v=r) hm he b a (fun _ _ _ _ e x=>e ▸ x) h
end Ax
end
section
namespace Ax
open Go
variable {Lw:Nat}
def iV (ρ:List Value) (lo:List AObj):Nat->Prop:=fun b=>∃ (k:Nat) (o:AObj) (v:Value),lo[k]? =some o/\ρ[k]? =some v/\o.live=true/\qI v=some b
theorem SatW.lend {bs:(Base Lw)} {ρ:List Value} {H:(PH Lw)} {lo:List AObj} {w:World} (s:SatW bs ρ H lo w):SatW { S:=iV ρ lo,w0:=w,H0:=H,r0:=ρ } ρ H lo w where
 sath:=s.sath
 hlen:=s.hlen
 pre:=jq _
 objs:=s.objs
 excl:=s.excl
 own:=fun k o v b a c d e=>.inl ⟨k,o,v,a,c,d,e⟩
 keep:=Keep.refl _ w
 leH:=PH.le.refl H
 newH:=fun b o v h=>.inl ⟨v,h⟩
theorem SatW.back {bs:(Base Lw)} {ρ ρ':List Value} {H H':(PH Lw)} {lo lo':List AObj} {w w':World} (s:SatW bs ρ H lo w) (a:SatW { S:=iV ρ lo,w0:=w,H0:=H,r0:=ρ } ρ' H' lo' w'):SatW bs ρ' H' lo' w':=by
 have d:∀ b,iV ρ lo b->bs.S b\/bs.w0.heap.size<=b:=fun b ⟨k,o,v,e,c,f,g⟩=>s.own k o v b e c f g
 refine{ sath:=a.sath,hlen:=a.hlen,pre:=s.pre.trans a.pre,objs:=a.objs,excl:=a.excl,own:=fun k o v b e c f g=>?_,keep:=s.keep.step a.keep d,leH:=s.leH.trans a.leH,newH:=fun b o v c=>?_ }
 ·rcases a.own k o v b e c f g with h|h
  ·exact d b h
  exact .inr (Nat.le_trans s.keep.size h)
 rcases a.newH b o v c with ⟨u,hu⟩|h|h
 ·exact s.newH b o u hu
 ·exact .inr (d b h)
 exact .inr (.inr (Nat.le_trans s.keep.size h))
def nU:Nat->List FV->Env
 | _,[]=>[]
 | n,v::vs=>(n,v)::nU (n+1) vs
theorem Zf:∀ (n:Nat) (args:List FV) (t:Nat),qG (nU n args) t=(if n<=t then args[t - n]? else none).getD .top
 | n,[],t=>by simp[nU,qG]
 | n,v::vs,t=>by
  simp only[nU,qG];cases b:Nat.beq t n with
  | true=>
   have:=jm b;subst this;simp
  | false=>
   have c:t≠n:=fun e=>by subst e; simp[Nat.beq_refl]at b
   simp only;rw[Zf (n+1) vs t];by_cases h:n<=t
   ·have a:n+1<=t:=by omega
    have d:t - n=(t - (n+1))+1:=by omega
    simp[h,a,d]
   have a:¬ n+1<=t:=by omega
   simp[h,a]
theorem zJ.get {ρ:List Value} {H:(PH Lw)}:∀ {cs:List FV} {vs:List Value} {i:Nat} {c:FV},zJ ρ H cs vs->cs[i]? =some c->∃ v,vs[i]? =some v/\qL ρ H c v
 | [],_,_,_,_,h=>by simp at h
 | c::cs,vs,i,c',x,h=>by
  obtain⟨v,a,rfl,r,rs⟩:=x;cases i with
  | zero=>simp at h; subst h; exact⟨v,by simp,r⟩
  | succ i=>simp at h; obtain⟨u,hu,b⟩:=rs.get h; exact⟨u,by simpa using hu,b⟩
def aY (v1 v2:FV) (R:FV->Prop):Prop:=
 match v1 with
 | .p p1=>match v2 with
  | .p p2=>R (.p (.tup [p1,p2]))
  | .tsl _ rows=>R (.p (.tup [p1,.sl rows]))
  | v2=>R (.pair (.p p1) v2)
 | .tsl _ rows1=>match v2 with
  | .p p2=>R (.p (.tup [.sl rows1,p2]))
  | .tsl _ rows=>R (.p (.tup [.sl rows1,.sl rows]))
  | v2=>R (.pair (.p (.sl rows1)) v2)
 | v1=>match v2 with
  | .tsl _ rows=>R (.pair v1 (.p (.sl rows)))
  | v2=>R (.pair v1 v2)
def oY (P:Program) (E:Env) (lo:List AObj):List ResultVar->(List PV->Prop)->Prop
 | [],R=>R []
 | r::rs,R=>Pz P E lo r fun v=>LS v fun v=>oY P E lo rs fun l=>R (v::l)
theorem Sw {v1 v2:FV} {R:FV->Prop} (h:aY v1 v2 R):∃ v,R v/\∀ ⦃Lw:Nat⦄ (ρ:List Value) (H:(PH Lw)) (x y:Value),qL ρ H v1 x->qL ρ H v2 y->qL ρ H v (.tuple #[x,y]):=by
 have pp:∀ (c d:PV) (ρ:List Value) ⦃Lw:Nat⦄ (H:(PH Lw)) (x y:Value),qu H c x->qu H d y->qL ρ H (.p (.tup [c,d])) (.tuple #[x,y]):=fun c d ρ Lw H x y a b=>by
  simp only[qL,qu];exact⟨[x,y],rfl,by simp only[qU]; exact⟨x,_,rfl,a,y,[],rfl,b,rfl⟩⟩
 unfold aY at h;split at h
 ·split at h
  ·exact⟨_,h,fun Lw ρ H x y a b=>pp _ _ ρ H x y a b⟩
  ·exact⟨_,h,fun Lw ρ H x y a b=>pp _ _ ρ H x y a b.2⟩
  exact⟨_,h,fun Lw ρ H x y a b=>⟨x,y,rfl,a,b⟩⟩
 ·split at h
  ·exact⟨_,h,fun Lw ρ H x y a b=>pp _ _ ρ H x y a.2 b⟩
  ·exact⟨_,h,fun Lw ρ H x y a b=>pp _ _ ρ H x y a.2 b.2⟩
  exact⟨_,h,fun Lw ρ H x y a b=>⟨x,y,rfl,a.2,b⟩⟩
 split at h
 ·exact⟨_,h,fun Lw ρ H x y a b=>⟨x,y,rfl,a,b.2⟩⟩
 exact⟨_,h,fun Lw ρ H x y a b=>⟨x,y,rfl,a,b⟩⟩
theorem MV {P:Program} {E:Env} {lo:List AObj}:∀ {l:List ResultVar} {R:List PV->Prop},oY P E lo l R->∃ b,R b/\b.length=l.length/\∀ ⦃Lw:Nat⦄ (bs:(Base Lw)) (N:Nat) (ρ:List Value) (H:(PH Lw)) (a:Act) (w:World),Sat bs N ρ H (qG E) lo a w ->
  ∃ vs:List Value,(l.mapM (m:=Sem) (BL a.tmps)).run P w=.ok vs w/\qU H b vs
 | [],R,h=>⟨[],h,rfl,fun Lw bs N ρ H a w s=>⟨[],by simp,by simp[qU]⟩⟩
 | r::rs,R,h=>by
  simp only[oY]at h;obtain⟨f,h,e⟩:=sN h;obtain⟨p,h,hp⟩:=cd h;obtain⟨b,h,hlen,g⟩:=MV h;refine⟨p::b,h,by simp[hlen],fun Lw bs N ρ H a w s=>?_⟩;obtain⟨v,i,j⟩:=e bs N ρ H a w s;obtain⟨vs,c,d⟩:=g bs N ρ H a w s;refine⟨v::vs,?_,by simp only[qU]; exact⟨v,vs,rfl,hp _ _ _ j,d⟩⟩;simp only[List.mapM_cons,ka,i,jZ,c,ke]
def eF (P:Program) (fn:Func) (R:FV->List AObj->Prop):KA:=fun x E lo=>match x with
 | .exit _=>False
 | _=>match fn.results.toList with
  | [r]=>Pz P E lo r fun v=>R v lo
  | []=>R (.p (.tup [])) lo
  | [r1,r2]=>Pz P E lo r1 fun v1=>Pz P E lo r2 fun v2=>aY v1 v2 fun v=>R v lo
  | r::rs=>oY P E lo (r::rs) fun vs=>R (.p (.tup vs)) lo
def vcI (P:Program) (inl:List Nat) (fn:Func) (args:List FV) (lo:List AObj) (R:FV->List AObj->Prop):Prop:=
 match fn.body with
 | some c=>Zg lo 0 fun nb=>vc P inl fn.ntmps nb c (eF P fn R) (nU 0 args) lo
 | none=>False
theorem HV {P:Program} {fn:Func} {E:Env} {lo:List AObj} {x:AX} {R:FV->List AObj->Prop} (h:eF P fn R x E lo):∃ p,R p lo/\(x=.normal\/x=.ret) /\
  ∀ ⦃Lw:Nat⦄ (bs:(Base Lw)) (N:Nat) (ρ:List Value) (H:(PH Lw)) (a:Act) (w:World),Sat bs N ρ H (qG E) lo a w->∃ v,(results fn a.tmps).run P w=.ok v w/\qL ρ H p v:=by
 have key:∀ {x:AX},(x=.normal\/x=.ret)->(match fn.results.toList with
  | [r]=>Pz P E lo r fun v=>R v lo
  | []=>R (.p (.tup [])) lo
  | [y,z]=>Pz P E lo y fun v1=>Pz P E lo z fun v2=>aY v1 v2 fun v=>R v lo
  | r::rs=>oY P E lo (r::rs) fun vs=>R (.p (.tup vs)) lo)->∃ p,R p lo/\(x=.normal\/x=.ret) /\
  ∀ ⦃Lw:Nat⦄ (bs:(Base Lw)) (N:Nat) (ρ:List Value) (H:(PH Lw)) (a:Act) (w:World),Sat bs N ρ H (qG E) lo a w->∃ v,(results fn a.tmps).run P w=.ok v w/\qL ρ H p v:=by
  intro x g h;split at h
  ·rename_i r c
   obtain⟨f,h,d⟩:=sN h;refine⟨f,h,g,fun Lw bs N ρ H a w s=>?_⟩;obtain⟨v,F,G⟩:=d bs N ρ H a w s;refine⟨v,?_,G⟩;rw[cR,Array.mapM_eq_mapM_toList,c];simp only[List.mapM_cons,List.mapM_nil,ka,Sem.run_map,F,jZ,ke];rfl
  ·rename_i c
   refine⟨_,h,g,fun Lw bs N ρ H a w s=>⟨.tuple #[],?_,by simp only[qL,qu]; exact⟨[],rfl,rfl⟩⟩⟩;rw[cR,Array.mapM_eq_mapM_toList,c];simp only[List.mapM_nil,ka,Sem.run_map,jZ,ke];rfl
  ·rename_i y z c
   obtain⟨f1,h,j⟩:=sN h;obtain⟨f2,h,k⟩:=sN h;obtain⟨f,h,d⟩:=Sw h;refine⟨f,h,g,fun Lw bs N ρ H a w s=>?_⟩;obtain⟨v1,m,n⟩:=j bs N ρ H a w s;obtain⟨v2,o,q⟩:=k bs N ρ H a w s;refine⟨.tuple #[v1,v2],?_,d _ _ _ _ n q⟩;rw[cR,Array.mapM_eq_mapM_toList,c];simp only[List.mapM_cons,List.mapM_nil,ka,Sem.run_map,m,o,jZ,ke];rfl
  rename_i r rs e A c;obtain⟨I,h,t,d⟩:=MV h;refine⟨_,h,g,fun Lw bs N ρ H a w s=>?_⟩;obtain⟨vs,u,B⟩:=d bs N ρ H a w s;refine⟨.tuple vs.toArray,?_,by simp only[qL,qu]; exact⟨vs,rfl,B⟩⟩;rw[cR,Array.mapM_eq_mapM_toList,c];simp only[ka,Sem.run_map,u,jZ,ke];have:¬ vs.toArray.size=1:=by
   intro C;simp at C;have D:vs.length=(r::rs).length:=by rw[B.length,t]
   rw[C]at D;cases rs with
   | nil=>exact e rfl
   | cons b l=>simp at D
  simp only[this,dif_neg,not_false_eq_true]
 cases x with
 | normal=>exact key (.inl rfl) h
 | exit i=>exact h.elim
 | ret=>exact key (.inr rfl) h
theorem vF.of_vc {P:Program} {f:FuncId} {fn:Func} {args:List FV} {lo:List AObj} {R:FV->List AObj->Prop} {inl:List Nat} (hm:P.follows .mixedOrders=true) (he:Enters P f) (y:P.funcs[f]? =some fn) (d:MT inl fn args.length=true)
  (h:vcI P inl fn args lo R):vF P f args lo R:=by
 intro Lw bs ρ H w vs s u;rw[he];refine⟨rfl,?_⟩;simp only[MT,ji,kde]at d;obtain⟨j,D⟩:=d;unfold vcI at h;cases l:fn.body with
 | none=>simp[l]at j
 | some c=>
  simp only[l]at h j;have h:=zG h;rw[jx]at h;refine calls_of_wp y l ?_;have E:=u.length;have sat:Sat { S:=iV ρ lo,w0:=w,H0:=H,r0:=ρ } fn.ntmps ρ H (qG (nU 0 args)) lo { tmps:=vs.toArray++Array.replicate (fn.ntmps - vs.toArray.size) undef,defers:=[] } w:=by
   refine{ s.lend with slots:=fun t=>?_,width:=by simp; omega,defers:=rfl }
   rw[Zf];simp only[jR,if_true,Nat.sub_zero];cases z:args[t]? with
   | none=>trivial
   | some p=>
    obtain⟨v,i,m⟩:=u.get z;have n:=(jG.1 i).1;have:(vs.toArray++Array.replicate (fn.ntmps - vs.toArray.size) undef).getD t undef=v:=by
     rw[jV,Array.getElem?_append_left (by simpa using n)];simp[i]
    rw[this];exact m
  refine wp_mono (uD hm c _ _ _ j h _ ρ H _ w s.hlen sat) fun e a w' p=>?_;obtain⟨x,ρ',H',E',lo',A,b,k⟩:=p;obtain⟨p,B,o,g⟩:=HV k;obtain⟨v,i,m⟩:=g _ _ ρ' H' a w' b;have oX:∃ v,(results fn a.tmps).run P w'=.ok v w'/\(fun C q=>∃ v r lo',C=Ending.returned v/\dJ bs ρ H r lo' v q/\R r lo') (.returned v) w':=
   ⟨v,i,v,p,lo',rfl,⟨ρ',H',b.pre,b.leH,s.back b.toSatW,m⟩,B⟩
  rcases o with rfl|rfl<;>cases e<;>simp only[Pj]at A
  ·exact⟨b.defers,oX⟩
  exact⟨b.defers,oX⟩
end Ax
end
section
namespace Ax
open Go
inductive Val where
 | mk (kind:Int) (b:Bool) (i:Int) (s:List UInt8) (l:List Val) (k:List (List UInt8))
def qi (l:List (List UInt8)):List (List PV):=l.map fun s=>[.str s]
mutual
def Val.cells:Val->List PV
 | .mk k b i s l ks=>[.int .i64 k,.bool b,.int .i64 i,.str s,.sl (Val.rows l),.sl (qi ks)]
def Val.rows:List Val->List (List PV)
 | []=>[]
 | v::l=>v.cells::Val.rows l
end
abbrev Val.pv (v:Val):PV:=.agg v.cells
def vals (l:List Val):List (List PV):=l.map Val.cells
theorem rows_eq:∀ l:List Val,Val.rows l=vals l
 | []=>rfl
 | v::l=>by simp only[Val.rows,vals,jk]; rw[rows_eq l]; rfl
@[simp] theorem nW (l:List (List UInt8)):(qi l).length=l.length:=by simp[qi]
@[simp] theorem lD (l:List Val):(vals l).length=l.length:=by simp[vals]
theorem ma (v:Val):v.cells.length=6:=by cases v; rfl
theorem Sy (l:List Val):∀ r∈vals l,r.length=6:=by
 intro r a;simp only[vals,List.mem_map]at a;obtain⟨v,_,rfl⟩:=a;exact ma v
theorem ME (n:Int) (a:-9223372036854775808<=n) (b:n<=9223372036854775807):kwr .i64 n=n:=IntWalk.i64_in n ⟨a,b⟩
instance:Inhabited Val:=⟨.mk 0 false 0 [] [] []⟩
end Ax
end
section
namespace Ax
open Go
def eX:List (List UInt8)->Nat
 | []=>0
 | k::l=>k.length+1+eX l
mutual
def Val.big:Val->Nat
 | .mk _ _ _ s l ks=>1+s.length+eP l+eX ks
def eP:List Val->Nat
 | []=>0
 | v::l=>Val.big v+eP l
end
end Ax
end
section
namespace Ax
open Go
theorem MK:∀ a b:List UInt8,(Op.bytesLess a b||a==b)=!Op.bytesLess b a
 | [],[]=>rfl
 | [],_::_=>rfl
 | _::_,[]=>rfl
 | x::xs,y::ys=>by
  have ih:=MK xs ys;simp only[Op.bytesLess];rcases Nat.lt_trichotomy x.toNat y.toNat with h|h|h
  ·have d:x<y:=UInt8.lt_iff_toNat_lt.2 h
   have e:¬ y<x:=fun c=>by have:=UInt8.lt_iff_toNat_lt.1 c; omega
   have f:¬ y=x:=fun c=>by subst c; omega
   simp[d,e,f]
  ·have d:x=y:=UInt8.toNat.inj h
   subst d;have e:¬ x<x:=fun c=>by have:=UInt8.lt_iff_toNat_lt.1 c; omega
   simp only[e,List.cons_beq_cons];simpa using ih
  have d:¬ x<y:=fun c=>by have:=UInt8.lt_iff_toNat_lt.1 c; omega
  have e:y<x:=UInt8.lt_iff_toNat_lt.2 h;have f:¬ x=y:=fun c=>by subst c; omega
  simp[d,e,f]
end Ax
end
section
namespace Ax
open Go
end Ax
end
section
namespace Ax
open Go
variable {Lw:Nat}
theorem vF.noEscape {P:Program} {f:FuncId} {fn:Func} (hf:P.funcs[f]? =some fn) (hname:(fn.name == "runtime.NumGoroutine")=false) (hb:fn.body.isNone=true) (hn:Extern.findNext fn=none)
  (he:Extern.find fn=some Extern.AbiNoEscape.same) {v:FV} {lo:List AObj} {R:FV->List AObj->Prop} (h:R v lo):vF P f [v] lo R:=by
 intro Lw bs ρ H w vs s rl;simp only[zJ]at rl;obtain⟨v',_,rfl,rv,rfl⟩:=rl;rw[show([v']:List Value).toArray = #[v']from rfl,run_callFunc_extern hf hname hb hn he];exact⟨v,lo,⟨ρ,H,jq _,PH.le.refl H,s,rv⟩,h⟩
end Ax
end
section
namespace Go.Proofs
open Go Go.Shelf Go.RowKit Ax
variable {P:Program} {ρ:Ren}
def Fk (l:List UInt8) (v:Value) (w:World) (e:Ending) (w':World):Prop:=
 e=.returned (.string ⟨l.toArray⟩)/\(w'=w.drew\/(∃ g n,qI v=some g/\w'=w.drew.freeze ⟨g,0,none⟩ n)\/∃ o,w'=w.drew.alloc o)
set_option maxHeartbeats 2000000 in
set_option maxRecDepth 100000 in
theorem Any.String_exact (L:Lays.n169 P ρ) (X:Builder.Extra P ρ) (b:Nat) (l:List UInt8) (w:World) (p v:Value) (c:w.heap[b]? =some (.cells #[p,v] (ρ.t 72) (0,0)))
  (a:w.ownsRow 0 (ρ.t 5) 1 v l.length (Lib.byteCells l)) (k:l≠[]) :
  Calls P (ρ.f 169) #[.pointer (some ⟨b,0,none⟩)] w (Fk l v w):=by
 have d:l.length≠0:=by simpa using k
 obtain⟨g,cap,cur,rfl,m,n,e,o,h⟩:∃ g cap cur,v=.slice (some ⟨g,0,none⟩) l.length cap/\w.heap[g]? =some (.cells cur (ρ.t 5) (0,0))/\l.length<=cap/\cap<=maxLen/\cur.size=cap * 1/\cur.toList.take (l.length * 1)=Lib.byteCells l:=by
  rcases a.2 with ⟨_,hz⟩|⟨g,cap,cur,q,_,r⟩
  ·exact absurd hz d
  exact⟨g,cap,cur,q,r⟩
 have c1:w.drew.cell? ⟨b,1,none⟩=some (.slice (some ⟨g,0,none⟩) l.length cap):=by
  have:w.drew.heap[b]? =some (.cells #[p,.slice (some ⟨g,0,none⟩) l.length cap] (ρ.t 72) (0,0)):=c;rw[Lib.cell_of_heap this]; rfl
 have s:(Builtin.unsafeSliceData_ #[(ρ.t 37)] (ρ.t 127) #[.slice (some ⟨g,0,none⟩) l.length cap]).run P w.drew=.ok (.pointer (some ⟨g,0,none⟩)) w.drew:=
  Lib.run_unsafeSliceData_row _ _ _ _ _ _ (by omega)
 have u:(Builtin.unsafeString_ #[(ρ.t 127),(ρ.t 3)] (ρ.t 9) #[.pointer (some ⟨g,0,none⟩),.int .i64 l.length]).run P w.drew=.ok (.string ⟨l.toArray⟩) (w.drew.freeze ⟨g,0,none⟩ l.length):=by
  refine Lib.run_unsafeString_row w.drew (ρ.t 127) (ρ.t 3) (ρ.t 9) (ρ.t 5) L.t127 X.cellsByte g cur.size (by have i:w.drew.heap[g]? =some (.cells cur (ρ.t 5) (0,0)):=m; simp[World.shape?,i]) l k (by omega) (by unfold maxLen at e; omega) ?_;intro j x y;exact a.cells (g:=g) rfl j (.int .u8 x.toNat) (by simp[Lib.byteCells,y])
 have mixed:=L.mixed;have t72:=L.t72; have a72:=L.a72; have z72:=L.z72; have v72:=L.v72; have u72:=kru L.t72;have t70:=L.t70; have a70:=L.a70; have z70:=L.z70; have v70:=L.v70; have u70:=kru L.t70;have t37:=L.t37; have a37:=L.a37; have z37:=L.z37; have v37:=L.v37; have u37:=kru L.t37;have t127:=L.t127; have a127:=L.a127; have z127:=L.z127; have v127:=L.v127; have u127:=kru L.t127;have t3:=L.t3; have a3:=L.a3; have z3:=L.z3; have v3:=L.v3; have u3:=kru L.t3;have t9:=L.t9; have a9:=L.a9; have z9:=L.z9; have v9:=L.v9; have u9:=kru L.t9;have t5:=X.t5; have a5:=X.a5; have z5:=X.z5; have v5:=X.v5; have u5:=kru X.t5
 go_enter L.f169,Body.n169_ntmps ρ
 go_wp2
 go_region_o
 all_goals (go_wp2; go_ret; exact⟨rfl,.inr (.inl ⟨g,l.length,rfl,rfl⟩)⟩)
theorem Any.String_empty (L:Lays.n169 P ρ) (X:Builder.Extra P ρ) (b:Nat) (w:World) (p v:Value) (a:w.heap[b]? =some (.cells #[p,v] (ρ.t 72) (0,0)))
  (c:w.ownsRow 0 (ρ.t 5) 1 v 0 []) :
  Calls P (ρ.f 169) #[.pointer (some ⟨b,0,none⟩)] w fun e w'=>e=.returned (.string ⟨#[]⟩)/\Below w.heap.size w w':=by
 rcases c.2 with ⟨rfl,_⟩|⟨g,cap,cur,rfl,_,h,_,_,_,_⟩
 ·exact Any.Builder_String_nil L X _ b p w a
 by_cases d:cap=0
 ·subst d
  exact Any.Builder_String_noroom L X _ b g p cur w (jw _) a h
 exact Any.Builder_String_room L X _ b g cap p w d a
end Go.Proofs
end
section
namespace Ax
open Go Go.Proofs Go.RowKit
variable {Lw:Nat}
structure Shut (v:Value) (w w':World):Prop where
 os:w'.os=w.os
 tape:w'.tape=w.tape
 output:w'.output=w.output
 size:w.heap.size<=w'.heap.size
 block:∀ k,k<w.heap.size->qI v≠some k->w'.heap[k]? =w.heap[k]?
 cell:∀ a x,w.cell? a=some x->w'.cell? a=some x
theorem Shut.of {l:List UInt8} {v:Value} {w w':World} {e:Ending} (h:Fk l v w e w'):Shut v w w':=by
 obtain⟨_,rfl|⟨g,n,j,rfl⟩|⟨o,rfl⟩⟩:=h
 ·exact⟨rfl,rfl,rfl,jw _,fun _ _ _=>rfl,fun _ _ h=>h⟩
 ·have m:∀ k,k≠g->(w.drew.freeze ⟨g,0,none⟩ n).heap[k]? =w.heap[k]?:=by
   intro k f;unfold World.freeze;split
   ·rfl
   simp only[Array.getElem?_modify];rw[if_neg (by omega)]; rfl
  refine⟨?_,?_,?_,?_,fun k _ f=>m k (fun e=>f (by rw[j,e])),fun a x b=>?_⟩
  ·unfold World.freeze; split<;>rfl
  ·unfold World.freeze; split<;>rfl
  ·unfold World.freeze; split<;>rfl
  ·unfold World.freeze; split
   ·exact jw _
   simp
  unfold World.freeze;split
  ·exact b
  unfold World.cell? at b ⊢;split at b
  ·rename_i c el fz p
   have i:w.drew.heap[a.block]? =some (.cells c el fz):=p;simp only[Array.getElem?_modify,i,Option.map_some];by_cases d:g=a.block
   ·simp only[d,if_true]; exact b
   simp only[d,if_false]; exact b
  exact absurd b (by simp)
 refine⟨rfl,rfl,rfl,by simp,fun k f _=>?_,fun a x b=>?_⟩
 ·exact Go.RowKit.Below.heap_alloc w.drew o k f
 rw[World.cell?_alloc_lt (h:=World.block_lt_of_cell? w.drew a b)]; exact b
theorem SatW.shut {bs:(Base Lw)} {ρ:List Value} {H:(PH Lw)} {lo:List AObj} {w w':World} (s:SatW bs ρ H lo w) {j:Nat} {v:Value} {e:TypeId} {z n:Nat} (p:lo[j]? =some (.tail e z n)) (q:ρ[j]? =some v)
  (h:Shut v w w') (f:∀ b o x,qI v=some b->H b o=some x->∃ m,x=.int .u8 m):SatW bs ρ H (lo.set j .dead) w' where
 sath:=⟨fun b o x c=>⟨h.cell _ _ (s.sath.cell b o x c).1,(s.sath.cell b o x c).2⟩,s.sath.root,Nat.le_trans s.sath.low h.size,fun b o x c B=>by
  by_cases d:qI v=some b
  ·exact .inl (f b o x d c)
  exact(s.sath.nf b o x c B).block (h.block b (s.sath.lt c) d)⟩
 hlen:=by simpa using s.hlen
 pre:=s.pre
 objs:=fun i o u a hu=>by
  rw[jF]at a;split at a
  ·split at a
   ·cases a; trivial
   cases a
  ·rename_i g
   cases r:o.live with
   | false=>cases o<;>simp[AObj.live]at r; trivial
   | true=>
    refine(s.objs i o u a hu).keep (jq _) (PH.le.refl H) (fun b d l=>h.block b l fun e=>?_) (fun _ _ _ _ C=>C)
    exact s.excl i j o _ u v b a p hu q (fun e=>g e.symm) r rfl d e
 excl:=s.kill j |>.excl
 own:=s.kill j |>.own
 keep:=by
  refine⟨h.os.trans s.keep.os,h.tape.trans s.keep.tape,h.output.trans s.keep.output,Nat.le_trans s.keep.size h.size,fun k t y=>?_⟩;rw[h.block k (Nat.lt_of_lt_of_le t s.keep.size) fun e=>?_]
  ·exact s.keep.block k t y
  rcases s.own j _ v k p q rfl e with A|A
  ·exact y A
  omega
 leH:=s.leH
 newH:=s.newH
theorem vF.string {P:Program} {f:FuncId} {T E:TypeId} (q:∀ args w,(callFunc f args).run P w=.ok (.enter f args) w)
  (K:∀ (b:Nat) (l:List UInt8) (w:World) (p v:Value),w.heap[b]? =some (.cells #[p,v] T (0,0))->w.ownsRow 0 E 1 v l.length (Lib.byteCells l)->l≠[] ->
   Calls P f #[.pointer (some ⟨b,0,none⟩)] w (Fk l v w))
  {k j:Nat} {a:FV} {bs:List UInt8} {lo:List AObj} {n:Nat} {R:FV->List AObj->Prop} (L:lo[k]? =some (.box T [a,.tsl j (qp bs)])) (F:lo[j]? =some (.tail E 1 n))
  (G:bs≠[]) (h:R (.p (.str bs)) (lo.set j .dead)):vF P f [.ptr k 0] lo R:=by
 intro Lw M ρ H w vs s N;obtain⟨u,_,rfl,O,rfl⟩:=N;obtain⟨b,B,rfl⟩:=O;rw[show([Value.pointer (some ⟨b,0,none⟩)]:List Value).toArray = #[.pointer (some ⟨b,0,none⟩)]from rfl,q];refine⟨rfl,?_⟩;obtain⟨b',vs,Q,S,r,_⟩:=s.objs k _ _ L B;cases Q;simp only[zJ]at r;obtain⟨p,_,rfl,_,v,_,rfl,⟨I,d⟩,rfl⟩:=r;obtain⟨xs,c,U⟩:=s.objs j _ v F I;have C:n=bs.length/\xs=Lib.byteCells bs:=by
  simp only[qu]at d;rcases d with ⟨m,_⟩|⟨g,o,z,cap,rfl,_,V⟩
  ·exact absurd (by simpa[qp]using m) G
  rcases c.2 with ⟨m,_⟩|⟨g',J,cur,m,_⟩
  ·cases m
  simp only[Value.slice.injEq,Option.some.injEq,Addr.mk.injEq]at m;obtain⟨⟨rfl,rfl,_⟩,X,_⟩:=m;have t:n=bs.length:=by rw[← X]; simp[qp]
  refine⟨t,?_⟩;have Y:=c.1;have hcell:=BM s.sath V;refine List.ext_getElem (by rw[Y,Lib.byteCells_length,t,Nat.mul_one]) fun j A y=>?_;have D:j<bs.length:=by rw[Lib.byteCells_length]at y; exact y
  have c1:=c.cells (g:=g) rfl j _ (jf A);rw[hcell j D]at c1;simp only[Option.some.injEq]at c1;rw[← c1];simp[Lib.byteCells]
 obtain⟨rfl,rfl⟩:=C;refine(K b bs w p v S c G).mono fun e w' hp=>?_;exact⟨_,.p (.str bs),lo.set j .dead,hp.1,⟨ρ,H,jq _,PH.le.refl H,s.shut F I (Shut.of hp) (fun b o x B i=>by
  obtain⟨Z,a2⟩:=U b B;have ho:o<(Lib.byteCells bs).length:=by
   rw[Lib.byteCells_length];rcases Nat.lt_or_ge o (bs.length * 1)with A|A
   ·omega
   rw[a2 o A]at i; cases i
  have y:=Z o _ (jf ho);rw[i]at y;rw[Option.some.inj y];simp[Lib.byteCells]),by simp[qL,qu]⟩,h⟩
theorem SatH.below {H:(PH Lw)} {w w':World} (s:SatH H w) (h:Below w.heap.size w w'):Calm H w H w':=
 ⟨PH.le.refl H,s.block h.size fun b _ _ a=>h.block b (s.lt a),⟨h.os,h.tape,h.output,h.size,fun k c _=>h.block k c⟩,fun _ _ v a=>.inl ⟨v,a⟩⟩
abbrev Fl (P:Program) (f:FuncId) (T E:TypeId):Prop:=∀ (b:Nat) (w:World) (p v:Value),w.heap[b]? =some (.cells #[p,v] T (0,0))->w.ownsRow 0 E 1 v 0 [] ->
   Calls P f #[.pointer (some ⟨b,0,none⟩)] w fun e w'=>e=.returned (.string ⟨#[]⟩)/\Below w.heap.size w w'
theorem vF.string_any {P:Program} {f:FuncId} {T E:TypeId} (d:∀ args w,(callFunc f args).run P w=.ok (.enter f args) w)
  (C:∀ (b:Nat) (l:List UInt8) (w:World) (p v:Value),w.heap[b]? =some (.cells #[p,v] T (0,0))->w.ownsRow 0 E 1 v l.length (Lib.byteCells l)->l≠[] ->
   Calls P f #[.pointer (some ⟨b,0,none⟩)] w (Fk l v w)) (t:Fl P f T E)
  {k j:Nat} {a:FV} {bs:List UInt8} {lo:List AObj} {n:Nat} {R:FV->List AObj->Prop} (y:lo[k]? =some (.box T [a,.tsl j (qp bs)])) (A:lo[j]? =some (.tail E 1 n))
  (h:R (.p (.str bs)) (lo.set j .dead)):vF P f [.ptr k 0] lo R:=by
 by_cases B:bs=[]
 ·subst B
  intro Lw D ρ H w vs s F;obtain⟨u,_,rfl,G,rfl⟩:=F;obtain⟨b,I,rfl⟩:=G;rw[show([Value.pointer (some ⟨b,0,none⟩)]:List Value).toArray = #[.pointer (some ⟨b,0,none⟩)]from rfl,d];refine⟨rfl,?_⟩;obtain⟨O,vs,J,K,m,_⟩:=s.objs k _ _ y I;cases J;simp only[zJ]at m;obtain⟨p,_,rfl,_,v,_,rfl,⟨L,i⟩,rfl⟩:=m;obtain⟨xs,c,Q⟩:=s.objs j _ v A L;have M:n=0:=by
   simp only[qu,qp,jN]at i;rcases i with ⟨_,q⟩|⟨g,o,z,cap,rfl,_,_⟩
   ·rcases c.2 with ⟨_,hz⟩|⟨N,r,cur,e1,_⟩
    ·exact hz
    rcases q with q|⟨a0,S,q⟩
    ·rw[q]at e1; cases e1
    rw[q]at e1;simp only[Value.slice.injEq]at e1;exact e1.2.1.symm
   rcases c.2 with ⟨e1,hz⟩|⟨N,r,cur,e1,_⟩
   ·cases e1
   simp only[Value.slice.injEq]at e1;exact e1.2.1.symm
  subst M;have x:xs=[]:=by have:=c.1; simpa using this
  subst x;refine(t b w p v K c).mono fun e w' hp=>?_;exact⟨_,.p (.str []),lo.set j .dead,hp.1,⟨ρ,H,jq _,PH.le.refl H,(s.kill j).calm (s.sath.below hp.2),by simp[qL,qu]⟩,h⟩
 exact vF.string d C y A B h
end Ax
end
section
namespace Ax
open Go
variable {Lw:Nat}
mutual
def PV.norm:PV->PV
 | .nilsl=>.sl []
 | .agg cs=>.agg (Bh cs)
 | .tup cs=>.tup (Bh cs)
 | .sl rows=>.sl (Mt rows)
 | v=>v
def Bh:List PV->List PV
 | []=>[]
 | c::cs=>c.norm::Bh cs
def Mt:List (List PV)->List (List PV)
 | []=>[]
 | r::rs=>Bh r::Mt rs
end
theorem QW:∀ rows:List (List PV),(Mt rows).length=rows.length
 | []=>rfl
 | _::l=>by simp[Mt,QW l]
theorem Ue:∀ cs:List PV,(Bh cs).length=cs.length
 | []=>rfl
 | _::l=>by simp[Bh,Ue l]
mutual
theorem qu.norm {H:(PH Lw)}:∀ {c:PV} {v:Value},qu H c v->qu H c.norm v
 | .nilsl,v,h=>by simp only[PV.norm,qu]at *; exact .inl ⟨trivial,.inl h⟩
 | .agg cs,v,h=>by
  simp only[PV.norm,qu]at *;obtain⟨vs,e,r⟩:=h;exact⟨vs,e,qU.norm r⟩
 | .tup cs,v,h=>by
  simp only[PV.norm,qu]at *;obtain⟨vs,e,r⟩:=h;exact⟨vs,e,qU.norm r⟩
 | .sl rows,v,h=>by
  simp only[PV.norm,qu]at *;rcases h with ⟨rfl,h⟩|⟨b,o,z,cap,e,hc,r⟩
  ·exact .inl ⟨rfl,h⟩
  exact .inr ⟨b,o,z,cap,by rw[QW]; exact e,by rw[QW]; exact hc,ca.norm r⟩
 | .bool _,_,h|.int ..,_,h|.str _,_,h|.nilp,_,h|.fn _,_,h|.nilfn,_,h|.nili,_,h|.nilmap,_,h|.ifc ..,_,h|.hp _,_,h|.clo ..,_,h|.bfn ..,_,h|.ifo ..,_,h|.nsl _,_,h=>by
  simpa only[PV.norm]using h
theorem qU.norm {H:(PH Lw)}:∀ {cs:List PV} {vs:List Value},qU H cs vs->qU H (Bh cs) vs
 | [],_,h=>by simpa only[Bh]using h
 | c::cs,vs,h=>by
  simp only[Bh,qU]at *;obtain⟨v,vs',e,r,rs⟩:=h;exact⟨v,vs',e,qu.norm r,qU.norm rs⟩
theorem ca.norm {H:(PH Lw)} {b z:Nat}:∀ {rows:List (List PV)} {o:Nat},ca H b z o rows->ca H b z o (Mt rows)
 | [],_,h=>by simpa only[Mt]using h
 | r::rs,o,h=>by
  simp only[Mt,ca]at *;obtain⟨e,⟨vs,q,c⟩,rr⟩:=h;exact⟨by rw[Ue]; exact e,⟨vs,qU.norm q,c⟩,ca.norm rr⟩
end
theorem qc.norm {P:Program} {f:FuncId} {args:List PV} {r a:PV} (h:qc P f args r) (e:r.norm=a):qc P f args a:=by
 subst e;intro Lw H w vs b d;have:=h H w vs b d;generalize (callFunc f vs.toArray).run P w=x at *;cases x with
 | ok n w'=>
  cases n<;>simp only[Xs]at this ⊢ <;> try exact this
  ·obtain⟨H',c,r⟩:=this; exact⟨H',c,qu.norm r⟩
  exact⟨this.1,this.2.mono fun i g ⟨v,H',e,c,r⟩=>⟨v,H',e,c,qu.norm r⟩⟩
 | halt x w'=>exact this
theorem qc.args {P:Program} {f:FuncId} {args a:List PV} {r:PV} (h:qc P f a r) (e:Bh args=a):qc P f args r:=by
 subst e;exact fun Lw H w vs b c=>h H w vs b (qU.norm c)
end Ax
end
section
namespace Ax
open Go
section
variable {A R S:Type}
def chk (b:Bool) (k:Option R):Option R:=match b with|true=>k|false=>none
theorem qb {b:Bool} {k:Option R} {r:R} (h:chk b k=some r):b=true/\k=some r:=by
 cases b with
 | true=>exact⟨rfl,h⟩
 | false=>cases h
def bnd (o:Option A) (k:A->Option R):Option R:=match o with|some a=>k a|none=>none
theorem zx {o:Option A} {k:A->Option R} {r:R} (h:bnd o k=some r):∃ x,o=some x/\k x=some r:=by
 cases o with
 | some a=>exact⟨a,rfl,h⟩
 | none=>cases h
theorem uA {c:Bool} {a b:Option R} {r:R} (h:(bif c then a else b)=some r) (d:c=true):a=some r:=by subst d; exact h
theorem uz {c:Bool} {a b:Option R} {r:R} (h:(bif c then a else b)=some r) (d:c=false):b=some r:=by subst d; exact h
def idx (l:List A) (i:Int):Option A:=if 0<=i then l[i.toNat]? else none
theorem zM {l:List A} {i:Int} {x:A} (h:idx l i=some x):0<=i/\l[i.toNat]? =some x:=by
 unfold idx at h;split at h
 ·exact⟨by assumption,h⟩
 cases h
def qE [Inhabited A] (g:Bool) (o:Option A):Option A:=bif g then o else some default
theorem qa [Inhabited A] {g:Bool} {o:Option A} {x:A} (h:qE g o=some x) (a:g=true):o=some x:=by subst a; exact h
def rZ (i:Int):Option Nat:=if 0<=i then some i.toNat else none
theorem qM {i:Int} {n:Nat} (h:rZ i=some n):i=n:=by
 unfold rZ at h;split at h
 ·cases h; omega
 cases h
def u8I (i:Int):Option UInt8:=if 0<=i/\i<256 then some (UInt8.ofNat i.toNat)else none
theorem xN {i:Int} {b:UInt8} (h:u8I i=some b):i=(b.toNat:Int):=by
 unfold u8I at h;split at h
 ·cases h
  simp only[UInt8.toNat_ofNat'];omega
 cases h
theorem gd {g c:Bool} (h:(bif g then c else true)=true) (a:g=true):c=true:=by subst a; exact h
def qC (B:(S->Option R)->S->Option R):Nat->S->Option R
 | 0,_=>none
 | n+1,s=>B (qC B n) s
end
structure Codec (A:Type) where
 cells:A->List PV
 rows:List A->List (List PV)
 z:Nat
 hrows:∀ l,rows l=l.map cells
 hz:∀ a,(cells a).length=z
 hone:∀ a,(cells a).all Eo=true
namespace Codec
variable {A:Type} (C:Codec A)
theorem at_ {l:List A} {i:Int} {x:A} (h:idx l i=some x):0<=i/\(C.rows l)[i.toNat]? =some (C.cells x)/\(C.cells x).length=C.z:=by
 obtain⟨a,b⟩:=zM h;exact⟨a,by rw[C.hrows]; simp[b],C.hz x⟩
theorem length (l:List A):(C.rows l).length=l.length:=by rw[C.hrows]; simp
theorem append (a b:List A):C.rows a++C.rows b=C.rows (a++b):=by simp[C.hrows]
theorem take (l:List A) (n:Nat):(C.rows l).take n=C.rows (l.take n):=by simp[C.hrows]
theorem drop (l:List A) (n:Nat):(C.rows l).drop n=C.rows (l.drop n):=by simp[C.hrows]
theorem cut (l:List A) (n m:Nat):((C.rows l).take n).drop m=C.rows ((l.take n).drop m):=by simp[C.hrows]
theorem dropAll (l:List A) (m:Nat):((C.rows l).take (C.rows l).length).drop m=C.rows (l.drop m):=by rw[List.take_length,C.drop]
theorem wide (l:List A):∀ r∈C.rows l,r.length=C.z:=by
 intro r b;rw[C.hrows]at b;obtain⟨a,_,rfl⟩:=List.mem_map.1 b;exact C.hz a
theorem one (l:List A):∀ r∈C.rows l,r.length=C.z/\r.all Eo=true:=by
 intro r b;rw[C.hrows]at b;obtain⟨a,_,rfl⟩:=List.mem_map.1 b;exact⟨C.hz a,C.hone a⟩
theorem madeN (x:A) (n:Nat) {a:List PV} (h:Ln a (C.cells x)):List.replicate n a=C.rows (List.replicate n x)\/FL (List.replicate n a) (C.rows (List.replicate n x)):=by
 rw[C.hrows];refine .inr ?_
 induction n with
 | zero=>trivial
 | succ n ih=>simp only[List.replicate_succ,jk,FL]; exact⟨h,by simpa using ih⟩
end Codec
def Rx (k:IntKind) (l:List Int):List (List PV):=l.map fun n=>[PV.int k n]
def cS {A:Type} (C:Codec A) (l:List (List A)):List (List PV):=l.map fun x=>[PV.sl (C.rows x)]
def cV:Codec (List UInt8):={ cells:=fun s=>[.str s],rows:=qi,z:=1,hrows:=fun _=>rfl,hz:=fun _=>rfl,hone:=fun _=>rfl }
def zu:Codec UInt8:={ cells:=fun b=>[.int .u8 b.toNat],rows:=qp,z:=1,hrows:=fun _=>rfl,hz:=fun _=>rfl,hone:=fun _=>rfl }
def slC {A:Type} (C:Codec A):Codec (List A):={ cells:=fun x=>[.sl (C.rows x)],rows:=cS C,z:=1,hrows:=fun _=>rfl,hz:=fun _=>rfl,hone:=fun _=>rfl }
theorem Val.one (v:Val):v.cells.all Eo=true:=by cases v; rfl
def xZ:Codec Val:={ cells:=Val.cells,rows:=Val.rows,z:=6,hrows:=fun l=>rows_eq l,hz:=ma,hone:=Val.one }
theorem LG {a:List PV} (h:a.all Eo=true):∀ c∈a,Eo c=true:=by simpa using h
theorem qO {n b:Nat} (h:decide (n * b<=140737488355328)=true) (a:1<=b):n<=9223372036854775807:=by
 have:=kod h;have:n * 1<=n * b:=Nat.mul_le_mul_left n a;omega
theorem qc.leArgs {P:Program} {f:FuncId} {args a:List PV} {r:PV} (h:qc P f a r) (e:Ln args a):qc P f args r:=
 fun Lw H w vs b c=>h H w vs b (pM e c)
theorem qc.le {P:Program} {f:FuncId} {args:List PV} {r a:PV} (h:qc P f args r) (e:nle r a):qc P f args a:=by
 intro Lw H w vs b d;have:=h H w vs b d;generalize (callFunc f vs.toArray).run P w=x at *;cases x with
 | ok n w'=>
  cases n<;>simp only[Xs]at this ⊢ <;> try exact this
  ·obtain⟨H',c,r⟩:=this; exact⟨H',c,Xm e r⟩
  exact⟨this.1,this.2.mono fun i g ⟨v,H',e1,c,r⟩=>⟨v,H',e1,c,Xm e r⟩⟩
 | halt x w'=>exact this
theorem qP.fn {P:Program} (inl:List Nat) {N nb:Nat} {body:Code} {K:KA} {E:Env} {lo:List AObj} {S R:Type} (l:S->Env) (m:S->List AObj) {B:(S->Option R)->S->Option R} {n:Nat} {o:S} {r:R}
  (h:qC B n o=some r) (hw:UY nb E lo (l o) (m o))
  (round:∀ (next:S->Option R) (s:S),B next s=some r->vc P inl N nb body (fun x E' lo'=>match x with
   | .normal=>∃ c,next c=some r/\UY nb E' lo' (l c) (m c)
   | .exit i=>K (.exit i) E' lo'
   | .ret=>K .ret E' lo') (l s) (m s)):qP P inl N nb body K E lo:=by
 intro hm z Lw bs ρ H a w D sat;subst D;obtain⟨ρ',d⟩:=hw.sat sat;refine wp_loop_ghost (I:=fun n a w=>∃ s ρ H,qC B n s=some r/\Sat bs N ρ H (qG (l s)) (m s) a w) n ⟨o,ρ',H,h,d⟩ fun n a w ⟨s,ρ,H,u,sat⟩=>?_;cases n with
 | zero=>cases u
 | succ n=>
  refine wp_mono (uD hm body _ _ _ z (round (qC B n) s u) bs ρ H a w rfl sat) fun e a w p=>?_;obtain⟨x,ρ2,q,v,f,y,b,k⟩:=p;cases x<;>cases e<;>simp only[Pj]at y
  ·obtain⟨c,g,t⟩:=k
   obtain⟨ρ3,j⟩:=t.sat b;exact⟨n,Nat.lt_succ_self _,c,ρ3,q,g,j⟩
  ·exact⟨.exit _,ρ2,q,v,f,y,b,k⟩
  exact⟨.ret,ρ2,q,v,f,trivial,b,k⟩
theorem gW.go {P:Program} {inl:List Nat} {N nb:Nat} {x y:Code} {K:KA} {E:Env} {lo:List AObj}
  (h:vc P inl N nb x (fun e E lo=>match e with|.normal=>vc P inl N nb y K E lo|.exit i=>K (.exit i) E lo|.ret=>K .ret E lo) E lo):gW P inl N nb x y K E lo:=by
 intro hm b f Lw bs ρ H a w d s;refine wp_seq (wp_mono (uD hm x _ E lo b h bs ρ H a w d s) fun e a w p=>?_);obtain⟨g,ρ',H',E',lo',b,c,k⟩:=p;cases g<;>cases e<;>simp only[Pj]at b
 ·exact uD hm y K E' lo' f k bs ρ' H' a w d c
 ·exact⟨.exit _,ρ',H',E',lo',b,c,k⟩
 exact⟨.ret,ρ',H',E',lo',trivial,c,k⟩
theorem gW.cut {P:Program} {inl:List Nat} {N nb:Nat} {x y:Code} {K:KA} {E:Env} {lo:List AObj} {S R:Type} (l:S->Env) (m:S->List AObj) (k:S->Option R) {r:R}
  (o:∀ s,k s=some r->vc P inl N nb y K (l s) (m s))
  (b:vc P inl N nb x (fun e E lo=>match e with|.normal=>∃ s,k s=some r/\UY nb E lo (l s) (m s)|.exit i=>K (.exit i) E lo|.ret=>K .ret E lo) E lo):gW P inl N nb x y K E lo:=by
 intro hm c d Lw bs ρ H a w n s;refine wp_seq (wp_mono (uD hm x _ E lo c b bs ρ H a w n s) fun e a w p=>?_);obtain⟨q,ρ',H',E',lo',b,f,g⟩:=p;cases q<;>cases e<;>simp only[Pj]at b
 ·obtain⟨st,h,j⟩:=g
  subst n;obtain⟨ρ3,t⟩:=j.sat f;exact uD hm y K _ _ d (o st h) bs ρ3 H' a w rfl t
 ·exact⟨.exit _,ρ',H',E',lo',b,f,g⟩
 exact⟨.ret,ρ',H',E',lo',trivial,f,g⟩
theorem qc.of_vcN {P:Program} {f:FuncId} {fn:Func} {args:List PV} {r:PV} {inl:List Nat} (hm:P.follows .mixedOrders=true) (he:Enters P f) (b:P.funcs[f]? =some fn) (a:MT inl fn args.length=true)
  (h:aJ P inl fn args (fun v=>nle v r)):qc P f args r:=
 qc.of_vcR hm he b a (fun _ _ _ _=>Xm) h
section
variable {A R S:Type}
theorem vT (B:(S->Option R)->S->Option R) (n:Nat) (s:S):qC B (n+1) s=B (qC B n) s:=rfl
@[simp] theorem xO (a:A) (k:A->Option R):bnd (some a) k=k a:=rfl
@[simp] theorem eT (k:A->Option R):bnd none k=none:=rfl
@[simp] theorem eU (k:Option R):chk true k=k:=rfl
@[simp] theorem eg (b:Bool) (k:Option R):chk b (chk b k)=chk b k:=by cases b<;>rfl
@[simp] theorem nS [Inhabited A] (o:Option A):qE true o=o:=rfl
@[simp] theorem Rs [Inhabited A] (o:Option A):qE false o=some default:=rfl
@[simp] theorem uy (l:List A) (i:Nat):idx l (i:Int)=l[i]?:=by unfold idx; simp
@[simp] theorem Nb (l:List A):idx l 0=l[0]?:=by unfold idx; simp
@[simp] theorem natI_nat (i:Nat):rZ (i:Int)=some i:=by unfold rZ; simp
@[simp] theorem aZ (b:UInt8):u8I ((b.toNat:Nat):Int)=some b:=by
 have:=b.toNat_lt;unfold u8I;rw[if_pos ⟨Int.natCast_nonneg _,by omega⟩];simp
@[simp] theorem PF (l:List UInt8):(qp l).length=l.length:=by simp[qp]
@[simp] theorem zw (l:List Val):(Val.rows l).length=l.length:=by rw[rows_eq]; simp
theorem MO {b:Bool} (k:Option R) (h:b=true):chk b k=k:=by subst h; rfl
end
end Ax
end
