/- A part of the proof: the abstract execution. -/
import Derived.Lib.AppendStr
import Derived.Laws.IdiomCopy
import Derived.Lib.ConvBytes
import Derived.Laws.OwnMore
import Derived.Deep.LoopGhost
import Derived.Laws.Externs
import Derived.Lib.Builder
import Derived.Shelf.Strings.Builder1
import Derived.Test.YtlbjambmfdlniaaGreatA
set_option linter.unusedVariables false
set_option linter.unusedSimpArgs false
set_option linter.unnecessarySimpa false
set_option linter.deprecated false
set_option linter.unusedSectionVars false
set_option linter.constructorNameAsVariable false
open Go renaming run_underlying->kru
open Go.IntKind renaming wrap->kwr,bits->kbt
open List renaming length_cons->ja,length_append->jb,length_nil->jc,getElem?_cons_zero->jd,getElem?_eq_getElem->jf,mem_cons->jg,map_cons->jk,length_map->jl,prefix_refl->jp,append_assoc->jr,length_take->js,nil_append->jt,mem_append->jx,getElem?_append_left->jB,getElem?_append_right->jC,getElem?_take->jE,getElem?_set->jF,getElem?_eq_some_iff->jG,eq_nil_of_length_eq_zero->jI,take_left->jJ,size_toArray->jL,length_drop->jM,map_nil->jN,map_toArray->jY
open Nat renaming le_of_ble_eq_true->jh,eq_of_beq_eq_true->jn,le_refl->jv,zero_add->jw,lt_irrefl->jQ,zero_le->jR
open Bool renaming and_eq_true->ji,or_eq_true->jO,false_eq_true->jP
open Array renaming getElem?_eq_some_iff->jH,length_toList->jK,getD_eq_getD_getElem?->jV
open Int renaming toNat_natCast->jS
open Go.Result renaming andThen_ok->jZ
open Go.Sem renaming run_bind->ka,run_pure->kc
open Go.Op renaming operands->kd
open Go.Call renaming operands->ke
section
namespace Ax
open Go
variable {Lw:Nat}
section
variable {P:Program} {w:World}
theorem QN {t ty e:TypeId} {i:TypeInfo} {z:Value} (s:P.underlying t=some (.slice e)) (y:P.info? e=some i) (hz:i.zero=some z) (F:z.cells.size=i.size)
  {v:Value} {n:Nat} {xs:List Value} (d:w.ownsRow 0 e i.size v n xs)
  {x:Value} {m:Nat} {news:List Value} (o:news.length=m * i.size) (N:∀ u∈news,u.oneCell'=true)
  (O:(m=0/\x=.slice none 0 0)\/∃ a c,x=.slice (some a) m c/\∀ j u,news[j]? =some u->w.cell? (a.add j)=some u)
  (Q:n+m<=9223372036854775807) (hbytes:(n+m) * i.bytes<=140737488355328) :
  ∃ v' w',(Builtin.append_ #[t,t] ty #[v,x]).run P w=.ok v' w'/\w'.ownsRow 0 e i.size v' (n+m) (xs++news) /\
   ((qC v'=qC v/\(∀ g,qC v=some g->Keep (fun b=>b=g) w w')/\(qC v=none->w'=w))\/(qC v'=some w.heap.size/\Keep (fun b=>b=w.heap.size) w w')):=by
 have hlen:(xs++news).length=(n+m) * i.size:=by rw[jb,d.1,o,Nat.add_mul]
 have A:n+m<=maxLen:=by unfold maxLen; omega
 rcases O with ⟨rfl,rfl⟩|⟨G,c,rfl,f⟩
 ·have H:news=[]:=jI (by simpa using o)
  subst H;refine⟨v,w,run_append_owned_none (P:=P) (w:=w) 0 t ty e i i.size s y v n xs d,by simpa using d,.inl ⟨rfl,fun g _=>Keep.refl _ w,fun _=>rfl⟩⟩
 have grown:∀ (old:Nat),(w.drew.alloc (.cells (xs.toArray++news.toArray++Builtin.zeroCells z.cells (grownCap w (n+m) old e - (n+m))) e)).ownsRow 0 e i.size
    (.slice (some ⟨w.heap.size,0,none⟩) (n+m) (grownCap w (n+m) old e)) (n+m) (xs++news):=by
  intro old;have I:=grownCap_ge w (n+m) old e;have p:grownCap w (n+m) old e<=maxLen:=grownCap_le_maxLen w (n+m) old e A;refine⟨hlen,.inr ⟨w.heap.size,_,_,rfl,jR _,heap_alloc_new w.drew _,I,p,?_,?_⟩⟩
  ·simp only[Array.size_append,jL,size_zeroCells,F,d.1,o,← Nat.add_mul]
   congr 1;omega
  simp only[Array.toList_append,jr];rw[← jr,← hlen];exact jJ
 rcases d.2 with ⟨rfl,rfl⟩|⟨g,cap,cur,rfl,J,M,R,p,K,q⟩
 ·have L:xs=[]:=jI (by simpa using d.1)
  subst L;by_cases hm:m=0
  ·subst hm
   have H:news=[]:=jI (by simpa using o);subst H;refine⟨.slice none 0 0,w,?_,World.ownsRow_nil w 0 e i.size,.inl ⟨rfl,fun g _=>Keep.refl _ w,fun _=>rfl⟩⟩
   simp[Builtin.append_,kru s,Go.sizeOf,typeInfo,y,Builtin.lenOf,Builtin.firstCells,loadCells,loadCellsFrom]
  have B:=run_append_nil (P:=P) w t ty e i z s y hz G m c news o f (by omega) (by omega) (by have S:=hbytes; simp only[jw]at S; omega);have C:=grown 0;simp only[jw,jt,Array.empty_append]at C ⊢;exact⟨_,_,B,C,.inr ⟨rfl,zG w _ _⟩⟩
 by_cases l:n+m<=cap
 ·have D:n * i.size+news.length<=cur.size:=by rw[o,K,← Nat.add_mul]; exact Nat.mul_le_mul_right _ l
  have B:=run_append_room (P:=P) w t ty e i s y g n cap cur M G m c news o f N l D;refine⟨_,_,B,⟨hlen,.inr ⟨g,cap,_,rfl,J,setRow_heap w g cur _ e _ M,l,p,?_,?_⟩⟩,.inl ⟨rfl,fun U E=>?_,fun h=>by simp[qC]at h⟩⟩
  ·simp only[jL,jb,js,jM,jK]
   omega
  ·rw[q,← hlen]
   exact jJ
  simp[qC]at E;subst E;exact⟨rfl,rfl,rfl,by simp,fun k _ T=>setRow_other w g k _ T⟩
 have r:∀ j u,xs[j]? =some u->w.cell? ((⟨g,0,none⟩:Addr).add j)=some u:=d.cells (g:=g) rfl;have B:=run_append_grow (P:=P) w t ty e i z s y hz ⟨g,0,none⟩ n cap xs d.1 r G m c news o f (by omega) (by omega) (growslice_fits (by omega) hbytes);exact⟨_,_,B,grown cap,.inr ⟨rfl,zG w _ _⟩⟩
theorem nN {t u ty e:TypeId} {i:TypeInfo} (y:P.underlying t=some (.slice e)) (hu:P.underlying u=some .string) (z:P.info? e=some i) (hz:i.zero=some (.int .u8 0)) (p:i.size=1)
  {v:Value} {n:Nat} {xs:List Value} (a:w.ownsRow 0 e 1 v n xs) (str:List UInt8)
  (F:n+str.length<=9223372036854775807) (hbytes:(n+str.length) * i.bytes<=140737488355328) :
  ∃ v' w',(Builtin.append_ #[t,u] ty #[v,.string ⟨str.toArray⟩]).run P w=.ok v' w'/\w'.ownsRow 0 e 1 v' (n+str.length) (xs++Lib.strCells ⟨str.toArray⟩) /\
   ((qC v'=qC v/\(∀ g,qC v=some g->Keep (fun b=>b=g) w w')/\(qC v=none->w'=w))\/(qC v'=some w.heap.size/\Keep (fun b=>b=w.heap.size) w w')):=by
 have d:(⟨str.toArray⟩:ByteArray).size=str.length:=mA str;generalize hsg:(⟨str.toArray⟩:ByteArray)=sb at *;have A:(Lib.strCells sb).length=str.length:=by rw[Lib.strCells_length,d]
 have hlen:(xs++Lib.strCells sb).length=(n+str.length) * 1:=by rw[jb,a.1,A,Nat.mul_one,Nat.mul_one]
 have q:n+str.length<=maxLen:=by unfold maxLen; omega
 have grown:∀ (old:Nat),(w.drew.alloc (.cells (xs.toArray++(Lib.strCells sb).toArray++Builtin.zeroCells (Value.int .u8 0).cells (grownCap w (n+str.length) old e - (n+str.length))) e)).ownsRow 0 e 1
    (.slice (some ⟨w.heap.size,0,none⟩) (n+str.length) (grownCap w (n+str.length) old e)) (n+str.length) (xs++Lib.strCells sb):=by
  intro old;have B:=grownCap_ge w (n+str.length) old e;have l:grownCap w (n+str.length) old e<=maxLen:=grownCap_le_maxLen w (n+str.length) old e q;refine⟨hlen,.inr ⟨w.heap.size,_,_,rfl,jR _,heap_alloc_new w.drew _,B,l,?_,?_⟩⟩
  ·have G:(Value.int .u8 0).cells.size=1:=rfl
   simp only[Array.size_append,jL,size_zeroCells,G,a.1,A];omega
  simp only[Array.toList_append,jr];rw[← jr,← hlen];exact jJ
 rcases a.2 with ⟨rfl,rfl⟩|⟨g,cap,cur,rfl,C,E,H,l,I,c⟩
 ·have D:xs=[]:=jI (by simpa using a.1)
  subst D;by_cases hm:str.length=0
  ·have J:Lib.strCells sb=[]:=jI (by omega)
   refine⟨.slice none 0 0,w,?_,by rw[hm,J]; exact World.ownsRow_nil w 0 e 1,.inl ⟨rfl,fun g _=>Keep.refl _ w,fun _=>rfl⟩⟩
   simp[Builtin.append_,kru y,kru hu,Go.sizeOf,typeInfo,z,Builtin.lenOf,Builtin.firstCells,d,hm]
  have f:=run_append_nil_string (P:=P) w t u ty e i (.int .u8 0) y hu z hz sb (by omega) (by omega) (by rw[d]; have K:=hbytes; simp only[jw]at K; omega);have r:=grown 0;simp only[jw,jt,Array.empty_append]at r ⊢;have e1:sb.data.map (fun b=>Value.int .u8 b.toNat)=(Lib.strCells sb).toArray:=by
   apply Array.ext';simp[Lib.strCells]
  rw[e1,d]at f;exact⟨_,_,f,r,.inr ⟨rfl,zG w _ _⟩⟩
 by_cases m:n+str.length<=cap
 ·have s:n+sb.size<=cur.size:=by rw[d]; omega
  have f:=Lib.run_append_room_string (P:=P) w t u ty e i y hu z p g n cap cur E sb (by omega) s;rw[d]at f;refine⟨_,_,f,⟨hlen,.inr ⟨g,cap,_,rfl,C,setRow_heap w g cur _ e _ E,m,l,?_,?_⟩⟩,.inl ⟨rfl,fun M x=>?_,fun h=>by simp[qC]at h⟩⟩
  ·simp only[jL,jb,js,jM,jK,A]
   omega
  ·rw[Nat.mul_one]at c
   rw[c,← hlen];exact jJ
  simp[qC]at x;subst x;exact⟨rfl,rfl,rfl,by simp,fun k _ L=>setRow_other w g k _ L⟩
 have o:∀ j u,xs[j]? =some u->w.cell? ((⟨g,0,none⟩:Addr).add j)=some u:=a.cells (g:=g) rfl;have f:=Lib.run_append_grow_string (P:=P) w t u ty e i (.int .u8 0) y hu z hz ⟨g,0,none⟩ n cap xs (by rw[p]; exact a.1) o sb (by omega) (by omega) (growslice_fits (by omega) (by rw[d]; exact hbytes));rw[d]at f;exact⟨_,_,f,grown cap,.inr ⟨rfl,zG w _ _⟩⟩
theorem Bv (H:(PH Lw)):∀ (l:List UInt8),xG H 1 (zu l) (Lib.strCells ⟨l.toArray⟩)
 | []=>by simp[zu,xG,Lib.strCells]
 | b::l=>by
  have:=Bv H l;simp only[zu,jk,xG];refine⟨rfl,[.int .u8 b.toNat],Lib.strCells ⟨l.toArray⟩,by simp[Lib.strCells],?_,this⟩;simp[qJ,qp]
theorem Vz {f:FV} {R:List (List PV)->Prop} (h:DY f R):∃ rows,R rows/\∀ ⦃Lw:Nat⦄ (ρ:List Value) (H:(PH Lw)) (x:Value),qD ρ H f x->qp H (.sl rows) x:=by
 unfold DY at h;split at h
 ·exact⟨_,h,fun _ _ _ _ r=>r⟩
 ·exact⟨_,h,fun _ _ _ _ r=>r.2⟩
 ·refine⟨[],h,fun _ _ _ _ r=>?_⟩
  simp only[qD,qp]at r ⊢;exact .inl ⟨trivial,.inl r⟩
 exact h.elim
def zl (H:(PH Lw)) (v:Value) (ys:List Value):(PH Lw):=fun b o=>if qC v=some b/\o<ys.length then ys[o]? else H b o
theorem uD {bs:(Base Lw)} {ρ:List Value} {H:(PH Lw)} {lo:List AObj} (s:SatW bs ρ H lo w) {e:TypeId} {z:Nat} {v:Value} {n:Nat} {xs:List Value} (t:w.ownsRow 0 e z v n xs)
  (E:∀ b,qC v=some b->(∀ j u,xs[j]? =some u->H b j=some u)/\∀ o,n * z<=o->H b o=none)
  (hfree:∀ (g:Nat),qC v=some g->∀ (k:Nat) (o':AObj) (v':Value),lo[k]? =some o'->ρ[k]? =some v'->o'.live=true->qC v'≠some g)
  (howns:∀ g,qC v=some g->bs.S g\/bs.w0.heap.size<=g)
  {w':World} {v':Value} {m:Nat} {news:List Value} (G:news.length=m * z) (I:∀ u∈xs++news,u.oneCell'=true)
  (c:w'.ownsRow 0 e z v' (n+m) (xs++news))
  (C:(qC v'=qC v/\(∀ g,qC v=some g->Keep (fun b=>b=g) w w')/\(qC v=none->w'=w))\/(qC v'=some w.heap.size/\Keep (fun b=>b=w.heap.size) w w')) :
  PH.le H (zl H v' (xs++news))/\SatW bs (ρ++[v']) (zl H v' (xs++news)) (lo++[.tail e z (n+m)]) w':=by
 have hlen:(xs++news).length=(n+m) * z:=c.1;have x:∀ b o u,qC v'=some b->H b o=some u->o<xs.length/\(xs++news)[o]? =some u:=by
  intro b o u q hu;rcases C with ⟨f,_⟩|⟨f,_⟩
  ·rw[f]at q
   obtain⟨J,K⟩:=E b q;have d:o<xs.length:=by
    rw[t.1];rcases Nat.lt_or_ge o (n * z)with h|h
    ·exact h
    rw[K o h]at hu; cases hu
   refine⟨d,?_⟩;rw[jB d];have:=J o _ (jf d);rw[hu]at this;rw[jf d,← Option.some.inj this]
  rw[f]at q;cases q;exact absurd (s.sath.lt hu) (jQ _)
 have i:PH.le H (zl H v' (xs++news)):=by
  intro b o u hu;unfold zl;split
  ·rename_i r; exact(x b o u r.1 hu).2
  exact hu
 refine⟨i,?_⟩;have hcell:∀ g,qC v'=some g->∀ o u,(xs++news)[o]? =some u->w'.cell? ⟨g,o,none⟩=some u:=by
  intro g F o u hu;have:=c.cells (g:=g) (by
   rcases c.2 with ⟨rfl,_⟩|⟨N,cap,cur,rfl,_⟩
   ·simp[qC]at F
   simpa[qC,Value.ownBlock]using F) o u hu
  rwa [Addr.add_lit,jw]at this
 have l:SatH (zl H v' (xs++news)) w':=by
  refine⟨?_,s.sath.root.mono i,by rcases C with ⟨_,k1,k2⟩|⟨_,k1⟩; { cases hv:qC v with|none=>rw[k2 hv]; exact s.sath.low|some g=>exact Nat.le_trans s.sath.low (k1 g hv).size }; { exact Nat.le_trans s.sath.low k1.size },?_⟩
  rotate_left
  ·intro b o u hu L
   by_cases y:qC v'=some b
   ·exact .own c y
   unfold zl at hu;rw[if_neg (fun r=>y r.1)]at hu
   have d:=s.sath.lt hu;refine(s.sath.nf b o u hu L).block ?_;rcases C with ⟨f,k1,k2⟩|⟨f,k1⟩
   ·cases hv:qC v with
    | none=>rw[k2 hv]
    | some g=>exact(k1 g hv).block b d (fun e=>y (by rw[f,hv,e]))
   ·exact k1.block b d (by omega)
  intro b o u hu;unfold zl at hu;split at hu
  ·rename_i r
   exact⟨hcell b r.1 o u hu,I u (List.mem_of_getElem? hu)⟩
  rename_i r;obtain⟨A,hone⟩:=s.sath.cell b o u hu;refine⟨?_,hone⟩;have D:qC v'≠some b:=fun q=>r ⟨q,by have:=(x b o u q hu).1; rw[jb]; omega⟩
  have d:=s.sath.lt hu;rcases C with ⟨f,k1,k2⟩|⟨f,k1⟩
  ·cases hv:qC v with
   | none=>rw[k2 hv]; exact A
   | some g=>
    rw[World.cell?_of_block (w:=w) (a:=⟨b,o,none⟩) ((k1 g hv).block b d (fun e=>D (by rw[f,hv,e])))]
    exact A
  rw[World.cell?_of_block (w:=w) (a:=⟨b,o,none⟩) (k1.block b d (by omega))];exact A
 have B:∀ ρ,pQ ρ (zl H v' (xs++news)) w' v' (.tail e z (n+m)):=by
  intro ρ;refine⟨xs++news,c,fun b q=>⟨fun j u hu=>?_,fun o O=>?_⟩⟩
  ·unfold zl
   rw[if_pos ⟨q,(jG.1 hu).1⟩];exact hu
  unfold zl;rw[if_neg (by rw[hlen]; omega)];cases M:H b o with
  | none=>rfl
  | some u=>
   have:=(x b o u q M).1;rw[t.1]at this;have:n * z<=(n+m) * z:=Nat.mul_le_mul_right _ (by omega);omega
 have p:∀ b o u,zl H v' (xs++news) b o=some u->(∃ u,H b o=some u)\/qC v'=some b:=by
  intro b o u hu;unfold zl at hu;split at hu
  ·rename_i r; exact .inr r.1
  exact .inl ⟨u,hu⟩
 rcases C with ⟨f,k1,k2⟩|⟨f,k1⟩
 ·cases hv:qC v with
  | none=>
   have hw:=k2 hv;subst hw;rw[hv]at f;refine s.push (g:=w'.heap.size) (.inr f) (s.fresh (jv _)) (.inr s.keep.size) i l (fun b o u hu=>?_) (Keep.refl _ _) (B _);rcases p b o u hu with h|h
   ·exact .inl h
   rw[f]at h; cases h
  | some g=>
   rw[hv]at f;refine s.push (g:=g) (.inl f) (hfree g hv) (howns g hv) i l (fun b o u hu=>?_) (k1 g hv) (B _);rcases p b o u hu with h|h
   ·exact .inl h
   rw[f]at h; exact .inr (Option.some.inj h).symm
 refine s.push (g:=w.heap.size) (.inl f) (s.fresh (jv _)) (.inr s.keep.size) i l (fun b o u hu=>?_) k1 (B _);rcases p b o u hu with h|h
 ·exact .inl h
 rw[f]at h; exact .inr (Option.some.inj h).symm
theorem xD {H:(PH Lw)} {v':Value} {e:TypeId} {z:Nat} {rows:List (List PV)} {ys:List Value} {w':World} (hv:xG H z rows ys) (b:PH.le H (zl H v' ys))
  (a:w'.ownsRow 0 e z v' rows.length ys):qp (zl H v' ys) (.sl rows) v':=by
 simp only[qp];rcases a.2 with ⟨rfl,d⟩|⟨g,cap,cur,rfl,_,_,c,_⟩
 ·exact .inl ⟨jI d,.inl rfl⟩
 refine .inr ⟨g,0,z,cap,rfl,c,(hv.mono b).unflat fun j u hu=>?_⟩;unfold zl;rw[if_pos ⟨by simp[qC],by have:=(jG.1 hu).1; omega⟩];simpa using hu
theorem xG.one {H:(PH Lw)} {w:World} (s:SatH H w) {b o:Nat} {vs:List Value} (c:∀ j u,vs[j]? =some u->H b (o+j)=some u):∀ u∈vs,u.oneCell'=true:=fun u hu=>by
 obtain⟨j,a⟩:=List.getElem?_of_mem hu;exact(s _ _ _ (c j u a)).2
theorem Hu {H:PH Lw} (sath:SatH H w) {t ty e:TypeId} {i:TypeInfo} {z:Value} (B:P.underlying t=some (.slice e)) (C:P.info? e=some i) (hz:i.zero=some z) (E:z.cells.size=i.size)
  {rows news:List (List PV)} {D xv:Value} (rs:qp H (.sl rows) D) (hp:∃ p n,D=.slice p n n) (rx:qp H (.sl news) xv) (g:∀ r∈rows++news,r.length=i.size)
  (k:(rows++news).length<=9223372036854775807) (hbytes:(rows++news).length * i.bytes<=140737488355328) :
  ∃ v' w',(Builtin.append_ #[t,t] ty #[D,xv]).run P w=.ok v' w'/\((news=[]/\v'=D/\w'=w) \/
   ∃ ys:List Value,xG H i.size (rows++news) ys/\(∀ u∈ys,u.oneCell'=true)/\w'.ownsRow 0 e i.size v' (rows++news).length ys/\qC v'=some w.heap.size/\Keep (fun b=>b=w.heap.size) w w'):=by
 obtain⟨p,n,rfl⟩:=hp;have nothing:∀ (q:Option Addr) (c:Nat),xv=.slice q 0 c->(Builtin.append_ #[t,t] ty #[.slice p n n,xv]).run P w=.ok (.slice p n n) w:=by
  rintro q c rfl;cases p<;>cases q<;>simp[Builtin.append_,kru B,Go.sizeOf,typeInfo,C,Builtin.lenOf,Builtin.firstCells,loadCells,loadCellsFrom,storeCells]
 rcases sE rx (fun r d=>g r (by simp[d]))with ⟨rfl,rfl|⟨F,a,rfl⟩⟩|⟨b,o,cap,vs,rfl,_,hv,K⟩
 ·exact⟨_,_,nothing none 0 rfl,.inl ⟨rfl,rfl,rfl⟩⟩
 ·exact⟨_,_,nothing (some F) a rfl,.inl ⟨rfl,rfl,rfl⟩⟩
 by_cases s:news=[]
 ·subst s
  exact⟨_,_,nothing _ _ rfl,.inl ⟨rfl,rfl,rfl⟩⟩
 have v:0<news.length:=List.length_pos_iff.2 s;rw[jb]at k hbytes;have hcell:∀ j u,vs[j]? =some u->w.cell? ((⟨b,o,none⟩:Addr).add j)=some u:=fun j u hu=>by rw[Addr.add_lit]; exact(sath.cell _ _ _ (K j u hu)).1
 have hone:=xG.one sath K;have grown:∀ (xs:List Value) (old:Nat),xG H i.size rows xs->(∀ u∈xs,u.oneCell'=true)->∃ ys:List Value,xG H i.size (rows++news) ys/\(∀ u∈ys,u.oneCell'=true) /\
   (w.drew.alloc (.cells (xs.toArray++vs.toArray++Builtin.zeroCells z.cells (grownCap w (rows.length+news.length) old e - (rows.length+news.length))) e)).ownsRow 0 e i.size
    (.slice (some ⟨w.heap.size,0,none⟩) (rows.length+news.length) (grownCap w (rows.length+news.length) old e)) (rows++news).length ys:=by
  intro xs old G f;have I:=grownCap_ge w (rows.length+news.length) old e;have J:grownCap w (rows.length+news.length) old e<=maxLen:=grownCap_le_maxLen w (rows.length+news.length) old e (by unfold maxLen; omega);have x:=(G.append hv).length;refine⟨xs++vs,G.append hv,fun u hu=>(jx.1 hu).elim (f u) (hone u),x,.inr ⟨w.heap.size,_,_,by rw[jb],jR _,heap_alloc_new w.drew _,by rw[jb]; exact I,J,?_,?_⟩⟩
  ·simp only[Array.size_append,jL,size_zeroCells,E,G.length,hv.length,← Nat.add_mul]
   congr 1;omega
  simp only[Array.toList_append,jr];rw[← jr,← x];exact jJ
 rcases sE rs (fun r d=>g r (by simp[d]))with ⟨rfl,y|⟨F,a,y⟩⟩|⟨L,o',a,us,y,_,hu,A⟩
 ·cases y
  have d:=run_append_nil (P:=P) w t ty e i z B C hz ⟨b,o,none⟩ news.length cap vs hv.length hcell v (by simp at k; omega) (by simp at hbytes; omega);obtain⟨ys,f,l,m⟩:=grown [] 0 rfl (by simp);simp only[jc,jw,jt,Array.empty_append]at f l m ⊢;exact⟨_,_,d,.inr ⟨ys,f,l,m,rfl,zG w _ _⟩⟩
 ·cases y
  have d:=run_append_grow (P:=P) w t ty e i z B C hz F 0 0 [] (by simp) (fun j u hu=>by simp at hu) ⟨b,o,none⟩ news.length cap vs hv.length hcell (by omega) (by simp at k; omega) (growslice_fits (by omega) (by simpa using hbytes))
  obtain⟨ys,f,l,m⟩:=grown [] 0 rfl (by simp);simp only[jc,jt]at d f l m ⊢;exact⟨_,_,d,.inr ⟨ys,f,l,m,rfl,zG w _ _⟩⟩
 cases y;have d:=run_append_grow (P:=P) w t ty e i z B C hz ⟨L,o',none⟩ rows.length rows.length us hu.length (fun j u h=>by rw[Addr.add_lit]; exact(sath.cell _ _ _ (A j u h)).1) ⟨b,o,none⟩ news.length cap vs hv.length hcell (by omega) (by omega) (growslice_fits (by omega) hbytes)
 obtain⟨ys,f,l,m⟩:=grown us rows.length hu (xG.one sath A);exact⟨_,_,d,.inr ⟨ys,f,l,m,rfl,zG w _ _⟩⟩
theorem sO {w:World} {t:TypeId} {v:Value}:(newVar t v).run P w=.ok ⟨w.heap.size,0,none⟩ (w.alloc (.cells v.cells t)):=by
 simp[newVar,newRow]
theorem Zp {w:World} {t bt:TypeId} {i:TypeInfo} (d:P.info? t=some i) {b off:Nat} {cur:List Value} (e:w.heap[b]? =some (.cells cur.toArray bt (0,0))) {x:Value}
  (c:x.cells.size=i.size) (a:off+x.cells.size<=cur.length) (f:∀ u∈x.cells.toList,u.oneCell'=true) :
  (Instr.storeAt t (.pointer (some ⟨b,off,none⟩)) x).run P w=.ok () (w.setRow b (cur.take off++x.cells.toList++cur.drop (off+x.cells.size)).toArray):=by
 have:=run_storeCells_at P b off bt x.cells.toList 0 cur.toArray w e (by simpa using a) f;simp only[Nat.add_zero,jK]at this;simp[Instr.storeAt,Instr.sureAddr,storeVar,Go.sizeOf,typeInfo,d,c];rw[this];simp[c]
theorem UC {a b:Nat} (h:Nat.beq a b=true):a=b:=jn h
theorem rG {H:(PH Lw)}:∀ {l:List UInt8} {vs:List Value},qJ H (l.map fun b=>PV.int .u8 b.toNat) vs->∀ (j:Nat) (c:UInt8),l[j]? =some c->vs[j]? =some (.int .u8 (c.toNat:Int))
 | [],_,_,j,c,h=>by simp at h
 | b::l,vs,r,j,c,h=>by
  simp only[jk,qJ,qp]at r;obtain⟨v,a,rfl,rfl,rs⟩:=r;cases j with
  | zero=>simp at h; subst h; rfl
  | succ j=>simpa using rG rs j c (by simpa using h)
theorem Zi {t:TypeId} {lo:List AObj} {R:FV->List AObj->Prop} (h:Fa P t lo R) :
  ∃ d lo',R d lo'/\ze true lo lo'/\∀ ⦃Lw:Nat⦄ (bs:(Base Lw)) (ρ:List Value) (H:(PH Lw)) (w:World),SatW bs ρ H lo w->∃ v w',(Instr.alloc t true (.tuple #[])).run P w=.ok v w'/\fW bs ρ H d lo' v w':=by
 unfold Fa at h;obtain⟨i,z,m,e,hz,h,a⟩:=sQ h;obtain⟨l,rfl,h⟩:=h;have h:=zh h;have h:=zf h;refine⟨_,_,h,ze.push _,fun Lw bs ρ H w s=>?_⟩;refine⟨.pointer (some ⟨w.heap.size,0,none⟩),w.alloc (.cells z.cells t),?_,ρ++[.slice (some ⟨w.heap.size,0,none⟩) l.length l.length],H,List.prefix_append _ _,PH.le.refl H,?_,?_⟩
 ·simp only[Instr.alloc,ka,zeroValue,typeInfo,run_program,e,hz,sO,jZ,kc]
 ·refine s.push (g:=w.heap.size) (.inl rfl) (s.fresh (jv _)) (.inr s.keep.size) (PH.le.refl H) (vZ s.sath _) (fun b o v h=>.inl ⟨v,h⟩) (vX w _ _) ?_
  refine⟨w.heap.size,z.cells,t,l.length,0,0,rfl,heap_alloc_new w _,.inr (jv _),fun j c f=>?_,fun o=>?_⟩
  ·have:=rG (a H) j c f
   simpa using this
  cases k:H w.heap.size o with
  | none=>rfl
  | some x=>exact absurd (s.sath.lt k) (jQ _)
 ·exact⟨w.heap.size,l.length,l.length,by simp[← s.hlen],by simp⟩
theorem VA {bs:(Base Lw)} {ρ:List Value} {H:(PH Lw)} {lo:List AObj} (s:SatW bs ρ H lo w) {t:TypeId} {K:TypeInfo} (O:P.info? t=some K) {k i off b n cap z:Nat} {e:TypeId} {o:AObj} {rows:List (List PV)} {row a:List PV} {xv:Value} {xs:List Value}
  (Q:lo[k]? =some o) (C:o.live=true) (R:ρ[k]? =some (.slice (some ⟨b,0,none⟩) n cap)) (m:w.ownsRow 0 e z (.slice (some ⟨b,0,none⟩) n cap) rows.length xs) (h:xG H z rows xs) (L:∀ u∈xs,u.oneCell'=true) (S:∀ o,H b o=none)
  (d:rows[i]? =some row) (hone:a.all Fp=true) (T:off+a.length<=row.length) (hn:a.length=K.size) (D:qJ H a xv.cells.toList) :
  ∃ w',(Instr.storeAt t (.pointer (some ⟨b,i * z+off,none⟩)) xv).run P w=.ok () w'/\(∀ o',pQ ρ H w' (.slice (some ⟨b,0,none⟩) n cap) o'->SatW bs ρ H (lo.set k o') w') /\
   w'.ownsRow 0 e z (.slice (some ⟨b,0,none⟩) n cap) (rows.set i (row.take off++a++row.drop (off+a.length))).length (xs.take (i * z+off)++xv.cells.toList++xs.drop (i * z+off+xv.cells.size)) /\
   xG H z (rows.set i (row.take off++a++row.drop (off+a.length))) (xs.take (i * z+off)++xv.cells.toList++xs.drop (i * z+off+xv.cells.size)) /\
   (∀ u∈xs.take (i * z+off)++xv.cells.toList++xs.drop (i * z+off+xv.cells.size),u.oneCell'=true)/\i * z+off+a.length<=xs.length/\xv.cells.size=a.length/\row.length=z:=by
 rcases m.2 with ⟨E,_⟩|⟨g,M,cur,E,_,N,p,hm,U,V⟩
 ·cases E
 cases E;have hlen:=D.length;have F:row.length=z:=by
  have v:=List.mem_of_getElem? d;have:∀ {rows:List (List PV)} {vs:List Value},xG H z rows vs->∀ r∈rows,r.length=z:=by
   intro rows
   induction rows with
   | nil=>intro vs _ r h; cases h
   | cons q qs ih=>
    intro vs x r h;obtain⟨hz,_,_,_,_,y⟩:=x;rcases jg.1 h with rfl|h
    ·exact hz
    exact ih y r h
  exact this h row v
 have G:i<rows.length:=(jG.1 d).1;have X:xs.length=rows.length * z:=h.length;have Y:i * z+z<=rows.length * z:=by
  rw[← Nat.succ_mul]; exact Nat.mul_le_mul_right _ G
 have A:rows.length * z<=cur.toList.length:=by
  have Z:cur.toList.length=cur.size:=by simp
  rw[Z,U]; exact Nat.mul_le_mul_right _ p
 have I:xv.cells.size=a.length:=by simpa using hlen
 have f:∀ u∈xv.cells.toList,u.oneCell'=true:=qJ.one (fun c hc=>(List.all_eq_true.1 hone) c hc) D;have hrun:=Zp (P:=P) (w:=w) (t:=t) (bt:=e) (cur:=cur.toList) O (by simpa using N) (x:=xv) (off:=i * z+off) (by omega) (by omega) f;have B:(cur.toList.take (i * z+off)++xv.cells.toList++cur.toList.drop (i * z+off+xv.cells.size)).take (rows.length * z)=xs.take (i * z+off)++xv.cells.toList++xs.drop (i * z+off+xv.cells.size):=by
  rw[Lr (by omega) (by simp) A,V]
 have l:=h.over (off:=off) d D (by omega);have j:(rows.set i (row.take off++a++row.drop (off+a.length))).length=rows.length:=by simp
 refine⟨_,hrun,fun o' J=>s.upd (k:=k) (b:=b) Q R C rfl S ⟨rfl,rfl,rfl,by simp,fun x _ hx=>setRow_other w b x _ hx⟩ J,?_,?_,?_,by omega,I,F⟩
 ·refine⟨?_,.inr ⟨b,cap,(cur.toList.take (i * z+off)++xv.cells.toList++cur.toList.drop (i * z+off+xv.cells.size)).toArray,by rw[j],jR _,setRow_heap w b _ _ e _ (by simpa using N),by rw[j]; exact p,hm,?_,?_⟩⟩
  ·rw[j]
   simp only[jb,js,jM,jK];omega
  ·simp only[jL,jb,js,jM,jK]at A ⊢
   omega
  rw[j]; exact B
 ·simpa using l
 intro u hu;rcases jx.1 hu with hu|hu
 ·rcases jx.1 hu with hu|hu
  ·exact L u (List.mem_of_mem_take hu)
  exact f u hu
 exact L u (List.mem_of_mem_drop hu)
theorem rD {b:Nat} {e:TypeId} {c:Nat×Nat}:∀ (vs:List Value) (o:Nat) (w:World) (cs:Array Value),w.heap[b]? =some (.cells cs e c) ->
  ∃ a,(w.setCells b o vs).heap[b]? =some (.cells a e c)/\a.size=cs.size/\(∀ k,k<o->a[k]? =cs[k]?)/\(∀ j v,vs[j]? =some v->o+j<cs.size->a[o+j]? =some v)/\Keep (fun x=>x=b) w (w.setCells b o vs)
 | [],o,w,cs,h=>⟨cs,h,rfl,fun _ _=>rfl,fun j v hv=>by simp at hv,Keep.refl _ _⟩
 | v::vs,o,w,cs,h=>by
  have g:(w.setCell ⟨b,o,none⟩ v).heap[b]? =some (.cells (cs.setIfInBounds o v) e c):=by
   simp[World.setCell,Array.getElem?_modify,h]
  have d:Keep (fun x=>x=b) w (w.setCell ⟨b,o,none⟩ v):=⟨rfl,rfl,rfl,by simp[World.setCell],fun x _ i=>by
   have:b≠x:=fun e=>i e.symm
   simp[World.setCell,Array.getElem?_modify,this]⟩
  obtain⟨a,l,a2,a3,a4,a5⟩:=rD vs (o+1) (w.setCell ⟨b,o,none⟩ v) _ g;refine⟨a,l,by simpa using a2,fun k d=>?_,fun j u hu f=>?_,d.trans a5⟩
  ·rw[a3 k (by omega),Array.getElem?_setIfInBounds,if_neg (by omega)]
  cases j with
  | zero=>
   simp only[jd,Option.some.injEq]at hu;subst hu;rw[Nat.add_zero]at f ⊢;rw[a3 o (by omega),Array.getElem?_setIfInBounds,if_pos rfl,if_pos f]
  | succ j=>
   rw[show o+(j+1)=o+1+j from by omega];exact a4 j u (by simpa using hu) (by simpa using(by omega:o+1+j<cs.size))
theorem Fj {lo:List AObj} {t:TypeId} {k z i off:Nat} {x:FV} {R:FV->List AObj->Prop} (h:BX P t lo k z i off x R) :
  ∃ fv lo',R fv lo'/\lo'.length=lo.length/\∀ ⦃Lw:Nat⦄ (bs:(Base Lw)) (ρ:List Value) (H:(PH Lw)) (w:World) (a xv:Value),SatW bs ρ H lo w->qD ρ H (.eptr k z i off) a->qD ρ H x xv ->
   ∃ w',(Instr.storeAt t a xv).run P w=.ok () w'/\fW bs ρ H fv lo' undef w':=by
 unfold BX at h;have g:=rh h; clear h; obtain⟨cs,h,A⟩:=g;have g:=fT h; clear h; obtain⟨ps,h,B⟩:=g;have g:=zh h; clear h; have h:=g; clear g;have g:=xc h; clear h; obtain⟨d,ti,hd,hi,h⟩:=g;split at h
 ·rename_i hn
  have hn:=UC hn;have g:=qV h; clear h; obtain⟨o,E,h⟩:=g;split at h
  ·rename_i e F rows
   obtain⟨row,⟨rfl,q,hone⟩,h⟩:=h;obtain⟨h,G⟩:=nV h;obtain⟨I,hrows,h⟩:=h;obtain⟨h,hk⟩:=zR h;refine⟨_,_,h,by simp,fun Lw bs ρ H w a xv s J rx=>?_⟩;obtain⟨b,n,cap,r,rfl⟩:=J;obtain⟨xs,v,hr,K,Z⟩:=s.objs k _ _ E r;obtain⟨w',hrun,L,c1,c2,c3,_⟩:=VA s hi E rfl r v hr K (Z b rfl) q hone G (by omega) (B ρ H _ (A ρ H xv rx));subst hrows;exact⟨w',hrun,ρ,H,jp _,PH.le.refl H,L _ ⟨_,c1,c2,c3,fun b' M=>by cases M; exact Z b rfl⟩,by simp[qD,qp,qJ,undef]⟩
  ·rename_i e F rows j kt
   obtain⟨row,kt',⟨rfl,q,hone,N⟩,h⟩:=h;obtain⟨h,G⟩:=nV h;obtain⟨I,hrows,h⟩:=h;obtain⟨h,hk⟩:=zR h;refine⟨_,_,h,by simp,fun Lw bs ρ H w a xv s J rx=>?_⟩;obtain⟨b,n,cap,r,rfl⟩:=J;obtain⟨xs,v,hr,K,Z,hl⟩:=s.objs k _ _ E r;obtain⟨w',hrun,L,c1,c2,c3,c4,c5,c6⟩:=VA s hi E rfl r v hr K (Z b rfl) q hone G (by omega) (B ρ H _ (A ρ H xv rx));subst hrows;refine⟨w',hrun,ρ,H,jp _,PH.le.refl H,L _ ⟨_,c1,c2,c3,fun b' M=>by cases M; exact Z b rfl,fun u hu=>?_⟩,by simp[qD,qp,qJ,undef]⟩
   rw[List.length_set]at hu;have O:i<rows.length:=(jG.1 q).1;rcases N with ⟨hjz,hout,rfl⟩|⟨rfl,hlast,Q,rfl⟩
   ·refine hl u ?_
    have hp:(rows.length - 1) * F+j<i * F+off\/i * F+off+xv.cells.size<=(rows.length - 1) * F+j:=by
     rcases Nat.lt_or_ge i (rows.length - 1)with hlt|hge
     ·right
      have:(i+1) * F<=(rows.length - 1) * F:=Nat.mul_le_mul_right _ hlt;rw[Nat.add_mul]at this;omega
     have:i=rows.length - 1:=by omega
     subst this;rcases hout with h|h
     ·right; omega
     left; omega
    rcases hp with hp|hp
    ·rw[jr,jB (by rw[js]; omega),jE,if_pos hp]at hu
     exact hu
    rw[jC (by simp only[jb,js,jK]; omega),List.getElem?_drop]at hu;rw[← hu];congr 1;simp only[jb,js,jK];omega
   have m:i=rows.length - 1:=by omega
   subst m;have hx1:xv.cells.toList=[xv]:=by rw[(fe (f:=.tsl kt' Q) rfl rx).1]
   rw[hx1,jr,jC (by rw[js]; omega),js,Nat.min_eq_left (by omega),Nat.sub_self]at hu;simp at hu;rw[← hu];exact rx.1
  ·rename_i l
   split at h
   ·have g:=h; clear h; obtain⟨c,l',⟨rfl,rfl,O,hnc,hl'⟩,h⟩:=g
    have g:=zR h; clear h; obtain⟨h,hk⟩:=g;subst hnc;refine⟨_,_,h,by simp,fun Lw bs ρ H w a xv s J rx=>?_⟩;obtain⟨b,n0,cap,r,rfl⟩:=J;obtain⟨b',cs,e',cap',lo',m,e1,S,T,y,hH⟩:=s.objs k _ _ E r;cases e1;have rl:=B ρ H _ (A ρ H xv rx);simp only[qJ,qp]at rl;obtain⟨v0,vs',ev,rfl,rfl⟩:=rl;have U:xv.cells.size=1:=by
     have:xv.cells.toList.length=1:=by rw[ev]; rfl
     simpa using this
    have hcell:(w.cell? ⟨b,i,none⟩).isSome=true:=by
     simp only[World.cell?,S];rw[y i _ (jf O)];rfl
    have hfz:w.frozen? ⟨b,i,none⟩=false:=by
     simp only[World.frozen?,S];have:¬ (lo'<=i/\i<m):=by omega
     simpa using fun K=>Nat.le_of_not_lt fun y=>this ⟨K,y⟩
    have hrun:(Instr.storeAt t (.pointer (some ⟨b,i * 1+0,none⟩)) xv).run P w=.ok () (w.setCell ⟨b,i,none⟩ (.int .u8 (c.toNat:Int))):=by
     have h3:=run_storeCells_cells (P:=P) b i [.int .u8 (c.toNat:Int)] 0 w (fun j C=>by
      have:j=0:=by simpa using C
      subst this;simpa using hcell) (fun j C=>by
      have:j=0:=by simpa using C
      subst this;simpa using hfz) (by simp[Value.oneCell'])
     simp only[Nat.add_zero]at h3;have V:ti.size=1:=by
      have:[PV.int .u8 (c.toNat:Int)].length=ti.size:=by simpa using hn
      simpa using this.symm
     simp[Instr.storeAt,Instr.sureAddr,storeVar,Go.sizeOf,typeInfo,hi,V,U,ev,h3,World.setCells]
    have hset:(w.setCell ⟨b,i,none⟩ (.int .u8 (c.toNat:Int))).heap[b]? =some (.cells (cs.setIfInBounds i (.int .u8 (c.toNat:Int))) e' (lo',m)):=by
     simp[World.setCell,Array.getElem?_modify,S]
    refine⟨_,hrun,ρ,H,jp _,PH.le.refl H,?_,by simp[qD,qp,qJ,undef]⟩;refine s.upd (k:=k) (b:=b) E r rfl rfl hH ⟨rfl,rfl,rfl,by simp[World.setCell],fun x _ hx=>?_⟩ ?_
    ·have:b≠x:=fun e=>hx e.symm
     simp[World.setCell,Array.getElem?_modify,this]
    subst hl';refine⟨b,_,e',cap,lo',m,by simp,hset,by simpa using T,fun j c' p=>?_,hH⟩;rw[jF]at p;rw[Array.getElem?_setIfInBounds];split at p
    ·rename_i X
     subst X;cases p;have hcs':i<cs.size:=by
      have:=y i _ (jf O);exact(jH.1 this).1
     simp[hcs']
    rename_i X;simp only[X,if_false];exact y j c' p
   have g:=h; clear h; obtain⟨l',⟨rfl,rfl,rfl,D,hpe⟩,h⟩:=g;have g:=zR h; clear h; obtain⟨h,hk⟩:=g;refine⟨_,_,h,by simp,fun Lw bs ρ H w a xv s J rx=>?_⟩;obtain⟨b,n0,cap,r,rfl⟩:=J;obtain⟨b',cs,e',cap',lo',m,e1,S,T,y,hH⟩:=s.objs k _ _ E r;cases e1;have rl:=B ρ H _ (A ρ H xv rx);rw[hpe]at rl;have hvl:xv.cells.toList.length=l.length:=by rw[rl.length,jl,D]
   have U:xv.cells.size=l.length:=by simpa using hvl
   have hcz:l.length<=cs.size:=by
    rcases Nat.eq_zero_or_pos l.length with g|g
    ·omega
    have:=y (l.length - 1) _ (jf (by omega));have:=(jH.1 this).1;omega
   have Y:∀ u∈xv.cells.toList,u.oneCell'=true:=by
    intro u hu;obtain⟨j,C⟩:=List.getElem?_of_mem hu;have hjl:j<l'.length:=by have:=(jG.1 C).1; omega
    have:=rG rl j _ (jf hjl);rw[C]at this;cases this;rfl
   have hrun:(Instr.storeAt t (.pointer (some ⟨b,0 * 1+0,none⟩)) xv).run P w=.ok () (w.setCells b 0 xv.cells.toList):=by
    have h3:=run_storeCells_cells (P:=P) b 0 xv.cells.toList 0 w (fun j C=>by
     simp only[World.cell?,S];have:j<l.length:=by omega
     rw[show 0+0+j=j from by omega];rw[y j _ (jf this)];rfl) (fun j C=>by
     simp only[World.frozen?,S];have:¬ (lo'<=0+0+j/\0+0+j<m):=by omega
     simpa using fun K=>Nat.le_of_not_lt fun y=>this ⟨by simpa using K,by simpa using y⟩) Y
    have V:ti.size=l.length:=by
     have:ps.length=ti.size:=by simpa using hn
     rw[← this,hpe,jl,D]
    simp only[Nat.add_zero]at h3;simp[Instr.storeAt,Instr.sureAddr,storeVar,Go.sizeOf,typeInfo,hi,V,U,h3]
   obtain⟨cs',a1,a2,_,a4,a5⟩:=rD xv.cells.toList 0 w cs S;refine⟨_,hrun,ρ,H,jp _,PH.le.refl H,?_,by simp[qD,qp,qJ,undef]⟩;refine s.upd (k:=k) (b:=b) E r rfl rfl hH a5 ?_;refine⟨b,cs',e',cap,lo',m,by rw[D],a1,by rw[D]; exact T,fun j c' p=>?_,hH⟩;have C:=(jG.1 p).1;have:=a4 j _ (rG rl j c' p) (by omega);simpa using this
  exact h.elim
 exact h.elim
theorem Cq {E:Env} {lo:List AObj} {t:TypeId} {n:Nat} {parts:List (Nat×Operand)} {R:FV->List AObj->Prop} (h:BJ P E lo t n parts R) :
  ∃ q lo',R q lo'/\ze true lo lo'/\∀ ⦃Lw:Nat⦄ (bs:(Base Lw)) (ρ:List Value) (H:(PH Lw)) (w:World) (eval:Operand->Value),SatW bs ρ H lo w->(∀ x∈parts.map (·.2),qD ρ H (Sf (qz E) x) (eval x)) ->
   ∃ v w',(Instr.buildSlice t n (parts.map fun(i,x)=>(i,eval x)).toArray).run P w=.ok v w'/\fW bs ρ H q lo' v w':=by
 unfold BJ at h;have k:=zT h; clear h; obtain⟨e,i,hu,r,h⟩:=k;have k:=rN h; clear h; obtain⟨j,l,rows,d,m,h,o,f,u⟩:=k;have e1:j=e:=by rw[hu]at d; cases d; rfl
 subst e1;have e2:l=i:=Option.some.inj (m.symm.trans r);subst e2;simp only at h;have h:=zh h;have h:=zf h;refine⟨_,_,h,ze.push _,fun Lw bs ρ H w eval s y=>?_⟩;obtain⟨xs,z,hv,hone⟩:=u trivial ρ H w eval y;have a:(w.alloc (.cells xs.toArray j)).ownsRow 0 j l.size (.slice (some ⟨w.heap.size,0,none⟩) n n) (0+rows.length) ([]++xs):=by
  rw[jw,jt];refine⟨hv.length,.inr ⟨w.heap.size,n,xs.toArray,by rw[o],jR _,heap_alloc_new w _,by rw[o]; exact jv _,f,by simp[hv.length,o],?_⟩⟩;rw[← hv.length];exact List.take_length
 obtain⟨c,sat⟩:=uD s (World.ownsRow_nil w 0 j l.size) (fun b A=>by simp[qC]at A) (fun g p=>by simp[qC]at p) (fun g p=>by simp[qC]at p) hv.length (by simpa using hone) a (.inr ⟨rfl,vX w _ _⟩)
 simp only[jw,jt]at a sat c;exact⟨_,_,z,_,_,List.prefix_append _ _,c,sat,by simp[← s.hlen],xD hv c a⟩
theorem Fe {a:Bool} {E:Env} {lo:List AObj} {t:TypeId} {n:Nat} {parts:List (Nat×Operand)} {R:FV->List AObj->Prop} (h:DO P a E lo t n parts R) :
  ∃ b lo',R b lo'/\ze true lo lo'/\∀ ⦃Lw:Nat⦄ (bs:(Base Lw)) (ρ:List Value) (H:(PH Lw)) (w:World) (eval:Operand->Value),SatW bs ρ H lo w->(∀ x∈parts.map (·.2),qD ρ H (Sf (qz E) x) (eval x)) ->
   ∃ v w',(Instr.buildSlice t n (parts.map fun(i,x)=>(i,eval x)).toArray).run P w=.ok v w'/\fW bs ρ H b lo' v w':=by
 cases a with
 | true=>exact Cq h
 | false=>exact Cr h
theorem BM {src dst:TypeId} {lo:List AObj} {x:FV} {R:FV->List AObj->Prop} (h:HQ P src dst lo x R) :
  ∃ f lo',R f lo'/\∀ ⦃Lw:Nat⦄ (bs:(Base Lw)) (ρ:List Value) (H:(PH Lw)) (w:World) (v:Value),SatW bs ρ H lo w->qD ρ H x v->∃ u w',(convert src dst v).run P w=.ok u w'/\fW bs ρ H f lo' u w':=by
 unfold HQ at h;split at h
 ·rename_i l
  split at h
  ·rename_i us m
   split at h
   ·rename_i e n
    split at h
    ·rename_i he
     have a:=zh h; clear h; have h:=a; clear a;have a:=zf h; clear h; have h:=a; clear a;refine⟨_,_,h,fun Lw bs ρ H w v s rx=>?_⟩;have ev:=dC rx;subst ev;refine⟨_,_,Lib.run_convert_string_bytes w src dst e ⟨l.toArray⟩ m n he,?_⟩;have d:Keep (fun b=>b=w.heap.size) w (Lib.bytesWorld w e ⟨l.toArray⟩):=by
      refine⟨?_,?_,?_,by rw[Lib.bytesWorld_size]; omega,fun k d _=>Lib.bytesWorld_at_old w e _ k d⟩<;>simp[Lib.bytesWorld,World.freeze,World.alloc,World.drew,-World.alloc_eq,-World.drew_eq]
     have hz:(⟨l.toArray⟩:ByteArray).size=l.length:=ByteArray.size_mk_toArray l;refine⟨ρ++[.slice (some ⟨w.heap.size,0,none⟩) (⟨l.toArray⟩:ByteArray).size (grownCap w (⟨l.toArray⟩:ByteArray).size 0 e)],H,List.prefix_append _ _,PH.le.refl H,?_,?_⟩
     ·refine s.push (g:=w.heap.size) (.inl rfl) (s.fresh (jv _)) (.inr s.keep.size) (PH.le.refl H) (s.sath.block d.size fun b o v hv=>Lib.bytesWorld_at_old w e _ b (s.sath.lt hv)) (fun b o v h=>.inl ⟨v,h⟩) d ?_
      refine⟨w.heap.size,_,e,_,_,_,by rw[hz],Lib.bytesWorld_at_new w e _,?_,?_,fun o=>?_⟩
      ·exact .inl (by simp[Lib.bytesCells])
      ·intro j c i
       have p:=(jG.1 i).1;simp only[Lib.bytesCells];rw[Array.getElem?_append_left (by simpa using p)];simp[i]
      cases q:H w.heap.size o with
      | none=>rfl
      | some x=>exact absurd (s.sath.lt q) (jQ _)
     ·simp only[qD]
      refine⟨by simp[← s.hlen],.inr ⟨w.heap.size,_,by rw[hz]⟩⟩
    exact h.elim
   exact h.elim
  exact h.elim
 exact h.elim
theorem UB {bs:(Base Lw)} {ρ:List Value} {H:(PH Lw)} {lo:List AObj} (s:SatW bs ρ H lo w) {t ty e:TypeId} {i:TypeInfo} {O:Value} (hu:P.underlying t=some (.slice e)) (U:P.info? e=some i) (hz:i.zero=some O) (I:O.cells.size=i.size)
  {p:Nat} {rows:List (List PV)} {v:Value} (J:lo[p]? =some (.vec e i.size rows)) (K:ρ[p]? =some v) {news:List (List PV)} {x:Value} (rx:qp H (.sl news) x) (B:∀ r∈news,r.length=i.size)
  (Q:(rows++news).length * i.bytes<=140737488355328) (C:(rows++news).length<=9223372036854775807) :
  ∃ v' w',(Builtin.append_ #[t,t] ty #[v,x]).run P w=.ok v' w'/\fW bs ρ H (.vsl (lo.set p .dead).length (rows++news).length) (lo.set p .dead++[.vec e i.size (rows++news)]) v' w':=by
 obtain⟨xs,D,L,V,R⟩:=s.objs p _ _ J K;have run:∃ vs:List Value,xG H i.size news vs/\(∀ u∈vs,u.oneCell'=true) /\
   ((news.length=0/\x=.slice none 0 0)\/∃ a c,x=.slice (some a) news.length c/\∀ j u,vs[j]? =some u->w.cell? (a.add j)=some u):=by
  rcases sE rx B with ⟨rfl,ex|⟨X,E,ex⟩⟩|⟨b,o,cap,vs,ex,_,hv,S⟩
  ·exact⟨[],rfl,by simp,.inl ⟨rfl,ex⟩⟩
  ·exact⟨[],rfl,by simp,.inr ⟨X,E,ex,fun j u hu=>by simp at hu⟩⟩
  exact⟨vs,hv,xG.one s.sath S,.inr ⟨⟨b,o,none⟩,cap,ex,fun j u hu=>by rw[Addr.add_lit]; exact(s.sath.cell _ _ _ (S j u hu)).1⟩⟩
 obtain⟨vs,hv,hone,M⟩:=run;rw[jb]at Q C;obtain⟨v',w',Y,n,Z⟩:=QN (P:=P) (w:=w) (ty:=ty) hu U hz I D hv.length hone M C Q;refine⟨v',w',Y,?_⟩;have sk:=s.kill p;have hfree:∀ g,qC v=some g->∀ (k:Nat) (o':AObj) (u:Value),(lo.set p .dead)[k]? =some o'->ρ[k]? =some u->o'.live=true->qC u≠some g:=by
  intro g hg k o' u m d T;rw[jF]at m;split at m
  ·split at m
   ·cases m; simp[AObj.live]at T
   cases m
  ·rename_i N
   exact s.excl p k _ o' _ u g J m K d N rfl T hg
 have hV:∀ {a b:List (List PV)} {us ws:List Value},xG H i.size a us->xG H i.size b ws->xG H i.size (a++b) (us++ws):=fun x y=>x.append y
 have z:∀ u∈xs++vs,u.oneCell'=true:=fun u d=>by
  rcases jx.1 d with h|h
  ·exact V u h
  exact hone u h
 have F:qD (ρ++[v']) H (.vsl (lo.set p .dead).length (rows++news).length) v':=by
  refine⟨by simp[← s.hlen],?_⟩;rw[jb];rcases n.2 with ⟨rfl,h0⟩|⟨g,cap,cur,rfl,_⟩
  ·exact .inl ⟨h0,rfl⟩
  exact .inr ⟨g,cap,rfl⟩
 have A:(∀ b,qC v'=some b->∀ o,H b o=none)->pQ (ρ++[v']) H w' v' (.vec e i.size (rows++news)):=fun hn=>
  ⟨xs++vs,by rw[jb]; exact n,hV L hv,z,hn⟩
 refine⟨ρ++[v'],H,List.prefix_append _ _,PH.le.refl H,?_,F⟩;rcases Z with ⟨q,k1,k2⟩|⟨q,k1⟩
 ·cases f:qC v with
  | none=>
   have hw:=k2 f;subst hw;rw[f]at q;exact sk.push (g:=w'.heap.size) (.inr q) (sk.fresh (jv _)) (.inr sk.keep.size) (PH.le.refl H) sk.sath (fun b o u hu=>.inl ⟨u,hu⟩) (Keep.refl _ _) (A (fun b l=>by rw[q]at l; cases l))
  | some g=>
   rw[f]at q;refine sk.push (g:=g) (.inl q) (hfree g f) (s.own p _ _ g J K rfl f) (PH.le.refl H) (s.sath.block (k1 g f).size fun b o u d=>(k1 g f).block b (s.sath.lt d) (fun e=>by subst e; rw[R _ f o]at d; cases d)) (fun b o u hu=>.inl ⟨u,hu⟩) (k1 g f) (A (fun b l=>by rw[q]at l; cases l; exact R _ f))
 have G:∀ o,H w.heap.size o=none:=fun o=>by
  cases hx:H w.heap.size o with
  | none=>rfl
  | some u=>exact absurd (s.sath.lt hx) (jQ _)
 refine sk.push (g:=w.heap.size) (.inl q) (sk.fresh (jv _)) (.inr sk.keep.size) (PH.le.refl H) (s.sath.block k1.size fun b o u d=>k1.block b (s.sath.lt d) (fun e=>by have:=s.sath.lt d; omega)) (fun b o u hu=>.inl ⟨u,hu⟩) k1 (A (fun b l=>by rw[q]at l; cases l; exact G))
theorem Hh {bs:(Base Lw)} {ρ:List Value} {H:(PH Lw)} {lo:List AObj} (s:SatW bs ρ H lo w) {t ty e e2:TypeId} {i:TypeInfo} {N:Value} (hu:P.underlying t=some (.slice e)) (U:P.info? e=some i) (hz:i.zero=some N) (D:N.cells.size=i.size)
  {f j E z2:Nat} {rows d:List (List PV)} {r:List PV} {v:Value} (O:lo[f]? =some (.vl e i.size rows j E)) (Q:ρ[f]? =some v) {news:List (List PV)} {x:Value} (rx:qp H (.sl news) x) (z:∀ r∈news,r.length=i.size)
  (A:rows++news=d\/Xf (rows++news) d) (B:news=[r]) (F:r[j]? =some .nilsl) (G:d.length * i.bytes<=140737488355328) (I:d.length<=9223372036854775807) :
  ∃ v' w',(Builtin.append_ #[t,t] ty #[v,x]).run P w=.ok v' w'/\fW bs ρ H (.vsl (lo.set f AObj.dead++[AObj.tail e2 z2 0]).length d.length) (lo.set f .dead++[AObj.tail e2 z2 0]++[.vl e i.size d j (lo.set f .dead).length]) v' w':=by
 have hlen:(rows++news).length=d.length:=by
  rcases A with h|h
  ·rw[h]
  exact cD h
 have n:f<lo.length:=(jG.1 O).1;have s1:=s.view O rfl (o':=.vec e i.size rows) rfl (fun v hv ok=>MZ ok)
 have s2:SatW bs (ρ++[.slice none 0 0]) H (lo.set f (.vec e i.size rows)++[.tail e2 z2 0]) w:=
  s1.push (g:=w.heap.size) (.inr rfl) (s1.fresh (jv _)) (.inr s1.keep.size) (PH.le.refl H) s1.sath (fun b o u hu=>.inl ⟨u,hu⟩) (Keep.refl _ _) ⟨[],World.ownsRow_nil w 0 e2 z2,fun b G=>by simp[qC]at G⟩
 have J:(lo.set f (.vec e i.size rows)++[AObj.tail e2 z2 0])[f]? =some (.vec e i.size rows):=by
  rw[jB (by simpa using n)]; simp[n]
 have K:(ρ++[Value.slice none 0 0])[f]? =some v:=by
  rw[jB (jG.1 Q).1]; exact Q
 obtain⟨v',w',V,ρ3,X,m,Y,R,L⟩:=UB (ty:=ty) s2 hu U hz D J K rx z (by rw[hlen]; exact G) (by rw[hlen]; exact I);have C:(lo.set f (.vec e i.size rows)++[AObj.tail e2 z2 0]).set f .dead=lo.set f .dead++[.tail e2 z2 0]:=by
  rw[List.set_append_left _ _ (by simpa using n),List.set_set]
 rw[C]at R L;have M:ρ3[(lo.set f AObj.dead).length]? =some (.slice none 0 0):=by
  obtain⟨l,rfl⟩:=m;rw[List.length_set,← s.hlen];simp
 have s4:=R.view (k:=(lo.set f AObj.dead++[AObj.tail e2 z2 0]).length) (o:=.vec e i.size (rows++news)) (o':=.vl e i.size d j (lo.set f AObj.dead).length) (by simp) rfl rfl (fun u hu ok=>by
  obtain⟨xs,Z,S,h3,h4⟩:=ok;refine⟨xs,by rw[← hlen]; exact Z,S.le A,h3,h4,fun c hc=>?_⟩;rw[M];subst B;have p:(rows++[r])[d.length - 1]? =some r:=by
   rw[← hlen]; simp
  obtain⟨a,ra,ha⟩:=S.get p;obtain⟨q,hq,T⟩:=ra.get F;have:=ha j q hq;rw[hc]at this;cases this;simp only[qp]at T;rw[T])
 have y:(lo.set f AObj.dead++[AObj.tail e2 z2 0]++[AObj.vec e i.size (rows++news)]).set (lo.set f AObj.dead++[AObj.tail e2 z2 0]).length (.vl e i.size d j (lo.set f AObj.dead).length)=lo.set f .dead++[.tail e2 z2 0]++[.vl e i.size d j (lo.set f .dead).length]:=by
  rw[List.set_append_right _ _ (jv _),Nat.sub_self]; rfl
 rw[y]at s4;obtain⟨l,hl⟩:=m;rw[hlen]at L;exact⟨v',w',V,ρ3,X,⟨[.slice none 0 0]++l,by rw[← hl]; simp⟩,Y,s4,L⟩
theorem QU {o:Oper} {E:Env} {lo:List AObj} {R:FV->List AObj->Prop} (h:MP P o.op E lo R):∃ fv lo',R fv lo'/\ze (Vl o.op) lo lo'/\vD P o (qz E) lo none fv lo':=by
 obtain⟨dst,op,ty,pos,after,guard⟩:=o;simp only at h;unfold MP at h;split at h
 ·
  rename_i t x;have v:=qu h; clear h; obtain⟨x',h,D⟩:=v;have v:=rh h; clear h; obtain⟨cs,h,hcs⟩:=v;split at h
  ·rename_i h1
   have h:=zh h;have h:=zf h;refine⟨_,_,h,ze.push _,fun l Lw bs ρ H w eval s B=>?_⟩;have rc:=hcs ρ H _ (D ρ H _ l (B x (by simp[kd])));simp only[execOp,Instr.box,ka,sO,jZ,kc];refine⟨_,H,List.prefix_append _ _,PH.le.refl H,s.pushBox (t:=t) rc,?_⟩;exact⟨w.heap.size,by simp[← s.hlen],rfl⟩
  exact h.elim
 ·
  rename_i t;obtain⟨i,z,ps,S,hz,h,hps⟩:=sQ h;have h:=nT h;split at h
  ·rename_i h1
   have h:=zh h;have h:=zf h;refine⟨_,_,h,ze.push _,fun l Lw bs ρ H w eval s B=>?_⟩;simp only[execOp,Instr.alloc,ka,zeroValue,typeInfo,run_program,S,hz,sO,jZ,kc];refine⟨_,H,List.prefix_append _ _,PH.le.refl H,s.pushBox (t:=t) (zk.of_RepL (hps H)),?_⟩;exact⟨w.heap.size,by simp[← s.hlen],rfl⟩
  exact h.elim
 ·
  rename_i t a x;have v:=qu h; clear h; obtain⟨a',h,ha'⟩:=v;have v:=qu h; clear h; obtain⟨x',h,D⟩:=v;split at h
  ·rename_i k off
   have v:=rh h; clear h; obtain⟨cs,h,hcs⟩:=v;split at h
   ·rename_i h1
    have h:=zh h;obtain⟨d,i,hd,S,h⟩:=xc h;split at h
    ·rename_i hn
     have hn:=UC hn;have v:=qV h; clear h; obtain⟨ob,y,h⟩:=v;split at h
     ·rename_i bt cells
      obtain⟨h,hlen⟩:=dW h;obtain⟨h,T⟩:=zR h;refine⟨_,_,h,ze.set _ _,fun l Lw bs ρ H w eval s B=>?_⟩;obtain⟨b,G,e⟩:=ha' ρ H _ l (B a (by simp[kd]));have rc:=hcs ρ H _ (D ρ H _ l (B x (by simp[kd])));obtain⟨b',vs,e',hg',N,hH⟩:=s.objs k _ _ y G;cases e';have hsz:(eval x).cells.size=cs.length:=by have:=rc.length; simpa using this
      have J:=Zp (P:=P) (w:=w) (t:=t) (bt:=bt) S hg' (x:=eval x) (off:=off) (by omega) (by rw[N.length]; omega) (XQ h1 rc);simp only[execOp,e,ka,J,jZ,kc];refine⟨ρ,H,jp _,PH.le.refl H,s.setBox y G hg' hH ?_,by simp[qD,qp,qJ,undef]⟩;rw[hsz];exact((N.take off).append rc).append (N.drop _)
     exact h.elim
    exact h.elim
   exact h.elim
  ·rename_i k z i off
   have v:=Fj h; clear h; obtain⟨fv,lo',h,hl,hs⟩:=v;refine⟨fv,lo',h,ze.len hl,fun l Lw bs ρ H w eval s B=>?_⟩;obtain⟨w',J,af⟩:=hs bs ρ H w _ _ s (ha' ρ H _ l (B a (by simp[kd]))) (D ρ H _ l (B x (by simp[kd])));simp only[execOp,ka,J,jZ,kc];exact af
  exact h.elim
 ·
  rename_i sx xx t t';split at h
  ·rename_i htt
   have htt:=UC htt;subst htt;have v:=qu h; clear h; obtain⟨s',h,O⟩:=v;have v:=qu h; clear h; obtain⟨x',h,D⟩:=v;have v:=Vz h; clear h; obtain⟨news,h,I⟩:=v;split at h
   ·rename_i k0 n0
    unfold DN at h;have v:=zT h; clear h; obtain⟨e,i,hu,S,h⟩:=v;split at h
    ·exact h.elim
    split at h
    ·rename_i i' hi'
     have:i'=i:=Option.some.inj (hi'.symm.trans S);subst this;split at h
     ·rename_i zv M
      split at h
      ·rename_i K
       have K:=UC K;have v:=qV h; clear h; obtain⟨ob,y,h⟩:=v;split at h
       ·rename_i e' z' rows
        obtain⟨rows',⟨rfl,he,hz,q,G,F⟩,h⟩:=h;subst he; subst hz;obtain⟨h,hk0⟩:=zR h;have h:=zh h;have h:=zf h;refine⟨_,_,h,ze.kill _ y rfl,fun l Lw bs ρ H w eval s B=>?_⟩;obtain⟨hρ,_⟩:=O ρ H _ l (B sx (by simp[kd,ke]));have rx:=I ρ H _ (D ρ H _ l (B xx (by simp[kd,ke])));obtain⟨v',w',J,af⟩:=UB (ty:=ty) s hu S M K y hρ rx q G F;simp only[execOp,resolve,invoke,builtin,ka,kc,jZ,jY,jk,jN,J];rw[jw];exact af
       ·rename_i e' z' rows j kt0
        obtain⟨rows',r,e2,z2,⟨p,⟨hnew,hrj⟩,rfl,rfl,q,G,F⟩,h⟩:=h;obtain⟨h,hk0⟩:=zR h;have h:=zh h;have h:=zf h;have h:=zh h;have h:=zf h;refine⟨_,_,h,ze.trans (ze.kill _ y rfl) (ze.push _),fun l Lw bs ρ H w eval s B=>?_⟩;obtain⟨hρ,_⟩:=O ρ H _ l (B sx (by simp[kd,ke]));have rx:=I ρ H _ (D ρ H _ l (B xx (by simp[kd,ke])));obtain⟨v',w',J,af⟩:=Hh (ty:=ty) (e2:=e2) (z2:=z2) s hu S M K y hρ rx q p hnew hrj G F;simp only[execOp,resolve,invoke,builtin,ka,kc,jZ,jY,jk,jN,J];simp only[jw];exact af
       exact h.elim
      exact h.elim
     exact h.elim
    exact h.elim
   have v:=zT h; clear h; obtain⟨e,i,hu,S,h⟩:=v;split at h
   ·exact h.elim
   split at h
   ·rename_i i' hi'
    have:i'=i:=Option.some.inj (hi'.symm.trans S);subst this;split at h
    ·rename_i zv M
     split at h
     ·rename_i K
      have K:=UC K;split at h
      ·
       obtain⟨⟨q,G,F⟩,h⟩:=h;have h:=zh h;have h:=zf h;refine⟨_,_,h,ze.push _,fun l Lw bs ρ H w eval s B=>?_⟩;have es:eval sx=.slice none 0 0:=by
        have:=O ρ H _ l (B sx (by simp[kd,ke]));simpa[qD,qp]using this
       have rx:=I ρ H _ (D ρ H _ l (B xx (by simp[kd,ke])));have run:∃ vs:List Value,xG H i'.size news vs/\(∀ u∈vs,u.oneCell'=true) /\
         ((news.length=0/\eval xx=.slice none 0 0)\/∃ a c,eval xx=.slice (some a) news.length c/\∀ j u,vs[j]? =some u->w.cell? (a.add j)=some u):=by
        rcases sE rx q with ⟨rfl,ex|⟨a',U,ex⟩⟩|⟨b,o,cap,vs,ex,_,hv,hc⟩
        ·exact⟨[],rfl,by simp,.inl ⟨rfl,ex⟩⟩
        ·exact⟨[],rfl,by simp,.inr ⟨a',U,ex,fun j u hu=>by simp at hu⟩⟩
        exact⟨vs,hv,xG.one s.sath hc,.inr ⟨⟨b,o,none⟩,cap,ex,fun j u hu=>by rw[Addr.add_lit]; exact(s.sath.cell _ _ _ (hc j u hu)).1⟩⟩
       obtain⟨vs,hv,hone,hxx⟩:=run;obtain⟨v',w',J,f,T⟩:=QN (P:=P) (w:=w) (ty:=ty) hu S M K (World.ownsRow_nil w 0 e i'.size) hv.length hone hxx (by omega) (by simpa using G);obtain⟨p,sat⟩:=uD s (World.ownsRow_nil w 0 e i'.size) (fun b G=>by simp[qC]at G) (fun g l=>by simp[qC]at l) (fun g l=>by simp[qC]at l) hv.length (by simpa using hone) f T
       simp only[execOp,resolve,invoke,builtin,ka,kc,jZ,jY,jk,jN,es,J];simp only[jw,jt]at f sat p;refine⟨_,_,List.prefix_append _ _,p,sat,by simp[← s.hlen],xD hv p f⟩
      ·
       rename_i k0 rows _;obtain⟨⟨q,G,F⟩,h⟩:=h;have v:=qV h; clear h; obtain⟨ob,y,h⟩:=v;split at h
       ·rename_i e' z' n
        obtain⟨⟨he,hz,hn⟩,h⟩:=h;subst he; subst hz; subst hn;obtain⟨h,hk0⟩:=zR h;have h:=zh h;have h:=zf h;refine⟨_,_,h,ze.kill _ y rfl,fun l Lw bs ρ H w eval s B=>?_⟩;have rs:=O ρ H _ l (B sx (by simp[kd,ke]));obtain⟨L,V⟩:=rs;have rx:=I ρ H _ (D ρ H _ l (B xx (by simp[kd,ke])));obtain⟨xs,A,hxs⟩:=s.objs k0 _ _ y L;have run:∃ vs:List Value,xG H i'.size news vs/\(∀ u∈vs,u.oneCell'=true) /\
          ((news.length=0/\eval xx=.slice none 0 0)\/∃ a c,eval xx=.slice (some a) news.length c/\∀ j u,vs[j]? =some u->w.cell? (a.add j)=some u):=by
         rcases sE rx (fun r J=>q r (by simp[J]))with ⟨rfl,ex|⟨a',U,ex⟩⟩|⟨b,o,cap,vs,ex,_,hv,hc⟩
         ·exact⟨[],rfl,by simp,.inl ⟨rfl,ex⟩⟩
         ·exact⟨[],rfl,by simp,.inr ⟨a',U,ex,fun j u hu=>by simp at hu⟩⟩
         exact⟨vs,hv,xG.one s.sath hc,.inr ⟨⟨b,o,none⟩,cap,ex,fun j u hu=>by rw[Addr.add_lit]; exact(s.sath.cell _ _ _ (hc j u hu)).1⟩⟩
        obtain⟨vs,hv,hone,hxx⟩:=run;have old:xG H i'.size rows xs/\∀ u∈xs,u.oneCell'=true:=by
         rcases sE V (fun r J=>q r (by simp[J]))with ⟨rfl,ex⟩|⟨b,o,cap,us,ex,_,hv',hc⟩
         ·have:xs=[]:=jI (by simpa using A.1)
          subst this;exact⟨rfl,by simp⟩
         have X:qC (eval sx)=some b:=by rw[ex]; rfl
         have ho:o=0:=by
          rcases A.2 with ⟨Q,_⟩|⟨g,U,cur,Q,_⟩
          ·rw[ex]at Q; cases Q
          rw[ex]at Q; injection Q with Q; injection Q with Q; injection Q
         subst ho;have:xs=us:=by
          refine List.ext_getElem? fun j=>?_;have l1:xs.length=us.length:=by rw[A.1,hv'.length]
          rcases Nat.lt_or_ge j xs.length with hj|hj
          ·have h1:=(hxs b X).1 j _ (jf hj)
           have h2:=hc j _ (jf (show j<us.length by omega));rw[jw]at h2;rw[jf hj,jf (show j<us.length by omega),← h1,← h2]
          rw[List.getElem?_eq_none hj,List.getElem?_eq_none (by omega)]
         subst this;exact⟨hv',xG.one s.sath hc⟩
        obtain⟨hvo,Y⟩:=old;obtain⟨v',w',J,f,T⟩:=QN (P:=P) (w:=w) (ty:=ty) hu S M K A hv.length hone hxx (by rw[jb]at F; exact F) (by rw[jb]at G; exact G);have sk:=s.kill k0;obtain⟨p,sat⟩:=uD sk A hxs (fun g l k o' u C Z hl=>by
          rw[jF]at C;split at C
          ·first
            | (cases C; simp[AObj.live]at hl; done)
            | (split at C<;>first|(cases C; done)|(cases C; simp[AObj.live]at hl))
          ·rename_i hne
           exact s.excl k0 k _ o' _ u g y C L Z hne rfl hl l)
         (fun g l=>s.own k0 _ _ g y L rfl l) hv.length (fun u Z=>by
          rcases jx.1 Z with h|h
          ·exact Y u h
          exact hone u h) f T
        simp only[execOp,resolve,invoke,builtin,ka,kc,jZ,jY,jk,jN,J];refine⟨_,_,List.prefix_append _ _,p,by rw[jb]; exact sat,?_,xD (hvo.append hv) p (by rw[jb]; exact f)⟩;have:(0+(lo.set k0 AObj.dead).length)=ρ.length:=by simp[s.hlen]
        rw[this];simp
       exact h.elim
      ·
       rename_i rows _;obtain⟨⟨q,G,F⟩,own,h⟩:=h;cases own with
       | true=>
        obtain⟨hne,h⟩:=h;have h:=zh h;have h:=zf h;refine⟨_,_,h,ze.push _,fun l Lw bs ρ H w eval s B=>?_⟩;obtain⟨V,hp⟩:=O ρ H _ l (B sx (by simp[kd,ke]));have rx:=I ρ H _ (D ρ H _ l (B xx (by simp[kd,ke])));obtain⟨v',w',J,⟨v,_⟩|⟨ys,hv,hone,f,X,T⟩⟩:=Hu (P:=P) (ty:=ty) s.sath hu S M K V hp rx q F G
        ·exact absurd v hne
        obtain⟨p,sat⟩:=uD (m:=(rows++news).length) (news:=ys) s (World.ownsRow_nil w 0 e i'.size) (fun b G=>by simp[qC]at G) (fun g l=>by simp[qC]at l) (fun g l=>by simp[qC]at l) hv.length (by simpa using hone) (by simpa using f) (.inr ⟨X,T⟩)
        simp only[execOp,resolve,invoke,builtin,ka,kc,jZ,jY,jk,jN,J];simp only[jw,jt]at sat p;refine⟨_,_,List.prefix_append _ _,p,sat,by simp[← s.hlen],xD hv p f⟩
       | false=>
        obtain⟨rows',rfl,h⟩:=h;refine⟨_,_,h,ze.refl _,fun l Lw bs ρ H w eval s B=>?_⟩;obtain⟨V,hp⟩:=O ρ H _ l (B sx (by simp[kd,ke]));have rx:=I ρ H _ (D ρ H _ l (B xx (by simp[kd,ke])));obtain⟨v',w',J,⟨rfl,rfl,rfl⟩|⟨ys,hv,hone,f,X,T⟩⟩:=Hu (P:=P) (ty:=ty) s.sath hu S M K V hp rx q F G
        ·simp only[execOp,resolve,invoke,builtin,ka,kc,jZ,jY,jk,jN,J]
         refine⟨ρ,H,jp _,PH.le.refl H,s,?_⟩;simp only[qD,List.append_nil];exact V
        obtain⟨p,sat⟩:=uD (m:=(rows++news).length) (news:=ys) s (World.ownsRow_nil w 0 e i'.size) (fun b G=>by simp[qC]at G) (fun g l=>by simp[qC]at l) (fun g l=>by simp[qC]at l) hv.length (by simpa using hone) (by simpa using f) (.inr ⟨X,T⟩)
        simp only[jt]at sat p;have calm:Calm H w (zl H v' ys) w':=⟨p,sat.sath,⟨T.os,T.tape,T.output,T.size,fun k hk1 _=>T.block k hk1 (by omega)⟩,fun b o u hu=>by
         unfold zl at hu;split at hu
         ·rename_i hc
          rw[X]at hc;exact .inr (by have:=Option.some.inj hc.1; omega)
         exact .inl ⟨u,hu⟩⟩
        simp only[execOp,resolve,invoke,builtin,ka,kc,jZ,jY,jk,jN,J];exact⟨ρ,_,jp _,p,s.calm calm,xD hv p f⟩
      exact h.elim
     exact h.elim
    exact h.elim
   exact h.elim
  have v:=qu h; clear h; obtain⟨s',h,O⟩:=v;have v:=qu h; clear h; obtain⟨x',h,D⟩:=v;split at h
  case h_2=>exact h.elim
  rename_i str;split at h
  case h_2=>exact h.elim
  rename_i hut;have v:=zT h; clear h; obtain⟨e,i,hu,S,h⟩:=v;split at h
  case h_2=>exact h.elim
  rename_i hz1;have hz1:=UC hz1;split at h
  case h_2=>exact h.elim
  rename_i i' hi';have:i'=i:=Option.some.inj (hi'.symm.trans S);subst this;split at h
  case h_2=>exact h.elim
  rename_i M;have hbl:(zu str).length=str.length:=by simp[zu]
  split at h
  ·obtain⟨⟨G,F⟩,h⟩:=h
   have h:=zh h;have h:=zf h;refine⟨_,_,h,ze.push _,fun l Lw bs ρ H w eval s B=>?_⟩;have es:eval sx=.slice none 0 0:=by
    have:=O ρ H _ l (B sx (by simp[kd,ke]));simpa[qD,qp]using this
   have ex:=dC (D ρ H _ l (B xx (by simp[kd,ke])));obtain⟨v',w',J,f,T⟩:=nN (P:=P) (w:=w) (ty:=ty) hu hut S M hz1 (World.ownsRow_nil w 0 e 1) str (by omega) (by rw[hbl]at G; simpa using G);have hv:=Bv H str;obtain⟨p,sat⟩:=uD s (World.ownsRow_nil w 0 e 1) (fun b G=>by simp[qC]at G) (fun g l=>by simp[qC]at l) (fun g l=>by simp[qC]at l) (by rw[Lib.strCells_length,mA,Nat.mul_one]) (by simpa using Lib.strCells_oneCell _) f T
   simp only[execOp,resolve,invoke,builtin,ka,kc,jZ,jY,jk,jN,es,ex,J];simp only[jw,jt]at f sat p;refine⟨_,_,List.prefix_append _ _,p,by rw[hz1,hbl]; exact sat,by simp[← s.hlen],xD hv p (by rw[hbl]; exact f)⟩
  ·rename_i k0 rows
   obtain⟨⟨q,G,F⟩,h⟩:=h;have v:=qV h; clear h; obtain⟨ob,y,h⟩:=v;split at h
   case h_2=>exact h.elim
   rename_i e' z' n;obtain⟨⟨he,hz,hn⟩,h⟩:=h;subst he; subst hz; subst hn;obtain⟨h,hk0⟩:=zR h;have h:=zh h;have h:=zf h;refine⟨_,_,h,ze.kill _ y rfl,fun l Lw bs ρ H w eval s B=>?_⟩;have rs:=O ρ H _ l (B sx (by simp[kd,ke]));obtain⟨L,V⟩:=rs;have ex:=dC (D ρ H _ l (B xx (by simp[kd,ke])));obtain⟨xs,A,hxs⟩:=s.objs k0 _ _ y L;have old:xG H 1 rows xs/\∀ u∈xs,u.oneCell'=true:=by
    rcases sE V q with ⟨rfl,ex⟩|⟨b,o,cap,us,ex,_,hv',hc⟩
    ·have:xs=[]:=jI (by simpa using A.1)
     subst this;exact⟨rfl,by simp⟩
    have X:qC (eval sx)=some b:=by rw[ex]; rfl
    have ho:o=0:=by
     rcases A.2 with ⟨Q,_⟩|⟨g,U,cur,Q,_⟩
     ·rw[ex]at Q; cases Q
     rw[ex]at Q; injection Q with Q; injection Q with Q; injection Q
    subst ho;have:xs=us:=by
     refine List.ext_getElem? fun j=>?_;have l1:xs.length=us.length:=by rw[A.1,hv'.length]
     rcases Nat.lt_or_ge j xs.length with hj|hj
     ·have h1:=(hxs b X).1 j _ (jf hj)
      have h2:=hc j _ (jf (show j<us.length by omega));rw[jw]at h2;rw[jf hj,jf (show j<us.length by omega),← h1,← h2]
     rw[List.getElem?_eq_none hj,List.getElem?_eq_none (by omega)]
    subst this;exact⟨hv',xG.one s.sath hc⟩
   obtain⟨hvo,Y⟩:=old;rw[jb,hbl]at G F;obtain⟨v',w',J,f,T⟩:=nN (P:=P) (w:=w) (ty:=ty) hu hut S M hz1 A str F G;have hv:=Bv H str;have sk:=s.kill k0;obtain⟨p,sat⟩:=uD sk A hxs (fun g l k o' u C Z hl=>by
     rw[jF]at C;split at C
     ·first
       | (cases C; simp[AObj.live]at hl; done)
       | (split at C<;>first|(cases C; done)|(cases C; simp[AObj.live]at hl))
     ·rename_i hne
      exact s.excl k0 k _ o' _ u g y C L Z hne rfl hl l)
    (fun g l=>s.own k0 _ _ g y L rfl l) (by rw[Lib.strCells_length,mA,Nat.mul_one]) (fun u Z=>by
     rcases jx.1 Z with h|h
     ·exact Y u h
     exact Lib.strCells_oneCell _ u h) f T
   simp only[execOp,resolve,invoke,builtin,ka,kc,jZ,jY,jk,jN,ex,J];refine⟨_,_,List.prefix_append _ _,p,by rw[hz1,jb,hbl]; exact sat,?_,xD (hvo.append hv) p (by rw[jb,hbl]; exact f)⟩;have:(0+(lo.set k0 AObj.dead).length)=ρ.length:=by simp[s.hlen]
   rw[this];simp
  exact h.elim
 exact BP (o:=⟨dst,_,ty,pos,after,guard⟩) h
end
end Ax
end
section
namespace Ax
open Go
variable {Lw:Nat}
section
variable {P:Program} {w:World}
theorem SatW.publishN {bs:(Base Lw)} {ρ:List Value} {H:(PH Lw)} {lo:List AObj} {w:World} (s:SatW bs ρ H lo w) {k:Nat} {e:TypeId} {z:Nat} {rows:List (List PV)} {v:Value} (n:lo[k]? =some (.vec e z rows)) (hv:ρ[k]? =some v) :
  ∃ H',PH.le H H'/\SatW bs ρ H' (lo.set k .dead) w/\qp H' (.sl rows) v/\∀ b o,H b o=none->H' b o=none\/qC v=some b:=by
 obtain⟨xs,a,A,B,C⟩:=s.objs k _ _ n hv;rcases a.2 with ⟨rfl,D⟩|⟨g,cap,cur,j,_,I,E,_⟩
 ·have:rows=[]:=jI D
  subst this;exact⟨H,PH.le.refl H,s.kill k,by simp[qp],fun _ _ h=>.inl h⟩
 have p:qC v=some g:=by rw[j]; rfl
 have d:PH.le H (zl H v xs):=by
  intro b o u hu;unfold zl;split
  ·rename_i c
   rw[p]at c;obtain⟨q,_⟩:=c;cases q;rw[C g p o]at hu;cases hu
  ·exact hu
 have sk:=s.kill k;refine⟨zl H v xs,d,?_,xD A d a,fun b o h=>?_⟩
 rotate_left
 ·unfold zl
  split
  ·rename_i c; exact .inr c.1
  exact .inl h
 refine{ sath:=⟨fun b o u hu=>?_,s.sath.root.mono d,s.sath.low,fun b o u hu F=>by
  by_cases l:qC v=some b
  ·exact .own a l
  unfold zl at hu;rw[if_neg (fun c=>l c.1)]at hu
  exact s.sath.nf b o u hu F⟩,hlen:=sk.hlen,pre:=sk.pre,objs:=fun i oi x f m=>?_,excl:=sk.excl,own:=sk.own,keep:=sk.keep,leH:=sk.leH.trans d,newH:=fun b o u hu=>?_ }
 ·unfold zl at hu
  split at hu
  ·rename_i c
   rw[p]at c;obtain⟨q,_⟩:=c;cases q;have:=a.cells (g:=g) (by rw[j]; rfl) o u hu;rw[Addr.add_lit,jw]at this;exact⟨this,B u (List.mem_of_getElem? hu)⟩
  exact s.sath.cell b o u hu
 ·rw[jF]at f
  split at f
  ·split at f
   ·cases f; trivial
   cases f
  ·rename_i r
   cases y:oi.live with
   | false=>cases oi<;>simp[AObj.live]at y; trivial
   | true=>
    refine(s.objs i oi x f m).keep (jp _) d (fun _ _ _=>rfl) (fun b o' t _ G=>?_)
    unfold zl;rw[if_neg (fun c=>s.excl k i _ oi _ x b n f hv m r rfl y c.1 t)]
    exact G
 unfold zl at hu;split at hu
 ·rename_i c
  exact .inr (s.own k _ v b n hv rfl c.1)
 exact s.newH b o u hu
theorem SatW.publish {bs:(Base Lw)} {ρ:List Value} {H:(PH Lw)} {lo:List AObj} {w:World} (s:SatW bs ρ H lo w) {k:Nat} {e:TypeId} {z:Nat} {rows:List (List PV)} {v:Value} (d:lo[k]? =some (.vec e z rows)) (hv:ρ[k]? =some v) :
  ∃ H',PH.le H H'/\SatW bs ρ H' (lo.set k .dead) w/\qp H' (.sl rows) v:=
 let ⟨H',a,b,c,_⟩:=s.publishN d hv
 ⟨H',a,b,c⟩
def Cu (P:Program) (own grow:Bool) (lo:List AObj) (t:TypeId) (l c:FV) (R:FV->List AObj->Prop):Prop:=
 match l with
 | .p (.int _ l)=>match c with
  | .p (.int _ c)=>nR P t fun e z=>match P.info? e with
   | some i=>Fx P e fun a=>match own with
    | false=>match grow with
     | false=>∃ n:Nat,(l=0/\c=n/\n * i.bytes<=140737488355328/\n<=9223372036854775807)/\sL lo 0 fun k=>di lo (.tail e z 0) fun lo=>R (.tsl k []) lo
     | true=>∃ (n:Nat) (rows:List (List PV)),(l=n/\c=n/\n * i.bytes<=140737488355328/\n<=9223372036854775807/\(List.replicate n a=rows\/Xf (List.replicate n a) rows)/\a.length=z/\z≠0/\a.all Fp=true) /\
       di lo .dead fun lo=>R (.p (.sl rows)) lo
    | true=>match grow with
     | false=>∃ (n:Nat) (rows:List (List PV)),(l=n/\c=n/\n * i.bytes<=140737488355328/\n<=9223372036854775807/\(List.replicate n a=rows\/Xf (List.replicate n a) rows)/\a.length=z/\z≠0/\a.all Fp=true) /\
       sL lo 0 fun k=>di lo (.vec e z rows) fun lo=>R (.vsl k rows.length) lo
     | true=>(l=1/\c=1/\i.bytes<=140737488355328/\a.length=z/\z≠0)/\Mk a fun cs=>match tW cs with
      | true=>sL lo 0 fun k=>di lo (.box e cs) fun lo=>R (.bsl k 0 1 1) lo
      | false=>False
   | none=>False
  | _=>False
 | _=>False
theorem CA (z:Array Value) (n:Nat) (hz:z.size≠0):(madeCells z ((n+1) * z.size)).toList=z.toList++(madeCells z (n * z.size)).toList:=by
 unfold madeCells;simp only[Array.toList_map,Array.toList_range];rw[Nat.add_mul,Nat.one_mul,Nat.add_comm (n * z.size),List.range_add,List.map_append,List.map_map];congr 1
 ·refine List.ext_getElem? fun j=>?_
  simp only[List.getElem?_map,List.getElem?_range];by_cases a:j<z.size
  ·simp[List.getElem?_range a,a,Nat.mod_eq_of_lt a]
  have b:z.toList[j]? =none:=by simp; omega
  rw[b];simp; omega
 refine List.map_congr_left fun j _=>?_;simp[Nat.add_mod_left]
theorem Vk {H:(PH Lw)} {a:List PV} {b:Value} (c:qJ H a b.cells.toList) (d:a.length≠0):∀ n:Nat,xG H a.length (List.replicate n a) (madeCells b.cells (n * b.cells.size)).toList
 | 0=>by simp[xG,madeCells]
 | n+1=>by
  have e:=c.length;have hz:b.cells.size≠0:=by simp at e; omega
  rw[CA _ _ hz,List.replicate_succ];exact⟨rfl,_,_,rfl,c,Vk c d n⟩
theorem Vf {own grow:Bool} {lo:List AObj} {t:TypeId} {l c:FV} {R:FV->List AObj->Prop} (h:Cu P own grow lo t l c R) :
  ∃ Y lo',R Y lo'/\ze true lo lo'/\∀ ⦃Lw:Nat⦄ (bs:(Base Lw)) (ρ:List Value) (H:(PH Lw)) (w:World) (vl vc:Value),SatW bs ρ H lo w->qD ρ H l vl->qD ρ H c vc ->
   ∃ v w',(Instr.makeSlice t vl vc).run P w=.ok v w'/\fW bs ρ H Y lo' v w':=by
 unfold Cu at h;split at h
 case h_2=>exact h.elim
 rename_i I l;split at h
 case h_2=>exact h.elim
 rename_i J c;have p:=zT h; clear h; obtain⟨e,i,hu,E,h⟩:=p;rw[E]at h;have p:=sQ h; clear h; obtain⟨d,a,zs,U,hz,h,q⟩:=p;obtain rfl:d=i:=Option.some.inj (U.symm.trans E);split at h
 ·split at h
  ·have p:=h; clear h; obtain⟨n,⟨rfl,rfl,B,C⟩,h⟩:=p
   have h:=zh h;have h:=zf h;refine⟨_,_,h,ze.push _,fun Lw bs ρ H w vl vc s K rc=>?_⟩;rw[zy K,zy rc];obtain⟨w',G,r,Z⟩:=run_make_own (P:=P) w 0 t e d a d.size hu E hz rfl I J n (by rw[Nat.mul_comm]; omega) C (jR _);have f:=run_make (P:=P) w t e d a hu E hz I J 0 n (Int.le_refl _) (by omega) (by
    have:((d.bytes * n:Nat):Int)<=281474976710656:=by rw[Nat.mul_comm]; omega
    rwa [Int.natCast_mul]at this) (by omega)
   simp only[Int.toNat_zero,jS]at f;have hw:w'=w.alloc (.cells (madeCells a.cells (n * d.size)) e):=by
    rw[G]at f
    injection f
   subst hw;refine⟨_,_,G,ρ++[.slice (some ⟨w.heap.size,0,none⟩) 0 n],H,List.prefix_append _ _,PH.le.refl H,?_,?_⟩
   ·refine s.push (g:=w.heap.size) (.inl rfl) (s.fresh (jv _)) (.inr s.keep.size) (PH.le.refl H) (vZ s.sath _) (fun b o v h=>.inl ⟨v,h⟩) (vX w _ _) ?_
    refine⟨[],r,fun b B=>⟨fun j u hu=>by simp at hu,fun o _=>?_⟩⟩
    simp only[qC,Option.some.injEq]at B;subst B;cases M:H w.heap.size o with
    | none=>rfl
    | some x=>exact absurd (s.sath.lt M) (jQ _)
   ·refine⟨by simp[← s.hlen],?_⟩
    simp only[qp];exact .inl ⟨trivial,.inr ⟨_,_,rfl⟩⟩
  have p:=h; clear h; obtain⟨n,rows,⟨rfl,rfl,B,C,m,F,N,hone⟩,h⟩:=p;have h:=zf h;refine⟨_,_,h,ze.push _,fun Lw bs ρ H w vl vc s K rc=>?_⟩;rw[zy K,zy rc];have D:a.cells.size=d.size:=by have:=(q H).length; simp at this; omega
  obtain⟨w',G,r,Z⟩:=run_make_full (P:=P) w 0 t e d a d.size hu E hz rfl I J n (by rw[Nat.mul_comm]; omega) C (jR _);have f:=run_make (P:=P) w t e d a hu E hz I J n n (by omega) (Int.le_refl _) (by
   have:((d.bytes * n:Nat):Int)<=281474976710656:=by rw[Nat.mul_comm]; omega
   rwa [Int.natCast_mul]at this) (by omega)
  simp only[jS]at f;have hw:w'=w.alloc (.cells (madeCells a.cells (n * d.size)) e):=by
   rw[G]at f
   injection f
  subst hw;have hlen:rows.length=n:=by
   rcases m with rfl|m
   ·simp
   have:=cD m; simpa using this.symm
  have y:=Vk (q H) (by omega) n;have L:xG H d.size rows (madeCells a.cells (n * d.size)).toList:=by
   rw[D,F]at y;exact xG.le m y
  have T:∀ u∈(madeCells a.cells (n * d.size)).toList,u.oneCell'=true:=by
   intro u A;unfold madeCells at A;simp only[Array.toList_map,List.mem_map]at A;obtain⟨j,_,rfl⟩:=A;have V:j % a.cells.size<a.cells.size:=Nat.mod_lt _ (by omega);have hm:a.cells[j % a.cells.size]! ∈a.cells.toList:=by
    rw[getElem!_pos a.cells _ V];simp
   exact qJ.one (fun c X=>(List.all_eq_true.1 hone) c X) (q H) _ hm
  have sp:SatW bs (ρ++[.slice (some ⟨w.heap.size,0,none⟩) n n]) H (lo++[.vec e d.size rows]) (w.alloc (.cells (madeCells a.cells (n * d.size)) e)):=by
   refine s.push (g:=w.heap.size) (.inl rfl) (s.fresh (jv _)) (.inr s.keep.size) (PH.le.refl H) (vZ s.sath _) (fun b o v h=>.inl ⟨v,h⟩) (vX w _ _) ?_;refine⟨_,by rw[hlen]; exact r,L,T,fun b B o=>?_⟩;simp only[qC,Option.some.injEq]at B;subst B;cases M:H w.heap.size o with
   | none=>rfl
   | some x=>exact absurd (s.sath.lt M) (jQ _)
  obtain⟨H',O,Q,rp⟩:=sp.publish (k:=lo.length) (e:=e) (z:=d.size) (rows:=rows) (v:=.slice (some ⟨w.heap.size,0,none⟩) n n) (by simp) (by simp[← s.hlen]);have S:(lo++[AObj.vec e d.size rows]).set lo.length .dead=lo++[.dead]:=by simp
  rw[S]at Q;exact⟨_,_,G,_,H',List.prefix_append _ _,O,Q,rp⟩
 split at h
 ·have p:=h; clear h; obtain⟨n,rows,⟨rfl,rfl,B,C,m,F,N,hone⟩,h⟩:=p
  have h:=zh h;have h:=zf h;refine⟨_,_,h,ze.push _,fun Lw bs ρ H w vl vc s K rc=>?_⟩;rw[zy K,zy rc];have D:a.cells.size=d.size:=by have:=(q H).length; simp at this; omega
  obtain⟨w',G,r,Z⟩:=run_make_full (P:=P) w 0 t e d a d.size hu E hz rfl I J n (by rw[Nat.mul_comm]; omega) C (jR _);have f:=run_make (P:=P) w t e d a hu E hz I J n n (by omega) (Int.le_refl _) (by
   have:((d.bytes * n:Nat):Int)<=281474976710656:=by rw[Nat.mul_comm]; omega
   rwa [Int.natCast_mul]at this) (by omega)
  simp only[jS]at f;have hw:w'=w.alloc (.cells (madeCells a.cells (n * d.size)) e):=by
   rw[G]at f
   injection f
  subst hw;have hlen:rows.length=n:=by
   rcases m with rfl|m
   ·simp
   have:=cD m; simpa using this.symm
  have y:=Vk (q H) (by omega) n;have L:xG H d.size rows (madeCells a.cells (n * d.size)).toList:=by
   rw[D,F]at y;exact xG.le m y
  have T:∀ u∈(madeCells a.cells (n * d.size)).toList,u.oneCell'=true:=by
   intro u A;unfold madeCells at A;simp only[Array.toList_map,List.mem_map]at A;obtain⟨j,_,rfl⟩:=A;have V:j % a.cells.size<a.cells.size:=Nat.mod_lt _ (by omega);have hm:a.cells[j % a.cells.size]! ∈a.cells.toList:=by
    rw[getElem!_pos a.cells _ V];simp
   exact qJ.one (fun c X=>(List.all_eq_true.1 hone) c X) (q H) _ hm
  refine⟨_,_,G,ρ++[.slice (some ⟨w.heap.size,0,none⟩) n n],H,List.prefix_append _ _,PH.le.refl H,?_,?_⟩
  ·refine s.push (g:=w.heap.size) (.inl rfl) (s.fresh (jv _)) (.inr s.keep.size) (PH.le.refl H) (vZ s.sath _) (fun b o v h=>.inl ⟨v,h⟩) (vX w _ _) ?_
   refine⟨_,by rw[hlen]; exact r,L,T,fun b B o=>?_⟩;simp only[qC,Option.some.injEq]at B;subst B;cases M:H w.heap.size o with
   | none=>rfl
   | some x=>exact absurd (s.sath.lt M) (jQ _)
  ·exact⟨by simp[← s.hlen],.inr ⟨w.heap.size,n,by rw[hlen]⟩⟩
 have p:=h; clear h; obtain⟨⟨rfl,rfl,B,F,N⟩,h⟩:=p;have p:=nT h; clear h; have h:=p; clear p;split at h
 ·rename_i T
  have h:=zh h;have h:=zf h;refine⟨_,_,h,ze.push _,fun Lw bs ρ H w vl vc s K rc=>?_⟩;rw[zy K,zy rc];have D:a.cells.size=d.size:=by have:=(q H).length; simp at this; omega
  have f:=run_make (P:=P) w t e d a hu E hz I J 1 1 (by omega) (Int.le_refl _) (by omega) (by omega);have hm:madeCells a.cells (1 * d.size)=a.cells.toList.toArray:=by
   have p:=CA a.cells 0 (by omega);rw[jw,D]at p;have h3:(madeCells a.cells (0 * d.size)).toList=[]:=by simp[madeCells]
   rw[h3,List.append_nil]at p;rw[← p]
  simp only[Int.toNat_one]at f;rw[hm]at f;refine⟨_,_,f,_,H,List.prefix_append _ _,PH.le.refl H,s.pushBox (t:=e) (zk.of_RepL (q H)),?_⟩;exact⟨w.heap.size,by simp[← s.hlen],1,rfl,.inr rfl⟩
 exact h.elim
def HR (P:Program) (lo:List AObj) (t:TypeId) (d x:FV) (R:FV->List AObj->Prop):Prop:=
 match d with
 | .vsl k _=>DY x fun src=>my k lo fun o=>match o with
  | .vec e z rows=>nR P t fun _ a=>(a=z/\src.length=rows.length/\(∀ r∈src,r.length=z))/\tH k (.vec e z src) lo fun lo=>R (.p (.int .i64 src.length)) lo
  | _=>False
 | _=>False
theorem BO {lo:List AObj} {t:TypeId} {d x:FV} {R:FV->List AObj->Prop} (h:HR P lo t d x R) :
  ∃ T lo',R T lo'/\ze false lo lo'/\∀ ⦃Lw:Nat⦄ (bs:(Base Lw)) (ρ:List Value) (H:(PH Lw)) (w:World) (U ty:TypeId) (I m:Value),SatW bs ρ H lo w->qD ρ H d I->qD ρ H x m ->
   ∃ v w',(Builtin.copy_ #[t,U] ty #[I,m]).run P w=.ok v w'/\fW bs ρ H T lo' v w':=by
 unfold HR at h;split at h
 case h_2=>exact h.elim
 rename_i k n;have f:=Vz h; clear h; obtain⟨src,h,r⟩:=f;have f:=qV h; clear h; obtain⟨o,J,h⟩:=f;split at h
 case h_2=>exact h.elim
 rename_i e z rows;have f:=zT h; clear h; obtain⟨e',i,hu,V,⟨rfl,hlen,hw⟩,h⟩:=f;have f:=zR h; clear h; obtain⟨h,_⟩:=f;refine⟨_,_,h,ze.set _ _,fun Lw bs ρ H w U ty I m s rd rx=>?_⟩;obtain⟨X,_⟩:=rd;have rs:=r ρ H m rx;obtain⟨xs,y,hr,h1,Y⟩:=s.objs k _ _ J X;have ffirst:src=[]->∃ c:Array Value,(Builtin.firstCells i.size 0 m).run P w=.ok #[] w/\(Builtin.lenOf m).run P w=.ok 0 w:=by
  intro G;subst G;simp only[qp]at rs;have l0:∀ a:Addr,(loadCells a 0).run P w=.ok #[] w:=fun a=>by simpa using run_loadCells_list (P:=P) w a [] (by simp)
  rcases rs with ⟨_,rfl|⟨a,cap,rfl⟩⟩|⟨b,o',z',cap,rfl,_⟩
  ·exact⟨#[],by simp[Builtin.firstCells],by simp[Builtin.lenOf]⟩
  ·exact⟨#[],by simp[Builtin.firstCells,l0],by simp[Builtin.lenOf]⟩
  exact⟨#[],by simp[Builtin.firstCells,l0],by simp[Builtin.lenOf]⟩
 rcases y.2 with ⟨rfl,f⟩|⟨g,cap,cur,rfl,_,K,A,hm,Z,ht⟩
 ·have L:rows=[]:=jI f
  subst L;have B:src=[]:=jI (by simpa using hlen);obtain⟨_,M,q⟩:=ffirst B;subst B;refine⟨goInt 0,w,?_,ρ,H,jp _,PH.le.refl H,?_,by simp[qD,qp,goInt]⟩
  ·simp[Builtin.copy_,kru hu,q,Go.sizeOf,typeInfo,V,M]
  exact s.view J rfl rfl fun v hv ok=>ok
 have hb:qC (Value.slice (some ⟨g,0,none⟩) rows.length cap)=some g:=rfl;obtain⟨vs,p,l,C,hone⟩:∃ vs:List Value,(Builtin.firstCells i.size src.length m).run P w=.ok vs.toArray w/\(Builtin.lenOf m).run P w=.ok src.length w/\xG H i.size src vs/\∀ u∈vs,u.oneCell'=true:=by
  rcases sE rs hw with ⟨G,_⟩|⟨b,o',cap',vs,rfl,_,C,hc⟩
  ·obtain⟨_,M,q⟩:=ffirst G
   subst G;exact⟨[],by simpa using M,by simpa using q,rfl,fun u hu=>by cases hu⟩
  have q:=run_loadCells_list (P:=P) w ⟨b,o',none⟩ vs (fun j u hu=>by
   have:=(s.sath.cell b (o'+j) u (hc j u hu)).1
   rwa [Addr.add_lit])
  rw[C.length]at q;exact⟨vs,by simp[Builtin.firstCells,q],by simp[Builtin.lenOf],C,fun u hu=>by
   obtain⟨j,D⟩:=List.getElem?_of_mem hu;exact(s.sath.cell b (o'+j) u (hc j u D)).2⟩
 have N:vs.length=rows.length * i.size:=by rw[C.length,hlen]
 have hcl:rows.length * i.size<=cur.size:=by rw[Z]; exact Nat.mul_le_mul_right _ A
 obtain⟨O,a1,a2,a3,a4,a5⟩:=rD vs 0 w cur K;have hcell:∀ j,j<vs.length->(w.cell? ⟨g,0+j,none⟩).isSome=true:=fun j D=>by
  rw[cell_of_row w g _ _ e _ K];have:j<cur.size:=by omega
  simp[this]
 have Q:=run_storeCells_cells (P:=P) g 0 vs 0 w (by simpa using hcell) (fun j D=>frozen_of_row w g _ cur e K) hone
 refine⟨goInt src.length,w.setCells g 0 vs,?_,ρ,H,jp _,PH.le.refl H,?_,by simp[qD,qp,goInt]⟩
 ·have E:Nat.min src.length rows.length=src.length:=by rw[hlen]; exact Nat.min_self _
  simp[Builtin.copy_,kru hu,l,Go.sizeOf,typeInfo,V,E,p,Q]
 refine s.upd (k:=k) (b:=g) J X rfl rfl (Y g rfl) a5 ?_;refine⟨vs,⟨by rw[N,hlen],.inr ⟨g,cap,O,by rw[hlen],jR _,a1,by rw[hlen]; exact A,hm,by rw[a2]; exact Z,?_⟩⟩,C,hone,fun b S o'=>Y b S o'⟩
 rw[hlen];refine List.ext_getElem? fun j=>?_;rw[jE];split
 ·rename_i D
  have F:j<vs.length:=by omega
  have:=a4 j vs[j] (by simp[F]) (by omega);rw[jw]at this;rw[jf F];simpa using this
 rename_i D;rw[List.getElem?_eq_none (by omega)]
def Nr (x:FV) (R:FV->Prop):Prop:=
 su x fun cs=>BG cs fun a=>match a.all Fp with
  | true=>R (.hptr a)
  | false=>False
theorem Ev {x:FV} {R:FV->Prop} (h:Nr x R) :
  ∃ m,R m/\∀ (lo:List AObj) ⦃Lw:Nat⦄ (bs:(Base Lw)) (ρ:List Value) (H:(PH Lw)) (w:World) (t:TypeId) (v:Value),SatW bs ρ H lo w->qD ρ H x v->∃ u w',(Instr.box t v).run P w=.ok u w'/\fW bs ρ H m lo u w':=by
 unfold Nr at h;obtain⟨cs,h,g⟩:=rh h;obtain⟨B,h,i⟩:=fT h;split at h
 case h_2=>exact h.elim
 rename_i hone;refine⟨_,h,fun lo Lw bs ρ H w t v s n=>?_⟩;have rl:=i ρ H _ (g ρ H v n);have p:=qJ.one (fun c q=>(List.all_eq_true.1 hone) c q) rl;have l:∀ o,H w.heap.size o=none:=fun o=>by
  cases r:H w.heap.size o with
  | none=>rfl
  | some x=>exact absurd (s.sath.lt r) (jQ _)
 let H':(PH Lw):=fun b o=>if b=w.heap.size then v.cells.toList[o]? else H b o
 have d:PH.le H H':=fun b o u hu=>by
  show(if b=w.heap.size then _ else _)=_;rw[if_neg (fun e=>by subst e; rw[l o]at hu; cases hu)]
  exact hu
 have f:∀ o u,v.cells.toList[o]? =some u->H' w.heap.size o=some u:=fun o u hu=>by
  show(if w.heap.size=w.heap.size then _ else _)=_;rw[if_pos rfl]; exact hu
 have calm:Calm H w H' (w.alloc (.cells v.cells t)):=by
  refine⟨d,⟨fun b o u hu=>?_,s.sath.root.mono d,by have:=s.sath.low; simp; omega,fun b o u hu y=>by
   have a:(if b=w.heap.size then v.cells.toList[o]? else H b o)=some u:=hu;split at a
   ·rename_i z; subst z; exact .of (heap_alloc_new w _)
   exact(vZ s.sath _).nf b o u a y⟩,?_,fun b o u hu=>?_⟩
  ·have a:(if b=w.heap.size then v.cells.toList[o]? else H b o)=some u:=hu
   clear hu;split at a
   ·rename_i e
    subst e;refine⟨?_,p u (List.mem_of_getElem? a)⟩;rw[cell_of_row _ _ _ v.cells t _ (heap_alloc_new w _)];simpa using a
   exact(vZ s.sath _).cell b o u a
  ·have:=vX w (.cells v.cells t) w.heap.size
   exact⟨this.os,this.tape,this.output,this.size,fun k A _=>this.block k A (fun e=>by omega)⟩
  have hu:(if b=w.heap.size then v.cells.toList[o]? else H b o)=some u:=hu;split at hu
  ·rename_i e; exact .inr (by omega)
  exact .inl ⟨u,hu⟩
 refine⟨.pointer (some ⟨w.heap.size,0,none⟩),w.alloc (.cells v.cells t),?_,ρ,H',jp _,d,s.calm calm,?_⟩
 ·simp only[Instr.box,ka,sO,jZ,kc]
 exact⟨w.heap.size,0,_,rfl,qJ.mono d rl,fun j u hu=>by rw[jw]; exact f j u hu⟩
end
end Ax
namespace Ax
open Go
section
variable {P:Program} {w:World}
def BI (P:Program) (E:Env) (lo:List AObj) (t:TypeId) (n:Nat) (parts:List (Nat×Operand)) (R:FV->List AObj->Prop):Prop:=
 nR P t fun e z=>match Nat.beq n 1 with
  | true=>match Nat.beq z 1 with
   | true=>match P.info? e with
    | some i=>match i.zero with
     | some zv=>match Nat.beq zv.cells.size 1 with
      | true=>match parts with
       | [(0,x)]=>Si E none x fun v=>match v with
        | .ptr k 0=>sL lo 0 fun m=>di lo (.box e [.ptr k 0]) fun lo=>R (.bsl m 0 1 1) lo
        | _=>False
       | _=>False
      | false=>False
     | none=>False
    | none=>False
   | false=>False
  | false=>False
theorem Cp {E:Env} {lo:List AObj} {t:TypeId} {n:Nat} {parts:List (Nat×Operand)} {R:FV->List AObj->Prop} (h:BI P E lo t n parts R) :
  ∃ q lo',R q lo'/\ze true lo lo'/\∀ ⦃Lw:Nat⦄ (bs:(Base Lw)) (ρ:List Value) (H:(PH Lw)) (w:World) (eval:Operand->Value),SatW bs ρ H lo w->(∀ x∈parts.map (·.2),qD ρ H (Sf (qz E) x) (eval x)) ->
   ∃ v w',(Instr.buildSlice t n (parts.map fun(i,x)=>(i,eval x)).toArray).run P w=.ok v w'/\fW bs ρ H q lo' v w':=by
 unfold BI at h;have f:=zT h; clear h; obtain⟨e,i,hu,g,h⟩:=f;split at h
 case h_2=>exact h.elim
 rename_i j;split at h
 case h_2=>exact h.elim
 rename_i c;rw[g]at h;simp only at h;split at h
 case h_2=>exact h.elim
 rename_i m o;split at h
 case h_2=>exact h.elim
 rename_i d;split at h
 case h_2=>exact h.elim
 rename_i x;have f:=qu h; clear h; obtain⟨v0,h,p⟩:=f;split at h
 case h_2=>exact h.elim
 rename_i k;have h:=zh h;have h:=zf h;have j:n=1:=jn j;have c:i.size=1:=jn c;have d:m.cells.size=1:=jn d;subst j;refine⟨_,_,h,ze.push _,fun Lw bs ρ H w eval s r=>?_⟩;obtain⟨b,u,he⟩:=p ρ H _ trivial (r x (by simp));have rc:zk ρ H [FV.ptr k 0] [Value.pointer (some ⟨b,0,none⟩)]:=⟨_,[],rfl,⟨b,u,rfl⟩,rfl⟩;have hp:=s.pushBox (t:=e) rc;refine⟨.slice (some ⟨w.heap.size,0,none⟩) 1 1,w.alloc (.cells #[Value.pointer (some ⟨b,0,none⟩)] e),?_,_,H,List.prefix_append _ _,PH.le.refl H,hp,?_⟩
 ·have key:∀ (arr:Array Value) (v:Value),arr.size=1->v.cells = #[v]->Instr.fill (fun i=>some (i * 1,1)) arr [(0,v)]=some #[v]:=by
   intro arr v ha hv;obtain⟨a,rfl⟩:∃ a,arr = #[a]:=by
    cases arr with
    | mk l=>
     match l,ha with
     | [a],_=>exact⟨a,rfl⟩
   simp[Instr.fill,hv]
  have y:=key ((Array.range (1 * 1)).map (m.cells[· % m.cells.size]!)) (.pointer (some ⟨b,0,none⟩)) (by simp) rfl
  simp only[Instr.buildSlice,ka,kru hu,jZ,Go.sizeOf,typeInfo,run_program,g,kc,c];simp only[show ¬ (1 * 1>2 ^ 24) by decide,if_false,show ¬ (1 * 1=0) by decide,ka,zeroValue,typeInfo,run_program,g,o,jZ,kc,jk,jN,he];rw[y];simp[newRow]
 exact⟨w.heap.size,by simp[← s.hlen],1,rfl,.inr rfl⟩
def Fb (P:Program) (t:TypeId) (lo:List AObj) (x:FV) (R:FV->List AObj->Prop):Prop:=
 match x with
 | .bsl k 0 1 _=>nR P t fun e z=>match Nat.beq z 1 with
  | true=>match P.info? e with
   | some i=>match i.zero with
    | some zv=>match Nat.beq zv.cells.size 1 with
     | true=>match Nat.ble i.bytes 140737488355328 with
      | true=>my k lo fun o=>match o with
       | .box _ [.ptr j 0]=>sL lo 0 fun m=>di lo (.pbx e (.ptr j 0)) fun lo=>R (.bsl m 0 1 0) lo
       | _=>False
      | false=>False
     | false=>False
    | none=>False
   | none=>False
  | false=>False
 | _=>False
theorem Fc {t:TypeId} {lo:List AObj} {x:FV} {R:FV->List AObj->Prop} (h:Fb P t lo x R) :
  ∃ z lo',R z lo'/\ze true lo lo'/\∀ ⦃Lw:Nat⦄ (bs:(Base Lw)) (ρ:List Value) (H:(PH Lw)) (w:World) (ty:TypeId) (m:Value),SatW bs ρ H lo w->qD ρ H x m ->
   ∃ v w',(Builtin.append_ #[t,t] ty #[.slice none 0 0,m]).run P w=.ok v w'/\fW bs ρ H z lo' v w':=by
 unfold Fb at h;split at h
 case h_2=>exact h.elim
 rename_i k J;have n:=zT h; clear h; obtain⟨e,i,hu,A,h⟩:=n;split at h
 case h_2=>exact h.elim
 rename_i a;rw[A]at h;simp only at h;split at h
 case h_2=>exact h.elim
 rename_i p r;split at h
 case h_2=>exact h.elim
 rename_i d;split at h
 case h_2=>exact h.elim
 rename_i f;have n:=qV h; clear h; obtain⟨o,B,h⟩:=n;split at h
 case h_2=>exact h.elim
 rename_i bt j;have h:=zh h;have h:=zf h;have a:i.size=1:=jn a;have d:p.cells.size=1:=jn d;have f:=jh f;refine⟨_,_,h,ze.push _,fun Lw bs ρ H w ty m s rx=>?_⟩;obtain⟨b,C,c,rfl,_⟩:=rx;obtain⟨K,vs,D,E,rc,L⟩:=s.objs k _ _ B C;cases D;obtain⟨u,us,rfl,F,e2⟩:=rc;have e2:us=[]:=e2;subst e2;obtain⟨y,l,rfl⟩:=F;have G:=run_append_nil (P:=P) w t ty e i p hu A r ⟨b,0,none⟩ 1 c [Value.pointer (some ⟨y,0,none⟩)] (by simp[a]) (fun q u hu=>by
  have:=fb E 0 q u (by simpa using hu);rw[Addr.add_lit];simpa using this) (by omega) (by omega) (by omega)
 refine⟨_,_,G,ρ++[.pointer (some ⟨w.heap.size,0,none⟩)],H,List.prefix_append _ _,PH.le.refl H,?_,?_⟩
 ·refine s.push (g:=w.heap.size) (.inl rfl) (s.fresh (jv _)) (.inr s.keep.size) (PH.le.refl H) (s.sath.block (zG w _ w.heap.size).size fun b o v hv=>?_) (fun b o v h=>.inl ⟨v,h⟩) (zG w _ _) ?_
  ·exact(zG w _ w.heap.size).block b (s.sath.lt hv) (fun e=>absurd (s.sath.lt hv) (by omega))
  refine⟨w.heap.size,.pointer (some ⟨y,0,none⟩),(Builtin.zeroCells p.cells (grownCap w 1 0 e - 1)).toList,rfl,?_,⟨y,by rw[jB (jG.1 l).1]; exact l,rfl⟩,fun o=>?_⟩
  ·refine(heap_alloc_new w.drew _).trans ?_
   congr 2;apply Array.toList_inj.1;simp
  cases I:H w.heap.size o with
  | none=>rfl
  | some x=>exact absurd (s.sath.lt I) (jQ _)
 ·exact⟨w.heap.size,by simp[← s.hlen],_,rfl,.inl rfl⟩
def Ff (P:Program) (p g:Bool) (E:Env) (lo:List AObj) (t:TypeId) (n:Nat) (parts:List (Nat×Operand)) (R:FV->List AObj->Prop):Prop:=
 match p with
 | true=>BI P E lo t n parts R
 | false=>DO P g E lo t n parts R
theorem tY {p b:Bool} {E:Env} {lo:List AObj} {t:TypeId} {n:Nat} {parts:List (Nat×Operand)} {R:FV->List AObj->Prop} (h:Ff P p b E lo t n parts R) :
  ∃ a lo',R a lo'/\ze true lo lo'/\∀ ⦃Lw:Nat⦄ (bs:(Base Lw)) (ρ:List Value) (H:(PH Lw)) (w:World) (eval:Operand->Value),SatW bs ρ H lo w->(∀ x∈parts.map (·.2),qD ρ H (Sf (qz E) x) (eval x)) ->
   ∃ v w',(Instr.buildSlice t n (parts.map fun(i,x)=>(i,eval x)).toArray).run P w=.ok v w'/\fW bs ρ H a lo' v w':=by
 cases p with
 | true=>exact Cp h
 | false=>exact Fe h
def Mf (P:Program) (inl:List Nat) (d:Option Tmp) (op:Op) (E:Env) (lo:List AObj) (no:Prop) (R:FV->List AObj->Prop):Prop:=
 match op with
 | .makeSlice t l c=>Si E none l fun l=>Si E none c fun c=>Cu P (Ha inl d) (HI inl d) lo t l c R
 | .call { callee:=.builtin .copy,args:=⟨[x,y]⟩,argTypes:=⟨[t,_]⟩ }=>Si E none x fun x=>Si E none y fun y=>HR P lo t x y R
 | .box _ x=>match Ha inl d with
  | true=>Si E none x fun x=>Nr x fun v=>R v lo
  | false=>no
 | .call { callee:=.builtin .append,args:=⟨[s,x]⟩,argTypes:=⟨[t,t']⟩ }=>ev E x fun v=>match v with
  | .bsl k o n c=>match Nat.beq t t' with
   | true=>Si E none s fun s=>match s with
    | .p .nilsl=>Fb P t lo (.bsl k o n c) R
    | _=>False
   | false=>False
  | _=>no
 | _=>no
theorem UN {inl:List Nat} {d:Option Tmp} {op:Op} {E:Env} {lo:List AObj} {no:Prop} {R:FV->List AObj->Prop} (h:Mf P inl d op E lo no R) :
  no\/∃ g lo',R g lo'/\cB op=true/\(∀ (o:Oper) (inl:List Nat),o.op=op->xJ inl o=true/\uG inl o=false)/\ze (Vl op) lo lo'/\∀ o:Oper,o.op=op->vD P o (qz E) lo none g lo':=by
 unfold Mf at h;split at h
 ·rename_i t l c
  have a:=qu h; clear h; obtain⟨F,h,z⟩:=a;have a:=qu h; clear h; obtain⟨G,h,A⟩:=a;have a:=Vf h; clear h; obtain⟨g,lo',h,f,i⟩:=a;refine .inr ⟨g,lo',h,rfl,fun o inl e=>⟨by simp[xJ,e,cB],by simp[uG,e]⟩,f,fun o e _ Lw bs ρ H w eval s b=>?_⟩;rw[e]at b;obtain⟨v,w',f,j⟩:=i bs ρ H w _ _ s (z ρ H _ trivial (b l (by simp[kd]))) (A ρ H _ trivial (b c (by simp[kd])));simp only[execOp,e,ka,f,jZ,kc];exact j
 ·rename_i x y t u
  have a:=qu h; clear h; obtain⟨B,h,m⟩:=a;have a:=qu h; clear h; obtain⟨I,h,q⟩:=a;have a:=BO h; clear h; obtain⟨g,lo',h,f,i⟩:=a;refine .inr ⟨g,lo',h,rfl,fun o inl e=>⟨by simp[xJ,e,cB],by simp[uG,e]⟩,f,fun o e _ Lw bs ρ H w eval s b=>?_⟩;rw[e]at b;obtain⟨v,w',f,j⟩:=i bs ρ H w u o.type _ _ s (m ρ H _ trivial (b x (by simp[kd,ke]))) (q ρ H _ trivial (b y (by simp[kd,ke])));simp only[execOp,e,resolve,invoke,builtin,ka,kc,jZ,jY,jk,jN,f];exact j
 ·rename_i t x
  split at h
  ·have a:=qu h; clear h; obtain⟨B,h,m⟩:=a
   have a:=Ev (P:=P) h; clear h; obtain⟨g,h,i⟩:=a;refine .inr ⟨g,lo,h,rfl,fun o inl e=>⟨by simp[xJ,e,cB],by simp[uG,e]⟩,ze.refl _,fun o e _ Lw bs ρ H w eval s b=>?_⟩;rw[e]at b;obtain⟨v,w',f,j⟩:=i lo bs ρ H w t _ s (m ρ H _ trivial (b x (by simp[kd])));simp only[execOp,e,ka,f,jZ,kc];exact j
  exact .inl h
 ·rename_i C x t u
  rw[XW]at h;split at h
  ·rename_i k o n c D
   split at h
   ·rename_i p
    have p:=jn p;subst p;have a:=qu h; clear h; obtain⟨J,h,r⟩:=a;split at h
    ·have a:=Fc h; clear h; obtain⟨g,lo',h,f,i⟩:=a
     refine .inr ⟨g,lo',h,rfl,fun o inl e=>⟨by simp[xJ,e,cB],by simp[uG,e]⟩,f,fun o e _ Lw bs ρ H w eval s b=>?_⟩;rw[e]at b;have r1:=r ρ H _ trivial (b C (by simp[kd,ke]));have r2:=b x (by simp[kd,ke]);rw[D]at r2;simp only[qD,qp]at r1;obtain⟨v,w',f,j⟩:=i bs ρ H w o.type _ s r2;simp only[execOp,e,resolve,invoke,builtin,ka,kc,jZ,jY,jk,jN,r1,f];exact j
    exact h.elim
   exact h.elim
  exact .inl h
 exact .inl h
end
end Ax
end
section
namespace Ax
open Go
variable {Lw:Nat}
def upd (e:Nat->FV) (d:Option Tmp) (v:FV):Nat->FV:=
 match d with
 | none=>e
 | some d=>fun t=>if t=d then v else e t
theorem EB (d:Tmp) (v:FV) (E:Env):qz ((d,v)::E)=upd (qz E) (some d) v:=by
 funext t;simp only[qz,upd];by_cases h:t=d
 ·subst h; simp[Nat.beq_refl]
 have:Nat.beq t d=false:=by
  cases a:Nat.beq t d with
  | false=>rfl
  | true=>exact absurd (jn a) h
 simp[this,h]
def vI (ops:Array Oper) (o:Oper) (e:Nat->FV) (g:G):Prop:=
 match o.guard with
 | none=>g=none
 | some (j,want)=>∃ oj d b,ops[j]? =some oj/\oj.dst=some d /\
   ((e d=.p (.bool b)/\g=some (match want with|true=>b|false=>!b)) \/
    ∃ a,e d=.opt a (.p (.bool b))/\g=some (match want with|true=>a&&b|false=>a&&!b))
def sn (P:Program) (sl:List Nat) (m:Bool) (n0:Nat) (o:Oper) (e:Nat->FV) (lo:List AObj) (g:G) (c:FV):Prop:=
 vD P o e lo g c lo/\(m=true->nC sl o=false->∃ d:Option (Nat×AObj),(∀ k b,d=some (k,b)->Pd sl n0 k=true/\b.boxy=true/\lo[k]? =some b)/\∀ a,(∀ k b,d=some (k,b)->a[k]? =some b)->vD P o e a g c a)
def Bg (sl:List Nat) (m:Bool) (n0:Nat) (o:Oper) (lo lo':List AObj):Prop:=
 m=true->n0<=lo.length->n0<=lo'.length/\(Fm sl o=true->∀ k a,Pd sl n0 k=true->a.boxy=true->(lo[k]? =some a↔lo'[k]? =some a))
theorem Fs {sl:List Nat} {n0 k:Nat} (h:Pd sl n0 k=true):k<n0/\Qa sl (60000000+1000 * n0+k)=false:=by
 unfold Pd at h;split at h
 ·rename_i a
  split at h
  ·cases h
  rename_i hm; exact⟨jh a,hm⟩
 cases h
theorem ze.ok {sl:List Nat} {m:Bool} {n0:Nat} {o:Oper} {lo lo':List AObj} (a:m=true->uG sl o=false) (h:ze (Vl o.op) lo lo'):Bg sl m n0 o lo lo':=fun b c=>⟨Nat.le_trans c h.1,fun hm k d e f=>by
 simp only[Fm,a b,Bool.or_false]at hm;exact h.2 hm k d (Nat.lt_of_lt_of_le (Fs e).1 c) f⟩
def ba (P:Program) (inl sl:List Nat) (m:Bool) (n0 N:Nat) (ops:Array Oper) (o:Oper) (e:Nat->FV) (lo:List AObj) (b:Nat->FV) (lo':List AObj):Prop:=
 ∃ g a,vI ops o e g/\(∀ d,o.dst=some d->d<N)/\b=upd e o.dst (nE g a) /\
  ((xJ inl o=true/\g=none/\vD P o e lo none a lo'/\Bg sl m n0 o lo lo') \/
   (xJ inl o=false/\sy o.op=true/\lo'=lo/\sn P sl m n0 o e lo g a) \/
   (xJ inl o=false/\sy o.op=false/\lo'=lo/\∀ lo,vD P o e lo g a lo))
theorem nS (o:Oper):xJ [] o=cB o.op:=by
 unfold xJ;split
 ·rename_i h; simp[h,Qa,cB]
 ·rename_i h; simp[h,Pl,Qa,cB]
 ·rename_i h
  simp only[h,Ha,cB];split<;>simp[Qa]
 ·rename_i h
  simp only[h,Ha,cB];split<;>simp[Qa]
 rfl
theorem cA {ops:List Oper} {o:Oper} {E:Env} {R:G->Prop} (h:Zg ops o E R):∃ g,vI ops.toArray o (qz E) g/\R g:=by
 unfold Zg at h;unfold vI;split at h
 ·rename_i e
  exact⟨none,by simp[e],h⟩
 rename_i j c e;obtain⟨oj,a,h⟩:=qV h;split at h
 ·rename_i d f
  rw[QZ]at h;split at h
  ·rename_i b he
   cases c with
   | true=>exact⟨_,by simp only[e]; exact⟨oj,d,b,by simpa using a,f,.inl ⟨he,rfl⟩⟩,h⟩
   | false=>exact⟨_,by simp only[e]; exact⟨oj,d,b,by simpa using a,f,.inl ⟨he,rfl⟩⟩,h⟩
  ·rename_i i b he
   cases c with
   | true=>exact⟨_,by simp only[e]; exact⟨oj,d,b,by simpa using a,f,.inr ⟨i,he,rfl⟩⟩,h⟩
   | false=>exact⟨_,by simp only[e]; exact⟨oj,d,b,by simpa using a,f,.inr ⟨i,he,rfl⟩⟩,h⟩
  ·exact h.elim
 exact h.elim
theorem zm {N:Nat} {d:Option Tmp} {v:FV} {E:Env} {R:Env->Prop} (h:bT N d v E R) :
  (∀ t,d=some t->t<N)/\∃ E',qz E'=upd (qz E) d v/\R E':=by
 unfold bT at h;split at h
 ·rename_i t
  split at h
  ·rename_i b
   rw[Ck]at h;refine⟨fun c a=>?_,_,EB t v E,h⟩;cases a;exact jh b
  exact h.elim
 exact⟨fun t a=>(by cases a),E,rfl,h⟩
theorem Ve {P:Program} {o:Oper} {t:TypeId} {x i:Operand} {ok:Bool} (a:o.op=.lookup t x i ok) {E:Env} {g:G} {lo:List AObj} {f j:FV} (b:Sa g (Sf (qz E) x) f) (c:Sa g (Sf (qz E) i) j) {R:FV->Prop} (h:ry P g t lo f j ok R) :
  ∃ d,R d/\vD P o (qz E) lo g d lo:=by
 obtain⟨d,h,_,l⟩:=Cs h;refine⟨_,h,fun e Lw bs ρ H w eval s k=>?_⟩;obtain⟨v,m,n⟩:=l e bs ρ H w _ _ s (b ρ H _ e (k x (by simp[a,kd]))) (c ρ H _ e (k i (by simp[a,kd])));simp only[execOp,a];exact qM s m n
theorem CW {P:Program} {N:Nat} {all:List Oper} {o:Oper} {E:Env} {lo:List AObj} {R:Env->List AObj->Prop} (h:Dn P N all o E lo R) :
  ∃ E' lo',ba P [] [] false 0 N all.toArray o (qz E) lo (qz E') lo'/\R E' lo':=by
 unfold Dn at h;unfold ba;simp only[nS];obtain⟨g,j,h⟩:=cA h;split at h
 ·rename_i f
  have he:cB o.op=false:=by
   cases l:o.op<;>simp[l,sy]at f<;>rfl
  have Sk:∀ {a:FV},vD P o (qz E) lo g a lo->sn P [] false 0 o (qz E) lo g a:=fun h=>⟨h,fun h=>by cases h⟩
  split at h
  ·rename_i t x k
   obtain⟨a,h,b⟩:=BS k h;obtain⟨c,E',e,h⟩:=zm h;exact⟨E',lo,⟨g,a,j,c,e,.inr (.inl ⟨he,f,rfl,Sk b⟩)⟩,h⟩
  ·rename_i q d x k
   obtain⟨a,h,b⟩:=BN k h;obtain⟨c,E',e,h⟩:=zm h;exact⟨E',lo,⟨g,a,j,c,e,.inr (.inl ⟨he,f,rfl,Sk b⟩)⟩,h⟩
  ·rename_i t x i ok k
   obtain⟨r,h,m⟩:=qu h;obtain⟨s,h,n⟩:=qu h;obtain⟨a,h,b⟩:=Ve k m n h;obtain⟨c,E',e,h⟩:=zm h;exact⟨E',lo,⟨g,a,j,c,e,.inr (.inl ⟨he,f,rfl,Sk b⟩)⟩,h⟩
  exact h.elim
 rename_i f;split at h
 ·rename_i he
  split at h
  ·obtain⟨a,lo',h,p,b⟩:=QU h
   obtain⟨c,E',e,h⟩:=zm h;exact⟨E',lo',⟨none,a,j,c,e,.inl ⟨he,rfl,b,p.ok (fun h=>by cases h)⟩⟩,h⟩
  exact h.elim
 rename_i he;obtain⟨a,h,b⟩:=Vh h;obtain⟨c,E',e,h⟩:=zm h;exact⟨E',lo,⟨g,a,j,c,e,.inr (.inr ⟨he,f,rfl,b⟩)⟩,h⟩
def MQ (P:Program) (sl:List Nat) (t:TypeId) (lo:List AObj) (n0:Nat) (x:FV) (R:FV->Prop):Prop:=
 match x with
 | .ptr k off=>match Pd sl n0 k with
  | true=>rq P t lo (.ptr k off) R
  | false=>False
 | .hptr row=>rq P t [] (.hptr row) R
 | _=>False
def DP (P:Program) (sl:List Nat) (g:G) (t:TypeId) (lo:List AObj) (n0:Nat) (x key:FV) (ok:Bool) (R:FV->Prop):Prop:=
 match x with
 | .mref k=>match Pd sl n0 k with
  | true=>ry P g t lo (.mref k) key ok R
  | false=>False
 | _=>False
def MO (P:Program) (g:G) (src dst:TypeId) (x:FV) (R:FV->Prop):Prop:=
 match x with
 | .p p=>Vb P g src dst [] (.p p) R
 | .tsl k rows=>Vb P g src dst [] (.tsl k rows) R
 | _=>False
def NS (P:Program) (sl:List Nat) (n0 N:Nat) (all:List Oper) (o:Oper) (E:Env) (lo:List AObj) (R:Env->List AObj->Prop):Prop:=
 Zg all o E fun g=>
  match sy o.op with
  | true=>match o.op with
   | .load t x=>Si E g x fun x=>MQ P sl t lo n0 x fun v=>bT N o.dst (nE g v) E fun E=>R E lo
   | .convert s d x=>Si E g x fun x=>MO P g s d x fun v=>bT N o.dst (nE g v) E fun E=>R E lo
   | .lookup t x i ok=>Si E g x fun x=>Si E g i fun i=>DP P sl g t lo n0 x i ok fun v=>bT N o.dst (nE g v) E fun E=>R E lo
   | _=>False
  | false=>match cB o.op with
   | true=>match g with
    | none=>MP P o.op E lo fun v lo=>bT N o.dst v E fun E=>R E lo
    | some _=>False
   | false=>Mg P o.op E g fun v=>bT N o.dst (nE g v) E fun E=>R E lo
theorem dV {α:Type}:∀ {n:Nat} {l:List α} {a:α} {R:α->Prop},l[n]? =some a->R a->my n l R
 | 0,[],a,R,h,_=>by simp at h
 | 0,b::l,a,R,h,hr=>by simp at h; subst h; exact hr
 | n+1,[],a,R,h,_=>by simp at h
 | n+1,b::l,a,R,h,hr=>dV (n:=n) (l:=l) (by simpa using h) hr
theorem LZ {v:FV} {R:PV->Prop} (h:NY v R):∃ p,R p/\∀ R':PV->Prop,R' p->NY v R':=by
 unfold NY at h;split at h
 ·exact⟨_,h,fun R' a=>a⟩
 ·exact⟨_,h,fun R' a=>a⟩
 ·exact⟨_,h,fun R' a=>a⟩
 exact h.elim
theorem Cc:∀ {c:FV} {R:List PV->Prop},QO c R->∃ p,R p/\∀ R':List PV->Prop,R' p->QO c R':=by
 intro c
 induction c with
 | cap0=>intro R h; exact⟨_,h,fun R' d=>d⟩
 | cap a b _ ihb=>
  intro R h;simp only[QO]at h;obtain⟨p,h,hp⟩:=LZ h;obtain⟨f,h,e⟩:=ihb h;exact⟨_,h,fun R' d=>by simp only[QO]; exact hp _ (e _ d)⟩
 | _=>intro R h; simp[QO]at h
theorem Ma {v:FV} {R:PV->Prop} (h:BF v R):∃ p,R p/\∀ R':PV->Prop,R' p->BF v R':=by
 unfold BF at h;split at h
 ·exact⟨_,h,fun R' a=>a⟩
 ·exact⟨_,h,fun R' a=>a⟩
 ·exact⟨_,h,fun R' a=>a⟩
 ·obtain⟨c,h,b⟩:=Cc h
  exact⟨_,h,fun R' a=>b _ a⟩
 ·obtain⟨c,h,b⟩:=Cc h
  exact⟨_,h,fun R' a=>b _ a⟩
 exact h.elim
theorem HW {P:Program} {t:TypeId} {lo:List AObj} {k off:Nat} {R:FV->Prop} (h:rq P t lo (.ptr k off) R) :
  ∃ z q,R z/\lo[k]? =some q/\q.boxy=true/\∀ e:List AObj,e[k]? =some q->rq P t e (.ptr k off) (fun v=>v=z):=by
 unfold rq at h;obtain⟨q,g,h⟩:=qV h;split at h
 ·rename_i bt cells
  obtain⟨h,f⟩:=vE h;obtain⟨d,i,u,w,h⟩:=xc h;have dropI:∀ {n:Nat} {l:List FV} {R:List FV->Prop},n<=l.length->R (l.drop n)->rP n l R:=by
   intro n
   induction n with
   | zero=>intro l R _ h; simpa[rP]using h
   | succ n ih=>
    intro l R o h;cases l with
    | nil=>simp at o
    | cons a l=>exact ih (by simpa using o) (by simpa using h)
  have takeI:∀ {n:Nat} {l:List FV} {R:List FV->Prop},n<=l.length->R (l.take n)->Qi n l R:=by
   intro n
   induction n with
   | zero=>intro l R _ h; simpa[Qi]using h
   | succ n ih=>
    intro l R o h;cases l with
    | nil=>simp at o
    | cons a l=>exact ih (l:=l) (R:=fun l=>R (a::l)) (by simpa using o) (by simpa using h)
  have frzI:∀ {l:List FV} {R:List PV->Prop},BG l R->∃ s,R s/\∀ R',R' s->BG l R':=by
   intro l
   induction l with
   | nil=>intro R h; exact⟨[],h,fun R' h=>h⟩
   | cons v l ih=>
    intro R h;simp only[BG]at h;obtain⟨p,h,x⟩:=Ma h;obtain⟨s,h,hp⟩:=ih h;exact⟨_,h,fun R' B=>by simp only[BG]; exact x _ (hp _ B)⟩
  have typeI:∀ {R:Bool->Nat->Prop},R (LQ d) i.size->cF P t R:=by
   intro R h;unfold cF;simp only[u,w];exact h
  split at h
  ·rename_i b
   obtain⟨h,A⟩:=uS h;split at h
   ·rename_i j
    refine⟨_,_,h,g,rfl,fun e m=>?_⟩;unfold rq;refine dV m (dropI f (typeI ?_));rw[b];refine takeI A ?_;rw[j]
   rename_i j;obtain⟨s,h,y⟩:=frzI h;refine⟨_,_,h,g,rfl,fun e m=>?_⟩;unfold rq;refine dV m (dropI f (typeI ?_));rw[b];refine takeI A ?_;rw[j];exact y _ rfl
  rename_i b;split at h
  ·rename_i c r C
   refine⟨_,_,h,g,rfl,fun e m=>?_⟩;unfold rq;refine dV m (dropI f (typeI ?_));rw[b];simp only[C]
  exact h.elim
 ·rename_i bt c
  split at h
  ·rename_i D
   obtain⟨d,i,u,w,h⟩:=xc h;split at h
   ·exact h.elim
   rename_i b;refine⟨_,_,h,g,rfl,fun e m=>?_⟩;unfold rq;refine dV m ?_;simp only[D];unfold cF;simp only[u,w,b]
  exact h.elim
 exact h.elim
theorem BT {P:Program} {g:G} {t:TypeId} {lo:List AObj} {k:Nat} {key:FV} {ok:Bool} {R:FV->Prop} (h:ry P g t lo (.mref k) key ok R) :
  ∃ r j,R r/\lo[k]? =some j/\j.boxy=true/\∀ e:List AObj,e[k]? =some j->ry P g t e (.mref k) key ok (fun v=>v=r):=by
 cases key<;>simp only[ry]at h;rename_i kp;obtain⟨j,m,h⟩:=qV h;split at h
 ·rename_i d es mk
  have mapI:∀ {R:TypeId->Prop},MT P t d kp R->∃ c,R c/\∀ R':TypeId->Prop,R' c->MT P t d kp R':=by
   intro R h;unfold MT at h;split at h
   ·rename_i C c w
    split at h
    ·rename_i s x
     have keyI:∀ {R:Prop},BY s d kp R->R/\∀ R':Prop,R'->BY s d kp R':=by
      intro R h;unfold BY at h;split at h
      ·exact⟨h,fun R' a=>a⟩
      ·exact⟨h,fun R' a=>a⟩
      ·split at h
       ·rename_i n
        split at h
        ·rename_i o
         refine⟨h,fun R' a=>?_⟩;simp only[BY,n,o];exact a
        exact h.elim
       exact h.elim
      exact h.elim
     obtain⟨h,y⟩:=keyI h;refine⟨c,h,fun R' a=>?_⟩;unfold MT;simp only[w,x];exact y _ a
    exact h.elim
   exact h.elim
  have zeroI:∀ {c:TypeId} {R:PV->Prop},Bc P c R->∃ z,R z/\∀ R':PV->Prop,R' z->Bc P c R':=by
   intro c R h;have vsI:∀ {vs:List Value} {R:List PV->Prop},Dg vs R->∃ l,R l/\∀ R':List PV->Prop,R' l->Dg vs R':=by
    intro vs
    induction vs with
    | nil=>intro R h; exact⟨[],h,fun R' h=>h⟩
    | cons v vs ih=>
     intro R h;simp only[Dg]at h;split at h
     ·rename_i p hp
      obtain⟨l,h,f⟩:=ih h;refine⟨_,h,fun R' a=>?_⟩;simp only[Dg,hp];exact f _ a
     exact h.elim
   unfold Bc at h;split at h
   ·rename_i i u
    split at h
    ·rename_i vs hz
     obtain⟨l,h,f⟩:=vsI h;refine⟨_,h,fun R' a=>?_⟩;unfold Bc;simp only[u,hz];exact f _ a
    ·rename_i v A hz
     split at h
     ·rename_i p hp
      refine⟨_,h,fun R' a=>?_⟩;unfold Bc;simp only[u,hz,hp];exact a
     exact h.elim
    exact h.elim
   exact h.elim
  obtain⟨c,h,n⟩:=mapI h;obtain⟨z,h,o⟩:=zeroI h;obtain⟨v,b,q,h⟩:=h;refine⟨_,_,h,m,rfl,fun e B=>?_⟩;simp only[ry];exact dV B (n _ (o _ ⟨v,b,q,rfl⟩))
 exact h.elim
theorem CG {α:Type} {R R':α->Prop} (h:∀ a,R a->R' a):∀ {n:Nat} {l:List α},my n l R->my n l R'
 | 0,[],x=>x
 | 0,a::_,x=>h a x
 | n+1,[],x=>x
 | n+1,_::l,x=>CG h (n:=n) (l:=l) x
theorem CS {α:Type}:∀ {n:Nat} {x:α} {l:List α} {R R':List α->Prop},(∀ a,R a->R' a)->tH n x l R->tH n x l R'
 | 0,x,[],_,_,_,y=>y
 | 0,x,_::l,_,_,h,y=>h _ y
 | n+1,x,[],_,_,_,y=>y
 | n+1,x,a::l,R,R',h,y=>CS (n:=n) (x:=x) (l:=l) (R:=fun l=>R (a::l)) (R':=fun l=>R' (a::l)) (fun _=>h _) y
theorem Eb {α:Type}:∀ {n:Nat} {x:α} {l:List α} {R:List α->Prop},tH n x l R->tH n x l (fun b=>R b/\b.length=l.length/\∀ j,j≠n->b[j]? =l[j]?)
 | 0,x,[],_,h=>h
 | 0,x,_::l,_,h=>⟨h,by simp,fun j c=>by cases j with|zero=>exact absurd rfl c|succ j=>simp⟩
 | n+1,x,[],_,h=>h
 | n+1,x,a::l,R,h=>by
  have d:tH n x l (fun l=>R (a::l)):=h
  refine CS (n:=n) (x:=x) (l:=l) (R':=fun b=>R (a::b)/\(a::b).length=(a::l).length/\∀ j,j≠n+1->(a::b)[j]? =(a::l)[j]?) ?_ (Eb d)
  rintro b ⟨e,f,c⟩;refine⟨e,by simp[f],fun j g=>?_⟩;cases j with
  | zero=>simp
  | succ j=>simpa using c j (by omega)
theorem sM:∀ {off:Nat} {vs old:List FV} {R R':List FV->Prop},(∀ a,R a->R' a)->sB off vs old R->sB off vs old R'
 | 0,[],old,_,_,h,y=>by cases old<;>exact h _ y
 | 0,v::vs,[],_,_,_,y=>y
 | 0,v::vs,_::old,R,R',h,y=>sM (off:=0) (vs:=vs) (old:=old) (R:=fun l=>R (v::l)) (R':=fun l=>R' (v::l)) (fun _=>h _) y
 | n+1,vs,[],_,_,_,y=>by cases vs<;>exact y
 | n+1,vs,a::old,R,R',h,y=>by
  cases vs with
  | nil=>exact sM (off:=n) (vs:=[]) (old:=old) (R:=fun l=>R (a::l)) (R':=fun l=>R' (a::l)) (fun _=>h _) y
  | cons v vs=>exact sM (off:=n) (vs:=v::vs) (old:=old) (R:=fun l=>R (a::l)) (R':=fun l=>R' (a::l)) (fun _=>h _) y
theorem CC:∀ {cs:List PV} {R R':List FV->Prop},(∀ a,R a->R' a)->Mk cs R->Mk cs R'
 | [],_,_,h,y=>h _ y
 | c::cs,R,R',h,y=>CC (cs:=cs) (R:=fun l=>R (.p c::l)) (R':=fun l=>R' (.p c::l)) (fun _=>h _) y
theorem XT:∀ {c:FV} {R R':List FV->Prop},(∀ a,R a->R' a)->bN c R->bN c R'
 | .cap0,_,_,h,y=>h _ y
 | .cap a b,R,R',h,y=>XT (c:=b) (R:=fun l=>R (a::l)) (R':=fun l=>R' (a::l)) (fun _=>h _) y
 | .top,_,_,_,y|.p _,_,_,_,y|.opt ..,_,_,_,y|.tsl ..,_,_,_,y|.ptr ..,_,_,_,y|.hptr _,_,_,_,y|.bself _,_,_,_,y|.bsl ..,_,_,_,y|.vsl ..,_,_,_,y|.eptr ..,_,_,_,y|.mref _,_,_,_,y|.pair ..,_,_,_,y|.stmp _,_,_,_,y|.clo ..,_,_,_,y|.fagg _,_,_,_,y|.nxt ..,_,_,_,y=>by simp[bN]at y
theorem By {v:FV} {R R':List FV->Prop} (h:∀ a,R a->R' a) (y:su v R):su v R':=by
 unfold su at *;split at y
 ·exact CC h y
 ·exact XT h y
 split at y
 ·exact h _ y
 exact y.elim
theorem Cx {α:Type}:∀ {l:List α} {n:Nat} {R R':Nat->Prop},(∀ a,R a->R' a)->sL l n R->sL l n R'
 | [],n,_,_,h,y=>h _ y
 | _::l,n,R,R',h,y=>Cx (l:=l) (n:=n+1) h y
theorem EG {P:Program} {t:TypeId} {R R':Bool->Nat->Prop} (h:∀ a b,R a b->R' a b) (y:cF P t R):cF P t R':=by
 unfold cF at *;split at y
 ·split at y
  ·exact h _ _ y
  exact y.elim
 exact y.elim
theorem Uv {P:Program} {t:TypeId} {a x:Operand} {E:Env} {lo:List AObj} {R:FV->List AObj->Prop} {k off:Nat} (ha:Sf (qz E) a=.ptr k off) (h:MP P (.store t a x) E lo R) :
  MP P (.store t a x) E lo (fun v lo'=>R v lo'/\lo'.length=lo.length/\∀ j,j≠k->lo'[j]? =lo[j]?):=by
 simp only[MP,Si,XW,ha]at h ⊢;have main:∀ v:FV,(su v fun vs=>match tW vs with
   | true=>sL vs 0 fun n=>cF P t fun _ m=>match Nat.beq n m with
    | true=>my k lo fun o=>match o with
     | .box bt cells=>sB off vs cells fun cells=>tH k (.box bt cells) lo fun lo=>R (.p (.tup [])) lo
     | _=>False
    | false=>False
   | false=>False)->(su v fun vs=>match tW vs with
   | true=>sL vs 0 fun n=>cF P t fun _ m=>match Nat.beq n m with
    | true=>my k lo fun o=>match o with
     | .box bt cells=>sB off vs cells fun cells=>tH k (.box bt cells) lo fun lo'=>R (.p (.tup [])) lo'/\lo'.length=lo.length/\∀ j,j≠k->lo'[j]? =lo[j]?
     | _=>False
    | false=>False
   | false=>False):=fun v h=>by
  refine By (fun vs h=>?_) h;split at h
  ·refine Cx (fun n h=>?_) h
   refine EG (fun _ m h=>?_) h;split at h
   ·refine CG (fun o h=>?_) h
    split at h
    ·refine sM (fun cells h=>?_) h
     exact Eb h
    exact h.elim
   exact h.elim
  exact h.elim
 split at h
 ·exact⟨h.1,main _ h.2⟩
 exact main _ h
def BW (P:Program) (sl:List Nat) (n0:Nat) (t:TypeId) (a x:Operand) (E:Env) (lo:List AObj) (R:FV->List AObj->Prop):Prop:=
 ev E a fun v=>match v with
  | .ptr k _=>match Qa sl (60000000+1000 * n0+k)with
   | true=>MP P (.store t a x) E lo R
   | false=>False
  | _=>False
theorem Cw {P:Program} {sl:List Nat} {o:Oper} {t:TypeId} {a x:Operand} (f:o.op=.store t a x) {m:Bool} {n0:Nat} {E:Env} {lo:List AObj} {R:FV->List AObj->Prop} (h:BW P sl n0 t a x E lo R) :
  ∃ b lo',R b lo'/\Bg sl m n0 o lo lo'/\vD P o (qz E) lo none b lo':=by
 unfold BW at h;simp only[XW]at h;split at h
 ·rename_i k off hv
  split at h
  ·rename_i g
   have d:=Uv hv h;rw[← f]at d;obtain⟨b,lo',⟨h,hlen,i⟩,_,j⟩:=QU d;refine⟨b,lo',h,fun _ l=>⟨by omega,fun _ k' n hp _=>?_⟩,j⟩;have c:k'≠k:=fun e=>by
    have:=(Fs hp).2;rw[e,g]at this;cases this
   rw[i k' c]
  exact h.elim
 exact h.elim
theorem EI {P:Program} {sl:List Nat} {n0 N:Nat} {all:List Oper} {o:Oper} {E:Env} {lo:List AObj} {R:Env->List AObj->Prop} (T:uG sl o=false) (h:NS P sl n0 N all o E lo R) :
  ∃ E' lo',ba P [] sl true n0 N all.toArray o (qz E) lo (qz E') lo'/\R E' lo':=by
 unfold NS at h;unfold ba;simp only[nS];obtain⟨g,q,h⟩:=cA h;split at h
 ·rename_i F
  have he:cB o.op=false:=by
   cases U:o.op<;>simp[U,sy]at F<;>rfl
  split at h
  ·rename_i t x G
   obtain⟨V,h,z⟩:=qu h;have sem:∀ {f:List AObj} {j:FV},rq P t f V (fun v=>v=j)->vD P o (qz E) f g j f:=by
    intro f j h;obtain⟨X,h,y⟩:=QW h;subst h;intro q Lw bs ρ H w eval s L;obtain⟨a,u,_,I,M⟩:=y bs ρ H w _ s (z ρ H _ q (L x (by simp[G,kd])));simp only[execOp,G];exact qM s I M
   unfold MQ at h;split at h
   ·rename_i k off
    split at h
    ·rename_i Y
     obtain⟨j,K,h,B,Z,m⟩:=HW h;obtain⟨A,E',C,h⟩:=zm h;refine⟨E',lo,⟨g,j,q,A,C,.inr (.inl ⟨he,F,rfl,sem (m lo B),fun _ _=>⟨some (k,K),fun k' J e=>?_,fun f O=>sem (m f (O k K rfl))⟩⟩)⟩,h⟩
     cases e;exact⟨Y,Z,B⟩
    exact h.elim
   ·rename_i row
    have h1:∃ j,(bT N o.dst (nE g j) E fun E=>R E lo)/\∀ f,rq P t f (.hptr row) (fun v=>v=j):=by
     unfold rq at h;obtain⟨d,i,A,hi,h⟩:=xc h;have typeI:∀ {R:Bool->Nat->Prop},R (LQ d) i.size->cF P t R:=by
      intro R h;unfold cF;simp only[A,hi];exact h
     split at h
     ·rename_i D
      obtain⟨h,hn⟩:=uS h;refine⟨_,h,fun f=>?_⟩;unfold rq;refine typeI ?_;rw[D];have takeI:∀ {n:Nat} {l:List PV} {R:List PV->Prop},n<=l.length->R (l.take n)->Qi n l R:=by
       intro n
       induction n with
       | zero=>intro l R _ h; simpa[Qi]using h
       | succ n ih=>
        intro l R F h;cases l with
        | nil=>simp at F
        | cons a l=>exact ih (l:=l) (R:=fun l=>R (a::l)) (by simpa using F) (by simpa using h)
      exact takeI hn rfl
     rename_i D;split at h
     ·rename_i c r
      refine⟨_,h,fun f=>?_⟩;unfold rq;refine typeI ?_;rw[D]
     exact h.elim
    obtain⟨j,h,m⟩:=h1;obtain⟨A,E',C,h⟩:=zm h;exact⟨E',lo,⟨g,j,q,A,C,.inr (.inl ⟨he,F,rfl,sem (m lo),fun _ _=>⟨none,fun k' J e=>(by cases e),fun f _=>sem (m f)⟩⟩)⟩,h⟩
   exact h.elim
  ·rename_i sr d x G
   obtain⟨V,h,z⟩:=qu h;have key:∃ j,(bT N o.dst (nE g j) E fun E=>R E lo)/\∀ f,vD P o (qz E) f g j f:=by
    unfold MO at h;split at h
    ·rename_i p
     obtain⟨j,h,y⟩:=tD h;refine⟨j,h,fun f q Lw bs ρ H w eval s L=>?_⟩;have s0:SatW { S:=Dw,w0:=w,H0:=H,r0:=[] } [] H [] w:={ sath:=s.sath,hlen:=rfl,pre:=jp _,objs:=fun k o v h=>by simp at h,excl:=fun k _ o _ v _ b h=>by simp at h,own:=fun k o v b h=>by simp at h,keep:=Keep.refl _ w,leH:=PH.le.refl H,newH:=fun b o v h=>.inl ⟨v,h⟩ }
     have rx:=z ρ H _ q (L x (by simp[G,kd]));obtain⟨u,I,M⟩:=y q _ [] H w _ s0 rx;simp only[execOp,G];exact qM s I (M.mono (List.nil_prefix) (PH.le.refl H))
    ·rename_i k rows
     have h':Vb P g sr d [] (.p (.sl rows)) fun v=>bT N o.dst (nE g v) E fun E=>R E lo:=h
     obtain⟨j,h,y⟩:=tD h';refine⟨j,h,fun f q Lw bs ρ H w eval s L=>?_⟩;have s0:SatW { S:=Dw,w0:=w,H0:=H,r0:=[] } [] H [] w:={ sath:=s.sath,hlen:=rfl,pre:=jp _,objs:=fun k o v h=>by simp at h,excl:=fun k _ o _ v _ b h=>by simp at h,own:=fun k o v b h=>by simp at h,keep:=Keep.refl _ w,leH:=PH.le.refl H,newH:=fun b o v h=>.inl ⟨v,h⟩ }
     have rx:=z ρ H _ q (L x (by simp[G,kd]));obtain⟨u,I,M⟩:=y q _ [] H w _ s0 rx.2;simp only[execOp,G];exact qM s I (M.mono (List.nil_prefix) (PH.le.refl H))
    exact h.elim
   obtain⟨j,h,y⟩:=key;obtain⟨A,E',C,h⟩:=zm h;exact⟨E',lo,⟨g,j,q,A,C,.inr (.inl ⟨he,F,rfl,y lo,fun _ _=>⟨none,fun k' J e=>(by cases e),fun f _=>y f⟩⟩)⟩,h⟩
  ·rename_i t x i ok G
   have h0:=qu h; clear h; obtain⟨V,h,z⟩:=h0;have h0:=qu h; clear h; obtain⟨i',h,hi'⟩:=h0;unfold DP at h;split at h
   ·rename_i k
    split at h
    ·rename_i Y
     obtain⟨j,K,h,B,Z,m⟩:=BT h;obtain⟨A,E',C,h⟩:=zm h;have sem:∀ {f:List AObj},f[k]? =some K->vD P o (qz E) f g j f:=by
      intro f O;obtain⟨X,e,y⟩:=Ve G z hi' (m f O);subst e;exact y
     refine⟨E',lo,⟨g,j,q,A,C,.inr (.inl ⟨he,F,rfl,sem B,fun _ _=>⟨some (k,K),fun k' J e=>?_,fun f O=>sem (O k K rfl)⟩⟩)⟩,h⟩
     cases e;exact⟨Y,Z,B⟩
    exact h.elim
   exact h.elim
  exact h.elim
 rename_i F;split at h
 ·rename_i he
  split at h
  ·obtain⟨j,lo',h,I,y⟩:=QU h
   obtain⟨A,E',C,h⟩:=zm h;exact⟨E',lo',⟨none,j,q,A,C,.inl ⟨he,rfl,y,I.ok (fun _=>T)⟩⟩,h⟩
  exact h.elim
 rename_i he;obtain⟨j,h,y⟩:=Vh h;obtain⟨A,E',C,h⟩:=zm h;exact⟨E',lo,⟨g,j,q,A,C,.inr (.inr ⟨he,F,rfl,y⟩)⟩,h⟩
section
variable {P:Program} {N:Nat} {ops:Array Oper} {Q:Exit->Act->World->Prop}
theorem HF {tmps:Array Value} {d:Nat} {b:Bool} (h:tmps.getD d undef=.bool b):tmps[d]? =some (.bool b):=by
 rw[jV]at h;cases a:tmps[d]? with
 | none=>simp[a,undef]at h
 | some v=>simp[a]at h; rw[h]
theorem Sat.put {bs:(Base Lw)} {ρ ρ':List Value} {H H':(PH Lw)} {e:Nat->FV} {lo lo':List AObj} {a:Act} {w w':World} {d:Option Tmp} {v:Value} {c:FV}
  (s:Sat bs N ρ H e lo a w) (f:ρ <+: ρ') (g:PH.le H H') (i:SatW bs ρ' H' lo' w') (j:∀ t,d=some t->t<N) (k:qD ρ' H' c v) :
  Sat bs N ρ' H' (upd e d c) lo' (a.put d v) w':=by
 refine{ i with slots:=fun t=>?_,width:=?_,defers:=?_ }
 ·cases d with
  | none=>exact(s.slots t).mono f g
  | some d=>
   have b:d<a.tmps.size:=by rw[s.width]; exact j d rfl
   simp only[upd,Act.put];by_cases h:t=d
   ·subst h
    simp[jV,b,k]
   simp only[h,if_false];have:=(s.slots t).mono f g
   rwa [show(a.tmps.setIfInBounds d v).getD t undef=a.tmps.getD t undef by
    rw[jV,jV,Array.getElem?_setIfInBounds_ne (Ne.symm h)]]
 ·cases d<;>simp[Act.put,s.width]
 cases d<;>exact s.defers
theorem VF {o:Oper} {e:Nat->FV} {g:G} {a:Act} (l:vI ops o e g) {ρ:List Value} {H:(PH Lw)} (p:∀ t,qD ρ H (e t) (a.tmps.getD t undef)) :
  Region.wanted o (yielded ops a.tmps)=g.getD true:=by
 unfold vI at l;unfold Region.wanted;split at l
 ·rename_i h; simp[h,l]
 rename_i j c h;obtain⟨oj,d,b,f,m,n⟩:=l;simp only[h];rcases n with ⟨he,rfl⟩|⟨q,he,rfl⟩
 ·have i:=p d
  rw[he]at i;have k:=HF (dR i);simp only[yielded,f,Option.bind_some,m,k];cases c<;>cases b<;>rfl
 ·have i:=p d
  rw[he]at i;cases q with
  | true=>
   have k:=HF (dR (ρ:=ρ) (H:=H) (b:=b) (by simpa only[qD,if_true]using i));simp only[yielded,f,Option.bind_some,m,k];cases c<;>cases b<;>rfl
  | false=>
   have k:a.tmps.getD d undef=undef:=by simpa[qD]using i
   have r:∀ b,a.tmps[d]? ≠some (.bool b):=fun b n=>by
    rw[jV,n]at k;simp[undef]at k
   have s:yielded ops a.tmps j=none:=by
    simp only[yielded,f,Option.bind_some,m]
    try (split<;>first|rfl|exact absurd (by assumption) (r _))
   rw[s];cases c<;>rfl
theorem ba.wp {bs:(Base Lw)} {ρ:List Value} {H:(PH Lw)} {o:Oper} {e y:Nat->FV} {lo lo':List AObj} {a:Act} {w:World} {K:Act->World->Prop} {i:Nat} (A:ops[i]? =some o)
  {inl:List Nat} {m:Bool} {n0:Nat} (st:ba P inl inl m n0 N ops o e lo y lo') (s:Sat bs N ρ H e lo a w) (l:∀ ρ' H' a' w',Sat bs N ρ' H' y lo' a' w'->K a' w'):wpOp P ops Q i K a w:=by
 obtain⟨g,k,B,z,rfl,d⟩:=st;unfold wpOp;simp only[A];rw[VF B s.slots];have sem:Sn g->Ca P bs ρ H k lo' ((execOp a.eval o).run P w):=by
  intro c;have p:=fun x (_:x∈o.op.operands)=>cz s.slots x
  rcases d with ⟨_,rfl,d,_⟩|⟨_,_,rfl,d⟩|⟨_,_,rfl,d⟩
  ·exact d c bs ρ H w a.eval s.toSatW p
  ·exact d.1 c bs ρ H w a.eval s.toSatW p
  exact d _ c bs ρ H w a.eval s.toSatW p
 have run:∀ j,(∀ (ρ':List Value) (H':PH Lw) (v:Value),qD ρ' H' k v->qD ρ' H' j v)->(∀ ρ' H' a' w',Sat bs N ρ' H' (upd e o.dst j) lo' a' w'->K a' w')->Sn g->o.wp P a w K Q:=by
  intro j C q c;have h:=sem c;have Sk:∀ v w',fW bs ρ H k lo' v w'->K (a.put o.dst v) w':=fun v w' ⟨ρ',H',t,D,E,F⟩=>q _ _ _ _ (s.put t D E z (C _ _ _ F))
  unfold Oper.wp;generalize (execOp a.eval o).run P w=r at *;cases r with
  | ok n w'=>
   cases n<;>simp only[Ca]at h<;>simp only[Oper.upon]
   case value v=>exact Sk v w' h
   case skip=>exact Sk undef w' h
   case enter f args=>exact h.mono fun I w'' ⟨v,G,t⟩=>by subst G; exact Sk v w'' t
  | halt x w'=>simp only[Ca]at h
 cases g with
 | none=>exact .inl (run k (fun _ _ _ h=>h) l trivial)
 | some b=>
  cases b with
  | true=>exact .inl (run _ (fun _ _ _ h=>by simpa[nE,qD]using h) l rfl)
  | false=>
   have u:lo'=lo:=by
    rcases d with ⟨_,h,_⟩|⟨_,_,h,_⟩|⟨_,_,h,_⟩
    ·cases h
    ·exact h
    exact h
   subst u;exact l _ _ _ _ (s.put (jp _) (PH.le.refl H) s.toSatW z (by simp[nE,qD]))
def gS (P:Program) (f:FuncId) (args:List FV) (lo:List AObj) (R:FV->List AObj->Prop):Prop:=
 ∀ ⦃Lw:Nat⦄ (bs:(Base Lw)) (ρ:List Value) (H:(PH Lw)) (w:World) (vs:List Value),SatW bs ρ H lo w->zk ρ H args vs ->
  match (callFunc f vs.toArray).run P w with
  | .ok (.value v) w'=>∃ r lo',fW bs ρ H r lo' v w'/\R r lo'
  | .ok (.enter f' args') w'=>w'=w/\Calls P f' args' w fun a w''=>∃ v r lo',a=.returned v/\fW bs ρ H r lo' v w''/\R r lo'
  | _=>False
theorem gS.mono {f:FuncId} {args:List FV} {lo:List AObj} {R R':FV->List AObj->Prop} (h:gS P f args lo R) (b:∀ r lo,R r lo->R' r lo):gS P f args lo R':=by
 intro Lw bs ρ H w vs s c;have:=h bs ρ H w vs s c;generalize (callFunc f vs.toArray).run P w=x at *;cases x with
 | ok n w'=>
  cases n<;>simp only at this ⊢ <;> try exact this
  ·obtain⟨r,lo',a,k⟩:=this; exact⟨r,lo',a,b _ _ k⟩
  exact⟨this.1,this.2.mono fun d w'' ⟨v,r,lo',e,a,k⟩=>⟨v,r,lo',e,a,b _ _ k⟩⟩
 | halt x w'=>exact this
def Hm (v:FV) (lo:List AObj) (no:Prop) (R:List AObj->Prop):Prop:=
 match v with
 | .ptr k off=>my k lo fun o=>match o with
  | .box T cells=>rP off cells fun cs=>match cs with
   | .bself j::_=>(sB off [.p .nilp] cells fun cells'=>tH k (.box T cells') lo R)/\(sB off [.ptr j 0] cells fun cells'=>tH k (.box T cells') lo R)
   | _=>no
  | _=>no
 | _=>no
theorem zk.over {ρ:List Value} {H:(PH Lw)}:∀ {cs:List FV} {vs:List Value} {off:Nat} {c:FV} {v:Value},zk ρ H cs vs->vs[off]? =some v->qD ρ H c v ->
  zk ρ H (cs.take off++[c]++cs.drop (off+1)) vs
 | [],vs,off,c,v,h,hv,r=>by simp only[zk]at h; subst h; simp at hv
 | d::cs,vs,0,c,v,h,hv,r=>by
  obtain⟨u,a,rfl,_,rs⟩:=h;simp only[jd,Option.some.injEq]at hv;subst hv;simpa using⟨u,a,rfl,r,rs⟩
 | d::cs,vs,off+1,c,v,h,hv,r=>by
  obtain⟨u,a,rfl,b,rs⟩:=h;have:=rs.over (off:=off) (c:=c) (v:=v) (by simpa using hv) r;have e:(d::cs).drop (off+1+1)=cs.drop (off+1):=rfl;rw[List.take_succ_cons,e,List.cons_append,List.cons_append];exact⟨u,a,rfl,b,this⟩
theorem SatW.rebox {bs:(Base Lw)} {ρ:List Value} {H:(PH Lw)} {lo:List AObj} {w:World} {k:Nat} {T:TypeId} {cells cells':List FV} (s:SatW bs ρ H lo w) (g:lo[k]? =some (.box T cells))
  (h:∀ vs,zk ρ H cells vs->ρ[k]? ≠none->(∃ b,ρ[k]? =some (.pointer (some ⟨b,0,none⟩))/\w.heap[b]? =some (.cells vs.toArray T (0,0)))->zk ρ H cells' vs):SatW bs ρ H (lo.set k (.box T cells')) w where
 sath:=s.sath
 hlen:=by simpa using s.hlen
 pre:=s.pre
 objs:=fun i o v a hv=>by
  rw[jF]at a;split at a
  ·rename_i e
   subst e;split at a
   ·cases a
    obtain⟨b,vs,rfl,p,q,r⟩:=s.objs _ _ _ g hv;exact⟨b,vs,rfl,p,h vs q (by rw[hv]; simp) ⟨b,hv,p⟩,r⟩
   cases a
  ·exact s.objs i o v a hv
 excl:=fun i j o o' v v' b a t hv l m c n d=>by
  have key:∀ {i:Nat} {o:AObj},(lo.set k (.box T cells'))[i]? =some o->o.live=true->∃ f,lo[i]? =some f/\f.live=true:=by
   intro i o a c;rw[jF]at a;split at a
   ·rename_i e; subst e; exact⟨_,g,rfl⟩
   exact⟨o,a,c⟩
  obtain⟨f,u,l2⟩:=key a c;obtain⟨x,y,z⟩:=key t n;exact s.excl i j f x v v' b u y hv l m l2 z d
 own:=fun i o v b a hv c d=>by
  rw[jF]at a;split at a
  ·rename_i e; subst e; exact s.own _ _ v b g hv rfl d
  exact s.own i o v b a hv c d
 keep:=s.keep
 leH:=s.leH
 newH:=s.newH
theorem Bx {bs:(Base Lw)} {ρ:List Value} {H:(PH Lw)} {e:Nat->FV} {lo:List AObj} {a:Act} {w:World} {v:FV} {no:Prop} {R:List AObj->Prop} (h:Hm v lo no R) (s:Sat bs N ρ H e lo a w) :
  no\/∃ lo',R lo'/\Sat bs N ρ H e lo' a w:=by
 unfold Hm at h;split at h
 ·rename_i k off
  obtain⟨o,y,h⟩:=qV h;split at h
  ·rename_i T cells
   obtain⟨h,B⟩:=vE h;split at h
   ·rename_i j cs z
    have D:cells[off]? =some (.bself j):=by
     have:=congrArg (fun l=>l[0]?) z
     simpa using this
    obtain⟨m,n⟩:=h;obtain⟨m,_⟩:=dW m;obtain⟨n,_⟩:=dW n;obtain⟨m,_⟩:=zR m;obtain⟨n,_⟩:=zR n
    right
    have g:k<ρ.length:=by rw[s.hlen]; exact(jG.1 y).1
    obtain⟨b,vs,E,F,q,_⟩:=s.objs k _ _ y (jf g);have get:∀ {cs:List FV} {vs:List Value} {i:Nat} {c:FV},zk ρ H cs vs->cs[i]? =some c->∃ v,vs[i]? =some v/\qD ρ H c v:=by
     intro cs
     induction cs with
     | nil=>intro vs i c _ h; simp at h
     | cons d cs ih=>
      intro vs i c x h;obtain⟨v,G,rfl,r,rs⟩:=x;cases i with
      | zero=>simp at h; subst h; exact⟨v,by simp,r⟩
      | succ i=>simp at h; obtain⟨u,hu,I⟩:=ih rs h; exact⟨u,by simpa using hu,I⟩
    obtain⟨x,C,J,K,A⟩:=get q D;have uniq:∀ f,(∃ b,ρ[k]? =some (.pointer (some ⟨b,0,none⟩))/\w.heap[b]? =some (.cells f.toArray T (0,0)))->f=vs:=by
     rintro f ⟨L,e2,t⟩;rw[jf g,E]at e2;cases e2;rw[F]at t;have:=congrArg Array.toList (Obj.cells.inj (Option.some.inj t)).1;simpa using this.symm
    rcases A with rfl|rfl
    ·refine⟨_,m,{ (s.toSatW.rebox (cells':=cells.take off++[.p .nilp]++cells.drop (off+1)) y fun f r _ hw=>?_)with slots:=s.slots,width:=s.width,defers:=s.defers }⟩
     have:=uniq f hw;subst this;exact r.over C (by simp[qD,qp])
    refine⟨_,n,{ (s.toSatW.rebox (cells':=cells.take off++[.ptr j 0]++cells.drop (off+1)) y fun f r _ hw=>?_)with slots:=s.slots,width:=s.width,defers:=s.defers }⟩;have:=uniq f hw;subst this;exact r.over C ⟨J,K,rfl⟩
   exact .inl h
  exact .inl h
 exact .inl h
def NX {α:Type}:List α->List α->(List α->Prop)->Prop
 | [],m,R=>R m
 | a::l,m,R=>NX l m fun l=>R (a::l)
theorem Vp {R R':List PV->Prop} (a:∀ l,R l->R' l):∀ {vs:List Value} ,Dg vs R->Dg vs R'
 | [],h=>a _ h
 | v::vs,h=>by
  unfold Dg at h ⊢;split at h
  ·exact Vp (R:=fun l=>R (_::l)) (R':=fun l=>R' (_::l)) (fun l b=>a _ b) h
  exact h.elim
theorem EL {t:TypeId} {R R':List PV->Prop} (a:∀ l,R l->R' l) (h:Fx P t R):Fx P t R':=by
 unfold Fx at h ⊢;split at h
 ·split at h
  ·exact Vp a h
  ·exact Vp a h
  exact h.elim
 exact h.elim
theorem En {t:TypeId} {R R':TypeId->Nat->Prop} (a:∀ e z,R e z->R' e z) (h:nR P t R):nR P t R':=by
 unfold nR at h ⊢;split at h
 ·split at h
  ·exact a _ _ h
  exact h.elim
 exact h.elim
theorem SatW.snocDead {bs:(Base Lw)} {ρ:List Value} {H:(PH Lw)} {lo:List AObj} {w:World} (s:SatW bs ρ H lo w):SatW bs (ρ++[undef]) H (lo++[.dead]) w where
 sath:=s.sath
 hlen:=by simp[s.hlen]
 pre:=s.pre.trans (List.prefix_append _ _)
 objs:=fun k o v a hv=>by
  rcases Nat.lt_or_ge k lo.length with h|h
  ·rw[jB h]at a
   rw[jB (by rw[s.hlen]; exact h)]at hv;exact pQ.keep (s.objs k o v a hv) (List.prefix_append _ _) (PH.le.refl H) (fun _ _ _=>rfl) (fun _ _ _ _ m=>m)
  rw[jC h]at a;have:o=.dead:=by
   have:=List.mem_of_getElem? a;simpa using this
  subst this
  trivial
 excl:=fun k k' o o' v v' b a c hv e g d f i=>by
  have live:∀ {k:Nat} {o:AObj},(lo++[AObj.dead])[k]? =some o->o.live=true->k<lo.length:=fun{k o} a d=>by
   rcases Nat.lt_or_ge k lo.length with h|h
   ·exact h
   rw[jC h]at a;have:o=.dead:=by
    have:=List.mem_of_getElem? a;simpa using this
   subst this;simp[AObj.live]at d
  have j:=live a d;have l:=live c f;rw[jB j]at a;rw[jB (by rw[s.hlen]; exact j)]at hv;rw[jB l]at c;rw[jB (by rw[s.hlen]; exact l)]at e;exact s.excl k k' o o' v v' b a c hv e g d f i
 own:=fun k o v b a hv d i=>by
  rcases Nat.lt_or_ge k lo.length with h|h
  ·rw[jB h]at a
   rw[jB (by rw[s.hlen]; exact h)]at hv;exact s.own k o v b a hv d i
  rw[jC h]at a;have:o=.dead:=by
   have:=List.mem_of_getElem? a;simpa using this
  subst this;simp[AObj.live]at d
 keep:=s.keep
 leH:=s.leH
 newH:=s.newH
def BU (P:Program) (all:List Oper) (o:Oper) (op:Op) (E:Env) (lo:List AObj) (no:Prop) (R:Bool->FV->List AObj->Prop):Prop:=
 match op with
 | .makeSlice t l c=>Zg all o E fun g=>match g with
  | some b=>Si E (some b) l fun l=>Si E (some b) c fun c=>match l with
   | .p (.int _ l)=>match c with
    | .p (.int _ c)=>nR P t fun e z=>match P.info? e with
     | some i=>Fx P e fun a=>∃ (n:Nat) (rows:List (List PV)),(b=true->l=n/\c=n/\n * i.bytes<=140737488355328/\n<=9223372036854775807)/\((List.replicate n a=rows\/Xf (List.replicate n a) rows)/\a.length=z/\z≠0/\a.all Fp=true) /\
       di lo .dead fun lo=>R b (.p (.sl rows)) lo
     | none=>False
    | _=>False
   | _=>False
  | none=>False
 | _=>no
theorem Ct {all:List Oper} {o:Oper} {op:Op} {E:Env} {lo:List AObj} {no:Prop} {R:Bool->FV->List AObj->Prop} (h:BU P all o op E lo no R) :
  no\/∃ t l c b a d,op=.makeSlice t l c/\vI all.toArray o (qz E) (some b)/\Sa (some b) (Sf (qz E) l) a/\Sa (some b) (Sf (qz E) c) d/\(∃ k,b=false->R b k (lo++[.dead]))/\(b=true->Cu P false true lo t a d (R b)):=by
 unfold BU at h;split at h
 ·rename_i t l c
  obtain⟨g,m,h⟩:=cA h;split at h
  ·rename_i b
   have f:=qu h; clear h; obtain⟨a,h,p⟩:=f;have f:=qu h; clear h; obtain⟨d,h,q⟩:=f;refine .inr ⟨t,l,c,b,a,d,rfl,m,p,q,?_,?_⟩
   ·split at h
    ·split at h
     ·obtain⟨e,i,_,j,h⟩:=zT h
      rw[j]at h;obtain⟨_,_,_,_,_,h,_⟩:=sQ h;obtain⟨n,rows,_,_,h⟩:=h;exact⟨_,fun _=>zf h⟩
     exact h.elim
    exact h.elim
   intro r;subst r;split at h
   ·split at h
    ·unfold Cu
     refine En (fun e z h=>?_) h;split at h
     ·rename_i i j
      simp only[j];refine EL (fun y h=>?_) h;obtain⟨n,rows,s,⟨u,v⟩,w⟩:=h;obtain⟨x,a2,a3,a4⟩:=s rfl;exact⟨n,rows,⟨x,a2,a3,a4,u,v⟩,w⟩
     exact h.elim
    exact h.elim
   exact h.elim
  exact h.elim
 exact .inl h
def NT (P:Program) (inl:List Nat) (N:Nat) (all:List Oper) (o:Oper) (E:Env) (lo:List AObj) (R:Env->List AObj->Prop):Prop:=
 match o.op with
 | .call { callee:=.value (.func f),args:=⟨xs⟩,argTypes:=_ }=>match Qa inl f with
  | true=>match o.guard with
   | none=>Sh E none xs fun vs=>gS P f vs lo fun r lo=>bT N o.dst r E fun E=>R E lo
   | some _=>Zg all o E fun g=>match g with
    | some b=>(b=true->Sh E (some b) xs fun vs=>gS P f vs lo fun r lo=>bT N o.dst (.opt b r) E fun E=>R E lo)/\(b=false->∃ v,bT N o.dst (.opt b v) E fun E=>R E lo)
    | none=>False
  | false=>Dn P N all o E lo R
 | .call { callee:=.value (.tmp t),args:=⟨xs⟩,argTypes:=_ }=>match Pl inl t with
  | true=>match o.guard with
   | none=>Si E none (.tmp t) fun a=>Sh E none xs fun vs=>match a with
    | .clo f c=>bN c fun cs=>NX vs cs fun vs=>gS P f vs lo fun r lo=>bT N o.dst r E fun E=>R E lo
    | .p (.fn f)=>gS P f vs lo fun r lo=>bT N o.dst r E fun E=>R E lo
    | _=>False
   | some _=>False
  | false=>Dn P N all o E lo R
 | .call { callee:=.builtin .len,args:=⟨[x]⟩,argTypes:=⟨[t]⟩ }=>ev E x fun v=>match v with
  | .mref k=>match o.guard with
   | none=>Nt P t lo (.mref k) fun v=>bT N o.dst v E fun E=>R E lo
   | some _=>False
  | _=>Dn P N all o E lo R
 | .buildSlice t n ⟨parts⟩=>match Ha inl o.dst with
  | true=>match o.guard with
   | none=>Ff P (RB inl o.dst) (HI inl o.dst) E lo t n parts fun v lo=>bT N o.dst v E fun E=>R E lo
   | some _=>False
  | false=>Dn P N all o E lo R
 | .convert sr d x=>match Ha inl o.dst with
  | true=>match o.guard with
   | none=>Si E none x fun x=>HQ P sr d lo x fun v lo=>bT N o.dst v E fun E=>R E lo
   | some _=>False
  | false=>Dn P N all o E lo R
 | .alloc t=>match Ha inl o.dst with
  | true=>match o.guard with
   | none=>Fa P t lo fun v lo=>bT N o.dst v E fun E=>R E lo
   | some _=>False
  | false=>Dn P N all o E lo R
 | .build t ⟨parts⟩=>match HI inl o.dst with
  | true=>match o.guard with
   | none=>Va P E none t parts fun v=>bT N o.dst v E fun E=>R E lo
   | some _=>False
  | false=>Dn P N all o E lo R
 | .load t x=>ev E x fun v=>match v with
  | .eptr k z i off=>match o.guard with
   | none=>UM P t lo k z i off fun v=>bT N o.dst v E fun E=>R E lo
   | some _=>False
  | .opt g' (.eptr k z i off)=>Zg all o E fun g=>match g with
   | some g=>(g=true->g'=true)/\Vd P g t lo k z i off fun v=>bT N o.dst (.opt g v) E fun E=>R E lo
   | none=>False
  | v=>Hm v lo (Dn P N all o E lo R) (fun lo'=>Dn P N all o E lo' R)
 | op=>match o.guard with
  | none=>Mf P inl o.dst op E lo (Dn P N all o E lo R) fun v lo=>bT N o.dst v E fun E=>R E lo
  | some _=>BU P all o op E lo (Dn P N all o E lo R) fun b v lo=>bT N o.dst (.opt b v) E fun E=>R E lo
def Eh (P:Program) (inl:List Nat) (N:Nat) (all:List Oper) (K:Env->List AObj->Prop):List Oper->Env->List AObj->Prop
 | [],E,lo=>K E lo
 | o::rest,E,lo=>NT P inl N all o E lo (Eh P inl N all K rest)
theorem sq {α:Type}:∀ {l m:List α} {R:List α->Prop},NX l m R->R (l++m)
 | [],m,R,h=>h
 | a::l,_,R,h=>sq (l:=l) (R:=fun l=>R (a::l)) h
theorem Dp {bs:(Base Lw)} {all:List Oper} {inl:List Nat} {o:Oper} {i:Nat} (Y:all[i]? =some o) {ρ:List Value} {H:(PH Lw)} {E:Env} {lo:List AObj} {a:Act} {w:World} {R:Env->List AObj->Prop} {K:Act->World->Prop}
  (s:Sat bs N ρ H (qz E) lo a w) (h:NT P inl N all o E lo R) (S:∀ E' lo' ρ' H' J w',R E' lo'->Sat bs N ρ' H' (qz E') lo' J w'->K J w'):wpOp P all.toArray Q i K a w:=by
 have plain:∀ lo,Sat bs N ρ H (qz E) lo a w->Dn P N all o E lo R->wpOp P all.toArray Q i K a w:=by
  intro lo s h;obtain⟨E',lo',st,h⟩:=CW h;exact st.wp (by simpa using Y) s fun ρ' H' J w' L=>S E' lo' ρ' H' J w' h L
 have D:all.toArray[i]? =some o:=by simpa using Y
 have Sk:∀ v w',(∃ r lo',fW bs ρ H r lo' v w'/\bT N o.dst r E fun E=>R E lo')->K (a.put o.dst v) w':=by
  rintro v w' ⟨r,lo',⟨ρ',H',U,Z,h3,h4⟩,hp⟩;obtain⟨F,E',G,V⟩:=zm hp;exact S E' lo' ρ' H' _ w' V (by rw[G]; exact s.put U Z h3 F h4)
 have value:o.guard=none->(∃ v w' r lo',(execOp a.eval o).run P w=.ok (.value v) w'/\fW bs ρ H r lo' v w'/\bT N o.dst r E fun E=>R E lo')->wpOp P all.toArray Q i K a w:=by
  rintro m ⟨v,w',r,lo',q,A,hp⟩;unfold wpOp;simp only[D,Region.wanted,m,if_true];refine .inl ?_;unfold Oper.wp;rw[q];simp only[Oper.upon];exact Sk v w' ⟨r,lo',A,hp⟩
 have calls:o.guard=none->∀ (f:FuncId) (vs:List FV) (us:List Value),zk ρ H vs us->(execOp a.eval o).run P w=(callFunc f us.toArray).run P w->(gS P f vs lo fun r lo=>bT N o.dst r E fun E=>R E lo)->wpOp P all.toArray Q i K a w:=by
  intro m f vs us T q h;have:=h bs ρ H w us s.toSatW T;unfold wpOp;simp only[D,Region.wanted,m,if_true];refine .inl ?_;unfold Oper.wp;rw[q];generalize (callFunc f us.toArray).run P w=x at *;cases x with
  | ok n w'=>
   cases n<;>simp only at this<;>simp only[Oper.upon]
   case value v=>exact Sk v w' this
   case enter f' args'=>
    obtain⟨rfl,B⟩:=this;exact B.mono fun en w'' ⟨v,r,lo',e,A,k⟩=>by subst e; exact Sk v w'' ⟨r,lo',A,k⟩
   all_goals exact this.elim
  | halt x w'=>exact this.elim
 unfold NT at h;split at h
 ·rename_i f xs ts j
  split at h
  ·rename_i hm
   split at h
   ·rename_i m
    obtain⟨vs,h,C⟩:=fS h;refine calls m f vs (xs.map a.eval) (C ρ H a.eval trivial (fun x _=>cz s.slots x)) ?_ h
    have M:a.eval (.func f)=.func (.func f) #[] #[]:=rfl;simp only[execOp,j,resolve,Deferred.ofValue,invoke,M,ka,kc,jZ,jY,Array.empty_append,Array.append_empty]
   obtain⟨g,m,h⟩:=cA h;split at h
   ·rename_i b
    unfold wpOp;simp only[D];rw[VF m s.slots];cases b with
    | true=>
     obtain⟨vs,h,C⟩:=fS (h.1 rfl);have T:=C ρ H a.eval rfl (fun x _=>cz s.slots x)
     have B:=h bs ρ H w _ s.toSatW T;refine .inl ?_;have fin2:∀ v w',(∃ r lo',fW bs ρ H r lo' v w'/\bT N o.dst (.opt true r) E fun E=>R E lo')->K (a.put o.dst v) w':=by
      rintro v w' ⟨r,lo',⟨ρ',H',U,Z,h3,h4⟩,hp⟩;exact Sk v w' ⟨.opt true r,lo',⟨ρ',H',U,Z,h3,by simpa[qD]using h4⟩,hp⟩
     unfold Oper.wp;have M:a.eval (.func f)=.func (.func f) #[] #[]:=rfl;simp only[execOp,j,resolve,Deferred.ofValue,invoke,M,ka,kc,jZ,jY,Array.empty_append,Array.append_empty];generalize (callFunc f (List.map a.eval xs).toArray).run P w=x at *;cases x with
     | ok n w'=>
      cases n<;>simp only at B<;>simp only[Oper.upon]
      case value v=>exact fin2 v w' B
      case enter f' args'=>
       obtain⟨rfl,B⟩:=B;exact B.mono fun en w'' ⟨v,r,lo',e,A,k⟩=>by subst e; exact fin2 v w'' ⟨r,lo',A,k⟩
      all_goals exact B.elim
     | halt x w'=>exact B.elim
    | false=>
     obtain⟨v,hp⟩:=h.2 rfl;obtain⟨F,E',G,V⟩:=zm hp;exact S E' lo ρ H _ w V (by rw[G]; exact s.put (jp _) (PH.le.refl H) s.toSatW F (by simp[qD]))
   exact h.elim
  exact plain lo s h
 ·rename_i t xs ts j
  split at h
  ·rename_i hm
   split at h
   ·rename_i m
    have p:=qu h; clear h; obtain⟨u,h,hfv⟩:=p;have p:=fS h; clear h; obtain⟨vs,h,C⟩:=p;have T:=C ρ H a.eval trivial (fun x _=>cz s.slots x)
    have rf:=hfv ρ H _ trivial (cz s.slots (.tmp t));split at h
    ·rename_i f c
     have p:=bO h; clear h; obtain⟨cs,h,hcs⟩:=p;have h:=sq h;obtain⟨us,M,rc⟩:=rf;refine calls m f _ (xs.map a.eval++us) (T.append (hcs _ _ _ rc)) ?_ h;simp only[execOp,j,resolve,Deferred.ofValue,invoke,M,ka,kc,jZ,jY,List.append_toArray,jt]
    ·rename_i f
     have M:a.eval (.tmp t)=.func (.func f) #[] #[]:=by simpa[qD,qp]using rf
     refine calls m f vs (xs.map a.eval) T ?_ h;simp only[execOp,j,resolve,Deferred.ofValue,invoke,M,ka,kc,jZ,jY,Array.empty_append,Array.append_empty]
    exact h.elim
   exact h.elim
  exact plain lo s h
 ·rename_i x t j
  rw[XW]at h;split at h
  ·rename_i k X
   split at h
   ·rename_i m
    have p:=Ew h; clear h; obtain⟨u,h,y⟩:=p;have rx:=cz s.slots x;rw[X]at rx;obtain⟨v,q,O⟩:=y bs ρ H w o.type _ s.toSatW rx;refine value m ⟨v,w,u,lo,?_,xC s.toSatW O,h⟩;simp only[execOp,j,resolve,invoke,builtin,ka,kc,jZ,jY,jk,jN,q]
   exact h.elim
  exact plain lo s h
 ·rename_i t n parts j
  split at h
  ·split at h
   ·rename_i m
    have p:=tY h; clear h; obtain⟨u,lo',h,_,y⟩:=p;obtain⟨v,w',q,A⟩:=y bs ρ H w a.eval s.toSatW (fun x _=>cz s.slots x)
    refine value m ⟨v,w',u,lo',?_,A,h⟩;simp only[execOp,j,jY,ka,q,jZ,kc]
   exact h.elim
  exact plain lo s h
 ·rename_i sr d x j
  split at h
  ·split at h
   ·rename_i m
    have p:=qu h; clear h; obtain⟨x',h,hx'⟩:=p;have p:=BM h; clear h; obtain⟨u,lo',h,y⟩:=p;obtain⟨v,w',q,A⟩:=y bs ρ H w _ s.toSatW (hx' ρ H _ trivial (cz s.slots x));refine value m ⟨v,w',u,lo',?_,A,h⟩;simp only[execOp,j,ka,q,jZ,kc]
   exact h.elim
  exact plain lo s h
 ·rename_i t j
  split at h
  ·split at h
   ·rename_i m
    obtain⟨u,lo',h,_,y⟩:=Zi h;obtain⟨v,w',q,A⟩:=y bs ρ H w s.toSatW;refine value m ⟨v,w',u,lo',?_,A,h⟩;simp only[execOp,j,ka,q,jZ,kc]
   exact h.elim
  exact plain lo s h
 ·rename_i t parts j
  split at h
  ·split at h
   ·rename_i m
    have p:=sz h; clear h; obtain⟨u,h,y⟩:=p;obtain⟨v,q,O⟩:=y trivial ρ H w a.eval (fun x _=>cz s.slots x)
    refine value m ⟨v,w,u,lo,?_,xC s.toSatW O,h⟩;simp only[execOp,j,jY,ka,q,jZ,kc]
   exact h.elim
  exact plain lo s h
 ·rename_i t x j
  rw[XW]at h;split at h
  ·rename_i k z i off X
   split at h
   ·rename_i m
    have p:=tE h; clear h; obtain⟨u,h,y⟩:=p;have rx:=cz s.slots x;rw[X]at rx;obtain⟨v,q,O⟩:=y bs ρ H w _ s.toSatW rx;refine value m ⟨v,w,u,lo,?_,xC s.toSatW O,h⟩;simp only[execOp,j,ka,q,jZ,kc]
   exact h.elim
  ·rename_i g' k z i' off X
   have p:=cA h; clear h; obtain⟨g,m,h⟩:=p;split at h
   ·rename_i g
    obtain⟨hgg,h⟩:=h;have p:=Zj h; clear h; obtain⟨u,h,y⟩:=p;obtain⟨F,E',G,h⟩:=zm h;have st:ba P [] [] false 0 N all.toArray o (qz E) lo (qz E') lo:=by
     refine⟨some g,u,m,F,G,.inr (.inl ⟨?_,?_,rfl,⟨fun I Lw bs ρ H w eval s hx=>?_,fun h=>by cases h⟩⟩)⟩
     ·rw[nS]; simp[j,cB]
     ·simp[j,sy]
     have I:g=true:=I;have rx:=hx x (by simp[j,kd]);rw[X]at rx;simp only[qD,hgg I,if_true]at rx;obtain⟨v,q,O⟩:=y I bs ρ H w _ s rx;simp only[execOp,j];exact qM s q O
    exact st.wp (by simpa using Y) s fun ρ' H' J w' L=>S E' lo ρ' H' J w' h L
   exact h.elim
  rcases Bx h s with h|⟨lo',h,L⟩
  ·exact plain lo s h
  exact plain lo' L h
 split at h
 ·rename_i m
  rcases UN h with h|⟨u,lo',h,he,hi,q,y⟩
  ·exact plain lo s h
  obtain⟨F,E',G,h⟩:=zm h;have st:ba P inl inl false 0 N all.toArray o (qz E) lo (qz E') lo':=
   ⟨none,u,by simp[vI,m],F,G,.inl ⟨(hi o inl rfl).1,rfl,y o rfl,fun h=>by cases h⟩⟩
  exact st.wp (by simpa using Y) s fun ρ' H' J w' L=>S E' lo' ρ' H' J w' h L
 rcases Ct h with h|⟨t,l,c,b,l',c',j,m,hl,B,p,U⟩
 ·exact plain lo s h
 unfold wpOp;simp only[D];rw[VF m s.slots];cases b with
 | true=>
  obtain⟨u,lo',h,_,y⟩:=Vf (U rfl);obtain⟨v,w',q,ρ',H',q1,q2,q3,q4⟩:=y bs ρ H w _ _ s.toSatW (hl ρ H _ rfl (cz s.slots l)) (B ρ H _ rfl (cz s.slots c));refine .inl ?_;unfold Oper.wp;simp only[execOp,j,ka,q,jZ,kc,Oper.upon];exact Sk v w' ⟨.opt true u,lo',⟨ρ',H',q1,q2,q3,by simpa[qD]using q4⟩,h⟩
 | false=>
  obtain⟨u,hp⟩:=p;obtain⟨F,E',G,V⟩:=zm (hp rfl);exact S E' (lo++[.dead]) (ρ++[undef]) H _ w V (by rw[G]; exact s.put (List.prefix_append _ _) (PH.le.refl H) s.toSatW.snocDead F (by simp[qD]))
theorem Zq {bs:(Base Lw)} {all:List Oper} {inl:List Nat} {K:Env->List AObj->Prop} (b:∀ ρ H E lo a w,Sat bs N ρ H (qz E) lo a w->K E lo->Q .normal a w) :
  ∀ (l:List Oper) (k:Nat),(∀ j,l[j]? =all[k+j]?)->∀ (ρ:List Value) (H:(PH Lw)) (E:Env) (lo:List AObj) (a:Act) (w:World),Sat bs N ρ H (qz E) lo a w->Eh P inl N all K l E lo ->
   wpOps P all.toArray Q (List.range' k l.length) a w
 | [],k,_,ρ,H,E,lo,a,w,s,h=>by
  simp only[jc,List.range'_zero,wpOps];exact b ρ H E lo a w s h
 | o::l,k,hl,ρ,H,E,lo,a,w,s,h=>by
  rw[ja,List.range'_succ,wpOps_cons];refine Dp (by have:=hl 0; simpa using this.symm) s h fun E' lo' ρ' H' c w' d e=>?_;exact Zq b l (k+1) (fun j=>by have:=hl (j+1); simpa[Nat.add_assoc,Nat.add_comm 1 j]using this) ρ' H' E' lo' c w' e d
theorem Uz {bs:(Base Lw)} {ρ:List Value} {H:(PH Lw)} {E:Env} {lo:List AObj} {a:Act} {w:World} {K:Env->List AObj->Prop} {inl:List Nat} {id:Nat} {l:List Oper}
  (b:∀ ρ H E lo a w,Sat bs N ρ H (qz E) lo a w->K E lo->Q .normal a w) (s:Sat bs N ρ H (qz E) lo a w) (h:Eh P inl N l K l E lo):(Code.region id l.toArray false).wp P Q a w:=by
 refine wp_region ?_;have:=Zq (P:=P) b l 0 (by simp) ρ H E lo a w s h;simpa[List.range_eq_range']using this
def Na (P:Program) (inl:List Nat) (m:Bool) (n0 N:Nat) (ops:Array Oper) (K:(Nat->FV)->List AObj->Prop):Nat->Array Bool->(Nat->FV)->List AObj->Prop
 | 0,listed,e,lo=>Region.ready .any ops listed=[]/\K e lo
 | fuel+1,listed,e,lo=>(Region.ready .any ops listed=[]->K e lo) /\
   ∀ i∈Region.ready .any ops listed,∃ o a lo',ops[i]? =some o/\ba P inl inl m n0 N ops o e lo a lo'/\Na P inl m n0 N ops K fuel (listed.setIfInBounds i true) a lo'
theorem dS {inl:List Nat} {m:Bool} {n0:Nat} {bs:(Base Lw)} {K:(Nat->FV)->List AObj->Prop} (b:∀ ρ H e lo a w,Sat bs N ρ H e lo a w->K e lo->Q .normal a w) :
  ∀ (fuel:Nat) (listed:Array Bool) (ρ:List Value) (H:(PH Lw)) (e:Nat->FV) (lo:List AObj) (a:Act) (w:World),Sat bs N ρ H e lo a w->Na P inl m n0 N ops K fuel listed e lo->wpAny P .any ops Q fuel listed a w
 | 0,_,ρ,H,e,lo,a,w,s,h=>⟨h.1,b ρ H e lo a w s h.2⟩
 | fuel+1,listed,ρ,H,e,lo,a,w,s,h=>⟨fun c=>b ρ H e lo a w s (h.1 c),fun i d=>by
  obtain⟨o,f,lo',g,st,j⟩:=h.2 i d;exact st.wp g s fun ρ' H' k w' l=>dS b fuel _ ρ' H' f lo' k w' l j⟩
theorem vD.congr {o:Oper} {e a:Nat->FV} {lo lo':List AObj} {g:G} {b:FV} (h:vD P o e lo g b lo') (he:∀ x∈o.op.operands,Sf a x=Sf e x):vD P o a lo g b lo':=
 fun c Lw bs ρ H w eval s d=>h c bs ρ H w eval s fun x hm=>by rw[← he x hm]; exact d x hm
theorem HA {e:Nat->FV} {d:Option Tmp} {v:FV} {o:Oper} (h:∀ t,d=some t->t ∉ o.looksAt ops):∀ x∈o.op.operands,Sf (upd e d v) x=Sf e x:=by
 intro x a;cases d with
 | none=>rfl
 | some d=>
  cases x with
  | tmp t=>
   have:t≠d:=fun b=>by
    subst b;exact h t rfl (List.mem_append_left _ (List.mem_filterMap.2 ⟨.tmp t,by simpa using a,rfl⟩))
   simp[Sf,upd,this]
  | _=>rfl
theorem Cm {e:Nat->FV} {d:Option Tmp} {v:FV} {o:Oper} {g:G} (h:∀ t,d=some t->t ∉ o.looksAt ops):vI ops o (upd e d v) g↔vI ops o e g:=by
 unfold vI;split
 ·exact Iff.rfl
 rename_i j k l;have key:∀ oj f,ops[j]? =some oj->oj.dst=some f->upd e d v f=e f:=by
  intro oj f a c;cases d with
  | none=>rfl
  | some d=>
   have:f≠d:=fun m=>by
    subst m;refine h f rfl (List.mem_append_right _ ?_);simp[l,a,c]
   simp[upd,this]
 constructor
 ·rintro⟨oj,f,b,a,c,i⟩
  rw[key oj f a c]at i;exact⟨oj,f,b,a,c,i⟩
 rintro⟨oj,f,b,a,c,i⟩;refine⟨oj,f,b,a,c,?_⟩;rw[key oj f a c];exact i
theorem MA {e:Nat->FV} {d a:Option Tmp} {v v':FV} (h:∀ t,d=some t->a≠some t):upd (upd e d v) a v'=upd (upd e a v') d v:=by
 cases d with
 | none=>rfl
 | some d=>
  cases a with
  | none=>rfl
  | some a=>
   have b:a≠d:=fun g=>h d rfl (by rw[g])
   funext t;simp only[upd];by_cases f:t=a
   ·have c:t≠d:=fun c=>b (by rw[← f,← c])
    simp[f,b]
   by_cases c:t=d
   ·have:¬ d=a:=fun i=>b i.symm
    simp[c,this]
   simp[f,c]
def Xb (inl:List Nat) (m:Bool) (oi oj:Oper):Bool:=!Hq inl m oi oj&&!Hq inl m oj oi
theorem sn.congr {sl:List Nat} {m:Bool} {n0:Nat} {o:Oper} {e b:Nat->FV} {lo:List AObj} {g:G} {c:FV} (h:sn P sl m n0 o e lo g c) (he:∀ x∈o.op.operands,Sf b x=Sf e x):sn P sl m n0 o b lo g c:=
 ⟨h.1.congr he,fun hm d=>let ⟨kk,h1,h2⟩:=h.2 hm d; ⟨kk,h1,fun a f=>(h2 a f).congr he⟩⟩
theorem sn.back {sl:List Nat} {m:Bool} {n0:Nat} {o n:Oper} {e:Nat->FV} {lo f:List AObj} {g:G} {p:FV} (h:sn P sl m n0 o e f g p) (hm:m=true) (t:n0<=lo.length) (he:Bg sl m n0 n lo f) (hmild:Fm sl n=true) (i:nC sl o=false):sn P sl m n0 o e lo g p:=by
 obtain⟨q,l,r⟩:=h.2 hm i;have u:=(he hm t).2 hmild;have s:∀ k d,q=some (k,d)->lo[k]? =some d:=fun k d j=>let ⟨a,b,c⟩:=l k d j; (u k d a b).2 c
 exact⟨r lo s,fun _ _=>⟨q,fun k d j=>⟨(l k d j).1,(l k d j).2.1,s k d j⟩,r⟩⟩
theorem sn.forth {sl:List Nat} {m:Bool} {n0:Nat} {o n:Oper} {e:Nat->FV} {lo d:List AObj} {g:G} {p:FV} (h:sn P sl m n0 o e lo g p) (hm:m=true) (t:n0<=lo.length) (he:Bg sl m n0 n lo d) (hmild:Fm sl n=true) (i:nC sl o=false):sn P sl m n0 o e d g p:=by
 obtain⟨q,l,r⟩:=h.2 hm i;have u:=(he hm t).2 hmild;have s:∀ k f,q=some (k,f)->d[k]? =some f:=fun k f j=>let ⟨a,b,c⟩:=l k f j; (u k f a b).1 c
 exact⟨r d s,fun _ _=>⟨q,fun k f j=>⟨(l k f j).1,(l k f j).2.1,s k f j⟩,r⟩⟩
theorem ba.grow {inl:List Nat} {m:Bool} {n0:Nat} {o:Oper} {e b:Nat->FV} {lo lo':List AObj} (st:ba P inl inl m n0 N ops o e lo b lo') (a:m=true->n0<=lo.length):m=true->n0<=lo'.length:=by
 intro hm;obtain⟨g,d,_,_,_,c⟩:=st;rcases c with ⟨_,_,_,he⟩|⟨_,_,rfl,_⟩|⟨_,_,rfl,_⟩
 ·exact(he hm (a hm)).1
 ·exact a hm
 exact a hm
theorem ba.swap {inl:List Nat} {m:Bool} {n0:Nat} {oi oj:Oper} {e z e2:Nat->FV} {lo t n:List AObj} (A:m=true->n0<=lo.length) (v:oi.apart ops oj=true) (o:Xb inl m oi oj=true)
  (g:ba P inl inl m n0 N ops oi e lo z t) (d:ba P inl inl m n0 N ops oj z t e2 n):∃ u p,ba P inl inl m n0 N ops oj e lo u p/\ba P inl inl m n0 N ops oi u p e2 n:=by
 obtain⟨B,a2,a3⟩:=Oper.apart_spec v;obtain⟨k,j,w,q,rfl,C⟩:=g;obtain⟨l,h,y,r,rfl,sj⟩:=d;have gj':=(Cm B).1 y;have gi':vI ops oi (upd e oj.dst (nE l h)) k:=(Cm a3).2 w;have ci:∀ x∈oi.op.operands,Sf (upd e oj.dst (nE l h)) x=Sf e x:=HA a3;have cj:∀ x∈oj.op.operands,Sf e x=Sf (upd e oi.dst (nE k j)) x:=fun x D=>(HA B x D).symm;have a:upd (upd e oi.dst (nE k j)) oj.dst (nE l h)=upd (upd e oj.dst (nE l h)) oi.dst (nE k j):=MA a2;simp only[Xb,Hq,ji,Bool.not_eq_true',Bool.and_eq_false_iff,Bool.or_eq_false_iff,Bool.not_eq_false']at o;rcases C with ⟨f,rfl,g,s⟩|⟨f,li,rfl,g⟩|⟨f,li,rfl,g⟩
 ·rcases sj with ⟨b,rfl,d,_⟩|⟨b,i,rfl,d⟩|⟨b,i,rfl,d⟩
  ·simp[f,b]at o
  ·
   have c:(m=true/\Fm inl oi=true)/\nC inl oj=false:=by simpa[f,b,i]using o
   exact⟨_,lo,⟨l,h,gj',r,rfl,.inr (.inl ⟨b,i,rfl,(d.congr cj).back c.1.1 (A c.1.1) s c.1.2 c.2⟩)⟩,⟨_,j,gi',q,a,.inl ⟨f,rfl,g.congr ci,s⟩⟩⟩
  exact⟨_,lo,⟨l,h,gj',r,rfl,.inr (.inr ⟨b,i,rfl,fun lo=>(d lo).congr cj⟩)⟩,⟨_,j,gi',q,a,.inl ⟨f,rfl,g.congr ci,s⟩⟩⟩
 ·rcases sj with ⟨b,rfl,d,s⟩|⟨b,i,rfl,d⟩|⟨b,i,rfl,d⟩
  ·have c:(m=true/\Fm inl oj=true)/\nC inl oi=false:=by simpa[f,b,li]using o
   exact⟨_,n,⟨_,h,gj',r,rfl,.inl ⟨b,rfl,d.congr cj,s⟩⟩,⟨k,j,gi',q,a,.inr (.inl ⟨f,li,rfl,(g.congr ci).forth c.1.1 (A c.1.1) s c.1.2 c.2⟩)⟩⟩
  ·exact⟨_,_,⟨l,h,gj',r,rfl,.inr (.inl ⟨b,i,rfl,d.congr cj⟩)⟩,⟨k,j,gi',q,a,.inr (.inl ⟨f,li,rfl,g.congr ci⟩)⟩⟩
  exact⟨_,_,⟨l,h,gj',r,rfl,.inr (.inr ⟨b,i,rfl,fun lo=>(d lo).congr cj⟩)⟩,⟨k,j,gi',q,a,.inr (.inl ⟨f,li,rfl,g.congr ci⟩)⟩⟩
 rcases sj with ⟨b,rfl,d,s⟩|⟨b,i,rfl,d⟩|⟨b,i,rfl,d⟩
 ·exact⟨_,n,⟨_,h,gj',r,rfl,.inl ⟨b,rfl,d.congr cj,s⟩⟩,⟨k,j,gi',q,a,.inr (.inr ⟨f,li,rfl,fun lo=>(g lo).congr ci⟩)⟩⟩
 ·exact⟨_,_,⟨l,h,gj',r,rfl,.inr (.inl ⟨b,i,rfl,d.congr cj⟩)⟩,⟨k,j,gi',q,a,.inr (.inr ⟨f,li,rfl,fun lo=>(g lo).congr ci⟩)⟩⟩
 exact⟨_,_,⟨l,h,gj',r,rfl,.inr (.inr ⟨b,i,rfl,fun lo=>(d lo).congr cj⟩)⟩,⟨k,j,gi',q,a,.inr (.inr ⟨f,li,rfl,fun lo=>(g lo).congr ci⟩)⟩⟩
def Xp (ops:Array Oper) (listed:Array Bool):Prop:=∀ (k:Nat) (ok:Oper),ops[k]? =some ok->listed.getD k false=true->∀ x∈ok.after,Region.binds .any x=true->listed.getD x.on false=true
theorem HG (l:Array Bool) (j k:Nat) (h:l.getD k false=true):(l.setIfInBounds j true).getD k false=true:=by
 rw[jV,Array.getElem?_setIfInBounds];split
 ·split<;>rename_i a b
  ·rfl
  rw[jV]at h; subst a; rw[Array.getElem?_eq_none (by omega)]at h; exact h
 rw[jV]at h; exact h
theorem Xp.set {ops:Array Oper} {listed:Array Bool} (h:Xp ops listed) {j:Nat} (i:j∈Region.ready .any ops listed):Xp ops (listed.setIfInBounds j true):=by
 obtain⟨_,oj,b,a⟩:=mem_ready.1 i;intro k ok c d x f g;refine HG _ _ _ ?_;by_cases e:k=j
 ·subst e
  have:ok=oj:=Option.some.inj (c.symm.trans b);subst this;exact a x f g
 refine h k ok c ?_ x f g;rw[getD_set_ne false (fun e2=>e e2.symm)]at d
 exact d
theorem Zo {ops:Array Oper} {listed:Array Bool} (h:Xp ops listed) {i:Nat}:∀ (f j:Nat) (oj:Oper),ops[j]? =some oj->(∀ x∈oj.after,Region.binds .any x=true->listed.getD x.on false=true)->sC ops i f j=true->listed.getD i false=true
 | 0,_,_,_,_,b=>by simp[sC]at b
 | f+1,j,oj,hj,ha,b=>by
  simp only[sC,hj,jO]at b;rcases b with b|b
  ·obtain⟨x,c,a⟩:=Array.any_eq_true'.1 b
   simp only[ji,beq_iff_eq]at a;rw[← a.2];exact ha x c a.1
  obtain⟨x,c,a⟩:=Array.any_eq_true'.1 b;simp only[ji]at a;cases he:ops[x.on]? with
  | none=>
   cases f with
   | zero=>simp[sC]at a
   | succ f=>simp[sC,he]at a
  | some ox=>exact Zo h f x.on ox he (fun y e d=>h x.on ox he (ha x c a.1) y e d) a.2
theorem UA {inl:List Nat} {m:Bool} {n0:Nat} {K:(Nat->FV)->List AObj->Prop} {i:Nat} {oi:Oper} (O:ops[i]? =some oi) :
  ∀ (fuel:Nat) (listed:Array Bool) (e s:Nat->FV) (lo b:List AObj),
   (∀ j oj,ops[j]? =some oj->j≠i->listed.getD j true=false->(∀ x∈oj.after,Region.binds .any x=true->x.on≠i)->sC ops i ops.size j=false->oi.apart ops oj=true/\Xb inl m oi oj=true) ->
   Xp ops listed->(m=true->n0<=lo.length)->i∈Region.ready .any ops listed->ba P inl inl m n0 N ops oi e lo s b ->
   Na P inl m n0 N ops K fuel (listed.setIfInBounds i true) s b->Na P inl m n0 N ops K (fuel+1) listed e lo:=by
 intro fuel
 induction fuel with
 | zero=>
  intro listed e s lo b _ _ _ g st H;refine⟨fun h=>(by rw[h]at g; cases g),fun j t=>?_⟩;by_cases a:j=i
  ·subst a; exact⟨oi,s,b,O,st,H⟩
  have:=ready_mono t a;rw[H.1]at this;cases this
 | succ fuel ih=>
  intro listed e s lo b hfree u R g st H;refine⟨fun h=>(by rw[h]at g; cases g),fun j t=>?_⟩;by_cases a:j=i
  ·subst a; exact⟨oi,s,b,O,st,H⟩
  obtain⟨oj,e2,D,f,E,c⟩:=H.2 j (ready_mono t a);obtain⟨l,d,v,n⟩:=mem_ready.1 t;have:d=oj:=Option.some.inj (v.symm.trans f);subst this;have w:∀ x∈d.after,Region.binds .any x=true->x.on≠i:=fun x he S F=>by
   have c:=n x he S;have y:=(mem_ready.1 g).1;rw[F]at c;rcases Nat.lt_or_ge i listed.size with q|q
   ·simp[q]at y c; rw[y]at c; cases c
   simp[Array.getElem?_eq_none q]at c
  have r:sC ops i ops.size j=false:=by
   cases G:sC ops i ops.size j with
   | false=>rfl
   | true=>
    have c:=Zo u _ j d f n G;have y:=(mem_ready.1 g).1;rcases Nat.lt_or_ge i listed.size with q|q
    ·simp[q]at y c; rw[y]at c; cases c
    simp[Array.getElem?_eq_none q]at c
  obtain⟨I,J⟩:=hfree j d f a l w r;obtain⟨z,o,p,A⟩:=ba.swap R I J st E;refine⟨d,z,o,f,p,ih (listed.setIfInBounds j true) z e2 o D (fun k ok T L B M r=>?_) (u.set (ready_mono t a |> fun _=>t)) (p.grow R) (ready_mono g (Ne.symm a)) A ?_⟩
  ·refine hfree k ok T L ?_ M r
   by_cases C:j=k
   ·subst C; exact l
   rw[getD_set_ne true C]at B; exact B
  rw[Array.setIfInBounds_comm _ _ a];exact c
theorem Zf {inl:List Nat} {m:Bool} {listed:Array Bool} {i:Nat} {oi:Oper} (f:ops[i]? =some oi) (h:Region.effFree inl m ops listed i=true) (j:Nat) (oj:Oper) (e:ops[j]? =some oj) (b:j≠i)
  (c:listed.getD j true=false) (d:sC ops i ops.size j=false):Xb inl m oi oj=true:=by
 simp only[Region.effFree,f,List.all_eq_true,List.mem_range]at h;have a:=h j (jH.1 e).1;simp only[e,jO,beq_iff_eq,b,false_or,c,jP]at a;rcases a with a|a
 ·exact a
 rw[d]at a; cases a
def Su (n0:Nat) (lo:List AObj) (R:Prop):Prop:=
 match n0 with
 | 0=>R
 | n0+1=>sL lo 0 fun n=>match Nat.ble (n0+1) n with
  | true=>R
  | false=>False
def VC (P:Program) (inl:List Nat) (m:Bool) (n0 N:Nat) (all:List Oper) (o:Oper) (E:Env) (lo:List AObj) (R:Env->List AObj->Prop):Prop:=
 match m with
 | false=>Dn P N all o E lo R
 | true=>NS P inl n0 N all o E lo R
def Ql (P:Program) (inl:List Nat) (m:Bool) (n0 N:Nat) (all:List Oper) (o:Oper) (E:Env) (lo:List AObj) (R:Env->List AObj->Prop):Prop:=
 match o.op with
 | .call { callee:=.value (.func f),args:=⟨xs⟩,argTypes:=_ }=>match Qa inl f with
  | true=>match o.guard with
   | none=>Sh E none xs fun vs=>match Qa inl (86000000+f)with
    | false=>∃ r lo',gS P f vs lo (fun a b=>a=r/\b=lo')/\Su n0 lo' (bT N o.dst r E fun E=>R E lo')
    | true=>∃ r l,gS P f vs lo (fun a b=>a=r/\b=lo++l)/\NX lo l fun lo'=>Su n0 lo' (bT N o.dst r E fun E=>R E lo')
   | some _=>False
  | false=>VC P inl m n0 N all o E lo R
 | .call { callee:=.value (.tmp t),args:=⟨xs⟩,argTypes:=_ }=>match Pl inl t with
  | true=>match o.guard with
   | none=>Si E none (.tmp t) fun d=>Sh E none xs fun vs=>match d with
    | .clo f c=>bN c fun cs=>NX vs cs fun vs=>match Qa inl (85000000+t)with
     | false=>∃ r lo',gS P f vs lo (fun a b=>a=r/\b=lo')/\Su n0 lo' (bT N o.dst r E fun E=>R E lo')
     | true=>∃ r l,gS P f vs lo (fun a b=>a=r/\b=lo++l)/\NX lo l fun lo'=>Su n0 lo' (bT N o.dst r E fun E=>R E lo')
    | _=>False
   | some _=>False
  | false=>VC P inl m n0 N all o E lo R
 | .buildSlice t n ⟨parts⟩=>match Ha inl o.dst with
  | true=>match o.guard with
   | none=>Ff P (RB inl o.dst) (HI inl o.dst) E lo t n parts fun v lo=>bT N o.dst v E fun E=>R E lo
   | some _=>False
  | false=>VC P inl m n0 N all o E lo R
 | .alloc t=>match Ha inl o.dst with
  | true=>match o.guard with
   | none=>Fa P t lo fun v lo=>bT N o.dst v E fun E=>R E lo
   | some _=>False
  | false=>VC P inl m n0 N all o E lo R
 | .convert _ _ _=>match Ha inl o.dst with
  | true=>False
  | false=>VC P inl m n0 N all o E lo R
 | .store t (.tmp a) x=>match Qa inl (50000000+a)with
  | true=>match o.guard with
   | none=>BW P inl n0 t (.tmp a) x E lo fun v lo=>bT N o.dst v E fun E=>R E lo
   | some _=>False
  | false=>VC P inl m n0 N all o E lo R
 | .load t x=>ev E x fun v=>match v with
  | .eptr k z i off=>match (match m with|false=>true|true=>nC inl o)with
   | true=>match o.guard with
    | none=>UM P t lo k z i off fun v=>bT N o.dst v E fun E=>R E lo
    | some _=>False
   | false=>False
  | .opt g' (.eptr k z i off)=>match (match m with|false=>true|true=>nC inl o)with
   | true=>Zg all o E fun g=>match g with
    | some g=>(g=true->g'=true)/\Vd P g t lo k z i off fun v=>bT N o.dst (.opt g v) E fun E=>R E lo
    | none=>False
   | false=>False
  | _=>VC P inl m n0 N all o E lo R
 | .build t ⟨parts⟩=>match HI inl o.dst with
  | true=>match o.guard with
   | none=>Va P E none t parts fun v=>bT N o.dst v E fun E=>R E lo
   | some _=>False
  | false=>VC P inl m n0 N all o E lo R
 | op=>match o.guard with
  | none=>Mf P inl o.dst op E lo (VC P inl m n0 N all o E lo R) fun v lo=>bT N o.dst v E fun E=>R E lo
  | some _=>VC P inl m n0 N all o E lo R
def CX (P:Program) (inl:List Nat) (m:Bool) (n0 N:Nat) (all:List Oper) (K:Env->List AObj->Prop):List Oper->Env->List AObj->Prop
 | [],E,lo=>K E lo
 | o::rest,E,lo=>Ql P inl m n0 N all o E lo (CX P inl m n0 N all K rest)
theorem Xd {n0:Nat} {lo:List AObj} {R:Prop} (h:Su n0 lo R):R/\n0<=lo.length:=by
 unfold Su at h;split at h
 ·exact⟨h,jR _⟩
 have h:=zh h;rw[jw]at h;split at h
 ·rename_i a; exact⟨h,jh a⟩
 exact h.elim
theorem ua {inl:List Nat} {m:Bool} {n0:Nat} {all:List Oper} {o:Oper} {E:Env} {lo:List AObj} {R:Env->List AObj->Prop} (F:m=false->n0=0) (h:Ql P inl m n0 N all o E lo R) :
  ∃ E' lo',ba P inl inl m n0 N all.toArray o (qz E) lo (qz E') lo'/\R E' lo':=by
 have plain:xJ inl o=cB o.op->uG inl o=false->(VC P inl m n0 N all o E lo R)->∃ E' lo',ba P inl inl m n0 N all.toArray o (qz E) lo (qz E') lo'/\R E' lo':=by
  intro e hst h;cases m with
  | false=>
   obtain rfl:=F rfl;obtain⟨E',lo',st,h⟩:=CW h;refine⟨E',lo',?_,h⟩;obtain⟨g,B,h1,h2,h3,h4⟩:=st;refine⟨g,B,h1,h2,h3,?_⟩;simp only[nS]at h4;simp only[e];rcases h4 with ⟨a,b,c,d⟩|⟨a,b,c,d⟩|h4
   ·exact .inl ⟨a,b,c,fun h=>by cases h⟩
   ·exact .inr (.inl ⟨a,b,c,d.1,fun h=>by cases h⟩)
   exact .inr (.inr h4)
  | true=>
   obtain⟨E',lo',st,h⟩:=EI hst h;refine⟨E',lo',?_,h⟩;unfold ba at st ⊢;simp only[nS]at st;simp only[e];exact st
 unfold Ql at h;split at h
 ·rename_i f xs K j
  split at h
  ·rename_i hm
   split at h
   ·rename_i q
    obtain⟨vs,h,S⟩:=fS h;have main:∀ r lo',gS P f vs lo (fun a b=>a=r/\b=lo')->Bg inl m n0 o lo lo'->(bT N o.dst r E fun E=>R E lo')->∃ E' lo',ba P inl inl m n0 N all.toArray o (qz E) lo (qz E') lo'/\R E' lo':=by
     intro r lo' G T h;obtain⟨u,E',y,h⟩:=zm h;refine⟨E',lo',⟨none,r,by simp[vI,q],u,y,.inl ⟨by simp[xJ,j,hm],rfl,?_,T⟩⟩,h⟩;intro _ Lw bs ρ H w eval s D;have rl:=S ρ H eval trivial (fun x U=>D x (by rw[j]; simp[kd,ke,U]))
     have:=G bs ρ H w _ s rl;have hf:eval (.func f)=.func (.func f) #[] #[]:=by
      have:=D (.func f) (by rw[j]; simp[kd,ke]);simpa[Sf,qD,qp]using this
     simp only[execOp,j,resolve,Deferred.ofValue,invoke,hf,ka,kc,jZ,jY,Array.empty_append,Array.append_empty];generalize (callFunc f (List.map eval xs).toArray).run P w=x at *;cases x with
     | ok n w'=>
      cases n<;>simp only at this<;>simp only[Ca]
      case value v=>
       obtain⟨r',V,I,rfl,rfl⟩:=this;exact I
      case enter f' args'=>
       obtain⟨rfl,X⟩:=this;exact X.mono fun en w'' ⟨v,r',V,e,I,e1,e2⟩=>by subst e1; subst e2; exact⟨v,e,I⟩
      all_goals exact this.elim
     | halt x w'=>exact this.elim
    split at h
    ·rename_i hb
     obtain⟨r,lo',G,h⟩:=h;obtain⟨h,C⟩:=Xd h;exact main r lo' G (fun _ _=>⟨C,fun hmild=>by simp[j,Vl,Fm,uG,hb]at hmild⟩) h
    obtain⟨r,l,G,h⟩:=h;have h:=sq h;obtain⟨h,C⟩:=Xd h;refine main r (lo++l) G (fun _ hn=>⟨C,fun _ k ob Y _=>?_⟩) h;rw[jB (Nat.lt_of_lt_of_le (Fs Y).1 hn)]
   exact h.elim
  rename_i hm;exact plain (by simp only[xJ,j,cB]; simpa using hm) (by simp[uG,j,hm]) h
 ·rename_i t xs K j
  split at h
  ·rename_i hm
   split at h
   ·rename_i q
    have F:=qu h; clear h; obtain⟨B,h,hfv⟩:=F;have F:=fS h; clear h; obtain⟨vs,h,S⟩:=F;split at h
    ·rename_i f c
     have F:=bO h; clear h; obtain⟨cs,h,hcs⟩:=F;have h:=sq h;have main:∀ r lo',gS P f (vs++cs) lo (fun a b=>a=r/\b=lo')->Bg inl m n0 o lo lo'->(bT N o.dst r E fun E=>R E lo')->∃ E' lo',ba P inl inl m n0 N all.toArray o (qz E) lo (qz E') lo'/\R E' lo':=by
      intro r lo' G T h;obtain⟨u,E',y,h⟩:=zm h;refine⟨E',lo',⟨none,r,by simp[vI,q],u,y,.inl ⟨by simp[xJ,j,hm],rfl,?_,T⟩⟩,h⟩;intro _ Lw bs ρ H w eval s D;have rl:=S ρ H eval trivial (fun x U=>D x (by rw[j]; simp[kd,ke,U]))
      have rf:=hfv ρ H (eval (.tmp t)) trivial (D (.tmp t) (by rw[j]; simp[kd,ke]));obtain⟨us,hf,rc⟩:=rf;have:=G bs ρ H w _ s (rl.append (hcs _ _ _ rc));simp only[execOp,j,resolve,Deferred.ofValue,invoke,hf,ka,kc,jZ,jY,List.append_toArray,jt];generalize (callFunc f (List.map eval xs++us).toArray).run P w=x at *;cases x with
      | ok n w'=>
       cases n<;>simp only at this<;>simp only[Ca]
       case value v=>
        obtain⟨r',V,I,rfl,rfl⟩:=this;exact I
       case enter f' args'=>
        obtain⟨rfl,X⟩:=this;exact X.mono fun en w'' ⟨v,r',V,e,I,e1,e2⟩=>by subst e1; subst e2; exact⟨v,e,I⟩
       all_goals exact this.elim
      | halt x w'=>exact this.elim
     split at h
     ·rename_i hb
      obtain⟨r,lo',G,h⟩:=h;obtain⟨h,C⟩:=Xd h;exact main r lo' G (fun _ _=>⟨C,fun hmild=>by simp[j,Vl,Fm,uG,hb]at hmild⟩) h
     obtain⟨r,l,G,h⟩:=h;have h:=sq h;obtain⟨h,C⟩:=Xd h;refine main r (lo++l) G (fun _ hn=>⟨C,fun _ k ob Y _=>?_⟩) h;rw[jB (Nat.lt_of_lt_of_le (Fs Y).1 hn)]
    exact h.elim
   exact h.elim
  rename_i hm;exact plain (by simp only[xJ,j,cB]; simpa using hm) (by simp[uG,j,hm]) h
 ·rename_i t n parts j
  split at h
  ·rename_i hown
   split at h
   ·rename_i q
    obtain⟨B,lo',h,A,p⟩:=tY h;obtain⟨u,E',y,h⟩:=zm h;have Z:Vl o.op=true:=by simp[j,Vl]
    refine⟨E',lo',⟨none,B,by simp[vI,q],u,y,.inl ⟨by simp[xJ,j,hown],rfl,?_,ze.ok (fun _=>by simp[uG,j]) (by rw[Z]; exact A)⟩⟩,h⟩
    intro _ Lw bs ρ H w eval s D;obtain⟨v,w',A,I⟩:=p bs ρ H w eval s (fun x hx'=>D x (by rw[j]; simpa[kd]using hx'))
    simp only[execOp,j,jY,ka,A,jZ,kc];exact I
   exact h.elim
  rename_i hm;exact plain (by simp only[xJ,j,cB]; simpa using hm) (by simp[uG,j]) h
 ·rename_i t j
  split at h
  ·split at h
   ·rename_i q
    obtain⟨B,lo',h,A,p⟩:=Zi h;obtain⟨u,E',y,h⟩:=zm h;have Z:Vl o.op=true:=by simp[j,Vl]
    refine⟨E',lo',⟨none,B,by simp[vI,q],u,y,.inl ⟨by simp[xJ,j,cB],rfl,?_,ze.ok (fun _=>by simp[uG,j]) (by rw[Z]; exact A)⟩⟩,h⟩
    intro _ Lw bs ρ H w eval s D;obtain⟨v,w',A,I⟩:=p bs ρ H w s;simp only[execOp,j,ka,A,jZ,kc];exact I
   exact h.elim
  exact plain (by simp[xJ,j]) (by simp[uG,j]) h
 ·rename_i sr d x j
  split at h
  ·exact h.elim
  rename_i hm;exact plain (by simp only[xJ,j,cB]; simpa using hm) (by simp[uG,j]) h
 ·rename_i t a x j
  split at h
  ·rename_i hs0
   split at h
   ·rename_i q
    obtain⟨B,lo',h,A,p⟩:=Cw (m:=m) (n0:=n0) j h;obtain⟨u,E',y,h⟩:=zm h;exact⟨E',lo',⟨none,B,by simp[vI,q],u,y,.inl ⟨by simp[xJ,j,cB],rfl,p,A⟩⟩,h⟩
   exact h.elim
  rename_i hm;exact plain (by simp[xJ,j]) (by simpa[uG,j]using hm) h
 ·rename_i t x j
  rw[XW]at h;split at h
  ·rename_i k z i off Y
   split at h
   ·rename_i J
    split at h
    ·rename_i q
     have F:=tE h; clear h; obtain⟨B,h,p⟩:=F;obtain⟨u,E',y,h⟩:=zm h;refine⟨E',lo,⟨none,B,by simp[vI,q],u,y,.inr (.inl ⟨by simp[xJ,j,cB],by simp[j,sy],rfl,⟨?_,fun hm p=>by rw[hm]at J; rw[show nC inl o=true from J]at p; cases p⟩⟩)⟩,h⟩
     intro _ Lw bs ρ H w eval s D;have rx:=D x (by simp[j,kd]);rw[Y]at rx;obtain⟨v,A,rv⟩:=p bs ρ H w _ s rx;simp only[execOp,j];exact qM s A rv
    exact h.elim
   exact h.elim
  ·rename_i g' k z i off Y
   split at h
   ·rename_i J
    have F:=cA h; clear h; obtain⟨g,q,h⟩:=F;split at h
    ·rename_i g
     obtain⟨hgg,h⟩:=h;have F:=Zj h; clear h; obtain⟨B,h,p⟩:=F;obtain⟨u,E',y,h⟩:=zm h;refine⟨E',lo,⟨some g,B,q,u,y,.inr (.inl ⟨by simp[xJ,j,cB],by simp[j,sy],rfl,⟨?_,fun hm p=>by rw[hm]at J; rw[show nC inl o=true from J]at p; cases p⟩⟩)⟩,h⟩
     intro L Lw bs ρ H w eval s D;have L:g=true:=L;have rx:=D x (by simp[j,kd]);rw[Y]at rx;simp only[qD,hgg L,if_true]at rx;obtain⟨v,A,rv⟩:=p L bs ρ H w _ s rx;simp only[execOp,j];exact qM s A rv
    exact h.elim
   exact h.elim
  exact plain (by simp[xJ,j]) (by simp[uG,j]) h
 ·rename_i t parts j
  split at h
  ·split at h
   ·rename_i q
    obtain⟨B,h,p⟩:=sz h;obtain⟨u,E',y,h⟩:=zm h;refine⟨E',lo,⟨none,B,by simp[vI,q],u,y,.inr (.inr ⟨by simp[xJ,j,cB],by simp[j,sy],rfl,?_⟩)⟩,h⟩;intro _ hg' Lw bs ρ H w eval s D;obtain⟨v,A,rv⟩:=p hg' ρ H w eval (fun x hx'=>D x (by rw[j]; simpa[kd]using hx'))
    simp only[execOp,j,jY];exact qM s A rv
   exact h.elim
  exact plain (by simp[xJ,j]) (by simp[uG,j]) h
 rename_i M O hne3 hne6 hne5 hne4 hne7 hne8;have e1:xJ inl o=cB o.op:=by
  unfold xJ;split
  ·rename_i f xs K j; exact absurd j (M f xs.toList K)
  ·rename_i f xs K j; exact absurd j (O f xs.toList K)
  ·rename_i t n parts j; exact absurd j (hne3 t n parts.toList)
  ·rename_i sr d x j; exact absurd j (hne5 sr d x)
  rfl
 have e2:uG inl o=false:=by
  unfold uG;split
  ·rename_i t a x j; exact absurd j (hne4 t a x)
  ·rename_i t xs K j; exact absurd j (O t xs.toList K)
  ·rename_i f xs K j; exact absurd j (M f xs.toList K)
  rfl
 split at h
 ·rename_i q
  rcases UN h with h|⟨B,lo',h,he,hi,A,p⟩
  ·exact plain e1 e2 h
  obtain⟨u,E',y,h⟩:=zm h;exact⟨E',lo',⟨none,B,by simp[vI,q],u,y,.inl ⟨(hi o inl rfl).1,rfl,p o rfl,ze.ok (fun _=>e2) A⟩⟩,h⟩
 exact plain e1 e2 h
theorem Dt {inl:List Nat} {m:Bool} {n0:Nat} (a:m=false->n0=0) {K:(Nat->FV)->List AObj->Prop} {K':Env->List AObj->Prop} {all:List Oper} (i:∀ E lo,K' E lo->K (qz E) lo) :
  ∀ (l:List Oper) (k:Nat) (listed:Array Bool) (E:Env) (lo:List AObj),(∀ j,l[j]? =all[k+j]?)->Xp all.toArray listed->(m=true->n0<=lo.length) ->
  Region.lexFrom .any all.toArray l.length k listed=true->Region.effFrom inl m all.toArray l.length k listed=true->CX P inl m n0 N all K' l E lo->Na P inl m n0 N all.toArray K l.length listed (qz E) lo
 | [],_,_,E,lo,_,_,_,hB,_,h=>⟨by simpa[Region.lexFrom]using hB,i E lo h⟩
 | o::l,k,listed,E,lo,hl,hcl,hn,hB,hF,h=>by
  have d:all.toArray[k]? =some o:=by have:=hl 0; simpa using this.symm
  simp only[ja,Region.lexFrom,Region.effFrom,ji]at hB hF;obtain⟨⟨n,q⟩,e⟩:=hB;obtain⟨E',lo',st,h⟩:=ua a h;refine UA d l.length listed (qz E) (qz E') lo lo' (fun j oj p b c f g=>⟨Region.free_spec d q j oj p b c f,Zf d hF.1 j oj p b c g⟩) hcl hn (by simpa using n) st ?_;exact Dt a i l (k+1) _ E' lo' (fun j=>by have:=hl (j+1); simpa[Nat.add_assoc,Nat.add_comm 1 j]using this) (hcl.set (by simpa using n)) (st.grow hn) e hF.2 h
theorem Qm {inl:List Nat} {c:Bool} {n0:Nat} {bs:(Base Lw)} {ρ:List Value} {H:(PH Lw)} {E:Env} {lo:List AObj} {a:Act} {w:World} {K:Env->List AObj->Prop} {id:Nat} {l:List Oper} (hm:P.follows .mixedOrders=true) (f:c=false->n0=0) (j:c=true->n0<=lo.length)
  (g:Ci inl c l.toArray=true) (n:∀ ρ H E lo a w,Sat bs N ρ H (qz E) lo a w->K E lo->Q .normal a w) (s:Sat bs N ρ H (qz E) lo a w) (h:CX P inl c n0 N l K l E lo):(Code.region id l.toArray true).wp P Q a w:=by
 simp only[Ci,Go.Region.lexB,ji]at g;have s':Sat bs N ρ H (qz E) lo a { w with drawn:=w.drawn+1 }:=by
  refine{ (s.toSatW.calm (H':=H) (w':={ w with drawn:=w.drawn+1 }) ⟨PH.le.refl H,⟨s.sath.cell,s.sath.root,s.sath.low,s.sath.nf⟩,⟨rfl,rfl,rfl,jv _,fun _ _ _=>rfl⟩,fun b o v h=>.inl ⟨v,h⟩⟩)with slots:=s.slots,width:=s.width,defers:=s.defers }
 refine wp_region_any hm (dS (inl:=inl) (m:=c) (n0:=n0) (K:=fun e lo=>∃ E,qz E=e/\K E lo) (fun ρ H e lo a w s ⟨E,p,d⟩=>n ρ H E lo a w (by rw[p]; exact s) d) _ _ ρ H (qz E) lo a _ s' ?_)
 have:=Dt (P:=P) (inl:=inl) (m:=c) (n0:=n0) (N:=N) f (K:=fun e lo=>∃ E,qz E=e/\K E lo) (K':=K) (fun E lo d=>⟨E,rfl,d⟩) l 0 (Array.replicate l.toArray.size false) E lo (by simp) (fun k ok d i=>by simp only[jV,Array.getElem?_replicate]at i; split at i<;>cases i) j (by simpa using g.1.2) (by simpa using g.2) h
 simpa using this
inductive Plan where
 | done
 | one (i:Nat) (p:Plan)
 | two (i:Nat) (p:Plan) (j:Nat) (q:Plan)
def Vt (inl:List Nat) (m:Bool) (ops:Array Oper):Plan->Nat->Array Bool->Bool
 | .done,0,l=>(Region.ready .any ops l).isEmpty
 | .one i p,f+1,l=>(Region.ready .any ops l).contains i&&Region.free .any ops l i&&Region.effFree inl m ops l i&&Vt inl m ops p f (l.setIfInBounds i true)
 | .two i p j q,f+1,l=>Region.ready .any ops l==[i,j]&&Vt inl m ops p f (l.setIfInBounds i true)&&Vt inl m ops q f (l.setIfInBounds j true)
 | _,_,_=>false
def CY (P:Program) (inl:List Nat) (m:Bool) (n0 N:Nat) (ops:List Oper) (K:Env->List AObj->Prop):Plan->Env->List AObj->Prop
 | .done,E,lo=>K E lo
 | .one i p,E,lo=>my i ops fun o=>Ql P inl m n0 N ops o E lo (CY P inl m n0 N ops K p)
 | .two i p j q,E,lo=>(my i ops fun o=>Ql P inl m n0 N ops o E lo (CY P inl m n0 N ops K p))/\(my j ops fun o=>Ql P inl m n0 N ops o E lo (CY P inl m n0 N ops K q))
theorem tI {inl:List Nat} {m:Bool} {n0:Nat} (a:m=false->n0=0) {K:(Nat->FV)->List AObj->Prop} {K':Env->List AObj->Prop} {all:List Oper} (n:∀ E lo,K' E lo->K (qz E) lo) :
  ∀ (p:Plan) (f:Nat) (listed:Array Bool) (E:Env) (lo:List AObj),Xp all.toArray listed->(m=true->n0<=lo.length) ->
  Vt inl m all.toArray p f listed=true->CY P inl m n0 N all K' p E lo->Na P inl m n0 N all.toArray K f listed (qz E) lo
 | .done,0,listed,E,lo,_,_,hB,h=>⟨by simpa[Vt]using hB,n E lo h⟩
 | .one i p,f+1,listed,E,lo,hcl,hn,hB,h=>by
  simp only[Vt,ji]at hB;obtain⟨⟨⟨b,x⟩,y⟩,r⟩:=hB;obtain⟨o,c,h⟩:=qV h;have s:all.toArray[i]? =some o:=by simpa using c
  obtain⟨E',lo',st,h⟩:=ua a h;refine UA s f listed (qz E) (qz E') lo lo' (fun j oj v d g t u=>⟨Region.free_spec s x j oj v d g t,Zf s y j oj v d g u⟩) hcl hn (by simpa using b) st ?_;exact tI a n p f _ E' lo' (hcl.set (by simpa using b)) (st.grow hn) r h
 | .two i p j q,f+1,listed,E,lo,hcl,hn,hB,h=>by
  simp only[Vt,ji,beq_iff_eq]at hB;obtain⟨⟨b,hp⟩,z⟩:=hB;refine⟨fun e=>(by rw[b]at e; cases e),fun k l=>?_⟩;have w:=hcl.set l;rw[b]at l;have l:k=i\/k=j:=by simpa using l
  rcases l with rfl|rfl
  ·obtain⟨o,c,h⟩:=qV h.1
   obtain⟨E',lo',st,h⟩:=ua a h;exact⟨o,_,_,by simpa using c,st,tI a n p f _ E' lo' w (st.grow hn) hp h⟩
  obtain⟨o,c,h⟩:=qV h.2;obtain⟨E',lo',st,h⟩:=ua a h;exact⟨o,_,_,by simpa using c,st,tI a n q f _ E' lo' w (st.grow hn) z h⟩
 | .done,_+1,_,_,_,_,_,hB,_=>by simp[Vt]at hB
 | .one ..,0,_,_,_,_,_,hB,_=>by simp[Vt]at hB
 | .two ..,0,_,_,_,_,_,hB,_=>by simp[Vt]at hB
def Vu (ops:Array Oper) (listed:Array Bool) (l:List Nat):Bool:=Region.ready .any ops listed==l
def GR (ops:Array Oper):Bool:=!(ops.size==4)||Vu ops #[false,false,false,false] [0]&&Vu ops #[true,false,false,false] [1,2]&&Vu ops #[true,true,false,false] [2]&&Vu ops #[true,false,true,false] [1] &&
 Vu ops #[true,true,true,false] [3]&&Vu ops #[true,true,true,true] []
def Fw (P:Program) (inl:List Nat) (N:Nat) (ops:List Oper) (K:Env->List AObj->Prop) (E:Env) (lo:List AObj):Prop:=
 match ops with
 | [o0,o1,o2,o3]=>Ql P inl false 0 N ops o0 E lo fun E lo=>
   Ql P inl false 0 N ops o1 E lo (fun E lo=>Ql P inl false 0 N ops o2 E lo (fun E lo=>Ql P inl false 0 N ops o3 E lo K)) /\
   Ql P inl false 0 N ops o2 E lo (fun E lo=>Ql P inl false 0 N ops o1 E lo (fun E lo=>Ql P inl false 0 N ops o3 E lo K))
 | ops=>∃ p:Plan,Vt inl true ops.toArray p ops.length (Array.replicate ops.length false)=true/\sL lo 0 fun n0=>CY P inl true n0 N ops K p E lo
theorem VD {inl:List Nat} {bs:(Base Lw)} {ρ:List Value} {H:(PH Lw)} {E:Env} {lo:List AObj} {a:Act} {w:World} {K:Env->List AObj->Prop} {id:Nat} {l:List Oper} (hm:P.follows .mixedOrders=true)
  (D:GR l.toArray=true) (F:∀ ρ H E lo a w,Sat bs N ρ H (qz E) lo a w->K E lo->Q .normal a w) (s:Sat bs N ρ H (qz E) lo a w) (h:Fw P inl N l K E lo):(Code.region id l.toArray true).wp P Q a w:=by
 have s':Sat bs N ρ H (qz E) lo a { w with drawn:=w.drawn+1 }:=by
  refine{ (s.toSatW.calm (H':=H) (w':={ w with drawn:=w.drawn+1 }) ⟨PH.le.refl H,⟨s.sath.cell,s.sath.root,s.sath.low,s.sath.nf⟩,⟨rfl,rfl,rfl,jv _,fun _ _ _=>rfl⟩,fun b o v h=>.inl ⟨v,h⟩⟩)with slots:=s.slots,width:=s.width,defers:=s.defers }
 unfold Fw at h;split at h
 ·rename_i j d f g
  simp only[GR,Vu,jL,ja,jc,kbs,Bool.not_true,Bool.false_or,ji,beq_iff_eq]at D;obtain⟨⟨⟨⟨⟨r0,G⟩,I⟩,J⟩,L⟩,M⟩:=D;refine wp_region_any hm (dS (inl:=inl) (m:=false) (n0:=0) (K:=fun e lo=>∃ E,qz E=e/\K E lo) (fun ρ H e lo a w s ⟨E,x,r⟩=>F ρ H E lo a w (by rw[x]; exact s) r) 4 _ ρ H (qz E) lo a _ s' ?_)
  obtain⟨V,O,y,t,u⟩:=ua (fun _=>rfl) h
  have last:∀ {E lo},Ql P inl false 0 N [j,d,f,g] g E lo K->Na P inl false 0 N #[j,d,f,g] (fun e lo=>∃ E,qz E=e/\K E lo) 1 #[true,true,true,false] (qz E) lo:=by
   intro E lo h;obtain⟨R,S,z,h⟩:=ua (fun _=>rfl) h
   refine⟨fun e=>(by rw[L]at e; cases e),fun i c=>?_⟩;rw[L]at c;obtain rfl:i=3:=by simpa using c
   exact⟨g,_,_,rfl,z,M,R,rfl,h⟩
  refine⟨fun e=>(by rw[show Array.replicate (List.toArray [j,d,f,g]).size false = #[false,false,false,false]from rfl,r0]at e; cases e),fun i c=>?_⟩;rw[show Array.replicate (List.toArray [j,d,f,g]).size false = #[false,false,false,false]from rfl,r0]at c;obtain rfl:i=0:=by simpa using c
  refine⟨j,_,_,rfl,y,?_⟩;refine⟨fun e=>(by rw[show(Array.replicate (List.toArray [j,d,f,g]).size false).setIfInBounds 0 true = #[true,false,false,false]from rfl,G]at e; cases e),fun i c=>?_⟩;rw[show(Array.replicate (List.toArray [j,d,f,g]).size false).setIfInBounds 0 true = #[true,false,false,false]from rfl,G]at c;have c:i=1\/i=2:=by simpa using c
  rcases c with rfl|rfl
  ·obtain⟨T,A,n,t⟩:=ua (fun _=>rfl) t
   obtain⟨U,B,q,t⟩:=ua (fun _=>rfl) t
   refine⟨d,_,_,rfl,n,fun e=>(by rw[show((Array.replicate (List.toArray [j,d,f,g]).size false).setIfInBounds 0 true).setIfInBounds 1 true = #[true,true,false,false]from rfl,I]at e; cases e),fun i c=>?_⟩;rw[show((Array.replicate (List.toArray [j,d,f,g]).size false).setIfInBounds 0 true).setIfInBounds 1 true = #[true,true,false,false]from rfl,I]at c;obtain rfl:i=2:=by simpa using c
   exact⟨f,_,_,rfl,q,last t⟩
  obtain⟨T,A,n,u⟩:=ua (fun _=>rfl) u
  obtain⟨U,B,q,u⟩:=ua (fun _=>rfl) u
  refine⟨f,_,_,rfl,n,fun e=>(by rw[show((Array.replicate (List.toArray [j,d,f,g]).size false).setIfInBounds 0 true).setIfInBounds 2 true = #[true,false,true,false]from rfl,J]at e; cases e),fun i c=>?_⟩;rw[show((Array.replicate (List.toArray [j,d,f,g]).size false).setIfInBounds 0 true).setIfInBounds 2 true = #[true,false,true,false]from rfl,J]at c;obtain rfl:i=1:=by simpa using c
  exact⟨d,_,_,rfl,q,last u⟩
 obtain⟨p,hp,h⟩:=h;have h:=zh h;rw[jw]at h;refine wp_region_any hm (dS (inl:=inl) (m:=true) (n0:=lo.length) (K:=fun e lo=>∃ E,qz E=e/\K E lo) (fun ρ H e lo a w s ⟨E,x,r⟩=>F ρ H E lo a w (by rw[x]; exact s) r) _ _ ρ H (qz E) lo a _ s' ?_)
 have:=tI (P:=P) (inl:=inl) (m:=true) (n0:=lo.length) (N:=N) (fun h=>by cases h) (K:=fun e lo=>∃ E,qz E=e/\K E lo) (K':=K) (fun E lo r=>⟨E,rfl,r⟩) p l.length (Array.replicate l.length false) E lo (fun k ok r C=>by simp only[jV,Array.getElem?_replicate]at C; split at C<;>cases C) (fun _=>jv _) hp h
 simpa using this
end
end Ax
end
section
namespace Ax
open Go
variable {Lw:Nat}
abbrev KA:=AX->Env->List AObj->Prop
def LH (x:AX) (e:Exit):Prop:=
 match x,e with
 | .normal,.normal=>True
 | .exit i,.exit j=>i=j
 | .ret,.ret=>True
 | _,_=>False
def Hf (bs:(Base Lw)) (N:Nat) (K:KA):Exit->Act->World->Prop:=fun e a w=>∃ x ρ H E lo,LH x e/\Sat bs N ρ H (qz E) lo a w/\K x E lo
def fO (inl:List Nat):Code->Bool
 | .seq a b=>fO inl a&&fO inl b
 | .cond _ t e=>fO inl t&&fO inl e
 | .block _ c=>fO inl c
 | .loop c=>fO inl c
 | .region id ops d=>!d||(match Qa inl (90000000+id)with|true=>GR ops|false=>Ci inl (DQ inl id) ops)
 | _=>true
def Sd (P:Program) (N nb:Nat) (c:Code) (K:KA) (E:Env) (lo:List AObj):Prop:=
 ∀ ⦃Lw:Nat⦄ (bs:(Base Lw)) (ρ:List Value) (H:(PH Lw)) (a:Act) (w:World),bs.r0.length=nb->Sat bs N ρ H (qz E) lo a w->c.wp P (Hf bs N K) a w
def zd (P:Program) (inl:List Nat) (N nb:Nat) (body:Code) (K:KA) (E:Env) (lo:List AObj):Prop:=
 P.follows .mixedOrders=true->fO inl body=true->Sd P N nb (.loop body) K E lo
def nu (P:Program) (inl:List Nat) (N nb:Nat) (a b:Code) (K:KA) (E:Env) (lo:List AObj):Prop:=
 P.follows .mixedOrders=true->fO inl a=true->fO inl b=true->Sd P N nb (.seq a b) K E lo
def XX (id:Nat):Code->Nat
 | .seq a b=>XX id a+XX id b
 | .cond _ t e=>XX id t+XX id e
 | .block _ c=>XX id c
 | .loop c=>XX id c
 | .exit i=>match Nat.beq i id with|true=>1|false=>0
 | _=>0
def EK:Code->Nat
 | .seq a b=>match EK a with|0=>0|_=>EK b
 | .cond _ t e=>EK t+EK e
 | .block id c=>EK c+XX id c
 | .loop _=>0
 | .exit _=>0
 | .ret=>0
 | _=>1
def MM:Code->Bool
 | .cond _ _ _=>true
 | .seq _ b=>MM b
 | _=>false
def Rb (inl:List Nat) (a:Code):Bool:=match Qa inl 1000000 with
 | true=>(match Nat.ble 2 (EK a)with
  | true=>true
  | false=>match Qa inl 1000001 with
   | true=>MM a
   | false=>false)
 | false=>false
def vc (P:Program) (inl:List Nat) (N nb:Nat):Code->KA->Env->List AObj->Prop
 | .skip,K,E,lo=>K .normal E lo
 | .seq a b,K,E,lo=>match Rb inl a with
  | true=>nu P inl N nb a b K E lo
  | false=>vc P inl N nb a (fun x E lo=>match x with|.normal=>vc P inl N nb b K E lo|.exit i=>K (.exit i) E lo|.ret=>K .ret E lo) E lo
 | .cond c t e,K,E,lo=>ev E c fun v=>match v with
  | .p (.bool b)=>(b=true->vc P inl N nb t K E lo)/\(b=false->vc P inl N nb e K E lo)
  | _=>False
 | .block id c,K,E,lo=>vc P inl N nb c (fun x E lo=>match x with
   | .exit i=>(match Nat.beq i id with|true=>K .normal E lo|false=>K (.exit i) E lo)
   | .normal=>K .normal E lo
   | .ret=>K .ret E lo) E lo
 | .exit id,K,E,lo=>K (.exit id) E lo
 | .ret,K,E,lo=>K .ret E lo
 | .region id ⟨ops⟩ d,K,E,lo=>match d with
  | false=>Eh P inl N ops (K .normal) ops E lo
  | true=>match Qa inl (90000000+id)with
   | true=>Fw P inl N ops (K .normal) E lo
   | false=>match DQ inl id with
    | false=>CX P inl false 0 N ops (K .normal) ops E lo
    | true=>sL lo 0 fun n0=>CX P inl true n0 N ops (K .normal) ops E lo
 | .loop body,K,E,lo=>zd P inl N nb body K E lo
 | c,K,E,lo=>Sd P N nb c K E lo
theorem Hf.mono {bs:(Base Lw)} {N:Nat} {K K':KA} (h:∀ x E lo,K x E lo->K' x E lo) {e:Exit} {a:Act} {w:World} (p:Hf bs N K e a w):Hf bs N K' e a w:=
 let ⟨x,ρ,H,E,lo,hx,s,k⟩:=p
 ⟨x,ρ,H,E,lo,hx,s,h x E lo k⟩
theorem Sd.mono {P:Program} {N nb:Nat} {c:Code} {K K':KA} {E:Env} {lo:List AObj} (h:∀ x E lo,K x E lo->K' x E lo) (w:Sd P N nb c K E lo):Sd P N nb c K' E lo:=
 fun Lw bs ρ H a ww b s=>wp_mono (w bs ρ H a ww b s) fun _ _ _ p=>p.mono h
theorem uq {P:Program} {inl:List Nat} (hm:P.follows .mixedOrders=true) {N nb:Nat}:∀ (c:Code) (K:KA) (E:Env) (lo:List AObj),fO inl c=true->vc P inl N nb c K E lo->Sd P N nb c K E lo
 | .skip,K,E,lo,_,h=>fun Lw bs ρ H a w f s=>wp_skip ⟨.normal,ρ,H,E,lo,trivial,s,h⟩
 | .seq x y,K,E,lo,hd,h=>fun Lw bs ρ H a w f s=>by
  simp only[fO,ji]at hd;simp only[vc]at h;split at h
  ·exact h hm hd.1 hd.2 bs ρ H a w f s
  refine wp_seq (wp_mono (uq hm x _ E lo hd.1 h bs ρ H a w f s) fun e a w p=>?_);obtain⟨u,ρ',H',E',lo',q,m,k⟩:=p;cases u<;>cases e<;>simp only[LH]at q
  ·exact uq hm y K E' lo' hd.2 k bs ρ' H' a w f m
  ·exact⟨.exit _,ρ',H',E',lo',q,m,k⟩
  exact⟨.ret,ρ',H',E',lo',trivial,m,k⟩
 | .cond c t e,K,E,lo,hd,h=>fun Lw bs ρ H a w f s=>by
  simp only[fO,ji]at hd;simp only[vc,XW]at h;have o:=cz s.slots c;split at h
  ·rename_i b v
   rw[v]at o;exact wp_cond_split (dR o) (fun n=>uq hm t K E lo hd.1 (h.1 n) bs ρ H a w f s) (fun n=>uq hm e K E lo hd.2 (h.2 n) bs ρ H a w f s)
  exact h.elim
 | .block id c,K,E,lo,hd,h=>fun Lw bs ρ H a w f s=>by
  refine wp_block (wp_mono (uq hm c _ E lo hd h bs ρ H a w f s) fun e a w p=>?_);obtain⟨u,ρ',H',E',lo',q,m,k⟩:=p;cases u<;>cases e<;>simp only[LH]at q
  ·exact⟨.normal,ρ',H',E',lo',trivial,m,k⟩
  ·rename_i i j
   subst q;simp only[Exit.inBlock];by_cases z:i=id
   ·subst z
    simp only[Nat.beq_refl]at k;simp only[if_true];exact⟨.normal,ρ',H',E',lo',trivial,m,k⟩
   have:Nat.beq i id=false:=by
    cases f:Nat.beq i id with
    | false=>rfl
    | true=>exact absurd (jn f) z
   simp only[this]at k;simp only[z,if_false];exact⟨.exit i,ρ',H',E',lo',rfl,m,k⟩
  exact⟨.ret,ρ',H',E',lo',trivial,m,k⟩
 | .exit id,K,E,lo,_,h=>fun Lw bs ρ H a w f s=>wp_exit ⟨.exit id,ρ,H,E,lo,rfl,s,h⟩
 | .ret,K,E,lo,_,h=>fun Lw bs ρ H a w f s=>wp_ret ⟨.ret,ρ,H,E,lo,trivial,s,h⟩
 | .region id ⟨ops⟩ d,K,E,lo,hd,h=>fun Lw bs ρ H a w f s=>by
  have r:∀ ρ H E lo a w,Sat bs N ρ H (qz E) lo a w->K .normal E lo->Hf bs N K .normal a w:=fun ρ H E lo a w s k=>⟨.normal,ρ,H,E,lo,trivial,s,k⟩;cases d with
  | false=>exact Uz (P:=P) (l:=ops) r s h
  | true=>
   have g:(match Qa inl (90000000+id)with|true=>GR ops.toArray|false=>Ci inl (DQ inl id) ops.toArray)=true:=by simpa[fO]using hd
   simp only[vc]at h;split at h
   ·rename_i o
    rw[o]at g;exact VD hm g r s h
   rename_i o;rw[o]at g;replace g:Ci inl (DQ inl id) ops.toArray=true:=g;split at h
   ·rename_i A
    rw[A]at g;exact Qm hm (fun _=>rfl) (fun h=>by cases h) g r s h
   rename_i A;rw[A]at g;have h:=zh h;rw[jw]at h;exact Qm hm (fun h=>by cases h) (fun _=>jv _) g r s h
 | .loop body,K,E,lo,hd,h=>h hm hd
 | .rangeFunc ..,K,E,lo,_,h=>h
 | .scope _,K,E,lo,_,h=>h
 | .label _,K,E,lo,_,h=>h
 | .goto _,K,E,lo,_,h=>h
 | .refuse _,K,E,lo,_,h=>h
def FV.ren (π:Nat->Nat):FV->FV
 | .opt g v=>.opt g (v.ren π)
 | .tsl k rows=>.tsl (π k) rows
 | .ptr k off=>.ptr (π k) off
 | .bself k=>.bself (π k)
 | .bsl k off len cp=>.bsl (π k) off len cp
 | .vsl k n=>.vsl (π k) n
 | .eptr k z i off=>.eptr (π k) z i off
 | .mref k=>.mref (π k)
 | .pair a b=>.pair (a.ren π) (b.ren π)
 | .stmp k=>.stmp (π k)
 | .clo f c=>.clo f (c.ren π)
 | .cap a b=>.cap (a.ren π) (b.ren π)
 | .fagg c=>.fagg (c.ren π)
 | .asl k off n=>.asl (π k) off n
 | .ifs t c=>.ifs t (c.ren π)
 | v=>v
def St (π:Nat->Nat) (fresh:List Nat) (v v':FV):Prop:=
 match v' with
 | .top=>True
 | .p p'=>match v with
  | .p p=>p=p'\/Sw p p'
  | .tsl _ rows=>PV.sl rows=p'
  | .clo f c=>QO c fun cs=>PV.clo f cs=p'
  | .fagg c=>QO c fun cs=>PV.agg cs=p'
  | _=>False
 | .tsl k' rows'=>match v with
  | .tsl k rows=>k=π k'/\rows=rows'/\k' ∉ fresh
  | .p .nilsl=>rows'=[]/\k'∈fresh
  | _=>False
 | .ptr k' off'=>match v with
  | .ptr k off=>k=π k'/\off=off'/\k' ∉ fresh
  | _=>False
 | .bself k'=>match v with
  | .bself k=>k=π k'/\k' ∉ fresh
  | .ptr k off=>k=π k'/\off=0/\k' ∉ fresh
  | _=>False
 | .bsl k' off' len' cap'=>match v with
  | .bsl k off len cap=>k=π k'/\off=off'/\len=len'/\cap=cap'/\k' ∉ fresh
  | _=>False
 | .hptr row'=>match v with
  | .hptr row=>row=row'
  | _=>False
 | .vsl k' n'=>match v with
  | .vsl k n=>k=π k'/\n=n'/\k' ∉ fresh
  | .p .nilsl=>n'=0/\k'∈fresh
  | _=>False
 | .eptr k' z' i' off'=>match v with
  | .eptr k z i off=>k=π k'/\z=z'/\i=i'/\off=off'/\k' ∉ fresh
  | _=>False
 | .mref k'=>match v with
  | .mref k=>k=π k'/\k' ∉ fresh
  | _=>False
 | .pair a' b'=>match v with
  | .pair a b=>St π fresh a a'/\St π fresh b b'
  | _=>False
 | .stmp k'=>match v with
  | .stmp k=>k=π k'/\k' ∉ fresh
  | _=>False
 | .clo f' c'=>match v with
  | .clo f c=>f=f'/\St π fresh c c'
  | _=>False
 | .cap0=>match v with
  | .cap0=>True
  | _=>False
 | .cap a' b'=>match v with
  | .cap a b=>St π fresh a a'/\St π fresh b b'
  | _=>False
 | .fagg c'=>match v with
  | .fagg c=>St π fresh c c'
  | _=>False
 | .nxt ok' a' b'=>match v with
  | .nxt ok a b=>ok=ok'/\a=a'/\b=b'
  | _=>False
 | .asl k' off' n'=>match v with
  | .asl k off n=>k=π k'/\off=off'/\n=n'/\k' ∉ fresh
  | _=>False
 | .ifs t' c'=>match v with
  | .ifs t c=>t=t'/\St π fresh c c'
  | _=>False
 | .cut rows'=>match v with
  | .cut rows=>rows=rows'
  | _=>False
 | .opt _ _=>False
def Ss (π:Nat->Nat) (fresh:List Nat) (k':Nat) (v v':FV):Prop:=
 match v,v' with
 | .p .nilp,.bself k=>k=k'/\k ∉ fresh
 | v,v'=>St π fresh v v'
def ud (π:Nat->Nat) (fresh:List Nat) (k':Nat) (o o':AObj):Prop:=
 match o' with
 | .dead=>True
 | .box t' cells'=>match o with
  | .box t cells=>t=t'/\cells.length=cells'.length/\∀ (i:Nat) (c a:FV),cells[i]? =some c->cells'[i]? =some a->Ss π fresh k' c a
  | _=>False
 | .tail e z n=>o=.tail e z n
 | .vec e z rows=>o=.vec e z rows
 | .mp d es mk'=>mk'=none/\∃ mk,o=.mp d es mk
 | .sit l p=>o=.sit l p
 | .bv l=>o=.bv l
 | .vl e z rows j k'=>k' ∉ fresh/\o=.vl e z rows j (π k')
 | .pbx t' a=>match o with
  | .pbx t c=>t=t'/\St π fresh c a
  | _=>False
structure Weak (nb:Nat) (E:Env) (lo:List AObj) (E':Env) (lo':List AObj) (π:Nat->Nat) (fresh:List Nat):Prop where
 bounds:∀ k,k<lo'.length->k ∉ fresh->π k<lo.length
 keep:∀ k,k<nb->π k=k/\k ∉ fresh
 nb:nb<=lo'.length
 inj:∀ i j oi oj,lo'[i]? =some oi->lo'[j]? =some oj->oi.live=true->oj.live=true->i ∉ fresh->j ∉ fresh->π i=π j->i=j
 frsh:∀ k,k∈fresh->∃ e z,lo'[k]? =some (.tail e z 0)\/lo'[k]? =some (.vec e z [])\/∃ j k2,lo'[k]? =some (.vl e z [] j k2)
 obj:∀ k o',lo'[k]? =some o'->k ∉ fresh->∃ o,lo[π k]? =some o/\ud π fresh k o o'
 slot:∀ t v,(t,v)∈E'->St π fresh (qz E t) v
theorem Cy:∀ {E:Env} {t:Nat},qz E t=.top\/(t,qz E t)∈E
 | [],t=>.inl rfl
 | (t',v)::E,t=>by
  simp only[qz];cases a:Nat.beq t t' with
  | true=>
   have:=jn a;subst this;exact .inr (by simp)
  | false=>
   rcases Cy (E:=E) (t:=t)with h|h
   ·exact .inl h
   exact .inr (by simp[h])
def Bf (ρ:List Value) (π:Nat->Nat) (fresh:List Nat) (n:Nat):List Value:=(List.range n).map fun k=>if k∈fresh then .slice none 0 0 else ρ.getD (π k) undef
theorem xU {ρ:List Value} {π:Nat->Nat} {fresh:List Nat} {n k:Nat} (h:k<n):(Bf ρ π fresh n)[k]? =some (if k∈fresh then .slice none 0 0 else ρ.getD (π k) undef):=by
 simp[Bf,h]
def FV.names:FV->List Nat
 | .opt _ v=>v.names
 | .tsl k _=>[k]
 | .ptr k _=>[k]
 | .bself k=>[k]
 | .bsl k _ _ _=>[k]
 | .vsl k _=>[k]
 | .eptr k _ _ _=>[k]
 | .mref k=>[k]
 | .pair a b=>a.names++b.names
 | .stmp k=>[k]
 | .clo _ c=>c.names
 | .fagg c=>c.names
 | .asl k _ _=>[k]
 | .ifs _ c=>c.names
 | .cap a b=>a.names++b.names
 | _=>[]
theorem Fk {ρ:List Value} {H:(PH Lw)} {π:Nat->Nat} {fresh:List Nat} {n:Nat} {v v':FV} {x:Value} (h:St π fresh v v') (j:∀ k∈v'.names,k<n) (r:qD ρ H v x) :
  qD (Bf ρ π fresh n) H v' x:=by
 induction v' generalizing v x with
 | top=>trivial
 | p p'=>
  cases v<;>simp only[St]at h
  ·rename_i p
   rcases h with rfl|h
   ·exact r
   exact Za h r
  ·subst h; exact r.2
  ·obtain⟨t,e,o⟩:=nP h
   subst e;obtain⟨vs,e,r⟩:=r;simp only[qD,qp];exact⟨vs,e,o _ _ _ r⟩
  obtain⟨t,e,o⟩:=nP h;subst e;obtain⟨vs,e,r⟩:=r;simp only[qD,qp];exact⟨vs,e,o _ _ _ r⟩
 | opt g v' _=>simp[St]at h
 | tsl k' rows'=>
  have a:=j k' (by simp[FV.names]);cases v<;>simp only[St]at h
  ·rename_i p
   cases p<;>simp only at h;obtain⟨rfl,d⟩:=h;simp only[qD,qp]at r ⊢;subst r;exact⟨by rw[xU a]; simp[d],.inl ⟨trivial,.inl rfl⟩⟩
  rename_i k rows;obtain⟨rfl,rfl,d⟩:=h;obtain⟨f,l⟩:=r;refine⟨?_,l⟩;rw[xU a];simp[d,List.getD_eq_getElem?_getD,f]
 | ptr k' off'=>
  have a:=j k' (by simp[FV.names]);cases v<;>simp only[St]at h;rename_i k off;obtain⟨rfl,rfl,d⟩:=h;obtain⟨b,f,l⟩:=r;refine⟨b,?_,l⟩;rw[xU a];simp[d,List.getD_eq_getElem?_getD,f]
 | hptr row=>
  cases v<;>simp only[St]at h;rw[h]at r;exact r
 | bself k'=>
  have a:=j k' (by simp[FV.names]);cases v<;>simp only[St]at h
  ·rename_i k off
   obtain⟨rfl,rfl,d⟩:=h;obtain⟨b,f,rfl⟩:=r;refine⟨b,?_,.inr rfl⟩;rw[xU a];simp[d,List.getD_eq_getElem?_getD,f]
  rename_i k;obtain⟨rfl,d⟩:=h;obtain⟨b,f,l⟩:=r;refine⟨b,?_,l⟩;rw[xU a];simp[d,List.getD_eq_getElem?_getD,f]
 | bsl k' off' len' cap'=>
  have a:=j k' (by simp[FV.names]);cases v<;>simp only[St]at h;rename_i k off len cap;obtain⟨rfl,rfl,rfl,rfl,d⟩:=h;obtain⟨b,f,l⟩:=r;refine⟨b,?_,l⟩;rw[xU a];simp[d,List.getD_eq_getElem?_getD,f]
 | vsl k' n'=>
  have a:=j k' (by simp[FV.names]);cases v<;>simp only[St]at h
  ·rename_i p
   cases p<;>simp only at h;obtain⟨rfl,d⟩:=h;simp only[qD,qp]at r ⊢;subst r;exact⟨by rw[xU a]; simp[d],.inl ⟨trivial,rfl⟩⟩
  rename_i k n;obtain⟨rfl,rfl,d⟩:=h;obtain⟨f,l⟩:=r;refine⟨?_,l⟩;rw[xU a];simp[d,List.getD_eq_getElem?_getD,f]
 | eptr k' z' i' off'=>
  have a:=j k' (by simp[FV.names]);cases v<;>simp only[St]at h;rename_i k z i off;obtain⟨rfl,rfl,rfl,rfl,d⟩:=h;obtain⟨b,n,cap,f,rfl⟩:=r;refine⟨b,n,cap,?_,rfl⟩;rw[xU a];simp[d,List.getD_eq_getElem?_getD,f]
 | mref k'=>
  have a:=j k' (by simp[FV.names]);cases v<;>simp only[St]at h;rename_i k;obtain⟨rfl,d⟩:=h;obtain⟨b,f,l⟩:=r;refine⟨b,?_,l⟩;rw[xU a];simp[d,List.getD_eq_getElem?_getD,f]
 | pair a' b' iha ihb=>
  cases v<;>simp only[St]at h;obtain⟨u,w,rfl,q,s⟩:=r;exact⟨u,w,rfl,iha h.1 (fun k a=>j k (by simp[FV.names,a])) q,ihb h.2 (fun k a=>j k (by simp[FV.names,a])) s⟩
 | stmp k'=>
  have a:=j k' (by simp[FV.names]);cases v<;>simp only[St]at h;rename_i k;obtain⟨rfl,d⟩:=h;simp only[qD]at r ⊢;rw[xU a];simp[d,List.getD_eq_getElem?_getD,r]
 | clo f' c' ih=>
  cases v<;>simp only[St]at h;obtain⟨rfl,h⟩:=h;obtain⟨vs,rfl,rc⟩:=r;exact⟨vs,rfl,ih h (fun k a=>j k (by simp[FV.names,a])) rc⟩
 | cap0=>
  cases v<;>simp only[St]at h;exact r
 | fagg c' ih=>
  cases v<;>simp only[St]at h;obtain⟨vs,rfl,rc⟩:=r;exact⟨vs,rfl,ih h (fun k a=>j k (by simp[FV.names,a])) rc⟩
 | nxt ok' a' b'=>
  cases v<;>simp only[St]at h;obtain⟨rfl,rfl,rfl⟩:=h;exact r
 | ifs t' c' ih=>
  cases v<;>simp only[St]at h;obtain⟨rfl,h⟩:=h;obtain⟨u,rfl,rc⟩:=r;exact⟨u,rfl,ih h (fun k a=>j k (by simp[FV.names,a])) rc⟩
 | cut rows'=>
  cases v<;>simp only[St]at h;subst h;exact r
 | asl k' off' n'=>
  have a:=j k' (by simp[FV.names]);cases v<;>simp only[St]at h;rename_i k off n;obtain⟨rfl,rfl,rfl,d⟩:=h;obtain⟨b,m,cap,c,f,rfl⟩:=r;refine⟨b,m,cap,c,?_,rfl⟩;rw[xU a];simp[d,List.getD_eq_getElem?_getD,f]
 | cap a' b' iha ihb=>
  cases v<;>simp only[St]at h;obtain⟨u,w,rfl,q,s⟩:=r;exact⟨u,w,rfl,iha h.1 (fun k a=>j k (by simp[FV.names,a])) q,ihb h.2 (fun k a=>j k (by simp[FV.names,a])) s⟩
theorem Nx {ρ:List Value} {H:(PH Lw)} {π:Nat->Nat} {fresh:List Nat} {n k' b:Nat} {v v':FV} {x:Value} (a:(Bf ρ π fresh n)[k']? =some (.pointer (some ⟨b,0,none⟩))) (h:Ss π fresh k' v v') (c:∀ k∈v'.names,k<n) (r:qD ρ H v x) :
  qD (Bf ρ π fresh n) H v' x:=by
 unfold Ss at h;split at h
 ·obtain⟨rfl,_⟩:=h
  simp only[qD,qp]at r;exact⟨b,a,.inl r⟩
 exact Fk h c r
theorem zk.le {ρ:List Value} {H:(PH Lw)} {π:Nat->Nat} {fresh:List Nat} {n k' b:Nat} (f:(Bf ρ π fresh n)[k']? =some (.pointer (some ⟨b,0,none⟩))):∀ {cs a:List FV} {vs:List Value},cs.length=a.length ->
  (∀ (i:Nat) (c d:FV),cs[i]? =some c->a[i]? =some d->Ss π fresh k' c d)->(∀ c∈a,∀ k∈c.names,k<n)->zk ρ H cs vs->zk (Bf ρ π fresh n) H a vs
 | [],[],vs,_,_,_,r=>r
 | [],_::_,_,h,_,_,_=>by simp at h
 | _::_,[],_,h,_,_,_=>by simp at h
 | c::cs,d::a,vs,hl,hle,hn,r=>by
  obtain⟨v,e,rfl,g,rs⟩:=r;exact⟨v,e,rfl,Nx f (hle 0 c d rfl rfl) (hn d (by simp)) g,zk.le f (by simpa using hl) (fun i=>hle (i+1)) (fun c j=>hn c (by simp[j])) rs⟩
def Lg (E:Env) (lo:List AObj):Prop:=(∀ t v,(t,v)∈E->∀ k∈v.names,k<lo.length)/\(∀ t cells,AObj.box t cells∈lo->∀ c∈cells,∀ k∈c.names,k<lo.length)/\(∀ e z rows j k,AObj.vl e z rows j k∈lo->k<lo.length)/\∀ t c,AObj.pbx t c∈lo->∀ k∈c.names,k<lo.length
theorem Sat.weak {bs:(Base Lw)} {N:Nat} {ρ:List Value} {H:(PH Lw)} {E E':Env} {lo lo':List AObj} {a:Act} {w:World} {π:Nat->Nat} {fresh:List Nat} (s:Sat bs N ρ H (qz E) lo a w)
  (h:Weak bs.r0.length E lo E' lo' π fresh) (L:Lg E' lo'):Sat bs N (Bf ρ π fresh lo'.length) H (qz E') lo' a w:=by
 have get:∀ {k:Nat} {v:Value},(Bf ρ π fresh lo'.length)[k]? =some v->k<lo'.length/\((k∈fresh/\v=.slice none 0 0)\/(k ∉ fresh/\ρ[π k]? =some v)):=by
  intro k v hv;have m:k<lo'.length:=by have:=(jG.1 hv).1; simpa[Bf]using this
  rw[xU m]at hv;refine⟨m,?_⟩;by_cases r:k∈fresh
  ·simp[r]at hv; exact .inl ⟨r,hv.symm⟩
  simp only[r,if_false]at hv;refine .inr ⟨r,?_⟩;have:=h.bounds k m r;rw[← s.hlen]at this;rw[List.getD_eq_getElem?_getD,jf this]at hv;rw[jf this];simpa using hv
 refine{ sath:=s.sath,hlen:=by simp[Bf],pre:=?_,objs:=?_,excl:=?_,own:=?_,keep:=s.keep,leH:=s.leH,newH:=s.newH,slots:=?_,width:=s.width,defers:=s.defers }
 ·obtain⟨l,x⟩:=s.pre
  have hlen:bs.r0.length<=lo'.length:=h.nb;have:(Bf ρ π fresh lo'.length).take bs.r0.length=bs.r0:=by
   refine List.ext_getElem? fun i=>?_;rw[jE];split
   ·rename_i y
    rw[xU (by omega)];obtain⟨e1,e2⟩:=h.keep i y;simp only[e2,if_false,e1];rw[List.getD_eq_getElem?_getD,← x,jB y,jf y];rfl
   rename_i y;rw[List.getElem?_eq_none (by omega)]
  rw[← this];exact List.take_prefix _ _
 ·intro k o v m hv
  obtain⟨hlt,M⟩:=get hv;rcases M with ⟨r,rfl⟩|⟨r,hρ⟩
  ·obtain⟨e,z,he⟩:=h.frsh k r
   rw[m]at he;rcases he with he|he|⟨j,k2,he⟩
   ·cases he
    exact⟨[],World.ownsRow_nil w 0 e z,fun b q=>by simp[qC]at q⟩
   ·cases he
    exact⟨[],World.ownsRow_nil w 0 e z,rfl,fun u hu=>(by cases hu),fun b q=>by simp[qC]at q⟩
   cases he;exact⟨[],World.ownsRow_nil w 0 e z,rfl,fun u hu=>(by cases hu),fun b q=>by simp[qC]at q,fun u hu=>by simp at hu⟩
  obtain⟨o0,O,f⟩:=h.obj k o m r;have g:=s.objs _ _ _ O hρ;cases o with
  | dead=>trivial
  | box t' cells'=>
   cases o0<;>simp only[ud]at f;rename_i t cells;obtain⟨rfl,x,A⟩:=f;obtain⟨b,vs,rfl,D,rc,P⟩:=g;exact⟨b,vs,rfl,D,rc.le hv x A (fun c M k Q=>L.2.1 _ _ (List.mem_of_getElem? m) c M k Q),P⟩
  | tail e z n=>
   simp only[ud]at f;subst f;exact g
  | vec e z rows=>
   simp only[ud]at f;subst f;exact g
  | mp d es mk'=>
   simp only[ud]at f;obtain⟨rfl,mk,rfl⟩:=f;obtain⟨b,ents,clock,rfl,D,B,⟨F,h2,_⟩,R⟩:=g;exact⟨b,ents,clock,rfl,D,B,⟨F,h2,fun key s e=>by cases e⟩,R⟩
  | sit l p=>
   simp only[ud]at f;subst f;exact g
  | bv l=>
   simp only[ud]at f;subst f;exact g
  | vl e z rows j k'=>
   simp only[ud]at f;obtain⟨S,rfl⟩:=f;obtain⟨xs,ho,B,F,R,x⟩:=g;refine⟨xs,ho,B,F,R,fun u hu=>?_⟩;rw[xU (L.2.2.1 _ _ _ _ _ (List.mem_of_getElem? m))];simp[S,List.getD_eq_getElem?_getD,x u hu]
  | pbx t' c'=>
   cases o0<;>simp only[ud]at f;rename_i t c;obtain⟨rfl,A⟩:=f;obtain⟨b,u,us,rfl,D,rc,P⟩:=g;exact⟨b,u,us,rfl,D,Fk A (L.2.2.2 _ _ (List.mem_of_getElem? m)) rc,P⟩
 ·intro i j oi oj vi vj b y hj T U V G I q J
  obtain⟨F,X⟩:=get T;obtain⟨h2,c2⟩:=get U;rcases X with ⟨_,rfl⟩|⟨f1,Y⟩
  ·simp[qC]at q
  rcases c2 with ⟨_,rfl⟩|⟨f2,r2⟩
  ·simp[qC]at J
  obtain⟨K,C,l1⟩:=h.obj i oi y f1;obtain⟨o2,Z,l2⟩:=h.obj j oj hj f2;have live:∀ {k:Nat} {o o':AObj},ud π fresh k o o'->o'.live=true->o.live=true:=by
   intro k o o' f x;cases o' with
   | dead=>simp[AObj.live]at x
   | box t c=>cases o<;>simp only[ud]at f; rfl
   | tail e z n=>simp only[ud]at f; subst f; rfl
   | vec e z n=>simp only[ud]at f; subst f; rfl
   | mp d es mk=>simp only[ud]at f; obtain⟨_,_,rfl⟩:=f; rfl
   | sit l p=>simp only[ud]at f; subst f; rfl
   | bv l=>simp only[ud]at f; subst f; rfl
   | vl e z rows j k'=>simp only[ud]at f; obtain⟨_,rfl⟩:=f; rfl
   | pbx t c=>cases o<;>simp only[ud]at f; rfl
  exact s.excl (π i) (π j) K o2 vi vj b C Z Y r2 (fun e=>V (h.inj i j oi oj y hj G I f1 f2 e)) (live l1 G) (live l2 I) q J
 ·intro k o v b m hv x q
  obtain⟨F,X⟩:=get hv;rcases X with ⟨_,rfl⟩|⟨f1,Y⟩
  ·simp[qC]at q
  obtain⟨K,C,l1⟩:=h.obj k o m f1;refine s.own (π k) K v b C Y ?_ q;cases o with
  | dead=>simp[AObj.live]at x
  | box t c=>cases K<;>simp only[ud]at l1; rfl
  | tail e z n=>simp only[ud]at l1; subst l1; rfl
  | vec e z n=>simp only[ud]at l1; subst l1; rfl
  | mp d es mk=>simp only[ud]at l1; obtain⟨_,_,rfl⟩:=l1; rfl
  | sit l p=>simp only[ud]at l1; subst l1; rfl
  | bv l=>simp only[ud]at l1; subst l1; rfl
  | vl e z rows j k'=>simp only[ud]at l1; obtain⟨_,rfl⟩:=l1; rfl
  | pbx t c=>cases K<;>simp only[ud]at l1; rfl
 ·intro t
  rcases Cy (E:=E') (t:=t)with he|he
  ·rw[he]; trivial
  exact Fk (h.slot t _ he) (L.1 t _ he) (s.slots t)
end Ax
end
section
namespace Ax
open Go
variable {Lw:Nat}
def Lb (E:Env) (π:Nat->Nat) (fresh:List Nat):Env->Prop
 | []=>True
 | (t,v)::E'=>MR E t (fun u=>St π fresh u v)/\Lb E π fresh E'
def QX (π:Nat->Nat) (fresh:List Nat) (k':Nat):List FV->List FV->Prop
 | [],[]=>True
 | c::cs,c'::cs'=>Ss π fresh k' c c'/\QX π fresh k' cs cs'
 | _,_=>False
def LL (π:Nat->Nat) (fresh:List Nat) (k':Nat) (o o':AObj):Prop:=
 match o' with
 | .dead=>True
 | .box t' cells'=>match o with
  | .box t cells=>t=t'/\QX π fresh k' cells cells'
  | _=>False
 | .tail e z n=>match o with
  | .tail e' z' n'=>e'=e/\z'=z/\n'=n
  | _=>False
 | .vec e z rows=>match o with
  | .vec e' z' rows'=>e'=e/\z'=z/\rows'=rows
  | _=>False
 | .mp d es mk=>match o with
  | .mp d' es' _=>mk=none/\d'=d/\es'=es
  | _=>False
 | .sit l p=>match o with
  | .sit l' p'=>l'=l/\p'=p
  | _=>False
 | .bv l=>match o with
  | .bv l'=>l'=l
  | _=>False
 | .vl e z rows j k'=>match o with
  | .vl e' z' rows' j2 k=>k' ∉ fresh/\e'=e/\z'=z/\rows'=rows/\j2=j/\k=π k'
  | _=>False
 | .pbx t' c'=>match o with
  | .pbx t c=>t=t'/\St π fresh c c'
  | _=>False
def BZ (lo:List AObj) (π:Nat->Nat) (fresh:List Nat):Nat->List AObj->Prop
 | _,[]=>True
 | k,o'::lo'=>(match fresh.contains k with
   | true=>match o' with|.tail _ _ n=>n=0|.vec _ _ rows=>rows=[]|.vl _ _ rows _ _=>rows=[]|_=>False
   | false=>my (π k) lo fun o=>LL π fresh k o o')/\BZ lo π fresh (k+1) lo'
def Tc (l:List Nat):Nat->Nat:=fun k=>l.getD k 0
def NU (nb:Nat) (l fresh:List Nat):Bool:=
 decide (nb<=l.length)&&(List.range nb).all (fun k=>l.getD k 0==k&&!fresh.contains k) &&
 (List.range l.length).all (fun i=>(List.range l.length).all fun j=>fresh.contains i||fresh.contains j||l.getD i 0 != l.getD j 0||i==j) &&
 fresh.all (fun k=>decide (k<l.length))
def Pu:AObj->Bool
 | .dead=>true
 | _=>false
def LS:List AObj->Nat->Bool
 | [],_=>false
 | a::_,0=>Pu a
 | _::l,i+1=>LS l i
theorem QQ {o:AObj} (b:o.live=true):∀ {l:List AObj} {i:Nat},l[i]? =some o->LS l i=false
 | [],_,h=>by simp at h
 | a::l,0,h=>by
  simp at h; subst h;cases a<;>first|rfl|(simp[AObj.live]at b)
 | a::l,i+1,h=>by
  simp at h;exact QQ (l:=l) (i:=i) b h
def NW (nb:Nat) (l fresh:List Nat) (lo:List AObj):Bool:=
 decide (nb<=l.length)&&(List.range nb).all (fun k=>l.getD k 0==k&&!fresh.contains k) &&
 (List.range l.length).all (fun i=>(List.range l.length).all fun j=>fresh.contains i||fresh.contains j||l.getD i 0 != l.getD j 0||i==j||LS lo i||LS lo j) &&
 fresh.all (fun k=>decide (k<l.length))
def uE (n:Nat):FV->Bool
 | .opt _ v=>uE n v
 | .tsl k _=>decide (k<n)
 | .ptr k _=>decide (k<n)
 | .bself k=>decide (k<n)
 | .bsl k _ _ _=>decide (k<n)
 | .vsl k _=>decide (k<n)
 | .eptr k _ _ _=>decide (k<n)
 | .mref k=>decide (k<n)
 | .pair a b=>uE n a&&uE n b
 | .stmp k=>decide (k<n)
 | .asl k _ _=>decide (k<n)
 | .ifs _ c=>uE n c
 | .clo _ c=>uE n c
 | .fagg c=>uE n c
 | .cap a b=>uE n a&&uE n b
 | _=>true
def CD (n:Nat):Env->Bool
 | []=>true
 | (_,v)::E=>uE n v&&CD n E
def UR (n:Nat):List FV->Bool
 | []=>true
 | v::l=>uE n v&&UR n l
def dg (n:Nat):List AObj->Bool
 | []=>true
 | .box _ cells::l=>UR n cells&&dg n l
 | .vl _ _ _ _ k::l=>decide (k<n)&&dg n l
 | .pbx _ c::l=>uE n c&&dg n l
 | _::l=>dg n l
def Us (nb:Nat) (E:Env) (lo:List AObj) (E':Env) (lo':List AObj):Prop:=
 ∃ l fresh:List Nat,(NW nb l fresh lo'=true/\l.length=lo'.length/\CD lo'.length E'=true/\dg lo'.length lo'=true)/\Lb E (Tc l) fresh E'/\BZ lo (Tc l) fresh 0 lo'
theorem UO {E:Env} {π:Nat->Nat} {fresh:List Nat}:∀ {E':Env},Lb E π fresh E'->∀ t v,(t,v)∈E'->St π fresh (qz E t) v
 | [],_,t,v,h=>by simp at h
 | (t',v')::E',h,t,v,hm=>by
  simp only[Lb,QZ]at h;rcases jg.1 hm with e|hm
  ·cases e; exact h.1
  exact UO h.2 t v hm
theorem Zl {π:Nat->Nat} {fresh:List Nat} {k':Nat}:∀ {cs a:List FV},QX π fresh k' cs a->cs.length=a.length/\∀ (i:Nat) (c e:FV),cs[i]? =some c->a[i]? =some e->Ss π fresh k' c e
 | [],[],_=>⟨rfl,fun i c e h=>by simp at h⟩
 | [],_::_,h=>by simp[QX]at h
 | _::_,[],h=>by simp[QX]at h
 | c::cs,e::a,h=>by
  simp only[QX]at h;obtain⟨g,j⟩:=Zl h.2;refine⟨by simp[g],fun i d k f b=>?_⟩;cases i with
  | zero=>simp at f b; subst f; subst b; exact h.1
  | succ i=>exact j i d k (by simpa using f) (by simpa using b)
theorem Lc {π:Nat->Nat} {fresh:List Nat} {k':Nat} {o o':AObj} (h:LL π fresh k' o o'):ud π fresh k' o o':=by
 cases o' with
 | dead=>trivial
 | box t' cells'=>
  cases o<;>simp only[LL]at h;exact⟨h.1,Zl h.2⟩
 | tail e z n=>
  cases o<;>simp only[LL]at h;obtain⟨rfl,rfl,rfl⟩:=h;rfl
 | vec e z n=>
  cases o<;>simp only[LL]at h;obtain⟨rfl,rfl,rfl⟩:=h;rfl
 | mp d es mk=>
  cases o<;>simp only[LL]at h;obtain⟨rfl,rfl,rfl⟩:=h;exact⟨rfl,_,rfl⟩
 | sit l p=>
  cases o<;>simp only[LL]at h;obtain⟨rfl,rfl⟩:=h;rfl
 | bv l=>
  cases o<;>simp only[LL]at h;subst h;rfl
 | vl e z rows j k'=>
  cases o<;>simp only[LL]at h;obtain⟨a,rfl,rfl,rfl,rfl,rfl⟩:=h;exact⟨a,rfl⟩
 | pbx t' c'=>
  cases o<;>simp only[LL]at h;exact h
theorem QY {lo:List AObj} {π:Nat->Nat} {fresh:List Nat}:∀ {lo':List AObj} {k:Nat},BZ lo π fresh k lo'->∀ (i:Nat) (o':AObj),lo'[i]? =some o' ->
  (k+i∈fresh->∃ e z,o'=.tail e z 0\/o'=.vec e z []\/∃ j k2,o'=.vl e z [] j k2)/\(k+i ∉ fresh->∃ o,lo[π (k+i)]? =some o/\ud π fresh (k+i) o o')
 | [],_,_,i,o',h=>by simp at h
 | o1::lo',k,h,i,o',a=>by
  simp only[BZ]at h;cases i with
  | zero=>
   simp at a;subst a;simp only[Nat.add_zero];cases c:fresh.contains k with
   | true=>
    simp only[c]at h;have hm:k∈fresh:=by simpa using c
    refine⟨fun _=>?_,fun d=>absurd hm d⟩
    have b:=h.1;split at b
    ·rename_i e z n; exact⟨e,z,.inl (by rw[b])⟩
    ·rename_i e z rows; exact⟨e,z,.inr (.inl (by rw[b]))⟩
    ·rename_i e z rows j k2; exact⟨e,z,.inr (.inr ⟨j,k2,by rw[b]⟩)⟩
    exact b.elim
   | false=>
    simp only[c]at h;have hm:k ∉ fresh:=by simpa using c
    refine⟨fun d=>absurd d hm,fun _=>?_⟩
    obtain⟨o,a,f⟩:=qV h.1;exact⟨o,a,Lc f⟩
  | succ i=>
   have:=QY h.2 i o' (by simpa using a);have e:k+1+i=k+(i+1):=by omega
   rwa [e]at this
theorem xL {n:Nat}:∀ {v:FV},uE n v=true->∀ k∈v.names,k<n
 | .opt _ v,h,k,d=>xL (v:=v) h k d
 | .tsl k' _,h,k,d=>by simp[FV.names]at d; subst d; simpa[uE]using h
 | .ptr k' _,h,k,d=>by simp[FV.names]at d; subst d; simpa[uE]using h
 | .top,_,k,d=>by simp[FV.names]at d
 | .p _,_,k,d=>by simp[FV.names]at d
 | .hptr _,_,k,d=>by simp[FV.names]at d
 | .bself k',h,k,d=>by simp[FV.names]at d; subst d; simpa[uE]using h
 | .bsl k' _ _ _,h,k,d=>by simp[FV.names]at d; subst d; simpa[uE]using h
 | .vsl k' _,h,k,d=>by simp[FV.names]at d; subst d; simpa[uE]using h
 | .eptr k' _ _ _,h,k,d=>by simp[FV.names]at d; subst d; simpa[uE]using h
 | .mref k',h,k,d=>by simp[FV.names]at d; subst d; simpa[uE]using h
 | .pair a b,h,k,d=>by
  simp only[uE,ji]at h;rcases jx.1 d with d|d
  ·exact xL (v:=a) h.1 k d
  exact xL (v:=b) h.2 k d
 | .stmp k',h,k,d=>by simp[FV.names]at d; subst d; simpa[uE]using h
 | .clo _ c,h,k,d=>xL (v:=c) h k d
 | .fagg c,h,k,d=>xL (v:=c) h k d
 | .nxt _ _ _,_,k,d=>by simp[FV.names]at d
 | .asl k' _ _,h,k,d=>by simp[FV.names]at d; subst d; simpa[uE]using h
 | .ifs _ c,h,k,d=>xL (v:=c) h k d
 | .cut _,_,k,d=>by simp[FV.names]at d
 | .cap0,_,k,d=>by simp[FV.names]at d
 | .cap a b,h,k,d=>by
  simp only[uE,ji]at h;rcases jx.1 d with d|d
  ·exact xL (v:=a) h.1 k d
  exact xL (v:=b) h.2 k d
theorem Vm {n:Nat}:∀ {E:Env},CD n E=true->∀ t v,(t,v)∈E->∀ k∈v.names,k<n
 | [],_,t,v,h=>by simp at h
 | (t',v')::E,h,t,v,hm=>by
  simp only[CD,ji]at h;rcases jg.1 hm with e|hm
  ·cases e; exact xL h.1
  exact Vm h.2 t v hm
theorem rz {n:Nat}:∀ {l:List FV},UR n l=true->∀ v∈l,∀ k∈v.names,k<n
 | [],_,v,h=>by simp at h
 | v'::l,h,v,hm=>by
  simp only[UR,ji]at h;rcases jg.1 hm with e|hm
  ·cases e; exact xL h.1
  exact rz h.2 v hm
theorem rA {n:Nat}:∀ {lo:List AObj},dg n lo=true->∀ t cells,AObj.box t cells∈lo->∀ c∈cells,∀ k∈c.names,k<n
 | [],_,t,cells,h=>by simp at h
 | o::lo,h,t,cells,hm=>by
  rcases jg.1 hm with e|a
  ·subst e
   simp only[dg,ji]at h;exact rz h.1
  cases o<;>simp only[dg,ji]at h<;>first|exact rA h.2 t cells a|exact rA h t cells a
theorem mr {n:Nat}:∀ {lo:List AObj},dg n lo=true->∀ t c,AObj.pbx t c∈lo->∀ k∈c.names,k<n
 | [],_,_,_,h=>by simp at h
 | o::lo,h,t,c,hm=>by
  rcases jg.1 hm with he|a
  ·subst he
   simp only[dg,ji]at h;exact xL h.1
  cases o<;>simp only[dg,ji]at h<;>first|exact mr h.2 _ _ a|exact mr h _ _ a
theorem mq {n:Nat}:∀ {lo:List AObj},dg n lo=true->∀ e z rows j k,AObj.vl e z rows j k∈lo->k<n
 | [],_,_,_,_,_,_,h=>by simp at h
 | o::lo,h,e,z,rows,j,k,hm=>by
  rcases jg.1 hm with he|a
  ·subst he
   simp only[dg,ji,kde]at h;exact h.1
  cases o<;>simp only[dg,ji]at h<;>first|exact mq h.2 _ _ _ _ _ a|exact mq h _ _ _ _ _ a
theorem Us.sat {bs:(Base Lw)} {N:Nat} {ρ:List Value} {H:(PH Lw)} {E E':Env} {lo lo':List AObj} {a:Act} {w:World} (s:Sat bs N ρ H (qz E) lo a w) (h:Us bs.r0.length E lo E' lo') :
  ∃ ρ',Sat bs N ρ' H (qz E') lo' a w:=by
 obtain⟨l,fresh,⟨t,G,y,f⟩,A,g⟩:=h;simp only[NW,ji,kde,List.all_eq_true,List.mem_range,jO,beq_iff_eq,Bool.not_eq_true',bne_iff_ne]at t;obtain⟨⟨⟨B,u⟩,C⟩,D⟩:=t;have get:=fun(i:Nat) (o':AObj) (d:lo'[i]? =some o')=>QY g i o' d;simp only[jw]at get;refine⟨_,s.weak (π:=Tc l) (fresh:=fresh) (lo':=lo') ?_ ⟨Vm y,rA f,mq f,mr f⟩⟩;refine{ bounds:=fun k c m=>?_,keep:=fun k c=>?_,nb:=by omega,inj:=fun i j oi oj v x n p q r e=>?_,frsh:=fun k c=>?_,obj:=fun k o' d m=>(get k o' d).2 m,slot:=UO A }
 ·obtain⟨o,d,_⟩:=(get k _ (jf c)).2 m
  exact(jG.1 d).1
 ·obtain⟨F,e2⟩:=u k c
  exact⟨F,by simpa using e2⟩
 ·have B:=(jG.1 v).1
  have u:=(jG.1 x).1;have:=C i (by omega) j (by omega);simp only[List.contains_iff_mem,q,r,QQ n v,QQ p x,jP,or_false,false_or]at this;rcases this with h|h
  ·exact absurd e h
  exact h
 have b:k<lo'.length:=by have:=D k c; omega
 obtain⟨e,z,he⟩:=(get k _ (jf b)).1 c;exact⟨e,z,he.imp (fun he=>by rw[jf b,he]) (fun he=>he.imp (fun he=>by rw[jf b,he]) (fun⟨j,k2,he⟩=>⟨j,k2,by rw[jf b,he]⟩))⟩
theorem zd.of {P:Program} (inl:List Nat) {N nb:Nat} {body:Code} {K:KA} {E:Env} {lo:List AObj} {S:Type} (fr:S->Env) (l:S->List AObj) (ok:S->Prop) (μ:S->Nat) (d:S) (v:ok d)
  (hw:Us nb E lo (fr d) (l d))
  (round:∀ s,ok s->vc P inl N nb body (fun x E' lo'=>match x with
   | .normal=>∃ c,ok c/\μ c<μ s/\Us nb E' lo' (fr c) (l c)
   | .exit i=>K (.exit i) E' lo'
   | .ret=>K .ret E' lo') (fr s) (l s)):zd P inl N nb body K E lo:=by
 intro hm y Lw bs ρ H a w z sat;subst z;obtain⟨ρ',f⟩:=hw.sat sat;refine wp_loop_ghost (I:=fun n a w=>∃ s ρ H,μ s=n/\ok s/\Sat bs N ρ H (qz (fr s)) (l s) a w) (μ d) ⟨d,ρ',H,rfl,v,f⟩ fun n a w ⟨s,ρ,H,A,m,sat⟩=>?_;refine wp_mono (uq hm body _ _ _ y (round s m) bs ρ H a w rfl sat) fun e a w p=>?_;obtain⟨x,ρ2,o,t,g,u,b,k⟩:=p;cases x<;>cases e<;>simp only[LH]at u
 ·obtain⟨c,h,q,r⟩:=k
  obtain⟨ρ3,j⟩:=r.sat b;exact⟨μ c,A ▸ q,c,ρ3,o,rfl,h,j⟩
 ·exact⟨.exit _,ρ2,o,t,g,u,b,k⟩
 exact⟨.ret,ρ2,o,t,g,trivial,b,k⟩
def Lm (P:Program) (E:Env) (lo:List AObj) (r:ResultVar) (R:FV->Prop):Prop:=
 match r with
 | .tmp t=>MR E t R
 | .cell a t=>MR E a fun v=>rq P t lo v R
def Rh (lo:List AObj) (v:FV) (R:PV->List AObj->Prop):Prop:=
 match v with
 | .vsl k _=>my k lo fun o=>match o with
  | .vec _ _ rows=>tH k .dead lo fun lo=>R (.sl rows) lo
  | _=>False
 | v=>BF v fun p=>R p lo
def PO:List FV->List AObj->(List PV->List AObj->Prop)->Prop
 | [],lo,R=>R [] lo
 | v::cs,lo,R=>Rh lo v fun p lo=>PO cs lo fun a lo=>R (p::a) lo
def Ri (lo:List AObj) (v:FV) (R:FV->List AObj->Prop):Prop:=
 match v with
 | .vsl k _=>my k lo fun o=>match o with
  | .vec _ _ rows=>tH k .dead lo fun lo=>R (.p (.sl rows)) lo
  | .vl _ _ rows _ _=>tH k .dead lo fun lo=>R (.p (.sl rows)) lo
  | _=>False
 | .fagg c=>bN c fun cs=>PO cs lo fun a lo=>R (.p (.agg a)) lo
 | v=>R v lo
def PB (P:Program) (E:Env) (lo:List AObj):List ResultVar->(List PV->Prop)->Prop
 | [],R=>R []
 | r::rs,R=>Lm P E lo r fun v=>Ri lo v fun v lo=>BF v fun v=>PB P E lo rs fun l=>R (v::l)
def RD (P:Program) (fn:Func) (R:PV->Prop):KA:=fun x E lo=>match x with
 | .exit _=>False
 | _=>PB P E lo fn.results.toList fun vs=>match vs with
   | [v]=>R v
   | vs=>R (.tup vs)
def SG:PV->FV
 | .hp row=>.hptr row
 | v=>.p v
theorem NO {ρ:List Value} {H:(PH Lw)} {v:PV} {x:Value} (h:qp H v x):qD ρ H (SG v) x:=by
 cases v<;>simp only[SG]<;>first|exact h|(simp only[qp]at h; simp only[qD]; exact h)
def Eu:Nat->List PV->Env
 | _,[]=>[]
 | n,v::vs=>(n,SG v)::Eu (n+1) vs
def PE (P:Program) (inl:List Nat) (fn:Func) (args:List PV) (R:PV->Prop):Prop:=
 match fn.body with
 | some c=>vc P inl fn.ntmps 0 c (RD P fn R) (Eu 0 args) []
 | none=>False
def LI (inl:List Nat) (fn:Func) (n:Nat):Bool:=(match fn.body with|some c=>fO inl c|none=>false)&&decide (n<=fn.ntmps)
def Enters (P:Program) (f:FuncId):Prop:=∀ (args:Array Value) (w:World),(callFunc f args).run P w=.ok (.enter f args) w
def CN (tmps:Array Value):ResultVar->Sem Value
 | .tmp t=>pure (tmps.getD t undef)
 | .cell p t=>do loadVar t (← asAddr (tmps.getD p undef))
theorem dX (fn:Func) (tmps:Array Value):results fn tmps=(do
  let vs ← fn.results.mapM (CN tmps)
  pure (if h:vs.size=1 then vs[0]else .tuple vs)):=by
 unfold results;congr 1
theorem Lk {lo:List AObj} {v:FV} {R:PV->List AObj->Prop} (h:Rh lo v R):∃ f lo',R f lo'/\∀ ⦃Lw:Nat⦄ (bs:(Base Lw)) (N:Nat) (ρ:List Value) (H:(PH Lw)) (e:Nat->FV) (a:Act) (w:World) (x:Value),Sat bs N ρ H e lo a w->qD ρ H v x ->
  ∃ H',PH.le H H'/\Sat bs N ρ H' e lo' a w/\qp H' f x:=by
 unfold Rh at h;split at h
 ·rename_i k n
  obtain⟨o,c,h⟩:=qV h;split at h
  ·rename_i e z rows
   obtain⟨h,_⟩:=zR h;refine⟨_,_,h,fun Lw bs N ρ H ev a w x s r=>?_⟩;obtain⟨H',b,d,g⟩:=s.toSatW.publish c r.1;exact⟨H',b,{ d with slots:=fun t=>(s.slots t).mono (jp _) b,width:=s.width,defers:=s.defers },g⟩
  exact h.elim
 obtain⟨p,h,hp⟩:=gu h;exact⟨_,_,h,fun Lw bs N ρ H e a w x s r=>⟨H,PH.le.refl H,s,hp _ _ _ r⟩⟩
theorem CL:∀ {cs:List FV} {lo:List AObj} {R:List PV->List AObj->Prop},PO cs lo R->∃ d lo',R d lo'/\∀ ⦃Lw:Nat⦄ (bs:(Base Lw)) (N:Nat) (ρ:List Value) (H:(PH Lw)) (e:Nat->FV) (a:Act) (w:World) (vs:List Value),Sat bs N ρ H e lo a w->zk ρ H cs vs ->
  ∃ H',PH.le H H'/\Sat bs N ρ H' e lo' a w/\qJ H' d vs
 | [],lo,R,h=>⟨[],lo,h,fun Lw bs N ρ H e a w vs s r=>⟨H,PH.le.refl H,s,by simp only[zk]at r; simp only[qJ]; exact r⟩⟩
 | v::cs,lo,R,h=>by
  simp only[PO]at h;obtain⟨p,i,h,j⟩:=Lk h;obtain⟨d,k,h,l⟩:=CL h;refine⟨_,_,h,fun Lw bs N ρ H e a w vs s r=>?_⟩;obtain⟨u,us,rfl,m,rs⟩:=r;obtain⟨H1,b,s1,f⟩:=j bs N ρ H e a w u s m;obtain⟨n,c,s2,g⟩:=l bs N ρ H1 e a w us s1 (rs.mono (jp _) b);exact⟨n,b.trans c,s2,by simp only[qJ]; exact⟨u,us,rfl,qp.mono c f,g⟩⟩
theorem Ll {lo:List AObj} {v:FV} {R:FV->List AObj->Prop} (h:Ri lo v R):∃ f lo',R f lo'/\∀ ⦃Lw:Nat⦄ (bs:(Base Lw)) (N:Nat) (ρ:List Value) (H:(PH Lw)) (e:Nat->FV) (a:Act) (w:World) (x:Value),Sat bs N ρ H e lo a w->qD ρ H v x ->
  ∃ H',PH.le H H'/\Sat bs N ρ H' e lo' a w/\qD ρ H' f x:=by
 unfold Ri at h;split at h
 ·rename_i k n
  obtain⟨o,i,h⟩:=qV h;split at h
  ·rename_i e z rows
   obtain⟨h,_⟩:=zR h;refine⟨_,_,h,fun Lw bs N ρ H ev a w x s r=>?_⟩;obtain⟨H',b,d,g⟩:=s.toSatW.publish i r.1;exact⟨H',b,{ d with slots:=fun t=>(s.slots t).mono (jp _) b,width:=s.width,defers:=s.defers },g⟩
  ·rename_i e z rows j u
   obtain⟨h,_⟩:=zR h;refine⟨_,_,h,fun Lw bs N ρ H ev a w x s r=>?_⟩;have s1:=s.toSatW.view i rfl (o':=.vec e z rows) rfl (fun v hv ok=>MZ ok)
   have l:k<lo.length:=(jG.1 i).1;have m:(lo.set k (AObj.vec e z rows))[k]? =some (AObj.vec e z rows):=by simp[l]
   obtain⟨H',b,d,g⟩:=s1.publish m r.1;rw[List.set_set]at d;exact⟨H',b,{ d with slots:=fun t=>(s.slots t).mono (jp _) b,width:=s.width,defers:=s.defers },g⟩
  exact h.elim
 ·rename_i c
  obtain⟨cs,h,p⟩:=bO h;obtain⟨y,lo',h,q⟩:=CL h;refine⟨_,_,h,fun Lw bs N ρ H e a w x s r=>?_⟩;obtain⟨vs,rfl,rc⟩:=r;obtain⟨H',b,d,g⟩:=q bs N ρ H e a w vs s (p _ _ _ rc);exact⟨H',b,d,by simp only[qD,qp]; exact⟨vs,rfl,g⟩⟩
 exact⟨_,_,h,fun Lw bs N ρ H e a w x s r=>⟨H,PH.le.refl H,s,r⟩⟩
theorem sD {P:Program} {E:Env} {lo:List AObj} {r:ResultVar} {R:FV->Prop} (h:Lm P E lo r R):∃ f,R f/\∀ ⦃Lw:Nat⦄ (bs:(Base Lw)) (N:Nat) (ρ:List Value) (H:(PH Lw)) (a:Act) (w:World),Sat bs N ρ H (qz E) lo a w ->
  ∃ v,(CN a.tmps r).run P w=.ok v w/\qD ρ H f v:=by
 cases r with
 | tmp t=>
  simp only[Lm,QZ]at h;exact⟨_,h,fun Lw bs N ρ H a w s=>⟨a.tmps.getD t undef,rfl,s.slots t⟩⟩
 | cell q t=>
  simp only[Lm,QZ]at h;obtain⟨c,h,d⟩:=QW h;refine⟨c,h,fun Lw bs N ρ H a w s=>?_⟩;obtain⟨i,u,e,b,g⟩:=d bs ρ H w _ s.toSatW (s.slots q);refine⟨u,?_,g⟩;simp only[Instr.loadAt,e,Instr.sureAddr,ka,kc,jZ]at b;simp only[CN,e,asAddr,ka,kc,jZ,b]
theorem CM {P:Program} {E:Env}:∀ {l:List ResultVar} {lo:List AObj} {R:List PV->Prop},PB P E lo l R->∃ c,R c/\c.length=l.length/\∀ ⦃Lw:Nat⦄ (bs:(Base Lw)) (N:Nat) (ρ:List Value) (H:(PH Lw)) (a:Act) (w:World),Sat bs N ρ H (qz E) lo a w ->
  ∃ (vs:List Value) (H':(PH Lw)) (lo':List AObj),(l.mapM (m:=Sem) (CN a.tmps)).run P w=.ok vs w/\qJ H' c vs/\PH.le H H'/\Sat bs N ρ H' (qz E) lo' a w
 | [],lo,R,h=>⟨[],h,rfl,fun Lw bs N ρ H a w s=>⟨[],H,lo,by simp,by simp[qJ],PH.le.refl H,s⟩⟩
 | r::rs,lo,R,h=>by
  simp only[PB]at h;obtain⟨f,h,k⟩:=sD h;obtain⟨x,n,h,o⟩:=Ll h;obtain⟨p,h,hp⟩:=gu h;obtain⟨c,h,hlen,q⟩:=CM h;refine⟨p::c,h,by simp[hlen],fun Lw bs N ρ H a w s=>?_⟩;obtain⟨v,hv,t⟩:=k bs N ρ H a w s;obtain⟨H1,d,s1,e⟩:=o bs N ρ H _ a w v s t;obtain⟨vs,u,g,i,j,b,s2⟩:=q bs N ρ H1 a w s1;refine⟨v::vs,u,g,?_,by simp only[qJ]; exact⟨v,vs,rfl,qp.mono b (hp _ _ _ e),j⟩,d.trans b,s2⟩;simp only[List.mapM_cons,ka,hv,jZ,i,kc]
theorem Mu {P:Program} {fn:Func} {E:Env} {lo:List AObj} {x:AX} {R:PV->Prop} (h:RD P fn R x E lo):∃ p,R p/\(x=.normal\/x=.ret) /\
  ∀ ⦃Lw:Nat⦄ (bs:(Base Lw)) (N:Nat) (ρ:List Value) (H:(PH Lw)) (a:Act) (w:World),Sat bs N ρ H (qz E) lo a w->∃ (v:Value) (H':(PH Lw)) (lo':List AObj),(results fn a.tmps).run P w=.ok v w/\qp H' p v/\PH.le H H'/\Sat bs N ρ H' (qz E) lo' a w:=by
 have key:∀ {x:AX},(x=.normal\/x=.ret)->(PB P E lo fn.results.toList fun vs=>match vs with
   | [v]=>R v
   | vs=>R (.tup vs))->∃ p,R p/\(x=.normal\/x=.ret) /\
  ∀ ⦃Lw:Nat⦄ (bs:(Base Lw)) (N:Nat) (ρ:List Value) (H:(PH Lw)) (a:Act) (w:World),Sat bs N ρ H (qz E) lo a w->∃ (v:Value) (H':(PH Lw)) (lo':List AObj),(results fn a.tmps).run P w=.ok v w/\qp H' p v/\PH.le H H'/\Sat bs N ρ H' (qz E) lo' a w:=by
  intro x m h;obtain⟨q,h,e,n⟩:=CM h;clear e;split at h
  ·rename_i p
   refine⟨p,h,m,fun Lw bs N ρ H a w s=>?_⟩;obtain⟨vs,H',lo',f,d,c,g⟩:=n bs N ρ H a w s;simp only[qJ]at d;obtain⟨v,_,rfl,r,rfl⟩:=d;refine⟨v,H',lo',?_,r,c,g⟩;rw[dX,Array.mapM_eq_mapM_toList];simp only[ka,Sem.run_map,f,jZ];rfl
  rename_i j;refine⟨_,h,m,fun Lw bs N ρ H a w s=>?_⟩;obtain⟨vs,H',lo',f,d,c,g⟩:=n bs N ρ H a w s;refine⟨.tuple vs.toArray,H',lo',?_,by simp only[qp]; exact⟨vs,rfl,d⟩,c,g⟩;rw[dX,Array.mapM_eq_mapM_toList];simp only[ka,Sem.run_map,f,jZ,kc];have:¬ vs.toArray.size=1:=by
   intro o;have k:=d.length;simp at o;rw[o]at k;cases q with
   | nil=>simp at k
   | cons a l=>cases l with
    | nil=>exact j a rfl
    | cons b l=>simp at k
  simp only[this,dif_neg,not_false_eq_true]
 cases x with
 | normal=>exact key (.inl rfl) h
 | exit i=>exact h.elim
 | ret=>exact key (.inr rfl) h
theorem UK:∀ (n:Nat) (args:List PV) (t:Nat),qz (Eu n args) t=match (if n<=t then args[t - n]? else none)with|some v=>SG v|none=>.top
 | n,[],t=>by simp[Eu,qz]
 | n,v::vs,t=>by
  simp only[Eu,qz];cases b:Nat.beq t n with
  | true=>
   have:=jn b;subst this;simp
  | false=>
   have c:t≠n:=fun e=>by subst e; simp[Nat.beq_refl]at b
   simp only;rw[UK (n+1) vs t];by_cases h:n<=t
   ·have a:n+1<=t:=by omega
    have d:t - n=(t - (n+1))+1:=by omega
    simp[h,a,d]
   have a:¬ n+1<=t:=by omega
   simp[h,a]
theorem qi.of_vcR {P:Program} {f:FuncId} {fn:Func} {args:List PV} {r:PV} {inl:List Nat} {R:PV->Prop} (hm:P.follows .mixedOrders=true) (he:Enters P f) (y:P.funcs[f]? =some fn) (d:LI inl fn args.length=true)
  (z:∀ (p:PV) (v:Value) ⦃Lw:Nat⦄ (H:(PH Lw)),R p->qp H p v->qp H r v) (h:PE P inl fn args R):qi P f args r:=by
 intro Lw H w vs A s;rw[he];refine⟨rfl,?_⟩;simp only[LI,ji,kde]at d;obtain⟨i,F⟩:=d;unfold PE at h;cases j:fn.body with
 | none=>simp[j]at i
 | some c=>
  simp only[j]at h i;refine calls_of_wp y j ?_;have G:=s.length;have sat:Sat { S:=Dw,w0:=w,H0:=H,r0:=[] } fn.ntmps [] H (qz (Eu 0 args)) [] { tmps:=vs.toArray++Array.replicate (fn.ntmps - vs.toArray.size) undef,defers:=[] } w:=by
   refine{ sath:=A,hlen:=rfl,pre:=jp _,objs:=fun k o v h=>by simp at h,excl:=fun k _ o _ v _ b h=>by simp at h,own:=fun k o v b h=>by simp at h,keep:=Keep.refl _ w,leH:=PH.le.refl H,newH:=fun b o v h=>.inl ⟨v,h⟩,slots:=fun t=>?_,width:=by simp; omega,defers:=rfl }
   rw[UK];simp only[jR,if_true,Nat.sub_zero];cases B:args[t]? with
   | none=>trivial
   | some p=>
    obtain⟨v,hv,l⟩:=s.get B;have m:=(jG.1 hv).1;have:(vs.toArray++Array.replicate (fn.ntmps - vs.toArray.size) undef).getD t undef=v:=by
     rw[jV,Array.getElem?_append_left (by simpa using m)];simp[hv]
    rw[this];exact NO l
  refine wp_mono (uq hm c _ _ _ i h _ [] H _ w rfl sat) fun e a w' p=>?_;obtain⟨x,ρ',H',E',lo',C,n,k⟩:=p;obtain⟨p,hp,q,g⟩:=Mu k;obtain⟨v,u,D,hv,l,E,s2⟩:=g _ _ ρ' H' a w' n;have Sk:∃ v,(results fn a.tmps).run P w'=.ok v w'/\(fun e w''=>∃ v H',e=Ending.returned v/\Calm H w H' w''/\qp H' r v) (.returned v) w':=
   ⟨v,hv,v,u,rfl,⟨s2.leH,s2.sath,s2.keep,fun b o v hv=>by
    rcases s2.newH b o v hv with h|h|h
    ·exact .inl h
    ·exact h.elim
    exact .inr h⟩,z p v u hp l⟩
  rcases q with rfl|rfl<;>cases e<;>simp only[LH]at C
  ·exact⟨n.defers,Sk⟩
  exact⟨n.defers,Sk⟩
theorem qi.of_vc {P:Program} {f:FuncId} {fn:Func} {args:List PV} {r:PV} {inl:List Nat} (hm:P.follows .mixedOrders=true) (he:Enters P f) (b:P.funcs[f]? =some fn) (a:LI inl fn args.length=true)
  (h:PE P inl fn args (fun v=>v=r)):qi P f args r:=
 qi.of_vcR (R:=fun v=>v=r) hm he b a (fun _ _ _ _ e x=>e ▸ x) h
end Ax
end
section
namespace Ax
open Go
variable {Lw:Nat}
def Ny (ρ:List Value) (lo:List AObj):Nat->Prop:=fun b=>∃ (k:Nat) (o:AObj) (v:Value),lo[k]? =some o/\ρ[k]? =some v/\o.live=true/\qC v=some b
theorem SatW.lend {bs:(Base Lw)} {ρ:List Value} {H:(PH Lw)} {lo:List AObj} {w:World} (s:SatW bs ρ H lo w):SatW { S:=Ny ρ lo,w0:=w,H0:=H,r0:=ρ } ρ H lo w where
 sath:=s.sath
 hlen:=s.hlen
 pre:=jp _
 objs:=s.objs
 excl:=s.excl
 own:=fun k o v b a hv c d=>.inl ⟨k,o,v,a,hv,c,d⟩
 keep:=Keep.refl _ w
 leH:=PH.le.refl H
 newH:=fun b o v h=>.inl ⟨v,h⟩
theorem SatW.back {bs:(Base Lw)} {ρ ρ':List Value} {H H':(PH Lw)} {lo lo':List AObj} {w w':World} (s:SatW bs ρ H lo w) (a:SatW { S:=Ny ρ lo,w0:=w,H0:=H,r0:=ρ } ρ' H' lo' w'):SatW bs ρ' H' lo' w':=by
 have c:∀ b,Ny ρ lo b->bs.S b\/bs.w0.heap.size<=b:=fun b ⟨k,o,v,d,hv,e,f⟩=>s.own k o v b d hv e f
 refine{ sath:=a.sath,hlen:=a.hlen,pre:=s.pre.trans a.pre,objs:=a.objs,excl:=a.excl,own:=fun k o v b d hv e f=>?_,keep:=s.keep.step a.keep c,leH:=s.leH.trans a.leH,newH:=fun b o v hv=>?_ }
 ·rcases a.own k o v b d hv e f with h|h
  ·exact c b h
  exact .inr (Nat.le_trans s.keep.size h)
 rcases a.newH b o v hv with ⟨u,hu⟩|h|h
 ·exact s.newH b o u hu
 ·exact .inr (c b h)
 exact .inr (.inr (Nat.le_trans s.keep.size h))
def bQ:Nat->List FV->Env
 | _,[]=>[]
 | n,v::vs=>(n,v)::bQ (n+1) vs
theorem sK:∀ (n:Nat) (args:List FV) (t:Nat),qz (bQ n args) t=(if n<=t then args[t - n]? else none).getD .top
 | n,[],t=>by simp[bQ,qz]
 | n,v::vs,t=>by
  simp only[bQ,qz];cases b:Nat.beq t n with
  | true=>
   have:=jn b;subst this;simp
  | false=>
   have c:t≠n:=fun e=>by subst e; simp[Nat.beq_refl]at b
   simp only;rw[sK (n+1) vs t];by_cases h:n<=t
   ·have a:n+1<=t:=by omega
    have d:t - n=(t - (n+1))+1:=by omega
    simp[h,a,d]
   have a:¬ n+1<=t:=by omega
   simp[h,a]
theorem zk.get {ρ:List Value} {H:(PH Lw)}:∀ {cs:List FV} {vs:List Value} {i:Nat} {c:FV},zk ρ H cs vs->cs[i]? =some c->∃ v,vs[i]? =some v/\qD ρ H c v
 | [],_,_,_,_,h=>by simp at h
 | c::cs,vs,i,c',x,h=>by
  obtain⟨v,a,rfl,r,rs⟩:=x;cases i with
  | zero=>simp at h; subst h; exact⟨v,by simp,r⟩
  | succ i=>simp at h; obtain⟨u,hu,b⟩:=rs.get h; exact⟨u,by simpa using hu,b⟩
def PR (v1 v2:FV) (R:FV->Prop):Prop:=
 match v1 with
 | .p p1=>match v2 with
  | .p p2=>R (.p (.tup [p1,p2]))
  | .tsl _ rows=>R (.p (.tup [p1,.sl rows]))
  | v2=>R (.pair (.p p1) v2)
 | .tsl _ rows1=>match v2 with
  | .p p2=>R (.p (.tup [.sl rows1,p2]))
  | .tsl _ rows=>R (.p (.tup [.sl rows1,.sl rows]))
  | v2=>R (.pair (.p (.sl rows1)) v2)
 | v1=>match v2 with
  | .tsl _ rows=>R (.pair v1 (.p (.sl rows)))
  | v2=>R (.pair v1 v2)
def Sm (P:Program) (E:Env) (lo:List AObj):List ResultVar->(List PV->Prop)->Prop
 | [],R=>R []
 | r::rs,R=>Lm P E lo r fun v=>BF v fun v=>Sm P E lo rs fun l=>R (v::l)
theorem Lt {v1 v2:FV} {R:FV->Prop} (h:PR v1 v2 R):∃ v,R v/\∀ ⦃Lw:Nat⦄ (ρ:List Value) (H:(PH Lw)) (x y:Value),qD ρ H v1 x->qD ρ H v2 y->qD ρ H v (.tuple #[x,y]):=by
 have pp:∀ (c d:PV) (ρ:List Value) ⦃Lw:Nat⦄ (H:(PH Lw)) (x y:Value),qp H c x->qp H d y->qD ρ H (.p (.tup [c,d])) (.tuple #[x,y]):=fun c d ρ Lw H x y a b=>by
  simp only[qD,qp];exact⟨[x,y],rfl,by simp only[qJ]; exact⟨x,_,rfl,a,y,[],rfl,b,rfl⟩⟩
 unfold PR at h;split at h
 ·split at h
  ·exact⟨_,h,fun Lw ρ H x y a b=>pp _ _ ρ H x y a b⟩
  ·exact⟨_,h,fun Lw ρ H x y a b=>pp _ _ ρ H x y a b.2⟩
  exact⟨_,h,fun Lw ρ H x y a b=>⟨x,y,rfl,a,b⟩⟩
 ·split at h
  ·exact⟨_,h,fun Lw ρ H x y a b=>pp _ _ ρ H x y a.2 b⟩
  ·exact⟨_,h,fun Lw ρ H x y a b=>pp _ _ ρ H x y a.2 b.2⟩
  exact⟨_,h,fun Lw ρ H x y a b=>⟨x,y,rfl,a.2,b⟩⟩
 split at h
 ·exact⟨_,h,fun Lw ρ H x y a b=>⟨x,y,rfl,a,b.2⟩⟩
 exact⟨_,h,fun Lw ρ H x y a b=>⟨x,y,rfl,a,b⟩⟩
theorem DI {P:Program} {E:Env} {lo:List AObj}:∀ {l:List ResultVar} {R:List PV->Prop},Sm P E lo l R->∃ b,R b/\b.length=l.length/\∀ ⦃Lw:Nat⦄ (bs:(Base Lw)) (N:Nat) (ρ:List Value) (H:(PH Lw)) (a:Act) (w:World),Sat bs N ρ H (qz E) lo a w ->
  ∃ vs:List Value,(l.mapM (m:=Sem) (CN a.tmps)).run P w=.ok vs w/\qJ H b vs
 | [],R,h=>⟨[],h,rfl,fun Lw bs N ρ H a w s=>⟨[],by simp,by simp[qJ]⟩⟩
 | r::rs,R,h=>by
  simp only[Sm]at h;obtain⟨f,h,e⟩:=sD h;obtain⟨p,h,hp⟩:=gu h;obtain⟨b,h,hlen,g⟩:=DI h;refine⟨p::b,h,by simp[hlen],fun Lw bs N ρ H a w s=>?_⟩;obtain⟨v,hv,i⟩:=e bs N ρ H a w s;obtain⟨vs,c,d⟩:=g bs N ρ H a w s;refine⟨v::vs,?_,by simp only[qJ]; exact⟨v,vs,rfl,hp _ _ _ i,d⟩⟩;simp only[List.mapM_cons,ka,hv,jZ,c,kc]
def Rj (P:Program) (fn:Func) (R:FV->List AObj->Prop):KA:=fun x E lo=>match x with
 | .exit _=>False
 | _=>match fn.results.toList with
  | [r]=>Lm P E lo r fun v=>R v lo
  | []=>R (.p (.tup [])) lo
  | [r1,r2]=>Lm P E lo r1 fun v1=>Lm P E lo r2 fun v2=>PR v1 v2 fun v=>R v lo
  | r::rs=>Sm P E lo (r::rs) fun vs=>R (.p (.tup vs)) lo
def SL (P:Program) (inl:List Nat) (fn:Func) (args:List FV) (lo:List AObj) (R:FV->List AObj->Prop):Prop:=
 match fn.body with
 | some c=>sL lo 0 fun nb=>vc P inl fn.ntmps nb c (Rj P fn R) (bQ 0 args) lo
 | none=>False
theorem CO {P:Program} {fn:Func} {E:Env} {lo:List AObj} {x:AX} {R:FV->List AObj->Prop} (h:Rj P fn R x E lo):∃ p,R p lo/\(x=.normal\/x=.ret) /\
  ∀ ⦃Lw:Nat⦄ (bs:(Base Lw)) (N:Nat) (ρ:List Value) (H:(PH Lw)) (a:Act) (w:World),Sat bs N ρ H (qz E) lo a w->∃ v,(results fn a.tmps).run P w=.ok v w/\qD ρ H p v:=by
 have key:∀ {x:AX},(x=.normal\/x=.ret)->(match fn.results.toList with
  | [r]=>Lm P E lo r fun v=>R v lo
  | []=>R (.p (.tup [])) lo
  | [y,z]=>Lm P E lo y fun v1=>Lm P E lo z fun v2=>PR v1 v2 fun v=>R v lo
  | r::rs=>Sm P E lo (r::rs) fun vs=>R (.p (.tup vs)) lo)->∃ p,R p lo/\(x=.normal\/x=.ret) /\
  ∀ ⦃Lw:Nat⦄ (bs:(Base Lw)) (N:Nat) (ρ:List Value) (H:(PH Lw)) (a:Act) (w:World),Sat bs N ρ H (qz E) lo a w->∃ v,(results fn a.tmps).run P w=.ok v w/\qD ρ H p v:=by
  intro x g h;split at h
  ·rename_i r c
   obtain⟨f,h,d⟩:=sD h;refine⟨f,h,g,fun Lw bs N ρ H a w s=>?_⟩;obtain⟨v,hv,F⟩:=d bs N ρ H a w s;refine⟨v,?_,F⟩;rw[dX,Array.mapM_eq_mapM_toList,c];simp only[List.mapM_cons,List.mapM_nil,ka,Sem.run_map,hv,jZ,kc];rfl
  ·rename_i c
   refine⟨_,h,g,fun Lw bs N ρ H a w s=>⟨.tuple #[],?_,by simp only[qD,qp]; exact⟨[],rfl,rfl⟩⟩⟩;rw[dX,Array.mapM_eq_mapM_toList,c];simp only[List.mapM_nil,ka,Sem.run_map,jZ,kc];rfl
  ·rename_i y z c
   obtain⟨f1,h,j⟩:=sD h;obtain⟨f2,h,k⟩:=sD h;obtain⟨f,h,d⟩:=Lt h;refine⟨f,h,g,fun Lw bs N ρ H a w s=>?_⟩;obtain⟨v1,m,n⟩:=j bs N ρ H a w s;obtain⟨v2,o,q⟩:=k bs N ρ H a w s;refine⟨.tuple #[v1,v2],?_,d _ _ _ _ n q⟩;rw[dX,Array.mapM_eq_mapM_toList,c];simp only[List.mapM_cons,List.mapM_nil,ka,Sem.run_map,m,o,jZ,kc];rfl
  rename_i r rs e A c;obtain⟨G,h,t,d⟩:=DI h;refine⟨_,h,g,fun Lw bs N ρ H a w s=>?_⟩;obtain⟨vs,u,B⟩:=d bs N ρ H a w s;refine⟨.tuple vs.toArray,?_,by simp only[qD,qp]; exact⟨vs,rfl,B⟩⟩;rw[dX,Array.mapM_eq_mapM_toList,c];simp only[ka,Sem.run_map,u,jZ,kc];have:¬ vs.toArray.size=1:=by
   intro C;simp at C;have D:vs.length=(r::rs).length:=by rw[B.length,t]
   rw[C]at D;cases rs with
   | nil=>exact e rfl
   | cons b l=>simp at D
  simp only[this,dif_neg,not_false_eq_true]
 cases x with
 | normal=>exact key (.inl rfl) h
 | exit i=>exact h.elim
 | ret=>exact key (.inr rfl) h
theorem gS.of_vc {P:Program} {f:FuncId} {fn:Func} {args:List FV} {lo:List AObj} {R:FV->List AObj->Prop} {inl:List Nat} (hm:P.follows .mixedOrders=true) (he:Enters P f) (q:P.funcs[f]? =some fn) (d:LI inl fn args.length=true)
  (h:SL P inl fn args lo R):gS P f args lo R:=by
 intro Lw bs ρ H w vs s o;rw[he];refine⟨rfl,?_⟩;simp only[LI,ji,kde]at d;obtain⟨i,B⟩:=d;unfold SL at h;cases j:fn.body with
 | none=>simp[j]at i
 | some c=>
  simp only[j]at h i;have h:=zh h;rw[jw]at h;refine calls_of_wp q j ?_;have C:=o.length;have sat:Sat { S:=Ny ρ lo,w0:=w,H0:=H,r0:=ρ } fn.ntmps ρ H (qz (bQ 0 args)) lo { tmps:=vs.toArray++Array.replicate (fn.ntmps - vs.toArray.size) undef,defers:=[] } w:=by
   refine{ s.lend with slots:=fun t=>?_,width:=by simp; omega,defers:=rfl }
   rw[sK];simp only[jR,if_true,Nat.sub_zero];cases u:args[t]? with
   | none=>trivial
   | some p=>
    obtain⟨v,hv,l⟩:=o.get u;have m:=(jG.1 hv).1;have:(vs.toArray++Array.replicate (fn.ntmps - vs.toArray.size) undef).getD t undef=v:=by
     rw[jV,Array.getElem?_append_left (by simpa using m)];simp[hv]
    rw[this];exact l
  refine wp_mono (uq hm c _ _ _ i h _ ρ H _ w s.hlen sat) fun e a w' p=>?_;obtain⟨x,ρ',H',E',lo',y,b,k⟩:=p;obtain⟨p,z,n,g⟩:=CO k;obtain⟨v,hv,l⟩:=g _ _ ρ' H' a w' b;have Sk:∃ v,(results fn a.tmps).run P w'=.ok v w'/\(fun A w''=>∃ v r lo',A=Ending.returned v/\fW bs ρ H r lo' v w''/\R r lo') (.returned v) w':=
   ⟨v,hv,v,p,lo',rfl,⟨ρ',H',b.pre,b.leH,s.back b.toSatW,l⟩,z⟩
  rcases n with rfl|rfl<;>cases e<;>simp only[LH]at y
  ·exact⟨b.defers,Sk⟩
  exact⟨b.defers,Sk⟩
end Ax
end
section
namespace Ax
open Go
inductive Val where
 | mk (kind:Int) (b:Bool) (i:Int) (s:List UInt8) (l:List Val) (k:List (List UInt8))
def qy (l:List (List UInt8)):List (List PV):=l.map fun s=>[.str s]
mutual
def Val.cells:Val->List PV
 | .mk k b i s l ks=>[.int .i64 k,.bool b,.int .i64 i,.str s,.sl (Val.rows l),.sl (qy ks)]
def Val.rows:List Val->List (List PV)
 | []=>[]
 | v::l=>v.cells::Val.rows l
end
def vals (l:List Val):List (List PV):=l.map Val.cells
theorem rows_eq:∀ l:List Val,Val.rows l=vals l
 | []=>rfl
 | v::l=>by simp only[Val.rows,vals,jk]; rw[rows_eq l]; rfl
@[simp] theorem NN (l:List (List UInt8)):(qy l).length=l.length:=by simp[qy]
@[simp] theorem NR (l:List Val):(vals l).length=l.length:=by simp[vals]
theorem mo (v:Val):v.cells.length=6:=by cases v; rfl
theorem LG (n:Int) (a:-9223372036854775808<=n) (b:n<=9223372036854775807):kwr .i64 n=n:=IntWalk.i64_in n ⟨a,b⟩
instance:Inhabited Val:=⟨.mk 0 false 0 [] [] []⟩
end Ax
end
section
namespace Ax
open Go
def Rx:List (List UInt8)->Nat
 | []=>0
 | k::l=>k.length+1+Rx l
mutual
def Val.big:Val->Nat
 | .mk _ _ _ s l ks=>1+s.length+Rp l+Rx ks
def Rp:List Val->Nat
 | []=>0
 | v::l=>Val.big v+Rp l
end
end Ax
end
section
namespace Ax
open Go
end Ax
end
section
namespace Ax
open Go
end Ax
end
section
namespace Ax
open Go
variable {Lw:Nat}
end Ax
end
section
namespace Go.Proofs
open Go Go.Shelf Go.RowKit Ax
variable {P:Program} {ρ:Ren}
def Hg (l:List UInt8) (v:Value) (w:World) (e:Ending) (w':World):Prop:=
 e=.returned (.string ⟨l.toArray⟩)/\(w'=w.drew\/(∃ g n,qC v=some g/\w'=w.drew.freeze ⟨g,0,none⟩ n)\/∃ o,w'=w.drew.alloc o)
end Go.Proofs
end
section
namespace Ax
open Go Go.Proofs Go.RowKit
variable {Lw:Nat}
structure Shut (v:Value) (w w':World):Prop where
 os:w'.os=w.os
 tape:w'.tape=w.tape
 output:w'.output=w.output
 size:w.heap.size<=w'.heap.size
 block:∀ k,k<w.heap.size->qC v≠some k->w'.heap[k]? =w.heap[k]?
 cell:∀ a x,w.cell? a=some x->w'.cell? a=some x
theorem Shut.of {l:List UInt8} {v:Value} {w w':World} {e:Ending} (h:Hg l v w e w'):Shut v w w':=by
 obtain⟨_,rfl|⟨g,n,j,rfl⟩|⟨o,rfl⟩⟩:=h
 ·exact⟨rfl,rfl,rfl,jv _,fun _ _ _=>rfl,fun _ _ h=>h⟩
 ·have m:∀ k,k≠g->(w.drew.freeze ⟨g,0,none⟩ n).heap[k]? =w.heap[k]?:=by
   intro k f;unfold World.freeze;split
   ·rfl
   simp only[Array.getElem?_modify];rw[if_neg (by omega)]; rfl
  refine⟨?_,?_,?_,?_,fun k _ f=>m k (fun e=>f (by rw[j,e])),fun a x b=>?_⟩
  ·unfold World.freeze; split<;>rfl
  ·unfold World.freeze; split<;>rfl
  ·unfold World.freeze; split<;>rfl
  ·unfold World.freeze; split
   ·exact jv _
   simp
  unfold World.freeze;split
  ·exact b
  unfold World.cell? at b ⊢;split at b
  ·rename_i c p q r
   have i:w.drew.heap[a.block]? =some (.cells c p q):=r;simp only[Array.getElem?_modify,i,Option.map_some];by_cases d:g=a.block
   ·simp only[d,if_true]; exact b
   simp only[d,if_false]; exact b
  exact absurd b (by simp)
 refine⟨rfl,rfl,rfl,by simp,fun k f _=>?_,fun a x b=>?_⟩
 ·exact Go.RowKit.Below.heap_alloc w.drew o k f
 rw[World.cell?_alloc_lt (h:=World.block_lt_of_cell? w.drew a b)]; exact b
theorem SatW.shut {bs:(Base Lw)} {ρ:List Value} {H:(PH Lw)} {lo:List AObj} {w w':World} (s:SatW bs ρ H lo w) {j:Nat} {v:Value} {e:TypeId} {z n:Nat} (p:lo[j]? =some (.tail e z n)) (hv:ρ[j]? =some v)
  (h:Shut v w w') (f:∀ b o x,qC v=some b->H b o=some x->∃ m,x=.int .u8 m):SatW bs ρ H (lo.set j .dead) w' where
 sath:=⟨fun b o x c=>⟨h.cell _ _ (s.sath.cell b o x c).1,(s.sath.cell b o x c).2⟩,s.sath.root,Nat.le_trans s.sath.low h.size,fun b o x c A=>by
  by_cases d:qC v=some b
  ·exact .inl (f b o x d c)
  exact(s.sath.nf b o x c A).block (h.block b (s.sath.lt c) d)⟩
 hlen:=by simpa using s.hlen
 pre:=s.pre
 objs:=fun i o u a hu=>by
  rw[jF]at a;split at a
  ·split at a
   ·cases a; trivial
   cases a
  ·rename_i g
   cases q:o.live with
   | false=>cases o<;>simp[AObj.live]at q; trivial
   | true=>
    refine(s.objs i o u a hu).keep (jp _) (PH.le.refl H) (fun b d l=>h.block b l fun e=>?_) (fun _ _ _ _ B=>B)
    exact s.excl i j o _ u v b a p hu hv (fun e=>g e.symm) q rfl d e
 excl:=s.kill j |>.excl
 own:=s.kill j |>.own
 keep:=by
  refine⟨h.os.trans s.keep.os,h.tape.trans s.keep.tape,h.output.trans s.keep.output,Nat.le_trans s.keep.size h.size,fun k r t=>?_⟩;rw[h.block k (Nat.lt_of_lt_of_le r s.keep.size) fun e=>?_]
  ·exact s.keep.block k r t
  rcases s.own j _ v k p hv rfl e with y|y
  ·exact t y
  omega
 leH:=s.leH
 newH:=s.newH
theorem gS.string {P:Program} {f:FuncId} {T E:TypeId} (q:∀ args w,(callFunc f args).run P w=.ok (.enter f args) w)
  (J:∀ (b:Nat) (l:List UInt8) (w:World) (p v:Value),w.heap[b]? =some (.cells #[p,v] T (0,0))->w.ownsRow 0 E 1 v l.length (Lib.byteCells l)->l≠[] ->
   Calls P f #[.pointer (some ⟨b,0,none⟩)] w (Hg l v w))
  {k j:Nat} {a:FV} {bs:List UInt8} {lo:List AObj} {n:Nat} {R:FV->List AObj->Prop} (K:lo[k]? =some (.box T [a,.tsl j (zu bs)])) (F:lo[j]? =some (.tail E 1 n))
  (G:bs≠[]) (h:R (.p (.str bs)) (lo.set j .dead)):gS P f [.ptr k 0] lo R:=by
 intro Lw L ρ H w vs s M;obtain⟨u,_,rfl,N,rfl⟩:=M;obtain⟨b,B,rfl⟩:=N;rw[show([Value.pointer (some ⟨b,0,none⟩)]:List Value).toArray = #[.pointer (some ⟨b,0,none⟩)]from rfl,q];refine⟨rfl,?_⟩;obtain⟨b',vs,O,Q,r,_⟩:=s.objs k _ _ K B;cases O;simp only[zk]at r;obtain⟨p,_,rfl,_,v,_,rfl,⟨hv,d⟩,rfl⟩:=r;obtain⟨xs,c,S⟩:=s.objs j _ v F hv;have C:n=bs.length/\xs=Lib.byteCells bs:=by
  simp only[qp]at d;rcases d with ⟨m,_⟩|⟨g,o,z,cap,rfl,_,U⟩
  ·exact absurd (by simpa[zu]using m) G
  rcases c.2 with ⟨m,_⟩|⟨g',I,cur,m,_⟩
  ·cases m
  simp only[Value.slice.injEq,Option.some.injEq,Addr.mk.injEq]at m;obtain⟨⟨rfl,rfl,_⟩,V,_⟩:=m;have t:n=bs.length:=by rw[← V]; simp[zu]
  refine⟨t,?_⟩;have X:=c.1;have hcell:=UW s.sath U;refine List.ext_getElem (by rw[X,Lib.byteCells_length,t,Nat.mul_one]) fun j A y=>?_;have D:j<bs.length:=by rw[Lib.byteCells_length]at y; exact y
  have c1:=c.cells (g:=g) rfl j _ (jf A);rw[hcell j D]at c1;simp only[Option.some.injEq]at c1;rw[← c1];simp[Lib.byteCells]
 obtain⟨rfl,rfl⟩:=C;refine(J b bs w p v Q c G).mono fun e w' hp=>?_;exact⟨_,.p (.str bs),lo.set j .dead,hp.1,⟨ρ,H,jp _,PH.le.refl H,s.shut F hv (Shut.of hp) (fun b o x B i=>by
  obtain⟨Y,a2⟩:=S b B;have Z:o<(Lib.byteCells bs).length:=by
   rw[Lib.byteCells_length];rcases Nat.lt_or_ge o (bs.length * 1)with A|A
   ·omega
   rw[a2 o A]at i; cases i
  have y:=Y o _ (jf Z);rw[i]at y;rw[Option.some.inj y];simp[Lib.byteCells]),by simp[qD,qp]⟩,h⟩
theorem SatH.below {H:(PH Lw)} {w w':World} (s:SatH H w) (h:Below w.heap.size w w'):Calm H w H w':=
 ⟨PH.le.refl H,s.block h.size fun b _ _ hv=>h.block b (s.lt hv),⟨h.os,h.tape,h.output,h.size,fun k a _=>h.block k a⟩,fun _ _ v hv=>.inl ⟨v,hv⟩⟩
end Ax
end
section
namespace Ax
open Go
variable {Lw:Nat}
mutual
def PV.norm:PV->PV
 | .nilsl=>.sl []
 | .agg cs=>.agg (Uw cs)
 | .tup cs=>.tup (Uw cs)
 | .sl rows=>.sl (Df rows)
 | v=>v
def Uw:List PV->List PV
 | []=>[]
 | c::cs=>c.norm::Uw cs
def Df:List (List PV)->List (List PV)
 | []=>[]
 | r::rs=>Uw r::Df rs
end
theorem sA:∀ rows:List (List PV),(Df rows).length=rows.length
 | []=>rfl
 | _::l=>by simp[Df,sA l]
theorem Zn:∀ cs:List PV,(Uw cs).length=cs.length
 | []=>rfl
 | _::l=>by simp[Uw,Zn l]
mutual
theorem qp.norm {H:(PH Lw)}:∀ {c:PV} {v:Value},qp H c v->qp H c.norm v
 | .nilsl,v,h=>by simp only[PV.norm,qp]at *; exact .inl ⟨trivial,.inl h⟩
 | .agg cs,v,h=>by
  simp only[PV.norm,qp]at *;obtain⟨vs,e,r⟩:=h;exact⟨vs,e,qJ.norm r⟩
 | .tup cs,v,h=>by
  simp only[PV.norm,qp]at *;obtain⟨vs,e,r⟩:=h;exact⟨vs,e,qJ.norm r⟩
 | .sl rows,v,h=>by
  simp only[PV.norm,qp]at *;rcases h with ⟨rfl,h⟩|⟨b,o,z,cap,e,hc,r⟩
  ·exact .inl ⟨rfl,h⟩
  exact .inr ⟨b,o,z,cap,by rw[sA]; exact e,by rw[sA]; exact hc,fa.norm r⟩
 | .bool _,_,h|.int ..,_,h|.str _,_,h|.nilp,_,h|.fn _,_,h|.nilfn,_,h|.nili,_,h|.nilmap,_,h|.ifc ..,_,h|.hp _,_,h|.clo ..,_,h|.bfn ..,_,h|.ifo ..,_,h|.nsl _,_,h=>by
  simpa only[PV.norm]using h
theorem qJ.norm {H:(PH Lw)}:∀ {cs:List PV} {vs:List Value},qJ H cs vs->qJ H (Uw cs) vs
 | [],_,h=>by simpa only[Uw]using h
 | c::cs,vs,h=>by
  simp only[Uw,qJ]at *;obtain⟨v,vs',e,r,rs⟩:=h;exact⟨v,vs',e,qp.norm r,qJ.norm rs⟩
theorem fa.norm {H:(PH Lw)} {b z:Nat}:∀ {rows:List (List PV)} {o:Nat},fa H b z o rows->fa H b z o (Df rows)
 | [],_,h=>by simpa only[Df]using h
 | r::rs,o,h=>by
  simp only[Df,fa]at *;obtain⟨e,⟨vs,q,c⟩,rr⟩:=h;exact⟨by rw[Zn]; exact e,⟨vs,qJ.norm q,c⟩,fa.norm rr⟩
end
theorem qi.norm {P:Program} {f:FuncId} {args:List PV} {r a:PV} (h:qi P f args r) (e:r.norm=a):qi P f args a:=by
 subst e;intro Lw H w vs b d;have:=h H w vs b d;generalize (callFunc f vs.toArray).run P w=x at *;cases x with
 | ok n w'=>
  cases n<;>simp only[tL]at this ⊢ <;> try exact this
  ·obtain⟨H',c,r⟩:=this; exact⟨H',c,qp.norm r⟩
  exact⟨this.1,this.2.mono fun g w'' ⟨v,H',e,c,r⟩=>⟨v,H',e,c,qp.norm r⟩⟩
 | halt x w'=>exact this
theorem qi.args {P:Program} {f:FuncId} {args a:List PV} {r:PV} (h:qi P f a r) (e:Uw args=a):qi P f args r:=by
 subst e;exact fun Lw H w vs b c=>h H w vs b (qJ.norm c)
end Ax
end
section
namespace Ax
open Go
section
variable {A R S:Type}
def chk (b:Bool) (k:Option R):Option R:=match b with|true=>k|false=>none
theorem qL {b:Bool} {k:Option R} {r:R} (h:chk b k=some r):b=true/\k=some r:=by
 cases b with
 | true=>exact⟨rfl,h⟩
 | false=>cases h
def bnd (o:Option A) (k:A->Option R):Option R:=match o with|some a=>k a|none=>none
theorem GP {o:Option A} {k:A->Option R} {r:R} (h:bnd o k=some r):∃ x,o=some x/\k x=some r:=by
 cases o with
 | some a=>exact⟨a,rfl,h⟩
 | none=>cases h
theorem uU {c:Bool} {a b:Option R} {r:R} (h:(bif c then a else b)=some r) (d:c=true):a=some r:=by subst d; exact h
theorem uT {c:Bool} {a b:Option R} {r:R} (h:(bif c then a else b)=some r) (d:c=false):b=some r:=by subst d; exact h
def idx (l:List A) (i:Int):Option A:=if 0<=i then l[i.toNat]? else none
theorem zq {l:List A} {i:Int} {x:A} (h:idx l i=some x):0<=i/\l[i.toNat]? =some x:=by
 unfold idx at h;split at h
 ·exact⟨by assumption,h⟩
 cases h
def qG [Inhabited A] (g:Bool) (o:Option A):Option A:=bif g then o else some default
theorem qa [Inhabited A] {g:Bool} {o:Option A} {x:A} (h:qG g o=some x) (a:g=true):o=some x:=by subst a; exact h
def Xe (i:Int):Option Nat:=if 0<=i then some i.toNat else none
theorem zX {i:Int} {n:Nat} (h:Xe i=some n):i=n:=by
 unfold Xe at h;split at h
 ·cases h; omega
 cases h
def SI (i:Int):Option UInt8:=if 0<=i/\i<256 then some (UInt8.ofNat i.toNat)else none
theorem Ef {i:Int} {b:UInt8} (h:SI i=some b):i=(b.toNat:Int):=by
 unfold SI at h;split at h
 ·cases h
  simp only[UInt8.toNat_ofNat'];omega
 cases h
def qU (B:(S->Option R)->S->Option R):Nat->S->Option R
 | 0,_=>none
 | n+1,s=>B (qU B n) s
end
structure Codec (A:Type) where
 cells:A->List PV
 rows:List A->List (List PV)
 z:Nat
 hrows:∀ l,rows l=l.map cells
 hz:∀ a,(cells a).length=z
 hone:∀ a,(cells a).all Fp=true
namespace Codec
variable {A:Type} (C:Codec A)
theorem at_ {l:List A} {i:Int} {x:A} (h:idx l i=some x):0<=i/\(C.rows l)[i.toNat]? =some (C.cells x)/\(C.cells x).length=C.z:=by
 obtain⟨a,b⟩:=zq h;exact⟨a,by rw[C.hrows]; simp[b],C.hz x⟩
theorem length (l:List A):(C.rows l).length=l.length:=by rw[C.hrows]; simp
theorem append (a b:List A):C.rows a++C.rows b=C.rows (a++b):=by simp[C.hrows]
theorem take (l:List A) (n:Nat):(C.rows l).take n=C.rows (l.take n):=by simp[C.hrows]
theorem drop (l:List A) (n:Nat):(C.rows l).drop n=C.rows (l.drop n):=by simp[C.hrows]
theorem cut (l:List A) (n m:Nat):((C.rows l).take n).drop m=C.rows ((l.take n).drop m):=by simp[C.hrows]
theorem wide (l:List A):∀ r∈C.rows l,r.length=C.z:=by
 intro r b;rw[C.hrows]at b;obtain⟨a,_,rfl⟩:=List.mem_map.1 b;exact C.hz a
theorem one (l:List A):∀ r∈C.rows l,r.length=C.z/\r.all Fp=true:=by
 intro r b;rw[C.hrows]at b;obtain⟨a,_,rfl⟩:=List.mem_map.1 b;exact⟨C.hz a,C.hone a⟩
theorem madeN (x:A) (n:Nat) {a:List PV} (h:Be a (C.cells x)):List.replicate n a=C.rows (List.replicate n x)\/Xf (List.replicate n a) (C.rows (List.replicate n x)):=by
 rw[C.hrows];refine .inr ?_
 induction n with
 | zero=>trivial
 | succ n ih=>simp only[List.replicate_succ,jk,Xf]; exact⟨h,by simpa using ih⟩
end Codec
def HM (k:IntKind) (l:List Int):List (List PV):=l.map fun n=>[PV.int k n]
def rE:Codec (List UInt8):={ cells:=fun s=>[.str s],rows:=qy,z:=1,hrows:=fun _=>rfl,hz:=fun _=>rfl,hone:=fun _=>rfl }
def nO:Codec UInt8:={ cells:=fun b=>[.int .u8 b.toNat],rows:=zu,z:=1,hrows:=fun _=>rfl,hz:=fun _=>rfl,hone:=fun _=>rfl }
theorem Val.one (v:Val):v.cells.all Fp=true:=by cases v; rfl
def xV:Codec Val:={ cells:=Val.cells,rows:=Val.rows,z:=6,hrows:=fun l=>rows_eq l,hz:=mo,hone:=Val.one }
theorem Bu {a:List PV} (h:a.all Fp=true):∀ c∈a,Fp c=true:=by simpa using h
theorem xK {n b:Nat} (h:decide (n * b<=140737488355328)=true) (a:1<=b):n<=9223372036854775807:=by
 have:=kod h;have:n * 1<=n * b:=Nat.mul_le_mul_left n a;omega
theorem qi.leArgs {P:Program} {f:FuncId} {args a:List PV} {r:PV} (h:qi P f a r) (e:Be args a):qi P f args r:=
 fun Lw H w vs b c=>h H w vs b (mw e c)
theorem qi.le {P:Program} {f:FuncId} {args:List PV} {r a:PV} (h:qi P f args r) (e:Sw r a):qi P f args a:=by
 intro Lw H w vs b d;have:=h H w vs b d;generalize (callFunc f vs.toArray).run P w=x at *;cases x with
 | ok n w'=>
  cases n<;>simp only[tL]at this ⊢ <;> try exact this
  ·obtain⟨H',c,r⟩:=this; exact⟨H',c,Za e r⟩
  exact⟨this.1,this.2.mono fun i w'' ⟨v,H',g,c,r⟩=>⟨v,H',g,c,Za e r⟩⟩
 | halt x w'=>exact this
theorem zd.fn {P:Program} (inl:List Nat) {N nb:Nat} {body:Code} {K:KA} {E:Env} {lo:List AObj} {S R:Type} (fr:S->Env) (l:S->List AObj) {B:(S->Option R)->S->Option R} {n:Nat} {m:S} {r:R}
  (h:qU B n m=some r) (hw:Us nb E lo (fr m) (l m))
  (round:∀ (next:S->Option R) (s:S),B next s=some r->vc P inl N nb body (fun x E' lo'=>match x with
   | .normal=>∃ c,next c=some r/\Us nb E' lo' (fr c) (l c)
   | .exit i=>K (.exit i) E' lo'
   | .ret=>K .ret E' lo') (fr s) (l s)):zd P inl N nb body K E lo:=by
 intro hm y Lw bs ρ H a w z sat;subst z;obtain⟨ρ',d⟩:=hw.sat sat;refine wp_loop_ghost (I:=fun n a w=>∃ s ρ H,qU B n s=some r/\Sat bs N ρ H (qz (fr s)) (l s) a w) n ⟨m,ρ',H,h,d⟩ fun n a w ⟨s,ρ,H,t,sat⟩=>?_;cases n with
 | zero=>cases t
 | succ n=>
  refine wp_mono (uq hm body _ _ _ y (round (qU B n) s t) bs ρ H a w rfl sat) fun e a w p=>?_;obtain⟨x,ρ2,o,u,f,v,b,k⟩:=p;cases x<;>cases e<;>simp only[LH]at v
  ·obtain⟨c,g,q⟩:=k
   obtain⟨ρ3,j⟩:=q.sat b;exact⟨n,Nat.lt_succ_self _,c,ρ3,o,g,j⟩
  ·exact⟨.exit _,ρ2,o,u,f,v,b,k⟩
  exact⟨.ret,ρ2,o,u,f,trivial,b,k⟩
theorem nu.go {P:Program} {inl:List Nat} {N nb:Nat} {x y:Code} {K:KA} {E:Env} {lo:List AObj}
  (h:vc P inl N nb x (fun e E lo=>match e with|.normal=>vc P inl N nb y K E lo|.exit i=>K (.exit i) E lo|.ret=>K .ret E lo) E lo):nu P inl N nb x y K E lo:=by
 intro hm b f Lw bs ρ H a w d s;refine wp_seq (wp_mono (uq hm x _ E lo b h bs ρ H a w d s) fun e a w p=>?_);obtain⟨g,ρ',H',E',lo',b,c,k⟩:=p;cases g<;>cases e<;>simp only[LH]at b
 ·exact uq hm y K E' lo' f k bs ρ' H' a w d c
 ·exact⟨.exit _,ρ',H',E',lo',b,c,k⟩
 exact⟨.ret,ρ',H',E',lo',trivial,c,k⟩
theorem nu.cut {P:Program} {inl:List Nat} {N nb:Nat} {x y:Code} {K:KA} {E:Env} {lo:List AObj} {S R:Type} (fr:S->Env) (l:S->List AObj) (k:S->Option R) {r:R}
  (n:∀ s,k s=some r->vc P inl N nb y K (fr s) (l s))
  (b:vc P inl N nb x (fun e E lo=>match e with|.normal=>∃ s,k s=some r/\Us nb E lo (fr s) (l s)|.exit i=>K (.exit i) E lo|.ret=>K .ret E lo) E lo):nu P inl N nb x y K E lo:=by
 intro hm c d Lw bs ρ H a w m s;refine wp_seq (wp_mono (uq hm x _ E lo c b bs ρ H a w m s) fun e a w p=>?_);obtain⟨o,ρ',H',E',lo',b,f,g⟩:=p;cases o<;>cases e<;>simp only[LH]at b
 ·obtain⟨st,h,j⟩:=g
  subst m;obtain⟨ρ3,q⟩:=j.sat f;exact uq hm y K _ _ d (n st h) bs ρ3 H' a w rfl q
 ·exact⟨.exit _,ρ',H',E',lo',b,f,g⟩
 exact⟨.ret,ρ',H',E',lo',trivial,f,g⟩
theorem qi.of_vcN {P:Program} {f:FuncId} {fn:Func} {args:List PV} {r:PV} {inl:List Nat} (hm:P.follows .mixedOrders=true) (he:Enters P f) (b:P.funcs[f]? =some fn) (a:LI inl fn args.length=true)
  (h:PE P inl fn args (fun v=>Sw v r)):qi P f args r:=
 qi.of_vcR hm he b a (fun _ _ _ _=>Za) h
section
variable {A R S:Type}
theorem vY (B:(S->Option R)->S->Option R) (n:Nat) (s:S):qU B (n+1) s=B (qU B n) s:=rfl
@[simp] theorem XR (a:A) (k:A->Option R):bnd (some a) k=k a:=rfl
@[simp] theorem Rt (k:A->Option R):bnd none k=none:=rfl
@[simp] theorem Ru (k:Option R):chk true k=k:=rfl
@[simp] theorem PX (b:Bool) (k:Option R):chk b (chk b k)=chk b k:=by cases b<;>rfl
@[simp] theorem BH [Inhabited A] (o:Option A):qG true o=o:=rfl
@[simp] theorem Nn [Inhabited A] (o:Option A):qG false o=some default:=rfl
@[simp] theorem QT (l:List A) (i:Nat):idx l (i:Int)=l[i]?:=by unfold idx; simp
@[simp] theorem Md (l:List A):idx l 0=l[0]?:=by unfold idx; simp
@[simp] theorem natI_nat (i:Nat):Xe (i:Int)=some i:=by unfold Xe; simp
@[simp] theorem PS (b:UInt8):SI ((b.toNat:Nat):Int)=some b:=by
 have:=b.toNat_lt;unfold SI;rw[if_pos ⟨Int.natCast_nonneg _,by omega⟩];simp
@[simp] theorem Hk (l:List UInt8):(zu l).length=l.length:=by simp[zu]
@[simp] theorem uH (l:List Val):(Val.rows l).length=l.length:=by rw[rows_eq]; simp
theorem MI {b:Bool} (k:Option R) (h:b=true):chk b k=k:=by subst h; rfl
end
end Ax
end
