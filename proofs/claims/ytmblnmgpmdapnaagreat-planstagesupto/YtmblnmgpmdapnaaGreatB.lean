/- A part of the proof: the abstract execution. -/
import Derived.Lib.AppendStr
import Derived.Laws.IdiomCopy
import Derived.Lib.ConvBytes
import Derived.Deep.LoopGhost
import Derived.Laws.Externs
import Derived.Lib.Builder
import Derived.Shelf.Strings.Builder1
import Derived.Test.YtmblnmgpmdapnaaGreatShelf
import Derived.Test.YtmblnmgpmdapnaaGreatA
set_option linter.unusedVariables false
set_option linter.unusedSimpArgs false
set_option linter.unnecessarySimpa false
set_option linter.deprecated false
set_option linter.unusedSectionVars false
set_option linter.constructorNameAsVariable false
open Go renaming run_underlying->kru
open Go.IntKind renaming wrap->kwr,bits->kbt
open List renaming length_cons->ja,length_append->jb,getElem?_cons_zero->jd,getElem?_eq_getElem->jf,mem_cons->jg,map_cons->jl,length_map->jm,prefix_refl->jr,append_assoc->jt,length_take->ju,nil_append->jv,mem_append->jz,getElem?_append_left->jC,getElem?_append_right->jD,getElem?_drop->jE,getElem?_take->jF,getElem?_set->jG,getElem?_eq_some_iff->jH,eq_nil_of_length_eq_zero->jJ,take_left->jK,size_toArray->jM,length_drop->jN,map_nil->jO,map_toArray->kf
open Nat renaming le_of_ble_eq_true->jh,eq_of_beq_eq_true->jn,le_refl->jx,zero_add->jy,lt_irrefl->jS,zero_le->jT
open Bool renaming and_eq_true->jj,or_eq_true->jP
open Array renaming getElem?_eq_some_iff->jI,length_toList->jL,getD_eq_getD_getElem?->jZ
open Go.Result renaming andThen_ok->kg
open Go.Sem renaming run_bind->kh,run_pure->ki
open Go.Op renaming operands->kj
open Go.Call renaming operands->kl
section
namespace Ax
open Go
section
variable {P:Program} {w:World}
theorem q5j {t ty e:TypeId} {i:TypeInfo} {z:Value} (ht:P.underlying t=some (.slice e)) (hi:P.info? e=some i) (hz:i.zero=some z) (hzs:z.cells.size=i.size)
  {v:Value} {n:Nat} {xs:List Value} (hown:w.ownsRow 0 e i.size v n xs)
  {x:Value} {m:Nat} {news:List Value} (hl:news.length=m * i.size) (h1:∀ u∈news,u.oneCell'=true)
  (hx:(m=0/\x=.slice none 0 0)\/∃ a c,x=.slice (some a) m c/\∀ j u,news[j]? =some u->w.cell? (a.add j)=some u)
  (h63:n+m<=9223372036854775807) (hbytes:(n+m) * i.bytes<=140737488355328) :
  ∃ v' w',(Builtin.append_ #[t,t] ty #[v,x]).run P w=.ok v' w'/\w'.ownsRow 0 e i.size v' (n+m) (xs++news) /\
   ((qcj v'=qcj v/\(∀ g,qcj v=some g->Keep (fun b=>b=g) w w')/\(qcj v=none->w'=w))\/(qcj v'=some w.heap.size/\Keep (fun b=>b=w.heap.size) w w')):=by
 have hlen:(xs++news).length=(n+m) * i.size:=by rw[jb,hown.1,hl,Nat.add_mul]
 have h63':n+m<=maxLen:=by unfold maxLen; omega
 rcases hx with ⟨rfl,rfl⟩|⟨ad,c,rfl,hnews⟩
 ·have hn:news=[]:=jJ (by simpa using hl)
  subst hn;refine⟨v,w,run_append_owned_none (P:=P) (w:=w) 0 t ty e i i.size ht hi v n xs hown,by simpa using hown,.inl ⟨rfl,fun g _=>Keep.refl _ w,fun _=>rfl⟩⟩
 have grown:∀ (old:Nat),(w.drew.alloc (.cells (xs.toArray++news.toArray++Builtin.zeroCells z.cells (grownCap w (n+m) old e - (n+m))) e)).ownsRow 0 e i.size
    (.slice (some ⟨w.heap.size,0,none⟩) (n+m) (grownCap w (n+m) old e)) (n+m) (xs++news):=by
  intro old;have hge:=grownCap_ge w (n+m) old e;have hcm:grownCap w (n+m) old e<=maxLen:=grownCap_le_maxLen w (n+m) old e h63';refine⟨hlen,.inr ⟨w.heap.size,_,_,rfl,jT _,heap_alloc_new w.drew _,hge,hcm,?_,?_⟩⟩
  ·simp only[Array.size_append,jM,size_zeroCells,hzs,hown.1,hl,← Nat.add_mul]
   congr 1;omega
  simp only[Array.toList_append,jt];rw[← jt,← hlen];exact jK
 rcases hown.2 with ⟨rfl,rfl⟩|⟨g,cap,cur,rfl,hbg,hg,hnc,hcm,hcs,htake⟩
 ·have hxs:xs=[]:=jJ (by simpa using hown.1)
  subst hxs;by_cases hm:m=0
  ·subst hm
   have hn:news=[]:=jJ (by simpa using hl);subst hn;refine⟨.slice none 0 0,w,?_,World.ownsRow_nil w 0 e i.size,.inl ⟨rfl,fun g _=>Keep.refl _ w,fun _=>rfl⟩⟩
   simp[Builtin.append_,kru ht,Go.sizeOf,typeInfo,hi,Builtin.lenOf,Builtin.firstCells,loadCells,loadCellsFrom]
  have hr:=run_append_nil (P:=P) w t ty e i z ht hi hz ad m c news hl hnews (by omega) (by omega) (by have hb:=hbytes; simp only[jy]at hb; omega);have hgr:=grown 0;simp only[jy,jv,Array.empty_append]at hgr ⊢;exact⟨_,_,hr,hgr,.inr ⟨rfl,qra w _ _⟩⟩
 by_cases hroom:n+m<=cap
 ·have hfit:n * i.size+news.length<=cur.size:=by rw[hl,hcs,← Nat.add_mul]; exact Nat.mul_le_mul_right _ hroom
  have hr:=run_append_room (P:=P) w t ty e i ht hi g n cap cur hg ad m c news hl hnews h1 hroom hfit;refine⟨_,_,hr,⟨hlen,.inr ⟨g,cap,_,rfl,hbg,setRow_heap w g cur _ e _ hg,hroom,hcm,?_,?_⟩⟩,.inl ⟨rfl,fun g' hg'=>?_,fun h=>by simp[qcj]at h⟩⟩
  ·simp only[jM,jb,ju,jN,jL]
   omega
  ·rw[htake,← hlen]
   exact jK
  simp[qcj]at hg';subst hg';exact⟨rfl,rfl,rfl,by simp,fun k _ hk=>setRow_other w g k _ hk⟩
 have holds:∀ j u,xs[j]? =some u->w.cell? ((⟨g,0,none⟩:Addr).add j)=some u:=hown.cells (g:=g) rfl;have hr:=run_append_grow (P:=P) w t ty e i z ht hi hz ⟨g,0,none⟩ n cap xs hown.1 holds ad m c news hl hnews (by omega) (by omega) (growslice_fits (by omega) hbytes);exact⟨_,_,hr,grown cap,.inr ⟨rfl,qra w _ _⟩⟩
theorem qws {t u ty e:TypeId} {i:TypeInfo} (ht:P.underlying t=some (.slice e)) (hu:P.underlying u=some .string) (hi:P.info? e=some i) (hz:i.zero=some (.int .u8 0)) (hsz:i.size=1)
  {v:Value} {n:Nat} {xs:List Value} (hown:w.ownsRow 0 e 1 v n xs) (str:List UInt8)
  (h63:n+str.length<=9223372036854775807) (hbytes:(n+str.length) * i.bytes<=140737488355328) :
  ∃ v' w',(Builtin.append_ #[t,u] ty #[v,.string ⟨str.toArray⟩]).run P w=.ok v' w'/\w'.ownsRow 0 e 1 v' (n+str.length) (xs++Lib.strCells ⟨str.toArray⟩) /\
   ((qcj v'=qcj v/\(∀ g,qcj v=some g->Keep (fun b=>b=g) w w')/\(qcj v=none->w'=w))\/(qcj v'=some w.heap.size/\Keep (fun b=>b=w.heap.size) w w')):=by
 have hs:(⟨str.toArray⟩:ByteArray).size=str.length:=qvn str;generalize hsg:(⟨str.toArray⟩:ByteArray)=sb at *;have hl:(Lib.strCells sb).length=str.length:=by rw[Lib.strCells_length,hs]
 have hlen:(xs++Lib.strCells sb).length=(n+str.length) * 1:=by rw[jb,hown.1,hl,Nat.mul_one,Nat.mul_one]
 have h63':n+str.length<=maxLen:=by unfold maxLen; omega
 have grown:∀ (old:Nat),(w.drew.alloc (.cells (xs.toArray++(Lib.strCells sb).toArray++Builtin.zeroCells (Value.int .u8 0).cells (grownCap w (n+str.length) old e - (n+str.length))) e)).ownsRow 0 e 1
    (.slice (some ⟨w.heap.size,0,none⟩) (n+str.length) (grownCap w (n+str.length) old e)) (n+str.length) (xs++Lib.strCells sb):=by
  intro old;have hge:=grownCap_ge w (n+str.length) old e;have hcm:grownCap w (n+str.length) old e<=maxLen:=grownCap_le_maxLen w (n+str.length) old e h63';refine⟨hlen,.inr ⟨w.heap.size,_,_,rfl,jT _,heap_alloc_new w.drew _,hge,hcm,?_,?_⟩⟩
  ·have h1:(Value.int .u8 0).cells.size=1:=rfl
   simp only[Array.size_append,jM,size_zeroCells,h1,hown.1,hl];omega
  simp only[Array.toList_append,jt];rw[← jt,← hlen];exact jK
 rcases hown.2 with ⟨rfl,rfl⟩|⟨g,cap,cur,rfl,hbg,hg,hnc,hcm,hcs,htake⟩
 ·have hxs:xs=[]:=jJ (by simpa using hown.1)
  subst hxs;by_cases hm:str.length=0
  ·have hn:Lib.strCells sb=[]:=jJ (by omega)
   refine⟨.slice none 0 0,w,?_,by rw[hm,hn]; exact World.ownsRow_nil w 0 e 1,.inl ⟨rfl,fun g _=>Keep.refl _ w,fun _=>rfl⟩⟩
   simp[Builtin.append_,kru ht,kru hu,Go.sizeOf,typeInfo,hi,Builtin.lenOf,Builtin.firstCells,hs,hm]
  have hr:=run_append_nil_string (P:=P) w t u ty e i (.int .u8 0) ht hu hi hz sb (by omega) (by omega) (by rw[hs]; have hb:=hbytes; simp only[jy]at hb; omega);have hgr:=grown 0;simp only[jy,jv,Array.empty_append]at hgr ⊢;have e1:sb.data.map (fun b=>Value.int .u8 b.toNat)=(Lib.strCells sb).toArray:=by
   apply Array.ext';simp[Lib.strCells]
  rw[e1,hs]at hr;exact⟨_,_,hr,hgr,.inr ⟨rfl,qra w _ _⟩⟩
 by_cases hroom:n+str.length<=cap
 ·have hfit:n+sb.size<=cur.size:=by rw[hs]; omega
  have hr:=Lib.run_append_room_string (P:=P) w t u ty e i ht hu hi hsz g n cap cur hg sb (by omega) hfit;rw[hs]at hr;refine⟨_,_,hr,⟨hlen,.inr ⟨g,cap,_,rfl,hbg,setRow_heap w g cur _ e _ hg,hroom,hcm,?_,?_⟩⟩,.inl ⟨rfl,fun g' hg'=>?_,fun h=>by simp[qcj]at h⟩⟩
  ·simp only[jM,jb,ju,jN,jL,hl]
   omega
  ·rw[Nat.mul_one]at htake
   rw[htake,← hlen];exact jK
  simp[qcj]at hg';subst hg';exact⟨rfl,rfl,rfl,by simp,fun k _ hk=>setRow_other w g k _ hk⟩
 have holds:∀ j u,xs[j]? =some u->w.cell? ((⟨g,0,none⟩:Addr).add j)=some u:=hown.cells (g:=g) rfl;have hr:=Lib.run_append_grow_string (P:=P) w t u ty e i (.int .u8 0) ht hu hi hz ⟨g,0,none⟩ n cap xs (by rw[hsz]; exact hown.1) holds sb (by omega) (by omega) (growslice_fits (by omega) (by rw[hs]; exact hbytes));rw[hs]at hr;exact⟨_,_,hr,grown cap,.inr ⟨rfl,qra w _ _⟩⟩
theorem zjd (H:PH):∀ (l:List UInt8),qre H 1 (qau l) (Lib.strCells ⟨l.toArray⟩)
 | []=>by simp[qau,qre,Lib.strCells]
 | b::l=>by
  have:=zjd H l;simp only[qau,jl,qre];refine⟨rfl,[.int .u8 b.toNat],Lib.strCells ⟨l.toArray⟩,by simp[Lib.strCells],?_,this⟩;simp[qdi,qco]
theorem zkg {f:FV} {R:List (List PV)->Prop} (h:zqn f R):∃ rows,R rows/\∀ (ρ:List Value) (H:PH) (x:Value),qch ρ H f x->qco H (.sl rows) x:=by
 unfold zqn at h;split at h
 ·exact⟨_,h,fun _ _ _ r=>r⟩
 ·exact⟨_,h,fun _ _ _ r=>r.2⟩
 ·refine⟨[],h,fun _ _ _ r=>?_⟩
  simp only[qch,qco]at r ⊢;exact .inl ⟨trivial,.inl r⟩
 exact h.elim
def qik (H:PH) (v:Value) (ys:List Value):PH:=fun b o=>if qcj v=some b/\o<ys.length then ys[o]? else H b o
theorem qso {bs:Base} {ρ:List Value} {H:PH} {lo:List AObj} (s:SatW bs ρ H lo w) {e:TypeId} {z:Nat} {v:Value} {n:Nat} {xs:List Value} (hown:w.ownsRow 0 e z v n xs)
  (hxs:∀ b,qcj v=some b->(∀ j u,xs[j]? =some u->H b j=some u)/\∀ o,n * z<=o->H b o=none)
  (hfree:∀ (g:Nat),qcj v=some g->∀ (k:Nat) (o':AObj) (v':Value),lo[k]? =some o'->ρ[k]? =some v'->o'.live=true->qcj v'≠some g)
  (howns:∀ g,qcj v=some g->bs.S g\/bs.w0.heap.size<=g)
  {w':World} {v':Value} {m:Nat} {news:List Value} (hnl:news.length=m * z) (h1:∀ u∈xs++news,u.oneCell'=true)
  (hown':w'.ownsRow 0 e z v' (n+m) (xs++news))
  (hk:(qcj v'=qcj v/\(∀ g,qcj v=some g->Keep (fun b=>b=g) w w')/\(qcj v=none->w'=w))\/(qcj v'=some w.heap.size/\Keep (fun b=>b=w.heap.size) w w')) :
  PH.le H (qik H v' (xs++news))/\SatW bs (ρ++[v']) (qik H v' (xs++news)) (lo++[.tail e z (n+m)]) w':=by
 have hlen:(xs++news).length=(n+m) * z:=hown'.1;have hin:∀ b o u,qcj v'=some b->H b o=some u->o<xs.length/\(xs++news)[o]? =some u:=by
  intro b o u hb hu;rcases hk with ⟨e1,_⟩|⟨e1,_⟩
  ·rw[e1]at hb
   obtain⟨h2,h3⟩:=hxs b hb;have hlt:o<xs.length:=by
    rw[hown.1];rcases Nat.lt_or_ge o (n * z)with h|h
    ·exact h
    rw[h3 o h]at hu; cases hu
   refine⟨hlt,?_⟩;rw[jC hlt];have:=h2 o _ (jf hlt);rw[hu]at this;rw[jf hlt,← Option.some.inj this]
  rw[e1]at hb;cases hb;exact absurd (s.sath.lt hu) (jS _)
 have hle:PH.le H (qik H v' (xs++news)):=by
  intro b o u hu;unfold qik;split
  ·rename_i hc; exact(hin b o u hc.1 hu).2
  exact hu
 refine⟨hle,?_⟩;have hcell:∀ g,qcj v'=some g->∀ o u,(xs++news)[o]? =some u->w'.cell? ⟨g,o,none⟩=some u:=by
  intro g hg o u hu;have:=hown'.cells (g:=g) (by
   rcases hown'.2 with ⟨rfl,_⟩|⟨g',cap,cur,rfl,_⟩
   ·simp[qcj]at hg
   simpa[qcj,Value.ownBlock]using hg) o u hu
  rwa [Addr.add_lit,jy]at this
 have hsat:SatH (qik H v' (xs++news)) w':=by
  refine⟨?_,s.sath.root.mono hle⟩;intro b o u hu;unfold qik at hu;split at hu
  ·rename_i hc
   exact⟨hcell b hc.1 o u hu,h1 u (List.mem_of_getElem? hu)⟩
  rename_i hc;obtain⟨hcl,hone⟩:=s.sath.cell b o u hu;refine⟨?_,hone⟩;have hbne:qcj v'≠some b:=fun hb=>hc ⟨hb,by have:=(hin b o u hb hu).1; rw[jb]; omega⟩
  have hlt:=s.sath.lt hu;rcases hk with ⟨e1,k1,k2⟩|⟨e1,k1⟩
  ·cases hv:qcj v with
   | none=>rw[k2 hv]; exact hcl
   | some g=>
    rw[World.cell?_of_block (w:=w) (a:=⟨b,o,none⟩) ((k1 g hv).block b hlt (fun e=>hbne (by rw[e1,hv,e])))]
    exact hcl
  rw[World.cell?_of_block (w:=w) (a:=⟨b,o,none⟩) (k1.block b hlt (by omega))];exact hcl
 have hok:∀ ρ,qys ρ (qik H v' (xs++news)) w' v' (.tail e z (n+m)):=by
  intro ρ;refine⟨xs++news,hown',fun b hb=>⟨fun j u hu=>?_,fun o ho=>?_⟩⟩
  ·unfold qik
   rw[if_pos ⟨hb,(jH.1 hu).1⟩];exact hu
  unfold qik;rw[if_neg (by rw[hlen]; omega)];cases hx:H b o with
  | none=>rfl
  | some u=>
   have:=(hin b o u hb hx).1;rw[hown.1]at this;have:n * z<=(n+m) * z:=Nat.mul_le_mul_right _ (by omega);omega
 have hnew:∀ b o u,qik H v' (xs++news) b o=some u->(∃ u,H b o=some u)\/qcj v'=some b:=by
  intro b o u hu;unfold qik at hu;split at hu
  ·rename_i hc; exact .inr hc.1
  exact .inl ⟨u,hu⟩
 rcases hk with ⟨e1,k1,k2⟩|⟨e1,k1⟩
 ·cases hv:qcj v with
  | none=>
   have hw:=k2 hv;subst hw;rw[hv]at e1;refine s.push (g:=w'.heap.size) (.inr e1) (s.fresh (jx _)) (.inr s.keep.size) hle hsat (fun b o u hu=>?_) (Keep.refl _ _) (hok _);rcases hnew b o u hu with h|h
   ·exact .inl h
   rw[e1]at h; cases h
  | some g=>
   rw[hv]at e1;refine s.push (g:=g) (.inl e1) (hfree g hv) (howns g hv) hle hsat (fun b o u hu=>?_) (k1 g hv) (hok _);rcases hnew b o u hu with h|h
   ·exact .inl h
   rw[e1]at h; exact .inr (Option.some.inj h).symm
 refine s.push (g:=w.heap.size) (.inl e1) (s.fresh (jx _)) (.inr s.keep.size) hle hsat (fun b o u hu=>?_) k1 (hok _);rcases hnew b o u hu with h|h
 ·exact .inl h
 rw[e1]at h; exact .inr (Option.some.inj h).symm
theorem qru {H:PH} {v':Value} {e:TypeId} {z:Nat} {rows:List (List PV)} {ys:List Value} {w':World} (hv:qre H z rows ys) (hle:PH.le H (qik H v' ys))
  (hown:w'.ownsRow 0 e z v' rows.length ys):qco (qik H v' ys) (.sl rows) v':=by
 simp only[qco];rcases hown.2 with ⟨rfl,hn⟩|⟨g,cap,cur,rfl,_,_,hnc,_⟩
 ·exact .inl ⟨jJ hn,.inl rfl⟩
 refine .inr ⟨g,0,z,cap,rfl,hnc,(hv.mono hle).unflat fun j u hu=>?_⟩;unfold qik;rw[if_pos ⟨by simp[qcj],by have:=(jH.1 hu).1; omega⟩];simpa using hu
theorem qre.one {H:PH} {w:World} (s:SatH H w) {b o:Nat} {vs:List Value} (c:∀ j u,vs[j]? =some u->H b (o+j)=some u):∀ u∈vs,u.oneCell'=true:=fun u hu=>by
 obtain⟨j,hj⟩:=List.getElem?_of_mem hu;exact(s _ _ _ (c j u hj)).2
theorem q54 {w:World} {t:TypeId} {v:Value}:(newVar t v).run P w=.ok ⟨w.heap.size,0,none⟩ (w.alloc (.cells v.cells t)):=by
 simp[newVar,newRow]
theorem q6p {w:World} {t bt:TypeId} {i:TypeInfo} (hi:P.info? t=some i) {b off:Nat} {cur:List Value} (hg:w.heap[b]? =some (.cells cur.toArray bt (0,0))) {x:Value}
  (hn:x.cells.size=i.size) (hoff:off+x.cells.size<=cur.length) (h1:∀ u∈x.cells.toList,u.oneCell'=true) :
  (Instr.storeAt t (.pointer (some ⟨b,off,none⟩)) x).run P w=.ok () (w.setRow b (cur.take off++x.cells.toList++cur.drop (off+x.cells.size)).toArray):=by
 have:=run_storeCells_at P b off bt x.cells.toList 0 cur.toArray w hg (by simpa using hoff) h1;simp only[Nat.add_zero,jL]at this;simp[Instr.storeAt,Instr.sureAddr,storeVar,Go.sizeOf,typeInfo,hi,hn];rw[this];simp[hn]
theorem zcs {a b:Nat} (h:Nat.beq a b=true):a=b:=jn h
theorem qye {H:PH}:∀ {l:List UInt8} {vs:List Value},qdi H (l.map fun b=>PV.int .u8 b.toNat) vs->∀ (j:Nat) (c:UInt8),l[j]? =some c->vs[j]? =some (.int .u8 (c.toNat:Int))
 | [],_,_,j,c,h=>by simp at h
 | b::l,vs,r,j,c,h=>by
  simp only[jl,qdi,qco]at r;obtain⟨v,vs',rfl,rfl,rs⟩:=r;cases j with
  | zero=>simp at h; subst h; rfl
  | succ j=>simpa using qye rs j c (by simpa using h)
theorem q6h {t:TypeId} {lo:List AObj} {R:FV->List AObj->Prop} (h:zfh P t lo R) :
  ∃ fv lo',R fv lo'/\qex true lo lo'/\∀ (bs:Base) (ρ:List Value) (H:PH) (w:World),SatW bs ρ H lo w->∃ v w',(Instr.alloc t true (.tuple #[])).run P w=.ok v w'/\qu1 bs ρ H fv lo' v w':=by
 unfold zfh at h;obtain⟨i,z,ps,hi,hz,h,hps⟩:=zdl h;obtain⟨l,rfl,h⟩:=h;have h:=qe0 h;have h:=qfy h;refine⟨_,_,h,qex.push _,fun bs ρ H w s=>?_⟩;refine⟨.pointer (some ⟨w.heap.size,0,none⟩),w.alloc (.cells z.cells t),?_,ρ++[.slice (some ⟨w.heap.size,0,none⟩) l.length l.length],H,List.prefix_append _ _,PH.le.refl H,?_,?_⟩
 ·simp only[Instr.alloc,kh,zeroValue,typeInfo,run_program,hi,hz,q54,kg,ki]
 ·refine s.push (g:=w.heap.size) (.inl rfl) (s.fresh (jx _)) (.inr s.keep.size) (PH.le.refl H) (qw1 s.sath _) (fun b o v h=>.inl ⟨v,h⟩) (qtx w _ _) ?_
  refine⟨w.heap.size,z.cells,t,l.length,0,0,rfl,heap_alloc_new w _,.inr (jx _),fun j c hc=>?_,fun o=>?_⟩
  ·have:=qye (hps H) j c hc
   simpa using this
  cases hx:H w.heap.size o with
  | none=>rfl
  | some x=>exact absurd (s.sath.lt hx) (jS _)
 ·exact⟨w.heap.size,l.length,l.length,by simp[← s.hlen],by simp⟩
theorem zat {bs:Base} {ρ:List Value} {H:PH} {lo:List AObj} (s:SatW bs ρ H lo w) {t:TypeId} {ti:TypeInfo} (hi:P.info? t=some ti) {k i off b n cap z:Nat} {e:TypeId} {o:AObj} {rows:List (List PV)} {row ps:List PV} {xv:Value} {xs:List Value}
  (ho:lo[k]? =some o) (hol:o.live=true) (hρ:ρ[k]? =some (.slice (some ⟨b,0,none⟩) n cap)) (hown:w.ownsRow 0 e z (.slice (some ⟨b,0,none⟩) n cap) rows.length xs) (hr:qre H z rows xs) (h1:∀ u∈xs,u.oneCell'=true) (hh:∀ o,H b o=none)
  (hrow:rows[i]? =some row) (hone:ps.all zkb=true) (hle:off+ps.length<=row.length) (hn:ps.length=ti.size) (rl:qdi H ps xv.cells.toList) :
  ∃ w',(Instr.storeAt t (.pointer (some ⟨b,i * z+off,none⟩)) xv).run P w=.ok () w'/\(∀ o',qys ρ H w' (.slice (some ⟨b,0,none⟩) n cap) o'->SatW bs ρ H (lo.set k o') w') /\
   w'.ownsRow 0 e z (.slice (some ⟨b,0,none⟩) n cap) (rows.set i (row.take off++ps++row.drop (off+ps.length))).length (xs.take (i * z+off)++xv.cells.toList++xs.drop (i * z+off+xv.cells.size)) /\
   qre H z (rows.set i (row.take off++ps++row.drop (off+ps.length))) (xs.take (i * z+off)++xv.cells.toList++xs.drop (i * z+off+xv.cells.size)) /\
   (∀ u∈xs.take (i * z+off)++xv.cells.toList++xs.drop (i * z+off+xv.cells.size),u.oneCell'=true)/\i * z+off+ps.length<=xs.length/\xv.cells.size=ps.length/\row.length=z:=by
 rcases hown.2 with ⟨e',_⟩|⟨g,cap',cur,e',_,hg,hnc,hm,hs,ht⟩
 ·cases e'
 cases e';have hlen:=rl.length;have hzr:row.length=z:=by
  have hmem:=List.mem_of_getElem? hrow;have:∀ {rows:List (List PV)} {vs:List Value},qre H z rows vs->∀ r∈rows,r.length=z:=by
   intro rows
   induction rows with
   | nil=>intro vs _ r hr; cases hr
   | cons q qs ih=>
    intro vs x r hr;obtain⟨hz,_,_,_,_,y⟩:=x;rcases jg.1 hr with rfl|hr
    ·exact hz
    exact ih y r hr
  exact this hr row hmem
 have hil:i<rows.length:=(jH.1 hrow).1;have hxl:xs.length=rows.length * z:=hr.length;have hiz:i * z+z<=rows.length * z:=by
  rw[← Nat.succ_mul]; exact Nat.mul_le_mul_right _ hil
 have hcl:rows.length * z<=cur.toList.length:=by
  have h2:cur.toList.length=cur.size:=by simp
  rw[h2,hs]; exact Nat.mul_le_mul_right _ hnc
 have hsz:xv.cells.size=ps.length:=by simpa using hlen
 have hone':∀ u∈xv.cells.toList,u.oneCell'=true:=qdi.one (fun c hc=>(List.all_eq_true.1 hone) c hc) rl;have hrun:=q6p (P:=P) (w:=w) (t:=t) (bt:=e) (cur:=cur.toList) hi (by simpa using hg) (x:=xv) (off:=i * z+off) (by omega) (by omega) hone';have hnew:(cur.toList.take (i * z+off)++xv.cells.toList++cur.toList.drop (i * z+off+xv.cells.size)).take (rows.length * z)=xs.take (i * z+off)++xv.cells.toList++xs.drop (i * z+off+xv.cells.size):=by
  rw[zrg (by omega) (by simp) hcl,ht]
 have hover:=hr.over (off:=off) hrow rl (by omega);have hrl:(rows.set i (row.take off++ps++row.drop (off+ps.length))).length=rows.length:=by simp
 refine⟨_,hrun,fun o' hok=>s.upd (k:=k) (b:=b) ho hρ hol rfl hh ⟨rfl,rfl,rfl,by simp,fun x _ hx=>setRow_other w b x _ hx⟩ hok,?_,?_,?_,by omega,hsz,hzr⟩
 ·refine⟨?_,.inr ⟨b,cap,(cur.toList.take (i * z+off)++xv.cells.toList++cur.toList.drop (i * z+off+xv.cells.size)).toArray,by rw[hrl],jT _,setRow_heap w b _ _ e _ (by simpa using hg),by rw[hrl]; exact hnc,hm,?_,?_⟩⟩
  ·rw[hrl]
   simp only[jb,ju,jN,jL];omega
  ·simp only[jM,jb,ju,jN,jL]at hcl ⊢
   omega
  rw[hrl]; exact hnew
 ·simpa using hover
 intro u hu;rcases jz.1 hu with hu|hu
 ·rcases jz.1 hu with hu|hu
  ·exact h1 u (List.mem_of_mem_take hu)
  exact hone' u hu
 exact h1 u (List.mem_of_mem_drop hu)
theorem q4k {b:Nat} {e:TypeId} {fz:Nat×Nat}:∀ (vs:List Value) (o:Nat) (w:World) (cs:Array Value),w.heap[b]? =some (.cells cs e fz) ->
  ∃ cs',(w.setCells b o vs).heap[b]? =some (.cells cs' e fz)/\cs'.size=cs.size/\(∀ k,k<o->cs'[k]? =cs[k]?)/\(∀ j v,vs[j]? =some v->o+j<cs.size->cs'[o+j]? =some v)/\Keep (fun x=>x=b) w (w.setCells b o vs)
 | [],o,w,cs,h=>⟨cs,h,rfl,fun _ _=>rfl,fun j v hv=>by simp at hv,Keep.refl _ _⟩
 | v::vs,o,w,cs,h=>by
  have h1:(w.setCell ⟨b,o,none⟩ v).heap[b]? =some (.cells (cs.setIfInBounds o v) e fz):=by
   simp[World.setCell,Array.getElem?_modify,h]
  have hk:Keep (fun x=>x=b) w (w.setCell ⟨b,o,none⟩ v):=⟨rfl,rfl,rfl,by simp[World.setCell],fun x _ hx=>by
   have:b≠x:=fun e=>hx e.symm
   simp[World.setCell,Array.getElem?_modify,this]⟩
  obtain⟨cs',a1,a2,a3,a4,a5⟩:=q4k vs (o+1) (w.setCell ⟨b,o,none⟩ v) _ h1;refine⟨cs',a1,by simpa using a2,fun k hk=>?_,fun j u hu hj=>?_,hk.trans a5⟩
  ·rw[a3 k (by omega),Array.getElem?_setIfInBounds,if_neg (by omega)]
  cases j with
  | zero=>
   simp only[jd,Option.some.injEq]at hu;subst hu;rw[Nat.add_zero]at hj ⊢;rw[a3 o (by omega),Array.getElem?_setIfInBounds,if_pos rfl,if_pos hj]
  | succ j=>
   rw[show o+(j+1)=o+1+j from by omega];exact a4 j u (by simpa using hu) (by simpa using(by omega:o+1+j<cs.size))
theorem zfo {lo:List AObj} {t:TypeId} {k z i off:Nat} {x:FV} {R:FV->List AObj->Prop} (h:zj1 P t lo k z i off x R) :
  ∃ fv lo',R fv lo'/\lo'.length=lo.length/\∀ (bs:Base) (ρ:List Value) (H:PH) (w:World) (a xv:Value),SatW bs ρ H lo w->qch ρ H (.eptr k z i off) a->qch ρ H x xv ->
   ∃ w',(Instr.storeAt t a xv).run P w=.ok () w'/\qu1 bs ρ H fv lo' undef w':=by
 unfold zj1 at h;have h0:=q2v h; clear h; obtain⟨cs,h,hcs⟩:=h0;have h0:=quu h; clear h; obtain⟨ps,h,hps⟩:=h0;have h0:=qe0 h; clear h; have h:=h0; clear h0;have h0:=qib h; clear h; obtain⟨d,ti,hd,hi,h⟩:=h0;split at h
 ·rename_i hn
  have hn:=zcs hn;have h0:=qdk h; clear h; obtain⟨o,ho,h⟩:=h0;split at h
  ·rename_i e z' rows
   obtain⟨row,⟨rfl,hrow,hone⟩,h⟩:=h;obtain⟨h,hle⟩:=qwz h;obtain⟨rows',hrows,h⟩:=h;obtain⟨h,hk⟩:=qgv h;refine⟨_,_,h,by simp,fun bs ρ H w a xv s ra rx=>?_⟩;obtain⟨b,n,cap,hρ,rfl⟩:=ra;obtain⟨xs,hown,hr,h1,hh⟩:=s.objs k _ _ ho hρ;obtain⟨w',hrun,hup,c1,c2,c3,_⟩:=zat s hi ho rfl hρ hown hr h1 (hh b rfl) hrow hone hle (by omega) (hps ρ H _ (hcs ρ H xv rx));subst hrows;exact⟨w',hrun,ρ,H,jr _,PH.le.refl H,hup _ ⟨_,c1,c2,c3,fun b' hb'=>by cases hb'; exact hh b rfl⟩,by simp[qch,qco,qdi,undef]⟩
  ·rename_i e z' rows j kt
   obtain⟨row,kt',⟨rfl,hrow,hone,hcase⟩,h⟩:=h;obtain⟨h,hle⟩:=qwz h;obtain⟨rows',hrows,h⟩:=h;obtain⟨h,hk⟩:=qgv h;refine⟨_,_,h,by simp,fun bs ρ H w a xv s ra rx=>?_⟩;obtain⟨b,n,cap,hρ,rfl⟩:=ra;obtain⟨xs,hown,hr,h1,hh,hl⟩:=s.objs k _ _ ho hρ;obtain⟨w',hrun,hup,c1,c2,c3,c4,c5,c6⟩:=zat s hi ho rfl hρ hown hr h1 (hh b rfl) hrow hone hle (by omega) (hps ρ H _ (hcs ρ H xv rx));subst hrows;refine⟨w',hrun,ρ,H,jr _,PH.le.refl H,hup _ ⟨_,c1,c2,c3,fun b' hb'=>by cases hb'; exact hh b rfl,fun u hu=>?_⟩,by simp[qch,qco,qdi,undef]⟩
   rw[List.length_set]at hu;have hil:i<rows.length:=(jH.1 hrow).1;rcases hcase with ⟨hjz,hout,rfl⟩|⟨rfl,hlast,rows3,rfl⟩
   ·refine hl u ?_
    have hp:(rows.length - 1) * z'+j<i * z'+off\/i * z'+off+xv.cells.size<=(rows.length - 1) * z'+j:=by
     rcases Nat.lt_or_ge i (rows.length - 1)with hlt|hge
     ·right
      have:(i+1) * z'<=(rows.length - 1) * z':=Nat.mul_le_mul_right _ hlt;rw[Nat.add_mul]at this;omega
     have:i=rows.length - 1:=by omega
     subst this;rcases hout with h|h
     ·right; omega
     left; omega
    rcases hp with hp|hp
    ·rw[jt,jC (by rw[ju]; omega),jF,if_pos hp]at hu
     exact hu
    rw[jD (by simp only[jb,ju,jL]; omega),jE]at hu;rw[← hu];congr 1;simp only[jb,ju,jL];omega
   have hi':i=rows.length - 1:=by omega
   subst hi';have hx1:xv.cells.toList=[xv]:=by rw[(qrw (f:=.tsl kt' rows3) rfl rx).1]
   rw[hx1,jt,jD (by rw[ju]; omega),ju,Nat.min_eq_left (by omega),Nat.sub_self]at hu;simp at hu;rw[← hu];exact rx.1
  ·rename_i l
   split at h
   ·have h0:=h; clear h; obtain⟨c,l',⟨rfl,rfl,hil,hnc,hl'⟩,h⟩:=h0
    have h0:=qgv h; clear h; obtain⟨h,hk⟩:=h0;subst hnc;refine⟨_,_,h,by simp,fun bs ρ H w a xv s ra rx=>?_⟩;obtain⟨b,n0,cap,hρ,rfl⟩:=ra;obtain⟨b',cs,e',cap',lo',hi',e1,hg,hlo,h2,hH⟩:=s.objs k _ _ ho hρ;cases e1;have rl:=hps ρ H _ (hcs ρ H xv rx);simp only[qdi,qco]at rl;obtain⟨v0,vs',ev,rfl,rfl⟩:=rl;have hsz:xv.cells.size=1:=by
     have:xv.cells.toList.length=1:=by rw[ev]; rfl
     simpa using this
    have hcell:(w.cell? ⟨b,i,none⟩).isSome=true:=by
     simp only[World.cell?,hg];rw[h2 i _ (jf hil)];rfl
    have hfz:w.frozen? ⟨b,i,none⟩=false:=by
     simp only[World.frozen?,hg];have:¬ (lo'<=i/\i<hi'):=by omega
     simpa using fun h1=>Nat.le_of_not_lt fun h2=>this ⟨h1,h2⟩
    have hrun:(Instr.storeAt t (.pointer (some ⟨b,i * 1+0,none⟩)) xv).run P w=.ok () (w.setCell ⟨b,i,none⟩ (.int .u8 (c.toNat:Int))):=by
     have h3:=run_storeCells_cells (P:=P) b i [.int .u8 (c.toNat:Int)] 0 w (fun j hj=>by
      have:j=0:=by simpa using hj
      subst this;simpa using hcell) (fun j hj=>by
      have:j=0:=by simpa using hj
      subst this;simpa using hfz) (by simp[Value.oneCell'])
     simp only[Nat.add_zero]at h3;have hti:ti.size=1:=by
      have:[PV.int .u8 (c.toNat:Int)].length=ti.size:=by simpa using hn
      simpa using this.symm
     simp[Instr.storeAt,Instr.sureAddr,storeVar,Go.sizeOf,typeInfo,hi,hti,hsz,ev,h3,World.setCells]
    have hset:(w.setCell ⟨b,i,none⟩ (.int .u8 (c.toNat:Int))).heap[b]? =some (.cells (cs.setIfInBounds i (.int .u8 (c.toNat:Int))) e' (lo',hi')):=by
     simp[World.setCell,Array.getElem?_modify,hg]
    refine⟨_,hrun,ρ,H,jr _,PH.le.refl H,?_,by simp[qch,qco,qdi,undef]⟩;refine s.upd (k:=k) (b:=b) ho hρ rfl rfl hH ⟨rfl,rfl,rfl,by simp[World.setCell],fun x _ hx=>?_⟩ ?_
    ·have:b≠x:=fun e=>hx e.symm
     simp[World.setCell,Array.getElem?_modify,this]
    subst hl';refine⟨b,_,e',cap,lo',hi',by simp,hset,by simpa using hlo,fun j c' hc'=>?_,hH⟩;rw[jG]at hc';rw[Array.getElem?_setIfInBounds];split at hc'
    ·rename_i hij
     subst hij;cases hc';have hcs':i<cs.size:=by
      have:=h2 i _ (jf hil);exact(jI.1 this).1
     simp[hcs']
    rename_i hij;simp only[hij,if_false];exact h2 j c' hc'
   have h0:=h; clear h; obtain⟨l',⟨rfl,rfl,rfl,hll,hpe⟩,h⟩:=h0;have h0:=qgv h; clear h; obtain⟨h,hk⟩:=h0;refine⟨_,_,h,by simp,fun bs ρ H w a xv s ra rx=>?_⟩;obtain⟨b,n0,cap,hρ,rfl⟩:=ra;obtain⟨b',cs,e',cap',lo',hi',e1,hg,hlo,h2,hH⟩:=s.objs k _ _ ho hρ;cases e1;have rl:=hps ρ H _ (hcs ρ H xv rx);rw[hpe]at rl;have hvl:xv.cells.toList.length=l.length:=by rw[rl.length,jm,hll]
   have hsz:xv.cells.size=l.length:=by simpa using hvl
   have hcz:l.length<=cs.size:=by
    rcases Nat.eq_zero_or_pos l.length with h0|h0
    ·omega
    have:=h2 (l.length - 1) _ (jf (by omega));have:=(jI.1 this).1;omega
   have hone':∀ u∈xv.cells.toList,u.oneCell'=true:=by
    intro u hu;obtain⟨j,hj⟩:=List.getElem?_of_mem hu;have hjl:j<l'.length:=by have:=(jH.1 hj).1; omega
    have:=qye rl j _ (jf hjl);rw[hj]at this;cases this;rfl
   have hrun:(Instr.storeAt t (.pointer (some ⟨b,0 * 1+0,none⟩)) xv).run P w=.ok () (w.setCells b 0 xv.cells.toList):=by
    have h3:=run_storeCells_cells (P:=P) b 0 xv.cells.toList 0 w (fun j hj=>by
     simp only[World.cell?,hg];have:j<l.length:=by omega
     rw[show 0+0+j=j from by omega];rw[h2 j _ (jf this)];rfl) (fun j hj=>by
     simp only[World.frozen?,hg];have:¬ (lo'<=0+0+j/\0+0+j<hi'):=by omega
     simpa using fun h1=>Nat.le_of_not_lt fun h2=>this ⟨by simpa using h1,by simpa using h2⟩) hone'
    have hti:ti.size=l.length:=by
     have:ps.length=ti.size:=by simpa using hn
     rw[← this,hpe,jm,hll]
    simp only[Nat.add_zero]at h3;simp[Instr.storeAt,Instr.sureAddr,storeVar,Go.sizeOf,typeInfo,hi,hti,hsz,h3]
   obtain⟨cs',a1,a2,_,a4,a5⟩:=q4k xv.cells.toList 0 w cs hg;refine⟨_,hrun,ρ,H,jr _,PH.le.refl H,?_,by simp[qch,qco,qdi,undef]⟩;refine s.upd (k:=k) (b:=b) ho hρ rfl rfl hH a5 ?_;refine⟨b,cs',e',cap,lo',hi',by rw[hll],a1,by rw[hll]; exact hlo,fun j c' hc'=>?_,hH⟩;have hj:=(jH.1 hc').1;have:=a4 j _ (qye rl j c' hc') (by omega);simpa using this
  exact h.elim
 exact h.elim
theorem zhi {E:Env} {lo:List AObj} {t:TypeId} {n:Nat} {parts:List (Nat×Operand)} {R:FV->List AObj->Prop} (h:zjp P E lo t n parts R) :
  ∃ fv lo',R fv lo'/\qex true lo lo'/\∀ (bs:Base) (ρ:List Value) (H:PH) (w:World) (eval:Operand->Value),SatW bs ρ H lo w->(∀ x∈parts.map (·.2),qch ρ H (evF (qcc E) x) (eval x)) ->
   ∃ v w',(Instr.buildSlice t n (parts.map fun(i,x)=>(i,eval x)).toArray).run P w=.ok v w'/\qu1 bs ρ H fv lo' v w':=by
 unfold zjp at h;have h0:=qme h; clear h; obtain⟨e,i,hu,hi,h⟩:=h0;have h0:=qym h; clear h; obtain⟨e',i',rows,hu',hi',h,hn,hmax,hs⟩:=h0;have e1:e'=e:=by rw[hu]at hu'; cases hu'; rfl
 subst e1;have e2:i'=i:=Option.some.inj (hi'.symm.trans hi);subst e2;simp only at h;have h:=qe0 h;have h:=qfy h;refine⟨_,_,h,qex.push _,fun bs ρ H w eval s hx=>?_⟩;obtain⟨xs,hr,hv,hone⟩:=hs trivial ρ H w eval hx;have hown':(w.alloc (.cells xs.toArray e')).ownsRow 0 e' i'.size (.slice (some ⟨w.heap.size,0,none⟩) n n) (0+rows.length) ([]++xs):=by
  rw[jy,jv];refine⟨hv.length,.inr ⟨w.heap.size,n,xs.toArray,by rw[hn],jT _,heap_alloc_new w _,by rw[hn]; exact jx _,hmax,by simp[hv.length,hn],?_⟩⟩;rw[← hv.length];exact List.take_length
 obtain⟨hle,sat⟩:=qso s (World.ownsRow_nil w 0 e' i'.size) (fun b hb=>by simp[qcj]at hb) (fun g hg=>by simp[qcj]at hg) (fun g hg=>by simp[qcj]at hg) hv.length (by simpa using hone) hown' (.inr ⟨rfl,qtx w _ _⟩)
 simp only[jy,jv]at hown' sat hle;exact⟨_,_,hr,_,_,List.prefix_append _ _,hle,sat,by simp[← s.hlen],qru hv hle hown'⟩
theorem q37 {gr:Bool} {E:Env} {lo:List AObj} {t:TypeId} {n:Nat} {parts:List (Nat×Operand)} {R:FV->List AObj->Prop} (h:zfj P gr E lo t n parts R) :
  ∃ fv lo',R fv lo'/\qex true lo lo'/\∀ (bs:Base) (ρ:List Value) (H:PH) (w:World) (eval:Operand->Value),SatW bs ρ H lo w->(∀ x∈parts.map (·.2),qch ρ H (evF (qcc E) x) (eval x)) ->
   ∃ v w',(Instr.buildSlice t n (parts.map fun(i,x)=>(i,eval x)).toArray).run P w=.ok v w'/\qu1 bs ρ H fv lo' v w':=by
 cases gr with
 | true=>exact zhi h
 | false=>exact zhj h
theorem zjs {src dst:TypeId} {lo:List AObj} {x:FV} {R:FV->List AObj->Prop} (h:zo8 P src dst lo x R) :
  ∃ fv lo',R fv lo'/\∀ (bs:Base) (ρ:List Value) (H:PH) (w:World) (v:Value),SatW bs ρ H lo w->qch ρ H x v->∃ u w',(convert src dst v).run P w=.ok u w'/\qu1 bs ρ H fv lo' u w':=by
 unfold zo8 at h;split at h
 ·rename_i l
  split at h
  ·rename_i us hs
   split at h
   ·rename_i e hd
    split at h
    ·rename_i he
     have h0:=qe0 h; clear h; have h:=h0; clear h0;have h0:=qfy h; clear h; have h:=h0; clear h0;refine⟨_,_,h,fun bs ρ H w v s rx=>?_⟩;have ev:=qs4 rx;subst ev;refine⟨_,_,Lib.run_convert_string_bytes w src dst e ⟨l.toArray⟩ hs hd he,?_⟩;have hk:Keep (fun b=>b=w.heap.size) w (Lib.bytesWorld w e ⟨l.toArray⟩):=by
      refine⟨?_,?_,?_,by rw[Lib.bytesWorld_size]; omega,fun k hk _=>Lib.bytesWorld_at_old w e _ k hk⟩<;>simp[Lib.bytesWorld,World.freeze,World.alloc,World.drew,-World.alloc_eq,-World.drew_eq]
     have hz:(⟨l.toArray⟩:ByteArray).size=l.length:=ByteArray.size_mk_toArray l;refine⟨ρ++[.slice (some ⟨w.heap.size,0,none⟩) (⟨l.toArray⟩:ByteArray).size (grownCap w (⟨l.toArray⟩:ByteArray).size 0 e)],H,List.prefix_append _ _,PH.le.refl H,?_,?_⟩
     ·refine s.push (g:=w.heap.size) (.inl rfl) (s.fresh (jx _)) (.inr s.keep.size) (PH.le.refl H) (s.sath.block fun b o v hv=>Lib.bytesWorld_at_old w e _ b (s.sath.lt hv)) (fun b o v h=>.inl ⟨v,h⟩) hk ?_
      refine⟨w.heap.size,_,e,_,_,_,by rw[hz],Lib.bytesWorld_at_new w e _,?_,?_,fun o=>?_⟩
      ·exact .inl (by simp[Lib.bytesCells])
      ·intro j c hc
       have hj:=(jH.1 hc).1;simp only[Lib.bytesCells];rw[Array.getElem?_append_left (by simpa using hj)];simp[hc]
      cases hx:H w.heap.size o with
      | none=>rfl
      | some x=>exact absurd (s.sath.lt hx) (jS _)
     ·simp only[qch]
      refine⟨by simp[← s.hlen],.inr ⟨w.heap.size,_,by rw[hz]⟩⟩
    exact h.elim
   exact h.elim
  exact h.elim
 exact h.elim
theorem zcr {bs:Base} {ρ:List Value} {H:PH} {lo:List AObj} (s:SatW bs ρ H lo w) {t ty e:TypeId} {i:TypeInfo} {zv:Value} (hu:P.underlying t=some (.slice e)) (hi:P.info? e=some i) (hz:i.zero=some zv) (hzs:zv.cells.size=i.size)
  {k0:Nat} {rows:List (List PV)} {v:Value} (ho:lo[k0]? =some (.vec e i.size rows)) (hρ:ρ[k0]? =some v) {news:List (List PV)} {x:Value} (rx:qco H (.sl news) x) (hall:∀ r∈news,r.length=i.size)
  (hb:(rows++news).length * i.bytes<=140737488355328) (h63:(rows++news).length<=9223372036854775807) :
  ∃ v' w',(Builtin.append_ #[t,t] ty #[v,x]).run P w=.ok v' w'/\qu1 bs ρ H (.vsl (lo.set k0 .dead).length (rows++news).length) (lo.set k0 .dead++[.vec e i.size (rows++news)]) v' w':=by
 obtain⟨xs,hown,hrv,h1,hh⟩:=s.objs k0 _ _ ho hρ;have run:∃ vs:List Value,qre H i.size news vs/\(∀ u∈vs,u.oneCell'=true) /\
   ((news.length=0/\x=.slice none 0 0)\/∃ a c,x=.slice (some a) news.length c/\∀ j u,vs[j]? =some u->w.cell? (a.add j)=some u):=by
  rcases zaq rx hall with ⟨rfl,ex|⟨a',cap',ex⟩⟩|⟨b,o,cap,vs,ex,_,hv,hc⟩
  ·exact⟨[],rfl,by simp,.inl ⟨rfl,ex⟩⟩
  ·exact⟨[],rfl,by simp,.inr ⟨a',cap',ex,fun j u hu=>by simp at hu⟩⟩
  exact⟨vs,hv,qre.one s.sath hc,.inr ⟨⟨b,o,none⟩,cap,ex,fun j u hu=>by rw[Addr.add_lit]; exact(s.sath.cell _ _ _ (hc j u hu)).1⟩⟩
 obtain⟨vs,hv,hone,hxx⟩:=run;rw[jb]at hb h63;obtain⟨v',w',hr,hown',hk⟩:=q5j (P:=P) (w:=w) (ty:=ty) hu hi hz hzs hown hv.length hone hxx h63 hb;refine⟨v',w',hr,?_⟩;have sk:=s.kill k0;have hfree:∀ g,qcj v=some g->∀ (k:Nat) (o':AObj) (u:Value),(lo.set k0 .dead)[k]? =some o'->ρ[k]? =some u->o'.live=true->qcj u≠some g:=by
  intro g hg k o' u hk' hu' hl;rw[jG]at hk';split at hk'
  ·split at hk'
   ·cases hk'; simp[AObj.live]at hl
   cases hk'
  ·rename_i hne
   exact s.excl k0 k _ o' _ u g ho hk' hρ hu' hne rfl hl hg
 have hV:∀ {a b:List (List PV)} {us ws:List Value},qre H i.size a us->qre H i.size b ws->qre H i.size (a++b) (us++ws):=fun x y=>x.append y
 have hall1:∀ u∈xs++vs,u.oneCell'=true:=fun u hu'=>by
  rcases jz.1 hu' with h|h
  ·exact h1 u h
  exact hone u h
 have hvsl:qch (ρ++[v']) H (.vsl (lo.set k0 .dead).length (rows++news).length) v':=by
  refine⟨by simp[← s.hlen],?_⟩;rw[jb];rcases hown'.2 with ⟨rfl,h0⟩|⟨g,cap,cur,rfl,_⟩
  ·exact .inl ⟨h0,rfl⟩
  exact .inr ⟨g,cap,rfl⟩
 have hok:(∀ b,qcj v'=some b->∀ o,H b o=none)->qys (ρ++[v']) H w' v' (.vec e i.size (rows++news)):=fun hn=>
  ⟨xs++vs,by rw[jb]; exact hown',hV hrv hv,hall1,hn⟩
 refine⟨ρ++[v'],H,List.prefix_append _ _,PH.le.refl H,?_,hvsl⟩;rcases hk with ⟨e1,k1,k2⟩|⟨e1,k1⟩
 ·cases hvb:qcj v with
  | none=>
   have hw:=k2 hvb;subst hw;rw[hvb]at e1;exact sk.push (g:=w'.heap.size) (.inr e1) (sk.fresh (jx _)) (.inr sk.keep.size) (PH.le.refl H) sk.sath (fun b o u hu=>.inl ⟨u,hu⟩) (Keep.refl _ _) (hok (fun b hb'=>by rw[e1]at hb'; cases hb'))
  | some g=>
   rw[hvb]at e1;refine sk.push (g:=g) (.inl e1) (hfree g hvb) (s.own k0 _ _ g ho hρ rfl hvb) (PH.le.refl H) (s.sath.block fun b o u hu'=>(k1 g hvb).block b (s.sath.lt hu') (fun e=>by subst e; rw[hh _ hvb o]at hu'; cases hu')) (fun b o u hu=>.inl ⟨u,hu⟩) (k1 g hvb) (hok (fun b hb'=>by rw[e1]at hb'; cases hb'; exact hh _ hvb))
 have hnew:∀ o,H w.heap.size o=none:=fun o=>by
  cases hx:H w.heap.size o with
  | none=>rfl
  | some u=>exact absurd (s.sath.lt hx) (jS _)
 refine sk.push (g:=w.heap.size) (.inl e1) (sk.fresh (jx _)) (.inr sk.keep.size) (PH.le.refl H) (s.sath.block fun b o u hu'=>k1.block b (s.sath.lt hu') (fun e=>by have:=s.sath.lt hu'; omega)) (fun b o u hu=>.inl ⟨u,hu⟩) k1 (hok (fun b hb'=>by rw[e1]at hb'; cases hb'; exact hnew))
theorem znv {bs:Base} {ρ:List Value} {H:PH} {lo:List AObj} (s:SatW bs ρ H lo w) {t ty e e2:TypeId} {i:TypeInfo} {zv:Value} (hu:P.underlying t=some (.slice e)) (hi:P.info? e=some i) (hz:i.zero=some zv) (hzs:zv.cells.size=i.size)
  {k0 j kt0 z2:Nat} {rows rows':List (List PV)} {r:List PV} {v:Value} (ho:lo[k0]? =some (.vl e i.size rows j kt0)) (hρ:ρ[k0]? =some v) {news:List (List PV)} {x:Value} (rx:qco H (.sl news) x) (hall:∀ r∈news,r.length=i.size)
  (hle:rows++news=rows'\/zaw (rows++news) rows') (hnew:news=[r]) (hrj:r[j]? =some .nilsl) (hb:rows'.length * i.bytes<=140737488355328) (h63:rows'.length<=9223372036854775807) :
  ∃ v' w',(Builtin.append_ #[t,t] ty #[v,x]).run P w=.ok v' w'/\qu1 bs ρ H (.vsl (lo.set k0 AObj.dead++[AObj.tail e2 z2 0]).length rows'.length) (lo.set k0 .dead++[AObj.tail e2 z2 0]++[.vl e i.size rows' j (lo.set k0 .dead).length]) v' w':=by
 have hlen:(rows++news).length=rows'.length:=by
  rcases hle with h|h
  ·rw[h]
  exact qx2 h
 have hkl:k0<lo.length:=(jH.1 ho).1;have s1:=s.view ho rfl (o':=.vec e i.size rows) rfl (fun v hv ok=>zuj ok)
 have s2:SatW bs (ρ++[.slice none 0 0]) H (lo.set k0 (.vec e i.size rows)++[.tail e2 z2 0]) w:=
  s1.push (g:=w.heap.size) (.inr rfl) (s1.fresh (jx _)) (.inr s1.keep.size) (PH.le.refl H) s1.sath (fun b o u hu=>.inl ⟨u,hu⟩) (Keep.refl _ _) ⟨[],World.ownsRow_nil w 0 e2 z2,fun b hb=>by simp[qcj]at hb⟩
 have ho2:(lo.set k0 (.vec e i.size rows)++[AObj.tail e2 z2 0])[k0]? =some (.vec e i.size rows):=by
  rw[jC (by simpa using hkl)]; simp[hkl]
 have hρ2:(ρ++[Value.slice none 0 0])[k0]? =some v:=by
  rw[jC (jH.1 hρ).1]; exact hρ
 obtain⟨v',w',hr,ρ3,H3,hpre,hH,s3,rv⟩:=zcr (ty:=ty) s2 hu hi hz hzs ho2 hρ2 rx hall (by rw[hlen]; exact hb) (by rw[hlen]; exact h63);have hset:(lo.set k0 (.vec e i.size rows)++[AObj.tail e2 z2 0]).set k0 .dead=lo.set k0 .dead++[.tail e2 z2 0]:=by
  rw[List.set_append_left _ _ (by simpa using hkl),List.set_set]
 rw[hset]at s3 rv;have hρt:ρ3[(lo.set k0 AObj.dead).length]? =some (.slice none 0 0):=by
  obtain⟨l,rfl⟩:=hpre;rw[List.length_set,← s.hlen];simp
 have s4:=s3.view (k:=(lo.set k0 AObj.dead++[AObj.tail e2 z2 0]).length) (o:=.vec e i.size (rows++news)) (o':=.vl e i.size rows' j (lo.set k0 AObj.dead).length) (by simp) rfl rfl (fun u hu ok=>by
  obtain⟨xs,h1,h2,h3,h4⟩:=ok;refine⟨xs,by rw[← hlen]; exact h1,h2.le hle,h3,h4,fun c hc=>?_⟩;rw[hρt];subst hnew;have hlast:(rows++[r])[rows'.length - 1]? =some r:=by
   rw[← hlen]; simp
  obtain⟨a,ra,ha⟩:=h2.get hlast;obtain⟨q,hq,rq⟩:=ra.get hrj;have:=ha j q hq;rw[hc]at this;cases this;simp only[qco]at rq;rw[rq])
 have hset2:(lo.set k0 AObj.dead++[AObj.tail e2 z2 0]++[AObj.vec e i.size (rows++news)]).set (lo.set k0 AObj.dead++[AObj.tail e2 z2 0]).length (.vl e i.size rows' j (lo.set k0 AObj.dead).length)=lo.set k0 .dead++[.tail e2 z2 0]++[.vl e i.size rows' j (lo.set k0 .dead).length]:=by
  rw[List.set_append_right _ _ (jx _),Nat.sub_self]; rfl
 rw[hset2]at s4;obtain⟨l,hl⟩:=hpre;rw[hlen]at rv;exact⟨v',w',hr,ρ3,H3,⟨[.slice none 0 0]++l,by rw[← hl]; simp⟩,hH,s4,rv⟩
theorem q5p {o:Oper} {E:Env} {lo:List AObj} {R:FV->List AObj->Prop} (h:zt5 P o.op E lo R):∃ fv lo',R fv lo'/\qex (zfs o.op) lo lo'/\qlf P o (qcc E) lo none fv lo':=by
 obtain⟨dst,op,ty,pos,after,guard⟩:=o;simp only at h;unfold zt5 at h;split at h
 ·
  rename_i t x;have h0:=qbr h; clear h; obtain⟨x',h,hx'⟩:=h0;have h0:=q2v h; clear h; obtain⟨cs,h,hcs⟩:=h0;split at h
  ·rename_i h1
   have h:=qe0 h;have h:=qfy h;refine⟨_,_,h,qex.push _,fun hg bs ρ H w eval s hx=>?_⟩;have rc:=hcs ρ H _ (hx' ρ H _ hg (hx x (by simp[kj])));simp only[execOp,Instr.box,kh,q54,kg,ki];refine⟨_,H,List.prefix_append _ _,PH.le.refl H,s.pushBox (t:=t) rc,?_⟩;exact⟨w.heap.size,by simp[← s.hlen],rfl⟩
  exact h.elim
 ·
  rename_i t;obtain⟨i,z,ps,hi,hz,h,hps⟩:=zdl h;have h:=qz2 h;split at h
  ·rename_i h1
   have h:=qe0 h;have h:=qfy h;refine⟨_,_,h,qex.push _,fun hg bs ρ H w eval s hx=>?_⟩;simp only[execOp,Instr.alloc,kh,zeroValue,typeInfo,run_program,hi,hz,q54,kg,ki];refine⟨_,H,List.prefix_append _ _,PH.le.refl H,s.pushBox (t:=t) (qd7.of_RepL (hps H)),?_⟩;exact⟨w.heap.size,by simp[← s.hlen],rfl⟩
  exact h.elim
 ·
  rename_i t a x;have h0:=qbr h; clear h; obtain⟨a',h,ha'⟩:=h0;have h0:=qbr h; clear h; obtain⟨x',h,hx'⟩:=h0;split at h
  ·rename_i k off
   have h0:=q2v h; clear h; obtain⟨cs,h,hcs⟩:=h0;split at h
   ·rename_i h1
    have h:=qe0 h;obtain⟨d,i,hd,hi,h⟩:=qib h;split at h
    ·rename_i hn
     have hn:=zcs hn;have h0:=qdk h; clear h; obtain⟨ob,hob,h⟩:=h0;split at h
     ·rename_i bt cells
      obtain⟨h,hlen⟩:=qty h;obtain⟨h,hk⟩:=qgv h;refine⟨_,_,h,qex.set _ _,fun hg bs ρ H w eval s hx=>?_⟩;obtain⟨b,hb,e⟩:=ha' ρ H _ hg (hx a (by simp[kj]));have rc:=hcs ρ H _ (hx' ρ H _ hg (hx x (by simp[kj])));obtain⟨b',vs,e',hg',rcells,hH⟩:=s.objs k _ _ hob hb;cases e';have hsz:(eval x).cells.size=cs.length:=by have:=rc.length; simpa using this
      have hr:=q6p (P:=P) (w:=w) (t:=t) (bt:=bt) hi hg' (x:=eval x) (off:=off) (by omega) (by rw[rcells.length]; omega) (q9v h1 rc);simp only[execOp,e,kh,hr,kg,ki];refine⟨ρ,H,jr _,PH.le.refl H,s.setBox hob hb hg' hH ?_,by simp[qch,qco,qdi,undef]⟩;rw[hsz];exact((rcells.take off).append rc).append (rcells.drop _)
     exact h.elim
    exact h.elim
   exact h.elim
  ·rename_i k z i off
   have h0:=zfo h; clear h; obtain⟨fv,lo',h,hl,hs⟩:=h0;refine⟨fv,lo',h,qex.len hl,fun hg bs ρ H w eval s hx=>?_⟩;obtain⟨w',hr,af⟩:=hs bs ρ H w _ _ s (ha' ρ H _ hg (hx a (by simp[kj]))) (hx' ρ H _ hg (hx x (by simp[kj])));simp only[execOp,kh,hr,kg,ki];exact af
  exact h.elim
 ·
  rename_i sx xx t t';split at h
  ·rename_i htt
   have htt:=zcs htt;subst htt;have h0:=qbr h; clear h; obtain⟨s',h,hs'⟩:=h0;have h0:=qbr h; clear h; obtain⟨x',h,hx'⟩:=h0;have h0:=zkg h; clear h; obtain⟨news,h,hnews⟩:=h0;split at h
   ·rename_i k0 n0
    unfold zlg at h;have h0:=qme h; clear h; obtain⟨e,i,hu,hi,h⟩:=h0;split at h
    ·exact h.elim
    split at h
    ·rename_i i' hi'
     have:i'=i:=Option.some.inj (hi'.symm.trans hi);subst this;split at h
     ·rename_i zv hzv
      split at h
      ·rename_i hzs
       have hzs:=zcs hzs;have h0:=qdk h; clear h; obtain⟨ob,hob,h⟩:=h0;split at h
       ·rename_i e' z' rows
        obtain⟨rows',⟨rfl,he,hz,hall,hb,h63⟩,h⟩:=h;subst he; subst hz;obtain⟨h,hk0⟩:=qgv h;have h:=qe0 h;have h:=qfy h;refine⟨_,_,h,qex.kill _ hob rfl,fun hg bs ρ H w eval s hx=>?_⟩;obtain⟨hρ,_⟩:=hs' ρ H _ hg (hx sx (by simp[kj,kl]));have rx:=hnews ρ H _ (hx' ρ H _ hg (hx xx (by simp[kj,kl])));obtain⟨v',w',hr,af⟩:=zcr (ty:=ty) s hu hi hzv hzs hob hρ rx hall hb h63;simp only[execOp,resolve,invoke,builtin,kh,ki,kg,kf,jl,jO,hr];rw[jy];exact af
       ·rename_i e' z' rows j kt0
        obtain⟨rows',r,e2,z2,⟨hle,⟨hnew,hrj⟩,rfl,rfl,hall,hb,h63⟩,h⟩:=h;obtain⟨h,hk0⟩:=qgv h;have h:=qe0 h;have h:=qfy h;have h:=qe0 h;have h:=qfy h;refine⟨_,_,h,qex.trans (qex.kill _ hob rfl) (qex.push _),fun hg bs ρ H w eval s hx=>?_⟩;obtain⟨hρ,_⟩:=hs' ρ H _ hg (hx sx (by simp[kj,kl]));have rx:=hnews ρ H _ (hx' ρ H _ hg (hx xx (by simp[kj,kl])));obtain⟨v',w',hr,af⟩:=znv (ty:=ty) (e2:=e2) (z2:=z2) s hu hi hzv hzs hob hρ rx hall hle hnew hrj hb h63;simp only[execOp,resolve,invoke,builtin,kh,ki,kg,kf,jl,jO,hr];simp only[jy];exact af
       exact h.elim
      exact h.elim
     exact h.elim
    exact h.elim
   have h0:=qme h; clear h; obtain⟨e,i,hu,hi,h⟩:=h0;split at h
   ·exact h.elim
   split at h
   ·rename_i i' hi'
    have:i'=i:=Option.some.inj (hi'.symm.trans hi);subst this;split at h
    ·rename_i zv hzv
     split at h
     ·rename_i hzs
      have hzs:=zcs hzs;split at h
      ·
       obtain⟨⟨hall,hb,h63⟩,h⟩:=h;have h:=qe0 h;have h:=qfy h;refine⟨_,_,h,qex.push _,fun hg bs ρ H w eval s hx=>?_⟩;have es:eval sx=.slice none 0 0:=by
        have:=hs' ρ H _ hg (hx sx (by simp[kj,kl]));simpa[qch,qco]using this
       have rx:=hnews ρ H _ (hx' ρ H _ hg (hx xx (by simp[kj,kl])));have run:∃ vs:List Value,qre H i'.size news vs/\(∀ u∈vs,u.oneCell'=true) /\
         ((news.length=0/\eval xx=.slice none 0 0)\/∃ a c,eval xx=.slice (some a) news.length c/\∀ j u,vs[j]? =some u->w.cell? (a.add j)=some u):=by
        rcases zaq rx hall with ⟨rfl,ex|⟨a',cap',ex⟩⟩|⟨b,o,cap,vs,ex,_,hv,hc⟩
        ·exact⟨[],rfl,by simp,.inl ⟨rfl,ex⟩⟩
        ·exact⟨[],rfl,by simp,.inr ⟨a',cap',ex,fun j u hu=>by simp at hu⟩⟩
        exact⟨vs,hv,qre.one s.sath hc,.inr ⟨⟨b,o,none⟩,cap,ex,fun j u hu=>by rw[Addr.add_lit]; exact(s.sath.cell _ _ _ (hc j u hu)).1⟩⟩
       obtain⟨vs,hv,hone,hxx⟩:=run;obtain⟨v',w',hr,hown',hk⟩:=q5j (P:=P) (w:=w) (ty:=ty) hu hi hzv hzs (World.ownsRow_nil w 0 e i'.size) hv.length hone hxx (by omega) (by simpa using hb);obtain⟨hle,sat⟩:=qso s (World.ownsRow_nil w 0 e i'.size) (fun b hb=>by simp[qcj]at hb) (fun g hg=>by simp[qcj]at hg) (fun g hg=>by simp[qcj]at hg) hv.length (by simpa using hone) hown' hk
       simp only[execOp,resolve,invoke,builtin,kh,ki,kg,kf,jl,jO,es,hr];simp only[jy,jv]at hown' sat hle;refine⟨_,_,List.prefix_append _ _,hle,sat,by simp[← s.hlen],qru hv hle hown'⟩
      ·
       rename_i k0 rows _;obtain⟨⟨hall,hb,h63⟩,h⟩:=h;have h0:=qdk h; clear h; obtain⟨ob,hob,h⟩:=h0;split at h
       ·rename_i e' z' n
        obtain⟨⟨he,hz,hn⟩,h⟩:=h;subst he; subst hz; subst hn;obtain⟨h,hk0⟩:=qgv h;have h:=qe0 h;have h:=qfy h;refine⟨_,_,h,qex.kill _ hob rfl,fun hg bs ρ H w eval s hx=>?_⟩;have rs:=hs' ρ H _ hg (hx sx (by simp[kj,kl]));obtain⟨hrho,rsl⟩:=rs;have rx:=hnews ρ H _ (hx' ρ H _ hg (hx xx (by simp[kj,kl])));obtain⟨xs,hown,hxs⟩:=s.objs k0 _ _ hob hrho;have run:∃ vs:List Value,qre H i'.size news vs/\(∀ u∈vs,u.oneCell'=true) /\
          ((news.length=0/\eval xx=.slice none 0 0)\/∃ a c,eval xx=.slice (some a) news.length c/\∀ j u,vs[j]? =some u->w.cell? (a.add j)=some u):=by
         rcases zaq rx (fun r hr=>hall r (by simp[hr]))with ⟨rfl,ex|⟨a',cap',ex⟩⟩|⟨b,o,cap,vs,ex,_,hv,hc⟩
         ·exact⟨[],rfl,by simp,.inl ⟨rfl,ex⟩⟩
         ·exact⟨[],rfl,by simp,.inr ⟨a',cap',ex,fun j u hu=>by simp at hu⟩⟩
         exact⟨vs,hv,qre.one s.sath hc,.inr ⟨⟨b,o,none⟩,cap,ex,fun j u hu=>by rw[Addr.add_lit]; exact(s.sath.cell _ _ _ (hc j u hu)).1⟩⟩
        obtain⟨vs,hv,hone,hxx⟩:=run;have old:qre H i'.size rows xs/\∀ u∈xs,u.oneCell'=true:=by
         rcases zaq rsl (fun r hr=>hall r (by simp[hr]))with ⟨rfl,ex⟩|⟨b,o,cap,us,ex,_,hv',hc⟩
         ·have:xs=[]:=jJ (by simpa using hown.1)
          subst this;exact⟨rfl,by simp⟩
         have hbk:qcj (eval sx)=some b:=by rw[ex]; rfl
         have ho:o=0:=by
          rcases hown.2 with ⟨e1,_⟩|⟨g,cap',cur,e1,_⟩
          ·rw[ex]at e1; cases e1
          rw[ex]at e1; injection e1 with e1; injection e1 with e1; injection e1
         subst ho;have:xs=us:=by
          refine List.ext_getElem? fun j=>?_;have l1:xs.length=us.length:=by rw[hown.1,hv'.length]
          rcases Nat.lt_or_ge j xs.length with hj|hj
          ·have h1:=(hxs b hbk).1 j _ (jf hj)
           have h2:=hc j _ (jf (show j<us.length by omega));rw[jy]at h2;rw[jf hj,jf (show j<us.length by omega),← h1,← h2]
          rw[List.getElem?_eq_none hj,List.getElem?_eq_none (by omega)]
         subst this;exact⟨hv',qre.one s.sath hc⟩
        obtain⟨hvo,honeo⟩:=old;obtain⟨v',w',hr,hown',hk⟩:=q5j (P:=P) (w:=w) (ty:=ty) hu hi hzv hzs hown hv.length hone hxx (by rw[jb]at h63; exact h63) (by rw[jb]at hb; exact hb);have sk:=s.kill k0;obtain⟨hle,sat⟩:=qso sk hown hxs (fun g hg k o' u hk' hu' hl=>by
          rw[jG]at hk';split at hk'
          ·first
            | (cases hk'; simp[AObj.live]at hl; done)
            | (split at hk'<;>first|(cases hk'; done)|(cases hk'; simp[AObj.live]at hl))
          ·rename_i hne
           exact s.excl k0 k _ o' _ u g hob hk' hrho hu' hne rfl hl hg)
         (fun g hg=>s.own k0 _ _ g hob hrho rfl hg) hv.length (fun u hu'=>by
          rcases jz.1 hu' with h|h
          ·exact honeo u h
          exact hone u h) hown' hk
        simp only[execOp,resolve,invoke,builtin,kh,ki,kg,kf,jl,jO,hr];refine⟨_,_,List.prefix_append _ _,hle,by rw[jb]; exact sat,?_,qru (hvo.append hv) hle (by rw[jb]; exact hown')⟩;have:(0+(lo.set k0 AObj.dead).length)=ρ.length:=by simp[s.hlen]
        rw[this];simp
       exact h.elim
      exact h.elim
     exact h.elim
    exact h.elim
   exact h.elim
  have h0:=qbr h; clear h; obtain⟨s',h,hs'⟩:=h0;have h0:=qbr h; clear h; obtain⟨x',h,hx'⟩:=h0;split at h
  case h_2=>exact h.elim
  rename_i str;split at h
  case h_2=>exact h.elim
  rename_i hut;have h0:=qme h; clear h; obtain⟨e,i,hu,hi,h⟩:=h0;split at h
  case h_2=>exact h.elim
  rename_i hz1;have hz1:=zcs hz1;split at h
  case h_2=>exact h.elim
  rename_i i' hi';have:i'=i:=Option.some.inj (hi'.symm.trans hi);subst this;split at h
  case h_2=>exact h.elim
  rename_i hzv;have hbl:(qau str).length=str.length:=by simp[qau]
  split at h
  ·obtain⟨⟨hb,h63⟩,h⟩:=h
   have h:=qe0 h;have h:=qfy h;refine⟨_,_,h,qex.push _,fun hg bs ρ H w eval s hx=>?_⟩;have es:eval sx=.slice none 0 0:=by
    have:=hs' ρ H _ hg (hx sx (by simp[kj,kl]));simpa[qch,qco]using this
   have ex:=qs4 (hx' ρ H _ hg (hx xx (by simp[kj,kl])));obtain⟨v',w',hr,hown',hk⟩:=qws (P:=P) (w:=w) (ty:=ty) hu hut hi hzv hz1 (World.ownsRow_nil w 0 e 1) str (by omega) (by rw[hbl]at hb; simpa using hb);have hv:=zjd H str;obtain⟨hle,sat⟩:=qso s (World.ownsRow_nil w 0 e 1) (fun b hb=>by simp[qcj]at hb) (fun g hg=>by simp[qcj]at hg) (fun g hg=>by simp[qcj]at hg) (by rw[Lib.strCells_length,qvn,Nat.mul_one]) (by simpa using Lib.strCells_oneCell _) hown' hk
   simp only[execOp,resolve,invoke,builtin,kh,ki,kg,kf,jl,jO,es,ex,hr];simp only[jy,jv]at hown' sat hle;refine⟨_,_,List.prefix_append _ _,hle,by rw[hz1,hbl]; exact sat,by simp[← s.hlen],qru hv hle (by rw[hbl]; exact hown')⟩
  ·rename_i k0 rows
   obtain⟨⟨hall,hb,h63⟩,h⟩:=h;have h0:=qdk h; clear h; obtain⟨ob,hob,h⟩:=h0;split at h
   case h_2=>exact h.elim
   rename_i e' z' n;obtain⟨⟨he,hz,hn⟩,h⟩:=h;subst he; subst hz; subst hn;obtain⟨h,hk0⟩:=qgv h;have h:=qe0 h;have h:=qfy h;refine⟨_,_,h,qex.kill _ hob rfl,fun hg bs ρ H w eval s hx=>?_⟩;have rs:=hs' ρ H _ hg (hx sx (by simp[kj,kl]));obtain⟨hrho,rsl⟩:=rs;have ex:=qs4 (hx' ρ H _ hg (hx xx (by simp[kj,kl])));obtain⟨xs,hown,hxs⟩:=s.objs k0 _ _ hob hrho;have old:qre H 1 rows xs/\∀ u∈xs,u.oneCell'=true:=by
    rcases zaq rsl hall with ⟨rfl,ex⟩|⟨b,o,cap,us,ex,_,hv',hc⟩
    ·have:xs=[]:=jJ (by simpa using hown.1)
     subst this;exact⟨rfl,by simp⟩
    have hbk:qcj (eval sx)=some b:=by rw[ex]; rfl
    have ho:o=0:=by
     rcases hown.2 with ⟨e1,_⟩|⟨g,cap',cur,e1,_⟩
     ·rw[ex]at e1; cases e1
     rw[ex]at e1; injection e1 with e1; injection e1 with e1; injection e1
    subst ho;have:xs=us:=by
     refine List.ext_getElem? fun j=>?_;have l1:xs.length=us.length:=by rw[hown.1,hv'.length]
     rcases Nat.lt_or_ge j xs.length with hj|hj
     ·have h1:=(hxs b hbk).1 j _ (jf hj)
      have h2:=hc j _ (jf (show j<us.length by omega));rw[jy]at h2;rw[jf hj,jf (show j<us.length by omega),← h1,← h2]
     rw[List.getElem?_eq_none hj,List.getElem?_eq_none (by omega)]
    subst this;exact⟨hv',qre.one s.sath hc⟩
   obtain⟨hvo,honeo⟩:=old;rw[jb,hbl]at hb h63;obtain⟨v',w',hr,hown',hk⟩:=qws (P:=P) (w:=w) (ty:=ty) hu hut hi hzv hz1 hown str h63 hb;have hv:=zjd H str;have sk:=s.kill k0;obtain⟨hle,sat⟩:=qso sk hown hxs (fun g hg k o' u hk' hu' hl=>by
     rw[jG]at hk';split at hk'
     ·first
       | (cases hk'; simp[AObj.live]at hl; done)
       | (split at hk'<;>first|(cases hk'; done)|(cases hk'; simp[AObj.live]at hl))
     ·rename_i hne
      exact s.excl k0 k _ o' _ u g hob hk' hrho hu' hne rfl hl hg)
    (fun g hg=>s.own k0 _ _ g hob hrho rfl hg) (by rw[Lib.strCells_length,qvn,Nat.mul_one]) (fun u hu'=>by
     rcases jz.1 hu' with h|h
     ·exact honeo u h
     exact Lib.strCells_oneCell _ u h) hown' hk
   simp only[execOp,resolve,invoke,builtin,kh,ki,kg,kf,jl,jO,ex,hr];refine⟨_,_,List.prefix_append _ _,hle,by rw[hz1,jb,hbl]; exact sat,?_,qru (hvo.append hv) hle (by rw[jb,hbl]; exact hown')⟩;have:(0+(lo.set k0 AObj.dead).length)=ρ.length:=by simp[s.hlen]
   rw[this];simp
  exact h.elim
 exact zju (o:=⟨dst,_,ty,pos,after,guard⟩) h
end
end Ax
end
section
namespace Ax
open Go
def upd (e:Nat->FV) (d:Option Tmp) (v:FV):Nat->FV:=
 match d with
 | none=>e
 | some d=>fun t=>if t=d then v else e t
theorem zmj (d:Tmp) (v:FV) (E:Env):qcc ((d,v)::E)=upd (qcc E) (some d) v:=by
 funext t;simp only[qcc,upd];by_cases h:t=d
 ·subst h; simp[Nat.beq_refl]
 have:Nat.beq t d=false:=by
  cases hb:Nat.beq t d with
  | false=>rfl
  | true=>exact absurd (jn hb) h
 simp[this,h]
def qq1 (ops:Array Oper) (o:Oper) (e:Nat->FV) (g:G):Prop:=
 match o.guard with
 | none=>g=none
 | some (j,want)=>∃ oj d b,ops[j]? =some oj/\oj.dst=some d /\
   ((e d=.p (.bool b)/\g=some (match want with|true=>b|false=>!b)) \/
    ∃ g',e d=.opt g' (.p (.bool b))/\g=some (match want with|true=>g'&&b|false=>g'&&!b))
def qzt (P:Program) (sl:List Nat) (m:Bool) (n0:Nat) (o:Oper) (e:Nat->FV) (lo:List AObj) (g:G) (fv:FV):Prop:=
 qlf P o e lo g fv lo/\(m=true->q0b sl o=false->∃ kk:Option (Nat×AObj),(∀ k ob,kk=some (k,ob)->zv6 sl n0 k=true/\ob.boxy=true/\lo[k]? =some ob)/\∀ lo2,(∀ k ob,kk=some (k,ob)->lo2[k]? =some ob)->qlf P o e lo2 g fv lo2)
def znp (sl:List Nat) (m:Bool) (n0:Nat) (o:Oper) (lo lo':List AObj):Prop:=
 m=true->n0<=lo.length->n0<=lo'.length/\(zhw sl o=true->∀ k ob,zv6 sl n0 k=true->ob.boxy=true->(lo[k]? =some ob↔lo'[k]? =some ob))
theorem zqf {sl:List Nat} {n0 k:Nat} (h:zv6 sl n0 k=true):k<n0/\zc6 sl (60000000+1000 * n0+k)=false:=by
 unfold zv6 at h;split at h
 ·rename_i hb
  split at h
  ·cases h
  rename_i hm; exact⟨jh hb,hm⟩
 cases h
theorem qex.ok {sl:List Nat} {m:Bool} {n0:Nat} {o:Oper} {lo lo':List AObj} (hst:m=true->qu0 sl o=false) (h:qex (zfs o.op) lo lo'):znp sl m n0 o lo lo':=fun hmm hn=>⟨Nat.le_trans hn h.1,fun hm k ob hk hb=>by
 simp only[zhw,hst hmm,Bool.or_false]at hm;exact h.2 hm k ob (Nat.lt_of_lt_of_le (zqf hk).1 hn) hb⟩
def qwf (P:Program) (inl sl:List Nat) (m:Bool) (n0 N:Nat) (ops:Array Oper) (o:Oper) (e:Nat->FV) (lo:List AObj) (e':Nat->FV) (lo':List AObj):Prop:=
 ∃ g fv,qq1 ops o e g/\(∀ d,o.dst=some d->d<N)/\e'=upd e o.dst (qwd g fv) /\
  ((qom inl o=true/\g=none/\qlf P o e lo none fv lo'/\znp sl m n0 o lo lo') \/
   (qom inl o=false/\q35 o.op=true/\lo'=lo/\qzt P sl m n0 o e lo g fv) \/
   (qom inl o=false/\q35 o.op=false/\lo'=lo/\∀ lo,qlf P o e lo g fv lo))
theorem qwv (o:Oper):qom [] o=qwu o.op:=by
 unfold qom;split
 ·rename_i h; simp[h,zc6,qwu]
 ·rename_i h; simp[h,zxk,zc6,qwu]
 ·rename_i h
  simp only[h,zrt,qwu];split<;>simp[zc6]
 ·rename_i h
  simp only[h,zrt,qwu];split<;>simp[zc6]
 rfl
theorem qxw {ops:List Oper} {o:Oper} {E:Env} {R:G->Prop} (h:zc0 ops o E R):∃ g,qq1 ops.toArray o (qcc E) g/\R g:=by
 unfold zc0 at h;unfold qq1;split at h
 ·rename_i hg
  exact⟨none,by simp[hg],h⟩
 rename_i j want hg;obtain⟨oj,hoj,h⟩:=qdk h;split at h
 ·rename_i d hd
  rw[qz1]at h;split at h
  ·rename_i b he
   cases want with
   | true=>exact⟨_,by simp only[hg]; exact⟨oj,d,b,by simpa using hoj,hd,.inl ⟨he,rfl⟩⟩,h⟩
   | false=>exact⟨_,by simp only[hg]; exact⟨oj,d,b,by simpa using hoj,hd,.inl ⟨he,rfl⟩⟩,h⟩
  ·rename_i g' b he
   cases want with
   | true=>exact⟨_,by simp only[hg]; exact⟨oj,d,b,by simpa using hoj,hd,.inr ⟨g',he,rfl⟩⟩,h⟩
   | false=>exact⟨_,by simp only[hg]; exact⟨oj,d,b,by simpa using hoj,hd,.inr ⟨g',he,rfl⟩⟩,h⟩
  ·exact h.elim
 exact h.elim
theorem qft {N:Nat} {d:Option Tmp} {v:FV} {E:Env} {R:Env->Prop} (h:qy1 N d v E R) :
  (∀ t,d=some t->t<N)/\∃ E',qcc E'=upd (qcc E) d v/\R E':=by
 unfold qy1 at h;split at h
 ·rename_i t
  split at h
  ·rename_i hb
   rw[zhc]at h;refine⟨fun t' ht=>?_,_,zmj t v E,h⟩;cases ht;exact jh hb
  exact h.elim
 exact⟨fun t ht=>(by cases ht),E,rfl,h⟩
theorem q99 {P:Program} {o:Oper} {t:TypeId} {x i:Operand} {ok:Bool} (ho:o.op=.lookup t x i ok) {E:Env} {g:G} {lo:List AObj} {x' i':FV} (hx':Str g (evF (qcc E) x) x') (hi':Str g (evF (qcc E) i) i') {R:FV->Prop} (h:qxx P g t lo x' i' ok R) :
  ∃ fv,R fv/\qlf P o (qcc E) lo g fv lo:=by
 obtain⟨fv,h,_,hs⟩:=zhl h;refine⟨_,h,fun hg bs ρ H w eval s hx=>?_⟩;obtain⟨v,hr,rv⟩:=hs hg bs ρ H w _ _ s (hx' ρ H _ hg (hx x (by simp[ho,kj]))) (hi' ρ H _ hg (hx i (by simp[ho,kj])));simp only[execOp,ho];exact qc1 s hr rv
theorem zir {P:Program} {N:Nat} {all:List Oper} {o:Oper} {E:Env} {lo:List AObj} {R:Env->List AObj->Prop} (h:zl0 P N all o E lo R) :
  ∃ E' lo',qwf P [] [] false 0 N all.toArray o (qcc E) lo (qcc E') lo'/\R E' lo':=by
 unfold zl0 at h;unfold qwf;simp only[qwv];obtain⟨g,hg,h⟩:=qxw h;split at h
 ·rename_i hl
  have he:qwu o.op=false:=by
   cases hop:o.op<;>simp[hop,q35]at hl<;>rfl
  have fin:∀ {fv:FV},qlf P o (qcc E) lo g fv lo->qzt P [] false 0 o (qcc E) lo g fv:=fun h=>⟨h,fun h=>by cases h⟩
  split at h
  ·rename_i t x ho
   obtain⟨fv,h,hs⟩:=zjx ho h;obtain⟨hd,E',hE,h⟩:=qft h;exact⟨E',lo,⟨g,fv,hg,hd,hE,.inr (.inl ⟨he,hl,rfl,fin hs⟩)⟩,h⟩
  ·rename_i sr d x ho
   obtain⟨fv,h,hs⟩:=zjt ho h;obtain⟨hd,E',hE,h⟩:=qft h;exact⟨E',lo,⟨g,fv,hg,hd,hE,.inr (.inl ⟨he,hl,rfl,fin hs⟩)⟩,h⟩
  ·rename_i t x i ok ho
   obtain⟨x',h,hx'⟩:=qbr h;obtain⟨i',h,hi'⟩:=qbr h;obtain⟨fv,h,hs⟩:=q99 ho hx' hi' h;obtain⟨hd,E',hE,h⟩:=qft h;exact⟨E',lo,⟨g,fv,hg,hd,hE,.inr (.inl ⟨he,hl,rfl,fin hs⟩)⟩,h⟩
  exact h.elim
 rename_i hl;split at h
 ·rename_i he
  split at h
  ·obtain⟨fv,lo',h,hr,hs⟩:=q5p h
   obtain⟨hd,E',hE,h⟩:=qft h;exact⟨E',lo',⟨none,fv,hg,hd,hE,.inl ⟨he,rfl,hs,hr.ok (fun h=>by cases h)⟩⟩,h⟩
  exact h.elim
 rename_i he;obtain⟨fv,h,hs⟩:=zab h;obtain⟨hd,E',hE,h⟩:=qft h;exact⟨E',lo,⟨g,fv,hg,hd,hE,.inr (.inr ⟨he,hl,rfl,hs⟩)⟩,h⟩
def zt6 (P:Program) (sl:List Nat) (t:TypeId) (lo:List AObj) (n0:Nat) (x:FV) (R:FV->Prop):Prop:=
 match x with
 | .ptr k off=>match zv6 sl n0 k with
  | true=>qz0 P t lo (.ptr k off) R
  | false=>False
 | .hptr row=>qz0 P t [] (.hptr row) R
 | _=>False
def zlh (P:Program) (sl:List Nat) (g:G) (t:TypeId) (lo:List AObj) (n0:Nat) (x key:FV) (ok:Bool) (R:FV->Prop):Prop:=
 match x with
 | .mref k=>match zv6 sl n0 k with
  | true=>qxx P g t lo (.mref k) key ok R
  | false=>False
 | _=>False
def zt4 (P:Program) (g:G) (src dst:TypeId) (x:FV) (R:FV->Prop):Prop:=
 match x with
 | .p p=>q97 P g src dst [] (.p p) R
 | .tsl k rows=>q97 P g src dst [] (.tsl k rows) R
 | _=>False
def zv0 (P:Program) (sl:List Nat) (n0 N:Nat) (all:List Oper) (o:Oper) (E:Env) (lo:List AObj) (R:Env->List AObj->Prop):Prop:=
 zc0 all o E fun g=>
  match q35 o.op with
  | true=>match o.op with
   | .load t x=>evS E g x fun x=>zt6 P sl t lo n0 x fun v=>qy1 N o.dst (qwd g v) E fun E=>R E lo
   | .convert s d x=>evS E g x fun x=>zt4 P g s d x fun v=>qy1 N o.dst (qwd g v) E fun E=>R E lo
   | .lookup t x i ok=>evS E g x fun x=>evS E g i fun i=>zlh P sl g t lo n0 x i ok fun v=>qy1 N o.dst (qwd g v) E fun E=>R E lo
   | _=>False
  | false=>match qwu o.op with
   | true=>match g with
    | none=>zt5 P o.op E lo fun v lo=>qy1 N o.dst v E fun E=>R E lo
    | some _=>False
   | false=>zsd P o.op E g fun v=>qy1 N o.dst (qwd g v) E fun E=>R E lo
theorem q0n {α:Type}:∀ {n:Nat} {l:List α} {a:α} {R:α->Prop},l[n]? =some a->R a->qyn n l R
 | 0,[],a,R,h,_=>by simp at h
 | 0,b::l,a,R,h,hr=>by simp at h; subst h; exact hr
 | n+1,[],a,R,h,_=>by simp at h
 | n+1,b::l,a,R,h,hr=>q0n (n:=n) (l:=l) (by simpa using h) hr
theorem zpd {P:Program} {t:TypeId} {lo:List AObj} {k off:Nat} {R:FV->Prop} (h:qz0 P t lo (.ptr k off) R) :
  ∃ fv ob,R fv/\lo[k]? =some ob/\ob.boxy=true/\∀ lo2:List AObj,lo2[k]? =some ob->qz0 P t lo2 (.ptr k off) (fun v=>v=fv):=by
 unfold qz0 at h;obtain⟨ob,hob,h⟩:=qdk h;split at h
 ·rename_i bt cells
  obtain⟨h,hoff⟩:=qkz h;obtain⟨d,i,hd,hi,h⟩:=qib h;have dropI:∀ {n:Nat} {l:List FV} {R:List FV->Prop},n<=l.length->R (l.drop n)->qyu n l R:=by
   intro n
   induction n with
   | zero=>intro l R _ h; simpa[qyu]using h
   | succ n ih=>
    intro l R hl h;cases l with
    | nil=>simp at hl
    | cons a l=>exact ih (by simpa using hl) (by simpa using h)
  have takeI:∀ {n:Nat} {l:List FV} {R:List FV->Prop},n<=l.length->R (l.take n)->q4o n l R:=by
   intro n
   induction n with
   | zero=>intro l R _ h; simpa[q4o]using h
   | succ n ih=>
    intro l R hl h;cases l with
    | nil=>simp at hl
    | cons a l=>exact ih (l:=l) (R:=fun l=>R (a::l)) (by simpa using hl) (by simpa using h)
  have frzI:∀ {l:List FV} {R:List PV->Prop},znj l R->∃ ps,R ps/\∀ R',R' ps->znj l R':=by
   intro l
   induction l with
   | nil=>intro R h; exact⟨[],h,fun R' h=>h⟩
   | cons v l ih=>
    intro R h;simp only[znj]at h;unfold zoo at h;split at h
    ·rename_i p
     obtain⟨ps,h,hp⟩:=ih h;exact⟨_,h,fun R' h'=>hp _ h'⟩
    ·rename_i kk rows
     obtain⟨ps,h,hp⟩:=ih h;exact⟨_,h,fun R' h'=>hp _ h'⟩
    exact h.elim
  have typeI:∀ {R:Bool->Nat->Prop},R (zts d) i.size->qs6 P t R:=by
   intro R h;unfold qs6;simp only[hd,hi];exact h
  split at h
  ·rename_i hagg
   obtain⟨h,hn⟩:=qol h;obtain⟨ps,h,hps⟩:=frzI h;refine⟨_,_,h,hob,rfl,fun lo2 h2=>?_⟩;unfold qz0;refine q0n h2 (dropI hoff (typeI ?_));rw[hagg];exact takeI hn (hps _ rfl)
  rename_i hagg;split at h
  ·rename_i c r hc
   refine⟨_,_,h,hob,rfl,fun lo2 h2=>?_⟩;unfold qz0;refine q0n h2 (dropI hoff (typeI ?_));rw[hagg];simp only[hc]
  exact h.elim
 exact h.elim
theorem zjy {P:Program} {g:G} {t:TypeId} {lo:List AObj} {k:Nat} {key:FV} {ok:Bool} {R:FV->Prop} (h:qxx P g t lo (.mref k) key ok R) :
  ∃ fv ob,R fv/\lo[k]? =some ob/\ob.boxy=true/\∀ lo2:List AObj,lo2[k]? =some ob->qxx P g t lo2 (.mref k) key ok (fun v=>v=fv):=by
 cases key<;>simp only[qxx]at h;rename_i kp;obtain⟨ob,hob,h⟩:=qdk h;split at h
 ·rename_i d es mk
  have mapI:∀ {R:TypeId->Prop},zua P t d kp R->∃ et,R et/\∀ R':TypeId->Prop,R' et->zua P t d kp R':=by
   intro R h;unfold zua at h;split at h
   ·rename_i kt et ht
    split at h
    ·rename_i d' hd
     have keyI:∀ {R:Prop},zj2 d' d kp R->R/\∀ R':Prop,R'->zj2 d' d kp R':=by
      intro R h;unfold zj2 at h;split at h
      ·exact⟨h,fun R' h'=>h'⟩
      ·exact⟨h,fun R' h'=>h'⟩
      ·split at h
       ·rename_i h1
        split at h
        ·rename_i h2
         refine⟨h,fun R' h'=>?_⟩;simp only[zj2,h1,h2];exact h'
        exact h.elim
       exact h.elim
      exact h.elim
     obtain⟨h,hk⟩:=keyI h;refine⟨et,h,fun R' h'=>?_⟩;unfold zua;simp only[ht,hd];exact hk _ h'
    exact h.elim
   exact h.elim
  have zeroI:∀ {et:TypeId} {R:PV->Prop},ziv P et R->∃ z,R z/\∀ R':PV->Prop,R' z->ziv P et R':=by
   intro et R h;have vsI:∀ {vs:List Value} {R:List PV->Prop},znl vs R->∃ ps,R ps/\∀ R':List PV->Prop,R' ps->znl vs R':=by
    intro vs
    induction vs with
    | nil=>intro R h; exact⟨[],h,fun R' h=>h⟩
    | cons v vs ih=>
     intro R h;simp only[znl]at h;split at h
     ·rename_i p hp
      obtain⟨ps,h,hps⟩:=ih h;refine⟨_,h,fun R' h'=>?_⟩;simp only[znl,hp];exact hps _ h'
     exact h.elim
   unfold ziv at h;split at h
   ·rename_i i hi
    split at h
    ·rename_i vs hz
     obtain⟨ps,h,hps⟩:=vsI h;refine⟨_,h,fun R' h'=>?_⟩;unfold ziv;simp only[hi,hz];exact hps _ h'
    ·rename_i v hne hz
     split at h
     ·rename_i p hp
      refine⟨_,h,fun R' h'=>?_⟩;unfold ziv;simp only[hi,hz,hp];exact h'
     exact h.elim
    exact h.elim
   exact h.elim
  obtain⟨et,h,h1⟩:=mapI h;obtain⟨z,h,h2⟩:=zeroI h;obtain⟨v,b,hvb,h⟩:=h;refine⟨_,_,h,hob,rfl,fun lo2 h3=>?_⟩;simp only[qxx];exact q0n h3 (h1 _ (h2 _ ⟨v,b,hvb,rfl⟩))
 exact h.elim
theorem zh1 {α:Type} {R R':α->Prop} (h:∀ a,R a->R' a):∀ {n:Nat} {l:List α},qyn n l R->qyn n l R'
 | 0,[],x=>x
 | 0,a::_,x=>h a x
 | n+1,[],x=>x
 | n+1,_::l,x=>zh1 h (n:=n) (l:=l) x
theorem zim {α:Type}:∀ {n:Nat} {x:α} {l:List α} {R R':List α->Prop},(∀ a,R a->R' a)->q4x n x l R->q4x n x l R'
 | 0,x,[],_,_,_,y=>y
 | 0,x,_::l,_,_,h,y=>h _ y
 | n+1,x,[],_,_,_,y=>y
 | n+1,x,a::l,R,R',h,y=>zim (n:=n) (x:=x) (l:=l) (R:=fun l=>R (a::l)) (R':=fun l=>R' (a::l)) (fun _=>h _) y
theorem zlw {α:Type}:∀ {n:Nat} {x:α} {l:List α} {R:List α->Prop},q4x n x l R->q4x n x l (fun l'=>R l'/\l'.length=l.length/\∀ j,j≠n->l'[j]? =l[j]?)
 | 0,x,[],_,h=>h
 | 0,x,_::l,_,h=>⟨h,by simp,fun j hj=>by cases j with|zero=>exact absurd rfl hj|succ j=>simp⟩
 | n+1,x,[],_,h=>h
 | n+1,x,a::l,R,h=>by
  have h1:q4x n x l (fun l=>R (a::l)):=h
  refine zim (n:=n) (x:=x) (l:=l) (R':=fun l'=>R (a::l')/\(a::l').length=(a::l).length/\∀ j,j≠n+1->(a::l')[j]? =(a::l)[j]?) ?_ (zlw h1)
  rintro l' ⟨hr,hl,hj⟩;refine⟨hr,by simp[hl],fun j hne=>?_⟩;cases j with
  | zero=>simp
  | succ j=>simpa using hj j (by omega)
theorem q0o:∀ {off:Nat} {vs old:List FV} {R R':List FV->Prop},(∀ a,R a->R' a)->qz6 off vs old R->qz6 off vs old R'
 | 0,[],old,_,_,h,y=>by cases old<;>exact h _ y
 | 0,v::vs,[],_,_,_,y=>y
 | 0,v::vs,_::old,R,R',h,y=>q0o (off:=0) (vs:=vs) (old:=old) (R:=fun l=>R (v::l)) (R':=fun l=>R' (v::l)) (fun _=>h _) y
 | n+1,vs,[],_,_,_,y=>by cases vs<;>exact y
 | n+1,vs,a::old,R,R',h,y=>by
  cases vs with
  | nil=>exact q0o (off:=n) (vs:=[]) (old:=old) (R:=fun l=>R (a::l)) (R':=fun l=>R' (a::l)) (fun _=>h _) y
  | cons v vs=>exact q0o (off:=n) (vs:=v::vs) (old:=old) (R:=fun l=>R (a::l)) (R':=fun l=>R' (a::l)) (fun _=>h _) y
theorem zht:∀ {cs:List PV} {R R':List FV->Prop},(∀ a,R a->R' a)->zub cs R->zub cs R'
 | [],_,_,h,y=>h _ y
 | c::cs,R,R',h,y=>zht (cs:=cs) (R:=fun l=>R (.p c::l)) (R':=fun l=>R' (.p c::l)) (fun _=>h _) y
theorem q9w:∀ {c:FV} {R R':List FV->Prop},(∀ a,R a->R' a)->q3y c R->q3y c R'
 | .cap0,_,_,h,y=>h _ y
 | .cap a b,R,R',h,y=>q9w (c:=b) (R:=fun l=>R (a::l)) (R':=fun l=>R' (a::l)) (fun _=>h _) y
 | .top,_,_,_,y|.p _,_,_,_,y|.opt ..,_,_,_,y|.tsl ..,_,_,_,y|.ptr ..,_,_,_,y|.hptr _,_,_,_,y|.bself _,_,_,_,y|.bsl ..,_,_,_,y|.vsl ..,_,_,_,y|.eptr ..,_,_,_,y|.mref _,_,_,_,y|.pair ..,_,_,_,y|.stmp _,_,_,_,y|.clo ..,_,_,_,y|.fagg _,_,_,_,y|.nxt ..,_,_,_,y=>by simp[q3y]at y
theorem zjg {v:FV} {R R':List FV->Prop} (h:∀ a,R a->R' a) (y:q1y v R):q1y v R':=by
 unfold q1y at *;split at y
 ·exact zht h y
 ·exact q9w h y
 split at y
 ·exact h _ y
 exact y.elim
theorem zhp {α:Type}:∀ {l:List α} {n:Nat} {R R':Nat->Prop},(∀ a,R a->R' a)->q5w l n R->q5w l n R'
 | [],n,_,_,h,y=>h _ y
 | _::l,n,R,R',h,y=>zhp (l:=l) (n:=n+1) h y
theorem zm3 {P:Program} {t:TypeId} {R R':Bool->Nat->Prop} (h:∀ a b,R a b->R' a b) (y:qs6 P t R):qs6 P t R':=by
 unfold qs6 at *;split at y
 ·split at y
  ·exact h _ _ y
  exact y.elim
 exact y.elim
theorem zcj {P:Program} {t:TypeId} {a x:Operand} {E:Env} {lo:List AObj} {R:FV->List AObj->Prop} {k off:Nat} (ha:evF (qcc E) a=.ptr k off) (h:zt5 P (.store t a x) E lo R) :
  zt5 P (.store t a x) E lo (fun v lo'=>R v lo'/\lo'.length=lo.length/\∀ j,j≠k->lo'[j]? =lo[j]?):=by
 simp only[zt5,evS,zci,ha]at h ⊢;have main:∀ v:FV,(q1y v fun vs=>match q6d vs with
   | true=>q5w vs 0 fun n=>qs6 P t fun _ m=>match Nat.beq n m with
    | true=>qyn k lo fun o=>match o with
     | .box bt cells=>qz6 off vs cells fun cells=>q4x k (.box bt cells) lo fun lo=>R (.p (.tup [])) lo
     | _=>False
    | false=>False
   | false=>False)->(q1y v fun vs=>match q6d vs with
   | true=>q5w vs 0 fun n=>qs6 P t fun _ m=>match Nat.beq n m with
    | true=>qyn k lo fun o=>match o with
     | .box bt cells=>qz6 off vs cells fun cells=>q4x k (.box bt cells) lo fun lo'=>R (.p (.tup [])) lo'/\lo'.length=lo.length/\∀ j,j≠k->lo'[j]? =lo[j]?
     | _=>False
    | false=>False
   | false=>False):=fun v h=>by
  refine zjg (fun vs h=>?_) h;split at h
  ·refine zhp (fun n h=>?_) h
   refine zm3 (fun _ m h=>?_) h;split at h
   ·refine zh1 (fun o h=>?_) h
    split at h
    ·refine q0o (fun cells h=>?_) h
     exact zlw h
    exact h.elim
   exact h.elim
  exact h.elim
 split at h
 ·exact⟨h.1,main _ h.2⟩
 exact main _ h
def zj0 (P:Program) (sl:List Nat) (n0:Nat) (t:TypeId) (a x:Operand) (E:Env) (lo:List AObj) (R:FV->List AObj->Prop):Prop:=
 ev E a fun v=>match v with
  | .ptr k _=>match zc6 sl (60000000+1000 * n0+k)with
   | true=>zt5 P (.store t a x) E lo R
   | false=>False
  | _=>False
theorem zhn {P:Program} {sl:List Nat} {o:Oper} {t:TypeId} {a x:Operand} (ho:o.op=.store t a x) {m:Bool} {n0:Nat} {E:Env} {lo:List AObj} {R:FV->List AObj->Prop} (h:zj0 P sl n0 t a x E lo R) :
  ∃ fv lo',R fv lo'/\znp sl m n0 o lo lo'/\qlf P o (qcc E) lo none fv lo':=by
 unfold zj0 at h;simp only[zci]at h;split at h
 ·rename_i k off hv
  split at h
  ·rename_i hk
   have h2:=zcj hv h;rw[← ho]at h2;obtain⟨fv,lo',⟨h,hlen,hj⟩,_,hs⟩:=q5p h2;refine⟨fv,lo',h,fun _ hn=>⟨by omega,fun _ k' ob hp _=>?_⟩,hs⟩;have hne:k'≠k:=fun e=>by
    have:=(zqf hp).2;rw[e,hk]at this;cases this
   rw[hj k' hne]
  exact h.elim
 exact h.elim
theorem zm5 {P:Program} {sl:List Nat} {n0 N:Nat} {all:List Oper} {o:Oper} {E:Env} {lo:List AObj} {R:Env->List AObj->Prop} (hst:qu0 sl o=false) (h:zv0 P sl n0 N all o E lo R) :
  ∃ E' lo',qwf P [] sl true n0 N all.toArray o (qcc E) lo (qcc E') lo'/\R E' lo':=by
 unfold zv0 at h;unfold qwf;simp only[qwv];obtain⟨g,hg,h⟩:=qxw h;split at h
 ·rename_i hl
  have he:qwu o.op=false:=by
   cases hop:o.op<;>simp[hop,q35]at hl<;>rfl
  split at h
  ·rename_i t x ho
   obtain⟨x',h,hx'⟩:=qbr h;have sem:∀ {lo2:List AObj} {fv:FV},qz0 P t lo2 x' (fun v=>v=fv)->qlf P o (qcc E) lo2 g fv lo2:=by
    intro lo2 fv h;obtain⟨fv',h,hs⟩:=q5r h;subst h;intro hg bs ρ H w eval s hx;obtain⟨a,u,_,hr,ru⟩:=hs bs ρ H w _ s (hx' ρ H _ hg (hx x (by simp[ho,kj])));simp only[execOp,ho];exact qc1 s hr ru
   unfold zt6 at h;split at h
   ·rename_i k off
    split at h
    ·rename_i hk
     obtain⟨fv,ob,h,hob,hb,hfix⟩:=zpd h;obtain⟨hd,E',hE,h⟩:=qft h;refine⟨E',lo,⟨g,fv,hg,hd,hE,.inr (.inl ⟨he,hl,rfl,sem (hfix lo hob),fun _ _=>⟨some (k,ob),fun k' ob' e=>?_,fun lo2 h2=>sem (hfix lo2 (h2 k ob rfl))⟩⟩)⟩,h⟩
     cases e;exact⟨hk,hb,hob⟩
    exact h.elim
   ·rename_i row
    have h1:∃ fv,(qy1 N o.dst (qwd g fv) E fun E=>R E lo)/\∀ lo2,qz0 P t lo2 (.hptr row) (fun v=>v=fv):=by
     unfold qz0 at h;obtain⟨d,i,hd,hi,h⟩:=qib h;have typeI:∀ {R:Bool->Nat->Prop},R (zts d) i.size->qs6 P t R:=by
      intro R h;unfold qs6;simp only[hd,hi];exact h
     split at h
     ·rename_i hagg
      obtain⟨h,hn⟩:=qol h;refine⟨_,h,fun lo2=>?_⟩;unfold qz0;refine typeI ?_;rw[hagg];have takeI:∀ {n:Nat} {l:List PV} {R:List PV->Prop},n<=l.length->R (l.take n)->q4o n l R:=by
       intro n
       induction n with
       | zero=>intro l R _ h; simpa[q4o]using h
       | succ n ih=>
        intro l R hl h;cases l with
        | nil=>simp at hl
        | cons a l=>exact ih (l:=l) (R:=fun l=>R (a::l)) (by simpa using hl) (by simpa using h)
      exact takeI hn rfl
     rename_i hagg;split at h
     ·rename_i c r
      refine⟨_,h,fun lo2=>?_⟩;unfold qz0;refine typeI ?_;rw[hagg]
     exact h.elim
    obtain⟨fv,h,hfix⟩:=h1;obtain⟨hd,E',hE,h⟩:=qft h;exact⟨E',lo,⟨g,fv,hg,hd,hE,.inr (.inl ⟨he,hl,rfl,sem (hfix lo),fun _ _=>⟨none,fun k' ob' e=>(by cases e),fun lo2 _=>sem (hfix lo2)⟩⟩)⟩,h⟩
   exact h.elim
  ·rename_i sr d x ho
   obtain⟨x',h,hx'⟩:=qbr h;have key:∃ fv,(qy1 N o.dst (qwd g fv) E fun E=>R E lo)/\∀ lo2,qlf P o (qcc E) lo2 g fv lo2:=by
    unfold zt4 at h;split at h
    ·rename_i p
     obtain⟨fv,h,hs⟩:=q20 h;refine⟨fv,h,fun lo2 hg bs ρ H w eval s hx=>?_⟩;have s0:SatW { S:=zku,w0:=w,H0:=H,r0:=[] } [] H [] w:={ sath:=s.sath,hlen:=rfl,pre:=jr _,objs:=fun k o v h=>by simp at h,excl:=fun k _ o _ v _ b h=>by simp at h,own:=fun k o v b h=>by simp at h,keep:=Keep.refl _ w,leH:=PH.le.refl H,newH:=fun b o v h=>.inl ⟨v,h⟩ }
     have rx:=hx' ρ H _ hg (hx x (by simp[ho,kj]));obtain⟨u,hr,ru⟩:=hs hg _ [] H w _ s0 rx;simp only[execOp,ho];exact qc1 s hr (ru.mono (List.nil_prefix) (PH.le.refl H))
    ·rename_i k rows
     have h':q97 P g sr d [] (.p (.sl rows)) fun v=>qy1 N o.dst (qwd g v) E fun E=>R E lo:=h
     obtain⟨fv,h,hs⟩:=q20 h';refine⟨fv,h,fun lo2 hg bs ρ H w eval s hx=>?_⟩;have s0:SatW { S:=zku,w0:=w,H0:=H,r0:=[] } [] H [] w:={ sath:=s.sath,hlen:=rfl,pre:=jr _,objs:=fun k o v h=>by simp at h,excl:=fun k _ o _ v _ b h=>by simp at h,own:=fun k o v b h=>by simp at h,keep:=Keep.refl _ w,leH:=PH.le.refl H,newH:=fun b o v h=>.inl ⟨v,h⟩ }
     have rx:=hx' ρ H _ hg (hx x (by simp[ho,kj]));obtain⟨u,hr,ru⟩:=hs hg _ [] H w _ s0 rx.2;simp only[execOp,ho];exact qc1 s hr (ru.mono (List.nil_prefix) (PH.le.refl H))
    exact h.elim
   obtain⟨fv,h,hs⟩:=key;obtain⟨hd,E',hE,h⟩:=qft h;exact⟨E',lo,⟨g,fv,hg,hd,hE,.inr (.inl ⟨he,hl,rfl,hs lo,fun _ _=>⟨none,fun k' ob' e=>(by cases e),fun lo2 _=>hs lo2⟩⟩)⟩,h⟩
  ·rename_i t x i ok ho
   have h0:=qbr h; clear h; obtain⟨x',h,hx'⟩:=h0;have h0:=qbr h; clear h; obtain⟨i',h,hi'⟩:=h0;unfold zlh at h;split at h
   ·rename_i k
    split at h
    ·rename_i hk
     obtain⟨fv,ob,h,hob,hb,hfix⟩:=zjy h;obtain⟨hd,E',hE,h⟩:=qft h;have sem:∀ {lo2:List AObj},lo2[k]? =some ob->qlf P o (qcc E) lo2 g fv lo2:=by
      intro lo2 h2;obtain⟨fv',e,hs⟩:=q99 ho hx' hi' (hfix lo2 h2);subst e;exact hs
     refine⟨E',lo,⟨g,fv,hg,hd,hE,.inr (.inl ⟨he,hl,rfl,sem hob,fun _ _=>⟨some (k,ob),fun k' ob' e=>?_,fun lo2 h2=>sem (h2 k ob rfl)⟩⟩)⟩,h⟩
     cases e;exact⟨hk,hb,hob⟩
    exact h.elim
   exact h.elim
  exact h.elim
 rename_i hl;split at h
 ·rename_i he
  split at h
  ·obtain⟨fv,lo',h,hr,hs⟩:=q5p h
   obtain⟨hd,E',hE,h⟩:=qft h;exact⟨E',lo',⟨none,fv,hg,hd,hE,.inl ⟨he,rfl,hs,hr.ok (fun _=>hst)⟩⟩,h⟩
  exact h.elim
 rename_i he;obtain⟨fv,h,hs⟩:=zab h;obtain⟨hd,E',hE,h⟩:=qft h;exact⟨E',lo,⟨g,fv,hg,hd,hE,.inr (.inr ⟨he,hl,rfl,hs⟩)⟩,h⟩
section
variable {P:Program} {N:Nat} {ops:Array Oper} {Q:Exit->Act->World->Prop}
theorem zoq {tmps:Array Value} {d:Nat} {b:Bool} (h:tmps.getD d undef=.bool b):tmps[d]? =some (.bool b):=by
 rw[jZ]at h;cases hx:tmps[d]? with
 | none=>simp[hx,undef]at h
 | some v=>simp[hx]at h; rw[h]
theorem Sat.put {bs:Base} {ρ ρ':List Value} {H H':PH} {e:Nat->FV} {lo lo':List AObj} {a:Act} {w w':World} {d:Option Tmp} {v:Value} {fv:FV}
  (s:Sat bs N ρ H e lo a w) (hr:ρ <+: ρ') (hH:PH.le H H') (s':SatW bs ρ' H' lo' w') (hd:∀ t,d=some t->t<N) (rv:qch ρ' H' fv v) :
  Sat bs N ρ' H' (upd e d fv) lo' (a.put d v) w':=by
 refine{ s' with slots:=fun t=>?_,width:=?_,defers:=?_ }
 ·cases d with
  | none=>exact(s.slots t).mono hr hH
  | some d=>
   have hlt:d<a.tmps.size:=by rw[s.width]; exact hd d rfl
   simp only[upd,Act.put];by_cases h:t=d
   ·subst h
    simp[jZ,hlt,rv]
   simp only[h,if_false];have:=(s.slots t).mono hr hH
   rwa [show(a.tmps.setIfInBounds d v).getD t undef=a.tmps.getD t undef by
    rw[jZ,jZ,Array.getElem?_setIfInBounds_ne (Ne.symm h)]]
 ·cases d<;>simp[Act.put,s.width]
 cases d<;>exact s.defers
theorem ziu {o:Oper} {e:Nat->FV} {g:G} {a:Act} (hg:qq1 ops o e g) {ρ:List Value} {H:PH} (hs:∀ t,qch ρ H (e t) (a.tmps.getD t undef)) :
  Region.wanted o (yielded ops a.tmps)=g.getD true:=by
 unfold qq1 at hg;unfold Region.wanted;split at hg
 ·rename_i h; simp[h,hg]
 rename_i j want h;obtain⟨oj,d,b,hoj,hd,hb⟩:=hg;simp only[h];rcases hb with ⟨he,rfl⟩|⟨g',he,rfl⟩
 ·have h1:=hs d
  rw[he]at h1;have h2:=zoq (qtr h1);simp only[yielded,hoj,Option.bind_some,hd,h2];cases want<;>cases b<;>rfl
 ·have h1:=hs d
  rw[he]at h1;cases g' with
  | true=>
   have h2:=zoq (qtr (ρ:=ρ) (H:=H) (b:=b) (by simpa only[qch,if_true]using h1));simp only[yielded,hoj,Option.bind_some,hd,h2];cases want<;>cases b<;>rfl
  | false=>
   have h2:a.tmps.getD d undef=undef:=by simpa[qch]using h1
   have h3:∀ b,a.tmps[d]? ≠some (.bool b):=fun b hb=>by
    rw[jZ,hb]at h2;simp[undef]at h2
   have h4:yielded ops a.tmps j=none:=by
    simp only[yielded,hoj,Option.bind_some,hd]
    try (split<;>first|rfl|exact absurd (by assumption) (h3 _))
   rw[h4];cases want<;>rfl
theorem qwf.wp {bs:Base} {ρ:List Value} {H:PH} {o:Oper} {e e':Nat->FV} {lo lo':List AObj} {a:Act} {w:World} {K:Act->World->Prop} {i:Nat} (ho:ops[i]? =some o)
  {inl:List Nat} {m:Bool} {n0:Nat} (st:qwf P inl inl m n0 N ops o e lo e' lo') (s:Sat bs N ρ H e lo a w) (hK:∀ ρ' H' a' w',Sat bs N ρ' H' e' lo' a' w'->K a' w'):wpOp P ops Q i K a w:=by
 obtain⟨g,fv,hg,hd,rfl,hs⟩:=st;unfold wpOp;simp only[ho];rw[ziu hg s.slots];have sem:gOn g->zjc P bs ρ H fv lo' ((execOp a.eval o).run P w):=by
  intro hon;have hx:=fun x (_:x∈o.op.operands)=>qut s.slots x
  rcases hs with ⟨_,rfl,hs,_⟩|⟨_,_,rfl,hs⟩|⟨_,_,rfl,hs⟩
  ·exact hs hon bs ρ H w a.eval s.toSatW hx
  ·exact hs.1 hon bs ρ H w a.eval s.toSatW hx
  exact hs _ hon bs ρ H w a.eval s.toSatW hx
 have run:∀ fv',(∀ ρ' H' v,qch ρ' H' fv v->qch ρ' H' fv' v)->(∀ ρ' H' a' w',Sat bs N ρ' H' (upd e o.dst fv') lo' a' w'->K a' w')->gOn g->o.wp P a w K Q:=by
  intro fv' hf hK' hon;have h:=sem hon;have fin:∀ v w',qu1 bs ρ H fv lo' v w'->K (a.put o.dst v) w':=fun v w' ⟨ρ',H',h1,h2,h3,h4⟩=>hK' _ _ _ _ (s.put h1 h2 h3 hd (hf _ _ _ h4))
  unfold Oper.wp;generalize (execOp a.eval o).run P w=r at *;cases r with
  | ok n w'=>
   cases n<;>simp only[zjc]at h<;>simp only[Oper.upon]
   case value v=>exact fin v w' h
   case skip=>exact fin undef w' h
   case enter f args=>exact h.mono fun en w'' ⟨v,e1,h1⟩=>by subst e1; exact fin v w'' h1
  | halt x w'=>simp only[zjc]at h
 cases g with
 | none=>exact .inl (run fv (fun _ _ _ h=>h) hK trivial)
 | some b=>
  cases b with
  | true=>exact .inl (run _ (fun _ _ _ h=>by simpa[qwd,qch]using h) hK rfl)
  | false=>
   have hlo:lo'=lo:=by
    rcases hs with ⟨_,h,_⟩|⟨_,_,h,_⟩|⟨_,_,h,_⟩
    ·cases h
    ·exact h
    exact h
   subst hlo;exact hK _ _ _ _ (s.put (jr _) (PH.le.refl H) s.toSatW hd (by simp[qwd,qch]))
def qk1 (P:Program) (f:FuncId) (args:List FV) (lo:List AObj) (R:FV->List AObj->Prop):Prop:=
 ∀ (bs:Base) (ρ:List Value) (H:PH) (w:World) (vs:List Value),SatW bs ρ H lo w->qd7 ρ H args vs ->
  match (callFunc f vs.toArray).run P w with
  | .ok (.value v) w'=>∃ r lo',qu1 bs ρ H r lo' v w'/\R r lo'
  | .ok (.enter f' args') w'=>w'=w/\Calls P f' args' w fun en w''=>∃ v r lo',en=.returned v/\qu1 bs ρ H r lo' v w''/\R r lo'
  | _=>False
theorem qk1.mono {f:FuncId} {args:List FV} {lo:List AObj} {R R':FV->List AObj->Prop} (h:qk1 P f args lo R) (hr:∀ r lo,R r lo->R' r lo):qk1 P f args lo R':=by
 intro bs ρ H w vs s rl;have:=h bs ρ H w vs s rl;generalize (callFunc f vs.toArray).run P w=x at *;cases x with
 | ok n w'=>
  cases n<;>simp only at this ⊢ <;> try exact this
  ·obtain⟨r,lo',a,k⟩:=this; exact⟨r,lo',a,hr _ _ k⟩
  exact⟨this.1,this.2.mono fun en w'' ⟨v,r,lo',e,a,k⟩=>⟨v,r,lo',e,a,hr _ _ k⟩⟩
 | halt x w'=>exact this
def zn0 (v:FV) (lo:List AObj) (no:Prop) (R:List AObj->Prop):Prop:=
 match v with
 | .ptr k off=>qyn k lo fun o=>match o with
  | .box T cells=>qyu off cells fun cs=>match cs with
   | .bself j::_=>(qz6 off [.p .nilp] cells fun cells'=>q4x k (.box T cells') lo R)/\(qz6 off [.ptr j 0] cells fun cells'=>q4x k (.box T cells') lo R)
   | _=>no
  | _=>no
 | _=>no
theorem qd7.over {ρ:List Value} {H:PH}:∀ {cs:List FV} {vs:List Value} {off:Nat} {c:FV} {v:Value},qd7 ρ H cs vs->vs[off]? =some v->qch ρ H c v ->
  qd7 ρ H (cs.take off++[c]++cs.drop (off+1)) vs
 | [],vs,off,c,v,h,hv,r=>by simp only[qd7]at h; subst h; simp at hv
 | d::cs,vs,0,c,v,h,hv,r=>by
  obtain⟨u,vs',rfl,_,rs⟩:=h;simp only[jd,Option.some.injEq]at hv;subst hv;simpa using⟨u,vs',rfl,r,rs⟩
 | d::cs,vs,off+1,c,v,h,hv,r=>by
  obtain⟨u,vs',rfl,r1,rs⟩:=h;have:=rs.over (off:=off) (c:=c) (v:=v) (by simpa using hv) r;have e:(d::cs).drop (off+1+1)=cs.drop (off+1):=rfl;rw[List.take_succ_cons,e,List.cons_append,List.cons_append];exact⟨u,vs',rfl,r1,this⟩
theorem SatW.rebox {bs:Base} {ρ:List Value} {H:PH} {lo:List AObj} {w:World} {k:Nat} {T:TypeId} {cells cells':List FV} (s:SatW bs ρ H lo w) (hk:lo[k]? =some (.box T cells))
  (h:∀ vs,qd7 ρ H cells vs->ρ[k]? ≠none->(∃ b,ρ[k]? =some (.pointer (some ⟨b,0,none⟩))/\w.heap[b]? =some (.cells vs.toArray T (0,0)))->qd7 ρ H cells' vs):SatW bs ρ H (lo.set k (.box T cells')) w where
 sath:=s.sath
 hlen:=by simpa using s.hlen
 pre:=s.pre
 objs:=fun i o v hi hv=>by
  rw[jG]at hi;split at hi
  ·rename_i e
   subst e;split at hi
   ·cases hi
    obtain⟨b,vs,rfl,hg,hc,hH⟩:=s.objs _ _ _ hk hv;exact⟨b,vs,rfl,hg,h vs hc (by rw[hv]; simp) ⟨b,hv,hg⟩,hH⟩
   cases hi
  ·exact s.objs i o v hi hv
 excl:=fun i j o o' v v' b hi hj hv hv' hne hl hl' hb=>by
  have key:∀ {i:Nat} {o:AObj},(lo.set k (.box T cells'))[i]? =some o->o.live=true->∃ o2,lo[i]? =some o2/\o2.live=true:=by
   intro i o hi hl;rw[jG]at hi;split at hi
   ·rename_i e; subst e; exact⟨_,hk,rfl⟩
   exact⟨o,hi,hl⟩
  obtain⟨o2,h2,l2⟩:=key hi hl;obtain⟨o3,h3,l3⟩:=key hj hl';exact s.excl i j o2 o3 v v' b h2 h3 hv hv' hne l2 l3 hb
 own:=fun i o v b hi hv hl hb=>by
  rw[jG]at hi;split at hi
  ·rename_i e; subst e; exact s.own _ _ v b hk hv rfl hb
  exact s.own i o v b hi hv hl hb
 keep:=s.keep
 leH:=s.leH
 newH:=s.newH
theorem zjf {bs:Base} {ρ:List Value} {H:PH} {e:Nat->FV} {lo:List AObj} {a:Act} {w:World} {v:FV} {no:Prop} {R:List AObj->Prop} (h:zn0 v lo no R) (s:Sat bs N ρ H e lo a w) :
  no\/∃ lo',R lo'/\Sat bs N ρ H e lo' a w:=by
 unfold zn0 at h;split at h
 ·rename_i k off
  obtain⟨o,ho,h⟩:=qdk h;split at h
  ·rename_i T cells
   obtain⟨h,hoff⟩:=qkz h;split at h
   ·rename_i j cs hcs
    have hc:cells[off]? =some (.bself j):=by
     have:=congrArg (fun l=>l[0]?) hcs
     simpa using this
    obtain⟨h1,h2⟩:=h;obtain⟨h1,_⟩:=qty h1;obtain⟨h2,_⟩:=qty h2;obtain⟨h1,_⟩:=qgv h1;obtain⟨h2,_⟩:=qgv h2
    right
    have hklt:k<ρ.length:=by rw[s.hlen]; exact(jH.1 ho).1
    obtain⟨b,vs,ek,hg,hrep,_⟩:=s.objs k _ _ ho (jf hklt);have get:∀ {cs:List FV} {vs:List Value} {i:Nat} {c:FV},qd7 ρ H cs vs->cs[i]? =some c->∃ v,vs[i]? =some v/\qch ρ H c v:=by
     intro cs
     induction cs with
     | nil=>intro vs i c _ h; simp at h
     | cons d cs ih=>
      intro vs i c x h;obtain⟨v,vs',rfl,r,rs⟩:=x;cases i with
      | zero=>simp at h; subst h; exact⟨v,by simp,r⟩
      | succ i=>simp at h; obtain⟨u,hu,ru⟩:=ih rs h; exact⟨u,by simpa using hu,ru⟩
    obtain⟨x,hx,b',hj,hx2⟩:=get hrep hc;have uniq:∀ vs2,(∃ b,ρ[k]? =some (.pointer (some ⟨b,0,none⟩))/\w.heap[b]? =some (.cells vs2.toArray T (0,0)))->vs2=vs:=by
     rintro vs2 ⟨b2,e2,hg2⟩;rw[jf hklt,ek]at e2;cases e2;rw[hg]at hg2;have:=congrArg Array.toList (Obj.cells.inj (Option.some.inj hg2)).1;simpa using this.symm
    rcases hx2 with rfl|rfl
    ·refine⟨_,h1,{ (s.toSatW.rebox (cells':=cells.take off++[.p .nilp]++cells.drop (off+1)) ho fun vs2 r _ hw=>?_)with slots:=s.slots,width:=s.width,defers:=s.defers }⟩
     have:=uniq vs2 hw;subst this;exact r.over hx (by simp[qch,qco])
    refine⟨_,h2,{ (s.toSatW.rebox (cells':=cells.take off++[.ptr j 0]++cells.drop (off+1)) ho fun vs2 r _ hw=>?_)with slots:=s.slots,width:=s.width,defers:=s.defers }⟩;have:=uniq vs2 hw;subst this;exact r.over hx ⟨b',hj,rfl⟩
   exact .inl h
  exact .inl h
 exact .inl h
def zxu {α:Type}:List α->List α->(List α->Prop)->Prop
 | [],m,R=>R m
 | a::l,m,R=>zxu l m fun l=>R (a::l)
def zv1 (P:Program) (inl:List Nat) (N:Nat) (all:List Oper) (o:Oper) (E:Env) (lo:List AObj) (R:Env->List AObj->Prop):Prop:=
 match o.op with
 | .call { callee:=.value (.func f),args:=⟨xs⟩,argTypes:=_ }=>match zc6 inl f with
  | true=>match o.guard with
   | none=>evL E none xs fun vs=>qk1 P f vs lo fun r lo=>qy1 N o.dst r E fun E=>R E lo
   | some _=>zc0 all o E fun g=>match g with
    | some b=>(b=true->evL E (some b) xs fun vs=>qk1 P f vs lo fun r lo=>qy1 N o.dst (.opt b r) E fun E=>R E lo)/\(b=false->∃ v,qy1 N o.dst (.opt b v) E fun E=>R E lo)
    | none=>False
  | false=>zl0 P N all o E lo R
 | .call { callee:=.value (.tmp t),args:=⟨xs⟩,argTypes:=_ }=>match zxk inl t with
  | true=>match o.guard with
   | none=>evS E none (.tmp t) fun fv=>evL E none xs fun vs=>match fv with
    | .clo f c=>q3y c fun cs=>zxu vs cs fun vs=>qk1 P f vs lo fun r lo=>qy1 N o.dst r E fun E=>R E lo
    | .p (.fn f)=>qk1 P f vs lo fun r lo=>qy1 N o.dst r E fun E=>R E lo
    | _=>False
   | some _=>False
  | false=>zl0 P N all o E lo R
 | .call { callee:=.builtin .len,args:=⟨[x]⟩,argTypes:=⟨[t]⟩ }=>ev E x fun v=>match v with
  | .mref k=>match o.guard with
   | none=>zuz P t lo (.mref k) fun v=>qy1 N o.dst v E fun E=>R E lo
   | some _=>False
  | _=>zl0 P N all o E lo R
 | .buildSlice t n ⟨parts⟩=>match zrt inl o.dst with
  | true=>match o.guard with
   | none=>zfj P (zut inl o.dst) E lo t n parts fun v lo=>qy1 N o.dst v E fun E=>R E lo
   | some _=>False
  | false=>zl0 P N all o E lo R
 | .convert sr d x=>match zrt inl o.dst with
  | true=>match o.guard with
   | none=>evS E none x fun x=>zo8 P sr d lo x fun v lo=>qy1 N o.dst v E fun E=>R E lo
   | some _=>False
  | false=>zl0 P N all o E lo R
 | .alloc t=>match zrt inl o.dst with
  | true=>match o.guard with
   | none=>zfh P t lo fun v lo=>qy1 N o.dst v E fun E=>R E lo
   | some _=>False
  | false=>zl0 P N all o E lo R
 | .build t ⟨parts⟩=>match zut inl o.dst with
  | true=>match o.guard with
   | none=>zfi P E none t parts fun v=>qy1 N o.dst v E fun E=>R E lo
   | some _=>False
  | false=>zl0 P N all o E lo R
 | .load t x=>ev E x fun v=>match v with
  | .eptr k z i off=>match o.guard with
   | none=>zc3 P t lo k z i off fun v=>qy1 N o.dst v E fun E=>R E lo
   | some _=>False
  | .opt g' (.eptr k z i off)=>zc0 all o E fun g=>match g with
   | some g=>(g=true->g'=true)/\zfm P g t lo k z i off fun v=>qy1 N o.dst (.opt g v) E fun E=>R E lo
   | none=>False
  | v=>zn0 v lo (zl0 P N all o E lo R) (fun lo'=>zl0 P N all o E lo' R)
 | _=>zl0 P N all o E lo R
def zl1 (P:Program) (inl:List Nat) (N:Nat) (all:List Oper) (K:Env->List AObj->Prop):List Oper->Env->List AObj->Prop
 | [],E,lo=>K E lo
 | o::rest,E,lo=>zv1 P inl N all o E lo (zl1 P inl N all K rest)
theorem zgx {α:Type}:∀ {l m:List α} {R:List α->Prop},zxu l m R->R (l++m)
 | [],m,R,h=>h
 | a::l,_,R,h=>zgx (l:=l) (R:=fun l=>R (a::l)) h
theorem zkq {bs:Base} {all:List Oper} {inl:List Nat} {o:Oper} {i:Nat} (ho:all[i]? =some o) {ρ:List Value} {H:PH} {E:Env} {lo:List AObj} {a:Act} {w:World} {R:Env->List AObj->Prop} {K:Act->World->Prop}
  (s:Sat bs N ρ H (qcc E) lo a w) (h:zv1 P inl N all o E lo R) (hK:∀ E' lo' ρ' H' a' w',R E' lo'->Sat bs N ρ' H' (qcc E') lo' a' w'->K a' w'):wpOp P all.toArray Q i K a w:=by
 have plain:∀ lo,Sat bs N ρ H (qcc E) lo a w->zl0 P N all o E lo R->wpOp P all.toArray Q i K a w:=by
  intro lo s h;obtain⟨E',lo',st,h⟩:=zir h;exact st.wp (by simpa using ho) s fun ρ' H' a' w' s'=>hK E' lo' ρ' H' a' w' h s'
 have ho':all.toArray[i]? =some o:=by simpa using ho
 have fin:∀ v w',(∃ r lo',qu1 bs ρ H r lo' v w'/\qy1 N o.dst r E fun E=>R E lo')->K (a.put o.dst v) w':=by
  rintro v w' ⟨r,lo',⟨ρ',H',h1,h2,h3,h4⟩,hp⟩;obtain⟨hd,E',hE,hR⟩:=qft hp;exact hK E' lo' ρ' H' _ w' hR (by rw[hE]; exact s.put h1 h2 h3 hd h4)
 have value:o.guard=none->(∃ v w' r lo',(execOp a.eval o).run P w=.ok (.value v) w'/\qu1 bs ρ H r lo' v w'/\qy1 N o.dst r E fun E=>R E lo')->wpOp P all.toArray Q i K a w:=by
  rintro hg ⟨v,w',r,lo',hr,af,hp⟩;unfold wpOp;simp only[ho',Region.wanted,hg,if_true];refine .inl ?_;unfold Oper.wp;rw[hr];simp only[Oper.upon];exact fin v w' ⟨r,lo',af,hp⟩
 have calls:o.guard=none->∀ (f:FuncId) (vs:List FV) (us:List Value),qd7 ρ H vs us->(execOp a.eval o).run P w=(callFunc f us.toArray).run P w->(qk1 P f vs lo fun r lo=>qy1 N o.dst r E fun E=>R E lo)->wpOp P all.toArray Q i K a w:=by
  intro hg f vs us rl hr h;have:=h bs ρ H w us s.toSatW rl;unfold wpOp;simp only[ho',Region.wanted,hg,if_true];refine .inl ?_;unfold Oper.wp;rw[hr];generalize (callFunc f us.toArray).run P w=x at *;cases x with
  | ok n w'=>
   cases n<;>simp only at this<;>simp only[Oper.upon]
   case value v=>exact fin v w' this
   case enter f' args'=>
    obtain⟨rfl,hc⟩:=this;exact hc.mono fun en w'' ⟨v,r,lo',e,af,k⟩=>by subst e; exact fin v w'' ⟨r,lo',af,k⟩
   all_goals exact this.elim
  | halt x w'=>exact this.elim
 unfold zv1 at h;split at h
 ·rename_i f xs ts hop
  split at h
  ·rename_i hm
   split at h
   ·rename_i hg
    obtain⟨vs,h,hvs⟩:=qtm h;refine calls hg f vs (xs.map a.eval) (hvs ρ H a.eval trivial (fun x _=>qut s.slots x)) ?_ h
    have hf:a.eval (.func f)=.func (.func f) #[] #[]:=rfl;simp only[execOp,hop,resolve,Deferred.ofValue,invoke,hf,kh,ki,kg,kf,Array.empty_append,Array.append_empty]
   obtain⟨g,hg,h⟩:=qxw h;split at h
   ·rename_i b
    unfold wpOp;simp only[ho'];rw[ziu hg s.slots];cases b with
    | true=>
     obtain⟨vs,h,hvs⟩:=qtm (h.1 rfl);have rl:=hvs ρ H a.eval rfl (fun x _=>qut s.slots x)
     have hc:=h bs ρ H w _ s.toSatW rl;refine .inl ?_;have fin2:∀ v w',(∃ r lo',qu1 bs ρ H r lo' v w'/\qy1 N o.dst (.opt true r) E fun E=>R E lo')->K (a.put o.dst v) w':=by
      rintro v w' ⟨r,lo',⟨ρ',H',h1,h2,h3,h4⟩,hp⟩;exact fin v w' ⟨.opt true r,lo',⟨ρ',H',h1,h2,h3,by simpa[qch]using h4⟩,hp⟩
     unfold Oper.wp;have hf:a.eval (.func f)=.func (.func f) #[] #[]:=rfl;simp only[execOp,hop,resolve,Deferred.ofValue,invoke,hf,kh,ki,kg,kf,Array.empty_append,Array.append_empty];generalize (callFunc f (List.map a.eval xs).toArray).run P w=x at *;cases x with
     | ok n w'=>
      cases n<;>simp only at hc<;>simp only[Oper.upon]
      case value v=>exact fin2 v w' hc
      case enter f' args'=>
       obtain⟨rfl,hc⟩:=hc;exact hc.mono fun en w'' ⟨v,r,lo',e,af,k⟩=>by subst e; exact fin2 v w'' ⟨r,lo',af,k⟩
      all_goals exact hc.elim
     | halt x w'=>exact hc.elim
    | false=>
     obtain⟨v,hp⟩:=h.2 rfl;obtain⟨hd,E',hE,hR⟩:=qft hp;exact hK E' lo ρ H _ w hR (by rw[hE]; exact s.put (jr _) (PH.le.refl H) s.toSatW hd (by simp[qch]))
   exact h.elim
  exact plain lo s h
 ·rename_i t xs ts hop
  split at h
  ·rename_i hm
   split at h
   ·rename_i hg
    have h0:=qbr h; clear h; obtain⟨fv,h,hfv⟩:=h0;have h0:=qtm h; clear h; obtain⟨vs,h,hvs⟩:=h0;have rl:=hvs ρ H a.eval trivial (fun x _=>qut s.slots x)
    have rf:=hfv ρ H _ trivial (qut s.slots (.tmp t));split at h
    ·rename_i f c
     have h0:=q2x h; clear h; obtain⟨cs,h,hcs⟩:=h0;have h:=zgx h;obtain⟨us,hf,rc⟩:=rf;refine calls hg f _ (xs.map a.eval++us) (rl.append (hcs _ _ _ rc)) ?_ h;simp only[execOp,hop,resolve,Deferred.ofValue,invoke,hf,kh,ki,kg,kf,List.append_toArray,jv]
    ·rename_i f
     have hf:a.eval (.tmp t)=.func (.func f) #[] #[]:=by simpa[qch,qco]using rf
     refine calls hg f vs (xs.map a.eval) rl ?_ h;simp only[execOp,hop,resolve,Deferred.ofValue,invoke,hf,kh,ki,kg,kf,Array.empty_append,Array.append_empty]
    exact h.elim
   exact h.elim
  exact plain lo s h
 ·rename_i x t hop
  rw[zci]at h;split at h
  ·rename_i k hk
   split at h
   ·rename_i hg
    have h0:=zmd h; clear h; obtain⟨fv,h,hs⟩:=h0;have rx:=qut s.slots x;rw[hk]at rx;obtain⟨v,hr,rv⟩:=hs bs ρ H w o.type _ s.toSatW rx;refine value hg ⟨v,w,fv,lo,?_,qh9 s.toSatW rv,h⟩;simp only[execOp,hop,resolve,invoke,builtin,kh,ki,kg,kf,jl,jO,hr]
   exact h.elim
  exact plain lo s h
 ·rename_i t n parts hop
  split at h
  ·split at h
   ·rename_i hg
    have h0:=q37 h; clear h; obtain⟨fv,lo',h,_,hs⟩:=h0;obtain⟨v,w',hr,af⟩:=hs bs ρ H w a.eval s.toSatW (fun x _=>qut s.slots x)
    refine value hg ⟨v,w',fv,lo',?_,af,h⟩;simp only[execOp,hop,kf,kh,hr,kg,ki]
   exact h.elim
  exact plain lo s h
 ·rename_i sr d x hop
  split at h
  ·split at h
   ·rename_i hg
    have h0:=qbr h; clear h; obtain⟨x',h,hx'⟩:=h0;have h0:=zjs h; clear h; obtain⟨fv,lo',h,hs⟩:=h0;obtain⟨v,w',hr,af⟩:=hs bs ρ H w _ s.toSatW (hx' ρ H _ trivial (qut s.slots x));refine value hg ⟨v,w',fv,lo',?_,af,h⟩;simp only[execOp,hop,kh,hr,kg,ki]
   exact h.elim
  exact plain lo s h
 ·rename_i t hop
  split at h
  ·split at h
   ·rename_i hg
    obtain⟨fv,lo',h,_,hs⟩:=q6h h;obtain⟨v,w',hr,af⟩:=hs bs ρ H w s.toSatW;refine value hg ⟨v,w',fv,lo',?_,af,h⟩;simp only[execOp,hop,kh,hr,kg,ki]
   exact h.elim
  exact plain lo s h
 ·rename_i t parts hop
  split at h
  ·split at h
   ·rename_i hg
    have h0:=q6i h; clear h; obtain⟨fv,h,hs⟩:=h0;obtain⟨v,hr,rv⟩:=hs trivial ρ H w a.eval (fun x _=>qut s.slots x)
    refine value hg ⟨v,w,fv,lo,?_,qh9 s.toSatW rv,h⟩;simp only[execOp,hop,kf,kh,hr,kg,ki]
   exact h.elim
  exact plain lo s h
 ·rename_i t x hop
  rw[zci]at h;split at h
  ·rename_i k z i off hk
   split at h
   ·rename_i hg
    have h0:=q21 h; clear h; obtain⟨fv,h,hs⟩:=h0;have rx:=qut s.slots x;rw[hk]at rx;obtain⟨v,hr,rv⟩:=hs bs ρ H w _ s.toSatW rx;refine value hg ⟨v,w,fv,lo,?_,qh9 s.toSatW rv,h⟩;simp only[execOp,hop,kh,hr,kg,ki]
   exact h.elim
  ·rename_i g' k z i' off hk
   have h0:=qxw h; clear h; obtain⟨g,hg,h⟩:=h0;split at h
   ·rename_i g
    obtain⟨hgg,h⟩:=h;have h0:=zhk h; clear h; obtain⟨fv,h,hs⟩:=h0;obtain⟨hd,E',hE,h⟩:=qft h;have st:qwf P [] [] false 0 N all.toArray o (qcc E) lo (qcc E') lo:=by
     refine⟨some g,fv,hg,hd,hE,.inr (.inl ⟨?_,?_,rfl,⟨fun hon bs ρ H w eval s hx=>?_,fun h=>by cases h⟩⟩)⟩
     ·rw[qwv]; simp[hop,qwu]
     ·simp[hop,q35]
     have hon:g=true:=hon;have rx:=hx x (by simp[hop,kj]);rw[hk]at rx;simp only[qch,hgg hon,if_true]at rx;obtain⟨v,hr,rv⟩:=hs hon bs ρ H w _ s rx;simp only[execOp,hop];exact qc1 s hr rv
    exact st.wp (by simpa using ho) s fun ρ' H' a' w' s'=>hK E' lo ρ' H' a' w' h s'
   exact h.elim
  rcases zjf h s with h|⟨lo',h,s'⟩
  ·exact plain lo s h
  exact plain lo' s' h
 exact plain lo s h
theorem q6q {bs:Base} {all:List Oper} {inl:List Nat} {K:Env->List AObj->Prop} (hQ:∀ ρ H E lo a w,Sat bs N ρ H (qcc E) lo a w->K E lo->Q .normal a w) :
  ∀ (l:List Oper) (k:Nat),(∀ j,l[j]? =all[k+j]?)->∀ (ρ:List Value) (H:PH) (E:Env) (lo:List AObj) (a:Act) (w:World),Sat bs N ρ H (qcc E) lo a w->zl1 P inl N all K l E lo ->
   wpOps P all.toArray Q (List.range' k l.length) a w
 | [],k,_,ρ,H,E,lo,a,w,s,h=>by
  simp only[List.length_nil,List.range'_zero,wpOps];exact hQ ρ H E lo a w s h
 | o::l,k,hl,ρ,H,E,lo,a,w,s,h=>by
  rw[ja,List.range'_succ,wpOps_cons];refine zkq (by have:=hl 0; simpa using this.symm) s h fun E' lo' ρ' H' a' w' hr s'=>?_;exact q6q hQ l (k+1) (fun j=>by have:=hl (j+1); simpa[Nat.add_assoc,Nat.add_comm 1 j]using this) ρ' H' E' lo' a' w' s' hr
theorem zco {bs:Base} {ρ:List Value} {H:PH} {E:Env} {lo:List AObj} {a:Act} {w:World} {K:Env->List AObj->Prop} {inl:List Nat} {id:Nat} {l:List Oper}
  (hQ:∀ ρ H E lo a w,Sat bs N ρ H (qcc E) lo a w->K E lo->Q .normal a w) (s:Sat bs N ρ H (qcc E) lo a w) (h:zl1 P inl N l K l E lo):(Code.region id l.toArray false).wp P Q a w:=by
 refine wp_region ?_;have:=q6q (P:=P) hQ l 0 (by simp) ρ H E lo a w s h;simpa[List.range_eq_range']using this
def zv8 (P:Program) (inl:List Nat) (m:Bool) (n0 N:Nat) (ops:Array Oper) (K:(Nat->FV)->List AObj->Prop):Nat->Array Bool->(Nat->FV)->List AObj->Prop
 | 0,listed,e,lo=>Region.ready .any ops listed=[]/\K e lo
 | fuel+1,listed,e,lo=>(Region.ready .any ops listed=[]->K e lo) /\
   ∀ i∈Region.ready .any ops listed,∃ o e' lo',ops[i]? =some o/\qwf P inl inl m n0 N ops o e lo e' lo'/\zv8 P inl m n0 N ops K fuel (listed.setIfInBounds i true) e' lo'
theorem q4u {inl:List Nat} {m:Bool} {n0:Nat} {bs:Base} {K:(Nat->FV)->List AObj->Prop} (hQ:∀ ρ H e lo a w,Sat bs N ρ H e lo a w->K e lo->Q .normal a w) :
  ∀ (fuel:Nat) (listed:Array Bool) (ρ:List Value) (H:PH) (e:Nat->FV) (lo:List AObj) (a:Act) (w:World),Sat bs N ρ H e lo a w->zv8 P inl m n0 N ops K fuel listed e lo->wpAny P .any ops Q fuel listed a w
 | 0,_,ρ,H,e,lo,a,w,s,h=>⟨h.1,hQ ρ H e lo a w s h.2⟩
 | fuel+1,listed,ρ,H,e,lo,a,w,s,h=>⟨fun h0=>hQ ρ H e lo a w s (h.1 h0),fun i hi=>by
  obtain⟨o,e',lo',ho,st,h'⟩:=h.2 i hi;exact st.wp ho s fun ρ' H' a' w' s'=>q4u hQ fuel _ ρ' H' e' lo' a' w' s' h'⟩
theorem qlf.congr {o:Oper} {e e':Nat->FV} {lo lo':List AObj} {g:G} {fv:FV} (h:qlf P o e lo g fv lo') (he:∀ x∈o.op.operands,evF e' x=evF e x):qlf P o e' lo g fv lo':=
 fun hg bs ρ H w eval s hx=>h hg bs ρ H w eval s fun x hm=>by rw[← he x hm]; exact hx x hm
theorem zoi {e:Nat->FV} {d:Option Tmp} {v:FV} {o:Oper} (h:∀ t,d=some t->t ∉ o.looksAt ops):∀ x∈o.op.operands,evF (upd e d v) x=evF e x:=by
 intro x hx;cases d with
 | none=>rfl
 | some d=>
  cases x with
  | tmp t=>
   have:t≠d:=fun e1=>by
    subst e1;exact h t rfl (List.mem_append_left _ (List.mem_filterMap.2 ⟨.tmp t,by simpa using hx,rfl⟩))
   simp[evF,upd,this]
  | _=>rfl
theorem zhe {e:Nat->FV} {d:Option Tmp} {v:FV} {o:Oper} {g:G} (h:∀ t,d=some t->t ∉ o.looksAt ops):qq1 ops o (upd e d v) g↔qq1 ops o e g:=by
 unfold qq1;split
 ·exact Iff.rfl
 rename_i j want hg;have key:∀ oj d',ops[j]? =some oj->oj.dst=some d'->upd e d v d'=e d':=by
  intro oj d' hoj hd';cases d with
  | none=>rfl
  | some d=>
   have:d'≠d:=fun e1=>by
    subst e1;refine h d' rfl (List.mem_append_right _ ?_);simp[hg,hoj,hd']
   simp[upd,this]
 constructor
 ·rintro⟨oj,d',b,hoj,hd',hb⟩
  rw[key oj d' hoj hd']at hb;exact⟨oj,d',b,hoj,hd',hb⟩
 rintro⟨oj,d',b,hoj,hd',hb⟩;refine⟨oj,d',b,hoj,hd',?_⟩;rw[key oj d' hoj hd'];exact hb
theorem ztf {e:Nat->FV} {d d':Option Tmp} {v v':FV} (h:∀ t,d=some t->d'≠some t):upd (upd e d v) d' v'=upd (upd e d' v') d v:=by
 cases d with
 | none=>rfl
 | some d=>
  cases d' with
  | none=>rfl
  | some d'=>
   have hne:d'≠d:=fun e1=>h d rfl (by rw[e1])
   funext t;simp only[upd];by_cases h1:t=d'
   ·have h2:t≠d:=fun h2=>hne (by rw[← h1,← h2])
    simp[h1,hne]
   by_cases h2:t=d
   ·have:¬ d=d':=fun h3=>hne h3.symm
    simp[h2,this]
   simp[h1,h2]
def q70 (inl:List Nat) (m:Bool) (oi oj:Oper):Bool:=!zn4 inl m oi oj&&!zn4 inl m oj oi
theorem qzt.congr {sl:List Nat} {m:Bool} {n0:Nat} {o:Oper} {e e':Nat->FV} {lo:List AObj} {g:G} {fv:FV} (h:qzt P sl m n0 o e lo g fv) (he:∀ x∈o.op.operands,evF e' x=evF e x):qzt P sl m n0 o e' lo g fv:=
 ⟨h.1.congr he,fun hm hs=>let ⟨kk,h1,h2⟩:=h.2 hm hs; ⟨kk,h1,fun lo2 h3=>(h2 lo2 h3).congr he⟩⟩
theorem qzt.back {sl:List Nat} {m:Bool} {n0:Nat} {o oe:Oper} {e:Nat->FV} {lo lo1:List AObj} {g:G} {fv:FV} (h:qzt P sl m n0 o e lo1 g fv) (hm:m=true) (hn:n0<=lo.length) (he:znp sl m n0 oe lo lo1) (hmild:zhw sl oe=true) (hstr:q0b sl o=false):qzt P sl m n0 o e lo g fv:=by
 obtain⟨kk,h1,h2⟩:=h.2 hm hstr;have h3:=(he hm hn).2 hmild;have h4:∀ k ob,kk=some (k,ob)->lo[k]? =some ob:=fun k ob hk=>let ⟨a,b,c⟩:=h1 k ob hk; (h3 k ob a b).2 c
 exact⟨h2 lo h4,fun _ _=>⟨kk,fun k ob hk=>⟨(h1 k ob hk).1,(h1 k ob hk).2.1,h4 k ob hk⟩,h2⟩⟩
theorem qzt.forth {sl:List Nat} {m:Bool} {n0:Nat} {o oe:Oper} {e:Nat->FV} {lo lo1:List AObj} {g:G} {fv:FV} (h:qzt P sl m n0 o e lo g fv) (hm:m=true) (hn:n0<=lo.length) (he:znp sl m n0 oe lo lo1) (hmild:zhw sl oe=true) (hstr:q0b sl o=false):qzt P sl m n0 o e lo1 g fv:=by
 obtain⟨kk,h1,h2⟩:=h.2 hm hstr;have h3:=(he hm hn).2 hmild;have h4:∀ k ob,kk=some (k,ob)->lo1[k]? =some ob:=fun k ob hk=>let ⟨a,b,c⟩:=h1 k ob hk; (h3 k ob a b).1 c
 exact⟨h2 lo1 h4,fun _ _=>⟨kk,fun k ob hk=>⟨(h1 k ob hk).1,(h1 k ob hk).2.1,h4 k ob hk⟩,h2⟩⟩
theorem qwf.grow {inl:List Nat} {m:Bool} {n0:Nat} {o:Oper} {e e':Nat->FV} {lo lo':List AObj} (st:qwf P inl inl m n0 N ops o e lo e' lo') (hn:m=true->n0<=lo.length):m=true->n0<=lo'.length:=by
 intro hm;obtain⟨g,fv,_,_,_,hs⟩:=st;rcases hs with ⟨_,_,_,he⟩|⟨_,_,rfl,_⟩|⟨_,_,rfl,_⟩
 ·exact(he hm (hn hm)).1
 ·exact hn hm
 exact hn hm
theorem qwf.swap {inl:List Nat} {m:Bool} {n0:Nat} {oi oj:Oper} {e e1 e2:Nat->FV} {lo lo1 lo2:List AObj} (hn:m=true->n0<=lo.length) (hap:oi.apart ops oj=true) (hef:q70 inl m oi oj=true)
  (hi:qwf P inl inl m n0 N ops oi e lo e1 lo1) (hj:qwf P inl inl m n0 N ops oj e1 lo1 e2 lo2):∃ e1' lo1',qwf P inl inl m n0 N ops oj e lo e1' lo1'/\qwf P inl inl m n0 N ops oi e1' lo1' e2 lo2:=by
 obtain⟨a1,a2,a3⟩:=Oper.apart_spec hap;obtain⟨gi,fi,gki,di,rfl,si⟩:=hi;obtain⟨gj,fj,gkj,dj,rfl,sj⟩:=hj;have gj':=(zhe a1).1 gkj;have gi':qq1 ops oi (upd e oj.dst (qwd gj fj)) gi:=(zhe a3).2 gki;have ci:∀ x∈oi.op.operands,evF (upd e oj.dst (qwd gj fj)) x=evF e x:=zoi a3;have cj:∀ x∈oj.op.operands,evF e x=evF (upd e oi.dst (qwd gi fi)) x:=fun x hx=>(zoi a1 x hx).symm;have hcomm:upd (upd e oi.dst (qwd gi fi)) oj.dst (qwd gj fj)=upd (upd e oj.dst (qwd gj fj)) oi.dst (qwd gi fi):=ztf a2;simp only[q70,zn4,jj,Bool.not_eq_true',Bool.and_eq_false_iff,Bool.or_eq_false_iff,Bool.not_eq_false']at hef;rcases si with ⟨ei,rfl,hi,hr⟩|⟨ei,li,rfl,hi⟩|⟨ei,li,rfl,hi⟩
 ·rcases sj with ⟨ej,rfl,hj,_⟩|⟨ej,lj,rfl,hj⟩|⟨ej,lj,rfl,hj⟩
  ·simp[ei,ej]at hef
  ·
   have hmm:(m=true/\zhw inl oi=true)/\q0b inl oj=false:=by simpa[ei,ej,lj]using hef
   exact⟨_,lo,⟨gj,fj,gj',dj,rfl,.inr (.inl ⟨ej,lj,rfl,(hj.congr cj).back hmm.1.1 (hn hmm.1.1) hr hmm.1.2 hmm.2⟩)⟩,⟨_,fi,gi',di,hcomm,.inl ⟨ei,rfl,hi.congr ci,hr⟩⟩⟩
  exact⟨_,lo,⟨gj,fj,gj',dj,rfl,.inr (.inr ⟨ej,lj,rfl,fun lo=>(hj lo).congr cj⟩)⟩,⟨_,fi,gi',di,hcomm,.inl ⟨ei,rfl,hi.congr ci,hr⟩⟩⟩
 ·rcases sj with ⟨ej,rfl,hj,hr⟩|⟨ej,lj,rfl,hj⟩|⟨ej,lj,rfl,hj⟩
  ·have hmm:(m=true/\zhw inl oj=true)/\q0b inl oi=false:=by simpa[ei,ej,li]using hef
   exact⟨_,lo2,⟨_,fj,gj',dj,rfl,.inl ⟨ej,rfl,hj.congr cj,hr⟩⟩,⟨gi,fi,gi',di,hcomm,.inr (.inl ⟨ei,li,rfl,(hi.congr ci).forth hmm.1.1 (hn hmm.1.1) hr hmm.1.2 hmm.2⟩)⟩⟩
  ·exact⟨_,_,⟨gj,fj,gj',dj,rfl,.inr (.inl ⟨ej,lj,rfl,hj.congr cj⟩)⟩,⟨gi,fi,gi',di,hcomm,.inr (.inl ⟨ei,li,rfl,hi.congr ci⟩)⟩⟩
  exact⟨_,_,⟨gj,fj,gj',dj,rfl,.inr (.inr ⟨ej,lj,rfl,fun lo=>(hj lo).congr cj⟩)⟩,⟨gi,fi,gi',di,hcomm,.inr (.inl ⟨ei,li,rfl,hi.congr ci⟩)⟩⟩
 rcases sj with ⟨ej,rfl,hj,hr⟩|⟨ej,lj,rfl,hj⟩|⟨ej,lj,rfl,hj⟩
 ·exact⟨_,lo2,⟨_,fj,gj',dj,rfl,.inl ⟨ej,rfl,hj.congr cj,hr⟩⟩,⟨gi,fi,gi',di,hcomm,.inr (.inr ⟨ei,li,rfl,fun lo=>(hi lo).congr ci⟩)⟩⟩
 ·exact⟨_,_,⟨gj,fj,gj',dj,rfl,.inr (.inl ⟨ej,lj,rfl,hj.congr cj⟩)⟩,⟨gi,fi,gi',di,hcomm,.inr (.inr ⟨ei,li,rfl,fun lo=>(hi lo).congr ci⟩)⟩⟩
 exact⟨_,_,⟨gj,fj,gj',dj,rfl,.inr (.inr ⟨ej,lj,rfl,fun lo=>(hj lo).congr cj⟩)⟩,⟨gi,fi,gi',di,hcomm,.inr (.inr ⟨ei,li,rfl,fun lo=>(hi lo).congr ci⟩)⟩⟩
def zcp (ops:Array Oper) (listed:Array Bool):Prop:=∀ (k:Nat) (ok:Oper),ops[k]? =some ok->listed.getD k false=true->∀ x∈ok.after,Region.binds .any x=true->listed.getD x.on false=true
theorem zor (l:Array Bool) (j k:Nat) (h:l.getD k false=true):(l.setIfInBounds j true).getD k false=true:=by
 rw[jZ,Array.getElem?_setIfInBounds];split
 ·split<;>rename_i h2 h3
  ·rfl
  rw[jZ]at h; subst h2; rw[Array.getElem?_eq_none (by omega)]at h; exact h
 rw[jZ]at h; exact h
theorem zcp.set {ops:Array Oper} {listed:Array Bool} (h:zcp ops listed) {j:Nat} (hj:j∈Region.ready .any ops listed):zcp ops (listed.setIfInBounds j true):=by
 obtain⟨_,oj,hoj,hall⟩:=mem_ready.1 hj;intro k ok hk hl x hx hb;refine zor _ _ _ ?_;by_cases e:k=j
 ·subst e
  have:ok=oj:=Option.some.inj (hk.symm.trans hoj);subst this;exact hall x hx hb
 refine h k ok hk ?_ x hx hb;rw[getD_set_ne false (fun e2=>e e2.symm)]at hl
 exact hl
theorem q6o {ops:Array Oper} {listed:Array Bool} (h:zcp ops listed) {i:Nat}:∀ (f j:Nat) (oj:Oper),ops[j]? =some oj->(∀ x∈oj.after,Region.binds .any x=true->listed.getD x.on false=true)->qz8 ops i f j=true->listed.getD i false=true
 | 0,_,_,_,_,hr=>by simp[qz8]at hr
 | f+1,j,oj,hj,ha,hr=>by
  simp only[qz8,hj,jP]at hr;rcases hr with hr|hr
  ·obtain⟨x,hx,hb⟩:=Array.any_eq_true'.1 hr
   simp only[jj,beq_iff_eq]at hb;rw[← hb.2];exact ha x hx hb.1
  obtain⟨x,hx,hb⟩:=Array.any_eq_true'.1 hr;simp only[jj]at hb;cases he:ops[x.on]? with
  | none=>
   cases f with
   | zero=>simp[qz8]at hb
   | succ f=>simp[qz8,he]at hb
  | some ox=>exact q6o h f x.on ox he (fun y hy hyb=>h x.on ox he (ha x hx hb.1) y hy hyb) hb.2
theorem zl2 {inl:List Nat} {m:Bool} {n0:Nat} {K:(Nat->FV)->List AObj->Prop} {i:Nat} {oi:Oper} (hi:ops[i]? =some oi) :
  ∀ (fuel:Nat) (listed:Array Bool) (e e1:Nat->FV) (lo lo1:List AObj),
   (∀ j oj,ops[j]? =some oj->j≠i->listed.getD j true=false->(∀ x∈oj.after,Region.binds .any x=true->x.on≠i)->qz8 ops i ops.size j=false->oi.apart ops oj=true/\q70 inl m oi oj=true) ->
   zcp ops listed->(m=true->n0<=lo.length)->i∈Region.ready .any ops listed->qwf P inl inl m n0 N ops oi e lo e1 lo1 ->
   zv8 P inl m n0 N ops K fuel (listed.setIfInBounds i true) e1 lo1->zv8 P inl m n0 N ops K (fuel+1) listed e lo:=by
 intro fuel
 induction fuel with
 | zero=>
  intro listed e e1 lo lo1 _ _ _ hr st H;refine⟨fun h=>(by rw[h]at hr; cases hr),fun j hj=>?_⟩;by_cases hji:j=i
  ·subst hji; exact⟨oi,e1,lo1,hi,st,H⟩
  have:=ready_mono hj hji;rw[H.1]at this;cases this
 | succ fuel ih=>
  intro listed e e1 lo lo1 hfree hcl hn hr st H;refine⟨fun h=>(by rw[h]at hr; cases hr),fun j hj=>?_⟩;by_cases hji:j=i
  ·subst hji; exact⟨oi,e1,lo1,hi,st,H⟩
  obtain⟨oj,e2,lo2,hoj,stj,h1⟩:=H.2 j (ready_mono hj hji);obtain⟨hjun,oj',hoj',hall⟩:=mem_ready.1 hj;have:oj'=oj:=Option.some.inj (hoj'.symm.trans hoj);subst this;have hnot:∀ x∈oj'.after,Region.binds .any x=true->x.on≠i:=fun x he hb heq=>by
   have h1:=hall x he hb;have h0:=(mem_ready.1 hr).1;rw[heq]at h1;rcases Nat.lt_or_ge i listed.size with h'|h'
   ·simp[h']at h0 h1; rw[h0]at h1; cases h1
   simp[Array.getElem?_eq_none h']at h1
  have hre:qz8 ops i ops.size j=false:=by
   cases hrr:qz8 ops i ops.size j with
   | false=>rfl
   | true=>
    have h1:=q6o hcl _ j oj' hoj hall hrr;have h0:=(mem_ready.1 hr).1;rcases Nat.lt_or_ge i listed.size with h'|h'
    ·simp[h']at h0 h1; rw[h0]at h1; cases h1
    simp[Array.getElem?_eq_none h']at h1
  obtain⟨hap,hef⟩:=hfree j oj' hoj hji hjun hnot hre;obtain⟨e1',lo1',stj',sti'⟩:=qwf.swap hn hap hef st stj;refine⟨oj',e1',lo1',hoj,stj',ih (listed.setIfInBounds j true) e1' e2 lo1' lo2 (fun k ok hk hki hun hno hre=>?_) (hcl.set (ready_mono hj hji |> fun _=>hj)) (stj'.grow hn) (ready_mono hr (Ne.symm hji)) sti' ?_⟩
  ·refine hfree k ok hk hki ?_ hno hre
   by_cases hjk:j=k
   ·subst hjk; exact hjun
   rw[getD_set_ne true hjk]at hun; exact hun
  rw[Array.setIfInBounds_comm _ _ hji];exact h1
theorem zg8 {inl:List Nat} {m:Bool} {listed:Array Bool} {i:Nat} {oi:Oper} (hi:ops[i]? =some oi) (h:Region.effFree inl m ops listed i=true) (j:Nat) (oj:Oper) (hj:ops[j]? =some oj) (hne:j≠i)
  (hun:listed.getD j true=false) (hre:qz8 ops i ops.size j=false):q70 inl m oi oj=true:=by
 simp only[Region.effFree,hi,List.all_eq_true,List.mem_range]at h;have h1:=h j (jI.1 hj).1;simp only[hj,jP,beq_iff_eq,hne,false_or,hun,Bool.false_eq_true]at h1;rcases h1 with h1|h1
 ·exact h1
 rw[hre]at h1; cases h1
def leK (n0:Nat) (lo:List AObj) (R:Prop):Prop:=
 match n0 with
 | 0=>R
 | n0+1=>q5w lo 0 fun n=>match Nat.ble (n0+1) n with
  | true=>R
  | false=>False
def zf5 (P:Program) (inl:List Nat) (m:Bool) (n0 N:Nat) (all:List Oper) (o:Oper) (E:Env) (lo:List AObj) (R:Env->List AObj->Prop):Prop:=
 match m with
 | false=>zl0 P N all o E lo R
 | true=>zv0 P inl n0 N all o E lo R
def zvz (P:Program) (inl:List Nat) (m:Bool) (n0 N:Nat) (all:List Oper) (o:Oper) (E:Env) (lo:List AObj) (R:Env->List AObj->Prop):Prop:=
 match o.op with
 | .call { callee:=.value (.func f),args:=⟨xs⟩,argTypes:=_ }=>match zc6 inl f with
  | true=>match o.guard with
   | none=>evL E none xs fun vs=>∃ r lo',qk1 P f vs lo (fun a b=>a=r/\b=lo')/\leK n0 lo' (qy1 N o.dst r E fun E=>R E lo')
   | some _=>False
  | false=>zf5 P inl m n0 N all o E lo R
 | .call { callee:=.value (.tmp t),args:=⟨_⟩,argTypes:=_ }=>match zxk inl t with
  | true=>False
  | false=>zf5 P inl m n0 N all o E lo R
 | .buildSlice t n ⟨parts⟩=>match zrt inl o.dst with
  | true=>match o.guard with
   | none=>zfj P (zut inl o.dst) E lo t n parts fun v lo=>qy1 N o.dst v E fun E=>R E lo
   | some _=>False
  | false=>zf5 P inl m n0 N all o E lo R
 | .alloc t=>match zrt inl o.dst with
  | true=>match o.guard with
   | none=>zfh P t lo fun v lo=>qy1 N o.dst v E fun E=>R E lo
   | some _=>False
  | false=>zf5 P inl m n0 N all o E lo R
 | .convert _ _ _=>match zrt inl o.dst with
  | true=>False
  | false=>zf5 P inl m n0 N all o E lo R
 | .store t (.tmp a) x=>match zc6 inl (50000000+a)with
  | true=>match o.guard with
   | none=>zj0 P inl n0 t (.tmp a) x E lo fun v lo=>qy1 N o.dst v E fun E=>R E lo
   | some _=>False
  | false=>zf5 P inl m n0 N all o E lo R
 | .load t x=>ev E x fun v=>match v with
  | .eptr k z i off=>match (match m with|false=>true|true=>q0b inl o)with
   | true=>match o.guard with
    | none=>zc3 P t lo k z i off fun v=>qy1 N o.dst v E fun E=>R E lo
    | some _=>False
   | false=>False
  | _=>zf5 P inl m n0 N all o E lo R
 | _=>zf5 P inl m n0 N all o E lo R
def zis (P:Program) (inl:List Nat) (m:Bool) (n0 N:Nat) (all:List Oper) (K:Env->List AObj->Prop):List Oper->Env->List AObj->Prop
 | [],E,lo=>K E lo
 | o::rest,E,lo=>zvz P inl m n0 N all o E lo (zis P inl m n0 N all K rest)
theorem zsg {n0:Nat} {lo:List AObj} {R:Prop} (h:leK n0 lo R):R/\n0<=lo.length:=by
 unfold leK at h;split at h
 ·exact⟨h,jT _⟩
 have h:=qe0 h;rw[jy]at h;split at h
 ·rename_i hb; exact⟨h,jh hb⟩
 exact h.elim
theorem zm4 {inl:List Nat} {m:Bool} {n0:Nat} {all:List Oper} {o:Oper} {E:Env} {lo:List AObj} {R:Env->List AObj->Prop} (h0:m=false->n0=0) (h:zvz P inl m n0 N all o E lo R) :
  ∃ E' lo',qwf P inl inl m n0 N all.toArray o (qcc E) lo (qcc E') lo'/\R E' lo':=by
 have plain:qom inl o=qwu o.op->qu0 inl o=false->(zf5 P inl m n0 N all o E lo R)->∃ E' lo',qwf P inl inl m n0 N all.toArray o (qcc E) lo (qcc E') lo'/\R E' lo':=by
  intro e hst h;cases m with
  | false=>
   obtain rfl:=h0 rfl;obtain⟨E',lo',st,h⟩:=zir h;refine⟨E',lo',?_,h⟩;obtain⟨g,fv,h1,h2,h3,h4⟩:=st;refine⟨g,fv,h1,h2,h3,?_⟩;simp only[qwv]at h4;simp only[e];rcases h4 with ⟨a,b,c,d⟩|⟨a,b,c,d⟩|h4
   ·exact .inl ⟨a,b,c,fun h=>by cases h⟩
   ·exact .inr (.inl ⟨a,b,c,d.1,fun h=>by cases h⟩)
   exact .inr (.inr h4)
  | true=>
   obtain⟨E',lo',st,h⟩:=zm5 hst h;refine⟨E',lo',?_,h⟩;unfold qwf at st ⊢;simp only[qwv]at st;simp only[e];exact st
 unfold zvz at h;split at h
 ·rename_i f xs ts hop
  split at h
  ·rename_i hm
   split at h
   ·rename_i hg
    obtain⟨vs,h,hvs⟩:=qtm h;obtain⟨r,lo',hc,h⟩:=h;obtain⟨h,hle⟩:=zsg h;obtain⟨hd,E',hE,h⟩:=qft h;refine⟨E',lo',⟨none,r,by simp[qq1,hg],hd,hE,.inl ⟨by simp[qom,hop,hm],rfl,?_,fun _ _=>⟨hle,fun hmild=>by simp[hop,zfs,zhw,qu0]at hmild⟩⟩⟩,h⟩
    intro _ bs ρ H w eval s hx;have rl:=hvs ρ H eval trivial (fun x hm'=>hx x (by rw[hop]; simp[kj,kl,hm']))
    have:=hc bs ρ H w _ s rl;have hf:eval (.func f)=.func (.func f) #[] #[]:=by
     have:=hx (.func f) (by rw[hop]; simp[kj,kl]);simpa[evF,qch,qco]using this
    simp only[execOp,hop,resolve,Deferred.ofValue,invoke,hf,kh,ki,kg,kf,Array.empty_append,Array.append_empty];generalize (callFunc f (List.map eval xs).toArray).run P w=x at *;cases x with
    | ok n w'=>
     cases n<;>simp only at this<;>simp only[zjc]
     case value v=>
      obtain⟨r',lo2,af,rfl,rfl⟩:=this;exact af
     case enter f' args'=>
      obtain⟨rfl,hcc⟩:=this;exact hcc.mono fun en w'' ⟨v,r',lo2,e,af,e1,e2⟩=>by subst e1; subst e2; exact⟨v,e,af⟩
     all_goals exact this.elim
    | halt x w'=>exact this.elim
   ·exact h.elim
  rename_i hm;exact plain (by simp only[qom,hop,qwu]; simpa using hm) (by simp[qu0,hop]) h
 ·rename_i t xs ts hop
  split at h
  ·exact h.elim
  rename_i hm;exact plain (by simp only[qom,hop,qwu]; simpa using hm) (by simp[qu0,hop]) h
 ·rename_i t n parts hop
  split at h
  ·rename_i hown
   split at h
   ·rename_i hg
    obtain⟨fv,lo',h,hr,hs⟩:=q37 h;obtain⟨hd,E',hE,h⟩:=qft h;have hmo:zfs o.op=true:=by simp[hop,zfs]
    refine⟨E',lo',⟨none,fv,by simp[qq1,hg],hd,hE,.inl ⟨by simp[qom,hop,hown],rfl,?_,qex.ok (fun _=>by simp[qu0,hop]) (by rw[hmo]; exact hr)⟩⟩,h⟩
    intro _ bs ρ H w eval s hx;obtain⟨v,w',hr,af⟩:=hs bs ρ H w eval s (fun x hx'=>hx x (by rw[hop]; simpa[kj]using hx'))
    simp only[execOp,hop,kf,kh,hr,kg,ki];exact af
   exact h.elim
  rename_i hm;exact plain (by simp only[qom,hop,qwu]; simpa using hm) (by simp[qu0,hop]) h
 ·rename_i t hop
  split at h
  ·split at h
   ·rename_i hg
    obtain⟨fv,lo',h,hr,hs⟩:=q6h h;obtain⟨hd,E',hE,h⟩:=qft h;have hmo:zfs o.op=true:=by simp[hop,zfs]
    refine⟨E',lo',⟨none,fv,by simp[qq1,hg],hd,hE,.inl ⟨by simp[qom,hop,qwu],rfl,?_,qex.ok (fun _=>by simp[qu0,hop]) (by rw[hmo]; exact hr)⟩⟩,h⟩
    intro _ bs ρ H w eval s hx;obtain⟨v,w',hr,af⟩:=hs bs ρ H w s;simp only[execOp,hop,kh,hr,kg,ki];exact af
   exact h.elim
  exact plain (by simp[qom,hop]) (by simp[qu0,hop]) h
 ·rename_i sr d x hop
  split at h
  ·exact h.elim
  rename_i hm;exact plain (by simp only[qom,hop,qwu]; simpa using hm) (by simp[qu0,hop]) h
 ·rename_i t a x hop
  split at h
  ·rename_i hs0
   split at h
   ·rename_i hg
    obtain⟨fv,lo',h,hr,hs⟩:=zhn (m:=m) (n0:=n0) hop h;obtain⟨hd,E',hE,h⟩:=qft h;exact⟨E',lo',⟨none,fv,by simp[qq1,hg],hd,hE,.inl ⟨by simp[qom,hop,qwu],rfl,hs,hr⟩⟩,h⟩
   exact h.elim
  rename_i hm;exact plain (by simp[qom,hop]) (by simpa[qu0,hop]using hm) h
 ·rename_i t x hop
  rw[zci]at h;split at h
  ·rename_i k z i off hk
   split at h
   ·rename_i hms
    split at h
    ·rename_i hg
     have h0:=q21 h; clear h; obtain⟨fv,h,hs⟩:=h0;obtain⟨hd,E',hE,h⟩:=qft h;refine⟨E',lo,⟨none,fv,by simp[qq1,hg],hd,hE,.inr (.inl ⟨by simp[qom,hop,qwu],by simp[hop,q35],rfl,⟨?_,fun hm hs=>by rw[hm]at hms; rw[show q0b inl o=true from hms]at hs; cases hs⟩⟩)⟩,h⟩
     intro _ bs ρ H w eval s hx;have rx:=hx x (by simp[hop,kj]);rw[hk]at rx;obtain⟨v,hr,rv⟩:=hs bs ρ H w _ s rx;simp only[execOp,hop];exact qc1 s hr rv
    exact h.elim
   exact h.elim
  exact plain (by simp[qom,hop]) (by simp[qu0,hop]) h
 rename_i hne1 hne2 hne3 hne6 hne5 hne4 hne7;have e1:qom inl o=qwu o.op:=by
  unfold qom;split
  ·rename_i f xs ts hop; exact absurd hop (hne1 f xs.toList ts)
  ·rename_i f xs ts hop; exact absurd hop (hne2 f xs.toList ts)
  ·rename_i t n parts hop; exact absurd hop (hne3 t n parts.toList)
  ·rename_i sr d x hop; exact absurd hop (hne5 sr d x)
  rfl
 refine plain e1 ?_ h;unfold qu0;split
 ·rename_i t a x hop; exact absurd hop (hne4 t a x)
 rfl
theorem zkr {inl:List Nat} {m:Bool} {n0:Nat} (hm0:m=false->n0=0) {K:(Nat->FV)->List AObj->Prop} {K':Env->List AObj->Prop} {all:List Oper} (hK:∀ E lo,K' E lo->K (qcc E) lo) :
  ∀ (l:List Oper) (k:Nat) (listed:Array Bool) (E:Env) (lo:List AObj),(∀ j,l[j]? =all[k+j]?)->zcp all.toArray listed->(m=true->n0<=lo.length) ->
  Region.lexFrom .any all.toArray l.length k listed=true->Region.effFrom inl m all.toArray l.length k listed=true->zis P inl m n0 N all K' l E lo->zv8 P inl m n0 N all.toArray K l.length listed (qcc E) lo
 | [],_,_,E,lo,_,_,_,hB,_,h=>⟨by simpa[Region.lexFrom]using hB,hK E lo h⟩
 | o::l,k,listed,E,lo,hl,hcl,hn,hB,hF,h=>by
  have h0:all.toArray[k]? =some o:=by have:=hl 0; simpa using this.symm
  simp only[ja,Region.lexFrom,Region.effFrom,jj]at hB hF;obtain⟨⟨hr,hf⟩,hB'⟩:=hB;obtain⟨E',lo',st,h⟩:=zm4 hm0 h;refine zl2 h0 l.length listed (qcc E) (qcc E') lo lo' (fun j oj hj hne hun hno hre=>⟨Region.free_spec h0 hf j oj hj hne hun hno,zg8 h0 hF.1 j oj hj hne hun hre⟩) hcl hn (by simpa using hr) st ?_;exact zkr hm0 hK l (k+1) _ E' lo' (fun j=>by have:=hl (j+1); simpa[Nat.add_assoc,Nat.add_comm 1 j]using this) (hcl.set (by simpa using hr)) (st.grow hn) hB' hF.2 h
theorem q4r {inl:List Nat} {mm:Bool} {n0:Nat} {bs:Base} {ρ:List Value} {H:PH} {E:Env} {lo:List AObj} {a:Act} {w:World} {K:Env->List AObj->Prop} {id:Nat} {l:List Oper} (hm:P.follows .mixedOrders=true) (hm0:mm=false->n0=0) (hn:mm=true->n0<=lo.length)
  (hB:zk3 inl mm l.toArray=true) (hQ:∀ ρ H E lo a w,Sat bs N ρ H (qcc E) lo a w->K E lo->Q .normal a w) (s:Sat bs N ρ H (qcc E) lo a w) (h:zis P inl mm n0 N l K l E lo):(Code.region id l.toArray true).wp P Q a w:=by
 simp only[zk3,Go.Region.lexB,jj]at hB;have s':Sat bs N ρ H (qcc E) lo a { w with drawn:=w.drawn+1 }:=by
  refine{ (s.toSatW.calm (H':=H) (w':={ w with drawn:=w.drawn+1 }) ⟨PH.le.refl H,⟨s.sath.cell,s.sath.root⟩,⟨rfl,rfl,rfl,jx _,fun _ _ _=>rfl⟩,fun b o v h=>.inl ⟨v,h⟩⟩)with slots:=s.slots,width:=s.width,defers:=s.defers }
 refine wp_region_any hm (q4u (inl:=inl) (m:=mm) (n0:=n0) (K:=fun e lo=>∃ E,qcc E=e/\K E lo) (fun ρ H e lo a w s ⟨E,hE,hk⟩=>hQ ρ H E lo a w (by rw[hE]; exact s) hk) _ _ ρ H (qcc E) lo a _ s' ?_)
 have:=zkr (P:=P) (inl:=inl) (m:=mm) (n0:=n0) (N:=N) hm0 (K:=fun e lo=>∃ E,qcc E=e/\K E lo) (K':=K) (fun E lo hk=>⟨E,rfl,hk⟩) l 0 (Array.replicate l.toArray.size false) E lo (by simp) (fun k ok hk hl=>by simp only[jZ,Array.getElem?_replicate]at hl; split at hl<;>cases hl) hn (by simpa using hB.1.2) (by simpa using hB.2) h
 simpa using this
end
end Ax
end
section
namespace Ax
open Go
abbrev KA:=AX->Env->List AObj->Prop
def zro (x:AX) (e:Exit):Prop:=
 match x,e with
 | .normal,.normal=>True
 | .exit i,.exit j=>i=j
 | .ret,.ret=>True
 | _,_=>False
def znr (bs:Base) (N:Nat) (K:KA):Exit->Act->World->Prop:=fun e a w=>∃ x ρ H E lo,zro x e/\Sat bs N ρ H (qcc E) lo a w/\K x E lo
def qq7 (inl:List Nat):Code->Bool
 | .seq a b=>qq7 inl a&&qq7 inl b
 | .cond _ t e=>qq7 inl t&&qq7 inl e
 | .block _ c=>qq7 inl c
 | .loop c=>qq7 inl c
 | .region id ops d=>!d||zk3 inl (zpw inl id) ops
 | _=>true
def WpA (P:Program) (N nb:Nat) (c:Code) (K:KA) (E:Env) (lo:List AObj):Prop:=
 ∀ (bs:Base) (ρ:List Value) (H:PH) (a:Act) (w:World),bs.r0.length=nb->Sat bs N ρ H (qcc E) lo a w->c.wp P (znr bs N K) a w
def qbh (P:Program) (inl:List Nat) (N nb:Nat) (body:Code) (K:KA) (E:Env) (lo:List AObj):Prop:=
 P.follows .mixedOrders=true->qq7 inl body=true->WpA P N nb (.loop body) K E lo
def qhd (P:Program) (inl:List Nat) (N nb:Nat) (a b:Code) (K:KA) (E:Env) (lo:List AObj):Prop:=
 P.follows .mixedOrders=true->qq7 inl a=true->qq7 inl b=true->WpA P N nb (.seq a b) K E lo
def q93 (id:Nat):Code->Nat
 | .seq a b=>q93 id a+q93 id b
 | .cond _ t e=>q93 id t+q93 id e
 | .block _ c=>q93 id c
 | .loop c=>q93 id c
 | .exit i=>match Nat.beq i id with|true=>1|false=>0
 | _=>0
def zm6:Code->Nat
 | .seq a b=>match zm6 a with|0=>0|_=>zm6 b
 | .cond _ t e=>zm6 t+zm6 e
 | .block id c=>zm6 c+q93 id c
 | .loop _=>0
 | .exit _=>0
 | .ret=>0
 | _=>1
def zt3:Code->Bool
 | .cond _ _ _=>true
 | .seq _ b=>zt3 b
 | _=>false
def zxv (inl:List Nat) (a:Code):Bool:=match zc6 inl 1000000 with
 | true=>(match Nat.ble 2 (zm6 a)with
  | true=>true
  | false=>match zc6 inl 1000001 with
   | true=>zt3 a
   | false=>false)
 | false=>false
def vc (P:Program) (inl:List Nat) (N nb:Nat):Code->KA->Env->List AObj->Prop
 | .skip,K,E,lo=>K .normal E lo
 | .seq a b,K,E,lo=>match zxv inl a with
  | true=>qhd P inl N nb a b K E lo
  | false=>vc P inl N nb a (fun x E lo=>match x with|.normal=>vc P inl N nb b K E lo|.exit i=>K (.exit i) E lo|.ret=>K .ret E lo) E lo
 | .cond c t e,K,E,lo=>ev E c fun v=>match v with
  | .p (.bool b)=>(b=true->vc P inl N nb t K E lo)/\(b=false->vc P inl N nb e K E lo)
  | _=>False
 | .block id c,K,E,lo=>vc P inl N nb c (fun x E lo=>match x with
   | .exit i=>(match Nat.beq i id with|true=>K .normal E lo|false=>K (.exit i) E lo)
   | .normal=>K .normal E lo
   | .ret=>K .ret E lo) E lo
 | .exit id,K,E,lo=>K (.exit id) E lo
 | .ret,K,E,lo=>K .ret E lo
 | .region id ⟨ops⟩ d,K,E,lo=>match d with
  | false=>zl1 P inl N ops (K .normal) ops E lo
  | true=>match zpw inl id with
   | false=>zis P inl false 0 N ops (K .normal) ops E lo
   | true=>q5w lo 0 fun n0=>zis P inl true n0 N ops (K .normal) ops E lo
 | .loop body,K,E,lo=>qbh P inl N nb body K E lo
 | c,K,E,lo=>WpA P N nb c K E lo
theorem znr.mono {bs:Base} {N:Nat} {K K':KA} (h:∀ x E lo,K x E lo->K' x E lo) {e:Exit} {a:Act} {w:World} (p:znr bs N K e a w):znr bs N K' e a w:=
 let ⟨x,ρ,H,E,lo,hx,s,k⟩:=p
 ⟨x,ρ,H,E,lo,hx,s,h x E lo k⟩
theorem WpA.mono {P:Program} {N nb:Nat} {c:Code} {K K':KA} {E:Env} {lo:List AObj} (h:∀ x E lo,K x E lo->K' x E lo) (w:WpA P N nb c K E lo):WpA P N nb c K' E lo:=
 fun bs ρ H a ww hb s=>wp_mono (w bs ρ H a ww hb s) fun _ _ _ p=>p.mono h
theorem qmp {P:Program} {inl:List Nat} (hm:P.follows .mixedOrders=true) {N nb:Nat}:∀ (c:Code) (K:KA) (E:Env) (lo:List AObj),qq7 inl c=true->vc P inl N nb c K E lo->WpA P N nb c K E lo
 | .skip,K,E,lo,_,h=>fun bs ρ H a w hb s=>wp_skip ⟨.normal,ρ,H,E,lo,trivial,s,h⟩
 | .seq x y,K,E,lo,hd,h=>fun bs ρ H a w hb s=>by
  simp only[qq7,jj]at hd;simp only[vc]at h;split at h
  ·exact h hm hd.1 hd.2 bs ρ H a w hb s
  refine wp_seq (wp_mono (qmp hm x _ E lo hd.1 h bs ρ H a w hb s) fun e a w p=>?_);obtain⟨x',ρ',H',E',lo',hx,s',k⟩:=p;cases x'<;>cases e<;>simp only[zro]at hx
  ·exact qmp hm y K E' lo' hd.2 k bs ρ' H' a w hb s'
  ·exact⟨.exit _,ρ',H',E',lo',hx,s',k⟩
  exact⟨.ret,ρ',H',E',lo',trivial,s',k⟩
 | .cond c t e,K,E,lo,hd,h=>fun bs ρ H a w hb s=>by
  simp only[qq7,jj]at hd;simp only[vc,zci]at h;have hc:=qut s.slots c;split at h
  ·rename_i b hbv
   rw[hbv]at hc;exact wp_cond_split (qtr hc) (fun hc'=>qmp hm t K E lo hd.1 (h.1 hc') bs ρ H a w hb s) (fun hc'=>qmp hm e K E lo hd.2 (h.2 hc') bs ρ H a w hb s)
  exact h.elim
 | .block id c,K,E,lo,hd,h=>fun bs ρ H a w hb s=>by
  refine wp_block (wp_mono (qmp hm c _ E lo hd h bs ρ H a w hb s) fun e a w p=>?_);obtain⟨x',ρ',H',E',lo',hx,s',k⟩:=p;cases x'<;>cases e<;>simp only[zro]at hx
  ·exact⟨.normal,ρ',H',E',lo',trivial,s',k⟩
  ·rename_i i j
   subst hx;simp only[Exit.inBlock];by_cases hi:i=id
   ·subst hi
    simp only[Nat.beq_refl]at k;simp only[if_true];exact⟨.normal,ρ',H',E',lo',trivial,s',k⟩
   have:Nat.beq i id=false:=by
    cases hb:Nat.beq i id with
    | false=>rfl
    | true=>exact absurd (jn hb) hi
   simp only[this]at k;simp only[hi,if_false];exact⟨.exit i,ρ',H',E',lo',rfl,s',k⟩
  exact⟨.ret,ρ',H',E',lo',trivial,s',k⟩
 | .exit id,K,E,lo,_,h=>fun bs ρ H a w hb s=>wp_exit ⟨.exit id,ρ,H,E,lo,rfl,s,h⟩
 | .ret,K,E,lo,_,h=>fun bs ρ H a w hb s=>wp_ret ⟨.ret,ρ,H,E,lo,trivial,s,h⟩
 | .region id ⟨ops⟩ d,K,E,lo,hd,h=>fun bs ρ H a w hb s=>by
  have hQ:∀ ρ H E lo a w,Sat bs N ρ H (qcc E) lo a w->K .normal E lo->znr bs N K .normal a w:=fun ρ H E lo a w s k=>⟨.normal,ρ,H,E,lo,trivial,s,k⟩;cases d with
  | false=>exact zco (P:=P) (l:=ops) hQ s h
  | true=>
   have hB:zk3 inl (zpw inl id) ops.toArray=true:=by simpa[qq7]using hd
   simp only[vc]at h;split at h
   ·rename_i hl
    rw[hl]at hB;exact q4r hm (fun _=>rfl) (fun h=>by cases h) hB hQ s h
   rename_i hl;rw[hl]at hB;have h:=qe0 h;rw[jy]at h;exact q4r hm (fun h=>by cases h) (fun _=>jx _) hB hQ s h
 | .loop body,K,E,lo,hd,h=>h hm hd
 | .rangeFunc ..,K,E,lo,_,h=>h
 | .scope _,K,E,lo,_,h=>h
 | .label _,K,E,lo,_,h=>h
 | .goto _,K,E,lo,_,h=>h
 | .refuse _,K,E,lo,_,h=>h
def FV.ren (π:Nat->Nat):FV->FV
 | .opt g v=>.opt g (v.ren π)
 | .tsl k rows=>.tsl (π k) rows
 | .ptr k off=>.ptr (π k) off
 | .bself k=>.bself (π k)
 | .bsl k off len cp=>.bsl (π k) off len cp
 | .vsl k n=>.vsl (π k) n
 | .eptr k z i off=>.eptr (π k) z i off
 | .mref k=>.mref (π k)
 | .pair a b=>.pair (a.ren π) (b.ren π)
 | .stmp k=>.stmp (π k)
 | .clo f c=>.clo f (c.ren π)
 | .cap a b=>.cap (a.ren π) (b.ren π)
 | .fagg c=>.fagg (c.ren π)
 | .asl k off n=>.asl (π k) off n
 | v=>v
def leF (π:Nat->Nat) (fresh:List Nat) (v v':FV):Prop:=
 match v' with
 | .top=>True
 | .p p'=>match v with
  | .p p=>p=p'\/nle p p'
  | .tsl _ rows=>PV.sl rows=p'
  | _=>False
 | .tsl k' rows'=>match v with
  | .tsl k rows=>k=π k'/\rows=rows'/\k' ∉ fresh
  | .p .nilsl=>rows'=[]/\k'∈fresh
  | _=>False
 | .ptr k' off'=>match v with
  | .ptr k off=>k=π k'/\off=off'/\k' ∉ fresh
  | _=>False
 | .bself k'=>match v with
  | .bself k=>k=π k'/\k' ∉ fresh
  | .ptr k off=>k=π k'/\off=0/\k' ∉ fresh
  | _=>False
 | .bsl k' off' len' cap'=>match v with
  | .bsl k off len cap=>k=π k'/\off=off'/\len=len'/\cap=cap'/\k' ∉ fresh
  | _=>False
 | .hptr row'=>match v with
  | .hptr row=>row=row'
  | _=>False
 | .vsl k' n'=>match v with
  | .vsl k n=>k=π k'/\n=n'/\k' ∉ fresh
  | .p .nilsl=>n'=0/\k'∈fresh
  | _=>False
 | .eptr k' z' i' off'=>match v with
  | .eptr k z i off=>k=π k'/\z=z'/\i=i'/\off=off'/\k' ∉ fresh
  | _=>False
 | .mref k'=>match v with
  | .mref k=>k=π k'/\k' ∉ fresh
  | _=>False
 | .pair a' b'=>match v with
  | .pair a b=>leF π fresh a a'/\leF π fresh b b'
  | _=>False
 | .stmp k'=>match v with
  | .stmp k=>k=π k'/\k' ∉ fresh
  | _=>False
 | .clo f' c'=>match v with
  | .clo f c=>f=f'/\leF π fresh c c'
  | _=>False
 | .cap0=>match v with
  | .cap0=>True
  | _=>False
 | .cap a' b'=>match v with
  | .cap a b=>leF π fresh a a'/\leF π fresh b b'
  | _=>False
 | .fagg c'=>match v with
  | .fagg c=>leF π fresh c c'
  | _=>False
 | .nxt ok' a' b'=>match v with
  | .nxt ok a b=>ok=ok'/\a=a'/\b=b'
  | _=>False
 | .asl k' off' n'=>match v with
  | .asl k off n=>k=π k'/\off=off'/\n=n'/\k' ∉ fresh
  | _=>False
 | .opt _ _=>False
def leC (π:Nat->Nat) (fresh:List Nat) (k':Nat) (v v':FV):Prop:=
 match v,v' with
 | .p .nilp,.bself k=>k=k'/\k ∉ fresh
 | v,v'=>leF π fresh v v'
def qoq (π:Nat->Nat) (fresh:List Nat) (k':Nat) (o o':AObj):Prop:=
 match o' with
 | .dead=>True
 | .box t' cells'=>match o with
  | .box t cells=>t=t'/\cells.length=cells'.length/\∀ (i:Nat) (c c':FV),cells[i]? =some c->cells'[i]? =some c'->leC π fresh k' c c'
  | _=>False
 | .tail e z n=>o=.tail e z n
 | .vec e z rows=>o=.vec e z rows
 | .mp d es mk'=>mk'=none/\∃ mk,o=.mp d es mk
 | .sit l p=>o=.sit l p
 | .bv l=>o=.bv l
 | .vl e z rows j k'=>k' ∉ fresh/\o=.vl e z rows j (π k')
structure Weak (nb:Nat) (E:Env) (lo:List AObj) (E':Env) (lo':List AObj) (π:Nat->Nat) (fresh:List Nat):Prop where
 bounds:∀ k,k<lo'.length->k ∉ fresh->π k<lo.length
 keep:∀ k,k<nb->π k=k/\k ∉ fresh
 nb:nb<=lo'.length
 inj:∀ i j,i<lo'.length->j<lo'.length->i ∉ fresh->j ∉ fresh->π i=π j->i=j
 frsh:∀ k,k∈fresh->∃ e z,lo'[k]? =some (.tail e z 0)\/lo'[k]? =some (.vec e z [])\/∃ j k2,lo'[k]? =some (.vl e z [] j k2)
 obj:∀ k o',lo'[k]? =some o'->k ∉ fresh->∃ o,lo[π k]? =some o/\qoq π fresh k o o'
 slot:∀ t v,(t,v)∈E'->leF π fresh (qcc E t) v
theorem zhr:∀ {E:Env} {t:Nat},qcc E t=.top\/(t,qcc E t)∈E
 | [],t=>.inl rfl
 | (t',v)::E,t=>by
  simp only[qcc];cases hb:Nat.beq t t' with
  | true=>
   have:=jn hb;subst this;exact .inr (by simp)
  | false=>
   rcases zhr (E:=E) (t:=t)with h|h
   ·exact .inl h
   exact .inr (by simp[h])
def ziy (ρ:List Value) (π:Nat->Nat) (fresh:List Nat) (n:Nat):List Value:=(List.range n).map fun k=>if k∈fresh then .slice none 0 0 else ρ.getD (π k) undef
theorem qjn {ρ:List Value} {π:Nat->Nat} {fresh:List Nat} {n k:Nat} (h:k<n):(ziy ρ π fresh n)[k]? =some (if k∈fresh then .slice none 0 0 else ρ.getD (π k) undef):=by
 simp[ziy,h]
def FV.names:FV->List Nat
 | .opt _ v=>v.names
 | .tsl k _=>[k]
 | .ptr k _=>[k]
 | .bself k=>[k]
 | .bsl k _ _ _=>[k]
 | .vsl k _=>[k]
 | .eptr k _ _ _=>[k]
 | .mref k=>[k]
 | .pair a b=>a.names++b.names
 | .stmp k=>[k]
 | .clo _ c=>c.names
 | .fagg c=>c.names
 | .asl k _ _=>[k]
 | .cap a b=>a.names++b.names
 | _=>[]
theorem zj4 {ρ:List Value} {H:PH} {π:Nat->Nat} {fresh:List Nat} {n:Nat} {v v':FV} {x:Value} (h:leF π fresh v v') (hn:∀ k∈v'.names,k<n) (r:qch ρ H v x) :
  qch (ziy ρ π fresh n) H v' x:=by
 induction v' generalizing v x with
 | top=>trivial
 | p p'=>
  cases v<;>simp only[leF]at h
  ·rename_i p
   rcases h with rfl|h
   ·exact r
   exact zak h r
  subst h; exact r.2
 | opt g v' _=>simp[leF]at h
 | tsl k' rows'=>
  have hk:=hn k' (by simp[FV.names]);cases v<;>simp only[leF]at h
  ·rename_i p
   cases p<;>simp only at h;obtain⟨rfl,hf⟩:=h;simp only[qch,qco]at r ⊢;subst r;exact⟨by rw[qjn hk]; simp[hf],.inl ⟨trivial,.inl rfl⟩⟩
  rename_i k rows;obtain⟨rfl,rfl,hf⟩:=h;obtain⟨r1,r2⟩:=r;refine⟨?_,r2⟩;rw[qjn hk];simp[hf,List.getD_eq_getElem?_getD,r1]
 | ptr k' off'=>
  have hk:=hn k' (by simp[FV.names]);cases v<;>simp only[leF]at h;rename_i k off;obtain⟨rfl,rfl,hf⟩:=h;obtain⟨b,r1,rfl⟩:=r;refine⟨b,?_,rfl⟩;rw[qjn hk];simp[hf,List.getD_eq_getElem?_getD,r1]
 | hptr row=>
  cases v<;>simp only[leF]at h;rw[h]at r;exact r
 | bself k'=>
  have hk:=hn k' (by simp[FV.names]);cases v<;>simp only[leF]at h
  ·rename_i k off
   obtain⟨rfl,rfl,hf⟩:=h;obtain⟨b,r1,rfl⟩:=r;refine⟨b,?_,.inr rfl⟩;rw[qjn hk];simp[hf,List.getD_eq_getElem?_getD,r1]
  rename_i k;obtain⟨rfl,hf⟩:=h;obtain⟨b,r1,r2⟩:=r;refine⟨b,?_,r2⟩;rw[qjn hk];simp[hf,List.getD_eq_getElem?_getD,r1]
 | bsl k' off' len' cap'=>
  have hk:=hn k' (by simp[FV.names]);cases v<;>simp only[leF]at h;rename_i k off len cap;obtain⟨rfl,rfl,rfl,rfl,hf⟩:=h;obtain⟨b,r1,rfl⟩:=r;refine⟨b,?_,rfl⟩;rw[qjn hk];simp[hf,List.getD_eq_getElem?_getD,r1]
 | vsl k' n'=>
  have hk:=hn k' (by simp[FV.names]);cases v<;>simp only[leF]at h
  ·rename_i p
   cases p<;>simp only at h;obtain⟨rfl,hf⟩:=h;simp only[qch,qco]at r ⊢;subst r;exact⟨by rw[qjn hk]; simp[hf],.inl ⟨trivial,rfl⟩⟩
  rename_i k n;obtain⟨rfl,rfl,hf⟩:=h;obtain⟨r1,r2⟩:=r;refine⟨?_,r2⟩;rw[qjn hk];simp[hf,List.getD_eq_getElem?_getD,r1]
 | eptr k' z' i' off'=>
  have hk:=hn k' (by simp[FV.names]);cases v<;>simp only[leF]at h;rename_i k z i off;obtain⟨rfl,rfl,rfl,rfl,hf⟩:=h;obtain⟨b,n,cap,r1,rfl⟩:=r;refine⟨b,n,cap,?_,rfl⟩;rw[qjn hk];simp[hf,List.getD_eq_getElem?_getD,r1]
 | mref k'=>
  have hk:=hn k' (by simp[FV.names]);cases v<;>simp only[leF]at h;rename_i k;obtain⟨rfl,hf⟩:=h;obtain⟨b,r1,rfl⟩:=r;refine⟨b,?_,rfl⟩;rw[qjn hk];simp[hf,List.getD_eq_getElem?_getD,r1]
 | pair a' b' iha ihb=>
  cases v<;>simp only[leF]at h;obtain⟨u,w,rfl,ra,rb⟩:=r;exact⟨u,w,rfl,iha h.1 (fun k hk=>hn k (by simp[FV.names,hk])) ra,ihb h.2 (fun k hk=>hn k (by simp[FV.names,hk])) rb⟩
 | stmp k'=>
  have hk:=hn k' (by simp[FV.names]);cases v<;>simp only[leF]at h;rename_i k;obtain⟨rfl,hf⟩:=h;simp only[qch]at r ⊢;rw[qjn hk];simp[hf,List.getD_eq_getElem?_getD,r]
 | clo f' c' ih=>
  cases v<;>simp only[leF]at h;obtain⟨rfl,h⟩:=h;obtain⟨vs,rfl,rc⟩:=r;exact⟨vs,rfl,ih h (fun k hk=>hn k (by simp[FV.names,hk])) rc⟩
 | cap0=>
  cases v<;>simp only[leF]at h;exact r
 | fagg c' ih=>
  cases v<;>simp only[leF]at h;obtain⟨vs,rfl,rc⟩:=r;exact⟨vs,rfl,ih h (fun k hk=>hn k (by simp[FV.names,hk])) rc⟩
 | nxt ok' a' b'=>
  cases v<;>simp only[leF]at h;obtain⟨rfl,rfl,rfl⟩:=h;exact r
 | asl k' off' n'=>
  have hk:=hn k' (by simp[FV.names]);cases v<;>simp only[leF]at h;rename_i k off n;obtain⟨rfl,rfl,rfl,hf⟩:=h;obtain⟨b,m,cap,c,r1,rfl⟩:=r;refine⟨b,m,cap,c,?_,rfl⟩;rw[qjn hk];simp[hf,List.getD_eq_getElem?_getD,r1]
 | cap a' b' iha ihb=>
  cases v<;>simp only[leF]at h;obtain⟨u,w,rfl,ra,rb⟩:=r;exact⟨u,w,rfl,iha h.1 (fun k hk=>hn k (by simp[FV.names,hk])) ra,ihb h.2 (fun k hk=>hn k (by simp[FV.names,hk])) rb⟩
theorem zu3 {ρ:List Value} {H:PH} {π:Nat->Nat} {fresh:List Nat} {n k' b:Nat} {v v':FV} {x:Value} (hk:(ziy ρ π fresh n)[k']? =some (.pointer (some ⟨b,0,none⟩))) (h:leC π fresh k' v v') (hn:∀ k∈v'.names,k<n) (r:qch ρ H v x) :
  qch (ziy ρ π fresh n) H v' x:=by
 unfold leC at h;split at h
 ·obtain⟨rfl,_⟩:=h
  simp only[qch,qco]at r;exact⟨b,hk,.inl r⟩
 exact zj4 h hn r
theorem qd7.le {ρ:List Value} {H:PH} {π:Nat->Nat} {fresh:List Nat} {n k' b:Nat} (hk:(ziy ρ π fresh n)[k']? =some (.pointer (some ⟨b,0,none⟩))):∀ {cs cs':List FV} {vs:List Value},cs.length=cs'.length ->
  (∀ (i:Nat) (c c':FV),cs[i]? =some c->cs'[i]? =some c'->leC π fresh k' c c')->(∀ c∈cs',∀ k∈c.names,k<n)->qd7 ρ H cs vs->qd7 (ziy ρ π fresh n) H cs' vs
 | [],[],vs,_,_,_,r=>r
 | [],_::_,_,h,_,_,_=>by simp at h
 | _::_,[],_,h,_,_,_=>by simp at h
 | c::cs,c'::cs',vs,hl,hle,hn,r=>by
  obtain⟨v,vs',rfl,r1,rs⟩:=r;exact⟨v,vs',rfl,zu3 hk (hle 0 c c' rfl rfl) (hn c' (by simp)) r1,qd7.le hk (by simpa using hl) (fun i=>hle (i+1)) (fun c hc=>hn c (by simp[hc])) rs⟩
def zp1 (E:Env) (lo:List AObj):Prop:=(∀ t v,(t,v)∈E->∀ k∈v.names,k<lo.length)/\(∀ t cells,AObj.box t cells∈lo->∀ c∈cells,∀ k∈c.names,k<lo.length)/\∀ e z rows j k,AObj.vl e z rows j k∈lo->k<lo.length
theorem Sat.weak {bs:Base} {N:Nat} {ρ:List Value} {H:PH} {E E':Env} {lo lo':List AObj} {a:Act} {w:World} {π:Nat->Nat} {fresh:List Nat} (s:Sat bs N ρ H (qcc E) lo a w)
  (h:Weak bs.r0.length E lo E' lo' π fresh) (hn:zp1 E' lo'):Sat bs N (ziy ρ π fresh lo'.length) H (qcc E') lo' a w:=by
 have get:∀ {k:Nat} {v:Value},(ziy ρ π fresh lo'.length)[k]? =some v->k<lo'.length/\((k∈fresh/\v=.slice none 0 0)\/(k ∉ fresh/\ρ[π k]? =some v)):=by
  intro k v hv;have hk:k<lo'.length:=by have:=(jH.1 hv).1; simpa[ziy]using this
  rw[qjn hk]at hv;refine⟨hk,?_⟩;by_cases hf:k∈fresh
  ·simp[hf]at hv; exact .inl ⟨hf,hv.symm⟩
  simp only[hf,if_false]at hv;refine .inr ⟨hf,?_⟩;have:=h.bounds k hk hf;rw[← s.hlen]at this;rw[List.getD_eq_getElem?_getD,jf this]at hv;rw[jf this];simpa using hv
 refine{ sath:=s.sath,hlen:=by simp[ziy],pre:=?_,objs:=?_,excl:=?_,own:=?_,keep:=s.keep,leH:=s.leH,newH:=s.newH,slots:=?_,width:=s.width,defers:=s.defers }
 ·obtain⟨l,hl⟩:=s.pre
  have hlen:bs.r0.length<=lo'.length:=h.nb;have:(ziy ρ π fresh lo'.length).take bs.r0.length=bs.r0:=by
   refine List.ext_getElem? fun i=>?_;rw[jF];split
   ·rename_i hi
    rw[qjn (by omega)];obtain⟨e1,e2⟩:=h.keep i hi;simp only[e2,if_false,e1];rw[List.getD_eq_getElem?_getD,← hl,jC hi,jf hi];rfl
   rename_i hi;rw[List.getElem?_eq_none (by omega)]
  rw[← this];exact List.take_prefix _ _
 ·intro k o v hk hv
  obtain⟨hlt,hc⟩:=get hv;rcases hc with ⟨hf,rfl⟩|⟨hf,hρ⟩
  ·obtain⟨e,z,he⟩:=h.frsh k hf
   rw[hk]at he;rcases he with he|he|⟨j,k2,he⟩
   ·cases he
    exact⟨[],World.ownsRow_nil w 0 e z,fun b hb=>by simp[qcj]at hb⟩
   ·cases he
    exact⟨[],World.ownsRow_nil w 0 e z,rfl,fun u hu=>(by cases hu),fun b hb=>by simp[qcj]at hb⟩
   cases he;exact⟨[],World.ownsRow_nil w 0 e z,rfl,fun u hu=>(by cases hu),fun b hb=>by simp[qcj]at hb,fun u hu=>by simp at hu⟩
  obtain⟨o0,ho0,hle⟩:=h.obj k o hk hf;have hob:=s.objs _ _ _ ho0 hρ;cases o with
  | dead=>trivial
  | box t' cells'=>
   cases o0<;>simp only[qoq]at hle;rename_i t cells;obtain⟨rfl,hl,hcs⟩:=hle;obtain⟨b,vs,rfl,hg,rc,hH⟩:=hob;exact⟨b,vs,rfl,hg,rc.le hv hl hcs (fun c hc k hk'=>hn.2.1 _ _ (List.mem_of_getElem? hk) c hc k hk'),hH⟩
  | tail e z n=>
   simp only[qoq]at hle;subst hle;exact hob
  | vec e z rows=>
   simp only[qoq]at hle;subst hle;exact hob
  | mp d es mk'=>
   simp only[qoq]at hle;obtain⟨rfl,mk,rfl⟩:=hle;obtain⟨b,ents,clock,rfl,hg,hr',⟨h1,h2,_⟩,hh⟩:=hob;exact⟨b,ents,clock,rfl,hg,hr',⟨h1,h2,fun key s e=>by cases e⟩,hh⟩
  | sit l p=>
   simp only[qoq]at hle;subst hle;exact hob
  | bv l=>
   simp only[qoq]at hle;subst hle;exact hob
  | vl e z rows j k'=>
   simp only[qoq]at hle;obtain⟨hf',rfl⟩:=hle;obtain⟨xs,ho,hr',h1,hh,hl⟩:=hob;refine⟨xs,ho,hr',h1,hh,fun u hu=>?_⟩;rw[qjn (hn.2.2 _ _ _ _ _ (List.mem_of_getElem? hk))];simp[hf',List.getD_eq_getElem?_getD,hl u hu]
 ·intro i j oi oj vi vj b hi hj hvi hvj hne hli hlj hb hb'
  obtain⟨h1,c1⟩:=get hvi;obtain⟨h2,c2⟩:=get hvj;rcases c1 with ⟨_,rfl⟩|⟨f1,r1⟩
  ·simp[qcj]at hb
  rcases c2 with ⟨_,rfl⟩|⟨f2,r2⟩
  ·simp[qcj]at hb'
  obtain⟨o1,ho1,l1⟩:=h.obj i oi hi f1;obtain⟨o2,ho2,l2⟩:=h.obj j oj hj f2;have live:∀ {k:Nat} {o o':AObj},qoq π fresh k o o'->o'.live=true->o.live=true:=by
   intro k o o' hle hl;cases o' with
   | dead=>simp[AObj.live]at hl
   | box t c=>cases o<;>simp only[qoq]at hle; rfl
   | tail e z n=>simp only[qoq]at hle; subst hle; rfl
   | vec e z n=>simp only[qoq]at hle; subst hle; rfl
   | mp d es mk=>simp only[qoq]at hle; obtain⟨_,_,rfl⟩:=hle; rfl
   | sit l p=>simp only[qoq]at hle; subst hle; rfl
   | bv l=>simp only[qoq]at hle; subst hle; rfl
   | vl e z rows j k'=>simp only[qoq]at hle; obtain⟨_,rfl⟩:=hle; rfl
  exact s.excl (π i) (π j) o1 o2 vi vj b ho1 ho2 r1 r2 (fun e=>hne (h.inj i j h1 h2 f1 f2 e)) (live l1 hli) (live l2 hlj) hb hb'
 ·intro k o v b hk hv hl hb
  obtain⟨h1,c1⟩:=get hv;rcases c1 with ⟨_,rfl⟩|⟨f1,r1⟩
  ·simp[qcj]at hb
  obtain⟨o1,ho1,l1⟩:=h.obj k o hk f1;refine s.own (π k) o1 v b ho1 r1 ?_ hb;cases o with
  | dead=>simp[AObj.live]at hl
  | box t c=>cases o1<;>simp only[qoq]at l1; rfl
  | tail e z n=>simp only[qoq]at l1; subst l1; rfl
  | vec e z n=>simp only[qoq]at l1; subst l1; rfl
  | mp d es mk=>simp only[qoq]at l1; obtain⟨_,_,rfl⟩:=l1; rfl
  | sit l p=>simp only[qoq]at l1; subst l1; rfl
  | bv l=>simp only[qoq]at l1; subst l1; rfl
  | vl e z rows j k'=>simp only[qoq]at l1; obtain⟨_,rfl⟩:=l1; rfl
 ·intro t
  rcases zhr (E:=E') (t:=t)with he|he
  ·rw[he]; trivial
  exact zj4 (h.slot t _ he) (hn.1 t _ he) (s.slots t)
end Ax
end
section
namespace Ax
open Go
def zpq (E:Env) (π:Nat->Nat) (fresh:List Nat):Env->Prop
 | []=>True
 | (t,v)::E'=>zt9 E t (fun u=>leF π fresh u v)/\zpq E π fresh E'
def q5u (π:Nat->Nat) (fresh:List Nat) (k':Nat):List FV->List FV->Prop
 | [],[]=>True
 | c::cs,c'::cs'=>leC π fresh k' c c'/\q5u π fresh k' cs cs'
 | _,_=>False
def zsh (π:Nat->Nat) (fresh:List Nat) (k':Nat) (o o':AObj):Prop:=
 match o' with
 | .dead=>True
 | .box t' cells'=>match o with
  | .box t cells=>t=t'/\q5u π fresh k' cells cells'
  | _=>False
 | .tail e z n=>match o with
  | .tail e' z' n'=>e'=e/\z'=z/\n'=n
  | _=>False
 | .vec e z rows=>match o with
  | .vec e' z' rows'=>e'=e/\z'=z/\rows'=rows
  | _=>False
 | .mp d es mk=>match o with
  | .mp d' es' _=>mk=none/\d'=d/\es'=es
  | _=>False
 | .sit l p=>match o with
  | .sit l' p'=>l'=l/\p'=p
  | _=>False
 | .bv l=>match o with
  | .bv l'=>l'=l
  | _=>False
 | .vl e z rows j k'=>match o with
  | .vl e' z' rows' j2 k=>k' ∉ fresh/\e'=e/\z'=z/\rows'=rows/\j2=j/\k=π k'
  | _=>False
def zj5 (lo:List AObj) (π:Nat->Nat) (fresh:List Nat):Nat->List AObj->Prop
 | _,[]=>True
 | k,o'::lo'=>(match fresh.contains k with
   | true=>match o' with|.tail _ _ n=>n=0|.vec _ _ rows=>rows=[]|.vl _ _ rows _ _=>rows=[]|_=>False
   | false=>qyn (π k) lo fun o=>zsh π fresh k o o')/\zj5 lo π fresh (k+1) lo'
def πOf (l:List Nat):Nat->Nat:=fun k=>l.getD k 0
def zm7 (nb:Nat) (l fresh:List Nat):Bool:=
 decide (nb<=l.length)&&(List.range nb).all (fun k=>l.getD k 0==k&&!fresh.contains k) &&
 (List.range l.length).all (fun i=>(List.range l.length).all fun j=>fresh.contains i||fresh.contains j||l.getD i 0 != l.getD j 0||i==j) &&
 fresh.all (fun k=>decide (k<l.length))
def qo6 (n:Nat):FV->Bool
 | .opt _ v=>qo6 n v
 | .tsl k _=>decide (k<n)
 | .ptr k _=>decide (k<n)
 | .bself k=>decide (k<n)
 | .bsl k _ _ _=>decide (k<n)
 | .vsl k _=>decide (k<n)
 | .eptr k _ _ _=>decide (k<n)
 | .mref k=>decide (k<n)
 | .pair a b=>qo6 n a&&qo6 n b
 | .stmp k=>decide (k<n)
 | .asl k _ _=>decide (k<n)
 | .clo _ c=>qo6 n c
 | .fagg c=>qo6 n c
 | .cap a b=>qo6 n a&&qo6 n b
 | _=>true
def zhy (n:Nat):Env->Bool
 | []=>true
 | (_,v)::E=>qo6 n v&&zhy n E
def zc8 (n:Nat):List FV->Bool
 | []=>true
 | v::l=>qo6 n v&&zc8 n l
def qww (n:Nat):List AObj->Bool
 | []=>true
 | .box _ cells::l=>zc8 n cells&&qww n l
 | .vl _ _ _ _ k::l=>decide (k<n)&&qww n l
 | _::l=>qww n l
def zcg (nb:Nat) (E:Env) (lo:List AObj) (E':Env) (lo':List AObj):Prop:=
 ∃ l fresh:List Nat,(zm7 nb l fresh=true/\l.length=lo'.length/\zhy lo'.length E'=true/\qww lo'.length lo'=true)/\zpq E (πOf l) fresh E'/\zj5 lo (πOf l) fresh 0 lo'
theorem zc4 {E:Env} {π:Nat->Nat} {fresh:List Nat}:∀ {E':Env},zpq E π fresh E'->∀ t v,(t,v)∈E'->leF π fresh (qcc E t) v
 | [],_,t,v,h=>by simp at h
 | (t',v')::E',h,t,v,hm=>by
  simp only[zpq,qz1]at h;rcases jg.1 hm with e|hm
  ·cases e; exact h.1
  exact zc4 h.2 t v hm
theorem q6k {π:Nat->Nat} {fresh:List Nat} {k':Nat}:∀ {cs cs':List FV},q5u π fresh k' cs cs'->cs.length=cs'.length/\∀ (i:Nat) (c c':FV),cs[i]? =some c->cs'[i]? =some c'->leC π fresh k' c c'
 | [],[],_=>⟨rfl,fun i c c' h=>by simp at h⟩
 | [],_::_,h=>by simp[q5u]at h
 | _::_,[],h=>by simp[q5u]at h
 | c::cs,c'::cs',h=>by
  simp only[q5u]at h;obtain⟨h1,h2⟩:=q6k h.2;refine⟨by simp[h1],fun i d d' hd hd'=>?_⟩;cases i with
  | zero=>simp at hd hd'; subst hd; subst hd'; exact h.1
  | succ i=>exact h2 i d d' (by simpa using hd) (by simpa using hd')
theorem zpr {π:Nat->Nat} {fresh:List Nat} {k':Nat} {o o':AObj} (h:zsh π fresh k' o o'):qoq π fresh k' o o':=by
 cases o' with
 | dead=>trivial
 | box t' cells'=>
  cases o<;>simp only[zsh]at h;exact⟨h.1,q6k h.2⟩
 | tail e z n=>
  cases o<;>simp only[zsh]at h;obtain⟨rfl,rfl,rfl⟩:=h;rfl
 | vec e z n=>
  cases o<;>simp only[zsh]at h;obtain⟨rfl,rfl,rfl⟩:=h;rfl
 | mp d es mk=>
  cases o<;>simp only[zsh]at h;obtain⟨rfl,rfl,rfl⟩:=h;exact⟨rfl,_,rfl⟩
 | sit l p=>
  cases o<;>simp only[zsh]at h;obtain⟨rfl,rfl⟩:=h;rfl
 | bv l=>
  cases o<;>simp only[zsh]at h;subst h;rfl
 | vl e z rows j k'=>
  cases o<;>simp only[zsh]at h;obtain⟨h0,rfl,rfl,rfl,rfl,rfl⟩:=h;exact⟨h0,rfl⟩
theorem q5v {lo:List AObj} {π:Nat->Nat} {fresh:List Nat}:∀ {lo':List AObj} {k:Nat},zj5 lo π fresh k lo'->∀ (i:Nat) (o':AObj),lo'[i]? =some o' ->
  (k+i∈fresh->∃ e z,o'=.tail e z 0\/o'=.vec e z []\/∃ j k2,o'=.vl e z [] j k2)/\(k+i ∉ fresh->∃ o,lo[π (k+i)]? =some o/\qoq π fresh (k+i) o o')
 | [],_,_,i,o',h=>by simp at h
 | o1::lo',k,h,i,o',ho=>by
  simp only[zj5]at h;cases i with
  | zero=>
   simp at ho;subst ho;simp only[Nat.add_zero];cases hf:fresh.contains k with
   | true=>
    simp only[hf]at h;have hm:k∈fresh:=by simpa using hf
    refine⟨fun _=>?_,fun hn=>absurd hm hn⟩
    have h1:=h.1;split at h1
    ·rename_i e z n; exact⟨e,z,.inl (by rw[h1])⟩
    ·rename_i e z rows; exact⟨e,z,.inr (.inl (by rw[h1]))⟩
    ·rename_i e z rows j k2; exact⟨e,z,.inr (.inr ⟨j,k2,by rw[h1]⟩)⟩
    exact h1.elim
   | false=>
    simp only[hf]at h;have hm:k ∉ fresh:=by simpa using hf
    refine⟨fun hn=>absurd hn hm,fun _=>?_⟩
    obtain⟨o,ho,hl⟩:=qdk h.1;exact⟨o,ho,zpr hl⟩
  | succ i=>
   have:=q5v h.2 i o' (by simpa using ho);have e:k+1+i=k+(i+1):=by omega
   rwa [e]at this
theorem qlg {n:Nat}:∀ {v:FV},qo6 n v=true->∀ k∈v.names,k<n
 | .opt _ v,h,k,hk=>qlg (v:=v) h k hk
 | .tsl k' _,h,k,hk=>by simp[FV.names]at hk; subst hk; simpa[qo6]using h
 | .ptr k' _,h,k,hk=>by simp[FV.names]at hk; subst hk; simpa[qo6]using h
 | .top,_,k,hk=>by simp[FV.names]at hk
 | .p _,_,k,hk=>by simp[FV.names]at hk
 | .hptr _,_,k,hk=>by simp[FV.names]at hk
 | .bself k',h,k,hk=>by simp[FV.names]at hk; subst hk; simpa[qo6]using h
 | .bsl k' _ _ _,h,k,hk=>by simp[FV.names]at hk; subst hk; simpa[qo6]using h
 | .vsl k' _,h,k,hk=>by simp[FV.names]at hk; subst hk; simpa[qo6]using h
 | .eptr k' _ _ _,h,k,hk=>by simp[FV.names]at hk; subst hk; simpa[qo6]using h
 | .mref k',h,k,hk=>by simp[FV.names]at hk; subst hk; simpa[qo6]using h
 | .pair a b,h,k,hk=>by
  simp only[qo6,jj]at h;rcases jz.1 hk with hk|hk
  ·exact qlg (v:=a) h.1 k hk
  exact qlg (v:=b) h.2 k hk
 | .stmp k',h,k,hk=>by simp[FV.names]at hk; subst hk; simpa[qo6]using h
 | .clo _ c,h,k,hk=>qlg (v:=c) h k hk
 | .fagg c,h,k,hk=>qlg (v:=c) h k hk
 | .nxt _ _ _,_,k,hk=>by simp[FV.names]at hk
 | .asl k' _ _,h,k,hk=>by simp[FV.names]at hk; subst hk; simpa[qo6]using h
 | .cap0,_,k,hk=>by simp[FV.names]at hk
 | .cap a b,h,k,hk=>by
  simp only[qo6,jj]at h;rcases jz.1 hk with hk|hk
  ·exact qlg (v:=a) h.1 k hk
  exact qlg (v:=b) h.2 k hk
theorem zah {n:Nat}:∀ {E:Env},zhy n E=true->∀ t v,(t,v)∈E->∀ k∈v.names,k<n
 | [],_,t,v,h=>by simp at h
 | (t',v')::E,h,t,v,hm=>by
  simp only[zhy,jj]at h;rcases jg.1 hm with e|hm
  ·cases e; exact qlg h.1
  exact zah h.2 t v hm
theorem qx0 {n:Nat}:∀ {l:List FV},zc8 n l=true->∀ v∈l,∀ k∈v.names,k<n
 | [],_,v,h=>by simp at h
 | v'::l,h,v,hm=>by
  simp only[zc8,jj]at h;rcases jg.1 hm with e|hm
  ·cases e; exact qlg h.1
  exact qx0 h.2 v hm
theorem qx1 {n:Nat}:∀ {lo:List AObj},qww n lo=true->∀ t cells,AObj.box t cells∈lo->∀ c∈cells,∀ k∈c.names,k<n
 | [],_,t,cells,h=>by simp at h
 | o::lo,h,t,cells,hm=>by
  rcases jg.1 hm with e|hm'
  ·subst e
   simp only[qww,jj]at h;exact qx0 h.1
  cases o<;>simp only[qww,jj]at h<;>first|exact qx1 h.2 t cells hm'|exact qx1 h t cells hm'
theorem qvk {n:Nat}:∀ {lo:List AObj},qww n lo=true->∀ e z rows j k,AObj.vl e z rows j k∈lo->k<n
 | [],_,_,_,_,_,_,h=>by simp at h
 | o::lo,h,e,z,rows,j,k,hm=>by
  rcases jg.1 hm with he|hm'
  ·subst he
   simp only[qww,jj,kde]at h;exact h.1
  cases o<;>simp only[qww,jj]at h<;>first|exact qvk h.2 _ _ _ _ _ hm'|exact qvk h _ _ _ _ _ hm'
theorem zcg.sat {bs:Base} {N:Nat} {ρ:List Value} {H:PH} {E E':Env} {lo lo':List AObj} {a:Act} {w:World} (s:Sat bs N ρ H (qcc E) lo a w) (h:zcg bs.r0.length E lo E' lo') :
  ∃ ρ',Sat bs N ρ' H (qcc E') lo' a w:=by
 obtain⟨l,fresh,⟨hb,hl,hE,hO⟩,hA,hob⟩:=h;simp only[zm7,jj,kde,List.all_eq_true,List.mem_range,jP,beq_iff_eq,Bool.not_eq_true',bne_iff_ne]at hb;obtain⟨⟨⟨h1,h2⟩,h3⟩,h4⟩:=hb;have get:=fun(i:Nat) (o':AObj) (ho:lo'[i]? =some o')=>q5v hob i o' ho;simp only[jy]at get;refine⟨_,s.weak (π:=πOf l) (fresh:=fresh) (lo':=lo') ?_ ⟨zah hE,qx1 hO,qvk hO⟩⟩;refine{ bounds:=fun k hk hf=>?_,keep:=fun k hk=>?_,nb:=by omega,inj:=fun i j hi hj hfi hfj e=>?_,frsh:=fun k hk=>?_,obj:=fun k o' ho hf=>(get k o' ho).2 hf,slot:=zc4 hA }
 ·obtain⟨o,ho,_⟩:=(get k _ (jf hk)).2 hf
  exact(jH.1 ho).1
 ·obtain⟨e1,e2⟩:=h2 k hk
  exact⟨e1,by simpa using e2⟩
 ·have:=h3 i (by omega) j (by omega)
  simp only[List.contains_iff_mem,hfi,hfj,false_or]at this;rcases this with h|h
  ·exact absurd e h
  exact h
 have hk':k<lo'.length:=by have:=h4 k hk; omega
 obtain⟨e,z,he⟩:=(get k _ (jf hk')).1 hk;exact⟨e,z,he.imp (fun he=>by rw[jf hk',he]) (fun he=>he.imp (fun he=>by rw[jf hk',he]) (fun⟨j,k2,he⟩=>⟨j,k2,by rw[jf hk',he]⟩))⟩
theorem qbh.of {P:Program} (inl:List Nat) {N nb:Nat} {body:Code} {K:KA} {E:Env} {lo:List AObj} {S:Type} (fr:S->Env) (ob:S->List AObj) (ok:S->Prop) (μ:S->Nat) (s0:S) (h0:ok s0)
  (hw:zcg nb E lo (fr s0) (ob s0))
  (round:∀ s,ok s->vc P inl N nb body (fun x E' lo'=>match x with
   | .normal=>∃ s',ok s'/\μ s'<μ s/\zcg nb E' lo' (fr s') (ob s')
   | .exit i=>K (.exit i) E' lo'
   | .ret=>K .ret E' lo') (fr s) (ob s)):qbh P inl N nb body K E lo:=by
 intro hm hd bs ρ H a w hb sat;subst hb;obtain⟨ρ',sat'⟩:=hw.sat sat;refine wp_loop_ghost (I:=fun n a w=>∃ s ρ H,μ s=n/\ok s/\Sat bs N ρ H (qcc (fr s)) (ob s) a w) (μ s0) ⟨s0,ρ',H,rfl,h0,sat'⟩ fun n a w ⟨s,ρ,H,hn,hok,sat⟩=>?_;refine wp_mono (qmp hm body _ _ _ hd (round s hok) bs ρ H a w rfl sat) fun e a w p=>?_;obtain⟨x,ρ2,H2,E2,lo2,hx,sat2,k⟩:=p;cases x<;>cases e<;>simp only[zro]at hx
 ·obtain⟨s',hok',hlt,hwk⟩:=k
  obtain⟨ρ3,sat3⟩:=hwk.sat sat2;exact⟨μ s',hn ▸ hlt,s',ρ3,H2,rfl,hok',sat3⟩
 ·exact⟨.exit _,ρ2,H2,E2,lo2,hx,sat2,k⟩
 exact⟨.ret,ρ2,H2,E2,lo2,trivial,sat2,k⟩
def zql (P:Program) (E:Env) (lo:List AObj) (r:ResultVar) (R:FV->Prop):Prop:=
 match r with
 | .tmp t=>zt9 E t R
 | .cell a t=>zt9 E a fun v=>qz0 P t lo v R
def zx0 (lo:List AObj) (v:FV) (R:FV->List AObj->Prop):Prop:=
 match v with
 | .vsl k _=>qyn k lo fun o=>match o with
  | .vec _ _ rows=>q4x k .dead lo fun lo=>R (.p (.sl rows)) lo
  | .vl _ _ rows _ _=>q4x k .dead lo fun lo=>R (.p (.sl rows)) lo
  | _=>False
 | v=>R v lo
def zw3 (P:Program) (E:Env) (lo:List AObj):List ResultVar->(List PV->Prop)->Prop
 | [],R=>R []
 | r::rs,R=>zql P E lo r fun v=>zx0 lo v fun v lo=>zoo v fun v=>zw3 P E lo rs fun l=>R (v::l)
def zye (P:Program) (fn:Func) (R:PV->Prop):KA:=fun x E lo=>match x with
 | .exit _=>False
 | _=>zw3 P E lo fn.results.toList fun vs=>match vs with
   | [v]=>R v
   | vs=>R (.tup vs)
def zmc:Nat->List PV->Env
 | _,[]=>[]
 | n,v::vs=>(n,.p v)::zmc (n+1) vs
def zxd (P:Program) (inl:List Nat) (fn:Func) (args:List PV) (R:PV->Prop):Prop:=
 match fn.body with
 | some c=>vc P inl fn.ntmps 0 c (zye P fn R) (zmc 0 args) []
 | none=>False
def zok (inl:List Nat) (fn:Func) (n:Nat):Bool:=(match fn.body with|some c=>qq7 inl c|none=>false)&&decide (n<=fn.ntmps)
def Enters (P:Program) (f:FuncId):Prop:=∀ (args:Array Value) (w:World),(callFunc f args).run P w=.ok (.enter f args) w
def zib (tmps:Array Value):ResultVar->Sem Value
 | .tmp t=>pure (tmps.getD t undef)
 | .cell p t=>do loadVar t (← asAddr (tmps.getD p undef))
theorem qtz (fn:Func) (tmps:Array Value):results fn tmps=(do
  let vs ← fn.results.mapM (zib tmps)
  pure (if h:vs.size=1 then vs[0]else .tuple vs)):=by
 unfold results;congr 1
theorem SatW.publish {bs:Base} {ρ:List Value} {H:PH} {lo:List AObj} {w:World} (s:SatW bs ρ H lo w) {k:Nat} {e:TypeId} {z:Nat} {rows:List (List PV)} {v:Value} (ho:lo[k]? =some (.vec e z rows)) (hv:ρ[k]? =some v) :
  ∃ H',PH.le H H'/\SatW bs ρ H' (lo.set k .dead) w/\qco H' (.sl rows) v:=by
 obtain⟨xs,hown,hr,h1,hh⟩:=s.objs k _ _ ho hv;rcases hown.2 with ⟨rfl,h0⟩|⟨g,cap,cur,hev,_,hg,hnc,_⟩
 ·have:rows=[]:=jJ h0
  subst this;exact⟨H,PH.le.refl H,s.kill k,by simp[qco]⟩
 have hb:qcj v=some g:=by rw[hev]; rfl
 have hle:PH.le H (qik H v xs):=by
  intro b o u hu;unfold qik;split
  ·rename_i hc
   rw[hb]at hc;obtain⟨e1,_⟩:=hc;cases e1;rw[hh g hb o]at hu;cases hu
  ·exact hu
 have sk:=s.kill k;refine⟨qik H v xs,hle,?_,qru hr hle hown⟩;refine{ sath:=⟨fun b o u hu=>?_,s.sath.root.mono hle⟩,hlen:=sk.hlen,pre:=sk.pre,objs:=fun i oi vi hi hvi=>?_,excl:=sk.excl,own:=sk.own,keep:=sk.keep,leH:=sk.leH.trans hle,newH:=fun b o u hu=>?_ }
 ·unfold qik at hu
  split at hu
  ·rename_i hc
   rw[hb]at hc;obtain⟨e1,_⟩:=hc;cases e1;have:=hown.cells (g:=g) (by rw[hev]; rfl) o u hu;rw[Addr.add_lit,jy]at this;exact⟨this,h1 u (List.mem_of_getElem? hu)⟩
  exact s.sath.cell b o u hu
 ·rw[jG]at hi
  split at hi
  ·split at hi
   ·cases hi; trivial
   cases hi
  ·rename_i hne
   cases hl:oi.live with
   | false=>cases oi<;>simp[AObj.live]at hl; trivial
   | true=>
    refine(s.objs i oi vi hi hvi).keep (jr _) hle (fun _ _ _=>rfl) (fun b o' hb' _ hn=>?_)
    unfold qik;rw[if_neg (fun hc=>s.excl k i _ oi _ vi b ho hi hv hvi hne rfl hl hc.1 hb')]
    exact hn
 unfold qik at hu;split at hu
 ·rename_i hc
  exact .inr (s.own k _ v b ho hv rfl hc.1)
 exact s.newH b o u hu
theorem zqg {lo:List AObj} {v:FV} {R:FV->List AObj->Prop} (h:zx0 lo v R):∃ f lo',R f lo'/\∀ (bs:Base) (N:Nat) (ρ:List Value) (H:PH) (e:Nat->FV) (a:Act) (w:World) (x:Value),Sat bs N ρ H e lo a w->qch ρ H v x ->
  ∃ H',PH.le H H'/\Sat bs N ρ H' e lo' a w/\qch ρ H' f x:=by
 unfold zx0 at h;split at h
 ·rename_i k n
  obtain⟨o,ho,h⟩:=qdk h;split at h
  ·rename_i e z rows
   obtain⟨h,_⟩:=qgv h;refine⟨_,_,h,fun bs N ρ H ev a w x s r=>?_⟩;obtain⟨H',hle,s',rp⟩:=s.toSatW.publish ho r.1;exact⟨H',hle,{ s' with slots:=fun t=>(s.slots t).mono (jr _) hle,width:=s.width,defers:=s.defers },rp⟩
  ·rename_i e z rows j kt
   obtain⟨h,_⟩:=qgv h;refine⟨_,_,h,fun bs N ρ H ev a w x s r=>?_⟩;have s1:=s.toSatW.view ho rfl (o':=.vec e z rows) rfl (fun v hv ok=>zuj ok)
   have hkl:k<lo.length:=(jH.1 ho).1;have hk2:(lo.set k (AObj.vec e z rows))[k]? =some (AObj.vec e z rows):=by simp[hkl]
   obtain⟨H',hle,s',rp⟩:=s1.publish hk2 r.1;rw[List.set_set]at s';exact⟨H',hle,{ s' with slots:=fun t=>(s.slots t).mono (jr _) hle,width:=s.width,defers:=s.defers },rp⟩
  exact h.elim
 exact⟨_,_,h,fun bs N ρ H e a w x s r=>⟨H,PH.le.refl H,s,r⟩⟩
theorem qz9 {P:Program} {E:Env} {lo:List AObj} {r:ResultVar} {R:FV->Prop} (h:zql P E lo r R):∃ f,R f/\∀ (bs:Base) (N:Nat) (ρ:List Value) (H:PH) (a:Act) (w:World),Sat bs N ρ H (qcc E) lo a w ->
  ∃ v,(zib a.tmps r).run P w=.ok v w/\qch ρ H f v:=by
 cases r with
 | tmp t=>
  simp only[zql,qz1]at h;exact⟨_,h,fun bs N ρ H a w s=>⟨a.tmps.getD t undef,rfl,s.slots t⟩⟩
 | cell q t=>
  simp only[zql,qz1]at h;obtain⟨fv,h,hl⟩:=q5r h;refine⟨fv,h,fun bs N ρ H a w s=>?_⟩;obtain⟨ad,u,e,hr,ru⟩:=hl bs ρ H w _ s.toSatW (s.slots q);refine⟨u,?_,ru⟩;simp only[Instr.loadAt,e,Instr.sureAddr,kh,ki,kg]at hr;simp only[zib,e,asAddr,kh,ki,kg,hr]
theorem zia {P:Program} {E:Env}:∀ {l:List ResultVar} {lo:List AObj} {R:List PV->Prop},zw3 P E lo l R->∃ ps,R ps/\ps.length=l.length/\∀ (bs:Base) (N:Nat) (ρ:List Value) (H:PH) (a:Act) (w:World),Sat bs N ρ H (qcc E) lo a w ->
  ∃ (vs:List Value) (H':PH) (lo':List AObj),(l.mapM (m:=Sem) (zib a.tmps)).run P w=.ok vs w/\qdi H' ps vs/\PH.le H H'/\Sat bs N ρ H' (qcc E) lo' a w
 | [],lo,R,h=>⟨[],h,rfl,fun bs N ρ H a w s=>⟨[],H,lo,by simp,by simp[qdi],PH.le.refl H,s⟩⟩
 | r::rs,lo,R,h=>by
  simp only[zw3]at h;obtain⟨f,h,h1⟩:=qz9 h;obtain⟨f',lo1,h,h2⟩:=zqg h;obtain⟨p,h,hp⟩:=qss h;obtain⟨ps,h,hlen,h3⟩:=zia h;refine⟨p::ps,h,by simp[hlen],fun bs N ρ H a w s=>?_⟩;obtain⟨v,hv,rv⟩:=h1 bs N ρ H a w s;obtain⟨H1,hle1,s1,rv1⟩:=h2 bs N ρ H _ a w v s rv;obtain⟨vs,H2,lo2,hvs,rvs,hle2,s2⟩:=h3 bs N ρ H1 a w s1;refine⟨v::vs,H2,lo2,?_,by simp only[qdi]; exact⟨v,vs,rfl,qco.mono hle2 (hp _ _ _ rv1),rvs⟩,hle1.trans hle2,s2⟩;simp only[List.mapM_cons,kh,hv,kg,hvs,ki]
theorem zs4 {P:Program} {fn:Func} {E:Env} {lo:List AObj} {x:AX} {R:PV->Prop} (h:zye P fn R x E lo):∃ p,R p/\(x=.normal\/x=.ret) /\
  ∀ (bs:Base) (N:Nat) (ρ:List Value) (H:PH) (a:Act) (w:World),Sat bs N ρ H (qcc E) lo a w->∃ (v:Value) (H':PH) (lo':List AObj),(results fn a.tmps).run P w=.ok v w/\qco H' p v/\PH.le H H'/\Sat bs N ρ H' (qcc E) lo' a w:=by
 have key:∀ {x:AX},(x=.normal\/x=.ret)->(zw3 P E lo fn.results.toList fun vs=>match vs with
   | [v]=>R v
   | vs=>R (.tup vs))->∃ p,R p/\(x=.normal\/x=.ret) /\
  ∀ (bs:Base) (N:Nat) (ρ:List Value) (H:PH) (a:Act) (w:World),Sat bs N ρ H (qcc E) lo a w->∃ (v:Value) (H':PH) (lo':List AObj),(results fn a.tmps).run P w=.ok v w/\qco H' p v/\PH.le H H'/\Sat bs N ρ H' (qcc E) lo' a w:=by
  intro x hx h;obtain⟨ps,h,hpl,hs⟩:=zia h;clear hpl;split at h
  ·rename_i p
   refine⟨p,h,hx,fun bs N ρ H a w s=>?_⟩;obtain⟨vs,H',lo',hr,rl,hle,s'⟩:=hs bs N ρ H a w s;simp only[qdi]at rl;obtain⟨v,_,rfl,rv,rfl⟩:=rl;refine⟨v,H',lo',?_,rv,hle,s'⟩;rw[qtz,Array.mapM_eq_mapM_toList];simp only[kh,Sem.run_map,hr,kg];rfl
  rename_i hne;refine⟨_,h,hx,fun bs N ρ H a w s=>?_⟩;obtain⟨vs,H',lo',hr,rl,hle,s'⟩:=hs bs N ρ H a w s;refine⟨.tuple vs.toArray,H',lo',?_,by simp only[qco]; exact⟨vs,rfl,rl⟩,hle,s'⟩;rw[qtz,Array.mapM_eq_mapM_toList];simp only[kh,Sem.run_map,hr,kg,ki];have:¬ vs.toArray.size=1:=by
   intro h1;have hl:=rl.length;simp at h1;rw[h1]at hl;cases ps with
   | nil=>simp at hl
   | cons a l=>cases l with
    | nil=>exact hne a rfl
    | cons b l=>simp at hl
  simp only[this,dif_neg,not_false_eq_true]
 cases x with
 | normal=>exact key (.inl rfl) h
 | exit i=>exact h.elim
 | ret=>exact key (.inr rfl) h
theorem zc2:∀ (n:Nat) (args:List PV) (t:Nat),qcc (zmc n args) t=match (if n<=t then args[t - n]? else none)with|some v=>.p v|none=>.top
 | n,[],t=>by simp[zmc,qcc]
 | n,v::vs,t=>by
  simp only[zmc,qcc];cases hb:Nat.beq t n with
  | true=>
   have:=jn hb;subst this;simp
  | false=>
   have hne:t≠n:=fun e=>by subst e; simp[Nat.beq_refl]at hb
   simp only;rw[zc2 (n+1) vs t];by_cases h:n<=t
   ·have h1:n+1<=t:=by omega
    have h2:t - n=(t - (n+1))+1:=by omega
    simp[h,h1,h2]
   have h1:¬ n+1<=t:=by omega
   simp[h,h1]
theorem qai.of_vcR {P:Program} {f:FuncId} {fn:Func} {args:List PV} {r:PV} {inl:List Nat} {R:PV->Prop} (hm:P.follows .mixedOrders=true) (he:Enters P f) (hf:P.funcs[f]? =some fn) (hok:zok inl fn args.length=true)
  (hR:∀ (p:PV) (v:Value) (H:PH),R p->qco H p v->qco H r v) (h:zxd P inl fn args R):qai P f args r:=by
 intro H w vs hs rl;rw[he];refine⟨rfl,?_⟩;simp only[zok,jj,kde]at hok;obtain⟨hd,hn⟩:=hok;unfold zxd at h;cases hb:fn.body with
 | none=>simp[hb]at hd
 | some c=>
  simp only[hb]at h hd;refine calls_of_wp hf hb ?_;have hl:=rl.length;have sat:Sat { S:=zku,w0:=w,H0:=H,r0:=[] } fn.ntmps [] H (qcc (zmc 0 args)) [] { tmps:=vs.toArray++Array.replicate (fn.ntmps - vs.toArray.size) undef,defers:=[] } w:=by
   refine{ sath:=hs,hlen:=rfl,pre:=jr _,objs:=fun k o v h=>by simp at h,excl:=fun k _ o _ v _ b h=>by simp at h,own:=fun k o v b h=>by simp at h,keep:=Keep.refl _ w,leH:=PH.le.refl H,newH:=fun b o v h=>.inl ⟨v,h⟩,slots:=fun t=>?_,width:=by simp; omega,defers:=rfl }
   rw[zc2];simp only[jT,if_true,Nat.sub_zero];cases ht:args[t]? with
   | none=>trivial
   | some p=>
    obtain⟨v,hv,rv⟩:=rl.get ht;have hlt:=(jH.1 hv).1;have:(vs.toArray++Array.replicate (fn.ntmps - vs.toArray.size) undef).getD t undef=v:=by
     rw[jZ,Array.getElem?_append_left (by simpa using hlt)];simp[hv]
    rw[this];exact rv
  refine wp_mono (qmp hm c _ _ _ hd h _ [] H _ w rfl sat) fun e a w' p=>?_;obtain⟨x,ρ',H',E',lo',hx,s',k⟩:=p;obtain⟨p,hp,hxx,hres⟩:=zs4 k;obtain⟨v,H2,lo2,hv,rv,hle,s2⟩:=hres _ _ ρ' H' a w' s';have fin:∃ v,(results fn a.tmps).run P w'=.ok v w'/\(fun e w''=>∃ v H',e=Ending.returned v/\Calm H w H' w''/\qco H' r v) (.returned v) w':=
   ⟨v,hv,v,H2,rfl,⟨s2.leH,s2.sath,s2.keep,fun b o v hv=>by
    rcases s2.newH b o v hv with h|h|h
    ·exact .inl h
    ·exact h.elim
    exact .inr h⟩,hR p v H2 hp rv⟩
  rcases hxx with rfl|rfl<;>cases e<;>simp only[zro]at hx
  ·exact⟨s'.defers,fin⟩
  exact⟨s'.defers,fin⟩
theorem qai.of_vc {P:Program} {f:FuncId} {fn:Func} {args:List PV} {r:PV} {inl:List Nat} (hm:P.follows .mixedOrders=true) (he:Enters P f) (hf:P.funcs[f]? =some fn) (hok:zok inl fn args.length=true)
  (h:zxd P inl fn args (fun v=>v=r)):qai P f args r:=
 qai.of_vcR (R:=fun v=>v=r) hm he hf hok (fun _ _ _ e x=>e ▸ x) h
end Ax
end
section
namespace Ax
open Go
def zu6 (ρ:List Value) (lo:List AObj):Nat->Prop:=fun b=>∃ (k:Nat) (o:AObj) (v:Value),lo[k]? =some o/\ρ[k]? =some v/\o.live=true/\qcj v=some b
theorem SatW.lend {bs:Base} {ρ:List Value} {H:PH} {lo:List AObj} {w:World} (s:SatW bs ρ H lo w):SatW { S:=zu6 ρ lo,w0:=w,H0:=H,r0:=ρ } ρ H lo w where
 sath:=s.sath
 hlen:=s.hlen
 pre:=jr _
 objs:=s.objs
 excl:=s.excl
 own:=fun k o v b hk hv hl hb=>.inl ⟨k,o,v,hk,hv,hl,hb⟩
 keep:=Keep.refl _ w
 leH:=PH.le.refl H
 newH:=fun b o v h=>.inl ⟨v,h⟩
theorem SatW.back {bs:Base} {ρ ρ':List Value} {H H':PH} {lo lo':List AObj} {w w':World} (s:SatW bs ρ H lo w) (s':SatW { S:=zu6 ρ lo,w0:=w,H0:=H,r0:=ρ } ρ' H' lo' w'):SatW bs ρ' H' lo' w':=by
 have hS:∀ b,zu6 ρ lo b->bs.S b\/bs.w0.heap.size<=b:=fun b ⟨k,o,v,hk,hv,hl,hb⟩=>s.own k o v b hk hv hl hb
 refine{ sath:=s'.sath,hlen:=s'.hlen,pre:=s.pre.trans s'.pre,objs:=s'.objs,excl:=s'.excl,own:=fun k o v b hk hv hl hb=>?_,keep:=s.keep.step s'.keep hS,leH:=s.leH.trans s'.leH,newH:=fun b o v hv=>?_ }
 ·rcases s'.own k o v b hk hv hl hb with h|h
  ·exact hS b h
  exact .inr (Nat.le_trans s.keep.size h)
 rcases s'.newH b o v hv with ⟨u,hu⟩|h|h
 ·exact s.newH b o u hu
 ·exact .inr (hS b h)
 exact .inr (.inr (Nat.le_trans s.keep.size h))
def quw:Nat->List FV->Env
 | _,[]=>[]
 | n,v::vs=>(n,v)::quw (n+1) vs
theorem q0k:∀ (n:Nat) (args:List FV) (t:Nat),qcc (quw n args) t=(if n<=t then args[t - n]? else none).getD .top
 | n,[],t=>by simp[quw,qcc]
 | n,v::vs,t=>by
  simp only[quw,qcc];cases hb:Nat.beq t n with
  | true=>
   have:=jn hb;subst this;simp
  | false=>
   have hne:t≠n:=fun e=>by subst e; simp[Nat.beq_refl]at hb
   simp only;rw[q0k (n+1) vs t];by_cases h:n<=t
   ·have h1:n+1<=t:=by omega
    have h2:t - n=(t - (n+1))+1:=by omega
    simp[h,h1,h2]
   have h1:¬ n+1<=t:=by omega
   simp[h,h1]
theorem qd7.get {ρ:List Value} {H:PH}:∀ {cs:List FV} {vs:List Value} {i:Nat} {c:FV},qd7 ρ H cs vs->cs[i]? =some c->∃ v,vs[i]? =some v/\qch ρ H c v
 | [],_,_,_,_,h=>by simp at h
 | c::cs,vs,i,c',x,h=>by
  obtain⟨v,vs',rfl,r,rs⟩:=x;cases i with
  | zero=>simp at h; subst h; exact⟨v,by simp,r⟩
  | succ i=>simp at h; obtain⟨u,hu,ru⟩:=rs.get h; exact⟨u,by simpa using hu,ru⟩
def zxp (v1 v2:FV) (R:FV->Prop):Prop:=
 match v1 with
 | .p p1=>match v2 with
  | .p p2=>R (.p (.tup [p1,p2]))
  | .tsl _ rows=>R (.p (.tup [p1,.sl rows]))
  | v2=>R (.pair (.p p1) v2)
 | .tsl _ rows1=>match v2 with
  | .p p2=>R (.p (.tup [.sl rows1,p2]))
  | .tsl _ rows=>R (.p (.tup [.sl rows1,.sl rows]))
  | v2=>R (.pair (.p (.sl rows1)) v2)
 | v1=>match v2 with
  | .tsl _ rows=>R (.pair v1 (.p (.sl rows)))
  | v2=>R (.pair v1 v2)
def frL (P:Program) (E:Env) (lo:List AObj):List ResultVar->(List PV->Prop)->Prop
 | [],R=>R []
 | r::rs,R=>zql P E lo r fun v=>zoo v fun v=>frL P E lo rs fun l=>R (v::l)
theorem zrh {v1 v2:FV} {R:FV->Prop} (h:zxp v1 v2 R):∃ v,R v/\∀ (ρ:List Value) (H:PH) (x y:Value),qch ρ H v1 x->qch ρ H v2 y->qch ρ H v (.tuple #[x,y]):=by
 have pp:∀ (p1 p2:PV) (ρ:List Value) (H:PH) (x y:Value),qco H p1 x->qco H p2 y->qch ρ H (.p (.tup [p1,p2])) (.tuple #[x,y]):=fun p1 p2 ρ H x y r1 r2=>by
  simp only[qch,qco];exact⟨[x,y],rfl,by simp only[qdi]; exact⟨x,_,rfl,r1,y,[],rfl,r2,rfl⟩⟩
 unfold zxp at h;split at h
 ·split at h
  ·exact⟨_,h,fun ρ H x y r1 r2=>pp _ _ ρ H x y r1 r2⟩
  ·exact⟨_,h,fun ρ H x y r1 r2=>pp _ _ ρ H x y r1 r2.2⟩
  exact⟨_,h,fun ρ H x y r1 r2=>⟨x,y,rfl,r1,r2⟩⟩
 ·split at h
  ·exact⟨_,h,fun ρ H x y r1 r2=>pp _ _ ρ H x y r1.2 r2⟩
  ·exact⟨_,h,fun ρ H x y r1 r2=>pp _ _ ρ H x y r1.2 r2.2⟩
  exact⟨_,h,fun ρ H x y r1 r2=>⟨x,y,rfl,r1.2,r2⟩⟩
 split at h
 ·exact⟨_,h,fun ρ H x y r1 r2=>⟨x,y,rfl,r1,r2.2⟩⟩
 exact⟨_,h,fun ρ H x y r1 r2=>⟨x,y,rfl,r1,r2⟩⟩
theorem zk8 {P:Program} {E:Env} {lo:List AObj}:∀ {l:List ResultVar} {R:List PV->Prop},frL P E lo l R->∃ ps,R ps/\ps.length=l.length/\∀ (bs:Base) (N:Nat) (ρ:List Value) (H:PH) (a:Act) (w:World),Sat bs N ρ H (qcc E) lo a w ->
  ∃ vs:List Value,(l.mapM (m:=Sem) (zib a.tmps)).run P w=.ok vs w/\qdi H ps vs
 | [],R,h=>⟨[],h,rfl,fun bs N ρ H a w s=>⟨[],by simp,by simp[qdi]⟩⟩
 | r::rs,R,h=>by
  simp only[frL]at h;obtain⟨f,h,h1⟩:=qz9 h;obtain⟨p,h,hp⟩:=qss h;obtain⟨ps,h,hlen,h2⟩:=zk8 h;refine⟨p::ps,h,by simp[hlen],fun bs N ρ H a w s=>?_⟩;obtain⟨v,hv,rv⟩:=h1 bs N ρ H a w s;obtain⟨vs,hvs,rvs⟩:=h2 bs N ρ H a w s;refine⟨v::vs,?_,by simp only[qdi]; exact⟨v,vs,rfl,hp _ _ _ rv,rvs⟩⟩;simp only[List.mapM_cons,kh,hv,kg,hvs,ki]
def zx1 (P:Program) (fn:Func) (R:FV->List AObj->Prop):KA:=fun x E lo=>match x with
 | .exit _=>False
 | _=>match fn.results.toList with
  | [r]=>zql P E lo r fun v=>R v lo
  | []=>R (.p (.tup [])) lo
  | [r1,r2]=>zql P E lo r1 fun v1=>zql P E lo r2 fun v2=>zxp v1 v2 fun v=>R v lo
  | r::rs=>frL P E lo (r::rs) fun vs=>R (.p (.tup vs)) lo
def vcI (P:Program) (inl:List Nat) (fn:Func) (args:List FV) (lo:List AObj) (R:FV->List AObj->Prop):Prop:=
 match fn.body with
 | some c=>q5w lo 0 fun nb=>vc P inl fn.ntmps nb c (zx1 P fn R) (quw 0 args) lo
 | none=>False
theorem zic {P:Program} {fn:Func} {E:Env} {lo:List AObj} {x:AX} {R:FV->List AObj->Prop} (h:zx1 P fn R x E lo):∃ p,R p lo/\(x=.normal\/x=.ret) /\
  ∀ (bs:Base) (N:Nat) (ρ:List Value) (H:PH) (a:Act) (w:World),Sat bs N ρ H (qcc E) lo a w->∃ v,(results fn a.tmps).run P w=.ok v w/\qch ρ H p v:=by
 have key:∀ {x:AX},(x=.normal\/x=.ret)->(match fn.results.toList with
  | [r]=>zql P E lo r fun v=>R v lo
  | []=>R (.p (.tup [])) lo
  | [r1,r2]=>zql P E lo r1 fun v1=>zql P E lo r2 fun v2=>zxp v1 v2 fun v=>R v lo
  | r::rs=>frL P E lo (r::rs) fun vs=>R (.p (.tup vs)) lo)->∃ p,R p lo/\(x=.normal\/x=.ret) /\
  ∀ (bs:Base) (N:Nat) (ρ:List Value) (H:PH) (a:Act) (w:World),Sat bs N ρ H (qcc E) lo a w->∃ v,(results fn a.tmps).run P w=.ok v w/\qch ρ H p v:=by
  intro x hx h;split at h
  ·rename_i r hr
   obtain⟨f,h,hs⟩:=qz9 h;refine⟨f,h,hx,fun bs N ρ H a w s=>?_⟩;obtain⟨v,hv,rv⟩:=hs bs N ρ H a w s;refine⟨v,?_,rv⟩;rw[qtz,Array.mapM_eq_mapM_toList,hr];simp only[List.mapM_cons,List.mapM_nil,kh,Sem.run_map,hv,kg,ki];rfl
  ·rename_i hr
   refine⟨_,h,hx,fun bs N ρ H a w s=>⟨.tuple #[],?_,by simp only[qch,qco]; exact⟨[],rfl,rfl⟩⟩⟩;rw[qtz,Array.mapM_eq_mapM_toList,hr];simp only[List.mapM_nil,kh,Sem.run_map,kg,ki];rfl
  ·rename_i r1 r2 hr
   obtain⟨f1,h,hs1⟩:=qz9 h;obtain⟨f2,h,hs2⟩:=qz9 h;obtain⟨f,h,hs⟩:=zrh h;refine⟨f,h,hx,fun bs N ρ H a w s=>?_⟩;obtain⟨v1,hv1,rv1⟩:=hs1 bs N ρ H a w s;obtain⟨v2,hv2,rv2⟩:=hs2 bs N ρ H a w s;refine⟨.tuple #[v1,v2],?_,hs _ _ _ _ rv1 rv2⟩;rw[qtz,Array.mapM_eq_mapM_toList,hr];simp only[List.mapM_cons,List.mapM_nil,kh,Sem.run_map,hv1,hv2,kg,ki];rfl
  rename_i r rs hne1 hne2 hr;obtain⟨ps,h,hpl,hs⟩:=zk8 h;refine⟨_,h,hx,fun bs N ρ H a w s=>?_⟩;obtain⟨vs,hr',rl⟩:=hs bs N ρ H a w s;refine⟨.tuple vs.toArray,?_,by simp only[qch,qco]; exact⟨vs,rfl,rl⟩⟩;rw[qtz,Array.mapM_eq_mapM_toList,hr];simp only[kh,Sem.run_map,hr',kg,ki];have:¬ vs.toArray.size=1:=by
   intro h1;simp at h1;have hl:vs.length=(r::rs).length:=by rw[rl.length,hpl]
   rw[h1]at hl;cases rs with
   | nil=>exact hne1 rfl
   | cons b l=>simp at hl
  simp only[this,dif_neg,not_false_eq_true]
 cases x with
 | normal=>exact key (.inl rfl) h
 | exit i=>exact h.elim
 | ret=>exact key (.inr rfl) h
theorem qk1.of_vc {P:Program} {f:FuncId} {fn:Func} {args:List FV} {lo:List AObj} {R:FV->List AObj->Prop} {inl:List Nat} (hm:P.follows .mixedOrders=true) (he:Enters P f) (hf:P.funcs[f]? =some fn) (hok:zok inl fn args.length=true)
  (h:vcI P inl fn args lo R):qk1 P f args lo R:=by
 intro bs ρ H w vs s rl;rw[he];refine⟨rfl,?_⟩;simp only[zok,jj,kde]at hok;obtain⟨hd,hn⟩:=hok;unfold vcI at h;cases hb:fn.body with
 | none=>simp[hb]at hd
 | some c=>
  simp only[hb]at h hd;have h:=qe0 h;rw[jy]at h;refine calls_of_wp hf hb ?_;have hl:=rl.length;have sat:Sat { S:=zu6 ρ lo,w0:=w,H0:=H,r0:=ρ } fn.ntmps ρ H (qcc (quw 0 args)) lo { tmps:=vs.toArray++Array.replicate (fn.ntmps - vs.toArray.size) undef,defers:=[] } w:=by
   refine{ s.lend with slots:=fun t=>?_,width:=by simp; omega,defers:=rfl }
   rw[q0k];simp only[jT,if_true,Nat.sub_zero];cases ht:args[t]? with
   | none=>trivial
   | some p=>
    obtain⟨v,hv,rv⟩:=rl.get ht;have hlt:=(jH.1 hv).1;have:(vs.toArray++Array.replicate (fn.ntmps - vs.toArray.size) undef).getD t undef=v:=by
     rw[jZ,Array.getElem?_append_left (by simpa using hlt)];simp[hv]
    rw[this];exact rv
  refine wp_mono (qmp hm c _ _ _ hd h _ ρ H _ w s.hlen sat) fun e a w' p=>?_;obtain⟨x,ρ',H',E',lo',hx,s',k⟩:=p;obtain⟨p,hR,hxx,hres⟩:=zic k;obtain⟨v,hv,rv⟩:=hres _ _ ρ' H' a w' s';have fin:∃ v,(results fn a.tmps).run P w'=.ok v w'/\(fun en w''=>∃ v r lo',en=Ending.returned v/\qu1 bs ρ H r lo' v w''/\R r lo') (.returned v) w':=
   ⟨v,hv,v,p,lo',rfl,⟨ρ',H',s'.pre,s'.leH,s.back s'.toSatW,rv⟩,hR⟩
  rcases hxx with rfl|rfl<;>cases e<;>simp only[zro]at hx
  ·exact⟨s'.defers,fin⟩
  exact⟨s'.defers,fin⟩
end Ax
end
section
namespace Ax
open Go
inductive Val where
 | mk (kind:Int) (b:Bool) (i:Int) (s:List UInt8) (l:List Val) (k:List (List UInt8))
def qak (l:List (List UInt8)):List (List PV):=l.map fun s=>[.str s]
mutual
def Val.cells:Val->List PV
 | .mk k b i s l ks=>[.int .i64 k,.bool b,.int .i64 i,.str s,.sl (Val.rows l),.sl (qak ks)]
def Val.rows:List Val->List (List PV)
 | []=>[]
 | v::l=>v.cells::Val.rows l
end
abbrev Val.pv (v:Val):PV:=.agg v.cells
def vals (l:List Val):List (List PV):=l.map Val.cells
theorem rows_eq:∀ l:List Val,Val.rows l=vals l
 | []=>rfl
 | v::l=>by simp only[Val.rows,vals,jl]; rw[rows_eq l]; rfl
@[simp] theorem zvw (l:List (List UInt8)):(qak l).length=l.length:=by simp[qak]
@[simp] theorem zvy (l:List Val):(vals l).length=l.length:=by simp[vals]
theorem q6f (v:Val):v.cells.length=6:=by cases v; rfl
theorem q59 (n:Int) (h0:-9223372036854775808<=n) (h1:n<=9223372036854775807):kwr .i64 n=n:=IntWalk.i64_in n ⟨h0,h1⟩
instance:Inhabited Val:=⟨.mk 0 false 0 [] [] []⟩
end Ax
end
section
namespace Ax
open Go
end Ax
end
section
namespace Ax
open Go
theorem zkx:∀ a b:List UInt8,(Op.bytesLess a b||a==b)=!Op.bytesLess b a
 | [],[]=>rfl
 | [],_::_=>rfl
 | _::_,[]=>rfl
 | x::xs,y::ys=>by
  have ih:=zkx xs ys;simp only[Op.bytesLess];rcases Nat.lt_trichotomy x.toNat y.toNat with h|h|h
  ·have h1:x<y:=UInt8.lt_iff_toNat_lt.2 h
   have h2:¬ y<x:=fun h'=>by have:=UInt8.lt_iff_toNat_lt.1 h'; omega
   have h3:¬ y=x:=fun h'=>by subst h'; omega
   simp[h1,h2,h3]
  ·have h1:x=y:=UInt8.toNat.inj h
   subst h1;have h2:¬ x<x:=fun h'=>by have:=UInt8.lt_iff_toNat_lt.1 h'; omega
   simp only[h2,List.cons_beq_cons];simpa using ih
  have h1:¬ x<y:=fun h'=>by have:=UInt8.lt_iff_toNat_lt.1 h'; omega
  have h2:y<x:=UInt8.lt_iff_toNat_lt.2 h;have h3:¬ x=y:=fun h'=>by subst h'; omega
  simp[h1,h2,h3]
end Ax
end
section
namespace Ax
open Go
end Ax
end
section
namespace Ax
open Go
theorem qk1.noEscape {P:Program} {f:FuncId} {fn:Func} (hf:P.funcs[f]? =some fn) (hname:(fn.name == "runtime.NumGoroutine")=false) (hb:fn.body.isNone=true) (hn:Extern.findNext fn=none)
  (he:Extern.find fn=some Extern.AbiNoEscape.same) {v:FV} {lo:List AObj} {R:FV->List AObj->Prop} (h:R v lo):qk1 P f [v] lo R:=by
 intro bs ρ H w vs s rl;simp only[qd7]at rl;obtain⟨v',_,rfl,rv,rfl⟩:=rl;rw[show([v']:List Value).toArray = #[v']from rfl,run_callFunc_extern hf hname hb hn he];exact⟨v,lo,⟨ρ,H,jr _,PH.le.refl H,s,rv⟩,h⟩
end Ax
end
section
namespace Go.Proofs
open Go Go.Shelf Go.RowKit Ax
variable {P:Program} {ρ:Ren}
def q9t (l:List UInt8) (v:Value) (w:World) (e:Ending) (w':World):Prop:=
 e=.returned (.string ⟨l.toArray⟩)/\(w'=w.drew\/(∃ g n,qcj v=some g/\w'=w.drew.freeze ⟨g,0,none⟩ n)\/∃ o,w'=w.drew.alloc o)
set_option maxHeartbeats 2000000 in
set_option maxRecDepth 100000 in
theorem Any.String_exact (L:Lays.n169 P ρ) (X:Builder.Extra P ρ) (b:Nat) (l:List UInt8) (w:World) (p v:Value) (hbk:w.heap[b]? =some (.cells #[p,v] (ρ.t 72) (0,0)))
  (hown:w.ownsRow 0 (ρ.t 5) 1 v l.length (Lib.byteCells l)) (h0:l≠[]) :
  Calls P (ρ.f 169) #[.pointer (some ⟨b,0,none⟩)] w (q9t l v w):=by
 have hl0:l.length≠0:=by simpa using h0
 obtain⟨g,cap,cur,rfl,hg,hnc,hcm,hcs,htake⟩:∃ g cap cur,v=.slice (some ⟨g,0,none⟩) l.length cap/\w.heap[g]? =some (.cells cur (ρ.t 5) (0,0))/\l.length<=cap/\cap<=maxLen/\cur.size=cap * 1/\cur.toList.take (l.length * 1)=Lib.byteCells l:=by
  rcases hown.2 with ⟨_,hz⟩|⟨g,cap,cur,hv,_,r⟩
  ·exact absurd hz hl0
  exact⟨g,cap,cur,hv,r⟩
 have c1:w.drew.cell? ⟨b,1,none⟩=some (.slice (some ⟨g,0,none⟩) l.length cap):=by
  have:w.drew.heap[b]? =some (.cells #[p,.slice (some ⟨g,0,none⟩) l.length cap] (ρ.t 72) (0,0)):=hbk;rw[Lib.cell_of_heap this]; rfl
 have hSD:(Builtin.unsafeSliceData_ #[(ρ.t 37)] (ρ.t 127) #[.slice (some ⟨g,0,none⟩) l.length cap]).run P w.drew=.ok (.pointer (some ⟨g,0,none⟩)) w.drew:=
  Lib.run_unsafeSliceData_row _ _ _ _ _ _ (by omega)
 have hUS:(Builtin.unsafeString_ #[(ρ.t 127),(ρ.t 3)] (ρ.t 9) #[.pointer (some ⟨g,0,none⟩),.int .i64 l.length]).run P w.drew=.ok (.string ⟨l.toArray⟩) (w.drew.freeze ⟨g,0,none⟩ l.length):=by
  refine Lib.run_unsafeString_row w.drew (ρ.t 127) (ρ.t 3) (ρ.t 9) (ρ.t 5) L.t127 X.cellsByte g cur.size (by have hg':w.drew.heap[g]? =some (.cells cur (ρ.t 5) (0,0)):=hg; simp[World.shape?,hg']) l h0 (by omega) (by unfold maxLen at hcm; omega) ?_;intro j x hx;exact hown.cells (g:=g) rfl j (.int .u8 x.toNat) (by simp[Lib.byteCells,hx])
 have mixed:=L.mixed;have t72:=L.t72; have a72:=L.a72; have z72:=L.z72; have v72:=L.v72; have u72:=kru L.t72;have t70:=L.t70; have a70:=L.a70; have z70:=L.z70; have v70:=L.v70; have u70:=kru L.t70;have t37:=L.t37; have a37:=L.a37; have z37:=L.z37; have v37:=L.v37; have u37:=kru L.t37;have t127:=L.t127; have a127:=L.a127; have z127:=L.z127; have v127:=L.v127; have u127:=kru L.t127;have t3:=L.t3; have a3:=L.a3; have z3:=L.z3; have v3:=L.v3; have u3:=kru L.t3;have t9:=L.t9; have a9:=L.a9; have z9:=L.z9; have v9:=L.v9; have u9:=kru L.t9;have t5:=X.t5; have a5:=X.a5; have z5:=X.z5; have v5:=X.v5; have u5:=kru X.t5
 go_enter L.f169,Body.n169_ntmps ρ
 go_wp2
 go_region_o
 all_goals (go_wp2; go_ret; exact⟨rfl,.inr (.inl ⟨g,l.length,rfl,rfl⟩)⟩)
theorem Any.String_empty (L:Lays.n169 P ρ) (X:Builder.Extra P ρ) (b:Nat) (w:World) (p v:Value) (hbk:w.heap[b]? =some (.cells #[p,v] (ρ.t 72) (0,0)))
  (hown:w.ownsRow 0 (ρ.t 5) 1 v 0 []) :
  Calls P (ρ.f 169) #[.pointer (some ⟨b,0,none⟩)] w fun e w'=>e=.returned (.string ⟨#[]⟩)/\Below w.heap.size w w':=by
 rcases hown.2 with ⟨rfl,_⟩|⟨g,cap,cur,rfl,_,hg,_,_,_,_⟩
 ·exact Any.Builder_String_nil L X _ b p w hbk
 by_cases hc0:cap=0
 ·subst hc0
  exact Any.Builder_String_noroom L X _ b g p cur w (jx _) hbk hg
 exact Any.Builder_String_room L X _ b g cap p w hc0 hbk
end Go.Proofs
end
section
namespace Ax
open Go Go.Proofs Go.RowKit
structure Shut (v:Value) (w w':World):Prop where
 os:w'.os=w.os
 tape:w'.tape=w.tape
 output:w'.output=w.output
 size:w.heap.size<=w'.heap.size
 block:∀ k,k<w.heap.size->qcj v≠some k->w'.heap[k]? =w.heap[k]?
 cell:∀ a x,w.cell? a=some x->w'.cell? a=some x
theorem Shut.of {l:List UInt8} {v:Value} {w w':World} {e:Ending} (h:q9t l v w e w'):Shut v w w':=by
 obtain⟨_,rfl|⟨g,n,hg,rfl⟩|⟨o,rfl⟩⟩:=h
 ·exact⟨rfl,rfl,rfl,jx _,fun _ _ _=>rfl,fun _ _ h=>h⟩
 ·have hb:∀ k,k≠g->(w.drew.freeze ⟨g,0,none⟩ n).heap[k]? =w.heap[k]?:=by
   intro k hk;unfold World.freeze;split
   ·rfl
   simp only[Array.getElem?_modify];rw[if_neg (by omega)]; rfl
  refine⟨?_,?_,?_,?_,fun k _ hk=>hb k (fun e=>hk (by rw[hg,e])),fun a x hx=>?_⟩
  ·unfold World.freeze; split<;>rfl
  ·unfold World.freeze; split<;>rfl
  ·unfold World.freeze; split<;>rfl
  ·unfold World.freeze; split
   ·exact jx _
   simp
  unfold World.freeze;split
  ·exact hx
  unfold World.cell? at hx ⊢;split at hx
  ·rename_i c el fz hh
   have hh':w.drew.heap[a.block]? =some (.cells c el fz):=hh;simp only[Array.getElem?_modify,hh',Option.map_some];by_cases hga:g=a.block
   ·simp only[hga,if_true]; exact hx
   simp only[hga,if_false]; exact hx
  exact absurd hx (by simp)
 refine⟨rfl,rfl,rfl,by simp,fun k hk _=>?_,fun a x hx=>?_⟩
 ·exact Go.RowKit.Below.heap_alloc w.drew o k hk
 rw[World.cell?_alloc_lt (h:=World.block_lt_of_cell? w.drew a hx)]; exact hx
theorem SatW.shut {bs:Base} {ρ:List Value} {H:PH} {lo:List AObj} {w w':World} (s:SatW bs ρ H lo w) {j:Nat} {v:Value} {e:TypeId} {z n:Nat} (hj:lo[j]? =some (.tail e z n)) (hv:ρ[j]? =some v)
  (h:Shut v w w'):SatW bs ρ H (lo.set j .dead) w' where
 sath:=⟨fun b o x hx=>⟨h.cell _ _ (s.sath.cell b o x hx).1,(s.sath.cell b o x hx).2⟩,s.sath.root⟩
 hlen:=by simpa using s.hlen
 pre:=s.pre
 objs:=fun i o u hi hu=>by
  rw[jG]at hi;split at hi
  ·split at hi
   ·cases hi; trivial
   cases hi
  ·rename_i hne
   cases hl:o.live with
   | false=>cases o<;>simp[AObj.live]at hl; trivial
   | true=>
    refine(s.objs i o u hi hu).keep (jr _) (PH.le.refl H) (fun b hb hlt=>h.block b hlt fun e=>?_) (fun _ _ _ _ hn=>hn)
    exact s.excl i j o _ u v b hi hj hu hv (fun e=>hne e.symm) hl rfl hb e
 excl:=s.kill j |>.excl
 own:=s.kill j |>.own
 keep:=by
  refine⟨h.os.trans s.keep.os,h.tape.trans s.keep.tape,h.output.trans s.keep.output,Nat.le_trans s.keep.size h.size,fun k hk hS=>?_⟩;rw[h.block k (Nat.lt_of_lt_of_le hk s.keep.size) fun e=>?_]
  ·exact s.keep.block k hk hS
  rcases s.own j _ v k hj hv rfl e with h1|h1
  ·exact hS h1
  omega
 leH:=s.leH
 newH:=s.newH
theorem qk1.string {P:Program} {f:FuncId} {T E:TypeId} (hent:∀ args w,(callFunc f args).run P w=.ok (.enter f args) w)
  (hc:∀ (b:Nat) (l:List UInt8) (w:World) (p v:Value),w.heap[b]? =some (.cells #[p,v] T (0,0))->w.ownsRow 0 E 1 v l.length (Lib.byteCells l)->l≠[] ->
   Calls P f #[.pointer (some ⟨b,0,none⟩)] w (q9t l v w))
  {k j:Nat} {a:FV} {bs:List UInt8} {lo:List AObj} {n:Nat} {R:FV->List AObj->Prop} (hk:lo[k]? =some (.box T [a,.tsl j (qau bs)])) (hj:lo[j]? =some (.tail E 1 n))
  (h0:bs≠[]) (h:R (.p (.str bs)) (lo.set j .dead)):qk1 P f [.ptr k 0] lo R:=by
 intro bs' ρ H w vs s rl;obtain⟨u,_,rfl,ru,rfl⟩:=rl;obtain⟨b,hb,rfl⟩:=ru;rw[show([Value.pointer (some ⟨b,0,none⟩)]:List Value).toArray = #[.pointer (some ⟨b,0,none⟩)]from rfl,hent];refine⟨rfl,?_⟩;obtain⟨b',vs,e',hg,hcs,_⟩:=s.objs k _ _ hk hb;cases e';simp only[qd7]at hcs;obtain⟨p,_,rfl,_,v,_,rfl,⟨hv,hrep⟩,rfl⟩:=hcs;obtain⟨xs,how,hx⟩:=s.objs j _ v hj hv;have hxs:n=bs.length/\xs=Lib.byteCells bs:=by
  simp only[qco]at hrep;rcases hrep with ⟨e0,_⟩|⟨g,o,z,cap,rfl,_,rr⟩
  ·exact absurd (by simpa[qau]using e0) h0
  rcases how.2 with ⟨e0,_⟩|⟨g',cap',cur,e0,_⟩
  ·cases e0
  simp only[Value.slice.injEq,Option.some.injEq,Addr.mk.injEq]at e0;obtain⟨⟨rfl,rfl,_⟩,hn,_⟩:=e0;have hn':n=bs.length:=by rw[← hn]; simp[qau]
  refine⟨hn',?_⟩;have hl:=how.1;have hcell:=zdh s.sath rr;refine List.ext_getElem (by rw[hl,Lib.byteCells_length,hn',Nat.mul_one]) fun j h1 h2=>?_;have hj':j<bs.length:=by rw[Lib.byteCells_length]at h2; exact h2
  have c1:=how.cells (g:=g) rfl j _ (jf h1);rw[hcell j hj']at c1;simp only[Option.some.injEq]at c1;rw[← c1];simp[Lib.byteCells]
 obtain⟨rfl,rfl⟩:=hxs;refine(hc b bs w p v hg how h0).mono fun e w' hp=>?_;exact⟨_,.p (.str bs),lo.set j .dead,hp.1,⟨ρ,H,jr _,PH.le.refl H,s.shut hj hv (Shut.of hp),by simp[qch,qco]⟩,h⟩
theorem SatH.below {H:PH} {w w':World} (s:SatH H w) (h:Below w.heap.size w w'):Calm H w H w':=
 ⟨PH.le.refl H,s.block fun b _ _ hv=>h.block b (s.lt hv),⟨h.os,h.tape,h.output,h.size,fun k hk _=>h.block k hk⟩,fun _ _ v hv=>.inl ⟨v,hv⟩⟩
abbrev q9u (P:Program) (f:FuncId) (T E:TypeId):Prop:=∀ (b:Nat) (w:World) (p v:Value),w.heap[b]? =some (.cells #[p,v] T (0,0))->w.ownsRow 0 E 1 v 0 [] ->
   Calls P f #[.pointer (some ⟨b,0,none⟩)] w fun e w'=>e=.returned (.string ⟨#[]⟩)/\Below w.heap.size w w'
theorem qk1.string_any {P:Program} {f:FuncId} {T E:TypeId} (hent:∀ args w,(callFunc f args).run P w=.ok (.enter f args) w)
  (hc:∀ (b:Nat) (l:List UInt8) (w:World) (p v:Value),w.heap[b]? =some (.cells #[p,v] T (0,0))->w.ownsRow 0 E 1 v l.length (Lib.byteCells l)->l≠[] ->
   Calls P f #[.pointer (some ⟨b,0,none⟩)] w (q9t l v w)) (hc0:q9u P f T E)
  {k j:Nat} {a:FV} {bs:List UInt8} {lo:List AObj} {n:Nat} {R:FV->List AObj->Prop} (hk:lo[k]? =some (.box T [a,.tsl j (qau bs)])) (hj:lo[j]? =some (.tail E 1 n))
  (h:R (.p (.str bs)) (lo.set j .dead)):qk1 P f [.ptr k 0] lo R:=by
 by_cases h0:bs=[]
 ·subst h0
  intro bs' ρ H w vs s rl;obtain⟨u,_,rfl,ru,rfl⟩:=rl;obtain⟨b,hb,rfl⟩:=ru;rw[show([Value.pointer (some ⟨b,0,none⟩)]:List Value).toArray = #[.pointer (some ⟨b,0,none⟩)]from rfl,hent];refine⟨rfl,?_⟩;obtain⟨b',vs,e',hg,hcs,_⟩:=s.objs k _ _ hk hb;cases e';simp only[qd7]at hcs;obtain⟨p,_,rfl,_,v,_,rfl,⟨hv,hrep⟩,rfl⟩:=hcs;obtain⟨xs,how,hx⟩:=s.objs j _ v hj hv;have hn:n=0:=by
   simp only[qco,qau,jO]at hrep;rcases hrep with ⟨_,e0⟩|⟨g,o,z,cap,rfl,_,_⟩
   ·rcases how.2 with ⟨_,hz⟩|⟨g',cap',cur,e1,_⟩
    ·exact hz
    rcases e0 with e0|⟨a0,c0,e0⟩
    ·rw[e0]at e1; cases e1
    rw[e0]at e1;simp only[Value.slice.injEq]at e1;exact e1.2.1.symm
   rcases how.2 with ⟨e1,hz⟩|⟨g',cap',cur,e1,_⟩
   ·cases e1
   simp only[Value.slice.injEq]at e1;exact e1.2.1.symm
  subst hn;have hxs:xs=[]:=by have:=how.1; simpa using this
  subst hxs;refine(hc0 b w p v hg how).mono fun e w' hp=>?_;exact⟨_,.p (.str []),lo.set j .dead,hp.1,⟨ρ,H,jr _,PH.le.refl H,(s.kill j).calm (s.sath.below hp.2),by simp[qch,qco]⟩,h⟩
 exact qk1.string hent hc hk hj h0 h
end Ax
end
section
namespace Ax
open Go
mutual
def PV.norm:PV->PV
 | .nilsl=>.sl []
 | .agg cs=>.agg (zcl cs)
 | .tup cs=>.tup (zcl cs)
 | .sl rows=>.sl (zka rows)
 | v=>v
def zcl:List PV->List PV
 | []=>[]
 | c::cs=>c.norm::zcl cs
def zka:List (List PV)->List (List PV)
 | []=>[]
 | r::rs=>zcl r::zka rs
end
theorem qz4:∀ rows:List (List PV),(zka rows).length=rows.length
 | []=>rfl
 | _::l=>by simp[zka,qz4 l]
theorem q6l:∀ cs:List PV,(zcl cs).length=cs.length
 | []=>rfl
 | _::l=>by simp[zcl,q6l l]
mutual
theorem qco.norm {H:PH}:∀ {c:PV} {v:Value},qco H c v->qco H c.norm v
 | .nilsl,v,h=>by simp only[PV.norm,qco]at *; exact .inl ⟨trivial,.inl h⟩
 | .agg cs,v,h=>by
  simp only[PV.norm,qco]at *;obtain⟨vs,e,r⟩:=h;exact⟨vs,e,qdi.norm r⟩
 | .tup cs,v,h=>by
  simp only[PV.norm,qco]at *;obtain⟨vs,e,r⟩:=h;exact⟨vs,e,qdi.norm r⟩
 | .sl rows,v,h=>by
  simp only[PV.norm,qco]at *;rcases h with ⟨rfl,h⟩|⟨b,o,z,cap,e,hc,r⟩
  ·exact .inl ⟨rfl,h⟩
  exact .inr ⟨b,o,z,cap,by rw[qz4]; exact e,by rw[qz4]; exact hc,qs3.norm r⟩
 | .bool _,_,h|.int ..,_,h|.str _,_,h|.nilp,_,h|.fn _,_,h|.nilfn,_,h|.nili,_,h|.nilmap,_,h|.ifc ..,_,h=>by
  simpa only[PV.norm]using h
theorem qdi.norm {H:PH}:∀ {cs:List PV} {vs:List Value},qdi H cs vs->qdi H (zcl cs) vs
 | [],_,h=>by simpa only[zcl]using h
 | c::cs,vs,h=>by
  simp only[zcl,qdi]at *;obtain⟨v,vs',e,r,rs⟩:=h;exact⟨v,vs',e,qco.norm r,qdi.norm rs⟩
theorem qs3.norm {H:PH} {b z:Nat}:∀ {rows:List (List PV)} {o:Nat},qs3 H b z o rows->qs3 H b z o (zka rows)
 | [],_,h=>by simpa only[zka]using h
 | r::rs,o,h=>by
  simp only[zka,qs3]at *;obtain⟨e,⟨vs,q,c⟩,rr⟩:=h;exact⟨by rw[q6l]; exact e,⟨vs,qdi.norm q,c⟩,qs3.norm rr⟩
end
theorem qai.norm {P:Program} {f:FuncId} {args:List PV} {r r':PV} (h:qai P f args r) (e:r.norm=r'):qai P f args r':=by
 subst e;intro H w vs hs rl;have:=h H w vs hs rl;generalize (callFunc f vs.toArray).run P w=x at *;cases x with
 | ok n w'=>
  cases n<;>simp only[q3a]at this ⊢ <;> try exact this
  ·obtain⟨H',c,r⟩:=this; exact⟨H',c,qco.norm r⟩
  exact⟨this.1,this.2.mono fun en w'' ⟨v,H',e,c,r⟩=>⟨v,H',e,c,qco.norm r⟩⟩
 | halt x w'=>exact this
theorem qai.args {P:Program} {f:FuncId} {args args':List PV} {r:PV} (h:qai P f args' r) (e:zcl args=args'):qai P f args r:=by
 subst e;exact fun H w vs hs rl=>h H w vs hs (qdi.norm rl)
end Ax
end
section
namespace Ax
open Go
section
variable {A R S:Type}
def chk (b:Bool) (k:Option R):Option R:=match b with|true=>k|false=>none
theorem qah {b:Bool} {k:Option R} {r:R} (h:chk b k=some r):b=true/\k=some r:=by
 cases b with
 | true=>exact⟨rfl,h⟩
 | false=>cases h
def bnd (o:Option A) (k:A->Option R):Option R:=match o with|some a=>k a|none=>none
theorem zr1 {o:Option A} {k:A->Option R} {r:R} (h:bnd o k=some r):∃ x,o=some x/\k x=some r:=by
 cases o with
 | some a=>exact⟨a,rfl,h⟩
 | none=>cases h
theorem q10 {c:Bool} {a b:Option R} {r:R} (h:(bif c then a else b)=some r) (hc:c=true):a=some r:=by subst hc; exact h
theorem q1z {c:Bool} {a b:Option R} {r:R} (h:(bif c then a else b)=some r) (hc:c=false):b=some r:=by subst hc; exact h
def idx (l:List A) (i:Int):Option A:=if 0<=i then l[i.toNat]? else none
theorem qc8 {l:List A} {i:Int} {x:A} (h:idx l i=some x):0<=i/\l[i.toNat]? =some x:=by
 unfold idx at h;split at h
 ·exact⟨by assumption,h⟩
 cases h
def qaw [Inhabited A] (g:Bool) (o:Option A):Option A:=bif g then o else some default
theorem qac [Inhabited A] {g:Bool} {o:Option A} {x:A} (h:qaw g o=some x) (hg:g=true):o=some x:=by subst hg; exact h
def qwb (i:Int):Option Nat:=if 0<=i then some i.toNat else none
theorem qct {i:Int} {n:Nat} (h:qwb i=some n):i=n:=by
 unfold qwb at h;split at h
 ·cases h; omega
 cases h
def u8I (i:Int):Option UInt8:=if 0<=i/\i<256 then some (UInt8.ofNat i.toNat)else none
theorem qet {i:Int} {b:UInt8} (h:u8I i=some b):i=(b.toNat:Int):=by
 unfold u8I at h;split at h
 ·cases h
  simp only[UInt8.toNat_ofNat'];omega
 cases h
theorem gd {g c:Bool} (h:(bif g then c else true)=true) (hg:g=true):c=true:=by subst hg; exact h
def qam (B:(S->Option R)->S->Option R):Nat->S->Option R
 | 0,_=>none
 | n+1,s=>B (qam B n) s
end
structure Codec (A:Type) where
 cells:A->List PV
 rows:List A->List (List PV)
 z:Nat
 hrows:∀ l,rows l=l.map cells
 hz:∀ a,(cells a).length=z
 hone:∀ a,(cells a).all zkb=true
namespace Codec
variable {A:Type} (C:Codec A)
theorem at_ {l:List A} {i:Int} {x:A} (h:idx l i=some x):0<=i/\(C.rows l)[i.toNat]? =some (C.cells x)/\(C.cells x).length=C.z:=by
 obtain⟨h0,h1⟩:=qc8 h;exact⟨h0,by rw[C.hrows]; simp[h1],C.hz x⟩
theorem length (l:List A):(C.rows l).length=l.length:=by rw[C.hrows]; simp
theorem append (a b:List A):C.rows a++C.rows b=C.rows (a++b):=by simp[C.hrows]
theorem take (l:List A) (n:Nat):(C.rows l).take n=C.rows (l.take n):=by simp[C.hrows]
theorem drop (l:List A) (n:Nat):(C.rows l).drop n=C.rows (l.drop n):=by simp[C.hrows]
theorem cut (l:List A) (n m:Nat):((C.rows l).take n).drop m=C.rows ((l.take n).drop m):=by simp[C.hrows]
theorem wide (l:List A):∀ r∈C.rows l,r.length=C.z:=by
 intro r hr;rw[C.hrows]at hr;obtain⟨a,_,rfl⟩:=List.mem_map.1 hr;exact C.hz a
theorem one (l:List A):∀ r∈C.rows l,r.length=C.z/\r.all zkb=true:=by
 intro r hr;rw[C.hrows]at hr;obtain⟨a,_,rfl⟩:=List.mem_map.1 hr;exact⟨C.hz a,C.hone a⟩
end Codec
def qcs (k:IntKind) (l:List Int):List (List PV):=l.map fun n=>[PV.int k n]
def zdj {A:Type} (C:Codec A) (l:List (List A)):List (List PV):=l.map fun x=>[PV.sl (C.rows x)]
def qpr:Codec (List UInt8):={ cells:=fun s=>[.str s],rows:=qak,z:=1,hrows:=fun _=>rfl,hz:=fun _=>rfl,hone:=fun _=>rfl }
def qdl:Codec UInt8:={ cells:=fun b=>[.int .u8 b.toNat],rows:=qau,z:=1,hrows:=fun _=>rfl,hz:=fun _=>rfl,hone:=fun _=>rfl }
def zt2 (k:IntKind):Codec Int:={ cells:=fun n=>[.int k n],rows:=qcs k,z:=1,hrows:=fun _=>rfl,hz:=fun _=>rfl,hone:=fun _=>rfl }
def slC {A:Type} (C:Codec A):Codec (List A):={ cells:=fun x=>[.sl (C.rows x)],rows:=zdj C,z:=1,hrows:=fun _=>rfl,hz:=fun _=>rfl,hone:=fun _=>rfl }
theorem Val.one (v:Val):v.cells.all zkb=true:=by cases v; rfl
def qvp:Codec Val:={ cells:=Val.cells,rows:=Val.rows,z:=6,hrows:=fun l=>rows_eq l,hz:=q6f,hone:=Val.one }
theorem zum {ps:List PV} (h:ps.all zkb=true):∀ c∈ps,zkb c=true:=by simpa using h
theorem qb5 {n b:Nat} (h:decide (n * b<=140737488355328)=true) (hb:1<=b):n<=9223372036854775807:=by
 have:=kod h;have:n * 1<=n * b:=Nat.mul_le_mul_left n hb;omega
theorem qai.leArgs {P:Program} {f:FuncId} {args args':List PV} {r:PV} (h:qai P f args' r) (e:zj9 args args'):qai P f args r:=
 fun H w vs hs rl=>h H w vs hs (q0m e rl)
theorem qai.le {P:Program} {f:FuncId} {args:List PV} {r r':PV} (h:qai P f args r) (e:nle r r'):qai P f args r':=by
 intro H w vs hs rl;have:=h H w vs hs rl;generalize (callFunc f vs.toArray).run P w=x at *;cases x with
 | ok n w'=>
  cases n<;>simp only[q3a]at this ⊢ <;> try exact this
  ·obtain⟨H',c,r⟩:=this; exact⟨H',c,zak e r⟩
  exact⟨this.1,this.2.mono fun en w'' ⟨v,H',e1,c,r⟩=>⟨v,H',e1,c,zak e r⟩⟩
 | halt x w'=>exact this
theorem qbh.fn {P:Program} (inl:List Nat) {N nb:Nat} {body:Code} {K:KA} {E:Env} {lo:List AObj} {S R:Type} (fr:S->Env) (ob:S->List AObj) {B:(S->Option R)->S->Option R} {n:Nat} {s0:S} {r:R}
  (h:qam B n s0=some r) (hw:zcg nb E lo (fr s0) (ob s0))
  (round:∀ (next:S->Option R) (s:S),B next s=some r->vc P inl N nb body (fun x E' lo'=>match x with
   | .normal=>∃ s',next s'=some r/\zcg nb E' lo' (fr s') (ob s')
   | .exit i=>K (.exit i) E' lo'
   | .ret=>K .ret E' lo') (fr s) (ob s)):qbh P inl N nb body K E lo:=by
 intro hm hd bs ρ H a w hb sat;subst hb;obtain⟨ρ',sat'⟩:=hw.sat sat;refine wp_loop_ghost (I:=fun n a w=>∃ s ρ H,qam B n s=some r/\Sat bs N ρ H (qcc (fr s)) (ob s) a w) n ⟨s0,ρ',H,h,sat'⟩ fun n a w ⟨s,ρ,H,hs,sat⟩=>?_;cases n with
 | zero=>cases hs
 | succ n=>
  refine wp_mono (qmp hm body _ _ _ hd (round (qam B n) s hs) bs ρ H a w rfl sat) fun e a w p=>?_;obtain⟨x,ρ2,H2,E2,lo2,hx,sat2,k⟩:=p;cases x<;>cases e<;>simp only[zro]at hx
  ·obtain⟨s',hok',hwk⟩:=k
   obtain⟨ρ3,sat3⟩:=hwk.sat sat2;exact⟨n,Nat.lt_succ_self _,s',ρ3,H2,hok',sat3⟩
  ·exact⟨.exit _,ρ2,H2,E2,lo2,hx,sat2,k⟩
  exact⟨.ret,ρ2,H2,E2,lo2,trivial,sat2,k⟩
theorem qhd.go {P:Program} {inl:List Nat} {N nb:Nat} {x y:Code} {K:KA} {E:Env} {lo:List AObj}
  (h:vc P inl N nb x (fun e E lo=>match e with|.normal=>vc P inl N nb y K E lo|.exit i=>K (.exit i) E lo|.ret=>K .ret E lo) E lo):qhd P inl N nb x y K E lo:=by
 intro hm hx hy bs ρ H a w hb s;refine wp_seq (wp_mono (qmp hm x _ E lo hx h bs ρ H a w hb s) fun e a w p=>?_);obtain⟨x',ρ',H',E',lo',hx,s',k⟩:=p;cases x'<;>cases e<;>simp only[zro]at hx
 ·exact qmp hm y K E' lo' hy k bs ρ' H' a w hb s'
 ·exact⟨.exit _,ρ',H',E',lo',hx,s',k⟩
 exact⟨.ret,ρ',H',E',lo',trivial,s',k⟩
theorem qhd.cut {P:Program} {inl:List Nat} {N nb:Nat} {x y:Code} {K:KA} {E:Env} {lo:List AObj} {S R:Type} (fr:S->Env) (ob:S->List AObj) (k:S->Option R) {r:R}
  (hy:∀ s,k s=some r->vc P inl N nb y K (fr s) (ob s))
  (hx:vc P inl N nb x (fun e E lo=>match e with|.normal=>∃ s,k s=some r/\zcg nb E lo (fr s) (ob s)|.exit i=>K (.exit i) E lo|.ret=>K .ret E lo) E lo):qhd P inl N nb x y K E lo:=by
 intro hm hdx hdy bs ρ H a w hb s;refine wp_seq (wp_mono (qmp hm x _ E lo hdx hx bs ρ H a w hb s) fun e a w p=>?_);obtain⟨x',ρ',H',E',lo',hx,s',kk⟩:=p;cases x'<;>cases e<;>simp only[zro]at hx
 ·obtain⟨st,hst,hwk⟩:=kk
  subst hb;obtain⟨ρ3,s3⟩:=hwk.sat s';exact qmp hm y K _ _ hdy (hy st hst) bs ρ3 H' a w rfl s3
 ·exact⟨.exit _,ρ',H',E',lo',hx,s',kk⟩
 exact⟨.ret,ρ',H',E',lo',trivial,s',kk⟩
theorem qai.of_vcN {P:Program} {f:FuncId} {fn:Func} {args:List PV} {r:PV} {inl:List Nat} (hm:P.follows .mixedOrders=true) (he:Enters P f) (hf:P.funcs[f]? =some fn) (hok:zok inl fn args.length=true)
  (h:zxd P inl fn args (fun v=>nle v r)):qai P f args r:=
 qai.of_vcR hm he hf hok (fun _ _ _=>zak) h
section
variable {A R S:Type}
theorem qa1 (B:(S->Option R)->S->Option R) (n:Nat) (s:S):qam B (n+1) s=B (qam B n) s:=rfl
@[simp] theorem qad (a:A) (k:A->Option R):bnd (some a) k=k a:=rfl
@[simp] theorem zx9 (k:A->Option R):bnd none k=none:=rfl
@[simp] theorem zya (k:Option R):chk true k=k:=rfl
@[simp] theorem qc3 [Inhabited A] (o:Option A):qaw true o=o:=rfl
@[simp] theorem zff [Inhabited A] (o:Option A):qaw false o=some default:=rfl
@[simp] theorem qaj (l:List A) (i:Nat):idx l (i:Int)=l[i]?:=by unfold idx; simp
@[simp] theorem qr8 (l:List A):idx l 0=l[0]?:=by unfold idx; simp
@[simp] theorem qkb (i:Nat):qwb (i:Int)=some i:=by unfold qwb; simp
@[simp] theorem zf3 (b:UInt8):u8I ((b.toNat:Nat):Int)=some b:=by
 have:=b.toNat_lt;unfold u8I;rw[if_pos ⟨Int.natCast_nonneg _,by omega⟩];simp
@[simp] theorem zgy (l:List UInt8):(qau l).length=l.length:=by simp[qau]
@[simp] theorem qfu (l:List Val):(Val.rows l).length=l.length:=by rw[rows_eq]; simp
theorem qa0 {b:Bool} (k:Option R) (h:b=true):chk b k=k:=by subst h; rfl
end
end Ax
end
section
namespace Ax
open Go
def qbq (P:Program) (f:FuncId) (args:List FV) (objs:List AObj) (m:Nat) (R:FV->List AObj->Prop):Prop:=
 ∀ (bs:Base) (ρ:List Value) (H:PH) (w:World) (vs:List Value),bs.r0=ρ.take m->SatW bs ρ H objs w->qd7 ρ H args vs ->
  match (callFunc f vs.toArray).run P w with
  | .ok (.value v) w'=>∃ r objs' ρ' H',R r objs'/\PH.le H H'/\SatW bs ρ' H' objs' w'/\qch ρ' H' r v
  | .ok (.enter f' args') w'=>w'=w/\Calls P f' args' w fun en w''=>∃ v r objs' ρ' H',en=.returned v/\R r objs'/\PH.le H H'/\SatW bs ρ' H' objs' w''/\qch ρ' H' r v
  | _=>False
theorem qbq.mono {P:Program} {f:FuncId} {args:List FV} {objs:List AObj} {m:Nat} {R R':FV->List AObj->Prop} (h:qbq P f args objs m R) (hr:∀ r lo,R r lo->R' r lo):qbq P f args objs m R':=by
 intro bs ρ H w vs hb s rl;have:=h bs ρ H w vs hb s rl;generalize (callFunc f vs.toArray).run P w=x at *;cases x with
 | ok n w'=>
  cases n<;>simp only at this ⊢ <;> try exact this
  ·obtain⟨r,objs',ρ',H',h1,h2⟩:=this; exact⟨r,objs',ρ',H',hr _ _ h1,h2⟩
  exact⟨this.1,this.2.mono fun en w'' ⟨v,r,objs',ρ',H',e,h1,h2⟩=>⟨v,r,objs',ρ',H',e,hr _ _ h1,h2⟩⟩
 | halt x w'=>exact this
def zy7 (P:Program) (fn:Func) (m:Nat) (R:FV->List AObj->Prop):KA:=zx1 P fn fun r0 lo=>∃ r objs',R r objs'/\zcg m [(0,r0)] lo [(0,r)] objs'
def vcO (P:Program) (inl:List Nat) (fn:Func) (args:List FV) (objs:List AObj) (m:Nat) (R:FV->List AObj->Prop):Prop:=
 match fn.body with
 | some c=>vc P inl fn.ntmps m c (zy7 P fn m R) (quw 0 args) objs
 | none=>False
theorem qbq.of_vc {P:Program} {f:FuncId} {fn:Func} {args:List FV} {objs:List AObj} {m:Nat} {R:FV->List AObj->Prop} {inl:List Nat} (hm:P.follows .mixedOrders=true) (he:Enters P f) (hf:P.funcs[f]? =some fn) (hok:zok inl fn args.length=true)
  (hml:m<=objs.length) (h:vcO P inl fn args objs m R):qbq P f args objs m R:=by
 intro bs ρ H w vs hbs s rl;rw[he];refine⟨rfl,?_⟩;simp only[zok,jj,kde]at hok;obtain⟨hd,hn⟩:=hok;unfold vcO at h;cases hb:fn.body with
 | none=>simp[hb]at hd
 | some c=>
  simp only[hb]at h hd;refine calls_of_wp hf hb ?_;have hl:=rl.length;have hr0:bs.r0.length=m:=by rw[hbs,ju,s.hlen]; omega
  have sat:Sat bs fn.ntmps ρ H (qcc (quw 0 args)) objs { tmps:=vs.toArray++Array.replicate (fn.ntmps - vs.toArray.size) undef,defers:=[] } w:=by
   refine{ s with slots:=fun t=>?_,width:=by simp; omega,defers:=rfl }
   rw[q0k];simp only[jT,if_true,Nat.sub_zero];cases ht:args[t]? with
   | none=>trivial
   | some p=>
    obtain⟨v,hv,rv⟩:=rl.get ht;have hlt:=(jH.1 hv).1;have:(vs.toArray++Array.replicate (fn.ntmps - vs.toArray.size) undef).getD t undef=v:=by
     rw[jZ,Array.getElem?_append_left (by simpa using hlt)];simp[hv]
    rw[this];exact rv
  have hcalls:=qmp hm c _ _ _ hd h { bs with H0:=H } ρ H _ w hr0 { sat with leH:=PH.le.refl H,newH:=fun b o v hv=>.inl ⟨v,hv⟩ }
  refine wp_mono hcalls fun e a w' p=>?_;obtain⟨x,ρ',H',E',lo',hx,s',k⟩:=p;obtain⟨r0,hR,hxx,hres⟩:=zic k;obtain⟨r,objs',hR,hw⟩:=hR;obtain⟨v,hv,rv⟩:=hres _ _ ρ' H' a w' s';have s1:Sat { bs with H0:=H } 1 ρ' H' (qcc [(0,r0)]) lo' { tmps:=#[v],defers:=[] } w':=by
   refine{ s'.toSatW with slots:=fun t=>?_,width:=rfl,defers:=rfl }
   cases t with
   | zero=>exact rv
   | succ t=>simp only[qcc]; exact trivial
  obtain⟨ρ2,s2⟩:=zcg.sat s1 (by rw[hr0]; exact hw);have rv2:qch ρ2 H' r v:=s2.slots 0;have fin:∃ v,(results fn a.tmps).run P w'=.ok v w'/\(fun en w''=>∃ v r objs' ρ' H',en=Ending.returned v/\R r objs'/\PH.le H H'/\SatW bs ρ' H' objs' w''/\qch ρ' H' r v) (.returned v) w':=by
   refine⟨v,hv,v,r,objs',ρ2,H',rfl,hR,s2.leH,?_,rv2⟩;refine{ s2.toSatW with leH:=s.leH.trans s2.leH,newH:=fun b o u hu=>?_ }
   rcases s2.newH b o u hu with ⟨u',hu'⟩|h|h
   ·exact s.newH b o u' hu'
   ·exact .inr (.inl h)
   exact .inr (.inr h)
  rcases hxx with rfl|rfl<;>cases e<;>simp only[zro]at hx
  ·exact⟨s'.defers,fin⟩
  exact⟨s'.defers,fin⟩
def AObj.ren (σ:Nat->Nat):AObj->AObj
 | .box t cells=>.box t (cells.map (FV.ren σ))
 | .mp d es _=>.mp d es none
 | .vl e z rows j k=>.vl e z rows j (σ k)
 | o=>o
theorem qch.ren {ρ ρ':List Value} {H:PH} {σ:Nat->Nat} (h:∀ i v,ρ[i]? =some v->ρ'[σ i]? =some v):∀ {f:FV} {x:Value},qch ρ H f x->qch ρ' H (f.ren σ) x
 | .top,_,_=>trivial
 | .p p,x,r=>r
 | .opt g v,x,r=>by
  simp only[FV.ren,qch]at *;split
  ·rename_i hg; simp only[hg,if_true]at r; exact qch.ren h r
  rename_i hg; simpa[hg]using r
 | .tsl k rows,x,r=>⟨h _ _ r.1,r.2⟩
 | .ptr k off,x,⟨b,e,e'⟩=>⟨b,h _ _ e,e'⟩
 | .hptr row,x,r=>r
 | .bself k,x,⟨b,e,e'⟩=>⟨b,h _ _ e,e'⟩
 | .bsl k off len cap,x,⟨b,e,e'⟩=>⟨b,h _ _ e,e'⟩
 | .vsl k n,x,r=>⟨h _ _ r.1,r.2⟩
 | .eptr k z i off,x,⟨b,n,cap,e,e'⟩=>⟨b,n,cap,h _ _ e,e'⟩
 | .mref k,x,⟨b,e,e'⟩=>⟨b,h _ _ e,e'⟩
 | .pair a b,x,⟨u,v,e,ra,rb⟩=>⟨u,v,e,ra.ren h,rb.ren h⟩
 | .stmp k,x,r=>h _ _ r
 | .clo f c,x,⟨vs,e,rc⟩=>⟨vs,e,rc.ren h⟩
 | .cap0,x,r=>r
 | .cap a b,x,⟨u,vs,e,ra,rb⟩=>⟨u,vs,e,ra.ren h,rb.ren h⟩
 | .fagg c,x,⟨vs,e,rc⟩=>⟨vs,e,rc.ren h⟩
 | .nxt ok a b,x,r=>r
 | .asl k off n,x,⟨b,m,cap,c,e,e'⟩=>⟨b,m,cap,c,h _ _ e,e'⟩
theorem qd7.ren {ρ ρ':List Value} {H:PH} {σ:Nat->Nat} (h:∀ i v,ρ[i]? =some v->ρ'[σ i]? =some v):∀ {cs:List FV} {vs:List Value},qd7 ρ H cs vs->qd7 ρ' H (cs.map (FV.ren σ)) vs
 | [],_,r=>r
 | _::_,_,⟨v,vs',e,r,rs⟩=>⟨v,vs',e,r.ren h,rs.ren h⟩
theorem qys.ren {ρ ρ':List Value} {H:PH} {w:World} {σ:Nat->Nat} (h:∀ i v,ρ[i]? =some v->ρ'[σ i]? =some v) {v:Value} {o:AObj} (ok:qys ρ H w v o):qys ρ' H w v (o.ren σ):=by
 cases o with
 | dead=>trivial
 | box t cells=>
  obtain⟨b,vs,e,hg,rc,hh⟩:=ok;exact⟨b,vs,e,hg,rc.ren h,hh⟩
 | tail e z n=>exact ok
 | vec e z rows=>exact ok
 | mp d es mk=>
  obtain⟨b,ents,clock,e,hg,rm,⟨h1,h2,_⟩,hh⟩:=ok;exact⟨b,ents,clock,e,hg,rm,⟨h1,h2,fun key s e=>by cases e⟩,hh⟩
 | sit l p=>exact ok
 | bv l=>exact ok
 | vl e z rows j k=>
  obtain⟨xs,h1,h2,h3,h4,h5⟩:=ok;exact⟨xs,h1,h2,h3,h4,fun u hu=>h _ _ (h5 u hu)⟩
theorem AObj.ren_live (σ:Nat->Nat) (o:AObj):(o.ren σ).live=o.live:=by cases o<;>rfl
def σOf (l:List Nat) (m n:Nat):Nat->Nat:=fun i=>match Nat.blt i m with
 | true=>l.getD i 0
 | false=>n+(i - m)
def zru:List Nat->List Nat->Nat->Nat->Option Nat
 | [],_,_,_=>none
 | k::l,fresh,i,j=>match Nat.beq k j with
  | true=>match fresh.contains i with
   | true=>zru l fresh (i+1) j
   | false=>some i
  | false=>zru l fresh (i+1) j
def zj8 (l fresh:List Nat) (m:Nat) (σ:Nat->Nat) (objs':List AObj) (j:Nat) (o:AObj):AObj:=
 match zru l fresh 0 j with
 | some i=>match Nat.blt i m with
  | true=>match objs'[i]? with|some o'=>o'.ren σ|none=>.dead
  | false=>.dead
 | none=>o
def q4d (l fresh:List Nat) (m:Nat) (σ:Nat->Nat) (objs':List AObj):Nat->List AObj->List AObj
 | _,[]=>(objs'.drop m).map (AObj.ren σ)
 | j,o::lo=>zj8 l fresh m σ objs' j o::q4d l fresh m σ objs' (j+1) lo
def zlj (l fresh:List Nat) (m:Nat) (lo objs':List AObj):List AObj:=q4d l fresh m (σOf l m lo.length) objs' 0 lo
theorem zc7 {l fresh:List Nat} {m:Nat} {σ:Nat->Nat} {objs':List AObj}:∀ {lo:List AObj} {j i:Nat} {o:AObj},(q4d l fresh m σ objs' j lo)[i]? =some o ->
  (∃ o0,lo[i]? =some o0/\o=zj8 l fresh m σ objs' (j+i) o0)\/(lo.length<=i/\∃ o0,objs'[m+(i - lo.length)]? =some o0/\o=o0.ren σ)
 | [],j,i,o,h=>by
  simp only[q4d,List.getElem?_map,jE]at h;cases hx:objs'[m+i]? with
  | none=>simp[hx]at h
  | some o0=>
   simp[hx]at h;exact .inr ⟨jT _,o0,by simpa using hx,h.symm⟩
 | x::lo,j,0,o,h=>by
  simp only[q4d,jd,Option.some.injEq]at h;exact .inl ⟨x,rfl,h.symm⟩
 | x::lo,j,i+1,o,h=>by
  simp only[q4d,List.getElem?_cons_succ]at h;rcases zc7 h with ⟨o0,h1,h2⟩|⟨h1,o0,h2,h3⟩
  ·exact .inl ⟨o0,by simpa using h1,by rw[h2,Nat.add_assoc,Nat.add_comm 1 i]⟩
  refine .inr ⟨by simpa using h1,o0,?_,h3⟩;simpa using h2
theorem q4e {l fresh:List Nat} {m:Nat} {σ:Nat->Nat} {objs':List AObj}:∀ {lo:List AObj} {j:Nat},(q4d l fresh m σ objs' j lo).length=lo.length+(objs'.length - m)
 | [],j=>by simp[q4d]
 | x::lo,j=>by
  simp only[q4d,ja,q4e (lo:=lo)];omega
theorem zh6 {fresh:List Nat} {j:Nat}:∀ {l:List Nat} {i0 i:Nat},zru l fresh i0 j=some i->i0<=i/\l[i - i0]? =some j/\i ∉ fresh
 | [],_,_,h=>by simp[zru]at h
 | k::l,i0,i,h=>by
  simp only[zru]at h;have step:zru l fresh (i0+1) j=some i->i0<=i/\(k::l)[i - i0]? =some j/\i ∉ fresh:=by
   intro h;obtain⟨h1,h2,h3⟩:=zh6 h;refine⟨by omega,?_,h3⟩;have e:i - i0=(i - (i0+1))+1:=by omega
   rw[e];simpa using h2
  split at h
  ·rename_i hk
   have hk:=jn hk;split at h
   ·exact step h
   rename_i hf;cases h;exact⟨jx _,by simp[hk],by simpa using hf⟩
  exact step h
theorem zh5 {fresh:List Nat} {j:Nat}:∀ {l:List Nat} {i0:Nat},zru l fresh i0 j=none->∀ i,l[i]? =some j->i0+i∈fresh
 | [],_,_,i,h=>by simp at h
 | k::l,i0,h,i,hi=>by
  simp only[zru]at h;cases i with
  | zero=>
   simp at hi;subst hi;simp only[Nat.beq_refl]at h;split at h
   ·rename_i hf; simpa using hf
   cases h
  | succ i=>
   have step:zru l fresh (i0+1) j=none->i0+(i+1)∈fresh:=fun h=>by
    have:=zh5 h i (by simpa using hi);have e:i0+1+i=i0+(i+1):=by omega
    rwa [e]at this
   split at h
   ·split at h
    ·exact step h
    cases h
   ·exact step h
def leArgs (π:Nat->Nat) (fresh:List Nat):List FV->List FV->Prop
 | [],[]=>True
 | a::l,b::m=>leF π fresh a b/\leArgs π fresh l m
 | _,_=>False
theorem zc5 {ρ:List Value} {H:PH} {π:Nat->Nat} {fresh:List Nat} {n:Nat}:∀ {xs ys:List FV} {vs:List Value},leArgs π fresh xs ys->(∀ c∈ys,∀ k∈c.names,k<n)->qd7 ρ H xs vs->qd7 (ziy ρ π fresh n) H ys vs
 | [],[],vs,_,_,r=>r
 | [],_::_,_,h,_,_=>by simp[leArgs]at h
 | _::_,[],_,h,_,_=>by simp[leArgs]at h
 | a::xs,b::ys,vs,h,hn,r=>by
  simp only[leArgs]at h;obtain⟨v,vs',e,r1,rs⟩:=r;exact⟨v,vs',e,zj4 h.1 (hn b (by simp)) r1,zc5 h.2 (fun c hc=>hn c (by simp[hc])) rs⟩
theorem zmi {π:Nat->Nat} {fresh:List Nat} {k:Nat} {o o':AObj} (hle:qoq π fresh k o o') (hl:o'.live=true):o.live=true:=by
 cases o' with
 | dead=>simp[AObj.live]at hl
 | box t c=>cases o<;>simp only[qoq]at hle; rfl
 | tail e z n=>simp only[qoq]at hle; subst hle; rfl
 | vec e z n=>simp only[qoq]at hle; subst hle; rfl
 | mp d es mk=>simp only[qoq]at hle; obtain⟨_,_,rfl⟩:=hle; rfl
 | sit l p=>simp only[qoq]at hle; subst hle; rfl
 | bv l=>simp only[qoq]at hle; subst hle; rfl
 | vl e z rows j k'=>simp only[qoq]at hle; obtain⟨_,rfl⟩:=hle; rfl
theorem qbq.use {P:Program} {f:FuncId} {args:List FV} {objs:List AObj} {m:Nat} {R:FV->List AObj->Prop} (h:qbq P f args objs m R) (l fresh:List Nat) {args':List FV} {lo:List AObj} {K:FV->List AObj->Prop}
  (hw:zm7 0 l fresh=true/\l.length=objs.length/\zc8 objs.length args=true/\qww objs.length objs=true/\Nat.ble m objs.length=true/\(List.range m).all (fun i=>!fresh.contains i)=true)
  (ha:leArgs (πOf l) fresh args' args) (ho:zj5 lo (πOf l) fresh 0 objs)
  (hK:∀ r0 objs',R r0 objs'->∃ r lo2,r0.ren (σOf l m lo.length)=r/\zlj l fresh m lo objs'=lo2/\K r lo2):qk1 P f args' lo K:=by
 obtain⟨hb,hl,hnA,hnO,hml,hfr⟩:=hw;have hml:=jh hml;have hfr:∀ i,i<m->i ∉ fresh:=by
  intro i hi;have:=List.all_eq_true.1 hfr i (by simpa using hi);simpa using this
 simp only[zm7,jj,kde,List.all_eq_true,List.mem_range,jP,beq_iff_eq,Bool.not_eq_true',bne_iff_ne]at hb;obtain⟨⟨⟨_,_⟩,hinj⟩,hfl⟩:=hb;have get:=fun(i:Nat) (o':AObj) (h:objs[i]? =some o')=>q5v ho i o' h;simp only[jy]at get;have inj:∀ i j,i<objs.length->j<objs.length->i ∉ fresh->j ∉ fresh->πOf l i=πOf l j->i=j:=by
  intro i j hi hj hfi hfj e;have:=hinj i (by omega) j (by omega);simp only[List.contains_iff_mem,hfi,hfj,false_or]at this;rcases this with h|h
  ·exact absurd e h
  exact h
 have hlget:∀ i,i<l.length->l[i]? =some (πOf l i):=fun i hi=>by
  simp[πOf,List.getD_eq_getElem?_getD,jf hi]
 intro bs ρ H w vs s rl
 let π:=πOf l
 let ρ2:=ziy ρ π fresh objs.length
 have weak:Weak 0 (quw 0 args') lo (quw 0 args) objs π fresh:=by
  refine{ bounds:=fun k hk hf=>?_,keep:=fun k hk=>absurd hk (Nat.not_lt_zero _),nb:=jT _,inj:=inj,frsh:=fun k hk=>?_,obj:=fun k o' ho hf=>(get k o' ho).2 hf,slot:=?_ }
  ·obtain⟨o,ho,_⟩:=(get k _ (jf hk)).2 hf
   exact(jH.1 ho).1
  ·have hk':k<objs.length:=by have:=hfl k hk; omega
   obtain⟨e,z,he⟩:=(get k _ (jf hk')).1 hk;exact⟨e,z,he.imp (fun he=>by rw[jf hk',he]) (fun he=>he.imp (fun he=>by rw[jf hk',he]) (fun⟨j,k2,he⟩=>⟨j,k2,by rw[jf hk',he]⟩))⟩
  have:∀ (n:Nat) (xs ys:List FV),leArgs π fresh xs ys->∀ t v,(t,v)∈quw n ys->leF π fresh (qcc (quw n xs) t) v:=by
   intro n xs
   induction xs generalizing n with
   | nil=>
    intro ys hab t v hm;cases ys with
    | nil=>simp[quw]at hm
    | cons b ys=>simp[leArgs]at hab
   | cons a xs ih=>
    intro ys hab t v hm;cases ys with
    | nil=>simp[leArgs]at hab
    | cons b ys=>
     simp only[leArgs]at hab;simp only[quw,jg,Prod.mk.injEq]at hm;have hge:∀ (n:Nat) (bs:List FV) (t:Nat) (v:FV),(t,v)∈quw n bs->n<=t:=by
      intro n bs
      induction bs generalizing n with
      | nil=>intro t v h; simp[quw]at h
      | cons c cs ih2=>
       intro t v h;simp only[quw,jg,Prod.mk.injEq]at h;rcases h with ⟨rfl,_⟩|h
       ·exact jx _
       have:=ih2 (n+1) t v h; omega
     simp only[quw,qcc];rcases hm with ⟨rfl,rfl⟩|hm
     ·simp only[Nat.beq_refl]; exact hab.1
     have:=hge _ _ _ _ hm;have hne:Nat.beq t n=false:=by
      cases hx:Nat.beq t n with
      | false=>rfl
      | true=>have:=jn hx; omega
     simp only[hne];exact ih (n+1) ys hab.2 t v hm
  exact this 0 args' args ha
 have sat0:Sat { bs with r0:=[] } vs.length ρ H (qcc (quw 0 args')) lo { tmps:=vs.toArray,defers:=[] } w:=by
  refine{ s with pre:=List.nil_prefix,slots:=fun t=>?_,width:=by simp,defers:=rfl }
  rw[q0k];simp only[jT,if_true,Nat.sub_zero];cases ht:args'[t]? with
  | none=>trivial
  | some p=>
   obtain⟨v,hv,rv⟩:=rl.get ht;have:vs.toArray.getD t undef=v:=by
    rw[jZ];simp[hv]
   rw[this];exact rv
 have hnames:zp1 (quw 0 args) objs:=by
  refine⟨fun t v hm=>?_,qx1 hnO,qvk hnO⟩;have:∀ (n:Nat) (bs:List FV) (t:Nat) (v:FV),(t,v)∈quw n bs->v∈bs:=by
   intro n bs
   induction bs generalizing n with
   | nil=>intro t v h; simp[quw]at h
   | cons c cs ih2=>
    intro t v h;simp only[quw,jg,Prod.mk.injEq]at h;rcases h with ⟨_,rfl⟩|h
    ·simp
    exact List.mem_cons_of_mem _ (ih2 (n+1) t v h)
  exact qx0 hnA v (this 0 args t v hm)
 have s2:=(sat0.weak weak hnames).toSatW;have rl2:qd7 ρ2 H args vs:=zc5 ha (qx0 hnA) rl;have ρ2get:∀ {i:Nat} {v:Value},ρ2[i]? =some v->i<objs.length/\((i∈fresh/\v=.slice none 0 0)\/(i ∉ fresh/\ρ[π i]? =some v)):=by
  intro i v hv;have hk:i<objs.length:=by have:=(jH.1 hv).1; simpa[ρ2,ziy]using this
  have hv':=hv;rw[show ρ2[i]? =_ from qjn hk]at hv';refine⟨hk,?_⟩;by_cases hf:i∈fresh
  ·simp[hf]at hv'; exact .inl ⟨hf,hv'.symm⟩
  simp only[hf,if_false]at hv';refine .inr ⟨hf,?_⟩;obtain⟨o,ho,_⟩:=(get i _ (jf hk)).2 hf;have:π i<ρ.length:=by rw[s.hlen]; exact(jH.1 ho).1
  rw[List.getD_eq_getElem?_getD,jf this]at hv';rw[jf this];simpa using hv'
 let bs2:Base:={ S:=zu6 ρ2 objs,w0:=w,H0:=H,r0:=ρ2.take m }
 have s2':SatW bs2 ρ2 H objs w:=
  { sath:=s2.sath,hlen:=s2.hlen,pre:=List.take_prefix _ _,objs:=s2.objs,excl:=s2.excl,own:=fun k o v b hk hv hl hb=>.inl ⟨k,o,v,hk,hv,hl,hb⟩,keep:=Keep.refl _ w,leH:=PH.le.refl H,newH:=fun b o v h=>.inl ⟨v,h⟩ }
 have lentS:∀ b,zu6 ρ2 objs b->∃ i o v,i<objs.length/\i ∉ fresh/\lo[π i]? =some o/\ρ[π i]? =some v/\o.live=true/\qcj v=some b:=by
  rintro b ⟨i,o,v,hi,hv,hl',hb⟩;obtain⟨hlt,hc⟩:=ρ2get hv;rcases hc with ⟨_,rfl⟩|⟨hf,hv'⟩
  ·simp[qcj]at hb
  obtain⟨o0,ho0,hle⟩:=(get i o hi).2 hf;exact⟨i,o0,v,hlt,hf,ho0,hv',zmi hle hl',hb⟩
 have key:∀ (r0:FV) (objs':List AObj) (ρ':List Value) (H':PH) (w':World) (v:Value),R r0 objs'->PH.le H H'->SatW bs2 ρ' H' objs' w'->qch ρ' H' r0 v->∃ r lo',qu1 bs ρ H r lo' v w'/\K r lo':=by
  intro r0 objs' ρ' H' w' v hR hle s3 rv;obtain⟨r,lo2,rfl,rfl,hk⟩:=hK r0 objs' hR;refine⟨_,_,?_,hk⟩;have hρ2len:ρ2.length=objs.length:=by simp[ρ2,ziy]
  have hpre:ρ2.take m <+: ρ':=s3.pre;have hm':m<=ρ'.length:=by
   have:=hpre.length_le;rw[ju,hρ2len]at this;omega
  have hold:∀ i,i<m->ρ'[i]? =ρ2[i]?:=by
   intro i hi;obtain⟨t,ht⟩:=hpre;rw[← ht,jC (by rw[ju,hρ2len]; omega),jF,if_pos hi]
  have hσ:∀ i v,ρ'[i]? =some v->(ρ++ρ'.drop m)[σOf l m lo.length i]? =some v:=by
   intro i v hv;unfold σOf;by_cases hi:i<m
   ·have:Nat.blt i m=true:=Nat.ble_eq_true_of_le hi
    simp only[this];rw[hold i hi]at hv;obtain⟨hlt,hc⟩:=ρ2get hv;rcases hc with ⟨hf,_⟩|⟨_,hv'⟩
    ·exact absurd hf (hfr i hi)
    have hπ:l.getD i 0=π i:=rfl;rw[hπ,jC (jH.1 hv').1];exact hv'
   have:Nat.blt i m=false:=by
    cases hx:Nat.blt i m with
    | false=>rfl
    | true=>exact absurd (jh hx) hi
   simp only[this];rw[jD (by rw[s.hlen]; omega),s.hlen,Nat.add_sub_cancel_left,jE];have e:m+(i - m)=i:=by omega
   rw[e];exact hv
  have cls:∀ (j:Nat) (o:AObj) (v:Value),(zlj l fresh m lo objs')[j]? =some o->(ρ++ρ'.drop m)[j]? =some v->o.live=true ->
    (∃ i o0,objs'[i]? =some o0/\ρ'[i]? =some v/\o=o0.ren (σOf l m lo.length)/\j=σOf l m lo.length i) \/
    (j<lo.length/\lo[j]? =some o/\ρ[j]? =some v/\∀ i,i<objs.length->i ∉ fresh->π i≠j):=by
   intro j o v hj hv hlive;rcases zc7 hj with ⟨o0,h1,h2⟩|⟨h1,o0,h2,h3⟩
   ·have hjl:=(jH.1 h1).1
    rw[jC (by rw[s.hlen]; exact hjl)]at hv;rw[jy]at h2;unfold zj8 at h2;split at h2
    ·rename_i i hp
     obtain⟨_,hli,hif⟩:=zh6 hp;rw[Nat.sub_zero]at hli;have hil:i<l.length:=(jH.1 hli).1;have hπ:π i=j:=by have:=hlget i hil; rw[hli]at this; exact(Option.some.inj this).symm
     split at h2
     ·rename_i him
      have him:i<m:=jh him;split at h2
      ·rename_i o' ho'
       refine .inl ⟨i,o',ho',?_,h2,?_⟩
       ·rw[hold i him]
        have hik:i<objs.length:=by omega
        rw[show ρ2[i]? =_ from qjn hik];simp only[hif,if_false];rw[List.getD_eq_getElem?_getD,hπ,hv];rfl
       unfold σOf;simp only[show Nat.blt i m=true from Nat.ble_eq_true_of_le him];exact hπ.symm
      rw[h2]at hlive; simp[AObj.live]at hlive
     rw[h2]at hlive; simp[AObj.live]at hlive
    rename_i hp;refine .inr ⟨hjl,by rw[h2]; exact h1,hv,fun i hi hf e=>?_⟩;have:=zh5 hp i (by rw[hlget i (by omega)]; exact congrArg some e);rw[jy]at this;exact hf this
   refine .inl ⟨m+(j - lo.length),o0,h2,?_,h3,?_⟩
   ·rw[jD (by rw[s.hlen]; exact h1),s.hlen,jE]at hv
    exact hv
   unfold σOf;have:Nat.blt (m+(j - lo.length)) m=false:=by
    cases hx:Nat.blt (m+(j - lo.length)) m with
    | false=>rfl
    | true=>have:=jh hx; omega
   simp only[this];omega
  have apart:∀ (j:Nat) (o:AObj) (v:Value) (b:Nat),lo[j]? =some o->ρ[j]? =some v->(∀ i,i<objs.length->i ∉ fresh->π i≠j)->o.live=true->qcj v=some b->¬ zu6 ρ2 objs b:=by
   intro j o v b hj hv hnot hlive hb hlent;obtain⟨i,o0,v0,hi,hf,ho0,hv0,hl0,hb0⟩:=lentS b hlent;exact s.excl (π i) j o0 o v0 v b ho0 hj hv0 hv (hnot i hi hf) hl0 hlive hb0 hb
  have old:∀ (j:Nat) (o:AObj) (v:Value) (b:Nat),lo[j]? =some o->ρ[j]? =some v->o.live=true->qcj v=some b->b<w.heap.size:=by
   intro j o v b hj hv hlive hb;have hfresh:=s.fresh (g:=b);rcases Nat.lt_or_ge b w.heap.size with h|h
   ·exact h
   exact absurd hb (hfresh h j o v hj hv hlive)
  have zst:∀ b,bs2.S b\/w.heap.size<=b->bs.S b\/bs.w0.heap.size<=b:=by
   rintro b (hb|hb)
   ·obtain⟨i,o0,v0,_,_,ho0,hv0,hl0,hb0⟩:=lentS b hb
    exact s.own _ o0 v0 b ho0 hv0 hl0 hb0
   exact .inr (Nat.le_trans s.keep.size hb)
  refine⟨ρ++ρ'.drop m,H',List.prefix_append _ _,hle,?_,rv.ren hσ⟩;refine{ sath:=s3.sath,hlen:=?_,pre:=s.pre.trans (List.prefix_append _ _),objs:=?_,excl:=?_,own:=?_,keep:=?_,leH:=s.leH.trans hle,newH:=?_ }
  ·unfold zlj
   rw[q4e,jb,jN,s.hlen,s3.hlen]
  ·intro j o v hj hv
   cases hlive:o.live with
   | false=>cases o<;>simp[AObj.live]at hlive; trivial
   | true=>
    rcases cls j o v hj hv hlive with ⟨i,o0,h1,h2,rfl,_⟩|⟨hjl,h1,h2,hnot⟩
    ·exact(s3.objs i o0 v h1 h2).ren hσ
    refine(s.objs j o v h1 h2).keep (List.prefix_append _ _) hle (fun b hb hlt=>s3.keep.block b hlt (apart j o v b h1 h2 hnot hlive hb)) (fun b o' hb hlt hn=>?_)
    cases hx:H' b o' with
    | none=>rfl
    | some u=>
     rcases s3.newH b o' u hx with ⟨y,hy⟩|hS|hge
     ·have hy':H b o'=some y:=hy
      rw[hn]at hy'; cases hy'
     ·exact absurd hS (apart j o v b h1 h2 hnot hlive hb)
     have hge':w.heap.size<=b:=hge;omega
  ·intro j1 j2 o1 o2 v1 v2 b hj1 hj2 hv1 hv2 hne hl1 hl2 hb1 hb2
   rcases cls j1 o1 v1 hj1 hv1 hl1 with ⟨i1,a1,h1,h1v,rfl,e1⟩|⟨hjl1,h1,h1v,hnot1⟩<;>rcases cls j2 o2 v2 hj2 hv2 hl2 with ⟨i2,a2,h2,h2v,rfl,e2⟩|⟨hjl2,h2,h2v,hnot2⟩
   ·exact s3.excl i1 i2 a1 a2 v1 v2 b h1 h2 h1v h2v (fun e=>hne (by rw[e1,e2,e])) (by rw[← AObj.ren_live]; exact hl1) (by rw[← AObj.ren_live]; exact hl2) hb1 hb2
   ·have:=s3.own i1 a1 v1 b h1 h1v (by rw[← AObj.ren_live]; exact hl1) hb1
    rcases this with hS|hge
    ·exact apart j2 o2 v2 b h2 h2v hnot2 hl2 hb2 hS
    have hge':w.heap.size<=b:=hge;have:=old j2 o2 v2 b h2 h2v hl2 hb2;omega
   ·have:=s3.own i2 a2 v2 b h2 h2v (by rw[← AObj.ren_live]; exact hl2) hb2
    rcases this with hS|hge
    ·exact apart j1 o1 v1 b h1 h1v hnot1 hl1 hb1 hS
    have hge':w.heap.size<=b:=hge;have:=old j1 o1 v1 b h1 h1v hl1 hb1;omega
   exact s.excl j1 j2 o1 o2 v1 v2 b h1 h2 h1v h2v hne hl1 hl2 hb1 hb2
  ·intro j o v b hj hv hlive hb
   rcases cls j o v hj hv hlive with ⟨i,a,h1,h1v,rfl,_⟩|⟨_,h1,h1v,_⟩
   ·exact zst b (s3.own i a v b h1 h1v (by rw[← AObj.ren_live]; exact hlive) hb)
   exact s.own j o v b h1 h1v hlive hb
  ·exact s.keep.step s3.keep fun i hi=>zst i (.inl hi)
  intro b o u hu;rcases s3.newH b o u hu with ⟨y,hy⟩|hS|hge
  ·exact s.newH b o y hy
  ·exact .inr (zst b (.inl hS))
  exact .inr (zst b (.inr hge))
 have:=h bs2 ρ2 H w vs rfl s2' rl2;generalize (callFunc f vs.toArray).run P w=x at *;cases x with
 | ok n w'=>
  cases n<;>simp only at this ⊢ <;> try exact this
  ·obtain⟨r0,objs',ρ',H',hR,hle,s3,rv⟩:=this
   exact key r0 objs' ρ' H' w' _ hR hle s3 rv
  obtain⟨rfl,hc⟩:=this;exact⟨rfl,hc.mono fun en w'' ⟨v,r0,objs',ρ',H',e,hR,hle,s3,rv⟩=>by
   obtain⟨r,lo',af,k⟩:=key r0 objs' ρ' H' w'' v hR hle s3 rv;exact⟨v,r,lo',e,af,k⟩⟩
 | halt x w'=>exact this
end Ax
end
section
namespace Ax
open Go
section
variable {K V:Type} [BEq K]
def qbd (kp:K->PV) (vp:V->PV) (l:List (K×V)):List (PV×PV):=l.map fun e=>(kp e.1,vp e.2)
def qu3 (k:K):List (K×V)->Option V
 | []=>none
 | (k',v)::l=>bif k==k' then some v else qu3 k l
def qec (l:List (K×V)) (k:K) (d:V):V:=(qu3 k l).getD d
def q75 (l:List (K×V)) (k:K):Bool:=(qu3 k l).isSome
def qpp (k:K) (v:V):List (K×V)->List (K×V)
 | []=>[(k,v)]
 | (k',v')::l=>bif k==k' then(k,v)::l else(k',v')::qpp k v l
def znq (kp:K->PV):Prop:=∀ a b,zrr (kp a) (kp b)=(a==b)
theorem q5x {kp:K->PV} (hk:znq kp) (vp:V->PV) (k:K):∀ l:List (K×V),q7u (kp k) (qbd kp vp l)=(qu3 k l).map vp
 | []=>rfl
 | (k',v)::l=>by
  have:=q5x hk vp k l;simp only[qbd,jl,q7u,qu3]at this ⊢;rw[hk k k'];cases k==k' with
  | true=>rfl
  | false=>simpa using this
theorem qvi {kp:K->PV} (hk:znq kp) (vp:V->PV) (l:List (K×V)) (k:K) (d:V):(q7u (kp k) (qbd kp vp l)).getD (vp d)=vp (qec l k d):=by
 rw[q5x hk,qec];cases qu3 k l<;>rfl
theorem qvj {kp:K->PV} (hk:znq kp) (vp:V->PV) (l:List (K×V)) (k:K):(q7u (kp k) (qbd kp vp l)).isSome=q75 l k:=by
 rw[q5x hk,q75];cases qu3 k l<;>rfl
theorem qio {kp:K->PV} (hk:znq kp) (vp:V->PV) (k:K) (v:V):∀ l:List (K×V),zrs (kp k) (vp v) (qbd kp vp l)=qbd kp vp (qpp k v l)
 | []=>rfl
 | (k',v')::l=>by
  have:=qio hk vp k v l;simp only[qbd,jl,zrs,qpp]at this ⊢;rw[hk k k'];cases k==k' with
  | true=>rfl
  | false=>simpa using this
theorem zpx (kp:K->PV) (vp:V->PV) (l:List (K×V)):(qbd kp vp l).length=l.length:=by simp[qbd]
end
theorem qer:znq PV.str:=fun _ _=>rfl
theorem Codec.getN {A:Type} (C:Codec A) {l:List A} {j:Nat} {x:A} (h:l[j]? =some x):(C.rows l)[j]? =some (C.cells x):=by
 rw[C.hrows]; simp[h]
theorem Codec.setN {A:Type} (C:Codec A) (l:List A) (j:Nat) (y:A):(C.rows l).set j (C.cells y)=C.rows (l.set j y):=by
 rw[C.hrows,C.hrows,List.map_set]
mutual
theorem zsr:∀ p:PV,nle p p
 | .agg l=>by simp only[nle]; exact q4g l
 | .tup l=>by simp only[nle]; exact q4g l
 | .nilsl|.bool _|.int _ _|.str _|.sl _|.nilp|.fn _|.nilfn|.nili|.ifc _ _|.nilmap=>by simp only[nle]
theorem q4g:∀ l:List PV,zj9 l l
 | []=>trivial
 | a::l=>⟨zsr a,q4g l⟩
end
theorem zln {p q:List (List PV)} (h:zaw p q):∀ l,zaw (l++p) (l++q)
 | []=>h
 | a::l=>⟨q4g a,zln h l⟩
theorem zxe {A:Type} (C:Codec A) (x:List A) (y:A) {raw:List PV} (h:zj9 raw (C.cells y)):C.rows x++[raw]=C.rows (x++[y])\/zaw (C.rows x++[raw]) (C.rows (x++[y])):=by
 right
 rw[← C.append x [y]];refine zln ?_ _;rw[C.hrows [y]];exact⟨h,trivial⟩
theorem Codec.lenSet {A:Type} (C:Codec A) (l:List A) (j:Nat) (y:A):(C.rows l).length=(C.rows (l.set j y)).length:=by simp[C.hrows]
end Ax
end
section
open Go
namespace Ax
theorem wk {nb:Nat} {E:Env} {lo:List AObj} {E':Env} {lo':List AObj} (l fresh:List Nat) (h:zm7 nb l fresh=true/\l.length=lo'.length/\zhy lo'.length E'=true/\qww lo'.length lo'=true:=by exact⟨rfl,rfl,rfl,rfl⟩)
  (h1:zpq E (πOf l) fresh E':=by repeat (first|exact trivial|exact .inl rfl|exact rfl|exact List.not_mem_nil|(refine .inr ?_)|(refine⟨?_,?_⟩)|exact List.length_set.symm|decide))
  (h2:zj5 lo (πOf l) fresh 0 lo':=by repeat (first|exact trivial|exact .inl rfl|exact rfl|exact List.not_mem_nil|(refine .inr ?_)|(refine⟨?_,?_⟩)|exact List.length_set.symm|decide)):zcg nb E lo E' lo':=⟨l,fresh,h,h1,h2⟩
theorem qcq {P:Program} {f:FuncId} {args:List FV} {objs:List AObj} {m:Nat} {R:FV->List AObj->Prop} (h:qbq P f args objs m R) (l fresh:List Nat) {args':List FV} {lo:List AObj} {K:FV->List AObj->Prop}
  (hK:∀ r0 objs',R r0 objs'->∃ r lo2,r0.ren (σOf l m lo.length)=r/\zlj l fresh m lo objs'=lo2/\K r lo2)
  (hw:zm7 0 l fresh=true/\l.length=objs.length/\zc8 objs.length args=true/\qww objs.length objs=true/\Nat.ble m objs.length=true/\(List.range m).all (fun i=>!fresh.contains i)=true:=by exact⟨rfl,rfl,rfl,rfl,rfl,rfl⟩)
  (ha:leArgs (πOf l) fresh args' args:=by repeat (first|exact trivial|exact .inl rfl|exact rfl|exact List.not_mem_nil|(refine .inr ?_)|(refine⟨?_,?_⟩)|exact List.length_set.symm|decide))
  (ho:zj5 lo (πOf l) fresh 0 objs:=by repeat (first|exact trivial|exact .inl rfl|exact rfl|exact List.not_mem_nil|(refine .inr ?_)|(refine⟨?_,?_⟩)|exact List.length_set.symm|decide)):qk1 P f args' lo K:=qbq.use h l fresh hw ha ho hK
theorem fin {P:Prop} (h:P:=by repeat (first|exact rfl|exact trivial|refine⟨?_,?_⟩)):P:=h
theorem ifc {R:Type} {c:Bool} {a b:Option R} {r:R} {P Q:Prop} (h:(bif c then a else b)=some r) (f:c=true->a=some r->P) (g:c=false->b=some r->Q):(c=true->P)/\(c=false->Q):=
 ⟨fun hc=>f hc (q10 h hc),fun hc=>g hc (q1z h hc)⟩
theorem sj {A:Type} {a b:A} (h:some a=some b):a=b:=Option.some.inj h
theorem bq {A R:Type} {o:Option A} {k:A->Option R} {r:R} {G:Prop} (h:bnd o k=some r) (f:∀ x,o=some x->k x=some r->G):G:=by
 obtain⟨x,h1,h2⟩:=zr1 h;exact f x h1 h2
end Ax
end
section
namespace W
open Go Ax
inductive qaa where
 | mk (op:Int) (name:List UInt8) (val:Val) (names:List (List UInt8)) (args:List qaa)
mutual
def qaa.cells:qaa->List PV
 | .mk op name ⟨k,b,i,s,l,ks⟩ names args=>[.int .i64 op,.str name,.int .i64 k,.bool b,.int .i64 i,.str s,.sl (Val.rows l),.sl (qak ks),.sl (qak names),.sl (qaa.rows args)]
def qaa.rows:List qaa->List (List PV)
 | []=>[]
 | v::l=>v.cells::qaa.rows l
end
theorem qaa.rows_eq:∀ l:List qaa,qaa.rows l=l.map qaa.cells
 | []=>rfl
 | v::l=>by simp only[qaa.rows,jl]; rw[qaa.rows_eq l]
theorem qaa.width (e:qaa):e.cells.length=10:=by obtain⟨_,_,⟨_,_,_,_,_,_⟩,_,_⟩:=e; rfl
theorem qaa.one (e:qaa):e.cells.all zkb=true:=by obtain⟨_,_,⟨_,_,_,_,_,_⟩,_,_⟩:=e; rfl
def qck:Codec qaa:={ cells:=qaa.cells,rows:=qaa.rows,z:=10,hrows:=fun l=>qaa.rows_eq l,hz:=qaa.width,hone:=qaa.one }
instance:Inhabited qaa:=⟨.mk 0 [] default [] []⟩
structure qae where
 var_:List UInt8
 labels:List (List UInt8)
 keys:List (List UInt8)
 vals:List qaa
def qae.cells:qae->List PV
 | ⟨x1,x2,x3,x4⟩=>[.str x1,.sl (qak x2),.sl (qak x3),.sl (qaa.rows x4)]
def qae.rows (l:List qae):List (List PV):=l.map qae.cells
def qd2:Codec qae:={ cells:=qae.cells,rows:=qae.rows,z:=4,hrows:=fun _=>rfl,hz:=fun⟨x1,x2,x3,x4⟩=>rfl,hone:=fun⟨x1,x2,x3,x4⟩=>rfl }
deriving instance Inhabited for qae
structure qag where
 var_:List UInt8
 type_:List UInt8
 dir:Int
 keys:List (List UInt8)
 vals:List qaa
def qag.cells:qag->List PV
 | ⟨x1,x2,x3,x4,x5⟩=>[.str x1,.str x2,.int .i64 x3,.sl (qak x4),.sl (qaa.rows x5)]
def qag.rows (l:List qag):List (List PV):=l.map qag.cells
def qg1:Codec qag:={ cells:=qag.cells,rows:=qag.rows,z:=5,hrows:=fun _=>rfl,hz:=fun⟨x1,x2,x3,x4,x5⟩=>rfl,hone:=fun⟨x1,x2,x3,x4,x5⟩=>rfl }
deriving instance Inhabited for qag
structure qa9 where
 nodes:List qae
 edges:List qag
def qa9.cells:qa9->List PV
 | ⟨x1,x2⟩=>[.sl (qae.rows x1),.sl (qag.rows x2)]
def qa9.rows (l:List qa9):List (List PV):=l.map qa9.cells
def qlh:Codec qa9:={ cells:=qa9.cells,rows:=qa9.rows,z:=2,hrows:=fun _=>rfl,hz:=fun⟨x1,x2⟩=>rfl,hone:=fun⟨x1,x2⟩=>rfl }
deriving instance Inhabited for qa9
structure qbn where
 e:qaa
 as_:List UInt8
def qbn.cells:qbn->List PV
 | ⟨⟨x1,x2,⟨x3,x4,x5,x6,x7,x8⟩,x9,x10⟩,x11⟩=>[.int .i64 x1,.str x2,.int .i64 x3,.bool x4,.int .i64 x5,.str x6,.sl (Val.rows x7),.sl (qak x8),.sl (qak x9),.sl (qaa.rows x10),.str x11]
def qbn.rows (l:List qbn):List (List PV):=l.map qbn.cells
def qst:Codec qbn:={ cells:=qbn.cells,rows:=qbn.rows,z:=11,hrows:=fun _=>rfl,hz:=fun⟨⟨x1,x2,⟨x3,x4,x5,x6,x7,x8⟩,x9,x10⟩,x11⟩=>rfl,hone:=fun⟨⟨x1,x2,⟨x3,x4,x5,x6,x7,x8⟩,x9,x10⟩,x11⟩=>rfl }
deriving instance Inhabited for qbn
structure qat where
 e:qaa
 down:Bool
def qat.cells:qat->List PV
 | ⟨⟨x1,x2,⟨x3,x4,x5,x6,x7,x8⟩,x9,x10⟩,x11⟩=>[.int .i64 x1,.str x2,.int .i64 x3,.bool x4,.int .i64 x5,.str x6,.sl (Val.rows x7),.sl (qak x8),.sl (qak x9),.sl (qaa.rows x10),.bool x11]
def qat.rows (l:List qat):List (List PV):=l.map qat.cells
def qqf:Codec qat:={ cells:=qat.cells,rows:=qat.rows,z:=11,hrows:=fun _=>rfl,hz:=fun⟨⟨x1,x2,⟨x3,x4,x5,x6,x7,x8⟩,x9,x10⟩,x11⟩=>rfl,hone:=fun⟨⟨x1,x2,⟨x3,x4,x5,x6,x7,x8⟩,x9,x10⟩,x11⟩=>rfl }
deriving instance Inhabited for qat
structure qaf where
 var_:List UInt8
 key:List UInt8
 label:List UInt8
 e:qaa
def qaf.cells:qaf->List PV
 | ⟨x1,x2,x3,⟨x4,x5,⟨x6,x7,x8,x9,x10,x11⟩,x12,x13⟩⟩=>[.str x1,.str x2,.str x3,.int .i64 x4,.str x5,.int .i64 x6,.bool x7,.int .i64 x8,.str x9,.sl (Val.rows x10),.sl (qak x11),.sl (qak x12),.sl (qaa.rows x13)]
def qaf.rows (l:List qaf):List (List PV):=l.map qaf.cells
def qjo:Codec qaf:={ cells:=qaf.cells,rows:=qaf.rows,z:=13,hrows:=fun _=>rfl,hz:=fun⟨x1,x2,x3,⟨x4,x5,⟨x6,x7,x8,x9,x10,x11⟩,x12,x13⟩⟩=>rfl,hone:=fun⟨x1,x2,x3,⟨x4,x5,⟨x6,x7,x8,x9,x10,x11⟩,x12,x13⟩⟩=>rfl }
deriving instance Inhabited for qaf
structure qu6 where
 setItem:qaf
 set_:Bool
def qu6.cells:qu6->List PV
 | ⟨⟨x1,x2,x3,⟨x4,x5,⟨x6,x7,x8,x9,x10,x11⟩,x12,x13⟩⟩,x14⟩=>[.str x1,.str x2,.str x3,.int .i64 x4,.str x5,.int .i64 x6,.bool x7,.int .i64 x8,.str x9,.sl (Val.rows x10),.sl (qak x11),.sl (qak x12),.sl (qaa.rows x13),.bool x14]
def qu6.rows (l:List qu6):List (List PV):=l.map qu6.cells
def zup:Codec qu6:={ cells:=qu6.cells,rows:=qu6.rows,z:=14,hrows:=fun _=>rfl,hz:=fun⟨⟨x1,x2,x3,⟨x4,x5,⟨x6,x7,x8,x9,x10,x11⟩,x12,x13⟩⟩,x14⟩=>rfl,hone:=fun⟨⟨x1,x2,x3,⟨x4,x5,⟨x6,x7,x8,x9,x10,x11⟩,x12,x13⟩⟩,x14⟩=>rfl }
deriving instance Inhabited for qu6
structure q5a where
 keys:List (List UInt8)
 vals:List qaa
def q5a.cells:q5a->List PV
 | ⟨x1,x2⟩=>[.sl (qak x1),.sl (qaa.rows x2)]
def q5a.rows (l:List q5a):List (List PV):=l.map q5a.cells
def zwu:Codec q5a:={ cells:=q5a.cells,rows:=q5a.rows,z:=2,hrows:=fun _=>rfl,hz:=fun⟨x1,x2⟩=>rfl,hone:=fun⟨x1,x2⟩=>rfl }
deriving instance Inhabited for q5a
structure qab where
 kind:Int
 paths:List qa9
 where_:List qaa
 e:qaa
 var_:List UInt8
 items:List qbn
 unique:Bool
 order:List qat
 skip:List qaa
 limit:List qaa
 sets:List qaf
 vars:List (List UInt8)
 detach:Bool
def qab.cells:qab->List PV
 | ⟨x1,x2,x3,⟨x4,x5,⟨x6,x7,x8,x9,x10,x11⟩,x12,x13⟩,x14,x15,x16,x17,x18,x19,x20,x21,x22⟩=>[.int .i64 x1,.sl (qa9.rows x2),.sl (qaa.rows x3),.int .i64 x4,.str x5,.int .i64 x6,.bool x7,.int .i64 x8,.str x9,.sl (Val.rows x10),.sl (qak x11),.sl (qak x12),.sl (qaa.rows x13),.str x14,.sl (qbn.rows x15),.bool x16,.sl (qat.rows x17),.sl (qaa.rows x18),.sl (qaa.rows x19),.sl (qaf.rows x20),.sl (qak x21),.bool x22]
def qab.rows (l:List qab):List (List PV):=l.map qab.cells
def qcz:Codec qab:={ cells:=qab.cells,rows:=qab.rows,z:=22,hrows:=fun _=>rfl,hz:=fun⟨x1,x2,x3,⟨x4,x5,⟨x6,x7,x8,x9,x10,x11⟩,x12,x13⟩,x14,x15,x16,x17,x18,x19,x20,x21,x22⟩=>rfl,hone:=fun⟨x1,x2,x3,⟨x4,x5,⟨x6,x7,x8,x9,x10,x11⟩,x12,x13⟩,x14,x15,x16,x17,x18,x19,x20,x21,x22⟩=>rfl }
deriving instance Inhabited for qab
structure qip where
 clauses:List qab
def qip.cells:qip->List PV
 | ⟨x1⟩=>[.sl (qab.rows x1)]
def qip.rows (l:List qip):List (List PV):=l.map qip.cells
def qy0:Codec qip:={ cells:=qip.cells,rows:=qip.rows,z:=1,hrows:=fun _=>rfl,hz:=fun⟨x1⟩=>rfl,hone:=fun⟨x1⟩=>rfl }
deriving instance Inhabited for qip
structure qap where
 kind:Int
 text:List UInt8
 int:Int
 at_:Int
def qap.cells:qap->List PV
 | ⟨x1,x2,x3,x4⟩=>[.int .i64 x1,.str x2,.int .i64 x3,.int .i64 x4]
def qap.rows (l:List qap):List (List PV):=l.map qap.cells
def qsv:Codec qap:={ cells:=qap.cells,rows:=qap.rows,z:=4,hrows:=fun _=>rfl,hz:=fun⟨x1,x2,x3,x4⟩=>rfl,hone:=fun⟨x1,x2,x3,x4⟩=>rfl }
deriving instance Inhabited for qap
structure qa8 where
 names:List (List UInt8)
 kinds:List Int
def qa8.cells:qa8->List PV
 | ⟨x1,x2⟩=>[.sl (qak x1),.sl (qcs .i64 x2)]
def qa8.rows (l:List qa8):List (List PV):=l.map qa8.cells
def qqd:Codec qa8:={ cells:=qa8.cells,rows:=qa8.rows,z:=2,hrows:=fun _=>rfl,hz:=fun⟨x1,x2⟩=>rfl,hone:=fun⟨x1,x2⟩=>rfl }
deriving instance Inhabited for qa8
structure qvs where
 least:Int
 most:Int
 kind:Int
def qvs.cells:qvs->List PV
 | ⟨x1,x2,x3⟩=>[.int .i64 x1,.int .i64 x2,.int .i64 x3]
def qvs.rows (l:List qvs):List (List PV):=l.map qvs.cells
def zwi:Codec qvs:={ cells:=qvs.cells,rows:=qvs.rows,z:=3,hrows:=fun _=>rfl,hz:=fun⟨x1,x2,x3⟩=>rfl,hone:=fun⟨x1,x2,x3⟩=>rfl }
deriving instance Inhabited for qvs
structure qdj where
 clause:Int
 path:Int
 label:List UInt8
 key:List UInt8
def qdj.cells:qdj->List PV
 | ⟨x1,x2,x3,x4⟩=>[.int .i64 x1,.int .i64 x2,.str x3,.str x4]
def qdj.rows (l:List qdj):List (List PV):=l.map qdj.cells
def qyx:Codec qdj:={ cells:=qdj.cells,rows:=qdj.rows,z:=4,hrows:=fun _=>rfl,hz:=fun⟨x1,x2,x3,x4⟩=>rfl,hone:=fun⟨x1,x2,x3,x4⟩=>rfl }
deriving instance Inhabited for qdj
structure qao where
 kind:Int
 from_:Int
 to:Int
 seeks:List qdj
def qao.cells:qao->List PV
 | ⟨x1,x2,x3,x4⟩=>[.int .i64 x1,.int .i64 x2,.int .i64 x3,.sl (qdj.rows x4)]
def qao.rows (l:List qao):List (List PV):=l.map qao.cells
def qbe:Codec qao:={ cells:=qao.cells,rows:=qao.rows,z:=4,hrows:=fun _=>rfl,hz:=fun⟨x1,x2,x3,x4⟩=>rfl,hone:=fun⟨x1,x2,x3,x4⟩=>rfl }
deriving instance Inhabited for qao
inductive qb4 where
 | path (x:qa9)
 | expr (x:qaa)
 | item (x:qbn)
 | sorted (x:qat)
 | name (x:List UInt8)
 | change (x:qu6)
def qb4.tid:qb4->TypeId
 | .path _=>193
 | .expr _=>196
 | .item _=>199
 | .sorted _=>202
 | .name _=>205
 | .change _=>209
def qb4.val:qb4->PV
 | .path x=>.agg (qa9.cells x)
 | .expr x=>.agg (qaa.cells x)
 | .item x=>.agg (qbn.cells x)
 | .sorted x=>.agg (qat.cells x)
 | .name x=>.str x
 | .change x=>.agg (qu6.cells x)
def qb4.pv (x:qb4):PV:=.ifc x.tid x.val
def qb4.rows (l:List qb4):List (List PV):=l.map fun x=>[x.pv]
def qrx:Codec qb4:={ cells:=fun x=>[x.pv],rows:=qb4.rows,z:=1,hrows:=fun _=>rfl,hz:=fun _=>rfl,hone:=fun _=>rfl }
instance:Inhabited qb4:=⟨.path default⟩
structure qbb where
 word:List UInt8
 parts:List qb4
 least:Int
 most:Int
def qbb.cells:qbb->List PV
 | ⟨x1,x2,x3,x4⟩=>[.str x1,.sl (qb4.rows x2),.int .i64 x3,.int .i64 x4]
def qbb.rows (l:List qbb):List (List PV):=l.map qbb.cells
def qs9:Codec qbb:={ cells:=qbb.cells,rows:=qbb.rows,z:=4,hrows:=fun _=>rfl,hz:=fun⟨x1,x2,x3,x4⟩=>rfl,hone:=fun⟨x1,x2,x3,x4⟩=>rfl }
deriving instance Inhabited for qbb
end W
end
section
open Go Go.Proofs Go.RowKit
namespace Ax
theorem zon {bs:Base} {ρ:List Value} {H:PH} {lo:List AObj} {w w':World} (s:SatW bs ρ H lo w) {e:TypeId} {z n:Nat} {v':Value} {xs:List Value} (hb:Below w.heap.size w w')
  (hown:w'.ownsRow w.heap.size e z v' n xs) (h1:∀ u∈xs,u.oneCell'=true) :
  PH.le H (qik H v' xs)/\w'.ownsRow 0 e z v' n xs/\SatW bs (ρ++[v']) (qik H v' xs) (lo++[.tail e z n]) w':=by
 have hge:∀ b,qcj v'=some b->w.heap.size<=b:=by
  intro b hb;rcases hown.2 with ⟨rfl,_⟩|⟨g,cap,cur,rfl,hg,_⟩
  ·simp[qcj]at hb
  simp[qcj]at hb; omega
 have hno:∀ b o u,qcj v'=some b->H b o=some u->False:=fun b o u hb hu=>by
  have h2:=s.sath.lt hu;have h3:=hge b hb;omega
 have hle:PH.le H (qik H v' xs):=by
  intro b o u hu;unfold qik;rw[if_neg (fun hc=>hno b o u hc.1 hu)]
  exact hu
 have hown0:w'.ownsRow 0 e z v' n xs:=⟨hown.1,hown.2.imp id fun⟨g,cap,cur,a,b,c⟩=>⟨g,cap,cur,a,jT _,c⟩⟩;have hcell:∀ g,qcj v'=some g->∀ o u,xs[o]? =some u->w'.cell? ⟨g,o,none⟩=some u:=by
  intro g hg o u hu;have:=hown0.cells (g:=g) (by
   rcases hown0.2 with ⟨rfl,_⟩|⟨g',cap,cur,rfl,_⟩
   ·simp[qcj]at hg
   simpa[qcj,Value.ownBlock]using hg) o u hu
  rwa [Addr.add_lit,jy]at this
 have hkeep:∀ S,Keep S w w':=fun S=>⟨hb.os,hb.tape,hb.output,hb.size,fun k hk _=>hb.block k hk⟩
 have hsat:SatH (qik H v' xs) w':=by
  refine⟨?_,s.sath.root.mono hle⟩;intro b o u hu;unfold qik at hu;split at hu
  ·rename_i hc
   exact⟨hcell b hc.1 o u hu,h1 u (List.mem_of_getElem? hu)⟩
  obtain⟨hcl,hone⟩:=s.sath.cell b o u hu;refine⟨?_,hone⟩;rw[World.cell?_of_block (w:=w) (a:=⟨b,o,none⟩) (hb.block b (s.sath.lt hu))];exact hcl
 have hok:∀ ρ,qys ρ (qik H v' xs) w' v' (.tail e z n):=by
  intro ρ;refine⟨xs,hown0,fun b hb=>⟨fun j u hu=>?_,fun o ho=>?_⟩⟩
  ·unfold qik
   rw[if_pos ⟨hb,(jH.1 hu).1⟩];exact hu
  unfold qik;rw[if_neg (by rw[hown.1]; omega)];cases hx:H b o with
  | none=>rfl
  | some u=>exact(hno b o u hb hx).elim
 have hnew:∀ b o u,qik H v' xs b o=some u->(∃ u,H b o=some u)\/qcj v'=some b:=by
  intro b o u hu;unfold qik at hu;split at hu
  ·rename_i hc; exact .inr hc.1
  exact .inl ⟨u,hu⟩
 refine⟨hle,hown0,?_⟩;cases hv:qcj v' with
 | none=>
  refine s.push (g:=w.heap.size) (.inr hv) (s.fresh (jx _)) (.inr s.keep.size) hle hsat (fun b o u hu=>?_) (hkeep _) (hok _);rcases hnew b o u hu with h|h
  ·exact .inl h
  rw[hv]at h; cases h
 | some g=>
  refine s.push (g:=g) (.inl hv) (s.fresh (hge g hv)) (.inr (Nat.le_trans s.keep.size (hge g hv))) hle hsat (fun b o u hu=>?_) (hkeep _) (hok _);rcases hnew b o u hu with h|h
  ·exact .inl h
  rw[hv]at h; exact .inr (Option.some.inj h).symm
theorem zug (H:PH):∀ (l:List (List UInt8)),qre H 1 (qak l) (l.map fun s=>Value.string ⟨s.toArray⟩)
 | []=>by simp[qak,qre]
 | b::l=>by
  have:=zug H l;unfold qak at this ⊢;simp only[jl,qre];refine⟨rfl,[.string ⟨b.toArray⟩],l.map fun s=>Value.string ⟨s.toArray⟩,by simp,?_,this⟩
  simp[qdi,qco]
theorem zdk {H:PH} {b z:Nat}:∀ {x:List (List UInt8)} {o:Nat},qs3 H b z o (qak x)->∀ (j:Nat) (l:List UInt8),x[j]? =some l->H b (o+j)=some (.string ⟨l.toArray⟩)
 | [],_,_,j,l,h=>by simp at h
 | y::x,o,r,j,l,h=>by
  simp only[qak,jl,qs3]at r;obtain⟨hz,⟨vs,rl,rc⟩,r2⟩:=r;have hz:z=1:=by simpa using hz.symm
  subst hz;cases j with
  | zero=>
   simp only[jd,Option.some.injEq]at h;subst h;simp only[qdi,qco]at rl;obtain⟨u,vs',rfl,rfl,_⟩:=rl;exact rc 0 _ rfl
  | succ j=>
   have:=zdk (x:=x) r2 j l (by simpa using h);rw[show o+(j+1)=o+1+j from by omega];exact this
theorem zji {P:Program} {f:FuncId} (enter:∀ vs w,(callFunc f vs).run P w=.ok (.enter f vs) w) {e:TypeId}
  (cNil:∀ (n c:Nat) (w:World),Calls P f #[.slice none n c] w fun e' w'=>e'=.returned (.slice none 0 0)/\w'=w)
  (cZero:∀ (a:Addr) (c:Nat) (w:World),Calls P f #[.slice (some a) 0 c] w fun e' w'=>∃ v',e'=.returned v'/\w'.ownsRow w.heap.size e 1 v' 0 []/\v'≠.slice none 0 0/\Below w.heap.size w w')
  (cSome:∀ (b off n c:Nat) (zs:List ByteArray) (w:World),n<=zs.length->n * 16<=140737488355328->(∀ j,j<zs.length->w.cell? ⟨b,off+j,none⟩=some (.string (zs.getD j ByteArray.empty))) ->
   Calls P f #[.slice (some ⟨b,off,none⟩) n c] w fun e' w'=>∃ v',e'=.returned v'/\w'.ownsRow w.heap.size e 1 v' n ((zs.take n).map Value.string)/\v'≠.slice none 0 0/\Below w.heap.size w w')
  (x:List (List UInt8)) (hbig:(qak x).length * 16<=140737488355328):qbq P f [.p (.sl (qak x))] [] 0 (fun v lo=>v=.tsl 0 (qak x)/\lo=[.tail e 1 (qak x).length]):=by
 intro bs ρ H w vs hr0 s rl;have hlo:ρ=[]:=jJ s.hlen;subst hlo;obtain⟨v,vs',rfl,rv,hvs⟩:=rl;obtain rfl:vs'=[]:=hvs;have rv:qco H (.sl (qak x)) v:=rv;rw[enter];refine⟨rfl,?_⟩;have hl:(qak x).length=x.length:=by simp[qak]
 have base:Calls P f [v].toArray w fun e' w'=>∃ v',e'=.returned v'/\w'.ownsRow w.heap.size e 1 v' x.length (x.map fun s=>Value.string ⟨s.toArray⟩)/\Below w.heap.size w w':=by
  simp only[qco]at rv;rcases rv with ⟨h0,rfl|⟨a,cap,rfl⟩⟩|⟨b,o,z,cap,rfl,hcap,rr⟩
  ·have hx:x=[]:=by cases x with|nil=>rfl|cons _ _=>cases h0
   subst hx;refine(cNil 0 0 w).mono fun e' w' p=>?_;obtain⟨rfl,rfl⟩:=p;exact⟨_,rfl,⟨by simp,.inl ⟨rfl,rfl⟩⟩,Below.refl _ _⟩
  ·have hx:x=[]:=by cases x with|nil=>rfl|cons _ _=>cases h0
   subst hx;refine(cZero a cap w).mono fun e' w' p=>?_;obtain⟨v',rfl,ho,_,hb⟩:=p;exact⟨_,rfl,ho,hb⟩
  rw[hl]at hbig ⊢;refine(cSome b o x.length cap (x.map fun s=>⟨s.toArray⟩) w (by simp) hbig fun j hj=>?_).mono fun e' w' p=>?_
  ·simp only[jm]at hj
   have h2:=zdk rr j _ (jf hj);rw[(s.sath.cell _ _ _ h2).1];simp[List.getD,jf hj]
  obtain⟨v',rfl,ho,_,hb⟩:=p;refine⟨_,rfl,?_,hb⟩;rw[List.take_of_length_le (by simp),List.map_map]at ho;exact ho
 refine base.mono fun e' w' p=>?_;obtain⟨v',rfl,ho,hb⟩:=p;obtain⟨hle,ho0,hs⟩:=zon s hb ho (fun u hu=>by obtain⟨_,_,rfl⟩:=List.mem_map.1 hu; rfl)
 refine⟨v',.tsl 0 (qak x),[.tail e 1 (qak x).length],[v'],_,rfl,⟨rfl,rfl⟩,hle,by rw[hl]; exact hs,rfl,qru (zug H x) hle (by rw[hl]; exact ho0)⟩
end Ax
end
section
open Go Go.Proofs Ax
namespace W
theorem mixed:Tryz.prog.follows .mixedOrders=true:=by kernel_rfl
def qmn (_:Nat) (s sub:List UInt8):Option Bool:=chk (decide (s.length<4294967281)) (some (Lib.contains s sub))
set_option maxRecDepth 100000 in
theorem qzp (n:Nat):∀ (s sub:List UInt8) (r:Bool),qmn n s sub=some r->qai Tryz.prog 145 [.str s,.str sub] (.bool r):=by
 intro s sub r h;obtain⟨hs,h⟩:=qah h;obtain rfl:=Option.some.inj h;intro H w vs hsat hr;obtain⟨m,hm⟩:=hsat.root;have c:=Tryz.strings_Contains ⟨s.toArray⟩ ⟨sub.toArray⟩ m w (by rw[ByteArray.size_mk_toArray]; exact kod hs) (hsat.cell _ _ _ hm).1;have e:vs=[.string ⟨s.toArray⟩,.string ⟨sub.toArray⟩]:=by
  simp only[qdi,qco]at hr;obtain⟨_,_,rfl,rfl,_,_,rfl,rfl,rfl⟩:=hr;rfl
 subst e;rw[Tryz.call145];refine⟨rfl,c.mono fun e w' p=>?_⟩;obtain⟨p,rfl⟩:=p;exact⟨_,H,p,Calm.refl hsat,by simp[qco]⟩
theorem zk5:∀ (args:Array Value) (w:World),(callFunc 36 args).run Tryz.prog w=.ok (.enter 36 args) w:=fun _ _=>Tryz.call36 _ _
theorem q13 (b:Nat) (l:List UInt8) (w:World) (p v:Value) (hbk:w.heap[b]? =some (.cells #[p,v] 88 (0,0))) (hown:w.ownsRow 0 5 1 v l.length (Lib.byteCells l)) (h0:l≠[]) :
  Calls Tryz.prog 36 #[.pointer (some ⟨b,0,none⟩)] w (q9t l v w):=Any.String_exact Tryz.lays169 Tryz.Builder_Extra_169 b l w p v hbk hown h0
theorem q12:q9u Tryz.prog 36 88 5:=fun b w p v hbk hown=>Any.String_empty Tryz.lays169 Tryz.Builder_Extra_169 b w p v hbk hown
set_option maxRecDepth 100000 in
theorem zry (x:List (List UInt8)) (hbig:(qak x).length * 16<=140737488355328):qbq Tryz.prog 52 [.p (.sl (qak x))] [] 0 (fun v lo=>v=.tsl 0 (qak x)/\lo=[.tail 9 1 (qak x).length]):=
 zji (fun _ _=>Tryz.call52 _ _) Tryz.slices_Clone_string_nil Tryz.slices_Clone_string_zero (fun b o n c zs w h1 h2 h3=>Tryz.slices_Clone_string b o n c zs w h1 h2 h3) x hbig
end W
end
section
open Go Go.Proofs Ax
namespace W
abbrev SS:=List UInt8
abbrev pI (x:Int):FV:=.p (.int .i64 x)
abbrev pS (x:List UInt8):FV:=.p (.str x)
abbrev pB (x:Bool):FV:=.p (.bool x)
abbrev pT (x:List (List UInt8)):FV:=.p (.sl (qak x))
abbrev pE (x:List qaa):FV:=.p (.sl (qaa.rows x))
abbrev pV (x:List Val):FV:=.p (.sl (Val.rows x))
abbrev pO (x:List qat):FV:=.p (.sl (qat.rows x))
abbrev pA (x:List qbn):FV:=.p (.sl (qbn.rows x))
abbrev pU (x:List qaf):FV:=.p (.sl (qaf.rows x))
abbrev pP (x:List qa9):FV:=.p (.sl (qa9.rows x))
abbrev pN (x:List qae):FV:=.p (.sl (qae.rows x))
abbrev pG (x:List qag):FV:=.p (.sl (qag.rows x))
abbrev pC (x:List qab):FV:=.p (.sl (qab.rows x))
abbrev pK (x:List qap):FV:=.p (.sl (qap.rows x))
abbrev pX (x:List qdj):FV:=.p (.sl (qdj.rows x))
abbrev pY (x:List qao):FV:=.p (.sl (qao.rows x))
theorem zle {m n:Nat} (h:Nat.ble m n=true):m<=n:=jh h
abbrev LK (T R:Type):Type:=(T->Option R)->T->Option R
noncomputable abbrev TP:Program:=Tryz.prog
set_option maxRecDepth 100000 in
theorem zN {f:FuncId} {fn:Func} {args:List PV} {r:PV} (he:Ax.Enters Tryz.prog f) (hf:Tryz.prog.funcs[f]? =some fn) (inl:List Nat) (h:zxd Tryz.prog inl fn args (fun v=>nle v r)) (hok:zok inl fn args.length=true:=by kernel_rfl):qai Tryz.prog f args r:=qai.of_vcN mixed he hf hok h
set_option maxRecDepth 100000 in
theorem zI {f:FuncId} {fn:Func} {args:List FV} {lo:List AObj} {R:FV->List AObj->Prop} (he:Ax.Enters Tryz.prog f) (hf:Tryz.prog.funcs[f]? =some fn) (inl:List Nat) (h:vcI Tryz.prog inl fn args lo R) (hok:zok inl fn args.length=true:=by kernel_rfl):qk1 Tryz.prog f args lo R:=qk1.of_vc mixed he hf hok h
set_option maxRecDepth 100000 in
theorem zO {f:FuncId} {fn:Func} {args:List FV} {objs:List AObj} {m:Nat} {R:FV->List AObj->Prop} (he:Ax.Enters Tryz.prog f) (hf:Tryz.prog.funcs[f]? =some fn) (inl:List Nat) (h:vcO Tryz.prog inl fn args objs m R) (hok:zok inl fn args.length=true:=by kernel_rfl) (hml:m<=objs.length:=by exact zle rfl):qbq Tryz.prog f args objs m R:=qbq.of_vc mixed he hf hok hml h
abbrev zq0:FV:=.p (.int .i64 (0:Int))
abbrev zq1:FV:=.p (.str ([]:SS))
abbrev zq2:FV:=.p (.nilsl)
abbrev zq3:AObj:=.box 51 [zq0,zq2,zq2,zq0,zq1,zq0,pB false,zq0,zq1,zq2,zq2,zq2,zq2,zq1,zq2,pB false,zq2,zq2,zq2,zq2,zq2,pB false]
abbrev zq4:AObj:=.box 46 [zq0,zq1,zq0,pB false,zq0,zq1,zq2,zq2,zq2,zq2]
abbrev zq5:List (SS×Int):=(qpp ([62,61]:SS) (5:Int) (qpp ([62]:SS) (5:Int) (qpp ([60,61]:SS) (5:Int) (qpp ([60]:SS) (5:Int) (qpp ([60,62]:SS) (5:Int) (qpp ([61]:SS) (5:Int) (qpp ([65,78,68]:SS) (3:Int) (qpp ([88,79,82]:SS) (2:Int) (qpp ([79,82]:SS) (1:Int) ([]:List (SS×Int)))))))))))
abbrev zq6:List (SS×Int):=(qpp ([47]:SS) (7:Int) (qpp ([42]:SS) (7:Int) (qpp ([45]:SS) (6:Int) (qpp ([43]:SS) (6:Int) (qpp ([73,78]:SS) (5:Int) zq5)))))
abbrev zq7:List (SS×Int):=(qpp ([65,78,68]:SS) (3:Int) (qpp ([88,79,82]:SS) (2:Int) (qpp ([79,82]:SS) (1:Int) ([]:List (SS×Int)))))
abbrev zq8:AObj:=.box 59 [zq2,zq2]
abbrev zq9:AObj:=.box 99 [zq2,zq2]
abbrev zrx:AObj:=.box 55 [zq1,zq2,zq2,zq2]
abbrev zuk:AObj:=.box 68 [zq1,zq1,zq0,zq2,zq2]
abbrev zxq:List (SS×Int):=(qpp ([60,62]:SS) (5:Int) (qpp ([61]:SS) (5:Int) zq7))
abbrev zyg:AObj:=.box 51 [.p (.int .i64 (8:Int)),zq2,zq2,zq0,zq1,zq0,pB false,zq0,zq1,zq2,zq2,zq2,zq2,zq1,zq2,pB false,zq2,zq2,zq2,zq2,zq2,pB false]
abbrev zx5:List (SS×Int):=(qpp ([43]:SS) (6:Int) (qpp ([73,78]:SS) (5:Int) zq5))
end W
end
