/- A part of the proof: the abstract execution. -/
import Derived.ChangeArms
import Derived.DataElems
import Derived.DataReads
import Derived.Carry
import Derived.ChangeSame
import Derived.ProofKit
import Derived.WalkKit
import Derived.OpenShut
import Derived.Test.YtmblnmgpmdapnaaGreatB
set_option linter.unusedVariables false
set_option linter.unusedSimpArgs false
set_option linter.unnecessarySimpa false
set_option linter.deprecated false
set_option linter.unusedSectionVars false
set_option linter.constructorNameAsVariable false
open Go.IntKind renaming wrap->kwr,bits->kbt
open Nat renaming exists_eq_succ_of_ne_zero->jk
open List renaming getElem?_eq_some_iff->jH
section
namespace Ax
open Go
def q5o (w:World):PH:=fun b o=>(w.cell? ⟨b,o,none⟩).bind fun v=>bif v.oneCell' then some v else none
theorem qzz {w:World} (h:∃ m,w.cell? ⟨0,0,none⟩=some (.int .i64 m)):SatH (q5o w) w where
 cell:=fun b o v hv=>by
  unfold q5o at hv;obtain⟨u,hu,h1⟩:=Option.bind_eq_some_iff.1 hv;cases hc:u.oneCell' with
  | false=>rw[hc]at h1; cases h1
  | true=>rw[hc]at h1; cases h1; exact⟨hu,hc⟩
 root:=by
  obtain⟨m,hm⟩:=h;exact⟨m,by simp[q5o,hm,Value.oneCell']⟩
theorem zsc {w:World} {a:Addr} {v:Value} (h:w.cell? a=some v) (h1:v.oneCell'=true):q5o w a.block a.off=some v:=by
 have hs:a.spot=none:=by
  unfold World.cell? at h;split at h
  ·cases hsp:a.spot with
   | none=>rfl
   | some s=>rw[hsp]at h; simp at h
  ·cases h
 have:(⟨a.block,a.off,none⟩:Addr)=a:=by cases a; simp only at hs; subst hs; rfl
 unfold q5o;rw[this,h];simp[h1]
theorem zg2 {w:World} {base:Nat} {a:Addr} {n:Nat} {cs:List Value} (h:w.cells? base a n=some cs):cs.length=n/\∀ j,j<n->w.cell? (a.add j)=cs[j]?:=by
 unfold World.cells? at h;split at h
 ·exact⟨by simpa using mapM_some_length h,fun j hj=>mapM_some_get h j j (by simp[hj])⟩
 cases h
section
variable {Hd:Type} {enc:TypeId×Value->Hd} {P:Program} {w:World}
def qeq {α:Type} (enc:TypeId×Value->Hd) (P:Program) (w:World) (t:TypeId) (n:Nat) (row:α->List PV) (sz:α->Nat) (bulk:DataW Hd->Nat):Prop:=
 ∀ (cs:List Value) (x:DataW Hd×List MemPlace),DataW.trod enc P w 0 (fun _=>true) true n t cs=some x->∃ v:α,qdi (q5o w) (row v) cs/\(∀ u∈cs,u.oneCell'=true)/\sz v<=bulk x.1
theorem zw4 {α:Type} {H:PH} {b z:Nat} {row:α->List PV}:∀ (l:List α) (o:Nat) (csOf:Nat->List Value),(∀ v∈l,(row v).length=z) ->
  (∀ i v,l[i]? =some v->qdi H (row v) (csOf i)/\∀ j u,(csOf i)[j]? =some u->H b (o+i * z+j)=some u)->qs3 H b z o (l.map row)
 | [],_,_,_,_=>trivial
 | v::l,o,csOf,hz,h=>by
  simp only[List.map_cons,qs3];refine⟨hz v (by simp),⟨csOf 0,(h 0 v rfl).1,fun j u hu=>by have:=(h 0 v rfl).2 j u hu; simpa using this⟩,?_⟩
  refine zw4 l (o+z) (fun i=>csOf (i+1)) (fun v hv=>hz v (by simp[hv])) fun i v' hv'=>?_
  obtain⟨h1,h2⟩:=h (i+1) v' (by simpa using hv');refine⟨h1,fun j u hu=>?_⟩;have:=h2 j u hu;rw[Nat.add_mul,Nat.one_mul]at this;have e:o+(i * z+z)+j=o+z+i * z+j:=by omega
  rw[← e]; exact this
theorem zdf {α:Type} [Inhabited α] {t e:TypeId} {z fuel:Nat} {row:α->List PV} {sz:α->Nat} {bulk:DataW Hd->Nat} (ht:P.underlying t=some (.slice e)) (hz:P.cellsOf e=z) (hz1:1<=z)
  (hrow:∀ v,(row v).length=z) (hel:∀ n,n<fuel->qeq enc P w e n row sz bulk) {cs:List Value} {x:DataW Hd×List MemPlace} (h:DataW.trod enc P w 0 (fun _=>true) true fuel t cs=some x) :
  ∃ (l:List α) (v:Value),cs=[v]/\v.oneCell'=true/\qco (q5o w) (.sl (l.map row)) v /\
   ((x.1=.nil/\l=[])\/∃ elems rest,x.1=.slice elems rest/\l.length=elems.length/\∀ (i:Nat) (d:DataW Hd) (v:α),elems[i]? =some d->l[i]? =some v->sz v<=bulk d):=by
 rcases DataW.trod_slice ht h with ⟨rfl,rfl⟩|⟨a,len,cap,elems,rest,n,rfl,rfl,rfl,_,hlc,_,hlen,hget,_,_⟩
 ·exact⟨[],_,rfl,rfl,by simp[qco],.inl ⟨rfl,rfl⟩⟩
 have hx:∀ i,i<len->∃ (v:α) (cs:List Value) (d:DataW Hd×List MemPlace),elems[i]? =some d/\qdi (q5o w) (row v) cs/\(∀ j u,cs[j]? =some u->q5o w a.block (a.off+i * z+j)=some u)/\sz v<=bulk d.1:=by
  intro i hi;have h1:=hget i hi;obtain⟨d,hd⟩:∃ d,elems[i]? =some d:=⟨_,List.getElem?_eq_getElem (by omega)⟩;rw[hd]at h1;obtain⟨cs,hcs,htr⟩:=Option.bind_eq_some_iff.1 h1;obtain⟨v,r,hone,hs⟩:=hel n (Nat.lt_succ_self n) cs d htr;refine⟨v,cs,d,hd,r,fun j u hu=>?_,hs⟩;obtain⟨hl,hc⟩:=zg2 hcs;have hj:j<P.cellsOf e:=by have:=(jH.1 hu).1; omega
  have h2:=hc j hj;rw[hu,Addr.add_add]at h2;have:=zsc h2 (hone u (List.mem_of_getElem? hu));rw[hz]at this;have eb:(a.add (i * z+j)).block=a.block:=by unfold Addr.add; split<;>rfl
  have eo:(a.add (i * z+j)).off=a.off+i * z+j:=by unfold Addr.add; split<;>(try simp only)<;>omega
  rw[eb,eo]at this;exact this
 have spot:len≠0->a.spot=none:=by
  intro h0;have h1:=hget 0 (by omega);obtain⟨d,hd⟩:∃ d,elems[0]? =some d:=⟨_,List.getElem?_eq_getElem (by omega)⟩;rw[hd]at h1;obtain⟨cs,hcs,_⟩:=Option.bind_eq_some_iff.1 h1;obtain⟨hl,hc⟩:=zg2 hcs;have h2:=hc 0 (by omega);rw[Nat.zero_mul,Addr.add_zero',Addr.add_zero']at h2;cases hu:cs[0]? with
  | none=>have:=List.getElem?_eq_none_iff.1 hu; omega
  | some u=>
   rw[hu]at h2;unfold World.cell? at h2;split at h2
   ·cases hsp:a.spot with
    | none=>rfl
    | some s=>rw[hsp]at h2; simp at h2
   ·cases h2
 let f:Nat->α:=fun i=>if h:i<len then(hx i h).choose else default
 have hf:∀ i,i<len->∃ (cs:List Value) (d:DataW Hd×List MemPlace),elems[i]? =some d/\qdi (q5o w) (row (f i)) cs/\(∀ j u,cs[j]? =some u->q5o w a.block (a.off+i * z+j)=some u)/\sz (f i)<=bulk d.1:=by
  intro i hi;have:=(hx i hi).choose_spec;simp only[f,hi,dif_pos];exact this
 refine⟨(List.range len).map f,_,rfl,rfl,?_,.inr ⟨_,_,rfl,by simp[hlen],fun i d v hd hv=>?_⟩⟩
 ·simp only[qco,List.length_map,List.length_range]
  by_cases h0:len=0
  ·subst h0
   exact .inl ⟨rfl,.inr ⟨_,_,rfl⟩⟩
  refine .inr ⟨a.block,a.off,z,cap,?_,hlc,?_⟩
  ·have:=spot h0
   cases a;simp only at this;subst this;rfl
  refine zw4 ((List.range len).map f) a.off (fun i=>if h:i<len then(hf i h).choose else[]) (fun v _=>hrow v) fun i v hv=>?_
  simp only[List.getElem?_map,Option.map_eq_some_iff]at hv;obtain⟨i',hi',rfl⟩:=hv;obtain⟨hlt,e⟩:=jH.1 hi';simp at hlt e;subst e;obtain⟨d,hd,hr,hc,_⟩:=(hf i hlt).choose_spec;simp only[hlt,dif_pos];exact⟨hr,hc⟩
 simp only[List.getElem?_map,Option.map_eq_some_iff]at hv hd;obtain⟨i',hi',rfl⟩:=hv;obtain⟨hlt,e⟩:=jH.1 hi';simp at hlt e;subst e;obtain⟨d',hd',rfl⟩:=hd;obtain⟨_,d2,hd2,_,_,hs⟩:=hf i hlt;rw[hd']at hd2;cases hd2;exact hs
end
end Ax
end
section
namespace Ax
open Go Go.RowKit Go.ChangeShapes Go.WideShapes Go.ChangeAt
section
variable {H:Type} {enc:TypeId×Value->H} {P:Program}
theorem q4q (hl:laidOutB P=true) {W W':World} {sp:Nat->Bool} (hb:Below W.heap.size W W'):∀ {ts:List TypeId} {vs:List Value} {ds:List (DataW H)} {ps:List MemPlace},
  (ts.all fun t=>P.readableRec t&&decide (t<P.types.size))=true->DataW.TrodAll enc P W 0 (fun _=>true) true ts vs ds ps->(∀ p∈ps,p.block<W.heap.size)->(∀ p∈ps,sp p.block=true) ->
  DataW.TrodAll enc P W' 0 sp true ts vs ds ps
 | [],_,_,_,_,h,_,_=>by
  obtain⟨rfl,rfl,rfl⟩:=trodAll_nil h;exact trodAll_mk0
 | t::ts,_,_,_,hr,h,hlt,hs=>by
  obtain⟨v,vs1,d,ds1,a,b,rfl,rfl,rfl,h1,h2⟩:=trodAll_cons h;simp only[List.all_cons,Bool.and_eq_true,kde]at hr;exact⟨a,b,WideElems.Trod_stays hl hr.1.1 hr.1.2 h1 (fun x hx=>hb.same (hlt x (List.mem_append_left _ hx))) (fun x hx=>hs x (List.mem_append_left _ hx)),
   q4q hl hb hr.2 h2 (fun x hx=>hlt x (List.mem_append_right _ hx)) (fun x hx=>hs x (List.mem_append_right _ hx)),rfl⟩
theorem q4h {f:Func} {s:ChangeSpec} {apart fresh handsOn again:Bool} {W W':World} {args:Array Value} {ds gs:List (DataW H)} {before:List MemPlace} {tb:TypeId} (hl:laidOutB P=true)
  (hr:(f.params.toList.all fun t=>P.readableRec t&&decide (t<P.types.size))=true) (hW:DataW.Whole enc P f.params.toList s.vars apart W args.toList ds gs before) (hb:Below W.heap.size W W') (hvars:s.vars=[])
  (hfn:s.fn H (ds++gs)={ results:=[.lit (.bool true)],args:=ds }) (hrt:f.resultTypes = #[tb]) (hbool:P.underlying tb=some .bool):s.post enc P f apart fresh handsOn again W args (.bool true) W':=by
 have hlt:∀ p∈before,p.block<W.heap.size:=fun p hp=>by simpa using hW.lt p hp
 have hold:∀ p∈before,(fun b=>decide (b<W.heap.size)) p.block=true:=fun p hp=>by simpa using hW.lt p hp
 have hW':=hW;obtain⟨p,q,hA,hV,rfl,hz,hn⟩:=hW';have hq:q=[]/\gs=[]:=by
  rw[hvars]at hV;obtain⟨h1,h2⟩:=trodVars_none hV;exact⟨by first|exact h2|exact h1,by first|exact h1|exact h2⟩
 obtain⟨rfl,rfl⟩:=hq;simp only[List.append_nil]at *;have hargs:∀ sp:Nat->Bool,(∀ x∈p,sp x.block=true)->DataW.TrodAll enc P W' 0 sp true f.params.toList args.toList ds p:=fun sp hs=>q4q hl hb hr hA hlt hs
 have hres:∀ (b:Nat) (sp:Nat->Bool) (hd:Bool),DataW.TrodAll enc P W' b sp hd f.resultTypes.toList ((Value.bool true).resultList f.resultTypes.size) (s.fn H ds).results []:=by
  intro b sp hd;rw[hrt,hfn];exact trodAll_cons_mk (shut_bool hbool _) trodAll_mk0
 have hvs:∀ sp:Nat->Bool,DataW.TrodVars enc P W' sp s.vars (s.fn H ds).vars []:=by
  intro sp;rw[hvars,hfn];rfl
 refine⟨ds,[],p,[],p,[],hW,?_,?_,?_,World.keptBut_mono (fun x hx=>⟨hx,Or.inr (Or.inl hx)⟩) (hb.frame _),fun _=>?_⟩
 ·simpa using hres _ _ _
 ·simp only[List.append_nil]; rw[hfn]; exact hargs _ hold
 ·simpa using hvs _
 refine⟨?_,_,_,([]++p)++[],⟨[]++p,[],trodAll_append (hargs _ (fun _ _=>rfl)) (hres _ _ _),hvs _,rfl,?_,?_⟩,?_⟩
 ·exact ok_one hrt rfl (okWide_bool_mk hbool _)
 ·intro b off hp
  have hp':MemPlace.cell b off∈p:=by simpa using hp
  rw[hb.frozen (p:=⟨b,off,none⟩) (hlt _ hp')];exact hz b off hp'
 ·intro ha
  simpa using hn ha
 intro x hx _;simpa using hx
end
end Ax
end
section
namespace Ax
open Go Go.RowKit
theorem qai.calls {P:Program} {f:FuncId} {args:List PV} {r:PV} (h:qai P f args r) (he:Enters P f) {H:PH} {w:World} {vs:List Value} (hs:SatH H w) (rl:qdi H args vs) :
  Calls P f vs.toArray w fun e w'=>∃ v H',e=.returned v/\Calm H w H' w'/\qco H' r v:=by
 have:=h H w vs hs rl;rw[he]at this;exact this.2
theorem Calm.below {H H':PH} {w w':World} (c:Calm H w H' w'):Below w.heap.size w w':=
 ⟨c.keep.os,c.keep.tape,c.keep.output,c.keep.size,fun k hk=>c.keep.block k hk id⟩
end Ax
end
section
open Go Ax
namespace W
abbrev lim:Nat:=1073741824
section
variable {A R S T:Type}
@[simp] theorem qad (a:A) (k:A->Option R):bnd (some a) k=k a:=rfl
@[simp] theorem zyh (k:Option R):chk true k=k:=rfl
theorem qa0 {b:Bool} {k:Option R} (h:b=true):chk b k=k:=by subst h; rfl
theorem q5k {p:Prop} [Decidable p] {k:Option R} (h:p):chk (decide p) k=k:=qa0 (kdt h)
@[simp] theorem qc3 [Inhabited A] (o:Option A):qaw true o=o:=rfl
@[simp] theorem zff [Inhabited A] (o:Option A):qaw false o=some default:=rfl
theorem qa1 (B:(S->Option R)->S->Option R) (n:Nat) (s:S):qam B (n+1) s=B (qam B n) s:=rfl
theorem qaj {l:List A} {i:Nat} {x:A} (h:l[i]? =some x):idx l (i:Int)=some x:=by
 unfold idx;rw[if_pos (Int.natCast_nonneg i)];simpa using h
@[simp] theorem qr8 (x:A) (l:List A):idx (x::l) (0:Int)=some x:=rfl
@[simp] theorem zjo (x y:A) (l:List A):idx (x::y::l) (1:Int)=some y:=rfl
@[simp] theorem qkb (n:Nat):qwb (n:Int)=some n:=by
 unfold qwb;rw[if_pos (Int.natCast_nonneg n)];simp
theorem qb7 {k:Nat} (h:k<=1152921504606846976):kwr .i64 ((k:Int)+1)=((k+1:Nat):Int):=by
 rw[q59 _ (by omega) (by omega)]; omega
theorem qw3 {i:Int} (h0:-1152921504606846976<=i) (h1:i<=1152921504606846976):kwr .i64 i=i:=q59 _ (by omega) (by omega)
theorem qj4 {B:(S->Option R)->S->Option R} (st:Nat->S) (m:Nat) {r:Option R} (hs:∀ k,k<m->∀ nx,B nx (st k)=nx (st (k+1))) (he:∀ nx,B nx (st m)=r) {n:Nat} (hn:m<n):qam B n (st 0)=r:=by
 have key:∀ (d k n:Nat),k+d=m->d<n->qam B n (st k)=r:=by
  intro d
  induction d with
  | zero=>
   intro k n hk hn;obtain⟨n,rfl⟩:=jk (by omega:n≠0);have:k=m:=by omega
   subst this;exact he _
  | succ d ih=>
   intro k n hk hn;obtain⟨n,rfl⟩:=jk (by omega:n≠0);rw[qa1,hs k (by omega)];exact ih (k+1) n (by omega) (by omega)
 exact key m 0 n (by omega) hn
def orE (o k:Option R):Option R:=match o with|some r=>some r|none=>k
def zp5 (o:R ⊕ T) (k:T->Option R):Option R:=match o with|.inl r=>some r|.inr t=>k t
@[simp] theorem zxn (r:R) (k:Option R):orE (some r) k=some r:=rfl
@[simp] theorem zxm (k:Option R):orE none k=k:=rfl
@[simp] theorem zyc (r:R) (k:T->Option R):zp5 (.inl r) k=some r:=rfl
@[simp] theorem zp6 (t:T) (k:T->Option R):zp5 (.inr t) k=k t:=rfl
def qfs (f:T->A->R ⊕ T):T->List A->R ⊕ T
 | t,[]=>.inr t
 | t,x::l=>match f t x with
  | .inl r=>.inl r
  | .inr t'=>qfs f t' l
theorem qni {B:(S->Option R)->S->Option R} (mk:Nat->T->S) (I:Nat->T->Prop) {l:List A} (f:T->A->R ⊕ T) {rest:T->Option R}
  (hs:∀ (k:Nat) (x:A) (t:T) (nx:S->Option R),l[k]? =some x->I k t->B nx (mk k t)=zp5 (f t x) fun t'=>nx (mk (k+1) t'))
  (hI:∀ (k:Nat) (x:A) (t t':T),l[k]? =some x->I k t->f t x=.inr t'->I (k+1) t')
  (he:∀ (t:T) (nx:S->Option R),I l.length t->B nx (mk l.length t)=rest t) {n:Nat} (hn:l.length<n) {t0:T} (h0:I 0 t0) :
  qam B n (mk 0 t0)=zp5 (qfs f t0 l) rest:=by
 have key:∀ (suf:List A) (k n:Nat) (t:T),(∀ j,suf[j]? =l[k+j]?)->k+suf.length=l.length->suf.length<n->I k t->qam B n (mk k t)=zp5 (qfs f t suf) rest:=by
  intro suf
  induction suf with
  | nil=>
   intro k n t hsuf hk hn hi;obtain⟨n,rfl⟩:=jk (by omega:n≠0);have:k=l.length:=by simpa using hk
   subst this;rw[qa1,he t _ hi];rfl
  | cons x suf ih=>
   intro k n t hsuf hk hn hi;obtain⟨n,rfl⟩:=jk (by omega:n≠0);have hx:l[k]? =some x:=by have:=hsuf 0; simpa using this.symm
   rw[qa1,hs k x t _ hx hi];simp only[qfs];cases hf:f t x with
   | inl r=>rfl
   | inr t'=>
    simp only[zp6];refine ih (k+1) n t' (fun j=>?_) (by simp at hk; omega) (by simp at hn; omega) (hI k x t t' hx hi hf);have:=hsuf (j+1);rw[show k+1+j=k+(j+1) by omega];simpa using this
 exact key l 0 n t0 (fun j=>by simp) (by simp) hn h0
def qe4 (f:A->Option R):List A->Option R
 | []=>none
 | x::l=>match f x with
  | some r=>some r
  | none=>qe4 f l
theorem qc4 {B:(S->Option R)->S->Option R} (mk:Nat->S) {l:List A} (f:A->Option R) {rest:Option R}
  (hs:∀ (k:Nat) (x:A) (nx:S->Option R),l[k]? =some x->B nx (mk k)=orE (f x) (nx (mk (k+1))))
  (he:∀ (nx:S->Option R),B nx (mk l.length)=rest) {n:Nat} (hn:l.length<n) :
  qam B n (mk 0)=orE (qe4 f l) rest:=by
 have h:=qni (B:=B) (fun k (_:Unit)=>mk k) (fun _ _=>True) (l:=l) (fun _ x=>match f x with|some r=>.inl r|none=>.inr ()) (rest:=fun _=>rest)
  (fun k x _ nx hx _=>by rw[hs k x nx hx]; cases f x<;>rfl) (fun _ _ _ _ _ _ _=>trivial) (fun _ nx _=>he nx) hn (t0:=()) trivial
 rw[h];have key:∀ l:List A,qfs (T:=Unit) (fun _ x=>match f x with|some r=>.inl r|none=>.inr ()) () l=(match qe4 f l with|some r=>.inl r|none=>.inr ()):=by
  intro l
  induction l with
  | nil=>rfl
  | cons x l ih=>
   simp only[qfs,qe4];cases f x with
   | some r=>rfl
   | none=>exact ih
 rw[key];cases qe4 f l<;>rfl
end
theorem qbl {A:Type} {l:List A} {k:Nat} {x:A} (h:l[k]? =some x):k<l.length:=(jH.1 h).1
theorem qbf {A:Type} {l:List A} {k:Nat} {x:A} (h:l[k]? =some x):x∈l:=List.mem_of_getElem? h
@[simp] theorem qay (l:List (List UInt8)):(qak l).length=l.length:=by simp[qak]
@[simp] theorem zuw (k:IntKind) (l:List Int):(qcs k l).length=l.length:=by simp[qcs]
@[simp] theorem zgy (l:List UInt8):(qau l).length=l.length:=by simp[qau]
@[simp] theorem qfu (l:List Val):(Val.rows l).length=l.length:=by rw[rows_eq]; simp
theorem qa5 {k m:Nat} (h:k<m):decide ((k:Int)<(m:Int))=true:=kdt (by omega)
theorem qar {m:Nat}:decide ((m:Int)<(m:Int))=false:=kdf (by omega)
end W
end
