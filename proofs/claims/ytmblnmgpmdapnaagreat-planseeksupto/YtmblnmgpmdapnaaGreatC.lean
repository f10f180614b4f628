/- A part of the proof: the plain law. -/
import Derived.Test.YtmblnmgpmdapnaaGreatShelf
import Derived.Test.YtmblnmgpmdapnaaGreatB
set_option linter.unusedVariables false
set_option linter.unusedSimpArgs false
set_option linter.unnecessarySimpa false
set_option linter.deprecated false
set_option linter.unusedSectionVars false
set_option linter.constructorNameAsVariable false
section
open Go Ax
namespace W
abbrev lim:Nat:=1073741824
section
variable {A R S T:Type}
@[simp] theorem qah (a:A) (k:A->Option R):bnd (some a) k=k a:=rfl
@[simp] theorem ztn (k:Option R):chk true k=k:=rfl
theorem qd5 {b:Bool} {k:Option R} (h:b=true):chk b k=k:=by subst h; rfl
theorem q30 {p:Prop} [Decidable p] {k:Option R} (h:p):chk (decide p) k=k:=qd5 (decide_eq_true h)
@[simp] theorem qd6 [Inhabited A] (o:Option A):qaw true o=o:=rfl
@[simp] theorem zc2 [Inhabited A] (o:Option A):qaw false o=some default:=rfl
theorem qbg (B:(S->Option R)->S->Option R) (n:Nat) (s:S):qan B (n+1) s=B (qan B n) s:=rfl
theorem qal {l:List A} {i:Nat} {x:A} (h:l[i]? =some x):idx l (i:Int)=some x:=by
 unfold idx;rw[if_pos (Int.natCast_nonneg i)];simpa using h
@[simp] theorem qrc (x:A) (l:List A):idx (x::l) (0:Int)=some x:=rfl
@[simp] theorem zgu (x y:A) (l:List A):idx (x::y::l) (1:Int)=some y:=rfl
@[simp] theorem q2v (n:Nat):qxb (n:Int)=some n:=by
 unfold qxb;rw[if_pos (Int.natCast_nonneg n)];simp
theorem qcg {k:Nat} (h:k<=1152921504606846976):IntKind.i64.wrap ((k:Int)+1)=((k+1:Nat):Int):=by
 rw[znl _ (by omega) (by omega)]; omega
theorem q1t {i:Int} (h0:-1152921504606846976<=i) (h1:i<=1152921504606846976):IntKind.i64.wrap i=i:=znl _ (by omega) (by omega)
theorem qjo {B:(S->Option R)->S->Option R} (st:Nat->S) (m:Nat) {r:Option R} (hs:∀ k,k<m->∀ nx,B nx (st k)=nx (st (k+1))) (he:∀ nx,B nx (st m)=r) {n:Nat} (hn:m<n):qan B n (st 0)=r:=by
 have key:∀ (d k n:Nat),k+d=m->d<n->qan B n (st k)=r:=by
  intro d
  induction d with
  | zero=>
   intro k n hk hn;obtain⟨n,rfl⟩:=Nat.exists_eq_succ_of_ne_zero (by omega:n≠0);have:k=m:=by omega
   subst this;exact he _
  | succ d ih=>
   intro k n hk hn;obtain⟨n,rfl⟩:=Nat.exists_eq_succ_of_ne_zero (by omega:n≠0);rw[qbg,hs k (by omega)];exact ih (k+1) n (by omega) (by omega)
 exact key m 0 n (by omega) hn
def orE (o k:Option R):Option R:=match o with|some r=>some r|none=>k
def zmn (o:R ⊕ T) (k:T->Option R):Option R:=match o with|.inl r=>some r|.inr t=>k t
@[simp] theorem zsu (r:R) (k:Option R):orE (some r) k=some r:=rfl
@[simp] theorem zst (k:Option R):orE none k=k:=rfl
@[simp] theorem ztj (r:R) (k:T->Option R):zmn (.inl r) k=some r:=rfl
@[simp] theorem zmo (t:T) (k:T->Option R):zmn (.inr t) k=k t:=rfl
def qfj (f:T->A->R ⊕ T):T->List A->R ⊕ T
 | t,[]=>.inr t
 | t,x::l=>match f t x with
  | .inl r=>.inl r
  | .inr t'=>qfj f t' l
theorem qmv {B:(S->Option R)->S->Option R} (mk:Nat->T->S) (I:Nat->T->Prop) {l:List A} (f:T->A->R ⊕ T) {rest:T->Option R}
  (hs:∀ (k:Nat) (x:A) (t:T) (nx:S->Option R),l[k]? =some x->I k t->B nx (mk k t)=zmn (f t x) fun t'=>nx (mk (k+1) t'))
  (hI:∀ (k:Nat) (x:A) (t t':T),l[k]? =some x->I k t->f t x=.inr t'->I (k+1) t')
  (he:∀ (t:T) (nx:S->Option R),I l.length t->B nx (mk l.length t)=rest t) {n:Nat} (hn:l.length<n) {t0:T} (h0:I 0 t0) :
  qan B n (mk 0 t0)=zmn (qfj f t0 l) rest:=by
 have key:∀ (suf:List A) (k n:Nat) (t:T),(∀ j,suf[j]? =l[k+j]?)->k+suf.length=l.length->suf.length<n->I k t->qan B n (mk k t)=zmn (qfj f t suf) rest:=by
  intro suf
  induction suf with
  | nil=>
   intro k n t hsuf hk hn hi;obtain⟨n,rfl⟩:=Nat.exists_eq_succ_of_ne_zero (by omega:n≠0);have:k=l.length:=by simpa using hk
   subst this;rw[qbg,he t _ hi];rfl
  | cons x suf ih=>
   intro k n t hsuf hk hn hi;obtain⟨n,rfl⟩:=Nat.exists_eq_succ_of_ne_zero (by omega:n≠0);have hx:l[k]? =some x:=by have:=hsuf 0; simpa using this.symm
   rw[qbg,hs k x t _ hx hi];simp only[qfj];cases hf:f t x with
   | inl r=>rfl
   | inr t'=>
    simp only[zmo];refine ih (k+1) n t' (fun j=>?_) (by simp at hk; omega) (by simp at hn; omega) (hI k x t t' hx hi hf);have:=hsuf (j+1);rw[show k+1+j=k+(j+1) by omega];simpa using this
 exact key l 0 n t0 (fun j=>by simp) (by simp) hn h0
def qew (f:A->Option R):List A->Option R
 | []=>none
 | x::l=>match f x with
  | some r=>some r
  | none=>qew f l
theorem qcy {B:(S->Option R)->S->Option R} (mk:Nat->S) {l:List A} (f:A->Option R) {rest:Option R}
  (hs:∀ (k:Nat) (x:A) (nx:S->Option R),l[k]? =some x->B nx (mk k)=orE (f x) (nx (mk (k+1))))
  (he:∀ (nx:S->Option R),B nx (mk l.length)=rest) {n:Nat} (hn:l.length<n) :
  qan B n (mk 0)=orE (qew f l) rest:=by
 have h:=qmv (B:=B) (fun k (_:Unit)=>mk k) (fun _ _=>True) (l:=l) (fun _ x=>match f x with|some r=>.inl r|none=>.inr ()) (rest:=fun _=>rest)
  (fun k x _ nx hx _=>by rw[hs k x nx hx]; cases f x<;>rfl) (fun _ _ _ _ _ _ _=>trivial) (fun _ nx _=>he nx) hn (t0:=()) trivial
 rw[h];have key:∀ l:List A,qfj (T:=Unit) (fun _ x=>match f x with|some r=>.inl r|none=>.inr ()) () l=(match qew f l with|some r=>.inl r|none=>.inr ()):=by
  intro l
  induction l with
  | nil=>rfl
  | cons x l ih=>
   simp only[qfj,qew];cases f x with
   | some r=>rfl
   | none=>exact ih
 rw[key];cases qew f l<;>rfl
end
theorem qb0 {A:Type} {l:List A} {k:Nat} {x:A} (h:l[k]? =some x):k<l.length:=(List.getElem?_eq_some_iff.1 h).1
theorem qbk {A:Type} {l:List A} {k:Nat} {x:A} (h:l[k]? =some x):x∈l:=List.mem_of_getElem? h
@[simp] theorem qaz (l:List (List UInt8)):(qai l).length=l.length:=by simp[qai]
@[simp] theorem zqd (k:IntKind) (l:List Int):(qcp k l).length=l.length:=by simp[qcp]
@[simp] theorem zkp (l:List UInt8):(qav l).length=l.length:=by simp[qav]
@[simp] theorem qfm (l:List Val):(Val.rows l).length=l.length:=by rw[rows_eq]; simp
theorem qa7 {k m:Nat} (h:k<m):decide ((k:Int)<(m:Int))=true:=decide_eq_true (by omega)
theorem qas {m:Nat}:decide ((m:Int)<(m:Int))=false:=decide_eq_false (by omega)
end W
end
section
open Go Go.Proofs Go.RowKit
namespace Ax
theorem zlc {bs:Base} {ρ:List Value} {H:PH} {lo:List AObj} {w w':World} (s:SatW bs ρ H lo w) {e:TypeId} {z n:Nat} {v':Value} {xs:List Value} (hb:Below w.heap.size w w')
  (hown:w'.ownsRow w.heap.size e z v' n xs) (h1:∀ u∈xs,u.oneCell'=true) :
  PH.le H (qh7 H v' xs)/\w'.ownsRow 0 e z v' n xs/\SatW bs (ρ++[v']) (qh7 H v' xs) (lo++[.tail e z n]) w':=by
 have hge:∀ b,qce v'=some b->w.heap.size<=b:=by
  intro b hb;rcases hown.2 with ⟨rfl,_⟩|⟨g,cap,cur,rfl,hg,_⟩
  ·simp[qce]at hb
  ·simp[qce]at hb; omega
 have hno:∀ b o u,qce v'=some b->H b o=some u->False:=fun b o u hb hu=>by
  have h2:=s.sath.lt hu;have h3:=hge b hb;omega
 have hle:PH.le H (qh7 H v' xs):=by
  intro b o u hu;unfold qh7;rw[if_neg (fun hc=>hno b o u hc.1 hu)]
  exact hu
 have hown0:w'.ownsRow 0 e z v' n xs:=⟨hown.1,hown.2.imp id fun⟨g,cap,cur,a,b,c⟩=>⟨g,cap,cur,a,Nat.zero_le _,c⟩⟩;have hcell:∀ g,qce v'=some g->∀ o u,xs[o]? =some u->w'.cell? ⟨g,o,none⟩=some u:=by
  intro g hg o u hu;have:=hown0.cells (g:=g) (by
   rcases hown0.2 with ⟨rfl,_⟩|⟨g',cap,cur,rfl,_⟩
   ·simp[qce]at hg
   ·simpa[qce,Value.ownBlock]using hg) o u hu
  rwa [Addr.add_lit,Nat.zero_add]at this
 have hkeep:∀ S,Keep S w w':=fun S=>⟨hb.os,hb.tape,hb.output,hb.size,fun k hk _=>hb.block k hk⟩
 have hsat:SatH (qh7 H v' xs) w':=by
  refine⟨?_,s.sath.root.mono hle⟩;intro b o u hu;unfold qh7 at hu;split at hu
  ·rename_i hc
   exact⟨hcell b hc.1 o u hu,h1 u (List.mem_of_getElem? hu)⟩
  ·obtain⟨hcl,hone⟩:=s.sath.cell b o u hu
   refine⟨?_,hone⟩;rw[World.cell?_of_block (w:=w) (a:=⟨b,o,none⟩) (hb.block b (s.sath.lt hu))];exact hcl
 have hok:∀ ρ,qxh ρ (qh7 H v' xs) w' v' (.tail e z n):=by
  intro ρ;refine⟨xs,hown0,fun b hb=>⟨fun j u hu=>?_,fun o ho=>?_⟩⟩
  ·unfold qh7
   rw[if_pos ⟨hb,(List.getElem?_eq_some_iff.1 hu).1⟩];exact hu
  ·unfold qh7
   rw[if_neg (by rw[hown.1]; omega)];cases hx:H b o with
   | none=>rfl
   | some u=>exact(hno b o u hb hx).elim
 have hnew:∀ b o u,qh7 H v' xs b o=some u->(∃ u,H b o=some u)\/qce v'=some b:=by
  intro b o u hu;unfold qh7 at hu;split at hu
  ·rename_i hc; exact .inr hc.1
  ·exact .inl ⟨u,hu⟩
 refine⟨hle,hown0,?_⟩;cases hv:qce v' with
 | none=>
  refine s.push (g:=w.heap.size) (.inr hv) (s.fresh (Nat.le_refl _)) (.inr s.keep.size) hle hsat (fun b o u hu=>?_) (hkeep _) (hok _);rcases hnew b o u hu with h|h
  ·exact .inl h
  ·rw[hv]at h; cases h
 | some g=>
  refine s.push (g:=g) (.inl hv) (s.fresh (hge g hv)) (.inr (Nat.le_trans s.keep.size (hge g hv))) hle hsat (fun b o u hu=>?_) (hkeep _) (hok _);rcases hnew b o u hu with h|h
  ·exact .inl h
  ·rw[hv]at h; exact .inr (Option.some.inj h).symm
theorem zp3 (H:PH):∀ (l:List (List UInt8)),qqj H 1 (qai l) (l.map fun s=>Value.string ⟨s.toArray⟩)
 | []=>by simp[qai,qqj]
 | b::l=>by
  have:=zp3 H l;unfold qai at this ⊢;simp only[List.map_cons,qqj];refine⟨rfl,[.string ⟨b.toArray⟩],l.map fun s=>Value.string ⟨s.toArray⟩,by simp,?_,this⟩
  simp[qdv,qco]
theorem zbd {H:PH} {b z:Nat}:∀ {x:List (List UInt8)} {o:Nat},qr4 H b z o (qai x)->∀ (j:Nat) (l:List UInt8),x[j]? =some l->H b (o+j)=some (.string ⟨l.toArray⟩)
 | [],_,_,j,l,h=>by simp at h
 | y::x,o,r,j,l,h=>by
  simp only[qai,List.map_cons,qr4]at r;obtain⟨hz,⟨vs,rl,rc⟩,r2⟩:=r;have hz:z=1:=by simpa using hz.symm
  subst hz;cases j with
  | zero=>
   simp only[List.getElem?_cons_zero,Option.some.injEq]at h;subst h;simp only[qdv,qco]at rl;obtain⟨u,vs',rfl,rfl,_⟩:=rl;exact rc 0 _ rfl
  | succ j=>
   have:=zbd (x:=x) r2 j l (by simpa using h);rw[show o+(j+1)=o+1+j from by omega];exact this
theorem zgr {P:Program} {f:FuncId} (enter:∀ vs w,(callFunc f vs).run P w=.ok (.enter f vs) w) {e:TypeId}
  (cNil:∀ (n c:Nat) (w:World),Calls P f #[.slice none n c] w fun e' w'=>e'=.returned (.slice none 0 0)/\w'=w)
  (cZero:∀ (a:Addr) (c:Nat) (w:World),Calls P f #[.slice (some a) 0 c] w fun e' w'=>∃ v',e'=.returned v'/\w'.ownsRow w.heap.size e 1 v' 0 []/\v'≠.slice none 0 0/\Below w.heap.size w w')
  (cSome:∀ (b off n c:Nat) (zs:List ByteArray) (w:World),n<=zs.length->n * 16<=140737488355328->(∀ j,j<zs.length->w.cell? ⟨b,off+j,none⟩=some (.string (zs.getD j ByteArray.empty))) ->
   Calls P f #[.slice (some ⟨b,off,none⟩) n c] w fun e' w'=>∃ v',e'=.returned v'/\w'.ownsRow w.heap.size e 1 v' n ((zs.take n).map Value.string)/\v'≠.slice none 0 0/\Below w.heap.size w w')
  (x:List (List UInt8)) (hbig:(qai x).length * 16<=140737488355328):qay P f [.p (.sl (qai x))] [] 0 (fun v lo=>v=.tsl 0 (qai x)/\lo=[.tail e 1 (qai x).length]):=by
 intro bs ρ H w vs hr0 s rl;have hlo:ρ=[]:=List.eq_nil_of_length_eq_zero s.hlen;subst hlo;obtain⟨v,vs',rfl,rv,hvs⟩:=rl;obtain rfl:vs'=[]:=hvs;have rv:qco H (.sl (qai x)) v:=rv;rw[enter];refine⟨rfl,?_⟩;have hl:(qai x).length=x.length:=by simp[qai]
 have base:Calls P f [v].toArray w fun e' w'=>∃ v',e'=.returned v'/\w'.ownsRow w.heap.size e 1 v' x.length (x.map fun s=>Value.string ⟨s.toArray⟩)/\Below w.heap.size w w':=by
  simp only[qco]at rv;rcases rv with ⟨h0,rfl|⟨a,cap,rfl⟩⟩|⟨b,o,z,cap,rfl,hcap,rr⟩
  ·have hx:x=[]:=by cases x with|nil=>rfl|cons _ _=>cases h0
   subst hx;refine(cNil 0 0 w).mono fun e' w' p=>?_;obtain⟨rfl,rfl⟩:=p;exact⟨_,rfl,⟨by simp,.inl ⟨rfl,rfl⟩⟩,Below.refl _ _⟩
  ·have hx:x=[]:=by cases x with|nil=>rfl|cons _ _=>cases h0
   subst hx;refine(cZero a cap w).mono fun e' w' p=>?_;obtain⟨v',rfl,ho,_,hb⟩:=p;exact⟨_,rfl,ho,hb⟩
  ·rw[hl]at hbig ⊢
   refine(cSome b o x.length cap (x.map fun s=>⟨s.toArray⟩) w (by simp) hbig fun j hj=>?_).mono fun e' w' p=>?_
   ·simp only[List.length_map]at hj
    have h2:=zbd rr j _ (List.getElem?_eq_getElem hj);rw[(s.sath.cell _ _ _ h2).1];simp[List.getD,List.getElem?_eq_getElem hj]
   ·obtain⟨v',rfl,ho,_,hb⟩:=p
    refine⟨_,rfl,?_,hb⟩;rw[List.take_of_length_le (by simp),List.map_map]at ho;exact ho
 refine base.mono fun e' w' p=>?_;obtain⟨v',rfl,ho,hb⟩:=p;obtain⟨hle,ho0,hs⟩:=zlc s hb ho (fun u hu=>by obtain⟨_,_,rfl⟩:=List.mem_map.1 hu; rfl)
 refine⟨v',.tsl 0 (qai x),[.tail e 1 (qai x).length],[v'],_,rfl,⟨rfl,rfl⟩,hle,by rw[hl]; exact hs,rfl,qqw (zp3 H x) hle (by rw[hl]; exact ho0)⟩
end Ax
end
section
open Go Go.Proofs Ax
namespace W
theorem mixed:Tryz.prog.follows .mixedOrders=true:=by kernel_rfl
def ql0 (_:Nat) (s sub:List UInt8):Option Bool:=chk (decide (s.length<4294967281)) (some (Lib.contains s sub))
set_option maxRecDepth 100000 in
theorem qyb (n:Nat):∀ (s sub:List UInt8) (r:Bool),ql0 n s sub=some r->qac Tryz.prog 145 [.str s,.str sub] (.bool r):=by
 intro s sub r h;obtain⟨hs,h⟩:=qak h;obtain rfl:=Option.some.inj h;intro H w vs hsat hr;obtain⟨m,hm⟩:=hsat.root;have c:=Tryz.strings_Contains ⟨s.toArray⟩ ⟨sub.toArray⟩ m w (by rw[ByteArray.size_mk_toArray]; exact of_decide_eq_true hs) (hsat.cell _ _ _ hm).1;have e:vs=[.string ⟨s.toArray⟩,.string ⟨sub.toArray⟩]:=by
  simp only[qdv,qco]at hr;obtain⟨_,_,rfl,rfl,_,_,rfl,rfl,rfl⟩:=hr;rfl
 subst e;rw[Tryz.call145];refine⟨rfl,c.mono fun e w' p=>?_⟩;obtain⟨p,rfl⟩:=p;exact⟨_,H,p,Calm.refl hsat,by simp[qco]⟩
theorem zh6:∀ (args:Array Value) (w:World),(callFunc 36 args).run Tryz.prog w=.ok (.enter 36 args) w:=fun _ _=>Tryz.call36 _ _
theorem q0l (b:Nat) (l:List UInt8) (w:World) (p v:Value) (hbk:w.heap[b]? =some (.cells #[p,v] 88 (0,0))) (hown:w.ownsRow 0 5 1 v l.length (Lib.byteCells l)) (h0:l≠[]) :
  Calls Tryz.prog 36 #[.pointer (some ⟨b,0,none⟩)] w (q7u l v w):=Any.String_exact Tryz.lays169 Tryz.Builder_Extra_169 b l w p v hbk hown h0
theorem q0k:q7v Tryz.prog 36 88 5:=fun b w p v hbk hown=>Any.String_empty Tryz.lays169 Tryz.Builder_Extra_169 b w p v hbk hown
set_option maxRecDepth 100000 in
theorem zny (x:List (List UInt8)) (hbig:(qai x).length * 16<=140737488355328):qay Tryz.prog 52 [.p (.sl (qai x))] [] 0 (fun v lo=>v=.tsl 0 (qai x)/\lo=[.tail 9 1 (qai x).length]):=
 zgr (fun _ _=>Tryz.call52 _ _) Tryz.slices_Clone_string_nil Tryz.slices_Clone_string_zero (fun b o n c zs w h1 h2 h3=>Tryz.slices_Clone_string b o n c zs w h1 h2 h3) x hbig
end W
end
