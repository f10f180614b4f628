/- A part of the proof: the abstract execution. -/
import Derived.Deep.LoopGhost
import Derived.Laws.Externs
import Derived.Lib.Builder
import Derived.Shelf.Strings.Builder1
import Derived.Shelf.Sort.Plain
import Derived.Maps.RangeRun
import Derived.Test.YtlnipohgljbfiaaGreatA
set_option linter.unusedVariables false
set_option linter.unusedSimpArgs false
set_option linter.unnecessarySimpa false
set_option linter.deprecated false
set_option linter.unusedSectionVars false
set_option linter.constructorNameAsVariable false
open Go renaming run_underlying->kru
open Go.IntKind renaming wrap->kwr,bits->kbt
open List renaming length_cons->ja,getElem?_cons_zero->jd,getElem?_eq_getElem->jf,mem_cons->jg,map_cons->jk,length_map->jl,prefix_refl->jq,length_take->jt,mem_append->jy,getElem?_append_left->jB,getElem?_append_right->jC,getElem?_drop->jD,getElem?_take->jE,getElem?_set->jF,getElem?_eq_some_iff->jG,map_nil->jN,map_toArray->ka
open Nat renaming le_of_ble_eq_true->jh,eq_of_beq_eq_true->jm,le_refl->jw,zero_add->jx,zero_le->jS
open Bool renaming and_eq_true->ji,or_eq_true->jO,false_eq_true->jP
open Array renaming getD_eq_getD_getElem?->jX
open Go.Result renaming andThen_ok->kb
open Go.Sem renaming run_bind->kc,run_pure->kd
open Go.Op renaming operands->ke
section
namespace Ax
open Go
def upd (e:Nat->FV) (d:Option Tmp) (v:FV):Nat->FV:=
 match d with
 | none=>e
 | some d=>fun t=>if t=d then v else e t
theorem bo (d:Tmp) (v:FV) (E:Env):qv ((d,v)::E)=upd (qv E) (some d) v:=by
 funext t;simp only[qv,upd];by_cases h:t=d
 ·subst h; simp[Nat.beq_refl]
 have:Nat.beq t d=false:=by
  cases a:Nat.beq t d with
  | false=>rfl
  | true=>exact absurd (jm a) h
 simp[this,h]
def fR (ops:Array Oper) (o:Oper) (e:Nat->FV) (g:G):Prop:=
 match o.guard with
 | none=>g=none
 | some (j,want)=>∃ oj d b,ops[j]? =some oj/\oj.dst=some d /\
   ((e d=.p (.bool b)/\g=some (match want with|true=>b|false=>!b)) \/
    ∃ a,e d=.opt a (.p (.bool b))/\g=some (match want with|true=>a&&b|false=>a&&!b))
def Gz (P:Program) (sl:List Nat) (m:Bool) (n0:Nat) (o:Oper) (e:Nat->FV) (lo:List AObj) (g:G) (b:FV):Prop:=
 du P o e lo g b lo/\(m=true->GW sl o=false->∃ c:Option (Nat×AObj),(∀ k ob,c=some (k,ob)->qng sl n0 k=true/\ob.boxy=true/\lo[k]? =some ob)/\∀ a,(∀ k ob,c=some (k,ob)->a[k]? =some ob)->du P o e a g b a)
def qcm (sl:List Nat) (m:Bool) (n0:Nat) (o:Oper) (lo lo':List AObj):Prop:=
 m=true->n0<=lo.length->n0<=lo'.length/\(lW sl o=true->∀ k ob,qng sl n0 k=true->ob.boxy=true->(lo[k]? =some ob↔lo'[k]? =some ob))
theorem oW {sl:List Nat} {n0 k:Nat} (h:qng sl n0 k=true):k<n0/\DS sl (60000000+1000 * n0+k)=false:=by
 unfold qng at h;split at h
 ·rename_i a
  split at h
  ·cases h
  rename_i hm; exact⟨jh a,hm⟩
 cases h
theorem vv.ok {sl:List Nat} {m:Bool} {n0:Nat} {o:Oper} {lo lo':List AObj} (a:m=true->tM sl o=false) (h:vv (Ro o.op) lo lo'):qcm sl m n0 o lo lo':=fun b c=>⟨Nat.le_trans c h.1,fun hm k ob d e=>by
 simp only[lW,a b,Bool.or_false]at hm;exact h.2 hm k ob (Nat.lt_of_lt_of_le (oW d).1 c) e⟩
def tO (P:Program) (inl sl:List Nat) (m:Bool) (n0 N:Nat) (ops:Array Oper) (o:Oper) (e:Nat->FV) (lo:List AObj) (b:Nat->FV) (lo':List AObj):Prop:=
 ∃ g a,fR ops o e g/\(∀ d,o.dst=some d->d<N)/\b=upd e o.dst (mj g a) /\
  ((bn inl o=true/\g=none/\du P o e lo none a lo'/\qcm sl m n0 o lo lo') \/
   (bn inl o=false/\XM o.op=true/\lo'=lo/\Gz P sl m n0 o e lo g a) \/
   (bn inl o=false/\XM o.op=false/\lo'=lo/\∀ lo,du P o e lo g a lo))
theorem VD (o:Oper):bn [] o=QY o.op:=by
 unfold bn;split
 ·rename_i h; simp[h,DS,QY]
 ·rename_i h
  simp only[h,eh,QY];split<;>simp[DS]
 ·rename_i h
  simp only[h,eh,QY];split<;>simp[DS]
 rfl
theorem Br {ops:List Oper} {o:Oper} {E:Env} {R:G->Prop} (h:QX ops o E R):∃ g,fR ops.toArray o (qv E) g/\R g:=by
 unfold QX at h;unfold fR;split at h
 ·rename_i e
  exact⟨none,by simp[e],h⟩
 rename_i j c e;obtain⟨oj,a,h⟩:=xk h;split at h
 ·rename_i d f
  rw[sR]at h;split at h
  ·rename_i b he
   cases c with
   | true=>exact⟨_,by simp only[e]; exact⟨oj,d,b,by simpa using a,f,.inl ⟨he,rfl⟩⟩,h⟩
   | false=>exact⟨_,by simp only[e]; exact⟨oj,d,b,by simpa using a,f,.inl ⟨he,rfl⟩⟩,h⟩
  ·rename_i i b he
   cases c with
   | true=>exact⟨_,by simp only[e]; exact⟨oj,d,b,by simpa using a,f,.inr ⟨i,he,rfl⟩⟩,h⟩
   | false=>exact⟨_,by simp only[e]; exact⟨oj,d,b,by simpa using a,f,.inr ⟨i,he,rfl⟩⟩,h⟩
  ·exact h.elim
 exact h.elim
theorem ue {N:Nat} {d:Option Tmp} {v:FV} {E:Env} {R:Env->Prop} (h:putK N d v E R) :
  (∀ t,d=some t->t<N)/\∃ E',qv E'=upd (qv E) d v/\R E':=by
 unfold putK at h;split at h
 ·rename_i t
  split at h
  ·rename_i b
   rw[Dm]at h;refine⟨fun c a=>?_,_,bo t v E,h⟩;cases a;exact jh b
  exact h.elim
 exact⟨fun t a=>(by cases a),E,rfl,h⟩
theorem Nv {P:Program} {o:Oper} {t:TypeId} {x i:Operand} {ok:Bool} (a:o.op=.lookup t x i ok) {E:Env} {g:G} {lo:List AObj} {f j:FV} (b:Str g (evF (qv E) x) f) (c:Str g (evF (qv E) i) j) {R:FV->Prop} (h:Um P g t lo f j ok R) :
  ∃ d,R d/\du P o (qv E) lo g d lo:=by
 obtain⟨d,h,_,l⟩:=lI h;refine⟨_,h,fun e bs ρ H w eval s k=>?_⟩;obtain⟨v,m,n⟩:=l e bs ρ H w _ _ s (b ρ H _ e (k x (by simp[a,ke]))) (c ρ H _ e (k i (by simp[a,ke])));simp only[execOp,a];exact xa s m n
theorem NV {P:Program} {N:Nat} {all:List Oper} {o:Oper} {E:Env} {lo:List AObj} {R:Env->List AObj->Prop} (h:BC P N all o E lo R) :
  ∃ E' lo',tO P [] [] false 0 N all.toArray o (qv E) lo (qv E') lo'/\R E' lo':=by
 unfold BC at h;unfold tO;simp only[VD];obtain⟨g,j,h⟩:=Br h;split at h
 ·rename_i f
  have he:QY o.op=false:=by
   cases l:o.op<;>simp[l,XM]at f<;>rfl
  have fin:∀ {a:FV},du P o (qv E) lo g a lo->Gz P [] false 0 o (qv E) lo g a:=fun h=>⟨h,fun h=>by cases h⟩
  split at h
  ·rename_i t x k
   obtain⟨a,h,b⟩:=oB k h;obtain⟨c,E',e,h⟩:=ue h;exact⟨E',lo,⟨g,a,j,c,e,.inr (.inl ⟨he,f,rfl,fin b⟩)⟩,h⟩
  ·rename_i q d x k
   obtain⟨a,h,b⟩:=ou k h;obtain⟨c,E',e,h⟩:=ue h;exact⟨E',lo,⟨g,a,j,c,e,.inr (.inl ⟨he,f,rfl,fin b⟩)⟩,h⟩
  ·rename_i t x i ok k
   obtain⟨r,h,m⟩:=qZ h;obtain⟨s,h,n⟩:=qZ h;obtain⟨a,h,b⟩:=Nv k m n h;obtain⟨c,E',e,h⟩:=ue h;exact⟨E',lo,⟨g,a,j,c,e,.inr (.inl ⟨he,f,rfl,fin b⟩)⟩,h⟩
  exact h.elim
 rename_i f;split at h
 ·rename_i he
  split at h
  ·obtain⟨a,lo',h,p,b⟩:=EF h
   obtain⟨c,E',e,h⟩:=ue h;exact⟨E',lo',⟨none,a,j,c,e,.inl ⟨he,rfl,b,p.ok (fun h=>by cases h)⟩⟩,h⟩
  exact h.elim
 rename_i he;obtain⟨a,h,b⟩:=Ny h;obtain⟨c,E',e,h⟩:=ue h;exact⟨E',lo,⟨g,a,j,c,e,.inr (.inr ⟨he,f,rfl,b⟩)⟩,h⟩
def qfz (P:Program) (sl:List Nat) (t:TypeId) (lo:List AObj) (n0:Nat) (x:FV) (R:FV->Prop):Prop:=
 match x with
 | .ptr k off=>match qng sl n0 k with
  | true=>Vh P t lo (.ptr k off) R
  | false=>False
 | .hptr row=>Vh P t [] (.hptr row) R
 | _=>False
def qbf (P:Program) (sl:List Nat) (g:G) (t:TypeId) (lo:List AObj) (n0:Nat) (x key:FV) (ok:Bool) (R:FV->Prop):Prop:=
 match x with
 | .mref k=>match qng sl n0 k with
  | true=>Um P g t lo (.mref k) key ok R
  | false=>False
 | _=>False
def qlz (P:Program) (g:G) (src dst:TypeId) (x:FV) (R:FV->Prop):Prop:=
 match x with
 | .p p=>Hs P g src dst [] (.p p) R
 | .tsl k rows=>Hs P g src dst [] (.tsl k rows) R
 | _=>False
def qds (P:Program) (sl:List Nat) (n0 N:Nat) (all:List Oper) (o:Oper) (E:Env) (lo:List AObj) (R:Env->List AObj->Prop):Prop:=
 QX all o E fun g=>
  match XM o.op with
  | true=>match o.op with
   | .load t x=>evS E g x fun x=>qfz P sl t lo n0 x fun v=>putK N o.dst (mj g v) E fun E=>R E lo
   | .convert s d x=>evS E g x fun x=>qlz P g s d x fun v=>putK N o.dst (mj g v) E fun E=>R E lo
   | .lookup t x i ok=>evS E g x fun x=>evS E g i fun i=>qbf P sl g t lo n0 x i ok fun v=>putK N o.dst (mj g v) E fun E=>R E lo
   | _=>False
  | false=>match QY o.op with
   | true=>match g with
    | none=>ow P o.op E lo fun v lo=>putK N o.dst v E fun E=>R E lo
    | some _=>False
   | false=>Xo P o.op E g fun v=>putK N o.dst (mj g v) E fun E=>R E lo
theorem cx {α:Type}:∀ {n:Nat} {l:List α} {a:α} {R:α->Prop},l[n]? =some a->R a->UK n l R
 | 0,[],a,R,h,_=>by simp at h
 | 0,b::l,a,R,h,hr=>by simp at h; subst h; exact hr
 | n+1,[],a,R,h,_=>by simp at h
 | n+1,b::l,a,R,h,hr=>cx (n:=n) (l:=l) (by simpa using h) hr
theorem qja {v:FV} {R:PV->Prop} (h:qoi v R):∃ p,R p/\∀ R':PV->Prop,R' p->qoi v R':=by
 unfold qoi at h;split at h
 ·exact⟨_,h,fun R' a=>a⟩
 ·exact⟨_,h,fun R' a=>a⟩
 ·exact⟨_,h,fun R' a=>a⟩
 exact h.elim
theorem qeq:∀ {c:FV} {R:List PV->Prop},MY c R->∃ p,R p/\∀ R':List PV->Prop,R' p->MY c R':=by
 intro c
 induction c with
 | cap0=>intro R h; exact⟨_,h,fun R' d=>d⟩
 | cap a b _ ihb=>
  intro R h;simp only[MY]at h;obtain⟨p,h,hp⟩:=qja h;obtain⟨f,h,e⟩:=ihb h;exact⟨_,h,fun R' d=>by simp only[MY]; exact hp _ (e _ d)⟩
 | _=>intro R h; simp[MY]at h
theorem qjb {v:FV} {R:PV->Prop} (h:ee v R):∃ p,R p/\∀ R':PV->Prop,R' p->ee v R':=by
 unfold ee at h;split at h
 ·exact⟨_,h,fun R' a=>a⟩
 ·exact⟨_,h,fun R' a=>a⟩
 ·exact⟨_,h,fun R' a=>a⟩
 ·obtain⟨c,h,b⟩:=qeq h
  exact⟨_,h,fun R' a=>b _ a⟩
 exact h.elim
theorem qf0 {P:Program} {t:TypeId} {lo:List AObj} {k off:Nat} {R:FV->Prop} (h:Vh P t lo (.ptr k off) R) :
  ∃ u ob,R u/\lo[k]? =some ob/\ob.boxy=true/\∀ e:List AObj,e[k]? =some ob->Vh P t e (.ptr k off) (fun v=>v=u):=by
 unfold Vh at h;obtain⟨ob,g,h⟩:=xk h;split at h
 ·rename_i bt cells
  obtain⟨h,f⟩:=Qh h;obtain⟨d,i,x,y,h⟩:=th h;have dropI:∀ {n:Nat} {l:List FV} {R:List FV->Prop},n<=l.length->R (l.drop n)->Ng n l R:=by
   intro n
   induction n with
   | zero=>intro l R _ h; simpa[Ng]using h
   | succ n ih=>
    intro l R m h;cases l with
    | nil=>simp at m
    | cons a l=>exact ih (by simpa using m) (by simpa using h)
  have takeI:∀ {n:Nat} {l:List FV} {R:List FV->Prop},n<=l.length->R (l.take n)->Lz n l R:=by
   intro n
   induction n with
   | zero=>intro l R _ h; simpa[Lz]using h
   | succ n ih=>
    intro l R m h;cases l with
    | nil=>simp at m
    | cons a l=>exact ih (l:=l) (R:=fun l=>R (a::l)) (by simpa using m) (by simpa using h)
  have frzI:∀ {l:List FV} {R:List PV->Prop},qa6 l R->∃ o,R o/\∀ R',R' o->qa6 l R':=by
   intro l
   induction l with
   | nil=>intro R h; exact⟨[],h,fun R' h=>h⟩
   | cons v l ih=>
    intro R h;simp only[qa6]at h;obtain⟨p,h,q⟩:=qjb h;obtain⟨o,h,hp⟩:=ih h;exact⟨_,h,fun R' z=>by simp only[qa6]; exact q _ (hp _ z)⟩
  have typeI:∀ {R:Bool->Nat->Prop},R (qll d) i.size->VQ P t R:=by
   intro R h;unfold VQ;simp only[x,y];exact h
  split at h
  ·rename_i b
   obtain⟨h,w⟩:=Qo h;split at h
   ·rename_i j
    refine⟨_,_,h,g,rfl,fun e h2=>?_⟩;unfold Vh;refine cx h2 (dropI f (typeI ?_));rw[b];refine takeI w ?_;rw[j]
   rename_i j;obtain⟨o,h,s⟩:=frzI h;refine⟨_,_,h,g,rfl,fun e h2=>?_⟩;unfold Vh;refine cx h2 (dropI f (typeI ?_));rw[b];refine takeI w ?_;rw[j];exact s _ rfl
  rename_i b;split at h
  ·rename_i c r A
   refine⟨_,_,h,g,rfl,fun e h2=>?_⟩;unfold Vh;refine cx h2 (dropI f (typeI ?_));rw[b];simp only[A]
  exact h.elim
 exact h.elim
theorem oC {P:Program} {g:G} {t:TypeId} {lo:List AObj} {k:Nat} {key:FV} {ok:Bool} {R:FV->Prop} (h:Um P g t lo (.mref k) key ok R) :
  ∃ n ob,R n/\lo[k]? =some ob/\ob.boxy=true/\∀ c:List AObj,c[k]? =some ob->Um P g t c (.mref k) key ok (fun v=>v=n):=by
 cases key<;>simp only[Um]at h;rename_i f;obtain⟨ob,l,h⟩:=xk h;split at h
 ·rename_i d es mk
  have mapI:∀ {R:TypeId->Prop},ql3 P t d f R->∃ et,R et/\∀ R':TypeId->Prop,R' et->ql3 P t d f R':=by
   intro R h;unfold ql3 at h;split at h
   ·rename_i kt et r
    split at h
    ·rename_i o s
     have keyI:∀ {R:Prop},oG o d f R->R/\∀ R':Prop,R'->oG o d f R':=by
      intro R h;unfold oG at h;split at h
      ·exact⟨h,fun R' a=>a⟩
      ·exact⟨h,fun R' a=>a⟩
      ·split at h
       ·rename_i h1
        split at h
        ·rename_i h2
         refine⟨h,fun R' a=>?_⟩;simp only[oG,h1,h2];exact a
        exact h.elim
       exact h.elim
      exact h.elim
     obtain⟨h,u⟩:=keyI h;refine⟨et,h,fun R' a=>?_⟩;unfold ql3;simp only[r,s];exact u _ a
    exact h.elim
   exact h.elim
  have zeroI:∀ {et:TypeId} {R:PV->Prop},ea P et R->∃ z,R z/\∀ R':PV->Prop,R' z->ea P et R':=by
   intro et R h;have vsI:∀ {vs:List Value} {R:List PV->Prop},qbu vs R->∃ j,R j/\∀ R':List PV->Prop,R' j->qbu vs R':=by
    intro vs
    induction vs with
    | nil=>intro R h; exact⟨[],h,fun R' h=>h⟩
    | cons v vs ih=>
     intro R h;simp only[qbu]at h;split at h
     ·rename_i p hp
      obtain⟨j,h,e⟩:=ih h;refine⟨_,h,fun R' a=>?_⟩;simp only[qbu,hp];exact e _ a
     exact h.elim
   unfold ea at h;split at h
   ·rename_i i q
    split at h
    ·rename_i vs hz
     obtain⟨j,h,e⟩:=vsI h;refine⟨_,h,fun R' a=>?_⟩;unfold ea;simp only[q,hz];exact e _ a
    ·rename_i v w hz
     split at h
     ·rename_i p hp
      refine⟨_,h,fun R' a=>?_⟩;unfold ea;simp only[q,hz,hp];exact a
     exact h.elim
    exact h.elim
   exact h.elim
  obtain⟨et,h,h1⟩:=mapI h;obtain⟨z,h,h2⟩:=zeroI h;obtain⟨v,b,m,h⟩:=h;refine⟨_,_,h,l,rfl,fun c h3=>?_⟩;simp only[Um];exact cx h3 (h1 _ (h2 _ ⟨v,b,m,rfl⟩))
 exact h.elim
theorem ae {α:Type} {R R':α->Prop} (h:∀ a,R a->R' a):∀ {n:Nat} {l:List α},UK n l R->UK n l R'
 | 0,[],x=>x
 | 0,a::_,x=>h a x
 | n+1,[],x=>x
 | n+1,_::l,x=>ae h (n:=n) (l:=l) x
theorem aD {α:Type}:∀ {n:Nat} {x:α} {l:List α} {R R':List α->Prop},(∀ a,R a->R' a)->Bz n x l R->Bz n x l R'
 | 0,x,[],_,_,_,y=>y
 | 0,x,_::l,_,_,h,y=>h _ y
 | n+1,x,[],_,_,_,y=>y
 | n+1,x,a::l,R,R',h,y=>aD (n:=n) (x:=x) (l:=l) (R:=fun l=>R (a::l)) (R':=fun l=>R' (a::l)) (fun _=>h _) y
theorem qb4 {α:Type}:∀ {n:Nat} {x:α} {l:List α} {R:List α->Prop},Bz n x l R->Bz n x l (fun l'=>R l'/\l'.length=l.length/\∀ j,j≠n->l'[j]? =l[j]?)
 | 0,x,[],_,h=>h
 | 0,x,_::l,_,h=>⟨h,by simp,fun j b=>by cases j with|zero=>exact absurd rfl b|succ j=>simp⟩
 | n+1,x,[],_,h=>h
 | n+1,x,a::l,R,h=>by
  have h1:Bz n x l (fun l=>R (a::l)):=h
  refine aD (n:=n) (x:=x) (l:=l) (R':=fun l'=>R (a::l')/\(a::l').length=(a::l).length/\∀ j,j≠n+1->(a::l')[j]? =(a::l)[j]?) ?_ (qb4 h1)
  rintro l' ⟨c,d,b⟩;refine⟨c,by simp[d],fun j e=>?_⟩;cases j with
  | zero=>simp
  | succ j=>simpa using b j (by omega)
theorem Fp:∀ {off:Nat} {vs old:List FV} {R R':List FV->Prop},(∀ a,R a->R' a)->VJ off vs old R->VJ off vs old R'
 | 0,[],old,_,_,h,y=>by cases old<;>exact h _ y
 | 0,v::vs,[],_,_,_,y=>y
 | 0,v::vs,_::old,R,R',h,y=>Fp (off:=0) (vs:=vs) (old:=old) (R:=fun l=>R (v::l)) (R':=fun l=>R' (v::l)) (fun _=>h _) y
 | n+1,vs,[],_,_,_,y=>by cases vs<;>exact y
 | n+1,vs,a::old,R,R',h,y=>by
  cases vs with
  | nil=>exact Fp (off:=n) (vs:=[]) (old:=old) (R:=fun l=>R (a::l)) (R':=fun l=>R' (a::l)) (fun _=>h _) y
  | cons v vs=>exact Fp (off:=n) (vs:=v::vs) (old:=old) (R:=fun l=>R (a::l)) (R':=fun l=>R' (a::l)) (fun _=>h _) y
theorem lT:∀ {cs:List PV} {R R':List FV->Prop},(∀ a,R a->R' a)->qjk cs R->qjk cs R'
 | [],_,_,h,y=>h _ y
 | c::cs,R,R',h,y=>lT (cs:=cs) (R:=fun l=>R (.p c::l)) (R':=fun l=>R' (.p c::l)) (fun _=>h _) y
theorem Na:∀ {c:FV} {R R':List FV->Prop},(∀ a,R a->R' a)->Df c R->Df c R'
 | .cap0,_,_,h,y=>h _ y
 | .cap a b,R,R',h,y=>Na (c:=b) (R:=fun l=>R (a::l)) (R':=fun l=>R' (a::l)) (fun _=>h _) y
 | .top,_,_,_,y|.p _,_,_,_,y|.opt ..,_,_,_,y|.tsl ..,_,_,_,y|.ptr ..,_,_,_,y|.hptr _,_,_,_,y|.bself _,_,_,_,y|.bsl ..,_,_,_,y|.vsl ..,_,_,_,y|.eptr ..,_,_,_,y|.mref _,_,_,_,y|.pair ..,_,_,_,y|.stmp _,_,_,_,y|.clo ..,_,_,_,y|.fagg _,_,_,_,y|.nxt ..,_,_,_,y=>by simp[Df]at y
theorem eN {v:FV} {R R':List FV->Prop} (h:∀ a,R a->R' a) (y:XI v R):XI v R':=by
 unfold XI at *;split at y
 ·exact lT h y
 ·exact Na h y
 split at y
 ·exact h _ y
 exact y.elim
theorem lN {α:Type}:∀ {l:List α} {n:Nat} {R R':Nat->Prop},(∀ a,R a->R' a)->CA l n R->CA l n R'
 | [],n,_,_,h,y=>h _ y
 | _::l,n,R,R',h,y=>lN (l:=l) (n:=n+1) h y
theorem qdr {P:Program} {t:TypeId} {R R':Bool->Nat->Prop} (h:∀ a b,R a b->R' a b) (y:VQ P t R):VQ P t R':=by
 unfold VQ at *;split at y
 ·split at y
  ·exact h _ _ y
  exact y.elim
 exact y.elim
theorem Rn {P:Program} {t:TypeId} {a x:Operand} {E:Env} {lo:List AObj} {R:FV->List AObj->Prop} {k off:Nat} (b:evF (qv E) a=.ptr k off) (h:ow P (.store t a x) E lo R) :
  ow P (.store t a x) E lo (fun v lo'=>R v lo'/\lo'.length=lo.length/\∀ j,j≠k->lo'[j]? =lo[j]?):=by
 simp only[ow,evS,Zx,b]at h ⊢;have main:∀ v:FV,(XI v fun vs=>match UJ vs with
   | true=>CA vs 0 fun n=>VQ P t fun _ m=>match Nat.beq n m with
    | true=>UK k lo fun o=>match o with
     | .box bt cells=>VJ off vs cells fun cells=>Bz k (.box bt cells) lo fun lo=>R (.p (.tup [])) lo
     | _=>False
    | false=>False
   | false=>False)->(XI v fun vs=>match UJ vs with
   | true=>CA vs 0 fun n=>VQ P t fun _ m=>match Nat.beq n m with
    | true=>UK k lo fun o=>match o with
     | .box bt cells=>VJ off vs cells fun cells=>Bz k (.box bt cells) lo fun lo'=>R (.p (.tup [])) lo'/\lo'.length=lo.length/\∀ j,j≠k->lo'[j]? =lo[j]?
     | _=>False
    | false=>False
   | false=>False):=fun v h=>by
  refine eN (fun vs h=>?_) h;split at h
  ·refine lN (fun n h=>?_) h
   refine qdr (fun _ m h=>?_) h;split at h
   ·refine ae (fun o h=>?_) h
    split at h
    ·refine Fp (fun cells h=>?_) h
     exact qb4 h
    exact h.elim
   exact h.elim
  exact h.elim
 split at h
 ·exact⟨h.1,main _ h.2⟩
 exact main _ h
def oF (P:Program) (sl:List Nat) (n0:Nat) (t:TypeId) (a x:Operand) (E:Env) (lo:List AObj) (R:FV->List AObj->Prop):Prop:=
 ev E a fun v=>match v with
  | .ptr k _=>match DS sl (60000000+1000 * n0+k)with
   | true=>ow P (.store t a x) E lo R
   | false=>False
  | _=>False
theorem lL {P:Program} {sl:List Nat} {o:Oper} {t:TypeId} {a x:Operand} (d:o.op=.store t a x) {m:Bool} {n0:Nat} {E:Env} {lo:List AObj} {R:FV->List AObj->Prop} (h:oF P sl n0 t a x E lo R) :
  ∃ b lo',R b lo'/\qcm sl m n0 o lo lo'/\du P o (qv E) lo none b lo':=by
 unfold oF at h;simp only[Zx]at h;split at h
 ·rename_i k off f
  split at h
  ·rename_i g
   have h2:=Rn f h;rw[← d]at h2;obtain⟨b,lo',⟨h,hlen,i⟩,_,j⟩:=EF h2;refine⟨b,lo',h,fun _ l=>⟨by omega,fun _ k' ob hp _=>?_⟩,j⟩;have c:k'≠k:=fun e=>by
    have:=(oW hp).2;rw[e,g]at this;cases this
   rw[i k' c]
  exact h.elim
 exact h.elim
theorem qdt {P:Program} {sl:List Nat} {n0 N:Nat} {all:List Oper} {o:Oper} {E:Env} {lo:List AObj} {R:Env->List AObj->Prop} (M:tM sl o=false) (h:qds P sl n0 N all o E lo R) :
  ∃ E' lo',tO P [] sl true n0 N all.toArray o (qv E) lo (qv E') lo'/\R E' lo':=by
 unfold qds at h;unfold tO;simp only[VD];obtain⟨g,q,h⟩:=Br h;split at h
 ·rename_i F
  have he:QY o.op=false:=by
   cases O:o.op<;>simp[O,XM]at F<;>rfl
  split at h
  ·rename_i t x G
   obtain⟨T,h,z⟩:=qZ h;have sem:∀ {f:List AObj} {j:FV},Vh P t f T (fun v=>v=j)->du P o (qv E) f g j f:=by
    intro f j h;obtain⟨U,h,y⟩:=EG h;subst h;intro q bs ρ H w eval s K;obtain⟨a,u,_,I,L⟩:=y bs ρ H w _ s (z ρ H _ q (K x (by simp[G,ke])));simp only[execOp,G];exact xa s I L
   unfold qfz at h;split at h
   ·rename_i k off
    split at h
    ·rename_i V
     obtain⟨j,ob,h,B,X,m⟩:=qf0 h;obtain⟨A,E',C,h⟩:=ue h;refine⟨E',lo,⟨g,j,q,A,C,.inr (.inl ⟨he,F,rfl,sem (m lo B),fun _ _=>⟨some (k,ob),fun k' J e=>?_,fun f h2=>sem (m f (h2 k ob rfl))⟩⟩)⟩,h⟩
     cases e;exact⟨V,X,B⟩
    exact h.elim
   ·rename_i row
    have h1:∃ j,(putK N o.dst (mj g j) E fun E=>R E lo)/\∀ f,Vh P t f (.hptr row) (fun v=>v=j):=by
     unfold Vh at h;obtain⟨d,i,A,hi,h⟩:=th h;have typeI:∀ {R:Bool->Nat->Prop},R (qll d) i.size->VQ P t R:=by
      intro R h;unfold VQ;simp only[A,hi];exact h
     split at h
     ·rename_i D
      obtain⟨h,hn⟩:=Qo h;refine⟨_,h,fun f=>?_⟩;unfold Vh;refine typeI ?_;rw[D];have takeI:∀ {n:Nat} {l:List PV} {R:List PV->Prop},n<=l.length->R (l.take n)->Lz n l R:=by
       intro n
       induction n with
       | zero=>intro l R _ h; simpa[Lz]using h
       | succ n ih=>
        intro l R F h;cases l with
        | nil=>simp at F
        | cons a l=>exact ih (l:=l) (R:=fun l=>R (a::l)) (by simpa using F) (by simpa using h)
      exact takeI hn rfl
     rename_i D;split at h
     ·rename_i c r
      refine⟨_,h,fun f=>?_⟩;unfold Vh;refine typeI ?_;rw[D]
     exact h.elim
    obtain⟨j,h,m⟩:=h1;obtain⟨A,E',C,h⟩:=ue h;exact⟨E',lo,⟨g,j,q,A,C,.inr (.inl ⟨he,F,rfl,sem (m lo),fun _ _=>⟨none,fun k' J e=>(by cases e),fun f _=>sem (m f)⟩⟩)⟩,h⟩
   exact h.elim
  ·rename_i sr d x G
   obtain⟨T,h,z⟩:=qZ h;have key:∃ j,(putK N o.dst (mj g j) E fun E=>R E lo)/\∀ f,du P o (qv E) f g j f:=by
    unfold qlz at h;split at h
    ·rename_i p
     obtain⟨j,h,y⟩:=Bt h;refine⟨j,h,fun f q bs ρ H w eval s K=>?_⟩;have s0:SatW { S:=iJ,w0:=w,H0:=H,r0:=[] } [] H [] w:={ sath:=s.sath,hlen:=rfl,pre:=jq _,objs:=fun k o v h=>by simp at h,excl:=fun k _ o _ v _ b h=>by simp at h,own:=fun k o v b h=>by simp at h,keep:=Keep.refl _ w,leH:=PH.le.refl H,newH:=fun b o v h=>.inl ⟨v,h⟩ }
     have rx:=z ρ H _ q (K x (by simp[G,ke]));obtain⟨u,I,L⟩:=y q _ [] H w _ s0 rx;simp only[execOp,G];exact xa s I (L.mono (List.nil_prefix) (PH.le.refl H))
    ·rename_i k rows
     have h':Hs P g sr d [] (.p (.sl rows)) fun v=>putK N o.dst (mj g v) E fun E=>R E lo:=h
     obtain⟨j,h,y⟩:=Bt h';refine⟨j,h,fun f q bs ρ H w eval s K=>?_⟩;have s0:SatW { S:=iJ,w0:=w,H0:=H,r0:=[] } [] H [] w:={ sath:=s.sath,hlen:=rfl,pre:=jq _,objs:=fun k o v h=>by simp at h,excl:=fun k _ o _ v _ b h=>by simp at h,own:=fun k o v b h=>by simp at h,keep:=Keep.refl _ w,leH:=PH.le.refl H,newH:=fun b o v h=>.inl ⟨v,h⟩ }
     have rx:=z ρ H _ q (K x (by simp[G,ke]));obtain⟨u,I,L⟩:=y q _ [] H w _ s0 rx.2;simp only[execOp,G];exact xa s I (L.mono (List.nil_prefix) (PH.le.refl H))
    exact h.elim
   obtain⟨j,h,y⟩:=key;obtain⟨A,E',C,h⟩:=ue h;exact⟨E',lo,⟨g,j,q,A,C,.inr (.inl ⟨he,F,rfl,y lo,fun _ _=>⟨none,fun k' J e=>(by cases e),fun f _=>y f⟩⟩)⟩,h⟩
  ·rename_i t x i ok G
   have Y:=qZ h; clear h; obtain⟨T,h,z⟩:=Y;have Y:=qZ h; clear h; obtain⟨i',h,Z⟩:=Y;unfold qbf at h;split at h
   ·rename_i k
    split at h
    ·rename_i V
     obtain⟨j,ob,h,B,X,m⟩:=oC h;obtain⟨A,E',C,h⟩:=ue h;have sem:∀ {f:List AObj},f[k]? =some ob->du P o (qv E) f g j f:=by
      intro f h2;obtain⟨U,e,y⟩:=Nv G z Z (m f h2);subst e;exact y
     refine⟨E',lo,⟨g,j,q,A,C,.inr (.inl ⟨he,F,rfl,sem B,fun _ _=>⟨some (k,ob),fun k' J e=>?_,fun f h2=>sem (h2 k ob rfl)⟩⟩)⟩,h⟩
     cases e;exact⟨V,X,B⟩
    exact h.elim
   exact h.elim
  exact h.elim
 rename_i F;split at h
 ·rename_i he
  split at h
  ·obtain⟨j,lo',h,I,y⟩:=EF h
   obtain⟨A,E',C,h⟩:=ue h;exact⟨E',lo',⟨none,j,q,A,C,.inl ⟨he,rfl,y,I.ok (fun _=>M)⟩⟩,h⟩
  exact h.elim
 rename_i he;obtain⟨j,h,y⟩:=Ny h;obtain⟨A,E',C,h⟩:=ue h;exact⟨E',lo,⟨g,j,q,A,C,.inr (.inr ⟨he,F,rfl,y⟩)⟩,h⟩
section
variable {P:Program} {N:Nat} {ops:Array Oper} {Q:Exit->Act->World->Prop}
theorem qfg {tmps:Array Value} {d:Nat} {b:Bool} (h:tmps.getD d undef=.bool b):tmps[d]? =some (.bool b):=by
 rw[jX]at h;cases a:tmps[d]? with
 | none=>simp[a,undef]at h
 | some v=>simp[a]at h; rw[h]
theorem Sat.put {bs:Base} {ρ ρ':List Value} {H H':PH} {e:Nat->FV} {lo lo':List AObj} {a:Act} {w w':World} {d:Option Tmp} {v:Value} {c:FV}
  (s:Sat bs N ρ H e lo a w) (f:ρ <+: ρ') (g:PH.le H H') (i:SatW bs ρ' H' lo' w') (j:∀ t,d=some t->t<N) (k:zo ρ' H' c v) :
  Sat bs N ρ' H' (upd e d c) lo' (a.put d v) w':=by
 refine{ i with slots:=fun t=>?_,width:=?_,defers:=?_ }
 ·cases d with
  | none=>exact(s.slots t).mono f g
  | some d=>
   have b:d<a.tmps.size:=by rw[s.width]; exact j d rfl
   simp only[upd,Act.put];by_cases h:t=d
   ·subst h
    simp[jX,b,k]
   simp only[h,if_false];have:=(s.slots t).mono f g
   rwa [show(a.tmps.setIfInBounds d v).getD t undef=a.tmps.getD t undef by
    rw[jX,jX,Array.getElem?_setIfInBounds_ne (Ne.symm h)]]
 ·cases d<;>simp[Act.put,s.width]
 cases d<;>exact s.defers
theorem aR {o:Oper} {e:Nat->FV} {g:G} {a:Act} (i:fR ops o e g) {ρ:List Value} {H:PH} (m:∀ t,zo ρ H (e t) (a.tmps.getD t undef)) :
  Region.wanted o (yielded ops a.tmps)=g.getD true:=by
 unfold fR at i;unfold Region.wanted;split at i
 ·rename_i h; simp[h,i]
 rename_i j c h;obtain⟨oj,d,b,f,k,l⟩:=i;simp only[h];rcases l with ⟨he,rfl⟩|⟨n,he,rfl⟩
 ·have h1:=m d
  rw[he]at h1;have h2:=qfg (rG h1);simp only[yielded,f,Option.bind_some,k,h2];cases c<;>cases b<;>rfl
 ·have h1:=m d
  rw[he]at h1;cases n with
  | true=>
   have h2:=qfg (rG (ρ:=ρ) (H:=H) (b:=b) (by simpa only[zo,if_true]using h1));simp only[yielded,f,Option.bind_some,k,h2];cases c<;>cases b<;>rfl
  | false=>
   have h2:a.tmps.getD d undef=undef:=by simpa[zo]using h1
   have h3:∀ b,a.tmps[d]? ≠some (.bool b):=fun b l=>by
    rw[jX,l]at h2;simp[undef]at h2
   have h4:yielded ops a.tmps j=none:=by
    simp only[yielded,f,Option.bind_some,k]
    try (split<;>first|rfl|exact absurd (by assumption) (h3 _))
   rw[h4];cases c<;>rfl
theorem tO.wp {bs:Base} {ρ:List Value} {H:PH} {o:Oper} {e y:Nat->FV} {lo lo':List AObj} {a:Act} {w:World} {K:Act->World->Prop} {i:Nat} (A:ops[i]? =some o)
  {inl:List Nat} {m:Bool} {n0:Nat} (st:tO P inl inl m n0 N ops o e lo y lo') (s:Sat bs N ρ H e lo a w) (l:∀ ρ' H' a' w',Sat bs N ρ' H' y lo' a' w'->K a' w'):wpOp P ops Q i K a w:=by
 obtain⟨g,k,B,z,rfl,d⟩:=st;unfold wpOp;simp only[A];rw[aR B s.slots];have sem:gOn g->eJ P bs ρ H k lo' ((execOp a.eval o).run P w):=by
  intro c;have p:=fun x (_:x∈o.op.operands)=>Ui s.slots x
  rcases d with ⟨_,rfl,d,_⟩|⟨_,_,rfl,d⟩|⟨_,_,rfl,d⟩
  ·exact d c bs ρ H w a.eval s.toSatW p
  ·exact d.1 c bs ρ H w a.eval s.toSatW p
  exact d _ c bs ρ H w a.eval s.toSatW p
 have run:∀ j,(∀ ρ' H' v,zo ρ' H' k v->zo ρ' H' j v)->(∀ ρ' H' a' w',Sat bs N ρ' H' (upd e o.dst j) lo' a' w'->K a' w')->gOn g->o.wp P a w K Q:=by
  intro j C q c;have h:=sem c;have fin:∀ v w',ZN bs ρ H k lo' v w'->K (a.put o.dst v) w':=fun v w' ⟨ρ',H',h1,h2,h3,h4⟩=>q _ _ _ _ (s.put h1 h2 h3 z (C _ _ _ h4))
  unfold Oper.wp;generalize (execOp a.eval o).run P w=r at *;cases r with
  | ok n w'=>
   cases n<;>simp only[eJ]at h<;>simp only[Oper.upon]
   case value v=>exact fin v w' h
   case skip=>exact fin undef w' h
   case enter f args=>exact h.mono fun E t ⟨v,D,h1⟩=>by subst D; exact fin v t h1
  | halt x w'=>simp only[eJ]at h
 cases g with
 | none=>exact .inl (run k (fun _ _ _ h=>h) l trivial)
 | some b=>
  cases b with
  | true=>exact .inl (run _ (fun _ _ _ h=>by simpa[mj,zo]using h) l rfl)
  | false=>
   have u:lo'=lo:=by
    rcases d with ⟨_,h,_⟩|⟨_,_,h,_⟩|⟨_,_,h,_⟩
    ·cases h
    ·exact h
    exact h
   subst u;exact l _ _ _ _ (s.put (jq _) (PH.le.refl H) s.toSatW z (by simp[mj,zo]))
def fb (P:Program) (f:FuncId) (args:List FV) (lo:List AObj) (R:FV->List AObj->Prop):Prop:=
 ∀ (bs:Base) (ρ:List Value) (H:PH) (w:World) (vs:List Value),SatW bs ρ H lo w->xL ρ H args vs ->
  match (callFunc f vs.toArray).run P w with
  | .ok (.value v) w'=>∃ r lo',ZN bs ρ H r lo' v w'/\R r lo'
  | .ok (.enter f' args') w'=>w'=w/\Calls P f' args' w fun b a=>∃ v r lo',b=.returned v/\ZN bs ρ H r lo' v a/\R r lo'
  | _=>False
theorem fb.mono {f:FuncId} {args:List FV} {lo:List AObj} {R R':FV->List AObj->Prop} (h:fb P f args lo R) (b:∀ r lo,R r lo->R' r lo):fb P f args lo R':=by
 intro bs ρ H w vs s c;have:=h bs ρ H w vs s c;generalize (callFunc f vs.toArray).run P w=x at *;cases x with
 | ok n w'=>
  cases n<;>simp only at this ⊢ <;> try exact this
  ·obtain⟨r,lo',a,k⟩:=this; exact⟨r,lo',a,b _ _ k⟩
  exact⟨this.1,this.2.mono fun g d ⟨v,r,lo',e,a,k⟩=>⟨v,r,lo',e,a,b _ _ k⟩⟩
 | halt x w'=>exact this
def RA (v:FV) (lo:List AObj) (no:Prop) (R:List AObj->Prop):Prop:=
 match v with
 | .ptr k off=>UK k lo fun o=>match o with
  | .box T cells=>Ng off cells fun cs=>match cs with
   | .bself j::_=>(VJ off [.p .nilp] cells fun cells'=>Bz k (.box T cells') lo R)/\(VJ off [.ptr j 0] cells fun cells'=>Bz k (.box T cells') lo R)
   | _=>no
  | _=>no
 | _=>no
theorem xL.over {ρ:List Value} {H:PH}:∀ {cs:List FV} {vs:List Value} {off:Nat} {c:FV} {v:Value},xL ρ H cs vs->vs[off]? =some v->zo ρ H c v ->
  xL ρ H (cs.take off++[c]++cs.drop (off+1)) vs
 | [],vs,off,c,v,h,hv,r=>by simp only[xL]at h; subst h; simp at hv
 | d::cs,vs,0,c,v,h,hv,r=>by
  obtain⟨u,a,rfl,_,rs⟩:=h;simp only[jd,Option.some.injEq]at hv;subst hv;simpa using⟨u,a,rfl,r,rs⟩
 | d::cs,vs,off+1,c,v,h,hv,r=>by
  obtain⟨u,a,rfl,b,rs⟩:=h;have:=rs.over (off:=off) (c:=c) (v:=v) (by simpa using hv) r;have e:(d::cs).drop (off+1+1)=cs.drop (off+1):=rfl;rw[List.take_succ_cons,e,List.cons_append,List.cons_append];exact⟨u,a,rfl,b,this⟩
theorem SatW.rebox {bs:Base} {ρ:List Value} {H:PH} {lo:List AObj} {w:World} {k:Nat} {T:TypeId} {cells cells':List FV} (s:SatW bs ρ H lo w) (g:lo[k]? =some (.box T cells))
  (h:∀ vs,xL ρ H cells vs->ρ[k]? ≠none->(∃ b,ρ[k]? =some (.pointer (some ⟨b,0,none⟩))/\w.heap[b]? =some (.cells vs.toArray T (0,0)))->xL ρ H cells' vs):SatW bs ρ H (lo.set k (.box T cells')) w where
 sath:=s.sath
 hlen:=by simpa using s.hlen
 pre:=s.pre
 objs:=fun i o v a c=>by
  rw[jF]at a;split at a
  ·rename_i e
   subst e;split at a
   ·cases a
    obtain⟨b,vs,rfl,p,q,r⟩:=s.objs _ _ _ g c;exact⟨b,vs,rfl,p,h vs q (by rw[c]; simp) ⟨b,c,p⟩,r⟩
   cases a
  ·exact s.objs i o v a c
 excl:=fun i j o o' v v' b a t c l m d n f=>by
  have key:∀ {i:Nat} {o:AObj},(lo.set k (.box T cells'))[i]? =some o->o.live=true->∃ o2,lo[i]? =some o2/\o2.live=true:=by
   intro i o a d;rw[jF]at a;split at a
   ·rename_i e; subst e; exact⟨_,g,rfl⟩
   exact⟨o,a,d⟩
  obtain⟨o2,h2,u⟩:=key a d;obtain⟨x,h3,y⟩:=key t n;exact s.excl i j o2 x v v' b h2 h3 c l m u y f
 own:=fun i o v b a c d f=>by
  rw[jF]at a;split at a
  ·rename_i e; subst e; exact s.own _ _ v b g c rfl f
  exact s.own i o v b a c d f
 keep:=s.keep
 leH:=s.leH
 newH:=s.newH
theorem eM {bs:Base} {ρ:List Value} {H:PH} {e:Nat->FV} {lo:List AObj} {a:Act} {w:World} {v:FV} {no:Prop} {R:List AObj->Prop} (h:RA v lo no R) (s:Sat bs N ρ H e lo a w) :
  no\/∃ lo',R lo'/\Sat bs N ρ H e lo' a w:=by
 unfold RA at h;split at h
 ·rename_i k off
  obtain⟨o,q,h⟩:=xk h;split at h
  ·rename_i T cells
   obtain⟨h,z⟩:=Qh h;split at h
   ·rename_i j cs t
    have C:cells[off]? =some (.bself j):=by
     have:=congrArg (fun l=>l[0]?) t
     simpa using this
    obtain⟨h1,h2⟩:=h;obtain⟨h1,_⟩:=ZJ h1;obtain⟨h2,_⟩:=ZJ h2;obtain⟨h1,_⟩:=fg h1;obtain⟨h2,_⟩:=fg h2
    right
    have g:k<ρ.length:=by rw[s.hlen]; exact(jG.1 q).1
    obtain⟨b,vs,D,E,m,_⟩:=s.objs k _ _ q (jf g);have get:∀ {cs:List FV} {vs:List Value} {i:Nat} {c:FV},xL ρ H cs vs->cs[i]? =some c->∃ v,vs[i]? =some v/\zo ρ H c v:=by
     intro cs
     induction cs with
     | nil=>intro vs i c _ h; simp at h
     | cons d cs ih=>
      intro vs i c x h;obtain⟨v,F,rfl,r,rs⟩:=x;cases i with
      | zero=>simp at h; subst h; exact⟨v,by simp,r⟩
      | succ i=>simp at h; obtain⟨u,hu,G⟩:=ih rs h; exact⟨u,by simpa using hu,G⟩
    obtain⟨x,A,I,J,y⟩:=get m C;have uniq:∀ f,(∃ b,ρ[k]? =some (.pointer (some ⟨b,0,none⟩))/\w.heap[b]? =some (.cells f.toArray T (0,0)))->f=vs:=by
     rintro f ⟨K,B,n⟩;rw[jf g,D]at B;cases B;rw[E]at n;have:=congrArg Array.toList (Obj.cells.inj (Option.some.inj n)).1;simpa using this.symm
    rcases y with rfl|rfl
    ·refine⟨_,h1,{ (s.toSatW.rebox (cells':=cells.take off++[.p .nilp]++cells.drop (off+1)) q fun f r _ hw=>?_)with slots:=s.slots,width:=s.width,defers:=s.defers }⟩
     have:=uniq f hw;subst this;exact r.over A (by simp[zo,zn])
    refine⟨_,h2,{ (s.toSatW.rebox (cells':=cells.take off++[.ptr j 0]++cells.drop (off+1)) q fun f r _ hw=>?_)with slots:=s.slots,width:=s.width,defers:=s.defers }⟩;have:=uniq f hw;subst this;exact r.over A ⟨I,J,rfl⟩
   exact .inl h
  exact .inl h
 exact .inl h
def qqo {α:Type}:List α->List α->(List α->Prop)->Prop
 | [],m,R=>R m
 | a::l,m,R=>qqo l m fun l=>R (a::l)
def GY (P:Program) (inl:List Nat) (N:Nat) (all:List Oper) (o:Oper) (E:Env) (lo:List AObj) (R:Env->List AObj->Prop):Prop:=
 match o.op with
 | .call { callee:=.value (.func f),args:=⟨xs⟩,argTypes:=_ }=>match DS inl f with
  | true=>match o.guard with
   | none=>evL E none xs fun vs=>fb P f vs lo fun r lo=>putK N o.dst r E fun E=>R E lo
   | some _=>QX all o E fun g=>match g with
    | some b=>(b=true->evL E (some b) xs fun vs=>fb P f vs lo fun r lo=>putK N o.dst (.opt b r) E fun E=>R E lo)/\(b=false->∃ v,putK N o.dst (.opt b v) E fun E=>R E lo)
    | none=>False
  | false=>BC P N all o E lo R
 | .call { callee:=.builtin .len,args:=⟨[x]⟩,argTypes:=⟨[t]⟩ }=>ev E x fun v=>match v with
  | .mref k=>match o.guard with
   | none=>qmx P t lo (.mref k) fun v=>putK N o.dst v E fun E=>R E lo
   | some _=>False
  | _=>BC P N all o E lo R
 | .buildSlice t n ⟨parts⟩=>match eh inl o.dst with
  | true=>match o.guard with
   | none=>TA P E lo t n parts fun v lo=>putK N o.dst v E fun E=>R E lo
   | some _=>False
  | false=>BC P N all o E lo R
 | .convert sr d x=>match eh inl o.dst with
  | true=>match o.guard with
   | none=>evS E none x fun x=>qfv P sr d lo x fun v lo=>putK N o.dst v E fun E=>R E lo
   | some _=>False
  | false=>BC P N all o E lo R
 | .alloc t=>match eh inl o.dst with
  | true=>match o.guard with
   | none=>Ty P t lo fun v lo=>putK N o.dst v E fun E=>R E lo
   | some _=>False
  | false=>BC P N all o E lo R
 | .load t x=>ev E x fun v=>match v with
  | .eptr k z i off=>match o.guard with
   | none=>qbe P t lo k z i off fun v=>putK N o.dst v E fun E=>R E lo
   | some _=>False
  | v=>RA v lo (BC P N all o E lo R) (fun lo'=>BC P N all o E lo' R)
 | op=>match o.guard with
  | none=>Nw P inl o.dst op E lo (BC P N all o E lo R) fun v lo=>putK N o.dst v E fun E=>R E lo
  | some _=>BC P N all o E lo R
def qca (P:Program) (inl:List Nat) (N:Nat) (all:List Oper) (K:Env->List AObj->Prop):List Oper->Env->List AObj->Prop
 | [],E,lo=>K E lo
 | o::rest,E,lo=>GY P inl N all o E lo (qca P inl N all K rest)
theorem lg {α:Type}:∀ {l m:List α} {R:List α->Prop},qqo l m R->R (l++m)
 | [],m,R,h=>h
 | a::l,_,R,h=>lg (l:=l) (R:=fun l=>R (a::l)) h
theorem BB {bs:Base} {all:List Oper} {inl:List Nat} {o:Oper} {i:Nat} (L:all[i]? =some o) {ρ:List Value} {H:PH} {E:Env} {lo:List AObj} {a:Act} {w:World} {R:Env->List AObj->Prop} {K:Act->World->Prop}
  (s:Sat bs N ρ H (qv E) lo a w) (h:GY P inl N all o E lo R) (J:∀ E' lo' ρ' H' D w',R E' lo'->Sat bs N ρ' H' (qv E') lo' D w'->K D w'):wpOp P all.toArray Q i K a w:=by
 have plain:∀ lo,Sat bs N ρ H (qv E) lo a w->BC P N all o E lo R->wpOp P all.toArray Q i K a w:=by
  intro lo s h;obtain⟨E',lo',st,h⟩:=NV h;exact st.wp (by simpa using L) s fun ρ' H' D w' F=>J E' lo' ρ' H' D w' h F
 have A:all.toArray[i]? =some o:=by simpa using L
 have fin:∀ v w',(∃ r lo',ZN bs ρ H r lo' v w'/\putK N o.dst r E fun E=>R E lo')->K (a.put o.dst v) w':=by
  rintro v w' ⟨r,lo',⟨ρ',H',h1,h2,h3,h4⟩,hp⟩;obtain⟨G,E',I,M⟩:=ue hp;exact J E' lo' ρ' H' _ w' M (by rw[I]; exact s.put h1 h2 h3 G h4)
 have value:o.guard=none->(∃ v w' r lo',(execOp a.eval o).run P w=.ok (.value v) w'/\ZN bs ρ H r lo' v w'/\putK N o.dst r E fun E=>R E lo')->wpOp P all.toArray Q i K a w:=by
  rintro j ⟨v,w',r,lo',l,m,hp⟩;unfold wpOp;simp only[A,Region.wanted,j,if_true];refine .inl ?_;unfold Oper.wp;rw[l];simp only[Oper.upon];exact fin v w' ⟨r,lo',m,hp⟩
 have calls:o.guard=none->∀ (f:FuncId) (vs:List FV) (us:List Value),xL ρ H vs us->(execOp a.eval o).run P w=(callFunc f us.toArray).run P w->(fb P f vs lo fun r lo=>putK N o.dst r E fun E=>R E lo)->wpOp P all.toArray Q i K a w:=by
  intro j f vs us O l h;have:=h bs ρ H w us s.toSatW O;unfold wpOp;simp only[A,Region.wanted,j,if_true];refine .inl ?_;unfold Oper.wp;rw[l];generalize (callFunc f us.toArray).run P w=x at *;cases x with
  | ok n w'=>
   cases n<;>simp only at this<;>simp only[Oper.upon]
   case value v=>exact fin v w' this
   case enter f' args'=>
    obtain⟨rfl,u⟩:=this;exact u.mono fun X B ⟨v,r,lo',e,m,k⟩=>by subst e; exact fin v B ⟨r,lo',m,k⟩
   all_goals exact this.elim
  | halt x w'=>exact this.elim
 unfold GY at h;split at h
 ·rename_i f xs Z c
  split at h
  ·rename_i hm
   split at h
   ·rename_i j
    obtain⟨vs,h,C⟩:=XL h;refine calls j f vs (xs.map a.eval) (C ρ H a.eval trivial (fun x _=>Ui s.slots x)) ?_ h
    have S:a.eval (.func f)=.func (.func f) #[] #[]:=rfl;simp only[execOp,c,resolve,Deferred.ofValue,invoke,S,kc,kd,kb,ka,Array.empty_append,Array.append_empty]
   obtain⟨g,j,h⟩:=Br h;split at h
   ·rename_i b
    unfold wpOp;simp only[A];rw[aR j s.slots];cases b with
    | true=>
     obtain⟨vs,h,C⟩:=XL (h.1 rfl);have O:=C ρ H a.eval rfl (fun x _=>Ui s.slots x)
     have u:=h bs ρ H w _ s.toSatW O;refine .inl ?_;have fin2:∀ v w',(∃ r lo',ZN bs ρ H r lo' v w'/\putK N o.dst (.opt true r) E fun E=>R E lo')->K (a.put o.dst v) w':=by
      rintro v w' ⟨r,lo',⟨ρ',H',h1,h2,h3,h4⟩,hp⟩;exact fin v w' ⟨.opt true r,lo',⟨ρ',H',h1,h2,h3,by simpa[zo]using h4⟩,hp⟩
     unfold Oper.wp;have S:a.eval (.func f)=.func (.func f) #[] #[]:=rfl;simp only[execOp,c,resolve,Deferred.ofValue,invoke,S,kc,kd,kb,ka,Array.empty_append,Array.append_empty];generalize (callFunc f (List.map a.eval xs).toArray).run P w=x at *;cases x with
     | ok n w'=>
      cases n<;>simp only at u<;>simp only[Oper.upon]
      case value v=>exact fin2 v w' u
      case enter f' args'=>
       obtain⟨rfl,u⟩:=u;exact u.mono fun X B ⟨v,r,lo',e,m,k⟩=>by subst e; exact fin2 v B ⟨r,lo',m,k⟩
      all_goals exact u.elim
     | halt x w'=>exact u.elim
    | false=>
     obtain⟨v,hp⟩:=h.2 rfl;obtain⟨G,E',I,M⟩:=ue hp;exact J E' lo ρ H _ w M (by rw[I]; exact s.put (jq _) (PH.le.refl H) s.toSatW G (by simp[zo]))
   exact h.elim
  exact plain lo s h
 ·rename_i x t c
  rw[Zx]at h;split at h
  ·rename_i k T
   split at h
   ·rename_i j
    have y:=qc4 h; clear h; obtain⟨p,h,q⟩:=y;have rx:=Ui s.slots x;rw[T]at rx;obtain⟨v,l,U⟩:=q bs ρ H w o.type _ s.toSatW rx;refine value j ⟨v,w,p,lo,?_,cv s.toSatW U,h⟩;simp only[execOp,c,resolve,invoke,builtin,kc,kd,kb,ka,jk,jN,l]
   exact h.elim
  exact plain lo s h
 ·rename_i t n parts c
  split at h
  ·split at h
   ·rename_i j
    have y:=Hr h; clear h; obtain⟨p,lo',h,_,q⟩:=y;obtain⟨v,w',l,m⟩:=q bs ρ H w a.eval s.toSatW (fun x _=>Ui s.slots x)
    refine value j ⟨v,w',p,lo',?_,m,h⟩;simp only[execOp,c,ka,kc,l,kb,kd]
   exact h.elim
  exact plain lo s h
 ·rename_i sr d x c
  split at h
  ·split at h
   ·rename_i j
    have y:=qZ h; clear h; obtain⟨x',h,V⟩:=y;have y:=ot h; clear h; obtain⟨p,lo',h,q⟩:=y;obtain⟨v,w',l,m⟩:=q bs ρ H w _ s.toSatW (V ρ H _ trivial (Ui s.slots x));refine value j ⟨v,w',p,lo',?_,m,h⟩;simp only[execOp,c,kc,l,kb,kd]
   exact h.elim
  exact plain lo s h
 ·rename_i t c
  split at h
  ·split at h
   ·rename_i j
    obtain⟨p,lo',h,_,q⟩:=Hq h;obtain⟨v,w',l,m⟩:=q bs ρ H w s.toSatW;refine value j ⟨v,w',p,lo',?_,m,h⟩;simp only[execOp,c,kc,l,kb,kd]
   exact h.elim
  exact plain lo s h
 ·rename_i t x c
  rw[Zx]at h;split at h
  ·rename_i k z i off T
   split at h
   ·rename_i j
    have y:=Nu h; clear h; obtain⟨p,h,q⟩:=y;have rx:=Ui s.slots x;rw[T]at rx;obtain⟨v,l,U⟩:=q bs ρ H w _ s.toSatW rx;refine value j ⟨v,w,p,lo,?_,cv s.toSatW U,h⟩;simp only[execOp,c,kc,l,kb,kd]
   exact h.elim
  rcases eM h s with h|⟨lo',h,F⟩
  ·exact plain lo s h
  exact plain lo' F h
 split at h
 ·rename_i j
  rcases RJ h with h|⟨p,lo',h,he,Y,l,q⟩
  ·exact plain lo s h
  obtain⟨G,E',I,h⟩:=ue h;have st:tO P inl inl false 0 N all.toArray o (qv E) lo (qv E') lo':=
   ⟨none,p,by simp[fR,j],G,I,.inl ⟨(Y o inl rfl).1,rfl,q o rfl,fun h=>by cases h⟩⟩
  exact st.wp (by simpa using L) s fun ρ' H' D w' F=>J E' lo' ρ' H' D w' h F
 exact plain lo s h
theorem HG {bs:Base} {all:List Oper} {inl:List Nat} {K:Env->List AObj->Prop} (b:∀ ρ H E lo a w,Sat bs N ρ H (qv E) lo a w->K E lo->Q .normal a w) :
  ∀ (l:List Oper) (k:Nat),(∀ j,l[j]? =all[k+j]?)->∀ (ρ:List Value) (H:PH) (E:Env) (lo:List AObj) (a:Act) (w:World),Sat bs N ρ H (qv E) lo a w->qca P inl N all K l E lo ->
   wpOps P all.toArray Q (List.range' k l.length) a w
 | [],k,_,ρ,H,E,lo,a,w,s,h=>by
  simp only[List.length_nil,List.range'_zero,wpOps];exact b ρ H E lo a w s h
 | o::l,k,hl,ρ,H,E,lo,a,w,s,h=>by
  rw[ja,List.range'_succ,wpOps_cons];refine BB (by have:=hl 0; simpa using this.symm) s h fun E' lo' ρ' H' c w' d e=>?_;exact HG b l (k+1) (fun j=>by have:=hl (j+1); simpa[Nat.add_assoc,Nat.add_comm 1 j]using this) ρ' H' E' lo' c w' e d
theorem Ru {bs:Base} {ρ:List Value} {H:PH} {E:Env} {lo:List AObj} {a:Act} {w:World} {K:Env->List AObj->Prop} {inl:List Nat} {id:Nat} {l:List Oper}
  (b:∀ ρ H E lo a w,Sat bs N ρ H (qv E) lo a w->K E lo->Q .normal a w) (s:Sat bs N ρ H (qv E) lo a w) (h:qca P inl N l K l E lo):(Code.region id l.toArray false).wp P Q a w:=by
 refine wp_region ?_;have:=HG (P:=P) b l 0 (by simp) ρ H E lo a w s h;simpa[List.range_eq_range']using this
def qlh (P:Program) (inl:List Nat) (m:Bool) (n0 N:Nat) (ops:Array Oper) (K:(Nat->FV)->List AObj->Prop):Nat->Array Bool->(Nat->FV)->List AObj->Prop
 | 0,listed,e,lo=>Region.ready .any ops listed=[]/\K e lo
 | fuel+1,listed,e,lo=>(Region.ready .any ops listed=[]->K e lo) /\
   ∀ i∈Region.ready .any ops listed,∃ o a lo',ops[i]? =some o/\tO P inl inl m n0 N ops o e lo a lo'/\qlh P inl m n0 N ops K fuel (listed.setIfInBounds i true) a lo'
theorem ZC {inl:List Nat} {m:Bool} {n0:Nat} {bs:Base} {K:(Nat->FV)->List AObj->Prop} (b:∀ ρ H e lo a w,Sat bs N ρ H e lo a w->K e lo->Q .normal a w) :
  ∀ (fuel:Nat) (listed:Array Bool) (ρ:List Value) (H:PH) (e:Nat->FV) (lo:List AObj) (a:Act) (w:World),Sat bs N ρ H e lo a w->qlh P inl m n0 N ops K fuel listed e lo->wpAny P .any ops Q fuel listed a w
 | 0,_,ρ,H,e,lo,a,w,s,h=>⟨h.1,b ρ H e lo a w s h.2⟩
 | fuel+1,listed,ρ,H,e,lo,a,w,s,h=>⟨fun c=>b ρ H e lo a w s (h.1 c),fun i d=>by
  obtain⟨o,f,lo',g,st,j⟩:=h.2 i d;exact st.wp g s fun ρ' H' k w' l=>ZC b fuel _ ρ' H' f lo' k w' l j⟩
theorem du.congr {o:Oper} {e a:Nat->FV} {lo lo':List AObj} {g:G} {b:FV} (h:du P o e lo g b lo') (he:∀ x∈o.op.operands,evF a x=evF e x):du P o a lo g b lo':=
 fun c bs ρ H w eval s d=>h c bs ρ H w eval s fun x hm=>by rw[← he x hm]; exact d x hm
theorem qe6 {e:Nat->FV} {d:Option Tmp} {v:FV} {o:Oper} (h:∀ t,d=some t->t ∉ o.looksAt ops):∀ x∈o.op.operands,evF (upd e d v) x=evF e x:=by
 intro x a;cases d with
 | none=>rfl
 | some d=>
  cases x with
  | tmp t=>
   have:t≠d:=fun b=>by
    subst b;exact h t rfl (List.mem_append_left _ (List.mem_filterMap.2 ⟨.tmp t,by simpa using a,rfl⟩))
   simp[evF,upd,this]
  | _=>rfl
theorem ly {e:Nat->FV} {d:Option Tmp} {v:FV} {o:Oper} {g:G} (h:∀ t,d=some t->t ∉ o.looksAt ops):fR ops o (upd e d v) g↔fR ops o e g:=by
 unfold fR;split
 ·exact Iff.rfl
 rename_i j k l;have key:∀ oj f,ops[j]? =some oj->oj.dst=some f->upd e d v f=e f:=by
  intro oj f a c;cases d with
  | none=>rfl
  | some d=>
   have:f≠d:=fun m=>by
    subst m;refine h f rfl (List.mem_append_right _ ?_);simp[l,a,c]
   simp[upd,this]
 constructor
 ·rintro⟨oj,f,b,a,c,i⟩
  rw[key oj f a c]at i;exact⟨oj,f,b,a,c,i⟩
 rintro⟨oj,f,b,a,c,i⟩;refine⟨oj,f,b,a,c,?_⟩;rw[key oj f a c];exact i
theorem qkl {e:Nat->FV} {d a:Option Tmp} {v v':FV} (h:∀ t,d=some t->a≠some t):upd (upd e d v) a v'=upd (upd e a v') d v:=by
 cases d with
 | none=>rfl
 | some d=>
  cases a with
  | none=>rfl
  | some a=>
   have b:a≠d:=fun c=>h d rfl (by rw[c])
   funext t;simp only[upd];by_cases h1:t=a
   ·have h2:t≠d:=fun h2=>b (by rw[← h1,← h2])
    simp[h1,b]
   by_cases h2:t=d
   ·have:¬ d=a:=fun h3=>b h3.symm
    simp[h2,this]
   simp[h1,h2]
def LD (inl:List Nat) (m:Bool) (oi oj:Oper):Bool:=!qes inl m oi oj&&!qes inl m oj oi
theorem Gz.congr {sl:List Nat} {m:Bool} {n0:Nat} {o:Oper} {e b:Nat->FV} {lo:List AObj} {g:G} {c:FV} (h:Gz P sl m n0 o e lo g c) (he:∀ x∈o.op.operands,evF b x=evF e x):Gz P sl m n0 o b lo g c:=
 ⟨h.1.congr he,fun hm d=>let ⟨kk,h1,h2⟩:=h.2 hm d; ⟨kk,h1,fun a h3=>(h2 a h3).congr he⟩⟩
theorem Gz.back {sl:List Nat} {m:Bool} {n0:Nat} {o j:Oper} {e:Nat->FV} {lo d:List AObj} {g:G} {l:FV} (h:Gz P sl m n0 o e d g l) (hm:m=true) (p:n0<=lo.length) (he:qcm sl m n0 j lo d) (hmild:lW sl j=true) (f:GW sl o=false):Gz P sl m n0 o e lo g l:=by
 obtain⟨n,h1,h2⟩:=h.2 hm f;have h3:=(he hm p).2 hmild;have h4:∀ k ob,n=some (k,ob)->lo[k]? =some ob:=fun k ob i=>let ⟨a,b,c⟩:=h1 k ob i; (h3 k ob a b).2 c
 exact⟨h2 lo h4,fun _ _=>⟨n,fun k ob i=>⟨(h1 k ob i).1,(h1 k ob i).2.1,h4 k ob i⟩,h2⟩⟩
theorem Gz.forth {sl:List Nat} {m:Bool} {n0:Nat} {o j:Oper} {e:Nat->FV} {lo d:List AObj} {g:G} {l:FV} (h:Gz P sl m n0 o e lo g l) (hm:m=true) (p:n0<=lo.length) (he:qcm sl m n0 j lo d) (hmild:lW sl j=true) (f:GW sl o=false):Gz P sl m n0 o e d g l:=by
 obtain⟨n,h1,h2⟩:=h.2 hm f;have h3:=(he hm p).2 hmild;have h4:∀ k ob,n=some (k,ob)->d[k]? =some ob:=fun k ob i=>let ⟨a,b,c⟩:=h1 k ob i; (h3 k ob a b).1 c
 exact⟨h2 d h4,fun _ _=>⟨n,fun k ob i=>⟨(h1 k ob i).1,(h1 k ob i).2.1,h4 k ob i⟩,h2⟩⟩
theorem tO.grow {inl:List Nat} {m:Bool} {n0:Nat} {o:Oper} {e b:Nat->FV} {lo lo':List AObj} (st:tO P inl inl m n0 N ops o e lo b lo') (a:m=true->n0<=lo.length):m=true->n0<=lo'.length:=by
 intro hm;obtain⟨g,d,_,_,_,c⟩:=st;rcases c with ⟨_,_,_,he⟩|⟨_,_,rfl,_⟩|⟨_,_,rfl,_⟩
 ·exact(he hm (a hm)).1
 ·exact a hm
 exact a hm
theorem tO.swap {inl:List Nat} {m:Bool} {n0:Nat} {oi oj:Oper} {e z A:Nat->FV} {lo t n:List AObj} (B:m=true->n0<=lo.length) (v:oi.apart ops oj=true) (o:LD inl m oi oj=true)
  (g:tO P inl inl m n0 N ops oi e lo z t) (d:tO P inl inl m n0 N ops oj z t A n):∃ u p,tO P inl inl m n0 N ops oj e lo u p/\tO P inl inl m n0 N ops oi u p A n:=by
 obtain⟨a1,a2,a3⟩:=Oper.apart_spec v;obtain⟨k,j,w,q,rfl,C⟩:=g;obtain⟨l,h,y,r,rfl,sj⟩:=d;have gj':=(ly a1).1 y;have gi':fR ops oi (upd e oj.dst (mj l h)) k:=(ly a3).2 w;have ci:∀ x∈oi.op.operands,evF (upd e oj.dst (mj l h)) x=evF e x:=qe6 a3;have cj:∀ x∈oj.op.operands,evF e x=evF (upd e oi.dst (mj k j)) x:=fun x D=>(qe6 a1 x D).symm;have a:upd (upd e oi.dst (mj k j)) oj.dst (mj l h)=upd (upd e oj.dst (mj l h)) oi.dst (mj k j):=qkl a2;simp only[LD,qes,ji,Bool.not_eq_true',Bool.and_eq_false_iff,Bool.or_eq_false_iff,Bool.not_eq_false']at o;rcases C with ⟨f,rfl,g,s⟩|⟨f,li,rfl,g⟩|⟨f,li,rfl,g⟩
 ·rcases sj with ⟨b,rfl,d,_⟩|⟨b,i,rfl,d⟩|⟨b,i,rfl,d⟩
  ·simp[f,b]at o
  ·
   have c:(m=true/\lW inl oi=true)/\GW inl oj=false:=by simpa[f,b,i]using o
   exact⟨_,lo,⟨l,h,gj',r,rfl,.inr (.inl ⟨b,i,rfl,(d.congr cj).back c.1.1 (B c.1.1) s c.1.2 c.2⟩)⟩,⟨_,j,gi',q,a,.inl ⟨f,rfl,g.congr ci,s⟩⟩⟩
  exact⟨_,lo,⟨l,h,gj',r,rfl,.inr (.inr ⟨b,i,rfl,fun lo=>(d lo).congr cj⟩)⟩,⟨_,j,gi',q,a,.inl ⟨f,rfl,g.congr ci,s⟩⟩⟩
 ·rcases sj with ⟨b,rfl,d,s⟩|⟨b,i,rfl,d⟩|⟨b,i,rfl,d⟩
  ·have c:(m=true/\lW inl oj=true)/\GW inl oi=false:=by simpa[f,b,li]using o
   exact⟨_,n,⟨_,h,gj',r,rfl,.inl ⟨b,rfl,d.congr cj,s⟩⟩,⟨k,j,gi',q,a,.inr (.inl ⟨f,li,rfl,(g.congr ci).forth c.1.1 (B c.1.1) s c.1.2 c.2⟩)⟩⟩
  ·exact⟨_,_,⟨l,h,gj',r,rfl,.inr (.inl ⟨b,i,rfl,d.congr cj⟩)⟩,⟨k,j,gi',q,a,.inr (.inl ⟨f,li,rfl,g.congr ci⟩)⟩⟩
  exact⟨_,_,⟨l,h,gj',r,rfl,.inr (.inr ⟨b,i,rfl,fun lo=>(d lo).congr cj⟩)⟩,⟨k,j,gi',q,a,.inr (.inl ⟨f,li,rfl,g.congr ci⟩)⟩⟩
 rcases sj with ⟨b,rfl,d,s⟩|⟨b,i,rfl,d⟩|⟨b,i,rfl,d⟩
 ·exact⟨_,n,⟨_,h,gj',r,rfl,.inl ⟨b,rfl,d.congr cj,s⟩⟩,⟨k,j,gi',q,a,.inr (.inr ⟨f,li,rfl,fun lo=>(g lo).congr ci⟩)⟩⟩
 ·exact⟨_,_,⟨l,h,gj',r,rfl,.inr (.inl ⟨b,i,rfl,d.congr cj⟩)⟩,⟨k,j,gi',q,a,.inr (.inr ⟨f,li,rfl,fun lo=>(g lo).congr ci⟩)⟩⟩
 exact⟨_,_,⟨l,h,gj',r,rfl,.inr (.inr ⟨b,i,rfl,fun lo=>(d lo).congr cj⟩)⟩,⟨k,j,gi',q,a,.inr (.inr ⟨f,li,rfl,fun lo=>(g lo).congr ci⟩)⟩⟩
def Mb (ops:Array Oper) (listed:Array Bool):Prop:=∀ (k:Nat) (ok:Oper),ops[k]? =some ok->listed.getD k false=true->∀ x∈ok.after,Region.binds .any x=true->listed.getD x.on false=true
theorem qfh (l:Array Bool) (j k:Nat) (h:l.getD k false=true):(l.setIfInBounds j true).getD k false=true:=by
 rw[jX,Array.getElem?_setIfInBounds];split
 ·split<;>rename_i h2 h3
  ·rfl
  rw[jX]at h; subst h2; rw[Array.getElem?_eq_none (by omega)]at h; exact h
 rw[jX]at h; exact h
theorem Mb.set {ops:Array Oper} {listed:Array Bool} (h:Mb ops listed) {j:Nat} (i:j∈Region.ready .any ops listed):Mb ops (listed.setIfInBounds j true):=by
 obtain⟨_,oj,b,a⟩:=mem_ready.1 i;intro k ok c d x f g;refine qfh _ _ _ ?_;by_cases e:k=j
 ·subst e
  have:ok=oj:=Option.some.inj (c.symm.trans b);subst this;exact a x f g
 refine h k ok c ?_ x f g;rw[getD_set_ne false (fun l=>e l.symm)]at d
 exact d
theorem HB {ops:Array Oper} {listed:Array Bool} (h:Mb ops listed) {i:Nat}:∀ (f j:Nat) (oj:Oper),ops[j]? =some oj->(∀ x∈oj.after,Region.binds .any x=true->listed.getD x.on false=true)->GR ops i f j=true->listed.getD i false=true
 | 0,_,_,_,_,b=>by simp[GR]at b
 | f+1,j,oj,hj,ha,b=>by
  simp only[GR,hj,jO]at b;rcases b with b|b
  ·obtain⟨x,c,a⟩:=Array.any_eq_true'.1 b
   simp only[ji,beq_iff_eq]at a;rw[← a.2];exact ha x c a.1
  obtain⟨x,c,a⟩:=Array.any_eq_true'.1 b;simp only[ji]at a;cases he:ops[x.on]? with
  | none=>
   cases f with
   | zero=>simp[GR]at a
   | succ f=>simp[GR,he]at a
  | some ox=>exact HB h f x.on ox he (fun y e d=>h x.on ox he (ha x c a.1) y e d) a.2
theorem Rw {inl:List Nat} {m:Bool} {n0:Nat} {K:(Nat->FV)->List AObj->Prop} {i:Nat} {oi:Oper} (M:ops[i]? =some oi) :
  ∀ (fuel:Nat) (listed:Array Bool) (e r:Nat->FV) (lo b:List AObj),
   (∀ j oj,ops[j]? =some oj->j≠i->listed.getD j true=false->(∀ x∈oj.after,Region.binds .any x=true->x.on≠i)->GR ops i ops.size j=false->oi.apart ops oj=true/\LD inl m oi oj=true) ->
   Mb ops listed->(m=true->n0<=lo.length)->i∈Region.ready .any ops listed->tO P inl inl m n0 N ops oi e lo r b ->
   qlh P inl m n0 N ops K fuel (listed.setIfInBounds i true) r b->qlh P inl m n0 N ops K (fuel+1) listed e lo:=by
 intro fuel
 induction fuel with
 | zero=>
  intro listed e r lo b _ _ _ f st H;refine⟨fun h=>(by rw[h]at f; cases f),fun j s=>?_⟩;by_cases a:j=i
  ·subst a; exact⟨oi,r,b,M,st,H⟩
  have:=ready_mono s a;rw[H.1]at this;cases this
 | succ fuel ih=>
  intro listed e r lo b hfree t O f st H;refine⟨fun h=>(by rw[h]at f; cases f),fun j s=>?_⟩;by_cases a:j=i
  ·subst a; exact⟨oi,r,b,M,st,H⟩
  obtain⟨oj,R,C,d,D,h1⟩:=H.2 j (ready_mono s a);obtain⟨g,c,u,l⟩:=mem_ready.1 s;have:c=oj:=Option.some.inj (u.symm.trans d);subst this;have v:∀ x∈c.after,Region.binds .any x=true->x.on≠i:=fun x he S E=>by
   have h1:=l x he S;have w:=(mem_ready.1 f).1;rw[E]at h1;rcases Nat.lt_or_ge i listed.size with p|p
   ·simp[p]at w h1; rw[w]at h1; cases h1
   simp[Array.getElem?_eq_none p]at h1
  have q:GR ops i ops.size j=false:=by
   cases F:GR ops i ops.size j with
   | false=>rfl
   | true=>
    have h1:=HB t _ j c d l F;have w:=(mem_ready.1 f).1;rcases Nat.lt_or_ge i listed.size with p|p
    ·simp[p]at w h1; rw[w]at h1; cases h1
    simp[Array.getElem?_eq_none p]at h1
  obtain⟨G,I⟩:=hfree j c d a g v q;obtain⟨y,n,o,z⟩:=tO.swap O G I st D;refine⟨c,y,n,d,o,ih (listed.setIfInBounds j true) y R n C (fun k ok T J A L q=>?_) (t.set (ready_mono s a |> fun _=>s)) (o.grow O) (ready_mono f (Ne.symm a)) z ?_⟩
  ·refine hfree k ok T J ?_ L q
   by_cases B:j=k
   ·subst B; exact g
   rw[getD_set_ne true B]at A; exact A
  rw[Array.setIfInBounds_comm _ _ a];exact h1
theorem Hm {inl:List Nat} {m:Bool} {listed:Array Bool} {i:Nat} {oi:Oper} (e:ops[i]? =some oi) (h:Region.effFree inl m ops listed i=true) (j:Nat) (oj:Oper) (d:ops[j]? =some oj) (a:j≠i)
  (b:listed.getD j true=false) (c:GR ops i ops.size j=false):LD inl m oi oj=true:=by
 simp only[Region.effFree,e,List.all_eq_true,List.mem_range]at h;have h1:=h j (Array.getElem?_eq_some_iff.1 d).1;simp only[d,jO,beq_iff_eq,a,false_or,b,jP]at h1;rcases h1 with h1|h1
 ·exact h1
 rw[c]at h1; cases h1
def leK (n0:Nat) (lo:List AObj) (R:Prop):Prop:=
 match n0 with
 | 0=>R
 | n0+1=>CA lo 0 fun n=>match Nat.ble (n0+1) n with
  | true=>R
  | false=>False
def DN (P:Program) (inl:List Nat) (m:Bool) (n0 N:Nat) (all:List Oper) (o:Oper) (E:Env) (lo:List AObj) (R:Env->List AObj->Prop):Prop:=
 match m with
 | false=>BC P N all o E lo R
 | true=>qds P inl n0 N all o E lo R
def DL (P:Program) (inl:List Nat) (m:Bool) (n0 N:Nat) (all:List Oper) (o:Oper) (E:Env) (lo:List AObj) (R:Env->List AObj->Prop):Prop:=
 match o.op with
 | .call { callee:=.value (.func f),args:=⟨xs⟩,argTypes:=_ }=>match DS inl f with
  | true=>match o.guard with
   | none=>evL E none xs fun vs=>match DS inl (86000000+f)with
    | false=>∃ r lo',fb P f vs lo (fun a b=>a=r/\b=lo')/\leK n0 lo' (putK N o.dst r E fun E=>R E lo')
    | true=>∃ r l,fb P f vs lo (fun a b=>a=r/\b=lo++l)/\qqo lo l fun lo'=>leK n0 lo' (putK N o.dst r E fun E=>R E lo')
   | some _=>False
  | false=>DN P inl m n0 N all o E lo R
 | .buildSlice t n ⟨parts⟩=>match eh inl o.dst with
  | true=>match o.guard with
   | none=>TA P E lo t n parts fun v lo=>putK N o.dst v E fun E=>R E lo
   | some _=>False
  | false=>DN P inl m n0 N all o E lo R
 | .alloc t=>match eh inl o.dst with
  | true=>match o.guard with
   | none=>Ty P t lo fun v lo=>putK N o.dst v E fun E=>R E lo
   | some _=>False
  | false=>DN P inl m n0 N all o E lo R
 | .convert _ _ _=>match eh inl o.dst with
  | true=>False
  | false=>DN P inl m n0 N all o E lo R
 | .store t (.tmp a) x=>match DS inl (50000000+a)with
  | true=>match o.guard with
   | none=>oF P inl n0 t (.tmp a) x E lo fun v lo=>putK N o.dst v E fun E=>R E lo
   | some _=>False
  | false=>DN P inl m n0 N all o E lo R
 | .load t x=>ev E x fun v=>match v with
  | .eptr k z i off=>match (match m with|false=>true|true=>GW inl o)with
   | true=>match o.guard with
    | none=>qbe P t lo k z i off fun v=>putK N o.dst v E fun E=>R E lo
    | some _=>False
   | false=>False
  | _=>DN P inl m n0 N all o E lo R
 | op=>match o.guard with
  | none=>Nw P inl o.dst op E lo (DN P inl m n0 N all o E lo R) fun v lo=>putK N o.dst v E fun E=>R E lo
  | some _=>DN P inl m n0 N all o E lo R
def aP (P:Program) (inl:List Nat) (m:Bool) (n0 N:Nat) (all:List Oper) (K:Env->List AObj->Prop):List Oper->Env->List AObj->Prop
 | [],E,lo=>K E lo
 | o::rest,E,lo=>DL P inl m n0 N all o E lo (aP P inl m n0 N all K rest)
theorem qbh {n0:Nat} {lo:List AObj} {R:Prop} (h:leK n0 lo R):R/\n0<=lo.length:=by
 unfold leK at h;split at h
 ·exact⟨h,jS _⟩
 have h:=ud h;rw[jx]at h;split at h
 ·rename_i a; exact⟨h,jh a⟩
 exact h.elim
theorem Ha {inl:List Nat} {m:Bool} {n0:Nat} {all:List Oper} {o:Oper} {E:Env} {lo:List AObj} {R:Env->List AObj->Prop} (X:m=false->n0=0) (h:DL P inl m n0 N all o E lo R) :
  ∃ E' lo',tO P inl inl m n0 N all.toArray o (qv E) lo (qv E') lo'/\R E' lo':=by
 have plain:bn inl o=QY o.op->tM inl o=false->(DN P inl m n0 N all o E lo R)->∃ E' lo',tO P inl inl m n0 N all.toArray o (qv E) lo (qv E') lo'/\R E' lo':=by
  intro e Y h;cases m with
  | false=>
   obtain rfl:=X rfl;obtain⟨E',lo',st,h⟩:=NV h;refine⟨E',lo',?_,h⟩;obtain⟨g,u,h1,h2,h3,h4⟩:=st;refine⟨g,u,h1,h2,h3,?_⟩;simp only[VD]at h4;simp only[e];rcases h4 with ⟨a,b,c,d⟩|⟨a,b,c,d⟩|h4
   ·exact .inl ⟨a,b,c,fun h=>by cases h⟩
   ·exact .inr (.inl ⟨a,b,c,d.1,fun h=>by cases h⟩)
   exact .inr (.inr h4)
  | true=>
   obtain⟨E',lo',st,h⟩:=qdt Y h;refine⟨E',lo',?_,h⟩;unfold tO at st ⊢;simp only[VD]at st;simp only[e];exact st
 unfold DL at h;split at h
 ·rename_i f xs U j
  split at h
  ·rename_i hm
   split at h
   ·rename_i y
    obtain⟨vs,h,Z⟩:=XL h;have main:∀ r lo',fb P f vs lo (fun a b=>a=r/\b=lo')->qcm inl m n0 o lo lo'->(putK N o.dst r E fun E=>R E lo')->∃ E' lo',tO P inl inl m n0 N all.toArray o (qv E) lo (qv E') lo'/\R E' lo':=by
     intro r lo' J hef h;obtain⟨A,E',B,h⟩:=ue h;refine⟨E',lo',⟨none,r,by simp[fR,y],A,B,.inl ⟨by simp[bn,j,hm],rfl,?_,hef⟩⟩,h⟩;intro _ bs ρ H w eval s D;have rl:=Z ρ H eval trivial (fun x hm'=>D x (by rw[j]; simp[ke,Call.operands,hm']))
     have:=J bs ρ H w _ s rl;have hf:eval (.func f)=.func (.func f) #[] #[]:=by
      have:=D (.func f) (by rw[j]; simp[ke,Call.operands]);simpa[evF,zo,zn]using this
     simp only[execOp,j,resolve,Deferred.ofValue,invoke,hf,kc,kd,kb,ka,Array.empty_append,Array.append_empty];generalize (callFunc f (List.map eval xs).toArray).run P w=x at *;cases x with
     | ok n w'=>
      cases n<;>simp only at this<;>simp only[eJ]
      case value v=>
       obtain⟨r',lo2,F,rfl,rfl⟩:=this;exact F
      case enter f' args'=>
       obtain⟨rfl,hcc⟩:=this;exact hcc.mono fun en w'' ⟨v,r',lo2,e,F,V,K⟩=>by subst V; subst K; exact⟨v,e,F⟩
      all_goals exact this.elim
     | halt x w'=>exact this.elim
    split at h
    ·rename_i hb
     obtain⟨r,lo',J,h⟩:=h;obtain⟨h,G⟩:=qbh h;exact main r lo' J (fun _ _=>⟨G,fun hmild=>by simp[j,Ro,lW,tM,hb]at hmild⟩) h
    obtain⟨r,l,J,h⟩:=h;have h:=lg h;obtain⟨h,G⟩:=qbh h;refine main r (lo++l) J (fun _ hn=>⟨G,fun _ k ob hk _=>?_⟩) h;rw[jB (Nat.lt_of_lt_of_le (oW hk).1 hn)]
   exact h.elim
  rename_i hm;exact plain (by simp only[bn,j,QY]; simpa using hm) (by simp[tM,j,hm]) h
 ·rename_i t n parts j
  split at h
  ·rename_i L
   split at h
   ·rename_i y
    obtain⟨u,lo',h,p,q⟩:=Hr h;obtain⟨A,E',B,h⟩:=ue h;have I:Ro o.op=true:=by simp[j,Ro]
    refine⟨E',lo',⟨none,u,by simp[fR,y],A,B,.inl ⟨by simp[bn,j,L],rfl,?_,vv.ok (fun _=>by simp[tM,j]) (by rw[I]; exact p)⟩⟩,h⟩
    intro _ bs ρ H w eval s D;obtain⟨v,w',p,F⟩:=q bs ρ H w eval s (fun x hx'=>D x (by rw[j]; simpa[ke]using hx'))
    simp only[execOp,j,ka,kc,p,kb,kd];exact F
   exact h.elim
  rename_i hm;exact plain (by simp only[bn,j,QY]; simpa using hm) (by simp[tM,j]) h
 ·rename_i t j
  split at h
  ·split at h
   ·rename_i y
    obtain⟨u,lo',h,p,q⟩:=Hq h;obtain⟨A,E',B,h⟩:=ue h;have I:Ro o.op=true:=by simp[j,Ro]
    refine⟨E',lo',⟨none,u,by simp[fR,y],A,B,.inl ⟨by simp[bn,j,QY],rfl,?_,vv.ok (fun _=>by simp[tM,j]) (by rw[I]; exact p)⟩⟩,h⟩
    intro _ bs ρ H w eval s D;obtain⟨v,w',p,F⟩:=q bs ρ H w s;simp only[execOp,j,kc,p,kb,kd];exact F
   exact h.elim
  exact plain (by simp[bn,j]) (by simp[tM,j]) h
 ·rename_i sr d x j
  split at h
  ·exact h.elim
  rename_i hm;exact plain (by simp only[bn,j,QY]; simpa using hm) (by simp[tM,j]) h
 ·rename_i t a x j
  split at h
  ·rename_i hs0
   split at h
   ·rename_i y
    obtain⟨u,lo',h,p,q⟩:=lL (m:=m) (n0:=n0) j h;obtain⟨A,E',B,h⟩:=ue h;exact⟨E',lo',⟨none,u,by simp[fR,y],A,B,.inl ⟨by simp[bn,j,QY],rfl,q,p⟩⟩,h⟩
   exact h.elim
  rename_i hm;exact plain (by simp[bn,j]) (by simpa[tM,j]using hm) h
 ·rename_i t x j
  rw[Zx]at h;split at h
  ·rename_i k z i off hk
   split at h
   ·rename_i M
    split at h
    ·rename_i y
     have X:=Nu h; clear h; obtain⟨u,h,q⟩:=X;obtain⟨A,E',B,h⟩:=ue h;refine⟨E',lo,⟨none,u,by simp[fR,y],A,B,.inr (.inl ⟨by simp[bn,j,QY],by simp[j,XM],rfl,⟨?_,fun hm q=>by rw[hm]at M; rw[show GW inl o=true from M]at q; cases q⟩⟩)⟩,h⟩
     intro _ bs ρ H w eval s D;have rx:=D x (by simp[j,ke]);rw[hk]at rx;obtain⟨v,p,rv⟩:=q bs ρ H w _ s rx;simp only[execOp,j];exact xa s p rv
    exact h.elim
   exact h.elim
  exact plain (by simp[bn,j]) (by simp[tM,j]) h
 rename_i C O hne6 S T hne7;have V:bn inl o=QY o.op:=by
  unfold bn;split
  ·rename_i f xs U j; exact absurd j (C f xs.toList U)
  ·rename_i t n parts j; exact absurd j (O t n parts.toList)
  ·rename_i sr d x j; exact absurd j (S sr d x)
  rfl
 have K:tM inl o=false:=by
  unfold tM;split
  ·rename_i t a x j; exact absurd j (T t a x)
  ·rename_i f xs U j; exact absurd j (C f xs.toList U)
  rfl
 split at h
 ·rename_i y
  rcases RJ h with h|⟨u,lo',h,he,hi,p,q⟩
  ·exact plain V K h
  obtain⟨A,E',B,h⟩:=ue h;exact⟨E',lo',⟨none,u,by simp[fR,y],A,B,.inl ⟨(hi o inl rfl).1,rfl,q o rfl,vv.ok (fun _=>K) p⟩⟩,h⟩
 exact plain V K h
theorem qat {inl:List Nat} {m:Bool} {n0:Nat} (a:m=false->n0=0) {K:(Nat->FV)->List AObj->Prop} {K':Env->List AObj->Prop} {all:List Oper} (i:∀ E lo,K' E lo->K (qv E) lo) :
  ∀ (l:List Oper) (k:Nat) (listed:Array Bool) (E:Env) (lo:List AObj),(∀ j,l[j]? =all[k+j]?)->Mb all.toArray listed->(m=true->n0<=lo.length) ->
  Region.lexFrom .any all.toArray l.length k listed=true->Region.effFrom inl m all.toArray l.length k listed=true->aP P inl m n0 N all K' l E lo->qlh P inl m n0 N all.toArray K l.length listed (qv E) lo
 | [],_,_,E,lo,_,_,_,hB,_,h=>⟨by simpa[Region.lexFrom]using hB,i E lo h⟩
 | o::l,k,listed,E,lo,hl,hcl,hn,hB,hF,h=>by
  have d:all.toArray[k]? =some o:=by have:=hl 0; simpa using this.symm
  simp only[ja,Region.lexFrom,Region.effFrom,ji]at hB hF;obtain⟨⟨n,q⟩,e⟩:=hB;obtain⟨E',lo',st,h⟩:=Ha a h;refine Rw d l.length listed (qv E) (qv E') lo lo' (fun j oj p b c f g=>⟨Region.free_spec d q j oj p b c f,Hm d hF.1 j oj p b c g⟩) hcl hn (by simpa using n) st ?_;exact qat a i l (k+1) _ E' lo' (fun j=>by have:=hl (j+1); simpa[Nat.add_assoc,Nat.add_comm 1 j]using this) (hcl.set (by simpa using n)) (st.grow hn) e hF.2 h
theorem DO {inl:List Nat} {c:Bool} {n0:Nat} {bs:Base} {ρ:List Value} {H:PH} {E:Env} {lo:List AObj} {a:Act} {w:World} {K:Env->List AObj->Prop} {id:Nat} {l:List Oper} (hm:P.follows .mixedOrders=true) (f:c=false->n0=0) (j:c=true->n0<=lo.length)
  (g:Nf inl c l.toArray=true) (n:∀ ρ H E lo a w,Sat bs N ρ H (qv E) lo a w->K E lo->Q .normal a w) (s:Sat bs N ρ H (qv E) lo a w) (h:aP P inl c n0 N l K l E lo):(Code.region id l.toArray true).wp P Q a w:=by
 simp only[Nf,Go.Region.lexB,ji]at g;have s':Sat bs N ρ H (qv E) lo a { w with drawn:=w.drawn+1 }:=by
  refine{ (s.toSatW.calm (H':=H) (w':={ w with drawn:=w.drawn+1 }) ⟨PH.le.refl H,⟨s.sath.cell,s.sath.root⟩,⟨rfl,rfl,rfl,jw _,fun _ _ _=>rfl⟩,fun b o v h=>.inl ⟨v,h⟩⟩)with slots:=s.slots,width:=s.width,defers:=s.defers }
 refine wp_region_any hm (ZC (inl:=inl) (m:=c) (n0:=n0) (K:=fun e lo=>∃ E,qv E=e/\K E lo) (fun ρ H e lo a w s ⟨E,p,d⟩=>n ρ H E lo a w (by rw[p]; exact s) d) _ _ ρ H (qv E) lo a _ s' ?_)
 have:=qat (P:=P) (inl:=inl) (m:=c) (n0:=n0) (N:=N) f (K:=fun e lo=>∃ E,qv E=e/\K E lo) (K':=K) (fun E lo d=>⟨E,rfl,d⟩) l 0 (Array.replicate l.toArray.size false) E lo (by simp) (fun k ok d i=>by simp only[jX,Array.getElem?_replicate]at i; split at i<;>cases i) j (by simpa using g.1.2) (by simpa using g.2) h
 simpa using this
end
end Ax
end
section
namespace Ax
open Go
abbrev KA:=AX->Env->List AObj->Prop
def Pg (x:AX) (e:Exit):Prop:=
 match x,e with
 | .normal,.normal=>True
 | .exit i,.exit j=>i=j
 | .ret,.ret=>True
 | _,_=>False
def qcn (bs:Base) (N:Nat) (K:KA):Exit->Act->World->Prop:=fun e a w=>∃ x ρ H E lo,Pg x e/\Sat bs N ρ H (qv E) lo a w/\K x E lo
def dx (inl:List Nat):Code->Bool
 | .seq a b=>dx inl a&&dx inl b
 | .cond _ t e=>dx inl t&&dx inl e
 | .block _ c=>dx inl c
 | .loop c=>dx inl c
 | .region id ops d=>!d||Nf inl (lQ inl id) ops
 | _=>true
def WpA (P:Program) (N nb:Nat) (c:Code) (K:KA) (E:Env) (lo:List AObj):Prop:=
 ∀ (bs:Base) (ρ:List Value) (H:PH) (a:Act) (w:World),bs.r0.length=nb->Sat bs N ρ H (qv E) lo a w->c.wp P (qcn bs N K) a w
def qX (P:Program) (inl:List Nat) (N nb:Nat) (body:Code) (K:KA) (E:Env) (lo:List AObj):Prop:=
 P.follows .mixedOrders=true->dx inl body=true->WpA P N nb (.loop body) K E lo
def cY (P:Program) (inl:List Nat) (N nb:Nat) (a b:Code) (K:KA) (E:Env) (lo:List AObj):Prop:=
 P.follows .mixedOrders=true->dx inl a=true->dx inl b=true->WpA P N nb (.seq a b) K E lo
def Nj (id:Nat):Code->Nat
 | .seq a b=>Nj id a+Nj id b
 | .cond _ t e=>Nj id t+Nj id e
 | .block _ c=>Nj id c
 | .loop c=>Nj id c
 | .exit i=>match Nat.beq i id with|true=>1|false=>0
 | _=>0
def qdu:Code->Nat
 | .seq a b=>match qdu a with|0=>0|_=>qdu b
 | .cond _ t e=>qdu t+qdu e
 | .block id c=>qdu c+Nj id c
 | .loop _=>0
 | .exit _=>0
 | .ret=>0
 | _=>1
def qlx:Code->Bool
 | .cond _ _ _=>true
 | .seq _ b=>qlx b
 | _=>false
def qqv (inl:List Nat) (a:Code):Bool:=match DS inl 1000000 with
 | true=>(match Nat.ble 2 (qdu a)with
  | true=>true
  | false=>match DS inl 1000001 with
   | true=>qlx a
   | false=>false)
 | false=>false
def vc (P:Program) (inl:List Nat) (N nb:Nat):Code->KA->Env->List AObj->Prop
 | .skip,K,E,lo=>K .normal E lo
 | .seq a b,K,E,lo=>match qqv inl a with
  | true=>cY P inl N nb a b K E lo
  | false=>vc P inl N nb a (fun x E lo=>match x with|.normal=>vc P inl N nb b K E lo|.exit i=>K (.exit i) E lo|.ret=>K .ret E lo) E lo
 | .cond c t e,K,E,lo=>ev E c fun v=>match v with
  | .p (.bool b)=>(b=true->vc P inl N nb t K E lo)/\(b=false->vc P inl N nb e K E lo)
  | _=>False
 | .block id c,K,E,lo=>vc P inl N nb c (fun x E lo=>match x with
   | .exit i=>(match Nat.beq i id with|true=>K .normal E lo|false=>K (.exit i) E lo)
   | .normal=>K .normal E lo
   | .ret=>K .ret E lo) E lo
 | .exit id,K,E,lo=>K (.exit id) E lo
 | .ret,K,E,lo=>K .ret E lo
 | .region id ⟨ops⟩ d,K,E,lo=>match d with
  | false=>qca P inl N ops (K .normal) ops E lo
  | true=>match lQ inl id with
    | false=>aP P inl false 0 N ops (K .normal) ops E lo
    | true=>CA lo 0 fun n0=>aP P inl true n0 N ops (K .normal) ops E lo
 | .loop body,K,E,lo=>qX P inl N nb body K E lo
 | c,K,E,lo=>WpA P N nb c K E lo
theorem qcn.mono {bs:Base} {N:Nat} {K K':KA} (h:∀ x E lo,K x E lo->K' x E lo) {e:Exit} {a:Act} {w:World} (p:qcn bs N K e a w):qcn bs N K' e a w:=
 let ⟨x,ρ,H,E,lo,hx,s,k⟩:=p
 ⟨x,ρ,H,E,lo,hx,s,h x E lo k⟩
theorem WpA.mono {P:Program} {N nb:Nat} {c:Code} {K K':KA} {E:Env} {lo:List AObj} (h:∀ x E lo,K x E lo->K' x E lo) (w:WpA P N nb c K E lo):WpA P N nb c K' E lo:=
 fun bs ρ H a ww b s=>wp_mono (w bs ρ H a ww b s) fun _ _ _ p=>p.mono h
theorem ns {P:Program} {inl:List Nat} (hm:P.follows .mixedOrders=true) {N nb:Nat}:∀ (c:Code) (K:KA) (E:Env) (lo:List AObj),dx inl c=true->vc P inl N nb c K E lo->WpA P N nb c K E lo
 | .skip,K,E,lo,_,h=>fun bs ρ H a w f s=>wp_skip ⟨.normal,ρ,H,E,lo,trivial,s,h⟩
 | .seq x y,K,E,lo,hd,h=>fun bs ρ H a w f s=>by
  simp only[dx,ji]at hd;simp only[vc]at h;split at h
  ·exact h hm hd.1 hd.2 bs ρ H a w f s
  refine wp_seq (wp_mono (ns hm x _ E lo hd.1 h bs ρ H a w f s) fun e a w p=>?_);obtain⟨q,ρ',H',E',lo',n,g,k⟩:=p;cases q<;>cases e<;>simp only[Pg]at n
  ·exact ns hm y K E' lo' hd.2 k bs ρ' H' a w f g
  ·exact⟨.exit _,ρ',H',E',lo',n,g,k⟩
  exact⟨.ret,ρ',H',E',lo',trivial,g,k⟩
 | .cond c t e,K,E,lo,hd,h=>fun bs ρ H a w f s=>by
  simp only[dx,ji]at hd;simp only[vc,Zx]at h;have A:=Ui s.slots c;split at h
  ·rename_i b r
   rw[r]at A;exact wp_cond_split (rG A) (fun m=>ns hm t K E lo hd.1 (h.1 m) bs ρ H a w f s) (fun m=>ns hm e K E lo hd.2 (h.2 m) bs ρ H a w f s)
  exact h.elim
 | .block id c,K,E,lo,hd,h=>fun bs ρ H a w f s=>by
  refine wp_block (wp_mono (ns hm c _ E lo hd h bs ρ H a w f s) fun e a w p=>?_);obtain⟨q,ρ',H',E',lo',n,g,k⟩:=p;cases q<;>cases e<;>simp only[Pg]at n
  ·exact⟨.normal,ρ',H',E',lo',trivial,g,k⟩
  ·rename_i i j
   subst n;simp only[Exit.inBlock];by_cases u:i=id
   ·subst u
    simp only[Nat.beq_refl]at k;simp only[if_true];exact⟨.normal,ρ',H',E',lo',trivial,g,k⟩
   have:Nat.beq i id=false:=by
    cases f:Nat.beq i id with
    | false=>rfl
    | true=>exact absurd (jm f) u
   simp only[this]at k;simp only[u,if_false];exact⟨.exit i,ρ',H',E',lo',rfl,g,k⟩
  exact⟨.ret,ρ',H',E',lo',trivial,g,k⟩
 | .exit id,K,E,lo,_,h=>fun bs ρ H a w f s=>wp_exit ⟨.exit id,ρ,H,E,lo,rfl,s,h⟩
 | .ret,K,E,lo,_,h=>fun bs ρ H a w f s=>wp_ret ⟨.ret,ρ,H,E,lo,trivial,s,h⟩
 | .region id ⟨ops⟩ d,K,E,lo,hd,h=>fun bs ρ H a w f s=>by
  have v:∀ ρ H E lo a w,Sat bs N ρ H (qv E) lo a w->K .normal E lo->qcn bs N K .normal a w:=fun ρ H E lo a w s k=>⟨.normal,ρ,H,E,lo,trivial,s,k⟩;cases d with
  | false=>exact Ru (P:=P) (l:=ops) v s h
  | true=>
   have o:Nf inl (lQ inl id) ops.toArray=true:=by simpa[dx]using hd
   simp only[vc]at h
   skip
   split at h
   ·rename_i z
    rw[z]at o;exact DO hm (fun _=>rfl) (fun h=>by cases h) o v s h
   rename_i z;rw[z]at o;have h:=ud h;rw[jx]at h;exact DO hm (fun h=>by cases h) (fun _=>jw _) o v s h
 | .loop body,K,E,lo,hd,h=>h hm hd
 | .rangeFunc ..,K,E,lo,_,h=>h
 | .scope _,K,E,lo,_,h=>h
 | .label _,K,E,lo,_,h=>h
 | .goto _,K,E,lo,_,h=>h
 | .refuse _,K,E,lo,_,h=>h
def FV.ren (π:Nat->Nat):FV->FV
 | .opt g v=>.opt g (v.ren π)
 | .tsl k rows=>.tsl (π k) rows
 | .ptr k off=>.ptr (π k) off
 | .bself k=>.bself (π k)
 | .bsl k off len cp=>.bsl (π k) off len cp
 | .vsl k n=>.vsl (π k) n
 | .eptr k z i off=>.eptr (π k) z i off
 | .mref k=>.mref (π k)
 | .pair a b=>.pair (a.ren π) (b.ren π)
 | .stmp k=>.stmp (π k)
 | .clo f c=>.clo f (c.ren π)
 | .cap a b=>.cap (a.ren π) (b.ren π)
 | .fagg c=>.fagg (c.ren π)
 | .asl k off n=>.asl (π k) off n
 | v=>v
def leF (π:Nat->Nat) (fresh:List Nat) (v v':FV):Prop:=
 match v' with
 | .top=>True
 | .p p'=>match v with
  | .p p=>p=p'\/nle p p'
  | .tsl _ rows=>PV.sl rows=p'
  | .clo f c=>MY c fun cs=>PV.clo f cs=p'
  | _=>False
 | .tsl k' rows'=>match v with
  | .tsl k rows=>k=π k'/\rows=rows'/\k' ∉ fresh
  | .p .nilsl=>rows'=[]/\k'∈fresh
  | _=>False
 | .ptr k' off'=>match v with
  | .ptr k off=>k=π k'/\off=off'/\k' ∉ fresh
  | _=>False
 | .bself k'=>match v with
  | .bself k=>k=π k'/\k' ∉ fresh
  | .ptr k off=>k=π k'/\off=0/\k' ∉ fresh
  | _=>False
 | .bsl k' off' len' cap'=>match v with
  | .bsl k off len cap=>k=π k'/\off=off'/\len=len'/\cap=cap'/\k' ∉ fresh
  | _=>False
 | .hptr row'=>match v with
  | .hptr row=>row=row'
  | _=>False
 | .vsl k' n'=>match v with
  | .vsl k n=>k=π k'/\n=n'/\k' ∉ fresh
  | .p .nilsl=>n'=0/\k'∈fresh
  | _=>False
 | .eptr k' z' i' off'=>match v with
  | .eptr k z i off=>k=π k'/\z=z'/\i=i'/\off=off'/\k' ∉ fresh
  | _=>False
 | .mref k'=>match v with
  | .mref k=>k=π k'/\k' ∉ fresh
  | _=>False
 | .pair a' b'=>match v with
  | .pair a b=>leF π fresh a a'/\leF π fresh b b'
  | _=>False
 | .stmp k'=>match v with
  | .stmp k=>k=π k'/\k' ∉ fresh
  | _=>False
 | .clo f' c'=>match v with
  | .clo f c=>f=f'/\leF π fresh c c'
  | _=>False
 | .cap0=>match v with
  | .cap0=>True
  | _=>False
 | .cap a' b'=>match v with
  | .cap a b=>leF π fresh a a'/\leF π fresh b b'
  | _=>False
 | .fagg c'=>match v with
  | .fagg c=>leF π fresh c c'
  | _=>False
 | .nxt ok' a' b'=>match v with
  | .nxt ok a b=>ok=ok'/\a=a'/\b=b'
  | _=>False
 | .asl k' off' n'=>match v with
  | .asl k off n=>k=π k'/\off=off'/\n=n'/\k' ∉ fresh
  | _=>False
 | .opt _ _=>False
def leC (π:Nat->Nat) (fresh:List Nat) (k':Nat) (v v':FV):Prop:=
 match v,v' with
 | .p .nilp,.bself k=>k=k'/\k ∉ fresh
 | v,v'=>leF π fresh v v'
def nc (π:Nat->Nat) (fresh:List Nat) (k':Nat) (o o':AObj):Prop:=
 match o' with
 | .dead=>True
 | .box t' cells'=>match o with
  | .box t cells=>t=t'/\cells.length=cells'.length/\∀ (i:Nat) (c c':FV),cells[i]? =some c->cells'[i]? =some c'->leC π fresh k' c c'
  | _=>False
 | .tail e z n=>o=.tail e z n
 | .vec e z rows=>o=.vec e z rows
 | .mp d es mk'=>mk'=none/\∃ mk,o=.mp d es mk
 | .sit l p=>o=.sit l p
 | .bv l=>o=.bv l
 | .vl e z rows j k'=>k' ∉ fresh/\o=.vl e z rows j (π k')
 | .pbx t' c'=>match o with
  | .pbx t c=>t=t'/\leF π fresh c c'
  | _=>False
structure Weak (nb:Nat) (E:Env) (lo:List AObj) (E':Env) (lo':List AObj) (π:Nat->Nat) (fresh:List Nat):Prop where
 bounds:∀ k,k<lo'.length->k ∉ fresh->π k<lo.length
 keep:∀ k,k<nb->π k=k/\k ∉ fresh
 nb:nb<=lo'.length
 inj:∀ i j oi oj,lo'[i]? =some oi->lo'[j]? =some oj->oi.live=true->oj.live=true->i ∉ fresh->j ∉ fresh->π i=π j->i=j
 frsh:∀ k,k∈fresh->∃ e z,lo'[k]? =some (.tail e z 0)\/lo'[k]? =some (.vec e z [])\/∃ j k2,lo'[k]? =some (.vl e z [] j k2)
 obj:∀ k o',lo'[k]? =some o'->k ∉ fresh->∃ o,lo[π k]? =some o/\nc π fresh k o o'
 slot:∀ t v,(t,v)∈E'->leF π fresh (qv E t) v
theorem lP:∀ {E:Env} {t:Nat},qv E t=.top\/(t,qv E t)∈E
 | [],t=>.inl rfl
 | (t',v)::E,t=>by
  simp only[qv];cases a:Nat.beq t t' with
  | true=>
   have:=jm a;subst this;exact .inr (by simp)
  | false=>
   rcases lP (E:=E) (t:=t)with h|h
   ·exact .inl h
   exact .inr (by simp[h])
def ep (ρ:List Value) (π:Nat->Nat) (fresh:List Nat) (n:Nat):List Value:=(List.range n).map fun k=>if k∈fresh then .slice none 0 0 else ρ.getD (π k) undef
theorem dh {ρ:List Value} {π:Nat->Nat} {fresh:List Nat} {n k:Nat} (h:k<n):(ep ρ π fresh n)[k]? =some (if k∈fresh then .slice none 0 0 else ρ.getD (π k) undef):=by
 simp[ep,h]
def FV.names:FV->List Nat
 | .opt _ v=>v.names
 | .tsl k _=>[k]
 | .ptr k _=>[k]
 | .bself k=>[k]
 | .bsl k _ _ _=>[k]
 | .vsl k _=>[k]
 | .eptr k _ _ _=>[k]
 | .mref k=>[k]
 | .pair a b=>a.names++b.names
 | .stmp k=>[k]
 | .clo _ c=>c.names
 | .fagg c=>c.names
 | .asl k _ _=>[k]
 | .cap a b=>a.names++b.names
 | _=>[]
theorem TH {ρ:List Value} {H:PH} {π:Nat->Nat} {fresh:List Nat} {n:Nat} {v v':FV} {x:Value} (h:leF π fresh v v') (j:∀ k∈v'.names,k<n) (r:zo ρ H v x) :
  zo (ep ρ π fresh n) H v' x:=by
 induction v' generalizing v x with
 | top=>trivial
 | p p'=>
  cases v<;>simp only[leF]at h
  ·rename_i p
   rcases h with rfl|h
   ·exact r
   exact EM h r
  ·subst h; exact r.2
  obtain⟨t,e,o⟩:=Ew h;subst e;obtain⟨vs,e,r⟩:=r;simp only[zo,zn];exact⟨vs,e,o _ _ _ r⟩
 | opt g v' _=>simp[leF]at h
 | tsl k' rows'=>
  have a:=j k' (by simp[FV.names]);cases v<;>simp only[leF]at h
  ·rename_i p
   cases p<;>simp only at h;obtain⟨rfl,d⟩:=h;simp only[zo,zn]at r ⊢;subst r;exact⟨by rw[dh a]; simp[d],.inl ⟨trivial,.inl rfl⟩⟩
  rename_i k rows;obtain⟨rfl,rfl,d⟩:=h;obtain⟨f,l⟩:=r;refine⟨?_,l⟩;rw[dh a];simp[d,List.getD_eq_getElem?_getD,f]
 | ptr k' off'=>
  have a:=j k' (by simp[FV.names]);cases v<;>simp only[leF]at h;rename_i k off;obtain⟨rfl,rfl,d⟩:=h;obtain⟨b,f,l⟩:=r;refine⟨b,?_,l⟩;rw[dh a];simp[d,List.getD_eq_getElem?_getD,f]
 | hptr row=>
  cases v<;>simp only[leF]at h;rw[h]at r;exact r
 | bself k'=>
  have a:=j k' (by simp[FV.names]);cases v<;>simp only[leF]at h
  ·rename_i k off
   obtain⟨rfl,rfl,d⟩:=h;obtain⟨b,f,rfl⟩:=r;refine⟨b,?_,.inr rfl⟩;rw[dh a];simp[d,List.getD_eq_getElem?_getD,f]
  rename_i k;obtain⟨rfl,d⟩:=h;obtain⟨b,f,l⟩:=r;refine⟨b,?_,l⟩;rw[dh a];simp[d,List.getD_eq_getElem?_getD,f]
 | bsl k' off' len' cap'=>
  have a:=j k' (by simp[FV.names]);cases v<;>simp only[leF]at h;rename_i k off len cap;obtain⟨rfl,rfl,rfl,rfl,d⟩:=h;obtain⟨b,f,l⟩:=r;refine⟨b,?_,l⟩;rw[dh a];simp[d,List.getD_eq_getElem?_getD,f]
 | vsl k' n'=>
  have a:=j k' (by simp[FV.names]);cases v<;>simp only[leF]at h
  ·rename_i p
   cases p<;>simp only at h;obtain⟨rfl,d⟩:=h;simp only[zo,zn]at r ⊢;subst r;exact⟨by rw[dh a]; simp[d],.inl ⟨trivial,rfl⟩⟩
  rename_i k n;obtain⟨rfl,rfl,d⟩:=h;obtain⟨f,l⟩:=r;refine⟨?_,l⟩;rw[dh a];simp[d,List.getD_eq_getElem?_getD,f]
 | eptr k' z' i' off'=>
  have a:=j k' (by simp[FV.names]);cases v<;>simp only[leF]at h;rename_i k z i off;obtain⟨rfl,rfl,rfl,rfl,d⟩:=h;obtain⟨b,n,cap,f,rfl⟩:=r;refine⟨b,n,cap,?_,rfl⟩;rw[dh a];simp[d,List.getD_eq_getElem?_getD,f]
 | mref k'=>
  have a:=j k' (by simp[FV.names]);cases v<;>simp only[leF]at h;rename_i k;obtain⟨rfl,d⟩:=h;obtain⟨b,f,l⟩:=r;refine⟨b,?_,l⟩;rw[dh a];simp[d,List.getD_eq_getElem?_getD,f]
 | pair a' b' iha ihb=>
  cases v<;>simp only[leF]at h;obtain⟨u,w,rfl,q,s⟩:=r;exact⟨u,w,rfl,iha h.1 (fun k a=>j k (by simp[FV.names,a])) q,ihb h.2 (fun k a=>j k (by simp[FV.names,a])) s⟩
 | stmp k'=>
  have a:=j k' (by simp[FV.names]);cases v<;>simp only[leF]at h;rename_i k;obtain⟨rfl,d⟩:=h;simp only[zo]at r ⊢;rw[dh a];simp[d,List.getD_eq_getElem?_getD,r]
 | clo f' c' ih=>
  cases v<;>simp only[leF]at h;obtain⟨rfl,h⟩:=h;obtain⟨vs,rfl,rc⟩:=r;exact⟨vs,rfl,ih h (fun k a=>j k (by simp[FV.names,a])) rc⟩
 | cap0=>
  cases v<;>simp only[leF]at h;exact r
 | fagg c' ih=>
  cases v<;>simp only[leF]at h;obtain⟨vs,rfl,rc⟩:=r;exact⟨vs,rfl,ih h (fun k a=>j k (by simp[FV.names,a])) rc⟩
 | nxt ok' a' b'=>
  cases v<;>simp only[leF]at h;obtain⟨rfl,rfl,rfl⟩:=h;exact r
 | asl k' off' n'=>
  have a:=j k' (by simp[FV.names]);cases v<;>simp only[leF]at h;rename_i k off n;obtain⟨rfl,rfl,rfl,d⟩:=h;obtain⟨b,m,cap,c,f,rfl⟩:=r;refine⟨b,m,cap,c,?_,rfl⟩;rw[dh a];simp[d,List.getD_eq_getElem?_getD,f]
 | cap a' b' iha ihb=>
  cases v<;>simp only[leF]at h;obtain⟨u,w,rfl,q,s⟩:=r;exact⟨u,w,rfl,iha h.1 (fun k a=>j k (by simp[FV.names,a])) q,ihb h.2 (fun k a=>j k (by simp[FV.names,a])) s⟩
theorem qm1 {ρ:List Value} {H:PH} {π:Nat->Nat} {fresh:List Nat} {n k' b:Nat} {v v':FV} {x:Value} (a:(ep ρ π fresh n)[k']? =some (.pointer (some ⟨b,0,none⟩))) (h:leC π fresh k' v v') (c:∀ k∈v'.names,k<n) (r:zo ρ H v x) :
  zo (ep ρ π fresh n) H v' x:=by
 unfold leC at h;split at h
 ·obtain⟨rfl,_⟩:=h
  simp only[zo,zn]at r;exact⟨b,a,.inl r⟩
 exact TH h c r
theorem xL.le {ρ:List Value} {H:PH} {π:Nat->Nat} {fresh:List Nat} {n k' b:Nat} (e:(ep ρ π fresh n)[k']? =some (.pointer (some ⟨b,0,none⟩))):∀ {cs a:List FV} {vs:List Value},cs.length=a.length ->
  (∀ (i:Nat) (c c':FV),cs[i]? =some c->a[i]? =some c'->leC π fresh k' c c')->(∀ c∈a,∀ k∈c.names,k<n)->xL ρ H cs vs->xL (ep ρ π fresh n) H a vs
 | [],[],vs,_,_,_,r=>r
 | [],_::_,_,h,_,_,_=>by simp at h
 | _::_,[],_,h,_,_,_=>by simp at h
 | c::cs,c'::a,vs,hl,hle,hn,r=>by
  obtain⟨v,d,rfl,f,rs⟩:=r;exact⟨v,d,rfl,qm1 e (hle 0 c c' rfl rfl) (hn c' (by simp)) f,xL.le e (by simpa using hl) (fun i=>hle (i+1)) (fun c g=>hn c (by simp[g])) rs⟩
def qgm (E:Env) (lo:List AObj):Prop:=(∀ t v,(t,v)∈E->∀ k∈v.names,k<lo.length)/\(∀ t cells,AObj.box t cells∈lo->∀ c∈cells,∀ k∈c.names,k<lo.length)/\(∀ e z rows j k,AObj.vl e z rows j k∈lo->k<lo.length)/\∀ t c,AObj.pbx t c∈lo->∀ k∈c.names,k<lo.length
theorem Sat.weak {bs:Base} {N:Nat} {ρ:List Value} {H:PH} {E E':Env} {lo lo':List AObj} {a:Act} {w:World} {π:Nat->Nat} {fresh:List Nat} (s:Sat bs N ρ H (qv E) lo a w)
  (h:Weak bs.r0.length E lo E' lo' π fresh) (L:qgm E' lo'):Sat bs N (ep ρ π fresh lo'.length) H (qv E') lo' a w:=by
 have get:∀ {k:Nat} {v:Value},(ep ρ π fresh lo'.length)[k]? =some v->k<lo'.length/\((k∈fresh/\v=.slice none 0 0)\/(k ∉ fresh/\ρ[π k]? =some v)):=by
  intro k v q;have r:k<lo'.length:=by have:=(jG.1 q).1; simpa[ep]using this
  rw[dh r]at q;refine⟨r,?_⟩;by_cases y:k∈fresh
  ·simp[y]at q; exact .inl ⟨y,q.symm⟩
  simp only[y,if_false]at q;refine .inr ⟨y,?_⟩;have:=h.bounds k r y;rw[← s.hlen]at this;rw[List.getD_eq_getElem?_getD,jf this]at q;rw[jf this];simpa using q
 refine{ sath:=s.sath,hlen:=by simp[ep],pre:=?_,objs:=?_,excl:=?_,own:=?_,keep:=s.keep,leH:=s.leH,newH:=s.newH,slots:=?_,width:=s.width,defers:=s.defers }
 ·obtain⟨l,A⟩:=s.pre
  have hlen:bs.r0.length<=lo'.length:=h.nb;have:(ep ρ π fresh lo'.length).take bs.r0.length=bs.r0:=by
   refine List.ext_getElem? fun i=>?_;rw[jE];split
   ·rename_i B
    rw[dh (by omega)];obtain⟨e1,e2⟩:=h.keep i B;simp only[e2,if_false,e1];rw[List.getD_eq_getElem?_getD,← A,jB B,jf B];rfl
   rename_i B;rw[List.getElem?_eq_none (by omega)]
  rw[← this];exact List.take_prefix _ _
 ·intro k o v r q
  obtain⟨hlt,M⟩:=get q;rcases M with ⟨y,rfl⟩|⟨y,hρ⟩
  ·obtain⟨e,z,he⟩:=h.frsh k y
   rw[r]at he;rcases he with he|he|⟨j,k2,he⟩
   ·cases he
    exact⟨[],World.ownsRow_nil w 0 e z,fun b x=>by simp[zy]at x⟩
   ·cases he
    exact⟨[],World.ownsRow_nil w 0 e z,rfl,fun u hu=>(by cases hu),fun b x=>by simp[zy]at x⟩
   cases he;exact⟨[],World.ownsRow_nil w 0 e z,rfl,fun u hu=>(by cases hu),fun b x=>by simp[zy]at x,fun u hu=>by simp at hu⟩
  obtain⟨o0,O,f⟩:=h.obj k o r y;have g:=s.objs _ _ _ O hρ;cases o with
  | dead=>trivial
  | box t' cells'=>
   cases o0<;>simp only[nc]at f;rename_i t cells;obtain⟨rfl,A,C⟩:=f;obtain⟨b,vs,rfl,G,rc,P⟩:=g;exact⟨b,vs,rfl,G,rc.le q A C (fun c M k Q=>L.2.1 _ _ (List.mem_of_getElem? r) c M k Q),P⟩
  | tail e z n=>
   simp only[nc]at f;subst f;exact g
  | vec e z rows=>
   simp only[nc]at f;subst f;exact g
  | mp d es mk'=>
   simp only[nc]at f;obtain⟨rfl,mk,rfl⟩:=f;obtain⟨b,ents,clock,rfl,G,D,⟨h1,h2,_⟩,R⟩:=g;exact⟨b,ents,clock,rfl,G,D,⟨h1,h2,fun key s e=>by cases e⟩,R⟩
  | sit l p=>
   simp only[nc]at f;subst f;exact g
  | bv l=>
   simp only[nc]at f;subst f;exact g
  | vl e z rows j k'=>
   simp only[nc]at f;obtain⟨S,rfl⟩:=f;obtain⟨xs,ho,D,h1,R,A⟩:=g;refine⟨xs,ho,D,h1,R,fun u hu=>?_⟩;rw[dh (L.2.2.1 _ _ _ _ _ (List.mem_of_getElem? r))];simp[S,List.getD_eq_getElem?_getD,A u hu]
  | pbx t' c'=>
   cases o0<;>simp only[nc]at f;rename_i t c;obtain⟨rfl,C⟩:=f;obtain⟨b,u,us,rfl,G,rc,P⟩:=g;exact⟨b,u,us,rfl,G,TH C (L.2.2.2 _ _ (List.mem_of_getElem? r)) rc,P⟩
 ·intro i j oi oj vi vj b B hj T U V I J x K
  obtain⟨h1,X⟩:=get T;obtain⟨h2,c2⟩:=get U;rcases X with ⟨_,rfl⟩|⟨f1,Y⟩
  ·simp[zy]at x
  rcases c2 with ⟨_,rfl⟩|⟨f2,r2⟩
  ·simp[zy]at K
  obtain⟨o1,F,m⟩:=h.obj i oi B f1;obtain⟨o2,Z,l2⟩:=h.obj j oj hj f2;have live:∀ {k:Nat} {o o':AObj},nc π fresh k o o'->o'.live=true->o.live=true:=by
   intro k o o' f A;cases o' with
   | dead=>simp[AObj.live]at A
   | box t c=>cases o<;>simp only[nc]at f; rfl
   | tail e z n=>simp only[nc]at f; subst f; rfl
   | vec e z n=>simp only[nc]at f; subst f; rfl
   | mp d es mk=>simp only[nc]at f; obtain⟨_,_,rfl⟩:=f; rfl
   | sit l p=>simp only[nc]at f; subst f; rfl
   | bv l=>simp only[nc]at f; subst f; rfl
   | vl e z rows j k'=>simp only[nc]at f; obtain⟨_,rfl⟩:=f; rfl
   | pbx t c=>cases o<;>simp only[nc]at f; rfl
  exact s.excl (π i) (π j) o1 o2 vi vj b F Z Y r2 (fun e=>V (h.inj i j oi oj B hj I J f1 f2 e)) (live m I) (live l2 J) x K
 ·intro k o v b r q A x
  obtain⟨h1,X⟩:=get q;rcases X with ⟨_,rfl⟩|⟨f1,Y⟩
  ·simp[zy]at x
  obtain⟨o1,F,m⟩:=h.obj k o r f1;refine s.own (π k) o1 v b F Y ?_ x;cases o with
  | dead=>simp[AObj.live]at A
  | box t c=>cases o1<;>simp only[nc]at m; rfl
  | tail e z n=>simp only[nc]at m; subst m; rfl
  | vec e z n=>simp only[nc]at m; subst m; rfl
  | mp d es mk=>simp only[nc]at m; obtain⟨_,_,rfl⟩:=m; rfl
  | sit l p=>simp only[nc]at m; subst m; rfl
  | bv l=>simp only[nc]at m; subst m; rfl
  | vl e z rows j k'=>simp only[nc]at m; obtain⟨_,rfl⟩:=m; rfl
  | pbx t c=>cases o1<;>simp only[nc]at m; rfl
 ·intro t
  rcases lP (E:=E') (t:=t)with he|he
  ·rw[he]; trivial
  exact TH (h.slot t _ he) (L.1 t _ he) (s.slots t)
end Ax
end
section
namespace Ax
open Go
def qga (E:Env) (π:Nat->Nat) (fresh:List Nat):Env->Prop
 | []=>True
 | (t,v)::E'=>ql2 E t (fun u=>leF π fresh u v)/\qga E π fresh E'
def EH (π:Nat->Nat) (fresh:List Nat) (k':Nat):List FV->List FV->Prop
 | [],[]=>True
 | c::cs,c'::cs'=>leC π fresh k' c c'/\EH π fresh k' cs cs'
 | _,_=>False
def qir (π:Nat->Nat) (fresh:List Nat) (k':Nat) (o o':AObj):Prop:=
 match o' with
 | .dead=>True
 | .box t' cells'=>match o with
  | .box t cells=>t=t'/\EH π fresh k' cells cells'
  | _=>False
 | .tail e z n=>match o with
  | .tail e' z' n'=>e'=e/\z'=z/\n'=n
  | _=>False
 | .vec e z rows=>match o with
  | .vec e' z' rows'=>e'=e/\z'=z/\rows'=rows
  | _=>False
 | .mp d es mk=>match o with
  | .mp d' es' _=>mk=none/\d'=d/\es'=es
  | _=>False
 | .sit l p=>match o with
  | .sit l' p'=>l'=l/\p'=p
  | _=>False
 | .bv l=>match o with
  | .bv l'=>l'=l
  | _=>False
 | .vl e z rows j k'=>match o with
  | .vl e' z' rows' j2 k=>k' ∉ fresh/\e'=e/\z'=z/\rows'=rows/\j2=j/\k=π k'
  | _=>False
 | .pbx t' c'=>match o with
  | .pbx t c=>t=t'/\leF π fresh c c'
  | _=>False
def oJ (lo:List AObj) (π:Nat->Nat) (fresh:List Nat):Nat->List AObj->Prop
 | _,[]=>True
 | k,o'::lo'=>(match fresh.contains k with
   | true=>match o' with|.tail _ _ n=>n=0|.vec _ _ rows=>rows=[]|.vl _ _ rows _ _=>rows=[]|_=>False
   | false=>UK (π k) lo fun o=>qir π fresh k o o')/\oJ lo π fresh (k+1) lo'
def πOf (l:List Nat):Nat->Nat:=fun k=>l.getD k 0
def qnv (nb:Nat) (l fresh:List Nat):Bool:=
 decide (nb<=l.length)&&(List.range nb).all (fun k=>l.getD k 0==k&&!fresh.contains k) &&
 (List.range l.length).all (fun i=>(List.range l.length).all fun j=>fresh.contains i||fresh.contains j||l.getD i 0 != l.getD j 0||i==j) &&
 fresh.all (fun k=>decide (k<l.length))
def qpb:AObj->Bool
 | .dead=>true
 | _=>false
def qi3:List AObj->Nat->Bool
 | [],_=>false
 | a::_,0=>qpb a
 | _::l,i+1=>qi3 l i
theorem Ey {o:AObj} (b:o.live=true):∀ {l:List AObj} {i:Nat},l[i]? =some o->qi3 l i=false
 | [],_,h=>by simp at h
 | a::l,0,h=>by
  simp at h; subst h;cases a<;>first|rfl|(simp[AObj.live]at b)
 | a::l,i+1,h=>by
  simp at h;exact Ey (l:=l) (i:=i) b h
def qnw (nb:Nat) (l fresh:List Nat) (lo:List AObj):Bool:=
 decide (nb<=l.length)&&(List.range nb).all (fun k=>l.getD k 0==k&&!fresh.contains k) &&
 (List.range l.length).all (fun i=>(List.range l.length).all fun j=>fresh.contains i||fresh.contains j||l.getD i 0 != l.getD j 0||i==j||qi3 lo i||qi3 lo j) &&
 fresh.all (fun k=>decide (k<l.length))
def rK (n:Nat):FV->Bool
 | .opt _ v=>rK n v
 | .tsl k _=>decide (k<n)
 | .ptr k _=>decide (k<n)
 | .bself k=>decide (k<n)
 | .bsl k _ _ _=>decide (k<n)
 | .vsl k _=>decide (k<n)
 | .eptr k _ _ _=>decide (k<n)
 | .mref k=>decide (k<n)
 | .pair a b=>rK n a&&rK n b
 | .stmp k=>decide (k<n)
 | .asl k _ _=>decide (k<n)
 | .clo _ c=>rK n c
 | .fagg c=>rK n c
 | .cap a b=>rK n a&&rK n b
 | _=>true
def lY (n:Nat):Env->Bool
 | []=>true
 | (_,v)::E=>rK n v&&lY n E
def RO (n:Nat):List FV->Bool
 | []=>true
 | v::l=>rK n v&&RO n l
def QZ (n:Nat):List AObj->Bool
 | []=>true
 | .box _ cells::l=>RO n cells&&QZ n l
 | .vl _ _ _ _ k::l=>decide (k<n)&&QZ n l
 | .pbx _ c::l=>rK n c&&QZ n l
 | _::l=>QZ n l
def Ri (nb:Nat) (E:Env) (lo:List AObj) (E':Env) (lo':List AObj):Prop:=
 ∃ l fresh:List Nat,(qnw nb l fresh lo'=true/\l.length=lo'.length/\lY lo'.length E'=true/\QZ lo'.length lo'=true)/\qga E (πOf l) fresh E'/\oJ lo (πOf l) fresh 0 lo'
theorem RL {E:Env} {π:Nat->Nat} {fresh:List Nat}:∀ {E':Env},qga E π fresh E'->∀ t v,(t,v)∈E'->leF π fresh (qv E t) v
 | [],_,t,v,h=>by simp at h
 | (t',v')::E',h,t,v,hm=>by
  simp only[qga,sR]at h;rcases jg.1 hm with e|hm
  ·cases e; exact h.1
  exact RL h.2 t v hm
theorem Hu {π:Nat->Nat} {fresh:List Nat} {k':Nat}:∀ {cs a:List FV},EH π fresh k' cs a->cs.length=a.length/\∀ (i:Nat) (c c':FV),cs[i]? =some c->a[i]? =some c'->leC π fresh k' c c'
 | [],[],_=>⟨rfl,fun i c c' h=>by simp at h⟩
 | [],_::_,h=>by simp[EH]at h
 | _::_,[],h=>by simp[EH]at h
 | c::cs,c'::a,h=>by
  simp only[EH]at h;obtain⟨h1,h2⟩:=Hu h.2;refine⟨by simp[h1],fun i d f e b=>?_⟩;cases i with
  | zero=>simp at e b; subst e; subst b; exact h.1
  | succ i=>exact h2 i d f (by simpa using e) (by simpa using b)
theorem qgb {π:Nat->Nat} {fresh:List Nat} {k':Nat} {o o':AObj} (h:qir π fresh k' o o'):nc π fresh k' o o':=by
 cases o' with
 | dead=>trivial
 | box t' cells'=>
  cases o<;>simp only[qir]at h;exact⟨h.1,Hu h.2⟩
 | tail e z n=>
  cases o<;>simp only[qir]at h;obtain⟨rfl,rfl,rfl⟩:=h;rfl
 | vec e z n=>
  cases o<;>simp only[qir]at h;obtain⟨rfl,rfl,rfl⟩:=h;rfl
 | mp d es mk=>
  cases o<;>simp only[qir]at h;obtain⟨rfl,rfl,rfl⟩:=h;exact⟨rfl,_,rfl⟩
 | sit l p=>
  cases o<;>simp only[qir]at h;obtain⟨rfl,rfl⟩:=h;rfl
 | bv l=>
  cases o<;>simp only[qir]at h;subst h;rfl
 | vl e z rows j k'=>
  cases o<;>simp only[qir]at h;obtain⟨a,rfl,rfl,rfl,rfl,rfl⟩:=h;exact⟨a,rfl⟩
 | pbx t' c'=>
  cases o<;>simp only[qir]at h;exact h
theorem EI {lo:List AObj} {π:Nat->Nat} {fresh:List Nat}:∀ {lo':List AObj} {k:Nat},oJ lo π fresh k lo'->∀ (i:Nat) (o':AObj),lo'[i]? =some o' ->
  (k+i∈fresh->∃ e z,o'=.tail e z 0\/o'=.vec e z []\/∃ j k2,o'=.vl e z [] j k2)/\(k+i ∉ fresh->∃ o,lo[π (k+i)]? =some o/\nc π fresh (k+i) o o')
 | [],_,_,i,o',h=>by simp at h
 | o1::lo',k,h,i,o',a=>by
  simp only[oJ]at h;cases i with
  | zero=>
   simp at a;subst a;simp only[Nat.add_zero];cases b:fresh.contains k with
   | true=>
    simp only[b]at h;have hm:k∈fresh:=by simpa using b
    refine⟨fun _=>?_,fun c=>absurd hm c⟩
    have h1:=h.1;split at h1
    ·rename_i e z n; exact⟨e,z,.inl (by rw[h1])⟩
    ·rename_i e z rows; exact⟨e,z,.inr (.inl (by rw[h1]))⟩
    ·rename_i e z rows j k2; exact⟨e,z,.inr (.inr ⟨j,k2,by rw[h1]⟩)⟩
    exact h1.elim
   | false=>
    simp only[b]at h;have hm:k ∉ fresh:=by simpa using b
    refine⟨fun c=>absurd c hm,fun _=>?_⟩
    obtain⟨o,a,d⟩:=xk h.1;exact⟨o,a,qgb d⟩
  | succ i=>
   have:=EI h.2 i o' (by simpa using a);have e:k+1+i=k+(i+1):=by omega
   rwa [e]at this
theorem dz {n:Nat}:∀ {v:FV},rK n v=true->∀ k∈v.names,k<n
 | .opt _ v,h,k,d=>dz (v:=v) h k d
 | .tsl k' _,h,k,d=>by simp[FV.names]at d; subst d; simpa[rK]using h
 | .ptr k' _,h,k,d=>by simp[FV.names]at d; subst d; simpa[rK]using h
 | .top,_,k,d=>by simp[FV.names]at d
 | .p _,_,k,d=>by simp[FV.names]at d
 | .hptr _,_,k,d=>by simp[FV.names]at d
 | .bself k',h,k,d=>by simp[FV.names]at d; subst d; simpa[rK]using h
 | .bsl k' _ _ _,h,k,d=>by simp[FV.names]at d; subst d; simpa[rK]using h
 | .vsl k' _,h,k,d=>by simp[FV.names]at d; subst d; simpa[rK]using h
 | .eptr k' _ _ _,h,k,d=>by simp[FV.names]at d; subst d; simpa[rK]using h
 | .mref k',h,k,d=>by simp[FV.names]at d; subst d; simpa[rK]using h
 | .pair a b,h,k,d=>by
  simp only[rK,ji]at h;rcases jy.1 d with d|d
  ·exact dz (v:=a) h.1 k d
  exact dz (v:=b) h.2 k d
 | .stmp k',h,k,d=>by simp[FV.names]at d; subst d; simpa[rK]using h
 | .clo _ c,h,k,d=>dz (v:=c) h k d
 | .fagg c,h,k,d=>dz (v:=c) h k d
 | .nxt _ _ _,_,k,d=>by simp[FV.names]at d
 | .asl k' _ _,h,k,d=>by simp[FV.names]at d; subst d; simpa[rK]using h
 | .cap0,_,k,d=>by simp[FV.names]at d
 | .cap a b,h,k,d=>by
  simp only[rK,ji]at h;rcases jy.1 d with d|d
  ·exact dz (v:=a) h.1 k d
  exact dz (v:=b) h.2 k d
theorem ND {n:Nat}:∀ {E:Env},lY n E=true->∀ t v,(t,v)∈E->∀ k∈v.names,k<n
 | [],_,t,v,h=>by simp at h
 | (t',v')::E,h,t,v,hm=>by
  simp only[lY,ji]at h;rcases jg.1 hm with e|hm
  ·cases e; exact dz h.1
  exact ND h.2 t v hm
theorem Ur {n:Nat}:∀ {l:List FV},RO n l=true->∀ v∈l,∀ k∈v.names,k<n
 | [],_,v,h=>by simp at h
 | v'::l,h,v,hm=>by
  simp only[RO,ji]at h;rcases jg.1 hm with e|hm
  ·cases e; exact dz h.1
  exact Ur h.2 v hm
theorem Us {n:Nat}:∀ {lo:List AObj},QZ n lo=true->∀ t cells,AObj.box t cells∈lo->∀ c∈cells,∀ k∈c.names,k<n
 | [],_,t,cells,h=>by simp at h
 | o::lo,h,t,cells,hm=>by
  rcases jg.1 hm with e|a
  ·subst e
   simp only[QZ,ji]at h;exact Ur h.1
  cases o<;>simp only[QZ,ji]at h<;>first|exact Us h.2 t cells a|exact Us h t cells a
theorem XS {n:Nat}:∀ {lo:List AObj},QZ n lo=true->∀ t c,AObj.pbx t c∈lo->∀ k∈c.names,k<n
 | [],_,_,_,h=>by simp at h
 | o::lo,h,t,c,hm=>by
  rcases jg.1 hm with he|a
  ·subst he
   simp only[QZ,ji]at h;exact dz h.1
  cases o<;>simp only[QZ,ji]at h<;>first|exact XS h.2 _ _ a|exact XS h _ _ a
theorem XR {n:Nat}:∀ {lo:List AObj},QZ n lo=true->∀ e z rows j k,AObj.vl e z rows j k∈lo->k<n
 | [],_,_,_,_,_,_,h=>by simp at h
 | o::lo,h,e,z,rows,j,k,hm=>by
  rcases jg.1 hm with he|a
  ·subst he
   simp only[QZ,ji,kde]at h;exact h.1
  cases o<;>simp only[QZ,ji]at h<;>first|exact XR h.2 _ _ _ _ _ a|exact XR h _ _ _ _ _ a
theorem Ri.sat {bs:Base} {N:Nat} {ρ:List Value} {H:PH} {E E':Env} {lo lo':List AObj} {a:Act} {w:World} (s:Sat bs N ρ H (qv E) lo a w) (h:Ri bs.r0.length E lo E' lo') :
  ∃ ρ',Sat bs N ρ' H (qv E') lo' a w:=by
 obtain⟨l,fresh,⟨t,C,x,f⟩,y,g⟩:=h;simp only[qnw,ji,kde,List.all_eq_true,List.mem_range,jO,beq_iff_eq,Bool.not_eq_true',bne_iff_ne]at t;obtain⟨⟨⟨h1,h2⟩,h3⟩,h4⟩:=t;have get:=fun(i:Nat) (o':AObj) (d:lo'[i]? =some o')=>EI g i o' d;simp only[jx]at get;refine⟨_,s.weak (π:=πOf l) (fresh:=fresh) (lo':=lo') ?_ ⟨ND x,Us f,XR f,XS f⟩⟩;refine{ bounds:=fun k c m=>?_,keep:=fun k c=>?_,nb:=by omega,inj:=fun i j oi oj u v n p q r e=>?_,frsh:=fun k c=>?_,obj:=fun k o' d m=>(get k o' d).2 m,slot:=RL y }
 ·obtain⟨o,d,_⟩:=(get k _ (jf c)).2 m
  exact(jG.1 d).1
 ·obtain⟨A,B⟩:=h2 k c
  exact⟨A,by simpa using B⟩
 ·have h1:=(jG.1 u).1
  have h2:=(jG.1 v).1;have:=h3 i (by omega) j (by omega);simp only[List.contains_iff_mem,q,r,Ey n u,Ey p v,jP,or_false,false_or]at this;rcases this with h|h
  ·exact absurd e h
  exact h
 have b:k<lo'.length:=by have:=h4 k c; omega
 obtain⟨e,z,he⟩:=(get k _ (jf b)).1 c;exact⟨e,z,he.imp (fun he=>by rw[jf b,he]) (fun he=>he.imp (fun he=>by rw[jf b,he]) (fun⟨j,k2,he⟩=>⟨j,k2,by rw[jf b,he]⟩))⟩
theorem qX.of {P:Program} (inl:List Nat) {N nb:Nat} {body:Code} {K:KA} {E:Env} {lo:List AObj} {S:Type} (l:S->Env) (ob:S->List AObj) (ok:S->Prop) (μ:S->Nat) (d:S) (v:ok d)
  (hw:Ri nb E lo (l d) (ob d))
  (round:∀ s,ok s->vc P inl N nb body (fun x E' lo'=>match x with
   | .normal=>∃ c,ok c/\μ c<μ s/\Ri nb E' lo' (l c) (ob c)
   | .exit i=>K (.exit i) E' lo'
   | .ret=>K .ret E' lo') (l s) (ob s)):qX P inl N nb body K E lo:=by
 intro hm y bs ρ H a w z sat;subst z;obtain⟨ρ',f⟩:=hw.sat sat;refine wp_loop_ghost (I:=fun n a w=>∃ s ρ H,μ s=n/\ok s/\Sat bs N ρ H (qv (l s)) (ob s) a w) (μ d) ⟨d,ρ',H,rfl,v,f⟩ fun n a w ⟨s,ρ,H,A,m,sat⟩=>?_;refine wp_mono (ns hm body _ _ _ y (round s m) bs ρ H a w rfl sat) fun e a w p=>?_;obtain⟨x,ρ2,o,t,g,u,b,k⟩:=p;cases x<;>cases e<;>simp only[Pg]at u
 ·obtain⟨c,h,q,r⟩:=k
  obtain⟨ρ3,j⟩:=r.sat b;exact⟨μ c,A ▸ q,c,ρ3,o,rfl,h,j⟩
 ·exact⟨.exit _,ρ2,o,t,g,u,b,k⟩
 exact⟨.ret,ρ2,o,t,g,trivial,b,k⟩
def iD (P:Program) (E:Env) (lo:List AObj) (r:ResultVar) (R:FV->Prop):Prop:=
 match r with
 | .tmp t=>ql2 E t R
 | .cell a t=>ql2 E a fun v=>Vh P t lo v R
def qq0 (lo:List AObj) (v:FV) (R:PV->List AObj->Prop):Prop:=
 match v with
 | .vsl k _=>UK k lo fun o=>match o with
  | .vec _ _ rows=>Bz k .dead lo fun lo=>R (.sl rows) lo
  | _=>False
 | v=>ee v fun p=>R p lo
def qqc:List FV->List AObj->(List PV->List AObj->Prop)->Prop
 | [],lo,R=>R [] lo
 | v::cs,lo,R=>qq0 lo v fun p lo=>qqc cs lo fun a lo=>R (p::a) lo
def qqb (lo:List AObj) (v:FV) (R:FV->List AObj->Prop):Prop:=
 match v with
 | .vsl k _=>UK k lo fun o=>match o with
  | .vec _ _ rows=>Bz k .dead lo fun lo=>R (.p (.sl rows)) lo
  | .vl _ _ rows _ _=>Bz k .dead lo fun lo=>R (.p (.sl rows)) lo
  | _=>False
 | .fagg c=>Df c fun cs=>qqc cs lo fun a lo=>R (.p (.agg a)) lo
 | v=>R v lo
def qnk (P:Program) (E:Env) (lo:List AObj):List ResultVar->(List PV->Prop)->Prop
 | [],R=>R []
 | r::rs,R=>iD P E lo r fun v=>qqb lo v fun v lo=>ee v fun v=>qnk P E lo rs fun l=>R (v::l)
def qps (P:Program) (fn:Func) (R:PV->Prop):KA:=fun x E lo=>match x with
 | .exit _=>False
 | _=>qnk P E lo fn.results.toList fun vs=>match vs with
   | [v]=>R v
   | vs=>R (.tup vs)
def toF:PV->FV
 | .hp row=>.hptr row
 | v=>.p v
theorem qhu {ρ:List Value} {H:PH} {v:PV} {x:Value} (h:zn H v x):zo ρ H (toF v) x:=by
 cases v<;>simp only[toF]<;>first|exact h|(simp only[zn]at h; simp only[zo]; exact h)
def Rl:Nat->List PV->Env
 | _,[]=>[]
 | n,v::vs=>(n,toF v)::Rl (n+1) vs
def qpz (P:Program) (inl:List Nat) (fn:Func) (args:List PV) (R:PV->Prop):Prop:=
 match fn.body with
 | some c=>vc P inl fn.ntmps 0 c (qps P fn R) (Rl 0 args) []
 | none=>False
def qfa (inl:List Nat) (fn:Func) (n:Nat):Bool:=(match fn.body with|some c=>dx inl c|none=>false)&&decide (n<=fn.ntmps)
def Enters (P:Program) (f:FuncId):Prop:=∀ (args:Array Value) (w:World),(callFunc f args).run P w=.ok (.enter f args) w
def ay (tmps:Array Value):ResultVar->Sem Value
 | .tmp t=>pure (tmps.getD t undef)
 | .cell p t=>do loadVar t (← asAddr (tmps.getD p undef))
theorem ZK (fn:Func) (tmps:Array Value):results fn tmps=(do
  let vs ← fn.results.mapM (ay tmps)
  pure (if h:vs.size=1 then vs[0]else .tuple vs)):=by
 unfold results;congr 1
theorem qg0 {lo:List AObj} {v:FV} {R:PV->List AObj->Prop} (h:qq0 lo v R):∃ f lo',R f lo'/\∀ (bs:Base) (N:Nat) (ρ:List Value) (H:PH) (e:Nat->FV) (a:Act) (w:World) (x:Value),Sat bs N ρ H e lo a w->zo ρ H v x ->
  ∃ H',PH.le H H'/\Sat bs N ρ H' e lo' a w/\zn H' f x:=by
 unfold qq0 at h;split at h
 ·rename_i k n
  obtain⟨o,c,h⟩:=xk h;split at h
  ·rename_i e z rows
   obtain⟨h,_⟩:=fg h;refine⟨_,_,h,fun bs N ρ H ev a w x s r=>?_⟩;obtain⟨H',b,d,g⟩:=s.toSatW.publish c r.1;exact⟨H',b,{ d with slots:=fun t=>(s.slots t).mono (jq _) b,width:=s.width,defers:=s.defers },g⟩
  exact h.elim
 obtain⟨p,h,hp⟩:=tH h;exact⟨_,_,h,fun bs N ρ H e a w x s r=>⟨H,PH.le.refl H,s,hp _ _ _ r⟩⟩
theorem ao:∀ {cs:List FV} {lo:List AObj} {R:List PV->List AObj->Prop},qqc cs lo R->∃ d lo',R d lo'/\∀ (bs:Base) (N:Nat) (ρ:List Value) (H:PH) (e:Nat->FV) (a:Act) (w:World) (vs:List Value),Sat bs N ρ H e lo a w->xL ρ H cs vs ->
  ∃ H',PH.le H H'/\Sat bs N ρ H' e lo' a w/\zS H' d vs
 | [],lo,R,h=>⟨[],lo,h,fun bs N ρ H e a w vs s r=>⟨H,PH.le.refl H,s,by simp only[xL]at r; simp only[zS]; exact r⟩⟩
 | v::cs,lo,R,h=>by
  simp only[qqc]at h;obtain⟨p,i,h,h1⟩:=qg0 h;obtain⟨d,j,h,h2⟩:=ao h;refine⟨_,_,h,fun bs N ρ H e a w vs s r=>?_⟩;obtain⟨u,us,rfl,k,rs⟩:=r;obtain⟨H1,b,s1,f⟩:=h1 bs N ρ H e a w u s k;obtain⟨l,c,s2,g⟩:=h2 bs N ρ H1 e a w us s1 (rs.mono (jq _) b);exact⟨l,b.trans c,s2,by simp only[zS]; exact⟨u,us,rfl,zn.mono c f,g⟩⟩
theorem qg1 {lo:List AObj} {v:FV} {R:FV->List AObj->Prop} (h:qqb lo v R):∃ f lo',R f lo'/\∀ (bs:Base) (N:Nat) (ρ:List Value) (H:PH) (e:Nat->FV) (a:Act) (w:World) (x:Value),Sat bs N ρ H e lo a w->zo ρ H v x ->
  ∃ H',PH.le H H'/\Sat bs N ρ H' e lo' a w/\zo ρ H' f x:=by
 unfold qqb at h;split at h
 ·rename_i k n
  obtain⟨o,i,h⟩:=xk h;split at h
  ·rename_i e z rows
   obtain⟨h,_⟩:=fg h;refine⟨_,_,h,fun bs N ρ H ev a w x s r=>?_⟩;obtain⟨H',b,d,g⟩:=s.toSatW.publish i r.1;exact⟨H',b,{ d with slots:=fun t=>(s.slots t).mono (jq _) b,width:=s.width,defers:=s.defers },g⟩
  ·rename_i e z rows j kt
   obtain⟨h,_⟩:=fg h;refine⟨_,_,h,fun bs N ρ H ev a w x s r=>?_⟩;have s1:=s.toSatW.view i rfl (o':=.vec e z rows) rfl (fun v u ok=>qp0 ok)
   have l:k<lo.length:=(jG.1 i).1;have m:(lo.set k (AObj.vec e z rows))[k]? =some (AObj.vec e z rows):=by simp[l]
   obtain⟨H',b,d,g⟩:=s1.publish m r.1;rw[List.set_set]at d;exact⟨H',b,{ d with slots:=fun t=>(s.slots t).mono (jq _) b,width:=s.width,defers:=s.defers },g⟩
  exact h.elim
 ·rename_i c
  obtain⟨cs,h,p⟩:=Bo h;obtain⟨y,lo',h,q⟩:=ao h;refine⟨_,_,h,fun bs N ρ H e a w x s r=>?_⟩;obtain⟨vs,rfl,rc⟩:=r;obtain⟨H',b,d,g⟩:=q bs N ρ H e a w vs s (p _ _ _ rc);exact⟨H',b,d,by simp only[zo,zn]; exact⟨vs,rfl,g⟩⟩
 exact⟨_,_,h,fun bs N ρ H e a w x s r=>⟨H,PH.le.refl H,s,r⟩⟩
theorem GS {P:Program} {E:Env} {lo:List AObj} {r:ResultVar} {R:FV->Prop} (h:iD P E lo r R):∃ f,R f/\∀ (bs:Base) (N:Nat) (ρ:List Value) (H:PH) (a:Act) (w:World),Sat bs N ρ H (qv E) lo a w ->
  ∃ v,(ay a.tmps r).run P w=.ok v w/\zo ρ H f v:=by
 cases r with
 | tmp t=>
  simp only[iD,sR]at h;exact⟨_,h,fun bs N ρ H a w s=>⟨a.tmps.getD t undef,rfl,s.slots t⟩⟩
 | cell q t=>
  simp only[iD,sR]at h;obtain⟨c,h,d⟩:=EG h;refine⟨c,h,fun bs N ρ H a w s=>?_⟩;obtain⟨i,u,e,b,g⟩:=d bs ρ H w _ s.toSatW (s.slots q);refine⟨u,?_,g⟩;simp only[Instr.loadAt,e,Instr.sureAddr,kc,kd,kb]at b;simp only[ay,e,asAddr,kc,kd,kb,b]
theorem ax {P:Program} {E:Env}:∀ {l:List ResultVar} {lo:List AObj} {R:List PV->Prop},qnk P E lo l R->∃ c,R c/\c.length=l.length/\∀ (bs:Base) (N:Nat) (ρ:List Value) (H:PH) (a:Act) (w:World),Sat bs N ρ H (qv E) lo a w ->
  ∃ (vs:List Value) (H':PH) (lo':List AObj),(l.mapM (m:=Sem) (ay a.tmps)).run P w=.ok vs w/\zS H' c vs/\PH.le H H'/\Sat bs N ρ H' (qv E) lo' a w
 | [],lo,R,h=>⟨[],h,rfl,fun bs N ρ H a w s=>⟨[],H,lo,by simp,by simp[zS],PH.le.refl H,s⟩⟩
 | r::rs,lo,R,h=>by
  simp only[qnk]at h;obtain⟨f,h,h1⟩:=GS h;obtain⟨t,k,h,h2⟩:=qg1 h;obtain⟨p,h,hp⟩:=tH h;obtain⟨c,h,hlen,h3⟩:=ax h;refine⟨p::c,h,by simp[hlen],fun bs N ρ H a w s=>?_⟩;obtain⟨v,n,o⟩:=h1 bs N ρ H a w s;obtain⟨H1,d,s1,e⟩:=h2 bs N ρ H _ a w v s o;obtain⟨vs,q,g,i,j,b,s2⟩:=h3 bs N ρ H1 a w s1;refine⟨v::vs,q,g,?_,by simp only[zS]; exact⟨v,vs,rfl,zn.mono b (hp _ _ _ e),j⟩,d.trans b,s2⟩;simp only[List.mapM_cons,kc,n,kb,i,kd]
theorem qb2 {P:Program} {fn:Func} {E:Env} {lo:List AObj} {x:AX} {R:PV->Prop} (h:qps P fn R x E lo):∃ p,R p/\(x=.normal\/x=.ret) /\
  ∀ (bs:Base) (N:Nat) (ρ:List Value) (H:PH) (a:Act) (w:World),Sat bs N ρ H (qv E) lo a w->∃ (v:Value) (H':PH) (lo':List AObj),(results fn a.tmps).run P w=.ok v w/\zn H' p v/\PH.le H H'/\Sat bs N ρ H' (qv E) lo' a w:=by
 have key:∀ {x:AX},(x=.normal\/x=.ret)->(qnk P E lo fn.results.toList fun vs=>match vs with
   | [v]=>R v
   | vs=>R (.tup vs))->∃ p,R p/\(x=.normal\/x=.ret) /\
  ∀ (bs:Base) (N:Nat) (ρ:List Value) (H:PH) (a:Act) (w:World),Sat bs N ρ H (qv E) lo a w->∃ (v:Value) (H':PH) (lo':List AObj),(results fn a.tmps).run P w=.ok v w/\zn H' p v/\PH.le H H'/\Sat bs N ρ H' (qv E) lo' a w:=by
  intro x m h;obtain⟨o,h,e,n⟩:=ax h;clear e;split at h
  ·rename_i p
   refine⟨p,h,m,fun bs N ρ H a w s=>?_⟩;obtain⟨vs,H',lo',f,d,c,g⟩:=n bs N ρ H a w s;simp only[zS]at d;obtain⟨v,_,rfl,q,rfl⟩:=d;refine⟨v,H',lo',?_,q,c,g⟩;rw[ZK,Array.mapM_eq_mapM_toList];simp only[kc,Sem.run_map,f,kb];rfl
  rename_i j;refine⟨_,h,m,fun bs N ρ H a w s=>?_⟩;obtain⟨vs,H',lo',f,d,c,g⟩:=n bs N ρ H a w s;refine⟨.tuple vs.toArray,H',lo',?_,by simp only[zn]; exact⟨vs,rfl,d⟩,c,g⟩;rw[ZK,Array.mapM_eq_mapM_toList];simp only[kc,Sem.run_map,f,kb,kd];have:¬ vs.toArray.size=1:=by
   intro h1;have k:=d.length;simp at h1;rw[h1]at k;cases o with
   | nil=>simp at k
   | cons a l=>cases l with
    | nil=>exact j a rfl
    | cons b l=>simp at k
  simp only[this,dif_neg,not_false_eq_true]
 cases x with
 | normal=>exact key (.inl rfl) h
 | exit i=>exact h.elim
 | ret=>exact key (.inr rfl) h
theorem EE:∀ (n:Nat) (args:List PV) (t:Nat),qv (Rl n args) t=match (if n<=t then args[t - n]? else none)with|some v=>toF v|none=>.top
 | n,[],t=>by simp[Rl,qv]
 | n,v::vs,t=>by
  simp only[Rl,qv];cases a:Nat.beq t n with
  | true=>
   have:=jm a;subst this;simp
  | false=>
   have b:t≠n:=fun e=>by subst e; simp[Nat.beq_refl]at a
   simp only;rw[EE (n+1) vs t];by_cases h:n<=t
   ·have h1:n+1<=t:=by omega
    have h2:t - n=(t - (n+1))+1:=by omega
    simp[h,h1,h2]
   have h1:¬ n+1<=t:=by omega
   simp[h,h1]
theorem qb.of_vcR {P:Program} {f:FuncId} {fn:Func} {args:List PV} {r:PV} {inl:List Nat} {R:PV->Prop} (hm:P.follows .mixedOrders=true) (he:Enters P f) (A:P.funcs[f]? =some fn) (g:qfa inl fn args.length=true)
  (B:∀ (p:PV) (v:Value) (H:PH),R p->zn H p v->zn H r v) (h:qpz P inl fn args R):qb P f args r:=by
 intro H w vs C y;rw[he];refine⟨rfl,?_⟩;simp only[qfa,ji,kde]at g;obtain⟨j,I⟩:=g;unfold qpz at h;cases l:fn.body with
 | none=>simp[l]at j
 | some c=>
  simp only[l]at h j;refine calls_of_wp A l ?_;have J:=y.length;have sat:Sat { S:=iJ,w0:=w,H0:=H,r0:=[] } fn.ntmps [] H (qv (Rl 0 args)) [] { tmps:=vs.toArray++Array.replicate (fn.ntmps - vs.toArray.size) undef,defers:=[] } w:=by
   refine{ sath:=C,hlen:=rfl,pre:=jq _,objs:=fun k o v h=>by simp at h,excl:=fun k _ o _ v _ b h=>by simp at h,own:=fun k o v b h=>by simp at h,keep:=Keep.refl _ w,leH:=PH.le.refl H,newH:=fun b o v h=>.inl ⟨v,h⟩,slots:=fun t=>?_,width:=by simp; omega,defers:=rfl }
   rw[EE];simp only[jS,if_true,Nat.sub_zero];cases D:args[t]? with
   | none=>trivial
   | some p=>
    obtain⟨v,d,m⟩:=y.get D;have n:=(jG.1 d).1;have:(vs.toArray++Array.replicate (fn.ntmps - vs.toArray.size) undef).getD t undef=v:=by
     rw[jX,Array.getElem?_append_left (by simpa using n)];simp[d]
    rw[this];exact qhu m
  refine wp_mono (ns hm c _ _ _ j h _ [] H _ w rfl sat) fun e a w' p=>?_;obtain⟨x,ρ',H',E',lo',E,q,k⟩:=p;obtain⟨p,hp,s,i⟩:=qb2 k;obtain⟨v,z,F,d,m,G,s2⟩:=i _ _ ρ' H' a w' q;have fin:∃ v,(results fn a.tmps).run P w'=.ok v w'/\(fun e u=>∃ v H',e=Ending.returned v/\Calm H w H' u/\zn H' r v) (.returned v) w':=
   ⟨v,d,v,z,rfl,⟨s2.leH,s2.sath,s2.keep,fun b o v d=>by
    rcases s2.newH b o v d with h|h|h
    ·exact .inl h
    ·exact h.elim
    exact .inr h⟩,B p v z hp m⟩
  rcases s with rfl|rfl<;>cases e<;>simp only[Pg]at E
  ·exact⟨q.defers,fin⟩
  exact⟨q.defers,fin⟩
theorem qb.of_vc {P:Program} {f:FuncId} {fn:Func} {args:List PV} {r:PV} {inl:List Nat} (hm:P.follows .mixedOrders=true) (he:Enters P f) (b:P.funcs[f]? =some fn) (a:qfa inl fn args.length=true)
  (h:qpz P inl fn args (fun v=>v=r)):qb P f args r:=
 qb.of_vcR (R:=fun v=>v=r) hm he b a (fun _ _ _ e x=>e ▸ x) h
end Ax
end
section
namespace Ax
open Go
def qd8 (ρ:List Value) (lo:List AObj):Nat->Prop:=fun b=>∃ (k:Nat) (o:AObj) (v:Value),lo[k]? =some o/\ρ[k]? =some v/\o.live=true/\zy v=some b
theorem SatW.lend {bs:Base} {ρ:List Value} {H:PH} {lo:List AObj} {w:World} (s:SatW bs ρ H lo w):SatW { S:=qd8 ρ lo,w0:=w,H0:=H,r0:=ρ } ρ H lo w where
 sath:=s.sath
 hlen:=s.hlen
 pre:=jq _
 objs:=s.objs
 excl:=s.excl
 own:=fun k o v b a c d e=>.inl ⟨k,o,v,a,c,d,e⟩
 keep:=Keep.refl _ w
 leH:=PH.le.refl H
 newH:=fun b o v h=>.inl ⟨v,h⟩
theorem SatW.back {bs:Base} {ρ ρ':List Value} {H H':PH} {lo lo':List AObj} {w w':World} (s:SatW bs ρ H lo w) (a:SatW { S:=qd8 ρ lo,w0:=w,H0:=H,r0:=ρ } ρ' H' lo' w'):SatW bs ρ' H' lo' w':=by
 have d:∀ b,qd8 ρ lo b->bs.S b\/bs.w0.heap.size<=b:=fun b ⟨k,o,v,e,c,f,g⟩=>s.own k o v b e c f g
 refine{ sath:=a.sath,hlen:=a.hlen,pre:=s.pre.trans a.pre,objs:=a.objs,excl:=a.excl,own:=fun k o v b e c f g=>?_,keep:=s.keep.step a.keep d,leH:=s.leH.trans a.leH,newH:=fun b o v c=>?_ }
 ·rcases a.own k o v b e c f g with h|h
  ·exact d b h
  exact .inr (Nat.le_trans s.keep.size h)
 rcases a.newH b o v c with ⟨u,hu⟩|h|h
 ·exact s.newH b o u hu
 ·exact .inr (d b h)
 exact .inr (.inr (Nat.le_trans s.keep.size h))
def tR:Nat->List FV->Env
 | _,[]=>[]
 | n,v::vs=>(n,v)::tR (n+1) vs
theorem VC:∀ (n:Nat) (args:List FV) (t:Nat),qv (tR n args) t=(if n<=t then args[t - n]? else none).getD .top
 | n,[],t=>by simp[tR,qv]
 | n,v::vs,t=>by
  simp only[tR,qv];cases a:Nat.beq t n with
  | true=>
   have:=jm a;subst this;simp
  | false=>
   have b:t≠n:=fun e=>by subst e; simp[Nat.beq_refl]at a
   simp only;rw[VC (n+1) vs t];by_cases h:n<=t
   ·have h1:n+1<=t:=by omega
    have h2:t - n=(t - (n+1))+1:=by omega
    simp[h,h1,h2]
   have h1:¬ n+1<=t:=by omega
   simp[h,h1]
theorem xL.get {ρ:List Value} {H:PH}:∀ {cs:List FV} {vs:List Value} {i:Nat} {c:FV},xL ρ H cs vs->cs[i]? =some c->∃ v,vs[i]? =some v/\zo ρ H c v
 | [],_,_,_,_,h=>by simp at h
 | c::cs,vs,i,c',x,h=>by
  obtain⟨v,a,rfl,r,rs⟩:=x;cases i with
  | zero=>simp at h; subst h; exact⟨v,by simp,r⟩
  | succ i=>simp at h; obtain⟨u,hu,b⟩:=rs.get h; exact⟨u,by simpa using hu,b⟩
def qom (v1 v2:FV) (R:FV->Prop):Prop:=
 match v1 with
 | .p p1=>match v2 with
  | .p p2=>R (.p (.tup [p1,p2]))
  | .tsl _ rows=>R (.p (.tup [p1,.sl rows]))
  | v2=>R (.pair (.p p1) v2)
 | .tsl _ rows1=>match v2 with
  | .p p2=>R (.p (.tup [.sl rows1,p2]))
  | .tsl _ rows=>R (.p (.tup [.sl rows1,.sl rows]))
  | v2=>R (.pair (.p (.sl rows1)) v2)
 | v1=>match v2 with
  | .tsl _ rows=>R (.pair v1 (.p (.sl rows)))
  | v2=>R (.pair v1 v2)
def frL (P:Program) (E:Env) (lo:List AObj):List ResultVar->(List PV->Prop)->Prop
 | [],R=>R []
 | r::rs,R=>iD P E lo r fun v=>ee v fun v=>frL P E lo rs fun l=>R (v::l)
theorem qhv {v1 v2:FV} {R:FV->Prop} (h:qom v1 v2 R):∃ v,R v/\∀ (ρ:List Value) (H:PH) (x y:Value),zo ρ H v1 x->zo ρ H v2 y->zo ρ H v (.tuple #[x,y]):=by
 have pp:∀ (c d:PV) (ρ:List Value) (H:PH) (x y:Value),zn H c x->zn H d y->zo ρ H (.p (.tup [c,d])) (.tuple #[x,y]):=fun c d ρ H x y a b=>by
  simp only[zo,zn];exact⟨[x,y],rfl,by simp only[zS]; exact⟨x,_,rfl,a,y,[],rfl,b,rfl⟩⟩
 unfold qom at h;split at h
 ·split at h
  ·exact⟨_,h,fun ρ H x y a b=>pp _ _ ρ H x y a b⟩
  ·exact⟨_,h,fun ρ H x y a b=>pp _ _ ρ H x y a b.2⟩
  exact⟨_,h,fun ρ H x y a b=>⟨x,y,rfl,a,b⟩⟩
 ·split at h
  ·exact⟨_,h,fun ρ H x y a b=>pp _ _ ρ H x y a.2 b⟩
  ·exact⟨_,h,fun ρ H x y a b=>pp _ _ ρ H x y a.2 b.2⟩
  exact⟨_,h,fun ρ H x y a b=>⟨x,y,rfl,a.2,b⟩⟩
 split at h
 ·exact⟨_,h,fun ρ H x y a b=>⟨x,y,rfl,a,b.2⟩⟩
 exact⟨_,h,fun ρ H x y a b=>⟨x,y,rfl,a,b⟩⟩
theorem qa5 {P:Program} {E:Env} {lo:List AObj}:∀ {l:List ResultVar} {R:List PV->Prop},frL P E lo l R->∃ b,R b/\b.length=l.length/\∀ (bs:Base) (N:Nat) (ρ:List Value) (H:PH) (a:Act) (w:World),Sat bs N ρ H (qv E) lo a w ->
  ∃ vs:List Value,(l.mapM (m:=Sem) (ay a.tmps)).run P w=.ok vs w/\zS H b vs
 | [],R,h=>⟨[],h,rfl,fun bs N ρ H a w s=>⟨[],by simp,by simp[zS]⟩⟩
 | r::rs,R,h=>by
  simp only[frL]at h;obtain⟨f,h,h1⟩:=GS h;obtain⟨p,h,hp⟩:=tH h;obtain⟨b,h,hlen,h2⟩:=qa5 h;refine⟨p::b,h,by simp[hlen],fun bs N ρ H a w s=>?_⟩;obtain⟨v,e,g⟩:=h1 bs N ρ H a w s;obtain⟨vs,c,d⟩:=h2 bs N ρ H a w s;refine⟨v::vs,?_,by simp only[zS]; exact⟨v,vs,rfl,hp _ _ _ g,d⟩⟩;simp only[List.mapM_cons,kc,e,kb,c,kd]
def qnl (P:Program) (fn:Func) (R:FV->List AObj->Prop):KA:=fun x E lo=>match x with
 | .exit _=>False
 | _=>match fn.results.toList with
  | [r]=>iD P E lo r fun v=>R v lo
  | []=>R (.p (.tup [])) lo
  | [r1,r2]=>iD P E lo r1 fun v1=>iD P E lo r2 fun v2=>qom v1 v2 fun v=>R v lo
  | r::rs=>frL P E lo (r::rs) fun vs=>R (.p (.tup vs)) lo
def vcI (P:Program) (inl:List Nat) (fn:Func) (args:List FV) (lo:List AObj) (R:FV->List AObj->Prop):Prop:=
 match fn.body with
 | some c=>CA lo 0 fun nb=>vc P inl fn.ntmps nb c (qnl P fn R) (tR 0 args) lo
 | none=>False
theorem DE {P:Program} {fn:Func} {E:Env} {lo:List AObj} {x:AX} {R:FV->List AObj->Prop} (h:qnl P fn R x E lo):∃ p,R p lo/\(x=.normal\/x=.ret) /\
  ∀ (bs:Base) (N:Nat) (ρ:List Value) (H:PH) (a:Act) (w:World),Sat bs N ρ H (qv E) lo a w->∃ v,(results fn a.tmps).run P w=.ok v w/\zo ρ H p v:=by
 have key:∀ {x:AX},(x=.normal\/x=.ret)->(match fn.results.toList with
  | [r]=>iD P E lo r fun v=>R v lo
  | []=>R (.p (.tup [])) lo
  | [y,z]=>iD P E lo y fun v1=>iD P E lo z fun v2=>qom v1 v2 fun v=>R v lo
  | r::rs=>frL P E lo (r::rs) fun vs=>R (.p (.tup vs)) lo)->∃ p,R p lo/\(x=.normal\/x=.ret) /\
  ∀ (bs:Base) (N:Nat) (ρ:List Value) (H:PH) (a:Act) (w:World),Sat bs N ρ H (qv E) lo a w->∃ v,(results fn a.tmps).run P w=.ok v w/\zo ρ H p v:=by
  intro x g h;split at h
  ·rename_i r c
   obtain⟨f,h,d⟩:=GS h;refine⟨f,h,g,fun bs N ρ H a w s=>?_⟩;obtain⟨v,D,F⟩:=d bs N ρ H a w s;refine⟨v,?_,F⟩;rw[ZK,Array.mapM_eq_mapM_toList,c];simp only[List.mapM_cons,List.mapM_nil,kc,Sem.run_map,D,kb,kd];rfl
  ·rename_i c
   refine⟨_,h,g,fun bs N ρ H a w s=>⟨.tuple #[],?_,by simp only[zo,zn]; exact⟨[],rfl,rfl⟩⟩⟩;rw[ZK,Array.mapM_eq_mapM_toList,c];simp only[List.mapM_nil,kc,Sem.run_map,kb,kd];rfl
  ·rename_i y z c
   obtain⟨f1,h,j⟩:=GS h;obtain⟨f2,h,k⟩:=GS h;obtain⟨f,h,d⟩:=qhv h;refine⟨f,h,g,fun bs N ρ H a w s=>?_⟩;obtain⟨v1,m,n⟩:=j bs N ρ H a w s;obtain⟨v2,o,q⟩:=k bs N ρ H a w s;refine⟨.tuple #[v1,v2],?_,d _ _ _ _ n q⟩;rw[ZK,Array.mapM_eq_mapM_toList,c];simp only[List.mapM_cons,List.mapM_nil,kc,Sem.run_map,m,o,kb,kd];rfl
  rename_i r rs e A c;obtain⟨G,h,t,d⟩:=qa5 h;refine⟨_,h,g,fun bs N ρ H a w s=>?_⟩;obtain⟨vs,u,B⟩:=d bs N ρ H a w s;refine⟨.tuple vs.toArray,?_,by simp only[zo,zn]; exact⟨vs,rfl,B⟩⟩;rw[ZK,Array.mapM_eq_mapM_toList,c];simp only[kc,Sem.run_map,u,kb,kd];have:¬ vs.toArray.size=1:=by
   intro h1;simp at h1;have C:vs.length=(r::rs).length:=by rw[B.length,t]
   rw[h1]at C;cases rs with
   | nil=>exact e rfl
   | cons b l=>simp at C
  simp only[this,dif_neg,not_false_eq_true]
 cases x with
 | normal=>exact key (.inl rfl) h
 | exit i=>exact h.elim
 | ret=>exact key (.inr rfl) h
theorem fb.of_vc {P:Program} {f:FuncId} {fn:Func} {args:List FV} {lo:List AObj} {R:FV->List AObj->Prop} {inl:List Nat} (hm:P.follows .mixedOrders=true) (he:Enters P f) (y:P.funcs[f]? =some fn) (d:qfa inl fn args.length=true)
  (h:vcI P inl fn args lo R):fb P f args lo R:=by
 intro bs ρ H w vs s u;rw[he];refine⟨rfl,?_⟩;simp only[qfa,ji,kde]at d;obtain⟨j,D⟩:=d;unfold vcI at h;cases l:fn.body with
 | none=>simp[l]at j
 | some c=>
  simp only[l]at h j;have h:=ud h;rw[jx]at h;refine calls_of_wp y l ?_;have E:=u.length;have sat:Sat { S:=qd8 ρ lo,w0:=w,H0:=H,r0:=ρ } fn.ntmps ρ H (qv (tR 0 args)) lo { tmps:=vs.toArray++Array.replicate (fn.ntmps - vs.toArray.size) undef,defers:=[] } w:=by
   refine{ s.lend with slots:=fun t=>?_,width:=by simp; omega,defers:=rfl }
   rw[VC];simp only[jS,if_true,Nat.sub_zero];cases z:args[t]? with
   | none=>trivial
   | some p=>
    obtain⟨v,i,m⟩:=u.get z;have n:=(jG.1 i).1;have:(vs.toArray++Array.replicate (fn.ntmps - vs.toArray.size) undef).getD t undef=v:=by
     rw[jX,Array.getElem?_append_left (by simpa using n)];simp[i]
    rw[this];exact m
  refine wp_mono (ns hm c _ _ _ j h _ ρ H _ w s.hlen sat) fun e a w' p=>?_;obtain⟨x,ρ',H',E',lo',A,b,k⟩:=p;obtain⟨p,B,o,g⟩:=DE k;obtain⟨v,i,m⟩:=g _ _ ρ' H' a w' b;have fin:∃ v,(results fn a.tmps).run P w'=.ok v w'/\(fun C q=>∃ v r lo',C=Ending.returned v/\ZN bs ρ H r lo' v q/\R r lo') (.returned v) w':=
   ⟨v,i,v,p,lo',rfl,⟨ρ',H',b.pre,b.leH,s.back b.toSatW,m⟩,B⟩
  rcases o with rfl|rfl<;>cases e<;>simp only[Pg]at A
  ·exact⟨b.defers,fin⟩
  exact⟨b.defers,fin⟩
end Ax
end
section
namespace Ax
open Go
inductive Val where
 | mk (kind:Int) (b:Bool) (i:Int) (s:List UInt8) (l:List Val) (k:List (List UInt8))
def qi (l:List (List UInt8)):List (List PV):=l.map fun s=>[.str s]
mutual
def Val.cells:Val->List PV
 | .mk k b i s l ks=>[.int .i64 k,.bool b,.int .i64 i,.str s,.sl (Val.rows l),.sl (qi ks)]
def Val.rows:List Val->List (List PV)
 | []=>[]
 | v::l=>v.cells::Val.rows l
end
abbrev Val.pv (v:Val):PV:=.agg v.cells
def vals (l:List Val):List (List PV):=l.map Val.cells
theorem rows_eq:∀ l:List Val,Val.rows l=vals l
 | []=>rfl
 | v::l=>by simp only[Val.rows,vals,jk]; rw[rows_eq l]; rfl
@[simp] theorem qns (l:List (List UInt8)):(qi l).length=l.length:=by simp[qi]
@[simp] theorem qnu (l:List Val):(vals l).length=l.length:=by simp[vals]
theorem XJ (v:Val):v.cells.length=6:=by cases v; rfl
theorem Hc (n:Int) (a:-9223372036854775808<=n) (h1:n<=9223372036854775807):kwr .i64 n=n:=IntWalk.i64_in n ⟨a,h1⟩
instance:Inhabited Val:=⟨.mk 0 false 0 [] [] []⟩
end Ax
end
section
namespace Ax
open Go
def qre:List (List UInt8)->Nat
 | []=>0
 | k::l=>k.length+1+qre l
mutual
def Val.big:Val->Nat
 | .mk _ _ _ s l ks=>1+s.length+qra l+qre ks
def qra:List Val->Nat
 | []=>0
 | v::l=>Val.big v+qra l
end
end Ax
end
section
namespace Ax
open Go
theorem To:∀ a b:List UInt8,(Op.bytesLess a b||a==b)=!Op.bytesLess b a
 | [],[]=>rfl
 | [],_::_=>rfl
 | _::_,[]=>rfl
 | x::xs,y::ys=>by
  have ih:=To xs ys;simp only[Op.bytesLess];rcases Nat.lt_trichotomy x.toNat y.toNat with h|h|h
  ·have h1:x<y:=UInt8.lt_iff_toNat_lt.2 h
   have h2:¬ y<x:=fun c=>by have:=UInt8.lt_iff_toNat_lt.1 c; omega
   have h3:¬ y=x:=fun c=>by subst c; omega
   simp[h1,h2,h3]
  ·have h1:x=y:=UInt8.toNat.inj h
   subst h1;have h2:¬ x<x:=fun c=>by have:=UInt8.lt_iff_toNat_lt.1 c; omega
   simp only[h2,List.cons_beq_cons];simpa using ih
  have h1:¬ x<y:=fun c=>by have:=UInt8.lt_iff_toNat_lt.1 c; omega
  have h2:y<x:=UInt8.lt_iff_toNat_lt.2 h;have h3:¬ x=y:=fun c=>by subst c; omega
  simp[h1,h2,h3]
end Ax
end
section
namespace Ax
open Go
end Ax
end
section
namespace Ax
open Go
theorem fb.noEscape {P:Program} {f:FuncId} {fn:Func} (hf:P.funcs[f]? =some fn) (hname:(fn.name == "runtime.NumGoroutine")=false) (hb:fn.body.isNone=true) (hn:Extern.findNext fn=none)
  (he:Extern.find fn=some Extern.AbiNoEscape.same) {v:FV} {lo:List AObj} {R:FV->List AObj->Prop} (h:R v lo):fb P f [v] lo R:=by
 intro bs ρ H w vs s rl;simp only[xL]at rl;obtain⟨v',_,rfl,rv,rfl⟩:=rl;rw[show([v']:List Value).toArray = #[v']from rfl,run_callFunc_extern hf hname hb hn he];exact⟨v,lo,⟨ρ,H,jq _,PH.le.refl H,s,rv⟩,h⟩
end Ax
end
section
namespace Go.Proofs
open Go Go.Shelf Go.RowKit Ax
variable {P:Program} {ρ:Ren}
def MV (l:List UInt8) (v:Value) (w:World) (e:Ending) (w':World):Prop:=
 e=.returned (.string ⟨l.toArray⟩)/\(w'=w.drew\/(∃ g n,zy v=some g/\w'=w.drew.freeze ⟨g,0,none⟩ n)\/∃ o,w'=w.drew.alloc o)
set_option maxHeartbeats 2000000 in
set_option maxRecDepth 100000 in
theorem Any.String_exact (L:Lays.n169 P ρ) (X:Builder.Extra P ρ) (b:Nat) (l:List UInt8) (w:World) (p v:Value) (c:w.heap[b]? =some (.cells #[p,v] (ρ.t 72) (0,0)))
  (a:w.ownsRow 0 (ρ.t 5) 1 v l.length (Lib.byteCells l)) (k:l≠[]) :
  Calls P (ρ.f 169) #[.pointer (some ⟨b,0,none⟩)] w (MV l v w):=by
 have d:l.length≠0:=by simpa using k
 obtain⟨g,cap,cur,rfl,m,n,e,o,h⟩:∃ g cap cur,v=.slice (some ⟨g,0,none⟩) l.length cap/\w.heap[g]? =some (.cells cur (ρ.t 5) (0,0))/\l.length<=cap/\cap<=maxLen/\cur.size=cap * 1/\cur.toList.take (l.length * 1)=Lib.byteCells l:=by
  rcases a.2 with ⟨_,hz⟩|⟨g,cap,cur,q,_,r⟩
  ·exact absurd hz d
  exact⟨g,cap,cur,q,r⟩
 have c1:w.drew.cell? ⟨b,1,none⟩=some (.slice (some ⟨g,0,none⟩) l.length cap):=by
  have:w.drew.heap[b]? =some (.cells #[p,.slice (some ⟨g,0,none⟩) l.length cap] (ρ.t 72) (0,0)):=c;rw[Lib.cell_of_heap this]; rfl
 have s:(Builtin.unsafeSliceData_ #[(ρ.t 37)] (ρ.t 127) #[.slice (some ⟨g,0,none⟩) l.length cap]).run P w.drew=.ok (.pointer (some ⟨g,0,none⟩)) w.drew:=
  Lib.run_unsafeSliceData_row _ _ _ _ _ _ (by omega)
 have u:(Builtin.unsafeString_ #[(ρ.t 127),(ρ.t 3)] (ρ.t 9) #[.pointer (some ⟨g,0,none⟩),.int .i64 l.length]).run P w.drew=.ok (.string ⟨l.toArray⟩) (w.drew.freeze ⟨g,0,none⟩ l.length):=by
  refine Lib.run_unsafeString_row w.drew (ρ.t 127) (ρ.t 3) (ρ.t 9) (ρ.t 5) L.t127 X.cellsByte g cur.size (by have i:w.drew.heap[g]? =some (.cells cur (ρ.t 5) (0,0)):=m; simp[World.shape?,i]) l k (by omega) (by unfold maxLen at e; omega) ?_;intro j x y;exact a.cells (g:=g) rfl j (.int .u8 x.toNat) (by simp[Lib.byteCells,y])
 have mixed:=L.mixed;have t72:=L.t72; have a72:=L.a72; have z72:=L.z72; have v72:=L.v72; have u72:=kru L.t72;have t70:=L.t70; have a70:=L.a70; have z70:=L.z70; have v70:=L.v70; have u70:=kru L.t70;have t37:=L.t37; have a37:=L.a37; have z37:=L.z37; have v37:=L.v37; have u37:=kru L.t37;have t127:=L.t127; have a127:=L.a127; have z127:=L.z127; have v127:=L.v127; have u127:=kru L.t127;have t3:=L.t3; have a3:=L.a3; have z3:=L.z3; have v3:=L.v3; have u3:=kru L.t3;have t9:=L.t9; have a9:=L.a9; have z9:=L.z9; have v9:=L.v9; have u9:=kru L.t9;have t5:=X.t5; have a5:=X.a5; have z5:=X.z5; have v5:=X.v5; have u5:=kru X.t5
 go_enter L.f169,Body.n169_ntmps ρ
 go_wp2
 go_region_o
 all_goals (go_wp2; go_ret; exact⟨rfl,.inr (.inl ⟨g,l.length,rfl,rfl⟩)⟩)
theorem Any.String_empty (L:Lays.n169 P ρ) (X:Builder.Extra P ρ) (b:Nat) (w:World) (p v:Value) (a:w.heap[b]? =some (.cells #[p,v] (ρ.t 72) (0,0)))
  (c:w.ownsRow 0 (ρ.t 5) 1 v 0 []) :
  Calls P (ρ.f 169) #[.pointer (some ⟨b,0,none⟩)] w fun e w'=>e=.returned (.string ⟨#[]⟩)/\Below w.heap.size w w':=by
 rcases c.2 with ⟨rfl,_⟩|⟨g,cap,cur,rfl,_,h,_,_,_,_⟩
 ·exact Any.Builder_String_nil L X _ b p w a
 by_cases d:cap=0
 ·subst d
  exact Any.Builder_String_noroom L X _ b g p cur w (jw _) a h
 exact Any.Builder_String_room L X _ b g cap p w d a
end Go.Proofs
end
section
namespace Ax
open Go Go.Proofs Go.RowKit
structure Shut (v:Value) (w w':World):Prop where
 os:w'.os=w.os
 tape:w'.tape=w.tape
 output:w'.output=w.output
 size:w.heap.size<=w'.heap.size
 block:∀ k,k<w.heap.size->zy v≠some k->w'.heap[k]? =w.heap[k]?
 cell:∀ a x,w.cell? a=some x->w'.cell? a=some x
theorem Shut.of {l:List UInt8} {v:Value} {w w':World} {e:Ending} (h:MV l v w e w'):Shut v w w':=by
 obtain⟨_,rfl|⟨g,n,j,rfl⟩|⟨o,rfl⟩⟩:=h
 ·exact⟨rfl,rfl,rfl,jw _,fun _ _ _=>rfl,fun _ _ h=>h⟩
 ·have m:∀ k,k≠g->(w.drew.freeze ⟨g,0,none⟩ n).heap[k]? =w.heap[k]?:=by
   intro k f;unfold World.freeze;split
   ·rfl
   simp only[Array.getElem?_modify];rw[if_neg (by omega)]; rfl
  refine⟨?_,?_,?_,?_,fun k _ f=>m k (fun e=>f (by rw[j,e])),fun a x b=>?_⟩
  ·unfold World.freeze; split<;>rfl
  ·unfold World.freeze; split<;>rfl
  ·unfold World.freeze; split<;>rfl
  ·unfold World.freeze; split
   ·exact jw _
   simp
  unfold World.freeze;split
  ·exact b
  unfold World.cell? at b ⊢;split at b
  ·rename_i c p q r
   have i:w.drew.heap[a.block]? =some (.cells c p q):=r;simp only[Array.getElem?_modify,i,Option.map_some];by_cases d:g=a.block
   ·simp only[d,if_true]; exact b
   simp only[d,if_false]; exact b
  exact absurd b (by simp)
 refine⟨rfl,rfl,rfl,by simp,fun k f _=>?_,fun a x b=>?_⟩
 ·exact Go.RowKit.Below.heap_alloc w.drew o k f
 rw[World.cell?_alloc_lt (h:=World.block_lt_of_cell? w.drew a b)]; exact b
theorem SatW.shut {bs:Base} {ρ:List Value} {H:PH} {lo:List AObj} {w w':World} (s:SatW bs ρ H lo w) {j:Nat} {v:Value} {e:TypeId} {z n:Nat} (f:lo[j]? =some (.tail e z n)) (g:ρ[j]? =some v)
  (h:Shut v w w'):SatW bs ρ H (lo.set j .dead) w' where
 sath:=⟨fun b o x l=>⟨h.cell _ _ (s.sath.cell b o x l).1,(s.sath.cell b o x l).2⟩,s.sath.root⟩
 hlen:=by simpa using s.hlen
 pre:=s.pre
 objs:=fun i o u a hu=>by
  rw[jF]at a;split at a
  ·split at a
   ·cases a; trivial
   cases a
  ·rename_i c
   cases m:o.live with
   | false=>cases o<;>simp[AObj.live]at m; trivial
   | true=>
    refine(s.objs i o u a hu).keep (jq _) (PH.le.refl H) (fun b r d=>h.block b d fun e=>?_) (fun _ _ _ _ t=>t)
    exact s.excl i j o _ u v b a f hu g (fun e=>c e.symm) m rfl r e
 excl:=s.kill j |>.excl
 own:=s.kill j |>.own
 keep:=by
  refine⟨h.os.trans s.keep.os,h.tape.trans s.keep.tape,h.output.trans s.keep.output,Nat.le_trans s.keep.size h.size,fun k p q=>?_⟩;rw[h.block k (Nat.lt_of_lt_of_le p s.keep.size) fun e=>?_]
  ·exact s.keep.block k p q
  rcases s.own j _ v k f g rfl e with h1|h1
  ·exact q h1
  omega
 leH:=s.leH
 newH:=s.newH
theorem fb.string {P:Program} {f:FuncId} {T E:TypeId} (q:∀ args w,(callFunc f args).run P w=.ok (.enter f args) w)
  (F:∀ (b:Nat) (l:List UInt8) (w:World) (p v:Value),w.heap[b]? =some (.cells #[p,v] T (0,0))->w.ownsRow 0 E 1 v l.length (Lib.byteCells l)->l≠[] ->
   Calls P f #[.pointer (some ⟨b,0,none⟩)] w (MV l v w))
  {k j:Nat} {a:FV} {bs:List UInt8} {lo:List AObj} {n:Nat} {R:FV->List AObj->Prop} (G:lo[k]? =some (.box T [a,.tsl j (qT bs)])) (A:lo[j]? =some (.tail E 1 n))
  (B:bs≠[]) (h:R (.p (.str bs)) (lo.set j .dead)):fb P f [.ptr k 0] lo R:=by
 intro I ρ H w vs s J;obtain⟨u,_,rfl,K,rfl⟩:=J;obtain⟨b,L,rfl⟩:=K;rw[show([Value.pointer (some ⟨b,0,none⟩)]:List Value).toArray = #[.pointer (some ⟨b,0,none⟩)]from rfl,q];refine⟨rfl,?_⟩;obtain⟨S,vs,M,N,r,_⟩:=s.objs k _ _ G L;cases M;simp only[xL]at r;obtain⟨p,_,rfl,_,v,_,rfl,⟨C,d⟩,rfl⟩:=r;obtain⟨xs,c,U⟩:=s.objs j _ v A C;have x:n=bs.length/\xs=Lib.byteCells bs:=by
  simp only[zn]at d;rcases d with ⟨m,_⟩|⟨g,o,z,cap,rfl,_,rr⟩
  ·exact absurd (by simpa[qT]using m) B
  rcases c.2 with ⟨m,_⟩|⟨V,D,cur,m,_⟩
  ·cases m
  simp only[Value.slice.injEq,Option.some.injEq,Addr.mk.injEq]at m;obtain⟨⟨rfl,rfl,_⟩,O,_⟩:=m;have t:n=bs.length:=by rw[← O]; simp[qT]
  refine⟨t,?_⟩;have Q:=c.1;have i:=Sa s.sath rr;refine List.ext_getElem (by rw[Q,Lib.byteCells_length,t,Nat.mul_one]) fun j h1 h2=>?_;have y:j<bs.length:=by rw[Lib.byteCells_length]at h2; exact h2
  have c1:=c.cells (g:=g) rfl j _ (jf h1);rw[i j y]at c1;simp only[Option.some.injEq]at c1;rw[← c1];simp[Lib.byteCells]
 obtain⟨rfl,rfl⟩:=x;refine(F b bs w p v N c B).mono fun e w' hp=>?_;exact⟨_,.p (.str bs),lo.set j .dead,hp.1,⟨ρ,H,jq _,PH.le.refl H,s.shut A C (Shut.of hp),by simp[zo,zn]⟩,h⟩
theorem SatH.below {H:PH} {w w':World} (s:SatH H w) (h:Below w.heap.size w w'):Calm H w H w':=
 ⟨PH.le.refl H,s.block fun b _ _ a=>h.block b (s.lt a),⟨h.os,h.tape,h.output,h.size,fun k c _=>h.block k c⟩,fun _ _ v a=>.inl ⟨v,a⟩⟩
abbrev MW (P:Program) (f:FuncId) (T E:TypeId):Prop:=∀ (b:Nat) (w:World) (p v:Value),w.heap[b]? =some (.cells #[p,v] T (0,0))->w.ownsRow 0 E 1 v 0 [] ->
   Calls P f #[.pointer (some ⟨b,0,none⟩)] w fun e w'=>e=.returned (.string ⟨#[]⟩)/\Below w.heap.size w w'
theorem fb.string_any {P:Program} {f:FuncId} {T E:TypeId} (i:∀ args w,(callFunc f args).run P w=.ok (.enter f args) w)
  (D:∀ (b:Nat) (l:List UInt8) (w:World) (p v:Value),w.heap[b]? =some (.cells #[p,v] T (0,0))->w.ownsRow 0 E 1 v l.length (Lib.byteCells l)->l≠[] ->
   Calls P f #[.pointer (some ⟨b,0,none⟩)] w (MV l v w)) (x:MW P f T E)
  {k j:Nat} {a:FV} {bs:List UInt8} {lo:List AObj} {n:Nat} {R:FV->List AObj->Prop} (A:lo[k]? =some (.box T [a,.tsl j (qT bs)])) (B:lo[j]? =some (.tail E 1 n))
  (h:R (.p (.str bs)) (lo.set j .dead)):fb P f [.ptr k 0] lo R:=by
 by_cases C:bs=[]
 ·subst C
  intro F ρ H w vs s G;obtain⟨u,_,rfl,I,rfl⟩:=G;obtain⟨b,J,rfl⟩:=I;rw[show([Value.pointer (some ⟨b,0,none⟩)]:List Value).toArray = #[.pointer (some ⟨b,0,none⟩)]from rfl,i];refine⟨rfl,?_⟩;obtain⟨Q,vs,K,L,q,_⟩:=s.objs k _ _ A J;cases K;simp only[xL]at q;obtain⟨p,_,rfl,_,v,_,rfl,⟨M,m⟩,rfl⟩:=q;obtain⟨xs,d,S⟩:=s.objs j _ v B M;have N:n=0:=by
   simp only[zn,qT,jN]at m;rcases m with ⟨_,r⟩|⟨g,o,z,cap,rfl,_,_⟩
   ·rcases d.2 with ⟨_,hz⟩|⟨O,t,cur,c,_⟩
    ·exact hz
    rcases r with r|⟨a0,c0,r⟩
    ·rw[r]at c; cases c
    rw[r]at c;simp only[Value.slice.injEq]at c;exact c.2.1.symm
   rcases d.2 with ⟨c,hz⟩|⟨O,t,cur,c,_⟩
   ·cases c
   simp only[Value.slice.injEq]at c;exact c.2.1.symm
  subst N;have y:xs=[]:=by have:=d.1; simpa using this
  subst y;refine(x b w p v L d).mono fun e w' hp=>?_;exact⟨_,.p (.str []),lo.set j .dead,hp.1,⟨ρ,H,jq _,PH.le.refl H,(s.kill j).calm (s.sath.below hp.2),by simp[zo,zn]⟩,h⟩
 exact fb.string i D A B C h
end Ax
end
section
namespace Ax
open Go
mutual
def PV.norm:PV->PV
 | .nilsl=>.sl []
 | .agg cs=>.agg (Rr cs)
 | .tup cs=>.tup (Rr cs)
 | .sl rows=>.sl (oQ rows)
 | v=>v
def Rr:List PV->List PV
 | []=>[]
 | c::cs=>c.norm::Rr cs
def oQ:List (List PV)->List (List PV)
 | []=>[]
 | r::rs=>Rr r::oQ rs
end
theorem GO:∀ rows:List (List PV),(oQ rows).length=rows.length
 | []=>rfl
 | _::l=>by simp[oQ,GO l]
theorem Hv:∀ cs:List PV,(Rr cs).length=cs.length
 | []=>rfl
 | _::l=>by simp[Rr,Hv l]
mutual
theorem zn.norm {H:PH}:∀ {c:PV} {v:Value},zn H c v->zn H c.norm v
 | .nilsl,v,h=>by simp only[PV.norm,zn]at *; exact .inl ⟨trivial,.inl h⟩
 | .agg cs,v,h=>by
  simp only[PV.norm,zn]at *;obtain⟨vs,e,r⟩:=h;exact⟨vs,e,zS.norm r⟩
 | .tup cs,v,h=>by
  simp only[PV.norm,zn]at *;obtain⟨vs,e,r⟩:=h;exact⟨vs,e,zS.norm r⟩
 | .sl rows,v,h=>by
  simp only[PV.norm,zn]at *;rcases h with ⟨rfl,h⟩|⟨b,o,z,cap,e,hc,r⟩
  ·exact .inl ⟨rfl,h⟩
  exact .inr ⟨b,o,z,cap,by rw[GO]; exact e,by rw[GO]; exact hc,Qg.norm r⟩
 | .bool _,_,h|.int ..,_,h|.str _,_,h|.nilp,_,h|.fn _,_,h|.nilfn,_,h|.nili,_,h|.nilmap,_,h|.ifc ..,_,h|.hp _,_,h|.clo ..,_,h|.bfn ..,_,h|.ifo ..,_,h=>by
  simpa only[PV.norm]using h
theorem zS.norm {H:PH}:∀ {cs:List PV} {vs:List Value},zS H cs vs->zS H (Rr cs) vs
 | [],_,h=>by simpa only[Rr]using h
 | c::cs,vs,h=>by
  simp only[Rr,zS]at *;obtain⟨v,vs',e,r,rs⟩:=h;exact⟨v,vs',e,zn.norm r,zS.norm rs⟩
theorem Qg.norm {H:PH} {b z:Nat}:∀ {rows:List (List PV)} {o:Nat},Qg H b z o rows->Qg H b z o (oQ rows)
 | [],_,h=>by simpa only[oQ]using h
 | r::rs,o,h=>by
  simp only[oQ,Qg]at *;obtain⟨e,⟨vs,q,c⟩,rr⟩:=h;exact⟨by rw[Hv]; exact e,⟨vs,zS.norm q,c⟩,Qg.norm rr⟩
end
theorem qb.norm {P:Program} {f:FuncId} {args:List PV} {r a:PV} (h:qb P f args r) (e:r.norm=a):qb P f args a:=by
 subst e;intro H w vs b d;have:=h H w vs b d;generalize (callFunc f vs.toArray).run P w=x at *;cases x with
 | ok n w'=>
  cases n<;>simp only[Fc]at this ⊢ <;> try exact this
  ·obtain⟨H',c,r⟩:=this; exact⟨H',c,zn.norm r⟩
  exact⟨this.1,this.2.mono fun i g ⟨v,H',e,c,r⟩=>⟨v,H',e,c,zn.norm r⟩⟩
 | halt x w'=>exact this
theorem qb.args {P:Program} {f:FuncId} {args a:List PV} {r:PV} (h:qb P f a r) (e:Rr args=a):qb P f args r:=by
 subst e;exact fun H w vs b c=>h H w vs b (zS.norm c)
end Ax
end
section
namespace Ax
open Go
section
variable {A R S:Type}
def chk (b:Bool) (k:Option R):Option R:=match b with|true=>k|false=>none
theorem qg {b:Bool} {k:Option R} {r:R} (h:chk b k=some r):b=true/\k=some r:=by
 cases b with
 | true=>exact⟨rfl,h⟩
 | false=>cases h
def bnd (o:Option A) (k:A->Option R):Option R:=match o with|some a=>k a|none=>none
theorem Fh {o:Option A} {k:A->Option R} {r:R} (h:bnd o k=some r):∃ x,o=some x/\k x=some r:=by
 cases o with
 | some a=>exact⟨a,rfl,h⟩
 | none=>cases h
theorem qo2 {c:Bool} {a b:Option R} {r:R} (h:(bif c then a else b)=some r) (d:c=true):a=some r:=by subst d; exact h
theorem qo1 {c:Bool} {a b:Option R} {r:R} (h:(bif c then a else b)=some r) (d:c=false):b=some r:=by subst d; exact h
def idx (l:List A) (i:Int):Option A:=if 0<=i then l[i.toNat]? else none
theorem bX {l:List A} {i:Int} {x:A} (h:idx l i=some x):0<=i/\l[i.toNat]? =some x:=by
 unfold idx at h;split at h
 ·exact⟨by assumption,h⟩
 cases h
def qD [Inhabited A] (g:Bool) (o:Option A):Option A:=bif g then o else some default
theorem qa [Inhabited A] {g:Bool} {o:Option A} {x:A} (h:qD g o=some x) (a:g=true):o=some x:=by subst a; exact h
def LL (i:Int):Option Nat:=if 0<=i then some i.toNat else none
theorem gK {i:Int} {n:Nat} (h:LL i=some n):i=n:=by
 unfold LL at h;split at h
 ·cases h; omega
 cases h
def u8I (i:Int):Option UInt8:=if 0<=i/\i<256 then some (UInt8.ofNat i.toNat)else none
theorem vQ {i:Int} {b:UInt8} (h:u8I i=some b):i=(b.toNat:Int):=by
 unfold u8I at h;split at h
 ·cases h
  simp only[UInt8.toNat_ofNat'];omega
 cases h
theorem gd {g c:Bool} (h:(bif g then c else true)=true) (a:g=true):c=true:=by subst a; exact h
def qo (B:(S->Option R)->S->Option R):Nat->S->Option R
 | 0,_=>none
 | n+1,s=>B (qo B n) s
end
structure Codec (A:Type) where
 cells:A->List PV
 rows:List A->List (List PV)
 z:Nat
 hrows:∀ l,rows l=l.map cells
 hz:∀ a,(cells a).length=z
 hone:∀ a,(cells a).all ah=true
namespace Codec
variable {A:Type} (C:Codec A)
theorem at_ {l:List A} {i:Int} {x:A} (h:idx l i=some x):0<=i/\(C.rows l)[i.toNat]? =some (C.cells x)/\(C.cells x).length=C.z:=by
 obtain⟨a,h1⟩:=bX h;exact⟨a,by rw[C.hrows]; simp[h1],C.hz x⟩
theorem length (l:List A):(C.rows l).length=l.length:=by rw[C.hrows]; simp
theorem append (a b:List A):C.rows a++C.rows b=C.rows (a++b):=by simp[C.hrows]
theorem take (l:List A) (n:Nat):(C.rows l).take n=C.rows (l.take n):=by simp[C.hrows]
theorem drop (l:List A) (n:Nat):(C.rows l).drop n=C.rows (l.drop n):=by simp[C.hrows]
theorem cut (l:List A) (n m:Nat):((C.rows l).take n).drop m=C.rows ((l.take n).drop m):=by simp[C.hrows]
theorem wide (l:List A):∀ r∈C.rows l,r.length=C.z:=by
 intro r b;rw[C.hrows]at b;obtain⟨a,_,rfl⟩:=List.mem_map.1 b;exact C.hz a
theorem one (l:List A):∀ r∈C.rows l,r.length=C.z/\r.all ah=true:=by
 intro r b;rw[C.hrows]at b;obtain⟨a,_,rfl⟩:=List.mem_map.1 b;exact⟨C.hz a,C.hone a⟩
theorem vy (x:A) (n:Nat) {a:List PV} (h:a=C.cells x):List.replicate n a=C.rows (List.replicate n x)\/Rq (List.replicate n a) (C.rows (List.replicate n x)):=by
 subst h; rw[C.hrows]; exact .inl (by simp)
theorem madeN (x:A) (n:Nat) {a:List PV} (h:ef a (C.cells x)):List.replicate n a=C.rows (List.replicate n x)\/Rq (List.replicate n a) (C.rows (List.replicate n x)):=by
 rw[C.hrows];refine .inr ?_
 induction n with
 | zero=>trivial
 | succ n ih=>simp only[List.replicate_succ,jk,Rq]; exact⟨h,by simpa using ih⟩
end Codec
def zF (k:IntKind) (l:List Int):List (List PV):=l.map fun n=>[PV.int k n]
def Sb {A:Type} (C:Codec A) (l:List (List A)):List (List PV):=l.map fun x=>[PV.sl (C.rows x)]
def cc:Codec (List UInt8):={ cells:=fun s=>[.str s],rows:=qi,z:=1,hrows:=fun _=>rfl,hz:=fun _=>rfl,hone:=fun _=>rfl }
def uN:Codec UInt8:={ cells:=fun b=>[.int .u8 b.toNat],rows:=qT,z:=1,hrows:=fun _=>rfl,hz:=fun _=>rfl,hone:=fun _=>rfl }
def qlw (k:IntKind):Codec Int:={ cells:=fun n=>[.int k n],rows:=zF k,z:=1,hrows:=fun _=>rfl,hz:=fun _=>rfl,hone:=fun _=>rfl }
def slC {A:Type} (C:Codec A):Codec (List A):={ cells:=fun x=>[.sl (C.rows x)],rows:=Sb C,z:=1,hrows:=fun _=>rfl,hz:=fun _=>rfl,hone:=fun _=>rfl }
theorem Val.one (v:Val):v.cells.all ah=true:=by cases v; rfl
def gM:Codec Val:={ cells:=Val.cells,rows:=Val.rows,z:=6,hrows:=fun l=>rows_eq l,hz:=XJ,hone:=Val.one }
theorem qmj {a:List PV} (h:a.all ah=true):∀ c∈a,ah c=true:=by simpa using h
theorem xj {n b:Nat} (h:decide (n * b<=140737488355328)=true) (a:1<=b):n<=9223372036854775807:=by
 have:=kod h;have:n * 1<=n * b:=Nat.mul_le_mul_left n a;omega
theorem qb.leArgs {P:Program} {f:FuncId} {args a:List PV} {r:PV} (h:qb P f a r) (e:ef args a):qb P f args r:=
 fun H w vs b c=>h H w vs b (XT e c)
theorem qb.le {P:Program} {f:FuncId} {args:List PV} {r a:PV} (h:qb P f args r) (e:nle r a):qb P f args a:=by
 intro H w vs b d;have:=h H w vs b d;generalize (callFunc f vs.toArray).run P w=x at *;cases x with
 | ok n w'=>
  cases n<;>simp only[Fc]at this ⊢ <;> try exact this
  ·obtain⟨H',c,r⟩:=this; exact⟨H',c,EM e r⟩
  exact⟨this.1,this.2.mono fun j g ⟨v,H',i,c,r⟩=>⟨v,H',i,c,EM e r⟩⟩
 | halt x w'=>exact this
theorem qX.fn {P:Program} (inl:List Nat) {N nb:Nat} {body:Code} {K:KA} {E:Env} {lo:List AObj} {S R:Type} (l:S->Env) (ob:S->List AObj) {B:(S->Option R)->S->Option R} {n:Nat} {m:S} {r:R}
  (h:qo B n m=some r) (hw:Ri nb E lo (l m) (ob m))
  (round:∀ (next:S->Option R) (s:S),B next s=some r->vc P inl N nb body (fun x E' lo'=>match x with
   | .normal=>∃ c,next c=some r/\Ri nb E' lo' (l c) (ob c)
   | .exit i=>K (.exit i) E' lo'
   | .ret=>K .ret E' lo') (l s) (ob s)):qX P inl N nb body K E lo:=by
 intro hm y bs ρ H a w z sat;subst z;obtain⟨ρ',d⟩:=hw.sat sat;refine wp_loop_ghost (I:=fun n a w=>∃ s ρ H,qo B n s=some r/\Sat bs N ρ H (qv (l s)) (ob s) a w) n ⟨m,ρ',H,h,d⟩ fun n a w ⟨s,ρ,H,t,sat⟩=>?_;cases n with
 | zero=>cases t
 | succ n=>
  refine wp_mono (ns hm body _ _ _ y (round (qo B n) s t) bs ρ H a w rfl sat) fun e a w p=>?_;obtain⟨x,ρ2,o,u,f,v,b,k⟩:=p;cases x<;>cases e<;>simp only[Pg]at v
  ·obtain⟨c,g,q⟩:=k
   obtain⟨ρ3,j⟩:=q.sat b;exact⟨n,Nat.lt_succ_self _,c,ρ3,o,g,j⟩
  ·exact⟨.exit _,ρ2,o,u,f,v,b,k⟩
  exact⟨.ret,ρ2,o,u,f,trivial,b,k⟩
theorem cY.go {P:Program} {inl:List Nat} {N nb:Nat} {x y:Code} {K:KA} {E:Env} {lo:List AObj}
  (h:vc P inl N nb x (fun e E lo=>match e with|.normal=>vc P inl N nb y K E lo|.exit i=>K (.exit i) E lo|.ret=>K .ret E lo) E lo):cY P inl N nb x y K E lo:=by
 intro hm b f bs ρ H a w d s;refine wp_seq (wp_mono (ns hm x _ E lo b h bs ρ H a w d s) fun e a w p=>?_);obtain⟨g,ρ',H',E',lo',b,c,k⟩:=p;cases g<;>cases e<;>simp only[Pg]at b
 ·exact ns hm y K E' lo' f k bs ρ' H' a w d c
 ·exact⟨.exit _,ρ',H',E',lo',b,c,k⟩
 exact⟨.ret,ρ',H',E',lo',trivial,c,k⟩
theorem cY.cut {P:Program} {inl:List Nat} {N nb:Nat} {x y:Code} {K:KA} {E:Env} {lo:List AObj} {S R:Type} (l:S->Env) (ob:S->List AObj) (k:S->Option R) {r:R}
  (n:∀ s,k s=some r->vc P inl N nb y K (l s) (ob s))
  (b:vc P inl N nb x (fun e E lo=>match e with|.normal=>∃ s,k s=some r/\Ri nb E lo (l s) (ob s)|.exit i=>K (.exit i) E lo|.ret=>K .ret E lo) E lo):cY P inl N nb x y K E lo:=by
 intro hm c d bs ρ H a w m s;refine wp_seq (wp_mono (ns hm x _ E lo c b bs ρ H a w m s) fun e a w p=>?_);obtain⟨o,ρ',H',E',lo',b,f,g⟩:=p;cases o<;>cases e<;>simp only[Pg]at b
 ·obtain⟨st,h,j⟩:=g
  subst m;obtain⟨ρ3,q⟩:=j.sat f;exact ns hm y K _ _ d (n st h) bs ρ3 H' a w rfl q
 ·exact⟨.exit _,ρ',H',E',lo',b,f,g⟩
 exact⟨.ret,ρ',H',E',lo',trivial,f,g⟩
theorem qb.of_vcN {P:Program} {f:FuncId} {fn:Func} {args:List PV} {r:PV} {inl:List Nat} (hm:P.follows .mixedOrders=true) (he:Enters P f) (b:P.funcs[f]? =some fn) (a:qfa inl fn args.length=true)
  (h:qpz P inl fn args (fun v=>nle v r)):qb P f args r:=
 qb.of_vcR hm he b a (fun _ _ _=>EM) h
section
variable {A R S:Type}
theorem qO (B:(S->Option R)->S->Option R) (n:Nat) (s:S):qo B (n+1) s=B (qo B n) s:=rfl
@[simp] theorem qc (a:A) (k:A->Option R):bnd (some a) k=k a:=rfl
@[simp] theorem qrb (k:A->Option R):bnd none k=none:=rfl
@[simp] theorem qrc (k:Option R):chk true k=k:=rfl
@[simp] theorem qqt (b:Bool) (k:Option R):chk b (chk b k)=chk b k:=by cases b<;>rfl
@[simp] theorem zg [Inhabited A] (o:Option A):qD true o=o:=rfl
@[simp] theorem fU [Inhabited A] (o:Option A):qD false o=some default:=rfl
@[simp] theorem qf (l:List A) (i:Nat):idx l (i:Int)=l[i]?:=by unfold idx; simp
@[simp] theorem nq (l:List A):idx l 0=l[0]?:=by unfold idx; simp
@[simp] theorem natI_nat (i:Nat):LL (i:Int)=some i:=by unfold LL; simp
@[simp] theorem TZ (b:UInt8):u8I ((b.toNat:Nat):Int)=some b:=by
 have:=b.toNat_lt;unfold u8I;rw[if_pos ⟨Int.natCast_nonneg _,by omega⟩];simp
@[simp] theorem lh (l:List UInt8):(qT l).length=l.length:=by simp[qT]
@[simp] theorem ze (l:List Val):(Val.rows l).length=l.length:=by rw[rows_eq]; simp
theorem zH {b:Bool} (k:Option R) (h:b=true):chk b k=k:=by subst h; rfl
end
end Ax
end
section
namespace Ax
open Go
def vA (P:Program) (f:FuncId) (args:List FV) (objs:List AObj) (m:Nat) (R:FV->List AObj->Prop):Prop:=
 ∀ (bs:Base) (ρ:List Value) (H:PH) (w:World) (vs:List Value),bs.r0=ρ.take m->SatW bs ρ H objs w->xL ρ H args vs ->
  match (callFunc f vs.toArray).run P w with
  | .ok (.value v) w'=>∃ r a ρ' H',R r a/\PH.le H H'/\SatW bs ρ' H' a w'/\zo ρ' H' r v
  | .ok (.enter f' args') w'=>w'=w/\Calls P f' args' w fun c b=>∃ v r a ρ' H',c=.returned v/\R r a/\PH.le H H'/\SatW bs ρ' H' a b/\zo ρ' H' r v
  | _=>False
theorem vA.mono {P:Program} {f:FuncId} {args:List FV} {objs:List AObj} {m:Nat} {R R':FV->List AObj->Prop} (h:vA P f args objs m R) (b:∀ r lo,R r lo->R' r lo):vA P f args objs m R':=by
 intro bs ρ H w vs c s d;have:=h bs ρ H w vs c s d;generalize (callFunc f vs.toArray).run P w=x at *;cases x with
 | ok n w'=>
  cases n<;>simp only at this ⊢ <;> try exact this
  ·obtain⟨r,a,ρ',H',h1,h2⟩:=this; exact⟨r,a,ρ',H',b _ _ h1,h2⟩
  exact⟨this.1,this.2.mono fun i g ⟨v,r,a,ρ',H',e,h1,h2⟩=>⟨v,r,a,ρ',H',e,b _ _ h1,h2⟩⟩
 | halt x w'=>exact this
def qsd (P:Program) (fn:Func) (m:Nat) (R:FV->List AObj->Prop):KA:=qnl P fn fun r0 lo=>∃ r a,R r a/\Ri m [(0,r0)] lo [(0,r)] a
def vcO (P:Program) (inl:List Nat) (fn:Func) (args:List FV) (objs:List AObj) (m:Nat) (R:FV->List AObj->Prop):Prop:=
 match fn.body with
 | some c=>vc P inl fn.ntmps m c (qsd P fn m R) (tR 0 args) objs
 | none=>False
theorem vA.of_vc {P:Program} {f:FuncId} {fn:Func} {args:List FV} {objs:List AObj} {m:Nat} {R:FV->List AObj->Prop} {inl:List Nat} (hm:P.follows .mixedOrders=true) (he:Enters P f) (J:P.funcs[f]? =some fn) (j:qfa inl fn args.length=true)
  (K:m<=objs.length) (h:vcO P inl fn args objs m R):vA P f args objs m R:=by
 intro bs ρ H w vs y s I;rw[he];refine⟨rfl,?_⟩;simp only[qfa,ji,kde]at j;obtain⟨z,Q⟩:=j;unfold vcO at h;cases A:fn.body with
 | none=>simp[A]at z
 | some c=>
  simp only[A]at h z;refine calls_of_wp J A ?_;have S:=I.length;have l:bs.r0.length=m:=by rw[y,jt,s.hlen]; omega
  have sat:Sat bs fn.ntmps ρ H (qv (tR 0 args)) objs { tmps:=vs.toArray++Array.replicate (fn.ntmps - vs.toArray.size) undef,defers:=[] } w:=by
   refine{ s with slots:=fun t=>?_,width:=by simp; omega,defers:=rfl }
   rw[VC];simp only[jS,if_true,Nat.sub_zero];cases L:args[t]? with
   | none=>trivial
   | some p=>
    obtain⟨v,i,B⟩:=I.get L;have C:=(jG.1 i).1;have:(vs.toArray++Array.replicate (fn.ntmps - vs.toArray.size) undef).getD t undef=v:=by
     rw[jX,Array.getElem?_append_left (by simpa using C)];simp[i]
    rw[this];exact B
  have g:=ns hm c _ _ _ z h { bs with H0:=H } ρ H _ w l { sat with leH:=PH.le.refl H,newH:=fun b o v i=>.inl ⟨v,i⟩ }
  refine wp_mono g fun e a w' p=>?_;obtain⟨x,ρ',H',E',lo',M,q,k⟩:=p;obtain⟨r0,D,E,n⟩:=DE k;obtain⟨r,d,D,hw⟩:=D;obtain⟨v,i,B⟩:=n _ _ ρ' H' a w' q;have s1:Sat { bs with H0:=H } 1 ρ' H' (qv [(0,r0)]) lo' { tmps:=#[v],defers:=[] } w':=by
   refine{ q.toSatW with slots:=fun t=>?_,width:=rfl,defers:=rfl }
   cases t with
   | zero=>exact B
   | succ t=>simp only[qv]; exact trivial
  obtain⟨ρ2,s2⟩:=Ri.sat s1 (by rw[l]; exact hw);have rv2:zo ρ2 H' r v:=s2.slots 0;have fin:∃ v,(results fn a.tmps).run P w'=.ok v w'/\(fun N F=>∃ v r d ρ' H',N=Ending.returned v/\R r d/\PH.le H H'/\SatW bs ρ' H' d F/\zo ρ' H' r v) (.returned v) w':=by
   refine⟨v,i,v,r,d,ρ2,H',rfl,D,s2.leH,?_,rv2⟩;refine{ s2.toSatW with leH:=s.leH.trans s2.leH,newH:=fun b o u hu=>?_ }
   rcases s2.newH b o u hu with ⟨O,G⟩|h|h
   ·exact s.newH b o O G
   ·exact .inr (.inl h)
   exact .inr (.inr h)
  rcases E with rfl|rfl<;>cases e<;>simp only[Pg]at M
  ·exact⟨q.defers,fin⟩
  exact⟨q.defers,fin⟩
def AObj.ren (σ:Nat->Nat):AObj->AObj
 | .box t cells=>.box t (cells.map (FV.ren σ))
 | .mp d es _=>.mp d es none
 | .vl e z rows j k=>.vl e z rows j (σ k)
 | .pbx t c=>.pbx t (c.ren σ)
 | o=>o
theorem zo.ren {ρ ρ':List Value} {H:PH} {σ:Nat->Nat} (h:∀ i v,ρ[i]? =some v->ρ'[σ i]? =some v):∀ {f:FV} {x:Value},zo ρ H f x->zo ρ' H (f.ren σ) x
 | .top,_,_=>trivial
 | .p p,x,r=>r
 | .opt g v,x,r=>by
  simp only[FV.ren,zo]at *;split
  ·rename_i d; simp only[d,if_true]at r; exact zo.ren h r
  rename_i d; simpa[d]using r
 | .tsl k rows,x,r=>⟨h _ _ r.1,r.2⟩
 | .ptr k off,x,⟨b,e,e'⟩=>⟨b,h _ _ e,e'⟩
 | .hptr row,x,r=>r
 | .bself k,x,⟨b,e,e'⟩=>⟨b,h _ _ e,e'⟩
 | .bsl k off len cap,x,⟨b,e,e'⟩=>⟨b,h _ _ e,e'⟩
 | .vsl k n,x,r=>⟨h _ _ r.1,r.2⟩
 | .eptr k z i off,x,⟨b,n,cap,e,e'⟩=>⟨b,n,cap,h _ _ e,e'⟩
 | .mref k,x,⟨b,e,e'⟩=>⟨b,h _ _ e,e'⟩
 | .pair a b,x,⟨u,v,e,ra,rb⟩=>⟨u,v,e,ra.ren h,rb.ren h⟩
 | .stmp k,x,r=>h _ _ r
 | .clo f c,x,⟨vs,e,rc⟩=>⟨vs,e,rc.ren h⟩
 | .cap0,x,r=>r
 | .cap a b,x,⟨u,vs,e,ra,rb⟩=>⟨u,vs,e,ra.ren h,rb.ren h⟩
 | .fagg c,x,⟨vs,e,rc⟩=>⟨vs,e,rc.ren h⟩
 | .nxt ok a b,x,r=>r
 | .asl k off n,x,⟨b,m,cap,c,e,e'⟩=>⟨b,m,cap,c,h _ _ e,e'⟩
theorem xL.ren {ρ ρ':List Value} {H:PH} {σ:Nat->Nat} (h:∀ i v,ρ[i]? =some v->ρ'[σ i]? =some v):∀ {cs:List FV} {vs:List Value},xL ρ H cs vs->xL ρ' H (cs.map (FV.ren σ)) vs
 | [],_,r=>r
 | _::_,_,⟨v,vs',e,r,rs⟩=>⟨v,vs',e,r.ren h,rs.ren h⟩
theorem UQ.ren {ρ ρ':List Value} {H:PH} {w:World} {σ:Nat->Nat} (h:∀ i v,ρ[i]? =some v->ρ'[σ i]? =some v) {v:Value} {o:AObj} (ok:UQ ρ H w v o):UQ ρ' H w v (o.ren σ):=by
 cases o with
 | dead=>trivial
 | box t cells=>
  obtain⟨b,vs,e,a,rc,f⟩:=ok;exact⟨b,vs,e,a,rc.ren h,f⟩
 | tail e z n=>exact ok
 | vec e z rows=>exact ok
 | mp d es mk=>
  obtain⟨b,ents,clock,e,a,g,⟨h1,h2,_⟩,f⟩:=ok;exact⟨b,ents,clock,e,a,g,⟨h1,h2,fun key s e=>by cases e⟩,f⟩
 | sit l p=>exact ok
 | bv l=>exact ok
 | vl e z rows j k=>
  obtain⟨xs,h1,h2,h3,h4,m⟩:=ok;exact⟨xs,h1,h2,h3,h4,fun u hu=>h _ _ (m u hu)⟩
 | pbx t c=>
  obtain⟨b,u,us,e,a,rc,f⟩:=ok;exact⟨b,u,us,e,a,rc.ren h,f⟩
theorem AObj.ren_live (σ:Nat->Nat) (o:AObj):(o.ren σ).live=o.live:=by cases o<;>rfl
def σOf (l:List Nat) (m n:Nat):Nat->Nat:=fun i=>match Nat.blt i m with
 | true=>l.getD i 0
 | false=>n+(i - m)
def qit:List Nat->List Nat->Nat->Nat->Option Nat
 | [],_,_,_=>none
 | k::l,fresh,i,j=>match Nat.beq k j with
  | true=>match fresh.contains i with
   | true=>qit l fresh (i+1) j
   | false=>some i
  | false=>qit l fresh (i+1) j
def oN (l fresh:List Nat) (m:Nat) (σ:Nat->Nat) (a:List AObj) (j:Nat) (o:AObj):AObj:=
 match qit l fresh 0 j with
 | some i=>match Nat.blt i m with
  | true=>match a[i]? with|some o'=>o'.ren σ|none=>.dead
  | false=>.dead
 | none=>o
def Dv (l fresh:List Nat) (m:Nat) (σ:Nat->Nat) (a:List AObj):Nat->List AObj->List AObj
 | _,[]=>(a.drop m).map (AObj.ren σ)
 | j,o::lo=>oN l fresh m σ a j o::Dv l fresh m σ a (j+1) lo
def qbk (l fresh:List Nat) (m:Nat) (lo a:List AObj):List AObj:=Dv l fresh m (σOf l m lo.length) a 0 lo
theorem RN {l fresh:List Nat} {m:Nat} {σ:Nat->Nat} {a:List AObj}:∀ {lo:List AObj} {j i:Nat} {o:AObj},(Dv l fresh m σ a j lo)[i]? =some o ->
  (∃ o0,lo[i]? =some o0/\o=oN l fresh m σ a (j+i) o0)\/(lo.length<=i/\∃ o0,a[m+(i - lo.length)]? =some o0/\o=o0.ren σ)
 | [],j,i,o,h=>by
  simp only[Dv,List.getElem?_map,jD]at h;cases b:a[m+i]? with
  | none=>simp[b]at h
  | some o0=>
   simp[b]at h;exact .inr ⟨jS _,o0,by simpa using b,h.symm⟩
 | x::lo,j,0,o,h=>by
  simp only[Dv,jd,Option.some.injEq]at h;exact .inl ⟨x,rfl,h.symm⟩
 | x::lo,j,i+1,o,h=>by
  simp only[Dv,List.getElem?_cons_succ]at h;rcases RN h with ⟨o0,h1,h2⟩|⟨h1,o0,h2,h3⟩
  ·exact .inl ⟨o0,by simpa using h1,by rw[h2,Nat.add_assoc,Nat.add_comm 1 i]⟩
  refine .inr ⟨by simpa using h1,o0,?_,h3⟩;simpa using h2
theorem Dw {l fresh:List Nat} {m:Nat} {σ:Nat->Nat} {a:List AObj}:∀ {lo:List AObj} {j:Nat},(Dv l fresh m σ a j lo).length=lo.length+(a.length - m)
 | [],j=>by simp[Dv]
 | x::lo,j=>by
  simp only[Dv,ja,Dw (lo:=lo)];omega
theorem al {fresh:List Nat} {j:Nat}:∀ {l:List Nat} {i0 i:Nat},qit l fresh i0 j=some i->i0<=i/\l[i - i0]? =some j/\i ∉ fresh
 | [],_,_,h=>by simp[qit]at h
 | k::l,i0,i,h=>by
  simp only[qit]at h;have step:qit l fresh (i0+1) j=some i->i0<=i/\(k::l)[i - i0]? =some j/\i ∉ fresh:=by
   intro h;obtain⟨h1,h2,h3⟩:=al h;refine⟨by omega,?_,h3⟩;have e:i - i0=(i - (i0+1))+1:=by omega
   rw[e];simpa using h2
  split at h
  ·rename_i a
   have a:=jm a;split at h
   ·exact step h
   rename_i b;cases h;exact⟨jw _,by simp[a],by simpa using b⟩
  exact step h
theorem ak {fresh:List Nat} {j:Nat}:∀ {l:List Nat} {i0:Nat},qit l fresh i0 j=none->∀ i,l[i]? =some j->i0+i∈fresh
 | [],_,_,i,h=>by simp at h
 | k::l,i0,h,i,hi=>by
  simp only[qit]at h;cases i with
  | zero=>
   simp at hi;subst hi;simp only[Nat.beq_refl]at h;split at h
   ·rename_i a; simpa using a
   cases h
  | succ i=>
   have step:qit l fresh (i0+1) j=none->i0+(i+1)∈fresh:=fun h=>by
    have:=ak h i (by simpa using hi);have e:i0+1+i=i0+(i+1):=by omega
    rwa [e]at this
   split at h
   ·split at h
    ·exact step h
    cases h
   ·exact step h
def leArgs (π:Nat->Nat) (fresh:List Nat):List FV->List FV->Prop
 | [],[]=>True
 | a::l,b::m=>leF π fresh a b/\leArgs π fresh l m
 | _,_=>False
theorem RM {ρ:List Value} {H:PH} {π:Nat->Nat} {fresh:List Nat} {n:Nat}:∀ {xs d:List FV} {vs:List Value},leArgs π fresh xs d->(∀ c∈d,∀ k∈c.names,k<n)->xL ρ H xs vs->xL (ep ρ π fresh n) H d vs
 | [],[],vs,_,_,r=>r
 | [],_::_,_,h,_,_=>by simp[leArgs]at h
 | _::_,[],_,h,_,_=>by simp[leArgs]at h
 | a::xs,b::d,vs,h,hn,r=>by
  simp only[leArgs]at h;obtain⟨v,f,e,g,rs⟩:=r;exact⟨v,f,e,TH h.1 (hn b (by simp)) g,RM h.2 (fun c i=>hn c (by simp[i])) rs⟩
theorem qc7 {π:Nat->Nat} {fresh:List Nat} {k:Nat} {o o':AObj} (a:nc π fresh k o o') (b:o'.live=true):o.live=true:=by
 cases o' with
 | dead=>simp[AObj.live]at b
 | box t c=>cases o<;>simp only[nc]at a; rfl
 | tail e z n=>simp only[nc]at a; subst a; rfl
 | vec e z n=>simp only[nc]at a; subst a; rfl
 | mp d es mk=>simp only[nc]at a; obtain⟨_,_,rfl⟩:=a; rfl
 | sit l p=>simp only[nc]at a; subst a; rfl
 | bv l=>simp only[nc]at a; subst a; rfl
 | vl e z rows j k'=>simp only[nc]at a; obtain⟨_,rfl⟩:=a; rfl
 | pbx t c=>cases o<;>simp only[nc]at a; rfl
theorem vA.use {P:Program} {f:FuncId} {args:List FV} {objs:List AObj} {m:Nat} {R:FV->List AObj->Prop} (h:vA P f args objs m R) (l fresh:List Nat) {A:List FV} {lo:List AObj} {K:FV->List AObj->Prop}
  (hw:qnv 0 l fresh=true/\l.length=objs.length/\RO objs.length args=true/\QZ objs.length objs=true/\Nat.ble m objs.length=true/\(List.range m).all (fun i=>!fresh.contains i)=true)
  (ha:leArgs (πOf l) fresh A args) (ho:oJ lo (πOf l) fresh 0 objs)
  (hK:∀ r0 q,R r0 q->∃ r lo2,r0.ren (σOf l m lo.length)=r/\qbk l fresh m lo q=lo2/\K r lo2):fb P f A lo K:=by
 obtain⟨D,hl,hnA,hnO,hml,hfr⟩:=hw;have hml:=jh hml;have hfr:∀ i,i<m->i ∉ fresh:=by
  intro i F;have:=List.all_eq_true.1 hfr i (by simpa using F);simpa using this
 simp only[qnv,ji,kde,List.all_eq_true,List.mem_range,jO,beq_iff_eq,Bool.not_eq_true',bne_iff_ne]at D;obtain⟨⟨⟨_,_⟩,hinj⟩,hfl⟩:=D;have get:=fun(i:Nat) (o':AObj) (h:objs[i]? =some o')=>EI ho i o' h;simp only[jx]at get;have inj:∀ i j,i<objs.length->j<objs.length->i ∉ fresh->j ∉ fresh->πOf l i=πOf l j->i=j:=by
  intro i j F X hfi hfj e;have:=hinj i (by omega) j (by omega);simp only[List.contains_iff_mem,hfi,hfj,false_or]at this;rcases this with h|h
  ·exact absurd e h
  exact h
 have Y:∀ i,i<l.length->l[i]? =some (πOf l i):=fun i F=>by
  simp[πOf,List.getD_eq_getElem?_getD,jf F]
 intro bs ρ H w vs s rl
 let π:=πOf l
 let ρ2:=ep ρ π fresh objs.length
 have weak:Weak 0 (tR 0 A) lo (tR 0 args) objs π fresh:=by
  refine{ bounds:=fun k M J=>?_,keep:=fun k M=>absurd M (Nat.not_lt_zero _),nb:=jS _,inj:=fun i j oi oj F X _ _=>inj i j (jG.1 F).1 (jG.1 X).1,frsh:=fun k M=>?_,obj:=fun k o' ho J=>(get k o' ho).2 J,slot:=?_ }
  ·obtain⟨o,ho,_⟩:=(get k _ (jf M)).2 J
   exact(jG.1 ho).1
  ·have hk':k<objs.length:=by have:=hfl k M; omega
   obtain⟨e,z,he⟩:=(get k _ (jf hk')).1 M;exact⟨e,z,he.imp (fun he=>by rw[jf hk',he]) (fun he=>he.imp (fun he=>by rw[jf hk',he]) (fun⟨j,k2,he⟩=>⟨j,k2,by rw[jf hk',he]⟩))⟩
  have:∀ (n:Nat) (xs ys:List FV),leArgs π fresh xs ys->∀ t v,(t,v)∈tR n ys->leF π fresh (qv (tR n xs) t) v:=by
   intro n xs
   induction xs generalizing n with
   | nil=>
    intro ys Q t v hm;cases ys with
    | nil=>simp[tR]at hm
    | cons b ys=>simp[leArgs]at Q
   | cons a xs ih=>
    intro ys Q t v hm;cases ys with
    | nil=>simp[leArgs]at Q
    | cons b ys=>
     simp only[leArgs]at Q;simp only[tR,jg,Prod.mk.injEq]at hm;have G:∀ (n:Nat) (bs:List FV) (t:Nat) (v:FV),(t,v)∈tR n bs->n<=t:=by
      intro n bs
      induction bs generalizing n with
      | nil=>intro t v h; simp[tR]at h
      | cons c cs ih2=>
       intro t v h;simp only[tR,jg,Prod.mk.injEq]at h;rcases h with ⟨rfl,_⟩|h
       ·exact jw _
       have:=ih2 (n+1) t v h; omega
     simp only[tR,qv];rcases hm with ⟨rfl,rfl⟩|hm
     ·simp only[Nat.beq_refl]; exact Q.1
     have:=G _ _ _ _ hm;have hne:Nat.beq t n=false:=by
      cases hx:Nat.beq t n with
      | false=>rfl
      | true=>have:=jm hx; omega
     simp only[hne];exact ih (n+1) ys Q.2 t v hm
  exact this 0 A args ha
 have sat0:Sat { bs with r0:=[] } vs.length ρ H (qv (tR 0 A)) lo { tmps:=vs.toArray,defers:=[] } w:=by
  refine{ s with pre:=List.nil_prefix,slots:=fun t=>?_,width:=by simp,defers:=rfl }
  rw[VC];simp only[jS,if_true,Nat.sub_zero];cases ht:A[t]? with
  | none=>trivial
  | some p=>
   obtain⟨v,B,rv⟩:=rl.get ht;have:vs.toArray.getD t undef=v:=by
    rw[jX];simp[B]
   rw[this];exact rv
 have hnames:qgm (tR 0 args) objs:=by
  refine⟨fun t v hm=>?_,Us hnO,XR hnO,XS hnO⟩;have:∀ (n:Nat) (bs:List FV) (t:Nat) (v:FV),(t,v)∈tR n bs->v∈bs:=by
   intro n bs
   induction bs generalizing n with
   | nil=>intro t v h; simp[tR]at h
   | cons c cs ih2=>
    intro t v h;simp only[tR,jg,Prod.mk.injEq]at h;rcases h with ⟨_,rfl⟩|h
    ·simp
    exact List.mem_cons_of_mem _ (ih2 (n+1) t v h)
  exact Ur hnA v (this 0 args t v hm)
 have s2:=(sat0.weak weak hnames).toSatW;have rl2:xL ρ2 H args vs:=RM ha (Ur hnA) rl;have ρ2get:∀ {i:Nat} {v:Value},ρ2[i]? =some v->i<objs.length/\((i∈fresh/\v=.slice none 0 0)\/(i ∉ fresh/\ρ[π i]? =some v)):=by
  intro i v B;have M:i<objs.length:=by have:=(jG.1 B).1; simpa[ρ2,ep]using this
  have C:=B;rw[show ρ2[i]? =_ from dh M]at C;refine⟨M,?_⟩;by_cases J:i∈fresh
  ·simp[J]at C; exact .inl ⟨J,C.symm⟩
  simp only[J,if_false]at C;refine .inr ⟨J,?_⟩;obtain⟨o,ho,_⟩:=(get i _ (jf M)).2 J;have:π i<ρ.length:=by rw[s.hlen]; exact(jG.1 ho).1
  rw[List.getD_eq_getElem?_getD,jf this]at C;rw[jf this];simpa using C
 let bs2:Base:={ S:=qd8 ρ2 objs,w0:=w,H0:=H,r0:=ρ2.take m }
 have s2':SatW bs2 ρ2 H objs w:=
  { sath:=s2.sath,hlen:=s2.hlen,pre:=List.take_prefix _ _,objs:=s2.objs,excl:=s2.excl,own:=fun k o v b M B hl D=>.inl ⟨k,o,v,M,B,hl,D⟩,keep:=Keep.refl _ w,leH:=PH.le.refl H,newH:=fun b o v h=>.inl ⟨v,h⟩ }
 have lentS:∀ b,qd8 ρ2 objs b->∃ i o v,i<objs.length/\i ∉ fresh/\lo[π i]? =some o/\ρ[π i]? =some v/\o.live=true/\zy v=some b:=by
  rintro b ⟨i,o,v,F,B,hl',D⟩;obtain⟨Z,hc⟩:=ρ2get B;rcases hc with ⟨_,rfl⟩|⟨J,C⟩
  ·simp[zy]at D
  obtain⟨o0,ho0,I⟩:=(get i o F).2 J;exact⟨i,o0,v,Z,J,ho0,C,qc7 I hl',D⟩
 have key:∀ (r0:FV) (q:List AObj) (ρ':List Value) (H':PH) (w':World) (v:Value),R r0 q->PH.le H H'->SatW bs2 ρ' H' q w'->zo ρ' H' r0 v->∃ r lo',ZN bs ρ H r lo' v w'/\K r lo':=by
  intro r0 q ρ' H' w' v hR I L rv;obtain⟨r,lo2,rfl,rfl,M⟩:=hK r0 q hR;refine⟨_,_,?_,M⟩;have N:ρ2.length=objs.length:=by simp[ρ2,ep]
  have hpre:ρ2.take m <+: ρ':=L.pre;have hm':m<=ρ'.length:=by
   have:=hpre.length_le;rw[jt,N]at this;omega
  have hold:∀ i,i<m->ρ'[i]? =ρ2[i]?:=by
   intro i F;obtain⟨t,ht⟩:=hpre;rw[← ht,jB (by rw[jt,N]; omega),jE,if_pos F]
  have hσ:∀ i v,ρ'[i]? =some v->(ρ++ρ'.drop m)[σOf l m lo.length i]? =some v:=by
   intro i v B;unfold σOf;by_cases F:i<m
   ·have:Nat.blt i m=true:=Nat.ble_eq_true_of_le F
    simp only[this];rw[hold i F]at B;obtain⟨Z,hc⟩:=ρ2get B;rcases hc with ⟨J,_⟩|⟨_,C⟩
    ·exact absurd J (hfr i F)
    have hπ:l.getD i 0=π i:=rfl;rw[hπ,jB (jG.1 C).1];exact C
   have:Nat.blt i m=false:=by
    cases hx:Nat.blt i m with
    | false=>rfl
    | true=>exact absurd (jh hx) F
   simp only[this];rw[jC (by rw[s.hlen]; omega),s.hlen,Nat.add_sub_cancel_left,jD];have e:m+(i - m)=i:=by omega
   rw[e];exact B
  have cls:∀ (j:Nat) (o:AObj) (v:Value),(qbk l fresh m lo q)[j]? =some o->(ρ++ρ'.drop m)[j]? =some v->o.live=true ->
    (∃ i o0,q[i]? =some o0/\ρ'[i]? =some v/\o=o0.ren (σOf l m lo.length)/\j=σOf l m lo.length i) \/
    (j<lo.length/\lo[j]? =some o/\ρ[j]? =some v/\∀ i,i<objs.length->i ∉ fresh->π i≠j):=by
   intro j o v X B d;rcases RN X with ⟨o0,h1,h2⟩|⟨h1,o0,h2,h3⟩
   ·have hjl:=(jG.1 h1).1
    rw[jB (by rw[s.hlen]; exact hjl)]at B;rw[jx]at h2;unfold oN at h2;split at h2
    ·rename_i i hp
     obtain⟨_,hli,hif⟩:=al hp;rw[Nat.sub_zero]at hli;have hil:i<l.length:=(jG.1 hli).1;have hπ:π i=j:=by have:=Y i hil; rw[hli]at this; exact(Option.some.inj this).symm
     split at h2
     ·rename_i him
      have him:i<m:=jh him;split at h2
      ·rename_i o' ho'
       refine .inl ⟨i,o',ho',?_,h2,?_⟩
       ·rw[hold i him]
        have hik:i<objs.length:=by omega
        rw[show ρ2[i]? =_ from dh hik];simp only[hif,if_false];rw[List.getD_eq_getElem?_getD,hπ,B];rfl
       unfold σOf;simp only[show Nat.blt i m=true from Nat.ble_eq_true_of_le him];exact hπ.symm
      rw[h2]at d; simp[AObj.live]at d
     rw[h2]at d; simp[AObj.live]at d
    rename_i hp;refine .inr ⟨hjl,by rw[h2]; exact h1,B,fun i F J e=>?_⟩;have:=ak hp i (by rw[Y i (by omega)]; exact congrArg some e);rw[jx]at this;exact J this
   refine .inl ⟨m+(j - lo.length),o0,h2,?_,h3,?_⟩
   ·rw[jC (by rw[s.hlen]; exact h1),s.hlen,jD]at B
    exact B
   unfold σOf;have:Nat.blt (m+(j - lo.length)) m=false:=by
    cases hx:Nat.blt (m+(j - lo.length)) m with
    | false=>rfl
    | true=>have:=jh hx; omega
   simp only[this];omega
  have apart:∀ (j:Nat) (o:AObj) (v:Value) (b:Nat),lo[j]? =some o->ρ[j]? =some v->(∀ i,i<objs.length->i ∉ fresh->π i≠j)->o.live=true->zy v=some b->¬ qd8 ρ2 objs b:=by
   intro j o v b X B O d D hlent;obtain⟨i,o0,v0,F,J,ho0,hv0,hl0,hb0⟩:=lentS b hlent;exact s.excl (π i) j o0 o v0 v b ho0 X hv0 B (O i F J) hl0 d hb0 D
  have old:∀ (j:Nat) (o:AObj) (v:Value) (b:Nat),lo[j]? =some o->ρ[j]? =some v->o.live=true->zy v=some b->b<w.heap.size:=by
   intro j o v b X B d D;have hfresh:=s.fresh (g:=b);rcases Nat.lt_or_ge b w.heap.size with h|h
   ·exact h
   exact absurd D (hfresh h j o v X B d)
  have qjx:∀ b,bs2.S b\/w.heap.size<=b->bs.S b\/bs.w0.heap.size<=b:=by
   rintro b (D|D)
   ·obtain⟨i,o0,v0,_,_,ho0,hv0,hl0,hb0⟩:=lentS b D
    exact s.own _ o0 v0 b ho0 hv0 hl0 hb0
   exact .inr (Nat.le_trans s.keep.size D)
  refine⟨ρ++ρ'.drop m,H',List.prefix_append _ _,I,?_,rv.ren hσ⟩;refine{ sath:=L.sath,hlen:=?_,pre:=s.pre.trans (List.prefix_append _ _),objs:=?_,excl:=?_,own:=?_,keep:=?_,leH:=s.leH.trans I,newH:=?_ }
  ·unfold qbk
   rw[Dw,List.length_append,List.length_drop,s.hlen,L.hlen]
  ·intro j o v X B
   cases d:o.live with
   | false=>cases o<;>simp[AObj.live]at d; trivial
   | true=>
    rcases cls j o v X B d with ⟨i,o0,h1,h2,rfl,_⟩|⟨hjl,h1,h2,O⟩
    ·exact(L.objs i o0 v h1 h2).ren hσ
    refine(s.objs j o v h1 h2).keep (List.prefix_append _ _) I (fun b D Z=>L.keep.block b Z (apart j o v b h1 h2 O d D)) (fun b o' D Z hn=>?_)
    cases hx:H' b o' with
    | none=>rfl
    | some u=>
     rcases L.newH b o' u hx with ⟨y,hy⟩|hS|G
     ·have hy':H b o'=some y:=hy
      rw[hn]at hy'; cases hy'
     ·exact absurd hS (apart j o v b h1 h2 O d D)
     have hge':w.heap.size<=b:=G;omega
  ·intro j1 j2 o1 o2 v1 v2 b hj1 hj2 hv1 hv2 hne T U hb1 hb2
   rcases cls j1 o1 v1 hj1 hv1 T with ⟨i1,a1,h1,E,rfl,e1⟩|⟨hjl1,h1,E,hnot1⟩<;>rcases cls j2 o2 v2 hj2 hv2 U with ⟨i2,a2,h2,V,rfl,e2⟩|⟨hjl2,h2,V,hnot2⟩
   ·exact L.excl i1 i2 a1 a2 v1 v2 b h1 h2 E V (fun e=>hne (by rw[e1,e2,e])) (by rw[← AObj.ren_live]; exact T) (by rw[← AObj.ren_live]; exact U) hb1 hb2
   ·have:=L.own i1 a1 v1 b h1 E (by rw[← AObj.ren_live]; exact T) hb1
    rcases this with hS|G
    ·exact apart j2 o2 v2 b h2 V hnot2 U hb2 hS
    have hge':w.heap.size<=b:=G;have:=old j2 o2 v2 b h2 V U hb2;omega
   ·have:=L.own i2 a2 v2 b h2 V (by rw[← AObj.ren_live]; exact U) hb2
    rcases this with hS|G
    ·exact apart j1 o1 v1 b h1 E hnot1 T hb1 hS
    have hge':w.heap.size<=b:=G;have:=old j1 o1 v1 b h1 E T hb1;omega
   exact s.excl j1 j2 o1 o2 v1 v2 b h1 h2 E V hne T U hb1 hb2
  ·intro j o v b X B d D
   rcases cls j o v X B d with ⟨i,a,h1,E,rfl,_⟩|⟨_,h1,E,_⟩
   ·exact qjx b (L.own i a v b h1 E (by rw[← AObj.ren_live]; exact d) D)
   exact s.own j o v b h1 E d D
  ·exact s.keep.step L.keep fun i F=>qjx i (.inl F)
  intro b o u hu;rcases L.newH b o u hu with ⟨y,hy⟩|hS|G
  ·exact s.newH b o y hy
  ·exact .inr (qjx b (.inl hS))
  exact .inr (qjx b (.inr G))
 have:=h bs2 ρ2 H w vs rfl s2' rl2;generalize (callFunc f vs.toArray).run P w=x at *;cases x with
 | ok n w'=>
  cases n<;>simp only at this ⊢ <;> try exact this
  ·obtain⟨r0,q,ρ',H',hR,I,L,rv⟩:=this
   exact key r0 q ρ' H' w' _ hR I L rv
  obtain⟨rfl,hc⟩:=this;exact⟨rfl,hc.mono fun en w'' ⟨v,r0,q,ρ',H',e,hR,I,L,rv⟩=>by
   obtain⟨r,lo',af,k⟩:=key r0 q ρ' H' w'' v hR I L rv;exact⟨v,r,lo',e,af,k⟩⟩
 | halt x w'=>exact this
end Ax
end
section
namespace Ax
open Go
section
variable {K V:Type} [BEq K]
def qH (a:K->PV) (b:V->PV) (l:List (K×V)):List (PV×PV):=l.map fun e=>(a e.1,b e.2)
def Xq (k:K):List (K×V)->Option V
 | []=>none
 | (k',v)::l=>bif k==k' then some v else Xq k l
def va (l:List (K×V)) (k:K) (d:V):V:=(Xq k l).getD d
def LI (l:List (K×V)) (k:K):Bool:=(Xq k l).isSome
def db (k:K) (v:V):List (K×V)->List (K×V)
 | []=>[(k,v)]
 | (k',v')::l=>bif k==k' then(k,v)::l else(k',v')::db k v l
def qed (c:K->PV):Prop:=∀ a b,qiq (c a) (c b)=(a==b)
theorem EK {a:K->PV} (c:qed a) (b:V->PV) (k:K):∀ l:List (K×V),Lw (a k) (qH a b l)=(Xq k l).map b
 | []=>rfl
 | (k',v)::l=>by
  have:=EK c b k l;simp only[qH,jk,Lw,Xq]at this ⊢;rw[c k k'];cases k==k' with
  | true=>rfl
  | false=>simpa using this
theorem XO {a:K->PV} (c:qed a) (b:V->PV) (l:List (K×V)) (k:K) (d:V):(Lw (a k) (qH a b l)).getD (b d)=b (va l k d):=by
 rw[EK c,va];cases Xq k l<;>rfl
theorem XQ {a:K->PV} (b:qed a) (c:V->PV) (l:List (K×V)) (k:K):(Lw (a k) (qH a c l)).isSome=LI l k:=by
 rw[EK b,LI];cases Xq k l<;>rfl
theorem vz {a:K->PV} (c:qed a) (b:V->PV) (k:K) (v:V):∀ l:List (K×V),qis (a k) (b v) (qH a b l)=qH a b (db k v l)
 | []=>rfl
 | (k',v')::l=>by
  have:=vz c b k v l;simp only[qH,jk,qis,db]at this ⊢;rw[c k k'];cases k==k' with
  | true=>rfl
  | false=>simpa using this
theorem qgf (a:K->PV) (b:V->PV) (l:List (K×V)):(qH a b l).length=l.length:=by simp[qH]
end
theorem xD:qed PV.str:=fun _ _=>rfl
theorem Codec.getN {A:Type} (C:Codec A) {l:List A} {j:Nat} {x:A} (h:l[j]? =some x):(C.rows l)[j]? =some (C.cells x):=by
 rw[C.hrows]; simp[h]
theorem Codec.setN {A:Type} (C:Codec A) (l:List A) (j:Nat) (y:A):(C.rows l).set j (C.cells y)=C.rows (l.set j y):=by
 rw[C.hrows,C.hrows,List.map_set]
end Ax
end
section
open Go
namespace Ax
theorem wk {nb:Nat} {E:Env} {lo:List AObj} {E':Env} {lo':List AObj} (l fresh:List Nat) (h:qnw nb l fresh lo'=true/\l.length=lo'.length/\lY lo'.length E'=true/\QZ lo'.length lo'=true:=by exact⟨rfl,rfl,rfl,rfl⟩)
  (h1:qga E (πOf l) fresh E':=by repeat (first|exact trivial|exact .inl rfl|exact rfl|exact List.not_mem_nil|(refine .inr ?_)|(refine⟨?_,?_⟩)|exact List.length_set.symm|decide))
  (h2:oJ lo (πOf l) fresh 0 lo':=by repeat (first|exact trivial|exact .inl rfl|exact rfl|exact List.not_mem_nil|(refine .inr ?_)|(refine⟨?_,?_⟩)|exact List.length_set.symm|decide)):Ri nb E lo E' lo':=⟨l,fresh,h,h1,h2⟩
theorem Zd {P:Program} {f:FuncId} {args:List FV} {objs:List AObj} {m:Nat} {R:FV->List AObj->Prop} (h:vA P f args objs m R) (l fresh:List Nat) {args':List FV} {lo:List AObj} {K:FV->List AObj->Prop}
  (hK:∀ r0 objs',R r0 objs'->∃ r lo2,r0.ren (σOf l m lo.length)=r/\qbk l fresh m lo objs'=lo2/\K r lo2)
  (hw:qnv 0 l fresh=true/\l.length=objs.length/\RO objs.length args=true/\QZ objs.length objs=true/\Nat.ble m objs.length=true/\(List.range m).all (fun i=>!fresh.contains i)=true:=by exact⟨rfl,rfl,rfl,rfl,rfl,rfl⟩)
  (ha:leArgs (πOf l) fresh args' args:=by repeat (first|exact trivial|exact .inl rfl|exact rfl|exact List.not_mem_nil|(refine .inr ?_)|(refine⟨?_,?_⟩)|exact List.length_set.symm|decide))
  (ho:oJ lo (πOf l) fresh 0 objs:=by repeat (first|exact trivial|exact .inl rfl|exact rfl|exact List.not_mem_nil|(refine .inr ?_)|(refine⟨?_,?_⟩)|exact List.length_set.symm|decide)):fb P f args' lo K:=vA.use h l fresh hw ha ho hK
theorem fin {P:Prop} (h:P:=by repeat (first|exact rfl|exact trivial|refine⟨?_,?_⟩)):P:=h
theorem ifc {R:Type} {c:Bool} {a b:Option R} {r:R} {P Q:Prop} (h:(bif c then a else b)=some r) (f:c=true->a=some r->P) (g:c=false->b=some r->Q):(c=true->P)/\(c=false->Q):=
 ⟨fun hc=>f hc (qo2 h hc),fun hc=>g hc (qo1 h hc)⟩
theorem sj {A:Type} {a b:A} (h:some a=some b):a=b:=Option.some.inj h
theorem bq {A R:Type} {o:Option A} {k:A->Option R} {r:R} {G:Prop} (h:bnd o k=some r) (f:∀ x,o=some x->k x=some r->G):G:=by
 obtain⟨x,h1,h2⟩:=Fh h;exact f x h1 h2
end Ax
end
section
namespace W
open Go Ax
inductive qe where
 | mk (op:Int) (name:List UInt8) (val:Val) (names:List (List UInt8)) (args:List qe)
mutual
def qe.cells:qe->List PV
 | .mk op name ⟨k,b,i,s,l,ks⟩ names args=>[.int .i64 op,.str name,.int .i64 k,.bool b,.int .i64 i,.str s,.sl (Val.rows l),.sl (qi ks),.sl (qi names),.sl (qe.rows args)]
def qe.rows:List qe->List (List PV)
 | []=>[]
 | v::l=>v.cells::qe.rows l
end
theorem qe.rows_eq:∀ l:List qe,qe.rows l=l.map qe.cells
 | []=>rfl
 | v::l=>by simp only[qe.rows,jk]; rw[qe.rows_eq l]
theorem qe.width (e:qe):e.cells.length=10:=by obtain⟨_,_,⟨_,_,_,_,_,_⟩,_,_⟩:=e; rfl
theorem qe.one (e:qe):e.cells.all ah=true:=by obtain⟨_,_,⟨_,_,_,_,_,_⟩,_,_⟩:=e; rfl
def zX:Codec qe:={ cells:=qe.cells,rows:=qe.rows,z:=10,hrows:=fun l=>qe.rows_eq l,hz:=qe.width,hone:=qe.one }
instance:Inhabited qe:=⟨.mk 0 [] default [] []⟩
structure qt where
 var_:List UInt8
 labels:List (List UInt8)
 keys:List (List UInt8)
 vals:List qe
def qt.cells:qt->List PV
 | ⟨x1,x2,x3,x4⟩=>[.str x1,.sl (qi x2),.sl (qi x3),.sl (qe.rows x4)]
def qt.rows (l:List qt):List (List PV):=l.map qt.cells
def gO:Codec qt:={ cells:=qt.cells,rows:=qt.rows,z:=4,hrows:=fun _=>rfl,hz:=fun⟨x1,x2,a,b⟩=>rfl,hone:=fun⟨x1,x2,a,b⟩=>rfl }
deriving instance Inhabited for qt
structure qy where
 var_:List UInt8
 type_:List UInt8
 dir:Int
 keys:List (List UInt8)
 vals:List qe
def qy.cells:qy->List PV
 | ⟨x1,x2,x3,x4,x5⟩=>[.str x1,.str x2,.int .i64 x3,.sl (qi x4),.sl (qe.rows x5)]
def qy.rows (l:List qy):List (List PV):=l.map qy.cells
def cZ:Codec qy:={ cells:=qy.cells,rows:=qy.rows,z:=5,hrows:=fun _=>rfl,hz:=fun⟨x1,x2,a,b,c⟩=>rfl,hone:=fun⟨x1,x2,a,b,c⟩=>rfl }
deriving instance Inhabited for qy
structure zx where
 nodes:List qt
 edges:List qy
def zx.cells:zx->List PV
 | ⟨x1,x2⟩=>[.sl (qt.rows x1),.sl (qy.rows x2)]
def zx.rows (l:List zx):List (List PV):=l.map zx.cells
def pb:Codec zx:={ cells:=zx.cells,rows:=zx.rows,z:=2,hrows:=fun _=>rfl,hz:=fun⟨x1,x2⟩=>rfl,hone:=fun⟨x1,x2⟩=>rfl }
deriving instance Inhabited for zx
structure xM where
 e:qe
 as_:List UInt8
def xM.cells:xM->List PV
 | ⟨⟨x1,x2,⟨x3,x4,x5,x6,x7,x8⟩,x9,x10⟩,x11⟩=>[.int .i64 x1,.str x2,.int .i64 x3,.bool x4,.int .i64 x5,.str x6,.sl (Val.rows x7),.sl (qi x8),.sl (qi x9),.sl (qe.rows x10),.str x11]
def xM.rows (l:List xM):List (List PV):=l.map xM.cells
def VE:Codec xM:={ cells:=xM.cells,rows:=xM.rows,z:=11,hrows:=fun _=>rfl,hz:=fun⟨⟨x1,x2,⟨c,d,e,f,g,h⟩,i,a⟩,b⟩=>rfl,hone:=fun⟨⟨x1,x2,⟨c,d,e,f,g,h⟩,i,a⟩,b⟩=>rfl }
deriving instance Inhabited for xM
structure qS where
 e:qe
 down:Bool
def qS.cells:qS->List PV
 | ⟨⟨x1,x2,⟨x3,x4,x5,x6,x7,x8⟩,x9,x10⟩,x11⟩=>[.int .i64 x1,.str x2,.int .i64 x3,.bool x4,.int .i64 x5,.str x6,.sl (Val.rows x7),.sl (qi x8),.sl (qi x9),.sl (qe.rows x10),.bool x11]
def qS.rows (l:List qS):List (List PV):=l.map qS.cells
def Za:Codec qS:={ cells:=qS.cells,rows:=qS.rows,z:=11,hrows:=fun _=>rfl,hz:=fun⟨⟨x1,x2,⟨c,d,e,f,g,h⟩,i,a⟩,b⟩=>rfl,hone:=fun⟨⟨x1,x2,⟨c,d,e,f,g,h⟩,i,a⟩,b⟩=>rfl }
deriving instance Inhabited for qS
structure qj where
 var_:List UInt8
 key:List UInt8
 label:List UInt8
 e:qe
def qj.cells:qj->List PV
 | ⟨x1,x2,x3,⟨x4,x5,⟨x6,x7,x8,x9,x10,x11⟩,x12,x13⟩⟩=>[.str x1,.str x2,.str x3,.int .i64 x4,.str x5,.int .i64 x6,.bool x7,.int .i64 x8,.str x9,.sl (Val.rows x10),.sl (qi x11),.sl (qi x12),.sl (qe.rows x13)]
def qj.rows (l:List qj):List (List PV):=l.map qj.cells
def nr:Codec qj:={ cells:=qj.cells,rows:=qj.rows,z:=13,hrows:=fun _=>rfl,hz:=fun⟨x1,x2,e,⟨f,g,⟨h,i,j,k,a,b⟩,c,d⟩⟩=>rfl,hone:=fun⟨x1,x2,e,⟨f,g,⟨h,i,j,k,a,b⟩,c,d⟩⟩=>rfl }
deriving instance Inhabited for qj
structure Xw where
 setItem:qj
 set_:Bool
def Xw.cells:Xw->List PV
 | ⟨⟨x1,x2,x3,⟨x4,x5,⟨x6,x7,x8,x9,x10,x11⟩,x12,x13⟩⟩,x14⟩=>[.str x1,.str x2,.str x3,.int .i64 x4,.str x5,.int .i64 x6,.bool x7,.int .i64 x8,.str x9,.sl (Val.rows x10),.sl (qi x11),.sl (qi x12),.sl (qe.rows x13),.bool x14]
def Xw.rows (l:List Xw):List (List PV):=l.map Xw.cells
def qmm:Codec Xw:={ cells:=Xw.cells,rows:=Xw.rows,z:=14,hrows:=fun _=>rfl,hz:=fun⟨⟨x1,x2,f,⟨g,h,⟨i,j,k,l,a,b⟩,c,d⟩⟩,e⟩=>rfl,hone:=fun⟨⟨x1,x2,f,⟨g,h,⟨i,j,k,l,a,b⟩,c,d⟩⟩,e⟩=>rfl }
deriving instance Inhabited for Xw
structure Eg where
 keys:List (List UInt8)
 vals:List qe
def Eg.cells:Eg->List PV
 | ⟨x1,x2⟩=>[.sl (qi x1),.sl (qe.rows x2)]
def Eg.rows (l:List Eg):List (List PV):=l.map Eg.cells
def qpk:Codec Eg:={ cells:=Eg.cells,rows:=Eg.rows,z:=2,hrows:=fun _=>rfl,hz:=fun⟨x1,x2⟩=>rfl,hone:=fun⟨x1,x2⟩=>rfl }
deriving instance Inhabited for Eg
structure qd where
 kind:Int
 paths:List zx
 where_:List qe
 e:qe
 var_:List UInt8
 items:List xM
 unique:Bool
 order:List qS
 skip:List qe
 limit:List qe
 sets:List qj
 vars:List (List UInt8)
 detach:Bool
def qd.cells:qd->List PV
 | ⟨x1,x2,x3,⟨x4,x5,⟨x6,x7,x8,x9,x10,x11⟩,x12,x13⟩,x14,x15,x16,x17,x18,x19,x20,x21,x22⟩=>[.int .i64 x1,.sl (zx.rows x2),.sl (qe.rows x3),.int .i64 x4,.str x5,.int .i64 x6,.bool x7,.int .i64 x8,.str x9,.sl (Val.rows x10),.sl (qi x11),.sl (qi x12),.sl (qe.rows x13),.str x14,.sl (xM.rows x15),.bool x16,.sl (qS.rows x17),.sl (qe.rows x18),.sl (qe.rows x19),.sl (qj.rows x20),.sl (qi x21),.bool x22]
def qd.rows (l:List qd):List (List PV):=l.map qd.cells
def xN:Codec qd:={ cells:=qd.cells,rows:=qd.rows,z:=22,hrows:=fun _=>rfl,hz:=fun⟨x1,x2,n,⟨o,p,⟨q,r,s,t,a,b⟩,c,d⟩,e,f,g,h,i,j,k,l,m⟩=>rfl,hone:=fun⟨x1,x2,n,⟨o,p,⟨q,r,s,t,a,b⟩,c,d⟩,e,f,g,h,i,j,k,l,m⟩=>rfl }
deriving instance Inhabited for qd
structure bu where
 clauses:List qd
def bu.cells:bu->List PV
 | ⟨x1⟩=>[.sl (qd.rows x1)]
def bu.rows (l:List bu):List (List PV):=l.map bu.cells
def Cn:Codec bu:={ cells:=bu.cells,rows:=bu.rows,z:=1,hrows:=fun _=>rfl,hz:=fun⟨x1⟩=>rfl,hone:=fun⟨x1⟩=>rfl }
deriving instance Inhabited for bu
structure qcp where
 kind:Int
 text:List UInt8
 int:Int
 at_:Int
def qcp.cells:qcp->List PV
 | ⟨x1,x2,x3,x4⟩=>[.int .i64 x1,.str x2,.int .i64 x3,.int .i64 x4]
def qcp.rows (l:List qcp):List (List PV):=l.map qcp.cells
deriving instance Inhabited for qcp
structure qQ where
 names:List (List UInt8)
 kinds:List Int
def qQ.cells:qQ->List PV
 | ⟨x1,x2⟩=>[.sl (qi x1),.sl (zF .i64 x2)]
def qQ.rows (l:List qQ):List (List PV):=l.map qQ.cells
def te:Codec qQ:={ cells:=qQ.cells,rows:=qQ.rows,z:=2,hrows:=fun _=>rfl,hz:=fun⟨x1,x2⟩=>rfl,hone:=fun⟨x1,x2⟩=>rfl }
deriving instance Inhabited for qQ
structure Va where
 least:Int
 most:Int
 kind:Int
def Va.cells:Va->List PV
 | ⟨x1,x2,x3⟩=>[.int .i64 x1,.int .i64 x2,.int .i64 x3]
def Va.rows (l:List Va):List (List PV):=l.map Va.cells
def qoz:Codec Va:={ cells:=Va.cells,rows:=Va.rows,z:=3,hrows:=fun _=>rfl,hz:=fun⟨x1,x2,a⟩=>rfl,hone:=fun⟨x1,x2,a⟩=>rfl }
deriving instance Inhabited for Va
structure Node where
 id:Int
 labels:List (List UInt8)
 keys:List (List UInt8)
 vals:List Val
def Node.cells:Node->List PV
 | ⟨x1,x2,x3,x4⟩=>[.int .i64 x1,.sl (qi x2),.sl (qi x3),.sl (Val.rows x4)]
def Node.rows (l:List Node):List (List PV):=l.map Node.cells
def tk:Codec Node:={ cells:=Node.cells,rows:=Node.rows,z:=4,hrows:=fun _=>rfl,hz:=fun⟨x1,x2,a,b⟩=>rfl,hone:=fun⟨x1,x2,a,b⟩=>rfl }
deriving instance Inhabited for Node
structure Edge where
 id:Int
 from_:Int
 to:Int
 type_:List UInt8
 keys:List (List UInt8)
 vals:List Val
def Edge.cells:Edge->List PV
 | ⟨x1,x2,x3,x4,x5,x6⟩=>[.int .i64 x1,.int .i64 x2,.int .i64 x3,.str x4,.sl (qi x5),.sl (Val.rows x6)]
def Edge.rows (l:List Edge):List (List PV):=l.map Edge.cells
def tP:Codec Edge:={ cells:=Edge.cells,rows:=Edge.rows,z:=6,hrows:=fun _=>rfl,hz:=fun⟨x1,x2,a,b,c,d⟩=>rfl,hone:=fun⟨x1,x2,a,b,c,d⟩=>rfl }
deriving instance Inhabited for Edge
structure Graph where
 nodes:List Node
 edges:List Edge
def Graph.cells:Graph->List PV
 | ⟨x1,x2⟩=>[.sl (Node.rows x1),.sl (Edge.rows x2)]
def Graph.rows (l:List Graph):List (List PV):=l.map Graph.cells
def nZ:Codec Graph:={ cells:=Graph.cells,rows:=Graph.rows,z:=2,hrows:=fun _=>rfl,hz:=fun⟨x1,x2⟩=>rfl,hone:=fun⟨x1,x2⟩=>rfl }
deriving instance Inhabited for Graph
inductive zr where
 | path (x:zx)
 | expr (x:qe)
 | item (x:xM)
 | sorted (x:qS)
 | name (x:List UInt8)
 | change (x:Xw)
def zr.tid:zr->TypeId
 | .path _=>207
 | .expr _=>210
 | .item _=>213
 | .sorted _=>216
 | .name _=>219
 | .change _=>223
def zr.val:zr->PV
 | .path x=>.agg (zx.cells x)
 | .expr x=>.agg (qe.cells x)
 | .item x=>.agg (xM.cells x)
 | .sorted x=>.agg (qS.cells x)
 | .name x=>.str x
 | .change x=>.agg (Xw.cells x)
def zr.pv (x:zr):PV:=.ifc x.tid x.val
def zr.rows (l:List zr):List (List PV):=l.map fun x=>[x.pv]
def Qm:Codec zr:={ cells:=fun x=>[x.pv],rows:=zr.rows,z:=1,hrows:=fun _=>rfl,hz:=fun _=>rfl,hone:=fun _=>rfl }
instance:Inhabited zr:=⟨.path default⟩
structure qR where
 word:List UInt8
 parts:List zr
 least:Int
 most:Int
def qR.cells:qR->List PV
 | ⟨x1,x2,x3,x4⟩=>[.str x1,.sl (zr.rows x2),.int .i64 x3,.int .i64 x4]
def qR.rows (l:List qR):List (List PV):=l.map qR.cells
def Zn:Codec qR:={ cells:=qR.cells,rows:=qR.rows,z:=4,hrows:=fun _=>rfl,hz:=fun⟨x1,x2,a,b⟩=>rfl,hone:=fun⟨x1,x2,a,b⟩=>rfl }
deriving instance Inhabited for qR
end W
end
section
open Go Go.Proofs Go.RowKit
namespace Ax
def Qn (ss:List (List UInt8)):List (List UInt8):=ss.mergeSort fun x y=>decide (x<=y)
def Es (P:Program) (f:FuncId):Prop:=
 (∀ (blk off cap:Nat) (ss:List (List UInt8)) (w:World),Go.Sort.Holds encStr w blk off ss.toArray->blk<w.heap.size->ss.length<4611686018427387904 ->
  Calls P f #[.slice (some ⟨blk,off,none⟩) ss.length cap] w fun e w'=>e=.returned (.tuple #[])/\∃ n os,w'=Go.Sort.grow (Go.Sort.putRow encStr (Go.Sort.ahead w n) blk off (Qn ss).toArray) os) /\
 ∀ (p:Option Addr) (cap:Nat) (w:World),Calls P f #[.slice p 0 cap] w fun e w'=>e=.returned (.tuple #[])/\w'=w
theorem qhs {H:PH}:∀ {ss:List (List UInt8)} {xs:List Value},rJ H 1 (qi ss) xs->xs=ss.map fun s=>Value.string ⟨s.toArray⟩
 | [],xs,h=>by simpa[qi,rJ]using h
 | s::ss,xs,h=>by
  simp only[qi,jk,rJ]at h;obtain⟨_,a,b,rfl,c,d⟩:=h;have e:=qhs (ss:=ss) (xs:=b) d;simp only[zS,zn]at c;obtain⟨_,_,rfl,rfl,rfl⟩:=c;rw[e];rfl
theorem aK {H:PH}:∀ (ss:List (List UInt8)),rJ H 1 (qi ss) (ss.map fun s=>Value.string ⟨s.toArray⟩)
 | []=>by simp[qi,rJ]
 | s::ss=>⟨rfl,[_],_,rfl,by simp only[zS,zn]; exact⟨_,_,rfl,rfl,rfl⟩,aK ss⟩
theorem Zb (ss:List (List UInt8)):(Qn ss).length=ss.length:=List.length_mergeSort _
theorem fb.sort_vec {P:Program} {f:FuncId} (he:Enters P f) (D:Es P f) {lo:List AObj} {k:Nat} {e:TypeId} {ss:List (List UInt8)} (o:lo[k]? =some (.vec e 1 (qi ss))) (hlen:ss.length<4611686018427387904) :
  fb P f [.vsl k ss.length] lo (fun r lo'=>r=.p (.tup [])/\lo'=lo.set k (.vec e 1 (qi (Qn ss)))):=by
 intro bs ρ H w vs s G;obtain⟨v,_,rfl,q,rfl⟩:=G;rw[he];refine⟨rfl,?_⟩;obtain⟨E,q⟩:=q;have h:(qi ss).length=ss.length:=by simp[qi]
 obtain⟨xs,i,I,h1,F⟩:=s.objs k _ _ o E;rcases i.2 with ⟨rfl,J⟩|⟨g,cap,cur,rfl,_,l,t,hm,y,K⟩
 ·have e0:ss=[]:=List.eq_nil_of_length_eq_zero (by rw[← h]; exact J)
  subst e0;refine(D.2 none 0 w).mono fun L w' p=>?_;obtain⟨rfl,rfl⟩:=p;refine⟨_,_,_,rfl,⟨ρ,H,jq _,PH.le.refl H,?_,by simp only[zo,zn]; exact⟨[],rfl,rfl⟩⟩,rfl,rfl⟩;exact s.view o rfl rfl fun v q ok=>by simpa[Qn]using ok
 have c:∀ j,j<ss.length->cur[j]? =some (Value.string ⟨(ss.getD j []).toArray⟩):=by
  intro j a;have M:=qhs I;have:(cur.toList.take ((qi ss).length * 1))[j]? =xs[j]?:=by rw[K]
  rw[jE,M,List.getElem?_map]at this;rw[if_pos (by rw[h]; omega)]at this;rw[← Array.getElem?_toList,this];simp[jf a,List.getD_eq_getElem?_getD]
 have N:Go.Sort.Holds encStr w g 0 ss.toArray:=by
  intro j a;have a:j<ss.length:=by simpa using a
  refine⟨?_,frozen_of_row w g _ cur e l⟩;rw[cell_of_row w g _ _ e _ l];rw[jx,c j a];simp[encStr,List.getD_eq_getElem?_getD,jf a,a]
 rw[h];refine(D.1 g 0 cap ss w N (vo l) hlen).mono fun L w' p=>?_;obtain⟨rfl,n,os,rfl⟩:=p;have z:(Go.Sort.grow (Go.Sort.putRow encStr (Go.Sort.ahead w n) g 0 (Qn ss).toArray) os).heap[g]? =some (.cells (Go.Sort.putCells encStr 0 (Qn ss).toArray cur) e (0,0)):=by
  have A:=vo l;simp only[Go.Sort.grow,Go.Sort.putRow,Go.Sort.mapBlock,Go.Sort.ahead];rw[Array.getElem?_append_left (by simpa using A),Array.getElem?_modify,if_pos rfl,l];rfl
 have hkeep:Keep (fun b=>b=g) w (Go.Sort.grow (Go.Sort.putRow encStr (Go.Sort.ahead w n) g 0 (Qn ss).toArray) os):=by
  refine⟨rfl,rfl,rfl,?_,fun b B C=>?_⟩
  ·simp[Go.Sort.grow,Go.Sort.putRow,Go.Sort.mapBlock,Go.Sort.ahead]
  simp only[Go.Sort.grow,Go.Sort.putRow,Go.Sort.mapBlock,Go.Sort.ahead];rw[Array.getElem?_append_left (by simpa using B),Array.getElem?_modify,if_neg (fun e=>C e.symm)]
 refine⟨_,_,_,rfl,⟨ρ,H,jq _,PH.le.refl H,?_,by simp only[zo,zn]; exact⟨[],rfl,rfl⟩⟩,rfl,rfl⟩;refine s.upd (k:=k) (b:=g) o E rfl rfl (F g rfl) hkeep ?_;have d:(qi (Qn ss)).length=ss.length:=by simp[qi,Zb]
 refine⟨(Qn ss).map fun s=>Value.string ⟨s.toArray⟩,⟨by simp[d,Zb],.inr ⟨g,cap,_,by rw[d,h],jS _,z,by rw[d,← h]; exact t,hm,by rw[← y]; simp[Go.Sort.putCells],?_⟩⟩,aK _,?_,fun b B o'=>F b B o'⟩
 ·refine List.ext_getElem? fun j=>?_
  rw[jE,d];split
  ·rename_i a
   have a:j<ss.length:=by omega
   have m:j<(Qn ss).length:=by rw[Zb]; exact a
   have O:j<cur.size:=(Array.getElem?_eq_some_iff.1 (c j a)).1;simp only[Go.Sort.putCells,Array.toList_mapIdx,List.getElem?_mapIdx,Array.getElem?_toList,c j a,Option.map_some,List.getElem?_map];rw[jf m];simp[Zb,a,encStr,m]
  rename_i a;rw[List.getElem?_eq_none (by simp[Zb]; omega)]
 intro u hu;obtain⟨x,_,rfl⟩:=List.mem_map.1 hu;rfl
end Ax
end
section
open Go Go.Proofs Go.RowKit
namespace Ax
structure Apart (ρ:List Value) (H:PH) (lo:List AObj) (w:World) (b:Nat) (o:Obj):Prop where
 heap:w.heap[b]? =some o
 free:∀ (k:Nat) (ob:AObj) (v:Value),lo[k]? =some ob->ρ[k]? =some v->ob.live=true->zy v≠some b
 none:∀ i,H b i=Option.none
theorem Apart.step {ρ ρ':List Value} {H H':PH} {lo lo':List AObj} {w w':World} {b:Nat} {o:Obj} (a:Apart ρ H lo w b o) (s:SatW { S:=qd8 ρ lo,w0:=w,H0:=H,r0:=ρ } ρ' H' lo' w'):Apart ρ' H' lo' w' b o:=by
 have c:=vo a.heap;have d:¬ qd8 ρ lo b:=fun⟨k,ob,v,h1,h2,h3,h4⟩=>a.free k ob v h1 h2 h3 h4;refine⟨(s.keep.block b c d).trans a.heap,fun k ob v h1 h2 h3 h4=>?_,fun i=>?_⟩
 ·rcases s.own k ob v b h1 h2 h3 h4 with h|h
  ·exact d h
  have:w.heap.size<=b:=h;omega
 cases e:H' b i with
 | none=>rfl
 | some u=>
  rcases s.newH b i u e with ⟨f,h⟩|h|h
  ·rw[show({ S:=qd8 ρ lo,w0:=w,H0:=H,r0:=ρ }:Base).H0 b i=H b i from rfl,a.none i]at h; cases h
  ·exact(d h).elim
  have:w.heap.size<=b:=h;omega
theorem Apart.mono {ρ:List Value} {H:PH} {lo lo':List AObj} {w:World} {b:Nat} {o:Obj} (a:Apart ρ H lo w b o) (h:∀ (k:Nat) (ob:AObj),lo'[k]? =some ob->ob.live=true->lo[k]? =some ob\/(∃ c,lo[k]? =some c/\c.live=true)):Apart ρ H lo' w b o:=
 ⟨a.heap,fun k ob v h1 h2 h3=>by
  rcases h k ob h1 h3 with h4|⟨c,h4,d⟩
  ·exact a.free k ob v h4 h2 h3
  exact a.free k c v h4 h2 d,a.none⟩
theorem SatW.other {bs:Base} {ρ:List Value} {H:PH} {lo:List AObj} {w w':World} {b:Nat} {o:Obj} (s:SatW bs ρ H lo w) (a:Apart ρ H lo w b o) (l:bs.S b\/bs.w0.heap.size<=b) (c:Keep (fun x=>x=b) w w'):SatW bs ρ H lo w' where
 sath:=s.sath.block fun d i u hu=>c.block d (s.sath.lt hu) (fun e=>by subst e; rw[a.none i]at hu; cases hu)
 hlen:=s.hlen
 pre:=s.pre
 objs:=fun k ob v h1 h2=>by
  by_cases j:ob.live=true
  ·refine(s.objs k ob v h1 h2).keep (jq _) (PH.le.refl H) (fun d f g=>c.block d g (fun e=>by subst e; exact a.free k ob v h1 h2 j f)) (fun _ _ _ _ h=>h)
  cases ob<;>simp[AObj.live]at j
  trivial
 excl:=s.excl
 own:=s.own
 keep:=s.keep.step c (fun i e=>by subst e; exact l)
 leH:=s.leH
 newH:=s.newH
theorem SatW.pushDead {bs:Base} {ρ:List Value} {H:PH} {lo:List AObj} {w:World} (s:SatW bs ρ H lo w) (v:Value):SatW bs (ρ++[v]) H (lo++[.dead]) w where
 sath:=s.sath
 hlen:=by simp[s.hlen]
 pre:=s.pre.trans (List.prefix_append _ _)
 objs:=fun k ob u h1 h2=>by
  rw[List.getElem?_append]at h1 h2;rw[s.hlen]at h2;split at h1
  ·rename_i a
   rw[if_pos a]at h2;exact(s.objs k ob u h1 h2).keep (List.prefix_append _ _) (PH.le.refl H) (fun _ _ _=>rfl) (fun _ _ _ _ h=>h)
  rename_i a;have:ob=.dead:=by
   cases c:k - lo.length with
   | zero=>rw[c]at h1; simpa using h1.symm
   | succ n=>rw[c]at h1; simp at h1
  subst this
  trivial
 excl:=fun i j oi oj l m b h1 h2 h3 h4 e f g=>by
  have key:∀ {k:Nat} {ob:AObj} {u:Value},(lo++[AObj.dead])[k]? =some ob->(ρ++[v])[k]? =some u->ob.live=true->lo[k]? =some ob/\ρ[k]? =some u:=by
   intro k ob u h1 h2 d;rw[List.getElem?_append]at h1 h2;rw[s.hlen]at h2;split at h1
   ·rename_i a
    rw[if_pos a]at h2;exact⟨h1,h2⟩
   cases c:k - lo.length with
   | zero=>rw[c]at h1; simp at h1; subst h1; simp[AObj.live]at d
   | succ n=>rw[c]at h1; simp at h1
  obtain⟨a1,a2⟩:=key h1 h3 f;obtain⟨o,p⟩:=key h2 h4 g;exact s.excl i j oi oj l m b a1 o a2 p e f g
 own:=fun k ob u b h1 h2 d q=>by
  rw[List.getElem?_append]at h1 h2;rw[s.hlen]at h2;split at h1
  ·rename_i a
   rw[if_pos a]at h2;exact s.own k ob u b h1 h2 d q
  cases c:k - lo.length with
  | zero=>rw[c]at h1; simp at h1; subst h1; simp[AObj.live]at d
  | succ n=>rw[c]at h1; simp at h1
 keep:=s.keep
 leH:=s.leH
 newH:=s.newH
theorem Apart.pushDead {ρ:List Value} {H:PH} {lo:List AObj} {w:World} {b:Nat} {o:Obj} (a:Apart ρ H lo w b o) (f:ρ.length=lo.length) (v:Value):Apart (ρ++[v]) H (lo++[.dead]) w b o:=
 ⟨a.heap,fun k ob u h1 h2 c=>by
  rw[List.getElem?_append]at h1 h2;rw[f]at h2;split at h1
  ·rename_i d
   rw[if_pos d]at h2;exact a.free k ob u h1 h2 c
  cases e:k - lo.length with
  | zero=>rw[e]at h1; simp at h1; subst h1; simp[AObj.live]at c
  | succ n=>rw[e]at h1; simp at h1,a.none⟩
def aJ:Value->List UInt8
 | .string s=>s.data.toList
 | _=>[]
theorem qgc {es:Array MapEntry} (b:(es.toList.map (·.born)).Nodup) {seen:Array Nat} {e:MapEntry} (he:e∈(leftOf es seen).toList):(leftOf es seen).toList.Perm (e::(leftOf es (seen.push e.born)).toList):=by
 obtain⟨h1,h2⟩:=mem_left he;unfold leftOf;simp only[Array.toList_filter];generalize es.toList=l at *
 induction l with
 | nil=>cases h1
 | cons x l ih=>
  simp only[jk,List.nodup_cons]at b;by_cases d:x=e
  ·subst d
   have a:∀ y∈l,y.born≠x.born:=fun y c h=>b.1 (by rw[← h]; exact List.mem_map_of_mem c)
   have e1:(x::l).filter (fun e=>!seen.contains e.born)=x::l.filter (fun e=>!seen.contains e.born):=by rw[List.filter_cons,h2]; rfl
   have e2:(x::l).filter (fun e=>!(seen.push x.born).contains e.born)=l.filter (fun e=>!seen.contains e.born):=by
    rw[List.filter_cons,contains_push];simp only[kbs,Bool.or_true,Bool.not_true,jP,if_false];refine List.filter_congr fun y c=>?_;rw[contains_push];have:(y.born==x.born)=false:=by simpa using a y c
    rw[this,Bool.or_false]
   rw[e1,e2]
  have hm:e∈l:=by cases h1 with|head=>exact absurd rfl d|tail _ h=>exact h
  have a:x.born≠e.born:=fun h=>b.1 (by rw[h]; exact List.mem_map_of_mem hm)
  have ih:=ih b.2 hm;have f:(seen.push e.born).contains x.born=seen.contains x.born:=by
   rw[contains_push];have:(x.born==e.born)=false:=by simpa using a
   rw[this,Bool.or_false]
  simp only[List.filter_cons,f];split
  ·exact(ih.cons x).trans (List.Perm.swap e x _)
  exact ih
def qau (es:Array MapEntry) (seen:Array Nat) (ss:List (List UInt8)):Prop:=(ss++(leftOf es seen).toList.map fun e=>aJ e.key).Perm (es.toList.map fun e=>aJ e.key)
theorem qau.start (es:Array MapEntry):qau es #[] []:=by
 unfold qau leftOf;have:es.toList.filter (fun _=>true)=es.toList:=List.filter_eq_self.2 fun _ _=>rfl
 simp[this]
theorem qau.step {es:Array MapEntry} (a:(es.toList.map (·.born)).Nodup) {seen:Array Nat} {ss:List (List UInt8)} (c:qau es seen ss) {e:MapEntry} (he:e∈(leftOf es seen).toList):qau es (seen.push e.born) (ss++[aJ e.key]):=by
 unfold qau at *;refine List.Perm.trans ?_ c;rw[List.append_assoc];refine List.Perm.append_left ss ?_;exact((qgc a he).map fun e:MapEntry=>aJ e.key).symm
theorem qau.done {es:Array MapEntry} {seen:Array Nat} {ss:List (List UInt8)} (c:qau es seen ss) (h:(leftOf es seen).size=0):ss.Perm (es.toList.map fun e=>aJ e.key):=by
 unfold qau at c;have:(leftOf es seen).toList=[]:=by simpa using h
 rw[this]at c;simpa using c
theorem qau.len {es:Array MapEntry} {seen:Array Nat} {ss:List (List UInt8)} (c:qau es seen ss):ss.length+(leftOf es seen).size=es.size:=by
 have:=c.length_eq;simpa using this
theorem Sc {a b:List (List UInt8)} (h:a.Perm b):Qn a=Qn b:=by
 have c:∀ x y z:List UInt8,decide (x<=y)=true->decide (y<=z)=true->decide (x<=z)=true:=fun x y z h1 h2=>by
  simp only[kde]at *;exact Std.le_trans h1 h2
 have d:∀ x y:List UInt8,(decide (x<=y)||decide (y<=x))=true:=fun x y=>by
  simp only[jO,kde];exact Std.le_total
 have p:(Qn a).Perm (Qn b):=(List.mergeSort_perm a _).trans (h.trans (List.mergeSort_perm b _).symm);refine List.Perm.eq_of_pairwise (le:=fun x y=>decide (x<=y)=true) ?_ (List.pairwise_mergeSort c d a) (List.pairwise_mergeSort c d b) p
 intro x y _ _ h1 h2;simp only[kde]at h1 h2;exact Std.le_antisymm h1 h2
end Ax
end
section
namespace Ax
open Go
inductive Tr (α:Type) where
 | nil
 | node (v:Option α) (l r:Tr α)
section
variable {α β:Type}
def Tr.get:Tr α->Nat->Option α
 | .nil,_=>none
 | .node v l r,n=>match n with
  | 0=>v
  | n+1=>match Nat.beq (Nat.mod n 2) 0 with
   | true=>l.get (Nat.div n 2)
   | false=>r.get (Nat.div n 2)
def Tr.putK:Nat->Tr α->Nat->α->(Tr α->Option β)->Option β
 | 0,_,_,_,_=>none
 | f+1,t,n,x,K=>match t with
  | .nil=>(match n with
   | 0=>K (.node (some x) .nil .nil)
   | n+1=>match Nat.beq (Nat.mod n 2) 0 with
    | true=>Tr.putK f .nil (Nat.div n 2) x fun t=>K (.node none t .nil)
    | false=>Tr.putK f .nil (Nat.div n 2) x fun t=>K (.node none .nil t))
  | .node v l r=>match n with
   | 0=>K (.node (some x) l r)
   | n+1=>match Nat.beq (Nat.mod n 2) 0 with
    | true=>Tr.putK f l (Nat.div n 2) x fun t=>K (.node v t r)
    | false=>Tr.putK f r (Nat.div n 2) x fun t=>K (.node v l t)
theorem qrm {a b:Nat} {c:Bool} (h:Nat.beq a b=c):decide (a=b)=c:=by
 cases c with
 | true=>simpa using jm h
 | false=>simpa using Nat.ne_of_beq_eq_false h
theorem qd5 {n:Nat} {c:Bool} (h:Nat.beq (Nat.mod n 2) 0=c):decide (n % 2=0)=c:=qrm h
theorem Tr.putK_ok:∀ {f:Nat} {t:Tr α} {n:Nat} {x:α} {K:Tr α->Option β} {z:β},Tr.putK f t n x K=some z->∃ c,K c=some z/\∀ m,c.get m=if m=n then some x else t.get m
 | 0,_,_,_,_,_,h=>by cases h
 | f+1,.nil,0,x,K,z,h=>⟨_,h,fun m=>by
   cases m with
   | zero=>simp[Tr.get]
   | succ m=>simp only[Tr.get]; split<;>simp⟩
 | f+1,.nil,n+1,x,K,z,h=>by
  simp only[Tr.putK]at h;split at h
  ·rename_i a
   obtain⟨c,h,b⟩:=Tr.putK_ok h;refine⟨_,h,fun m=>?_⟩;have a:=qd5 a;cases m with
   | zero=>simp[Tr.get]
   | succ m=>
    simp only[Tr.get];split
    ·rename_i hm
     have hm:=qd5 hm;simp only[kde]at a hm;rw[b];simp only[Tr.get];have:(Nat.div m 2=Nat.div n 2)↔(m+1=n+1):=by show(m / 2=n / 2)↔_; omega
     simp only[this]
    rename_i hm;have hm:=qd5 hm;simp only[kde,decide_eq_false_iff_not]at a hm;rw[if_neg (by omega)]
  rename_i a;obtain⟨c,h,b⟩:=Tr.putK_ok h;refine⟨_,h,fun m=>?_⟩;have a:=qd5 a;cases m with
  | zero=>simp[Tr.get]
  | succ m=>
   simp only[Tr.get];split
   ·rename_i hm
    have hm:=qd5 hm;simp only[kde,decide_eq_false_iff_not]at a hm;rw[if_neg (by omega)]
   rename_i hm;have hm:=qd5 hm;simp only[decide_eq_false_iff_not]at a hm;rw[b];simp only[Tr.get];have:(Nat.div m 2=Nat.div n 2)↔(m+1=n+1):=by show(m / 2=n / 2)↔_; omega
   simp only[this]
 | f+1,.node v l r,0,x,K,z,h=>⟨_,h,fun m=>by
   cases m with
   | zero=>simp[Tr.get]
   | succ m=>simp[Tr.get]⟩
 | f+1,.node v l r,n+1,x,K,z,h=>by
  simp only[Tr.putK]at h;split at h
  ·rename_i a
   obtain⟨c,h,b⟩:=Tr.putK_ok h;refine⟨_,h,fun m=>?_⟩;have a:=qd5 a;cases m with
   | zero=>simp[Tr.get]
   | succ m=>
    simp only[Tr.get];split
    ·rename_i hm
     have hm:=qd5 hm;simp only[kde]at a hm;rw[b];have:(Nat.div m 2=Nat.div n 2)↔(m+1=n+1):=by show(m / 2=n / 2)↔_; omega
     simp only[this]
    rename_i hm;have hm:=qd5 hm;simp only[kde,decide_eq_false_iff_not]at a hm;rw[if_neg (by omega)]
  rename_i a;obtain⟨c,h,b⟩:=Tr.putK_ok h;refine⟨_,h,fun m=>?_⟩;have a:=qd5 a;cases m with
  | zero=>simp[Tr.get]
  | succ m=>
   simp only[Tr.get];split
   ·rename_i hm
    have hm:=qd5 hm;simp only[kde,decide_eq_false_iff_not]at a hm;rw[if_neg (by omega)]
   rename_i hm;have hm:=qd5 hm;simp only[decide_eq_false_iff_not]at a hm;rw[b];have:(Nat.div m 2=Nat.div n 2)↔(m+1=n+1):=by show(m / 2=n / 2)↔_; omega
   simp only[this]
structure Arr where
 size:Nat
 t:Tr AObj
def Arr.toL (a:Arr):List AObj:=(List.range a.size).map fun k=>(a.t.get k).getD .dead
theorem Arr.len (a:Arr):a.toL.length=a.size:=by simp[Arr.toL]
def Arr.nth (a:Arr) (k:Nat) (K:AObj->Option β):Option β:=match Nat.blt k a.size with
 | true=>(match a.t.get k with|some o=>K o|none=>none)
 | false=>none
theorem Arr.nth_ok {a:Arr} {k:Nat} {K:AObj->Option β} {z:β} (h:a.nth k K=some z):∃ o,K o=some z/\a.toL[k]? =some o:=by
 unfold Arr.nth at h;split at h
 ·rename_i b
  have b:k<a.size:=jh b;split at h
  ·rename_i o c
   exact⟨o,h,by simp[Arr.toL,b,c]⟩
  cases h
 ·cases h
def Arr.put (a:Arr) (k:Nat) (o:AObj) (K:Arr->Option β):Option β:=match Nat.blt k a.size with
 | true=>Tr.putK 40 a.t k o fun t=>K ⟨a.size,t⟩
 | false=>none
theorem Arr.put_ok {a:Arr} {k:Nat} {o:AObj} {K:Arr->Option β} {z:β} (h:a.put k o K=some z):∃ c:Arr,K c=some z/\c.toL=a.toL.set k o/\k<a.toL.length:=by
 unfold Arr.put at h;split at h
 ·rename_i b
  have b:k<a.size:=jh b;obtain⟨f,h,d⟩:=Tr.putK_ok h;refine⟨_,h,?_,by rw[Arr.len]; exact b⟩;apply List.ext_getElem?;intro i;simp only[Arr.toL,jF,List.getElem?_map,d,jl,List.length_range];by_cases h1:k=i
  ·subst h1; simp[b]
  simp only[h1,if_false];by_cases e:i<a.size
  ·simp[e,Ne.symm h1]
  rw[List.getElem?_eq_none (by simp; omega)]; rfl
 cases h
def Arr.push (a:Arr) (o:AObj) (K:Arr->Option β):Option β:=Tr.putK 40 a.t a.size o fun t=>match a.size+1 with
 | 0=>none
 | n+1=>K ⟨n+1,t⟩
theorem Arr.push_ok {a:Arr} {o:AObj} {K:Arr->Option β} {z:β} (h:a.push o K=some z):∃ b:Arr,K b=some z/\b.toL=a.toL++[o]/\b.size=a.size+1:=by
 unfold Arr.push at h;obtain⟨d,h,c⟩:=Tr.putK_ok h;refine⟨_,h,?_,rfl⟩;apply List.ext_getElem?;intro i;simp only[Arr.toL,List.getElem?_append,List.getElem?_map,c,jl,List.length_range,List.range_succ,List.map_append,jk,jN];by_cases h1:i<a.size
 ·simp[h1,Nat.ne_of_lt h1]
 simp only[h1,if_false];by_cases h2:i=a.size
 ·subst h2; simp
 rw[List.getElem?_eq_none (by simp; omega),List.getElem?_eq_none (by simp; omega)]
end
def xE (t:Tr FV):Nat->FV:=fun n=>match t.get n with
 | some v=>v
 | none=>.top
theorem qp2:xE .nil=qv []:=by funext n; simp[xE,Tr.get,qv]
theorem qh7 {t a:Tr FV} {d:Nat} {v:FV} (h:∀ m,a.get m=if m=d then some v else t.get m):xE a=upd (xE t) (some d) v:=by
 funext n;simp only[xE,upd,h];by_cases b:n=d<;>simp[b]
def Ok1 {α β:Type} (x:(α->Option β)->Option β) (k:(α->Prop)->Prop):Prop:=∀ K z,x K=some z->∃ a,K a=some z/\∀ R:α->Prop,R a->k R
def Ok2 {β:Type} (x:(FV->Arr->Option β)->Option β) (k:(FV->List AObj->Prop)->Prop):Prop:=∀ K z,x K=some z->∃ v a,K v a=some z/\∀ R:FV->List AObj->Prop,R v a.toL->k R
theorem eZ {g:G} {p:Prop} (h:p):gI g p:=by
 cases g with
 | none=>exact h
 | some b=>exact fun _=>h
section
variable {β:Type}
def xv (e:Nat->FV) (x:Operand) (K:FV->Option β):Option β:=
 match evF e x with
 | .opt b v=>(match b with|true=>K v|false=>none)
 | v=>K v
theorem tl {E:Env} {g:G} {x:Operand}:Ok1 (β:=β) (xv (qv E) x) (evS E g x):=by
 intro K z h;unfold xv at h;have key:∀ R:FV->Prop,evS E g x R↔(match evF (qv E) x with
  | .opt g' v'=>gI g (g'=true)/\R v'
  | v=>R v):=fun R=>by unfold evS; rw[Zx]; exact Iff.rfl
 simp only[key];generalize evF (qv E) x=f at *;cases f<;>simp only at h ⊢ <;> try exact⟨_,h,fun R r=>r⟩
 split at h
 ·exact⟨_,h,fun R r=>⟨eZ rfl,r⟩⟩
 cases h
def xvL (e:Nat->FV):List Operand->(List FV->Option β)->Option β
 | [],K=>K []
 | x::l,K=>xv e x fun v=>xvL e l fun l=>K (v::l)
theorem aZ {E:Env} {g:G}:∀ {l:List Operand},Ok1 (β:=β) (xvL (qv E) l) (evL E g l)
 | []=>fun K z h=>⟨_,h,fun R r=>r⟩
 | x::l=>fun K z h=>by
  obtain⟨v,h,a⟩:=tl (g:=g) _ _ h;obtain⟨vs,h,b⟩:=aZ (l:=l) _ _ h;exact⟨_,h,fun R r=>a _ (b _ r)⟩
def qmi (v:FV) (K:PV->Option β):Option β:=
 match v with
 | .p v=>K v
 | .tsl _ rows=>K (.sl rows)
 | _=>none
theorem qap {v:FV}:Ok1 (β:=β) (qmi v) (ee v):=by
 intro K z h;cases v<;>simp only[qmi]at h<;>first|exact⟨_,h,fun R r=>r⟩|cases h
def qlb:List FV->(List PV->Option β)->Option β
 | [],K=>K []
 | v::l,K=>qmi v fun v=>qlb l fun l=>K (v::l)
theorem iw:∀ {l:List FV},Ok1 (β:=β) (qlb l) (qa6 l)
 | []=>fun K z h=>⟨_,h,fun R r=>r⟩
 | x::l=>fun K z h=>by
  obtain⟨v,h,a⟩:=qap _ _ h;obtain⟨vs,h,b⟩:=iw (l:=l) _ _ h;exact⟨_,h,fun R r=>a _ (b _ r)⟩
def qd3 {α:Type}:Nat->List α->(List α->Option β)->Option β
 | 0,_,K=>K []
 | n+1,l,K=>match l with|[]=>none|a::l=>qd3 n l fun l=>K (a::l)
theorem LW {α:Type}:∀ {n:Nat} {l:List α},Ok1 (β:=β) (qd3 n l) (Lz n l)
 | 0,_=>fun K z h=>⟨_,h,fun R r=>r⟩
 | n+1,[]=>fun K z h=>by cases h
 | n+1,a::l=>fun K z h=>by
  obtain⟨l,h,b⟩:=LW (n:=n) (l:=l) _ _ h;exact⟨_,h,fun R r=>b _ r⟩
def qdz {α:Type}:Nat->List α->(List α->Option β)->Option β
 | 0,l,K=>K l
 | n+1,l,K=>match l with|[]=>none|_::l=>qdz n l K
theorem LS {α:Type}:∀ {n:Nat} {l:List α},Ok1 (β:=β) (qdz n l) (Ng n l)
 | 0,_=>fun K z h=>⟨_,h,fun R r=>r⟩
 | n+1,[]=>fun K z h=>by cases h
 | n+1,a::l=>fun K z h=>LS (n:=n) (l:=l) K z h
def qle {α:Type}:Nat->List α->(α->Option β)->Option β
 | 0,l,K=>match l with|[]=>none|a::_=>K a
 | n+1,l,K=>match l with|[]=>none|_::l=>qle n l K
theorem Pd {α:Type}:∀ {n:Nat} {l:List α},Ok1 (β:=β) (qle n l) (UK n l)
 | 0,[]=>fun K z h=>by cases h
 | 0,a::l=>fun K z h=>⟨_,h,fun R r=>r⟩
 | n+1,[]=>fun K z h=>by cases h
 | n+1,a::l=>fun K z h=>Pd (n:=n) (l:=l) K z h
def qq7 {α:Type}:List α->List α->(List α->Option β)->Option β
 | [],m,K=>K m
 | a::l,m,K=>qq7 l m fun l=>K (a::l)
theorem qif {α:Type}:∀ {l m:List α} {K:List α->Option β} {z:β},qq7 l m K=some z->K (l++m)=some z
 | [],m,K,z,h=>h
 | a::l,m,K,z,h=>qif (l:=l) (K:=fun l=>K (a::l)) h
def qld:List PV->(List FV->Option β)->Option β
 | [],K=>K []
 | c::cs,K=>qld cs fun l=>K (.p c::l)
theorem ix:∀ {l:List PV},Ok1 (β:=β) (qld l) (qjk l)
 | []=>fun K z h=>⟨_,h,fun R r=>r⟩
 | x::l=>fun K z h=>by
  obtain⟨vs,h,a⟩:=ix (l:=l) _ _ h;exact⟨_,h,fun R r=>a _ r⟩
def Rv {α:Type}:Nat->List α->List α->(List α->Option β)->Option β
 | 0,[],old,K=>K old
 | 0,v::vs,old,K=>match old with|[]=>none|_::old=>Rv 0 vs old fun l=>K (v::l)
 | n+1,vs,old,K=>match old with|[]=>none|a::old=>Rv n vs old fun l=>K (a::l)
theorem Pe:∀ {n:Nat} {vs old:List FV},Ok1 (β:=β) (Rv n vs old) (VJ n vs old)
 | 0,[],old=>fun K z h=>⟨old,by simpa only[Rv]using h,fun R r=>by simpa only[VJ]using r⟩
 | 0,v::vs,[]=>fun K z h=>by cases h
 | 0,v::vs,a::old=>fun K z h=>by
  obtain⟨vs,h,b⟩:=Pe (n:=0) (vs:=vs) (old:=old) _ _ h;exact⟨_,h,fun R r=>b _ r⟩
 | n+1,vs,[]=>fun K z h=>by cases vs<;>cases h
 | n+1,vs,a::old=>fun K z h=>by
  have h:Rv n vs old (fun l=>K (a::l))=some z:=by cases vs<;>exact h
  obtain⟨l,h,b⟩:=Pe (n:=n) (vs:=vs) (old:=old) _ _ h;exact⟨_,h,fun R r=>by cases vs<;>exact b _ r⟩
theorem Pf:∀ {n:Nat} {vs old:List PV},Ok1 (β:=β) (Rv n vs old) (EN n vs old)
 | 0,[],old=>fun K z h=>⟨old,by simpa only[Rv]using h,fun R r=>by simpa only[EN]using r⟩
 | 0,v::vs,[]=>fun K z h=>by cases h
 | 0,v::vs,a::old=>fun K z h=>by
  obtain⟨vs,h,b⟩:=Pf (n:=0) (vs:=vs) (old:=old) _ _ h;exact⟨_,h,fun R r=>b _ r⟩
 | n+1,vs,[]=>fun K z h=>by cases vs<;>cases h
 | n+1,vs,a::old=>fun K z h=>by
  have h:Rv n vs old (fun l=>K (a::l))=some z:=by cases vs<;>exact h
  obtain⟨l,h,b⟩:=Pf (n:=n) (vs:=vs) (old:=old) _ _ h;exact⟨_,h,fun R r=>by cases vs<;>exact b _ r⟩
def iu (p:PV) (K:List PV->Option β):Option β:=
 match p with
 | .agg cs=>K cs
 | .tup _=>none
 | p=>K [p]
theorem Sg {p:PV}:Ok1 (β:=β) (iu p) (MZ p):=by
 intro K z h;cases p<;>simp only[iu]at h<;>first|exact⟨_,h,fun R r=>r⟩|cases h
def qob:List PV->(List (List PV)->Option β)->Option β
 | [],K=>K []
 | p::ps,K=>iu p fun c=>qob ps fun rs=>K (c::rs)
theorem qcl:∀ {l:List PV},Ok1 (β:=β) (qob l) (qdn l)
 | []=>fun K z h=>⟨_,h,fun R r=>r⟩
 | x::l=>fun K z h=>by
  obtain⟨v,h,a⟩:=Sg _ _ h;obtain⟨vs,h,b⟩:=qcl (l:=l) _ _ h;exact⟨_,h,fun R r=>a _ (b _ r)⟩
def qcg (v:FV) (K:List FV->Option β):Option β:=
 match v with
 | .p (.agg cs)=>qld cs K
 | v=>match qdb v with|true=>K [v]|false=>none
theorem aW {v:FV}:Ok1 (β:=β) (qcg v) (XI v):=by
 intro K z h;unfold qcg at h;unfold XI;split at h
 ·exact ix _ _ h
 rename_i a;split at h
 ·rename_i h3
  refine⟨_,h,fun R r=>?_⟩;split
  ·exact(a _ rfl).elim
  ·cases h3
  simp only[h3]; exact r
 cases h
def qd0:List Value->(List PV->Option β)->Option β
 | [],K=>K []
 | v::vs,K=>match qnc v with|some p=>qd0 vs fun l=>K (p::l)|none=>none
theorem LU:∀ {l:List Value},Ok1 (β:=β) (qd0 l) (qbu l)
 | []=>fun K z h=>⟨_,h,fun R r=>r⟩
 | x::l=>fun K z h=>by
  simp only[qd0]at h;split at h
  ·rename_i p hp
   obtain⟨vs,h,a⟩:=LU (l:=l) _ _ h;exact⟨_,h,fun R r=>by simp only[qbu,hp]; exact a _ r⟩
  cases h
variable {P:Program}
def qil (P:Program) (t:TypeId) (K:Bool->Nat->Option β):Option β:=
 match P.underlying t with
 | some d=>match P.info? t with
  | some i=>K (qll d) i.size
  | none=>none
 | none=>none
theorem iA {t:TypeId} {K:Bool->Nat->Option β} {z:β} (h:qil P t K=some z):∃ a n,K a n=some z/\∀ R:Bool->Nat->Prop,R a n->VQ P t R:=by
 unfold qil at h;split at h
 ·rename_i d b
  split at h
  ·rename_i i c
   exact⟨_,_,h,fun R r=>by simp only[VQ,b,c]; exact r⟩
  cases h
 ·cases h
def qch (P:Program) (t:TypeId) (f:Nat) (K:Nat->TypeId->Option β):Option β:=
 match P.underlying t with
 | some (.struct ⟨fs⟩)=>qle f fs fun x=>match P.info? x.type with
  | some i=>match Nat.beq i.size 0 with|true=>none|false=>K x.offset x.type
  | none=>none
 | _=>none
theorem aX {t:TypeId} {f:Nat} {K:Nat->TypeId->Option β} {z:β} (h:qch P t f K=some z):∃ a n,K a n=some z/\∀ R:Nat->TypeId->Prop,R a n->Nl P t f R:=by
 unfold qch at h;split at h
 ·rename_i e b
  obtain⟨x,h,c⟩:=Pd _ _ h;split at h
  ·rename_i i d
   split at h
   ·cases h
   rename_i hz;exact⟨_,_,h,fun R r=>by simp only[Nl,b]; exact c _ (by simp only[d,hz]; exact r)⟩
  cases h
 ·cases h
def qig (P:Program) (t:TypeId) (K:TypeId->Nat->Option β):Option β:=
 match P.underlying t with
 | some (.slice e)=>match P.info? e with|some i=>K e i.size|none=>none
 | _=>none
theorem iv {t:TypeId} {K:TypeId->Nat->Option β} {z:β} (h:qig P t K=some z):∃ a n,K a n=some z/\∀ R:TypeId->Nat->Prop,R a n->GK P t R:=by
 unfold qig at h;split at h
 ·rename_i e b
  split at h
  ·rename_i i c
   exact⟨_,_,h,fun R r=>by simp only[GK,b,c]; exact r⟩
  cases h
 ·cases h
def qod (P:Program) (t:TypeId) (K:List PV->Option β):Option β:=
 match P.info? t with
 | some i=>match i.zero with
  | some (.agg ⟨vs⟩)=>qd0 vs K
  | some v=>qd0 [v] K
  | none=>none
 | none=>none
theorem qlg {t:TypeId}:Ok1 (β:=β) (qod P t) (qar P t):=by
 intro K z h;unfold qod at h;unfold qar;split at h
 ·rename_i i a
  simp only[a];split at h
  ·rename_i vs hz
   simp only[hz];exact LU _ _ h
  ·rename_i v c hz
   obtain⟨vs,h,b⟩:=LU _ _ h;refine⟨_,h,fun R r=>?_⟩;simp only[hz];exact b _ r
  cases h
 ·cases h
end
end Ax
end
section
namespace Ax
open Go
section
variable {β:Type} {P:Program}
theorem iy {α:Type} {n:Nat} {l:List α} {K:α->Option β} {z:β} (h:qle n l K=some z):∃ a,K a=some z/\l[n]? =some a:=by
 obtain⟨a,h,c⟩:=Pd _ _ h;obtain⟨b,d,e⟩:=xk (c (fun b=>b=a) rfl)
 subst e;exact⟨b,h,d⟩
theorem qlf {α:Type} {n:Nat} {l:List α} {K:List α->Option β} {z:β} (h:qd3 n l K=some z):K (l.take n)=some z/\n<=l.length:=by
 obtain⟨a,h,c⟩:=LW _ _ h;obtain⟨e,d⟩:=Qo (c (fun b=>b=a) rfl)
 rw[e];exact⟨h,d⟩
theorem qk9 {α:Type} {n:Nat} {l:List α} {K:List α->Option β} {z:β} (h:qdz n l K=some z):K (l.drop n)=some z/\n<=l.length:=by
 obtain⟨a,h,c⟩:=LS _ _ h;obtain⟨e,d⟩:=Qh (c (fun b=>b=a) rfl)
 rw[e];exact⟨h,d⟩
def qq8 (n:Int) (K:Int->Option β):Option β:=match n with
 | .ofNat m=>(match m with|0=>K (.ofNat 0)|m+1=>K (.ofNat (m+1)))
 | .negSucc m=>K (.negSucc m)
theorem qn8 {n:Int} {K:Int->Option β} {z:β} (h:qq8 n K=some z):K n=some z:=by
 unfold qq8 at h;split at h
 ·split at h<;>exact h
 exact h
def qao (b:Bool) (K:Bool->Option β):Option β:=match b with|true=>K true|false=>K false
theorem Fz {n:Bool} {K:Bool->Option β} {z:β} (h:qao n K=some z):K n=some z:=by cases n<;>exact h
def Sh (v:FV) (K:FV->Option β):Option β:=match v with
 | .p (.int k n)=>qq8 n fun n=>K (.p (.int k n))
 | .p (.bool b)=>qao b fun b=>K (.p (.bool b))
 | .opt g v=>qao g fun g=>K (.opt g v)
 | v=>K v
theorem DR {v:FV} {K:FV->Option β} {z:β} (h:Sh v K=some z):K v=some z:=by
 unfold Sh at h;split at h
 ·exact qn8 h
 ·exact Fz h
 ·exact Fz h
 exact h
def xif (b:Bool) (K:Option β):Option β:=match b with|true=>K|false=>none
theorem uw {b:Bool} {K:Option β} {z:β} (h:xif b K=some z):b=true/\K=some z:=by
 cases b with
 | true=>exact⟨rfl,h⟩
 | false=>cases h
def qn6 (op:BinOp) (k:IntKind) (a b:Int) (K:PV->Option β):Option β:=
 match op with
 | .add=>K (.int k (k.wrap (a+b)))
 | .sub=>K (.int k (k.wrap (a - b)))
 | .eql=>K (.bool (a==b))
 | .neq=>K (.bool (a != b))
 | .lss=>K (.bool (decide (a<b)))
 | .leq=>K (.bool (decide (a<=b)))
 | .gtr=>K (.bool (decide (a>b)))
 | .geq=>K (.bool (decide (a≥b)))
 | _=>none
theorem qk7 {op:BinOp} {k:IntKind} {a b:Int}:Ok1 (β:=β) (qn6 op k a b) (qqq op k a b):=by
 intro K z h;cases op<;>simp only[qn6]at h<;>first|exact⟨_,h,fun R r=>r⟩|cases h
def qn7 (op:BinOp) (a b:List UInt8) (K:PV->Option β):Option β:=
 match op with
 | .eql=>K (.bool (a==b))
 | .neq=>K (.bool (!(a==b)))
 | _=>none
theorem qk8 {g:G} {op:BinOp} {a b:List UInt8}:Ok1 (β:=β) (qn7 op a b) (qqr g op a b):=by
 intro K z h;cases op<;>simp only[qn7]at h<;>first|exact⟨_,h,fun R r=>r⟩|cases h
def qn5 (op:BinOp) (a b:Bool) (K:PV->Option β):Option β:=
 match op with
 | .eql=>K (.bool (a==b))
 | .neq=>K (.bool (!(a==b)))
 | _=>none
theorem qk6 {op:BinOp} {a b:Bool}:Ok1 (β:=β) (qn5 op a b) (qqp op a b):=by
 intro K z h;cases op<;>simp only[qn5]at h<;>first|exact⟨_,h,fun R r=>r⟩|cases h
def qii (P:Program) (t:TypeId) (K:Option β):Option β:=match P.underlying t with
 | some .bool=>K
 | _=>none
def qqf (P:Program) (op:BinOp) (t:TypeId) (x y:FV) (K:FV->Option β):Option β:=
 match x with
 | .p (.int k a)=>match y with
  | .p (.int k' b)=>match op with
   | op=>xif (Ht k k') (qn6 op k a b fun v=>K (.p v))
  | _=>none
 | .p (.str a)=>match y with
  | .p (.str b)=>qn7 op a b fun v=>K (.p v)
  | _=>none
 | .p (.bool a)=>match y with
  | .p (.bool b)=>qii P t (qn5 op a b fun v=>K (.p v))
  | _=>none
 | _=>none
theorem qny {g:G} {op:BinOp} {t:TypeId} {x y:FV}:Ok1 (β:=β) (qqf P op t x y) (qmu P g op t x y):=by
 intro K z h;unfold qqf at h;split at h
 ·split at h
  ·obtain⟨b,h⟩:=uw h
   obtain⟨v,h,a⟩:=qk7 _ _ h;refine⟨_,h,fun R r=>?_⟩;have a:=a (fun v=>R (.p v)) r
   cases op<;>first|(simp only[qmu,b]; exact a)|exact a.elim
  ·cases h
 ·split at h
  ·obtain⟨v,h,a⟩:=qk8 (g:=g) _ _ h
   exact⟨_,h,fun R r=>by simp only[qmu]; exact a _ r⟩
  cases h
 ·split at h
  ·unfold qii at h
   split at h
   ·rename_i c
    obtain⟨v,h,a⟩:=qk6 _ _ h;exact⟨_,h,fun R r=>by simp only[qmu,om,c]; exact a _ r⟩
   cases h
  ·cases h
 cases h
def ik (P:Program) (t:TypeId) (x:FV) (f:Nat) (K:FV->Option β):Option β:=
 match x with
 | .ptr k off=>qch P t f fun o _=>K (.ptr k (off+o))
 | .hptr row=>qch P t f fun o _=>qdz o row fun r=>K (.hptr r)
 | _=>none
theorem qdw {t:TypeId} {x:FV} {f:Nat}:Ok1 (β:=β) (fun K=>ik P t x f K) (fun R=>RI P t x f R):=by
 intro K z h;simp only[ik]at h;split at h
 ·obtain⟨a,n,h,c⟩:=aX h
  exact⟨_,h,fun R r=>by simp only[RI]; exact c _ r⟩
 ·obtain⟨a,n,h,c⟩:=aX h
  obtain⟨b,h,d⟩:=LS _ _ h;exact⟨_,h,fun R r=>by simp only[RI]; exact c _ (d _ r)⟩
 cases h
def il (P:Program) (t:TypeId) (x i:FV) (K:FV->Option β):Option β:=
 match x,i with
 | .p (.sl rows),.p (.int _ (.ofNat i))=>qig P t fun _ z=>qle i rows fun row=>xif (Nat.beq row.length z) (K (.hptr row))
 | _,_=>none
theorem qox {a b:Nat} (h:Nat.blt a b=true):a<b:=jh h
theorem qdx {g:G} {t:TypeId} {x i:FV}:Ok1 (β:=β) (fun K=>il P t x i K) (fun R=>VF P g t x i R):=by
 intro K z h;simp only[il]at h;split at h
 ·obtain⟨a,n,h,b⟩:=iv h
  obtain⟨row,h,c⟩:=iy h;obtain⟨d,h⟩:=uw h;exact⟨_,h,fun R r=>by simp only[VF]; exact b _ ⟨row,eZ ⟨Int.natCast_nonneg _,by simpa using c,jm d⟩,r⟩⟩
 cases h
def qcb (P:Program) (t:TypeId) (x i:FV) (K:FV->Option β):Option β:=
 match x,i with
 | .p (.str l),.p (.int _ (.ofNat i))=>match P.underlying t with
  | some .string=>qle i l fun b=>K (.p (.int .u8 b.toNat))
  | _=>none
 | _,_=>none
theorem qh9 {g:G} {t:TypeId} {x i:FV}:Ok1 (β:=β) (fun K=>qcb P t x i K) (fun R=>lH P g t x i R):=by
 intro K z h;simp only[qcb]at h;split at h
 ·split at h
  ·rename_i hu
   obtain⟨b,h,a⟩:=iy h;refine⟨_,h,fun R r=>?_⟩;simp only[lH,hu];exact⟨b,eZ ⟨Int.natCast_nonneg _,by simpa using a⟩,r⟩
  cases h
 ·cases h
def qcf (e:Nat->FV) (x:Option Operand) (d:Nat) (K:Nat->Option β):Option β:=
 match x with
 | none=>K d
 | some x=>xv e x fun v=>match v with
  | .p (.int _ (.ofNat i))=>K i
  | _=>none
theorem aV {E:Env} {g:G} {x:Option Operand} {d:Nat}:Ok1 (β:=β) (qcf (qv E) x d) (GG E g x d):=by
 intro K z h;unfold qcf at h;split at h
 ·exact⟨_,h,fun R r=>r⟩
 obtain⟨v,h,a⟩:=tl (g:=g) _ _ h;split at h
 ·exact⟨_,h,fun R r=>a _ ⟨_,eZ rfl,r⟩⟩
 cases h
def qib (P:Program) (e:Nat->FV) (t:TypeId) (x:FV) (lo b c:Option Operand) (K:FV->Option β):Option β:=
 match c with
 | some _=>none
 | none=>match x with
  | .p (.str l)=>match P.underlying t with
   | some .string=>qcf e b l.length fun h=>qcf e lo 0 fun a=>xif (Nat.ble a h) (qd3 h l fun l=>qdz a l fun l=>K (.p (.str l)))
   | _=>none
  | _=>none
theorem qic {E:Env} {g:G} {t:TypeId} {x:FV} {lo b c:Option Operand}:Ok1 (β:=β) (fun K=>qib P (qv E) t x lo b c K) (fun R=>lK P E g t x lo b c R):=by
 intro K z h;simp only[qib]at h;split at h
 ·cases h
 split at h
 ·split at h
  ·rename_i hu
   obtain⟨n,h,d⟩:=aV (g:=g) _ _ h;obtain⟨a,h,e⟩:=aV (g:=g) _ _ h;obtain⟨f,h⟩:=uw h;obtain⟨h,h1⟩:=qlf h;obtain⟨h,h2⟩:=qk9 h;exact⟨_,h,fun R r=>by simp only[lK,hu]; exact d _ (e _ ⟨eZ ⟨jh f,h1⟩,r⟩)⟩
  cases h
 ·cases h
def qq6 (P:Program) (t:TypeId) (x:FV) (K:FV->Option β):Option β:=
 match x with
 | .p (.str l)=>match P.underlying t with|some .string=>K (.p (.int .i64 l.length))|_=>none
 | .p (.sl rows)=>match P.underlying t with|some (.slice _)=>K (.p (.int .i64 rows.length))|_=>none
 | .tsl _ rows=>match P.underlying t with|some (.slice _)=>K (.p (.int .i64 rows.length))|_=>none
 | .p .nilsl=>match P.underlying t with|some (.slice _)=>K (.p (.int .i64 0))|_=>none
 | _=>none
theorem qn2 {t:TypeId} {x:FV}:Ok1 (β:=β) (fun K=>qq6 P t x K) (fun R=>qpc P t x R):=by
 intro K z h;simp only[qq6]at h;split at h<;>first|cases h|(split at h<;>first|cases h|(rename_i hu; exact⟨_,h,fun R r=>by simp only[qpc,hu]; exact r⟩))
def ij (P:Program) (src dst:TypeId) (x:FV) (K:FV->Option β):Option β:=
 match x with
 | .p (.int _ n)=>match P.underlying src with
  | some (.int _)=>match P.underlying dst with
   | some (.int k)=>K (.p (.int k (k.wrap n)))
   | _=>none
  | _=>none
 | _=>none
theorem qan {s d:TypeId} {x:FV}:Ok1 (β:=β) (fun K=>ij P s d x K) (fun R=>Dq P s d x R):=by
 intro K z h;simp only[ij]at h;split at h<;>try cases h
 split at h<;>try cases h
 rename_i hu;split at h<;>try cases h
 rename_i a;exact⟨_,h,fun R r=>by simp only[Dq,hu,a]; exact r⟩
def qik (e:Nat->FV):Nat->List (Nat×Operand)->(List PV->Option β)->Option β
 | _,[],K=>K []
 | k,(i,x)::l,K=>xif (Nat.beq i k) (xv e x fun v=>qmi v fun p=>qik e (k+1) l fun a=>K (p::a))
theorem aY {E:Env} {g:G}:∀ {l:List (Nat×Operand)} {k:Nat},Ok1 (β:=β) (qik (qv E) k l) (NI E g k l)
 | [],k=>fun K z h=>⟨_,h,fun R r=>r⟩
 | (i,x)::l,k=>fun K z h=>by
  obtain⟨a,h⟩:=uw h;obtain⟨v,h,b⟩:=tl (g:=g) _ _ h;obtain⟨p,h,hp⟩:=qap _ _ h;obtain⟨l',h,c⟩:=aY (g:=g) (l:=l) (k:=k+1) _ _ h;exact⟨_,h,fun R r=>by simp only[NI,a]; exact b _ (hp _ (c _ r))⟩
def ie (P:Program) (e:Nat->FV) (t:TypeId) (n:Nat) (parts:List (Nat×Operand)) (K:FV->Option β):Option β:=
 qig P t fun a z=>xif (Nat.beq parts.length n&&Nat.ble 1 n&&Nat.ble 1 z&&Nat.ble (n * z) 16777216) (match P.info? a with
  | some i=>match i.zero with
   | some _=>qik e 0 parts fun b=>qob b fun rows=>xif (rows.all fun r=>Nat.beq r.length z&&r.all ah) (K (.p (.sl rows)))
   | none=>none
  | none=>none)
theorem qam {E:Env} {g:G} {t:TypeId} {n:Nat} {parts:List (Nat×Operand)}:Ok1 (β:=β) (fun K=>ie P (qv E) t n parts K) (fun R=>pa P E g t n parts R):=by
 intro K z h;simp only[ie]at h;obtain⟨a,m,h,f⟩:=iv h;obtain⟨b,h⟩:=uw h;simp only[ji]at b;split at h
 ·rename_i i
  split at h
  ·rename_i hz
   obtain⟨j,h,c⟩:=aY (g:=g) _ _ h;obtain⟨rows,h,hrows⟩:=qcl _ _ h;obtain⟨d,h⟩:=uw h;simp only[List.all_eq_true,ji]at d;refine⟨_,h,fun R r=>f _ ?_⟩
   simp only[b.1.1.1,b.1.1.2,b.1.2,b.2,i,hz];exact c _ (hrows _ ⟨fun r e=>⟨jm (d r e).1,by simpa using(d r e).2⟩,rows,.inl rfl,r⟩)
  cases h
 ·cases h
def qla (P:Program) (e:Nat->FV) (a:List Field):List (Nat×Operand)->List PV->(List PV->Option β)->Option β
 | [],cs,K=>K cs
 | (i,x)::l,cs,K=>qle i a fun f=>match P.info? f.type with
  | some ti=>xv e x fun v=>qmi v fun p=>iu p fun c=>xif (Nat.beq c.length ti.size) (Rv f.offset c cs fun cs=>qla P e a l cs K)
  | none=>none
theorem qci {E:Env} {g:G} {a:List Field}:∀ {l:List (Nat×Operand)} {cs:List PV},Ok1 (β:=β) (qla P (qv E) a l cs) (qe8 P E g a l cs)
 | [],k=>fun K z h=>⟨_,h,fun R r=>r⟩
 | (i,x)::l,k=>fun K z h=>by
  simp only[qla]at h;obtain⟨f,h,b⟩:=Pd _ _ h;split at h
  ·rename_i d
   obtain⟨v,h,e⟩:=tl (g:=g) _ _ h;obtain⟨p,h,hp⟩:=qap _ _ h;obtain⟨c,h,j⟩:=Sg _ _ h;obtain⟨m,h⟩:=uw h;obtain⟨o,h,n⟩:=Pf _ _ h;obtain⟨l',h,q⟩:=qci (g:=g) (l:=l) _ _ h;exact⟨_,h,fun R r=>b _ (by simp only[d]; exact e _ (hp _ (j _ (by simp only[m]; exact n _ (q _ r)))))⟩
  cases h
def qh3 (P:Program) (e:Nat->FV) (t:TypeId) (parts:List (Nat×Operand)) (K:FV->Option β):Option β:=
 match P.info? t with
 | some i=>match i.zero with
  | some (.agg ⟨vs⟩)=>qd0 vs fun a=>match P.underlying t with
   | some (.struct ⟨fs⟩)=>xif (RH P fs) (qla P e fs parts a fun cs=>K (.p (.agg cs)))
   | _=>none
  | _=>none
 | none=>none
theorem qh4 {E:Env} {g:G} {t:TypeId} {parts:List (Nat×Operand)}:Ok1 (β:=β) (fun K=>qh3 P (qv E) t parts K) (fun R=>lF P E g t parts R):=by
 intro K z h;simp only[qh3]at h;split at h<;>try cases h
 rename_i c;split at h<;>try cases h
 rename_i hz;obtain⟨e,h,a⟩:=LU _ _ h;split at h<;>try cases h
 rename_i hu;obtain⟨d,h⟩:=uw h;obtain⟨cs,h,b⟩:=qci (g:=g) _ _ h;exact⟨_,h,fun R r=>by simp only[lF,c,hz]; exact a _ (by simp only[hu,d]; exact b _ r)⟩
def Pb (e:Nat->FV):List (Nat×Operand)->Bool
 | []=>false
 | (_,x)::l=>match evF e x with
  | .mref _=>true
  | .ptr _ _=>true
  | .clo _ _=>true
  | .bsl _ _ _ _=>true
  | _=>Pb e l
theorem Sf {E:Env} {yes no:Prop}:∀ {l:List (Nat×Operand)},(Pb (qv E) l=true->yes)->(Pb (qv E) l=false->no)->Eu E l yes no
 | [],_,h=>h rfl
 | (i,x)::l,h1,h2=>by
  simp only[Eu,Zx];simp only[Pb]at h1 h2;generalize evF (qv E) x=f at *;cases f<;>first|exact h1 rfl|exact Sf h1 h2
end
end Ax
end
section
namespace Ax
open Go
section
variable {β:Type} {P:Program}
def qnz (cal:FuncId->List PV->Option PV) (f:FuncId) (args:List PV) (K:FV->Option β):Option β:=
 match cal f args with
 | some r=>K (.p r)
 | none=>none
abbrev qon (P:Program) (cal:FuncId->List PV->Option PV):Prop:=∀ f args r,cal f args=some r->qb P f args r
theorem qkv {cal:FuncId->List PV->Option PV} (kn:qon P cal) {f:FuncId} {args:List PV} {K:FV->Option β} {z:β} (h:qnz cal f args K=some z):∃ r,K (.p r)=some z/\qb P f args r:=by
 unfold qnz at h;split at h
 ·rename_i r a
  exact⟨r,h,kn _ _ _ a⟩
 cases h
def qqg (e:Nat->FV) (x:Operand) (K:Bool->Option β):Option β:=
 match evF e x with
 | .opt _ (.p (.bool b))=>K b
 | .p (.bool b)=>K b
 | _=>none
theorem iz {E:Env} {x:Operand} {K:Bool->Option β} {z:β} (h:qqg (qv E) x K=some z):∃ b,K b=some z/\∀ (g:G) (R:FV->Prop),¬ gOn g->R (.p (.bool b))->evS E g x R:=by
 unfold qqg at h;split at h
 ·rename_i d b a
  refine⟨b,h,fun g R c r=>?_⟩;unfold evS;rw[Zx,a];refine⟨?_,r⟩;cases g with
  | none=>exact absurd trivial c
  | some b=>exact fun h=>absurd h c
 ·rename_i b a
  exact⟨b,h,fun g R c r=>by unfold evS; rw[Zx,a]; exact r⟩
 cases h
def qkz (e:Nat->FV) (c a b:Operand) (K:FV->Option β):Option β:=xv e c fun c=>match c with
 | .p (.bool c)=>(match c with
  | true=>xv e a fun a=>match a with
   | .p (.bool a)=>qqg e b fun _=>K (.p (.bool a))
   | _=>none
  | false=>xv e b fun b=>match b with
   | .p (.bool b)=>qqg e a fun _=>K (.p (.bool b))
   | _=>none)
 | _=>none
theorem qk0 {E:Env} {g:G} (j:gOn g) {c a b:Operand}:Ok1 (β:=β) (qkz (qv E) c a b) (Xo P (.pick c a b) E g):=by
 intro K z h;unfold qkz at h;obtain⟨k,h,f⟩:=tl (g:=g) _ _ h;split at h<;>try cases h
 split at h
 ·cases g with
  | none=>
   obtain⟨i,h,d⟩:=tl (g:=some true) _ _ h;split at h<;>try cases h
   obtain⟨bv,h,e⟩:=iz h;exact⟨_,h,fun R r=>f _ (d _ (e _ _ (by simp[gOn]) r))⟩
  | some g=>
   obtain rfl:g=true:=j;obtain⟨i,h,d⟩:=tl (g:=some true) _ _ h;split at h<;>try cases h
   obtain⟨bv,h,e⟩:=iz h;exact⟨_,h,fun R r=>f _ (d _ (e _ _ (by simp[gOn]) r))⟩
 cases g with
 | none=>
  obtain⟨bv,h,e⟩:=tl (g:=some true) _ _ h;split at h<;>try cases h
  obtain⟨i,h,d⟩:=iz h;exact⟨_,h,fun R r=>f _ (d _ _ (by simp[gOn]) (e _ r))⟩
 | some g=>
  obtain rfl:g=true:=j;obtain⟨bv,h,e⟩:=tl (g:=some true) _ _ h;split at h<;>try cases h
  obtain⟨i,h,d⟩:=iz h;exact⟨_,h,fun R r=>f _ (d _ _ (by simp[gOn]) (e _ r))⟩
def qn0 (e:Nat->FV) (x:Operand) (i:Nat) (K:FV->Option β):Option β:=xv e x fun x=>match x with
  | .p (.tup vs)=>qle i vs fun v=>K (.p v)
  | _=>none
def qij (a:Bool) (e:Nat->FV) (x:Operand) (K:FV->Option β):Option β:=match a with
 | true=>K (evF e x)
 | false=>xv e x K
def qk1 (P:Program) (cal:FuncId->List PV->Option PV) (d:Bool) (op:Op) (e:Nat->FV) (K:FV->Option β):Option β:=
 match op with
 | .move x=>qij d e x K
 | .assign x=>qij d e x K
 | .pick c a b=>qkz e c a b K
 | .fieldAddr t x f=>xv e x fun x=>ik P t x f K
 | .indexAddr t x i=>xv e x fun x=>xv e i fun i=>il P t x i K
 | .index t x i=>xv e x fun x=>xv e i fun i=>qcb P t x i K
 | .binOp op t x y _=>xv e x fun x=>xv e y fun y=>qqf P op t x y K
 | .unOp .not _ x=>xv e x fun x=>match x with|.p (.bool b)=>K (.p (.bool (!b)))|_=>none
 | .nilCheck x=>xv e x fun x=>match x with
  | .ptr k off=>K (.ptr k off)
  | _=>none
 | .slice t x lo hi mx=>xv e x fun x=>qib P e t x lo hi mx K
 | .buildSlice t n ⟨parts⟩=>ie P e t n parts K
 | .build t ⟨parts⟩=>(match Pb e parts with|true=>none|false=>qh3 P e t parts K)
 | .extract x i=>qn0 e x i K
 | .call { callee:=.builtin .len,args:=⟨[x]⟩,argTypes:=⟨[t]⟩ }=>xv e x fun x=>qq6 P t x K
 | .call { callee:=.value (.func f),args:=⟨xs⟩,argTypes:=_ }=>
   xvL e xs fun vs=>qlb vs fun args=>qnz cal f args K
 | _=>none
def evM (E:Env) (g:G) (x:Operand) (R:FV->Prop):Prop:=match g with|none=>ev E x R|some g=>evS E (some g) x R
theorem qcj {E:Env} {g:G} {a:Bool} (b:a=true->g=none) {x:Operand}:Ok1 (β:=β) (qij a (qv E) x) (evM E g x)\/a=false/\g=none:=by
 cases a with
 | true=>
  obtain rfl:=b rfl;exact .inl fun K z h=>⟨_,h,fun R r=>by show ev E x R; rw[Zx]; exact r⟩
 | false=>
  cases g with
  | none=>exact .inr ⟨rfl,rfl⟩
  | some g=>exact .inl fun K z h=>tl (g:=some g) K z h
theorem qcd {cal:FuncId->List PV->Option PV} (kn:qon P cal) {op:Op} {E:Env} {g:G} {e:Bool} (f:gOn g) (b:e=true↔g=none):Ok1 (β:=β) (qk1 P cal e op (qv E)) (Xo P op E g):=by
 intro K z h;unfold qk1 at h;split at h
 ·rcases qcj (β:=β) (E:=E) (g:=g) b.1 with hm|⟨h1,h2⟩
  ·obtain⟨v,h,a⟩:=hm _ _ h
   exact⟨_,h,fun R r=>by have:=a _ r; cases g<;>exact this⟩
  rw[b.2 h2]at h1; cases h1
 ·rcases qcj (β:=β) (E:=E) (g:=g) b.1 with hm|⟨h1,h2⟩
  ·obtain⟨v,h,a⟩:=hm _ _ h
   exact⟨_,h,fun R r=>by have:=a _ r; cases g<;>exact this⟩
  rw[b.2 h2]at h1; cases h1
 ·exact qk0 f K z h
 ·obtain⟨v,h,a⟩:=tl (g:=g) _ _ h
  obtain⟨w,h,hw⟩:=qdw _ _ h;exact⟨_,h,fun R r=>by simp only[Xo]; exact a _ (hw _ r)⟩
 ·obtain⟨v,h,a⟩:=tl (g:=g) _ _ h
  obtain⟨u,h,hu⟩:=tl (g:=g) _ _ h;obtain⟨w,h,hw⟩:=qdx (g:=g) _ _ h;exact⟨_,h,fun R r=>by simp only[Xo]; exact a _ (hu _ (hw _ r))⟩
 ·obtain⟨v,h,a⟩:=tl (g:=g) _ _ h
  obtain⟨u,h,hu⟩:=tl (g:=g) _ _ h;obtain⟨w,h,hw⟩:=qh9 (g:=g) _ _ h;exact⟨_,h,fun R r=>by simp only[Xo]; exact a _ (hu _ (hw _ r))⟩
 ·obtain⟨v,h,a⟩:=tl (g:=g) _ _ h
  obtain⟨u,h,hu⟩:=tl (g:=g) _ _ h;obtain⟨w,h,hw⟩:=qny (g:=g) _ _ h;refine⟨_,h,fun R r=>?_⟩;have hw:=hw _ r;simp only[Xo];refine a _ (hu _ ?_);cases v with
  | p p=>cases p<;>first|exact hw|exact hw.elim
  | _=>exact hw.elim
 ·obtain⟨v,h,a⟩:=tl (g:=g) _ _ h
  split at h
  ·exact⟨_,h,fun R r=>by simp only[Xo]; exact a _ r⟩
  cases h
 ·obtain⟨v,h,a⟩:=tl (g:=g) _ _ h
  split at h
  ·exact⟨_,h,fun R r=>by simp only[Xo]; exact a _ r⟩
  cases h
 ·obtain⟨v,h,a⟩:=tl (g:=g) _ _ h
  obtain⟨w,h,hw⟩:=qic (g:=g) _ _ h;exact⟨_,h,fun R r=>by simp only[Xo]; exact a _ (hw _ r)⟩
 ·obtain⟨w,h,hw⟩:=qam (g:=g) _ _ h
  exact⟨_,h,fun R r=>by simp only[Xo]; exact hw _ r⟩
 ·split at h
  ·cases h
  rename_i i;obtain⟨w,h,hw⟩:=qh4 (g:=g) _ _ h;exact⟨_,h,fun R r=>by simp only[Xo]; exact Sf (fun h=>by rw[i]at h; cases h) (fun _=>hw _ r)⟩
 ·unfold qn0 at h
  obtain⟨v,h,a⟩:=tl (g:=g) _ _ h;split at h
  ·obtain⟨w,h,hw⟩:=Pd _ _ h
   exact⟨_,h,fun R r=>by simp only[Xo]; exact a _ (hw _ r)⟩
  cases h
 ·obtain⟨v,h,a⟩:=tl (g:=g) _ _ h
  obtain⟨w,h,hw⟩:=qn2 _ _ h;exact⟨_,h,fun R r=>by simp only[Xo]; exact a _ (hw _ r)⟩
 ·obtain⟨vs,h,c⟩:=aZ (g:=g) _ _ h
  obtain⟨l,h,d⟩:=iw _ _ h;obtain⟨r,h,j⟩:=qkv kn h;exact⟨_,h,fun R k=>by simp only[Xo]; exact c _ (d _ ⟨r,eZ j,k⟩)⟩
 cases h
end
end Ax
end
section
namespace Ax
open Go
section
variable {β:Type} {P:Program}
def qjs:List FV->Bool
 | .bself _::_=>false
 | _=>true
def qp3 (P:Program) (t:TypeId) (cs:List FV) (K:FV->Option β):Option β:=
 qil P t fun agg n=>match agg with
  | true=>qd3 n cs fun cs=>(match qqy cs with
   | true=>none
   | false=>qlb cs fun l=>K (.p (.agg l)))
  | false=>match cs with|c::_=>K c|[]=>none
def qia (P:Program) (t:TypeId) (a:Arr) (x:FV) (K:FV->Option β):Option β:=
 match x with
 | .ptr k off=>a.nth k fun o=>match o with
  | .box _ cells=>qdz off cells fun cs=>xif (qjs cs) (qp3 P t cs K)
  | _=>none
 | .hptr row=>qil P t fun agg n=>match agg with
  | true=>qd3 n row fun r=>K (.p (.agg r))
  | false=>match row with|c::_=>K (.p c)|[]=>none
 | _=>none
theorem iq {t:TypeId} {a:Arr} {x:FV}:Ok1 (β:=β) (qia P t a x) (fun R=>Vh P t a.toL x R/\∀ (no:Prop) (f:List AObj->Prop),no->RA x a.toL no f):=by
 intro K z h;unfold qia at h;split at h
 ·obtain⟨o,h,i⟩:=Arr.nth_ok h
  split at h
  ·obtain⟨cs,h,e⟩:=LS _ _ h
   obtain⟨m,h⟩:=uw h;have nb:∀ (no:Prop) (f:List AObj->Prop),no->RA (.ptr _ _) a.toL no f:=fun no f b=>cx i (e _ (by
    cases cs with
    | nil=>exact b
    | cons c cs=>cases c<;>first|exact b|cases m))
   obtain⟨p,n,h,d⟩:=iA h;split at h
   ·obtain⟨l,h,j⟩:=LW _ _ h
    split at h
    ·cases h
    rename_i g;obtain⟨q,h,k⟩:=iw _ _ h;exact⟨_,h,fun R r=>⟨cx i (e _ (d _ (j _ (by simp only[g]; exact k _ r)))),nb⟩⟩
   split at h
   ·exact⟨_,h,fun R r=>⟨cx i (e _ (d _ r)),nb⟩⟩
   cases h
  ·cases h
 ·obtain⟨p,n,h,d⟩:=iA h
  split at h
  ·obtain⟨l,h,j⟩:=LW _ _ h
   exact⟨_,h,fun R r=>⟨by simp only[Vh]; exact d _ (j _ r),fun no f b=>b⟩⟩
  split at h
  ·exact⟨_,h,fun R r=>⟨by simp only[Vh]; exact d _ r,fun no f b=>b⟩⟩
  cases h
 ·cases h
def qqh:List (List PV)->(List UInt8->Option β)->Option β
 | [],K=>K []
 | r::rs,K=>match r with
  | [.int .u8 (.ofNat n)]=>xif (Nat.blt n 256) (qqh rs fun l=>K (UInt8.ofNat n::l))
  | _=>none
theorem qim:∀ {rows:List (List PV)} {K:List UInt8->Option β} {z:β},qqh rows K=some z->∃ l,K l=some z/\rows=qT l
 | [],K,z,h=>⟨[],h,rfl⟩
 | r::rs,K,z,h=>by
  simp only[qqh]at h;split at h
  ·rename_i n
   obtain⟨b,h⟩:=uw h;obtain⟨l,h,a⟩:=qim h;have:n<256:=jh b;refine⟨_,h,?_⟩;simp only[qT,jk]at a ⊢;rw[a];congr 3;simp only[Int.ofNat_eq_natCast];congr 1;rw[UInt8.toNat_ofNat'];omega
  cases h
def qq9 (P:Program) (src dst:TypeId) (K:Option β):Option β:=
 match P.underlying src with
 | some (.slice e)=>match P.underlying e with
  | some (.int .u8)=>match P.underlying dst with
   | some .string=>K
   | _=>none
  | _=>none
 | _=>none
theorem qoc {src dst:TypeId} {K:Option β} {z:β} (h:qq9 P src dst K=some z):K=some z/\∀ R:Prop,R->u8T P src dst R:=by
 unfold qq9 at h;split at h<;>try (cases h; done)
 rename_i h1;split at h<;>try (cases h; done)
 rename_i h2;split at h<;>try (cases h; done)
 rename_i h3;exact⟨h,fun R r=>by simp only[u8T,h1,h2,h3]; exact r⟩
def qh5 (P:Program) (src dst:TypeId) (x:FV) (K:FV->Option β):Option β:=
 match x with
 | .p (.int k n)=>ij P src dst (.p (.int k n)) K
 | .tsl _ rows=>qq9 P src dst (qqh rows fun l=>K (.p (.str l)))
 | _=>none
theorem qh6 {g:G} {src dst:TypeId} {a:List AObj} {x:FV}:Ok1 (β:=β) (qh5 P src dst x) (Hs P g src dst a x):=by
 intro K z h;unfold qh5 at h;split at h
 ·exact qan _ _ h
 ·obtain⟨h,hu⟩:=qoc h
  obtain⟨l,h,b⟩:=qim h;exact⟨_,h,fun R r=>hu _ ⟨l,eZ b,r⟩⟩
 cases h
def aU (a:Arr) (o:AObj) (f:Nat->FV) (K:FV->Arr->Option β):Option β:=a.push o fun b=>K (f a.size) b
theorem DQ {a:Arr} {o:AObj} {f:Nat->FV} {K:FV->Arr->Option β} {z:β} (h:aU a o f K=some z):∃ c:Arr,K (f a.size) c=some z/\∀ R:FV->List AObj->Prop,R (f a.size) c.toL->CA a.toL 0 fun n=>Xr a.toL o fun lo=>R (f n) lo:=by
 obtain⟨c,h,e,_⟩:=Arr.push_ok h;refine⟨c,h,fun R r=>?_⟩;have l:∀ {α:Type} {l:List α} {n:Nat} {R:Nat->Prop},R (n+l.length)->CA l n R:=by
  intro α l
  induction l with
  | nil=>intro n R h; exact h
  | cons b l ih=>intro n R h; exact ih (by simpa[Nat.add_assoc,Nat.add_comm 1]using h)
 have s:∀ {α:Type} {l:List α} {x:α} {R:List α->Prop},R (l++[x])->Xr l x R:=by
  intro α l
  induction l with
  | nil=>intro x R h; exact h
  | cons b l ih=>intro x R h; exact ih h
 refine l (s ?_);rw[jx,Arr.len,← e];exact r
theorem EX {α:Type}:∀ {n:Nat} {l:List α} {x:α} {R:List α->Prop},n<l.length->R (l.set n x)->Bz n x l R
 | 0,[],_,_,h,_=>by simp at h
 | 0,a::l,x,R,_,r=>r
 | n+1,[],_,_,h,_=>by simp at h
 | n+1,a::l,x,R,h,r=>EX (n:=n) (l:=l) (R:=fun l=>R (a::l)) (by simpa using h) r
theorem Arr.put_K {a:Arr} {k:Nat} {o:AObj} {K:Arr->Option β} {z:β} (h:a.put k o K=some z):∃ b:Arr,K b=some z/\∀ R:List AObj->Prop,R b.toL->Bz k o a.toL R:=by
 obtain⟨b,h,e,c⟩:=Arr.put_ok h;exact⟨b,h,fun R r=>EX c (by rw[← e]; exact r)⟩
def qaq (x:FV) (K:List (List PV)->Option β):Option β:=
 match x with
 | .p (.sl rows)=>K rows
 | _=>none
theorem qd2 {x:FV}:Ok1 (β:=β) (qaq x) (RZ x):=by
 intro K z h;unfold qaq at h;split at h<;>first|exact⟨_,h,fun R r=>r⟩|cases h
def qeh (z:Nat) (rows:List (List PV)):Bool:=rows.all fun r=>Nat.beq r.length z
theorem ld {z:Nat} {rows:List (List PV)} (h:qeh z rows=true):∀ r∈rows,r.length=z:=fun r a=>jm (List.all_eq_true.1 h r a)
def qp8 (n b:Nat):Bool:=Nat.ble (n * b) 140737488355328&&Nat.ble n 9223372036854775807
theorem Tv {n b:Nat} (h:qp8 n b=true):n * b<=140737488355328/\n<=9223372036854775807:=by
 simp only[qp8,ji]at h;exact⟨jh h.1,jh h.2⟩
def qal (P:Program) (t:TypeId) (a:Arr) (s:FV) (news:List (List PV)) (K:FV->Arr->Option β):Option β:=
 qig P t fun e z=>match P.info? e with
  | some i=>match i.zero with
   | some zv=>match Nat.beq z 0 with
    | true=>none
    | false=>xif (Nat.beq zv.cells.size z) (match s with
     | .p .nilsl=>xif (qeh z news&&qp8 news.length i.bytes) (aU a (.tail e z news.length) (fun k=>.tsl k news) K)
     | .tsl k0 rows=>qq7 rows news fun b=>xif (qeh z b&&qp8 b.length i.bytes) (a.nth k0 fun o=>match o with
      | .tail e' z' n=>xif (Nat.beq e' e&&Nat.beq z' z&&Nat.beq n rows.length) (a.put k0 .dead fun a=>aU a (.tail e z b.length) (fun k=>.tsl k b) K)
      | _=>none)
     | _=>none)
   | none=>none
  | none=>none
def Tz (P:Program) (t:TypeId) (lo:List AObj) (s:FV) (news:List (List PV)) (R:FV->List AObj->Prop):Prop:=match s with
   | .vsl k0 _=>LG P t lo k0 news R
   | s=>GK P t fun e z=>match Nat.beq z 0 with
   | true=>False
   | false=>match P.info? e with
    | some i=>match i.zero with
     | some zv=>match Nat.beq zv.cells.size z with
      | true=>match s with
       | .p .nilsl=>((∀ r∈news,r.length=z)/\news.length * i.bytes<=140737488355328/\news.length<=9223372036854775807) /\
         CA lo 0 fun k=>Xr lo (.tail e z news.length) fun lo=>R (.tsl k news) lo
       | .tsl k0 rows=>((∀ r∈rows++news,r.length=z)/\(rows++news).length * i.bytes<=140737488355328/\(rows++news).length<=9223372036854775807) /\
         UK k0 lo fun o=>match o with
         | .tail e' z' n=>(e'=e/\z'=z/\n=rows.length) /\
           Bz k0 .dead lo fun lo=>CA lo 0 fun k=>Xr lo (.tail e z (rows++news).length) fun lo=>R (.tsl k (rows++news)) lo
         | _=>False
       | _=>False
      | false=>False
     | none=>False
    | none=>False
theorem qdv {t:TypeId} {a:Arr} {s:FV} {news:List (List PV)}:Ok2 (β:=β) (qal P t a s news) (Tz P t a.toL s news):=by
 intro K z h;unfold qal at h;obtain⟨e,m,h,he⟩:=iv h;split at h<;>try (cases h; done)
 rename_i i k;split at h<;>try (cases h; done)
 rename_i zv c;split at h
 ·cases h
 rename_i d;obtain⟨f,h⟩:=uw h;split at h
 ·obtain⟨b,h⟩:=uw h
  simp only[ji]at b;obtain⟨l,h,j⟩:=DQ h;refine⟨_,_,h,fun R r=>?_⟩;simp only[Tz];refine he _ ?_;simp only[d,k,c,f];exact⟨⟨ld b.1,(Tv b.2).1,(Tv b.2).2⟩,j _ r⟩
 ·have h:=qif h
  obtain⟨b,h⟩:=uw h;simp only[ji]at b;obtain⟨o,h,n⟩:=Arr.nth_ok h;split at h<;>try (cases h; done)
  obtain⟨g,h⟩:=uw h;simp only[ji]at g;obtain⟨a1,h,h1⟩:=Arr.put_K h;obtain⟨l,h,j⟩:=DQ h;refine⟨_,_,h,fun R r=>?_⟩;simp only[Tz];refine he _ ?_;simp only[d,k,c,f];exact⟨⟨ld b.1,(Tv b.2).1,(Tv b.2).2⟩,cx n ⟨⟨jm g.1.1,jm g.1.2,jm g.2⟩,h1 _ (j _ r)⟩⟩
 cases h
def qid (P:Program) (t:TypeId) (arr:Arr) (a x:FV) (K:FV->Arr->Option β):Option β:=
 match a with
 | .ptr k off=>qcg x fun vs=>xif (UJ vs) (qil P t fun _ m=>xif (Nat.beq vs.length m) (arr.nth k fun o=>match o with
  | .box bt cells=>Rv off vs cells fun cells=>arr.put k (.box bt cells) fun arr=>K (.p (.tup [])) arr
  | _=>none))
 | _=>none
def qmy (P:Program) (t:TypeId) (lo:List AObj) (a x:FV) (R:FV->List AObj->Prop):Prop:=match a with
  | .ptr k off=>XI x fun vs=>match UJ vs with
   | true=>CA vs 0 fun n=>VQ P t fun _ m=>match Nat.beq n m with
    | true=>UK k lo fun o=>match o with
     | .box bt cells=>VJ off vs cells fun cells=>Bz k (.box bt cells) lo fun lo=>R (.p (.tup [])) lo
     | _=>False
    | false=>False
   | false=>False
  | .eptr k z i off=>TD P t lo k z i off x R
  | _=>False
theorem EJ {α:Type} {l:List α}:∀ {n:Nat} {R:Nat->Prop},R (n+l.length)->CA l n R:=by
 induction l with
 | nil=>intro n R h; exact h
 | cons b l ih=>intro n R h; exact ih (by simpa[Nat.add_assoc,Nat.add_comm 1]using h)
theorem qie {t:TypeId} {arr:Arr} {a x:FV}:Ok2 (β:=β) (qid P t arr a x) (qmy P t arr.toL a x):=by
 intro K z h;unfold qid at h;split at h
 ·obtain⟨vs,h,b⟩:=aW _ _ h
  obtain⟨h1,h⟩:=uw h;obtain⟨f,m,h,hm⟩:=iA h;obtain⟨h2,h⟩:=uw h;obtain⟨o,h,d⟩:=Arr.nth_ok h;split at h<;>try (cases h; done)
  obtain⟨cs,h,c⟩:=Pe _ _ h;obtain⟨g,h,e⟩:=Arr.put_K h;refine⟨_,_,h,fun R r=>b _ ?_⟩
  simp only[h1];refine EJ (hm _ ?_);rw[jx];simp only[h2];exact cx d (c _ (e _ r))
 cases h
def qq5 (P:Program) (op:Op) (e:Nat->FV) (arr:Arr) (K:FV->Arr->Option β):Option β:=
 match op with
 | .box t x=>xv e x fun x=>qcg x fun cs=>xif (UJ cs) (aU arr (.box t cs) (fun n=>.ptr n 0) K)
 | .alloc t=>qod P t fun z=>qld z fun cs=>xif (UJ cs) (aU arr (.box t cs) (fun n=>.ptr n 0) K)
 | .store t a x=>xv e a fun a=>xv e x fun x=>qid P t arr a x K
 | .call { callee:=.builtin .append,args:=⟨[s,x]⟩,argTypes:=⟨[t,t']⟩ }=>xif (Nat.beq t t') (xv e s fun s=>xv e x fun x=>qaq x fun news=>qal P t arr s news K)
 | _=>none
theorem qh8 {op:Op} {E:Env} {arr:Arr}:Ok2 (β:=β) (qq5 P op (qv E) arr) (ow P op E arr.toL):=by
 intro K z h;unfold qq5 at h;split at h
 ·obtain⟨x,h,b⟩:=tl (g:=none) _ _ h
  obtain⟨cs,h,c⟩:=aW _ _ h;obtain⟨e,h⟩:=uw h;obtain⟨f,h,d⟩:=DQ h;refine⟨_,_,h,fun R r=>?_⟩;simp only[ow];exact b _ (c _ (by simp only[e]; exact d _ r))
 ·obtain⟨x,h,b⟩:=qlg _ _ h
  obtain⟨cs,h,c⟩:=ix _ _ h;obtain⟨e,h⟩:=uw h;obtain⟨f,h,d⟩:=DQ h;refine⟨_,_,h,fun R r=>?_⟩;simp only[ow];exact b _ (c _ (by simp only[e]; exact d _ r))
 ·obtain⟨a,h,d⟩:=tl (g:=none) _ _ h
  obtain⟨x,h,b⟩:=tl (g:=none) _ _ h;obtain⟨v,f,h,i⟩:=qie _ _ h;refine⟨_,_,h,fun R r=>?_⟩;simp only[ow];exact d _ (b _ (i _ r))
 ·obtain⟨j,h⟩:=uw h
  obtain⟨s,h,i⟩:=tl (g:=none) _ _ h;obtain⟨x,h,b⟩:=tl (g:=none) _ _ h;obtain⟨news,h,hnews⟩:=qd2 _ _ h;obtain⟨v,f,h,k⟩:=qdv _ _ h;refine⟨_,_,h,fun R r=>?_⟩;simp only[ow,j];exact i _ (b _ (hnews _ (k _ r)))
 cases h
end
end Ax
end
section
namespace Ax
open Go
section
variable {β:Type} {P:Program}
def iE (N:Nat) (d:Option Tmp) (v:FV) (a:Tr FV) (K:Tr FV->Option β):Option β:=
 match d with
 | none=>K a
 | some d=>xif (Nat.blt d N) (Sh v fun v=>Tr.putK 40 a d v K)
theorem Qp {N:Nat} {d:Option Tmp} {v:FV} {a:Tr FV} {K:Tr FV->Option β} {z:β} {E:Env} (b:qv E=xE a) (h:iE N d v a K=some z) :
  ∃ tr',K tr'=some z/\xE tr'=upd (xE a) d v/\(∀ t,d=some t->t<N)/\∀ R:Env->Prop,(∀ E',qv E'=xE tr'->R E')->putK N d v E R:=by
 unfold iE at h;split at h
 ·exact⟨a,h,rfl,(fun t e=>by cases e),fun R r=>r E b⟩
 rename_i d;obtain⟨c,h⟩:=uw h;have h:=DR h;obtain⟨tr',h,f⟩:=Tr.putK_ok h;refine⟨tr',h,qh7 f,fun t e=>by cases e; exact qox c,fun R r=>?_⟩
 simp only[putK,c];rw[Dm];exact r _ (by rw[bo,b,qh7 f])
def qih (all:List Oper) (o:Oper) (e:Nat->FV) (K:G->Option β):Option β:=
 match o.guard with
 | none=>K none
 | some (j,want)=>qle j all fun oj=>match oj.dst with
  | some d=>(match e d with
   | .p (.bool b)=>(match want with|true=>qao b fun b=>K (some b)|false=>qao (!b) fun b=>K (some b))
   | .opt g' (.p (.bool b))=>(match want with|true=>qao (g'&&b) fun b=>K (some b)|false=>qao (g'&&!b) fun b=>K (some b))
   | _=>none)
  | none=>none
theorem Pc {all:List Oper} {o:Oper} {E:Env} {K:G->Option β} {z:β} (h:qih all o (qv E) K=some z) :
  ∃ g,K g=some z/\fR all.toArray o (qv E) g/\(o.guard=none↔g=none)/\∀ R:G->Prop,R g->QX all o E R:=by
 unfold qih at h;split at h
 ·rename_i a
  exact⟨none,h,by simp[fR,a],by simp[a],fun R r=>by simp only[QX,a]; exact r⟩
 rename_i j l a;obtain⟨oj,h,e⟩:=iy h;have c:∀ R:Oper->Prop,R oj->UK j all R:=fun R r=>cx e r
 split at h<;>try (cases h; done)
 rename_i d i;split at h
 ·rename_i b f
  split at h
  ·have h:=Fz h
   refine⟨some b,h,?_,by simp[a],fun R r=>?_⟩
   ·simp only[fR,a]
    exact⟨oj,d,b,by simpa using e,i,.inl ⟨f,rfl⟩⟩
   simp only[QX,a];exact c _ (by simp only[i,sR,f]; exact r)
  have h:=Fz h;refine⟨some (!b),h,?_,by simp[a],fun R r=>?_⟩
  ·simp only[fR,a]
   exact⟨oj,d,b,by simpa using e,i,.inl ⟨f,rfl⟩⟩
  simp only[QX,a];exact c _ (by simp only[i,sR,f]; exact r)
 ·rename_i k b f
  split at h
  ·have h:=Fz h
   refine⟨some (k&&b),h,?_,by simp[a],fun R r=>?_⟩
   ·simp only[fR,a]
    exact⟨oj,d,b,by simpa using e,i,.inr ⟨k,f,rfl⟩⟩
   simp only[QX,a];exact c _ (by simp only[i,sR,f]; exact r)
  have h:=Fz h;refine⟨some (k&&!b),h,?_,by simp[a],fun R r=>?_⟩
  ·simp only[fR,a]
   exact⟨oj,d,b,by simpa using e,i,.inr ⟨k,f,rfl⟩⟩
  simp only[QX,a];exact c _ (by simp only[i,sR,f]; exact r)
 cases h
def qn9 (inl:List Nat) (m:Bool) (n0:Nat) (x:FV):Bool:=match m with
 | false=>true
 | true=>match x with
  | .ptr k _=>qng inl n0 k
  | .hptr _=>true
  | _=>false
def NZ (P:Program) (inl:List Nat) (N:Nat) (cal:FuncId->List PV->Option PV) (m:Bool) (n0:Nat) (o:Oper) (g:G) (a:Tr FV) (arr:Arr) (K:Tr FV->Arr->Option β):Option β:=
 match XM o.op with
 | true=>match o.op with
  | .load t x=>xv (xE a) x fun x=>xif (qn9 inl m n0 x) (qia P t arr x fun v=>iE N o.dst (mj g v) a fun a=>K a arr)
  | .convert s d x=>xif (!m) (xv (xE a) x fun x=>qh5 P s d x fun v=>iE N o.dst (mj g v) a fun a=>K a arr)
  | _=>none
 | false=>match QY o.op with
  | true=>(match g with
   | none=>qq5 P o.op (xE a) arr fun v arr=>iE N o.dst v a fun a=>K a arr
   | some _=>none)
  | false=>qk1 P cal (match g with|none=>true|some _=>false) o.op (xE a) fun v=>iE N o.dst (mj g v) a fun a=>K a arr
def Rx (a:Tr FV) (arr:Arr) (R:Env->List AObj->Prop):Prop:=∀ E',qv E'=xE a->R E' arr.toL
theorem Pa {inl:List Nat} {N:Nat} {cal:FuncId->List PV->Option PV} (kn:qon P cal) {n0:Nat} {all:List Oper} {o:Oper} {g:G} {A:Tr FV} {arr:Arr} {K:Tr FV->Arr->Option β} {z:β} {E:Env}
  (m:qv E=xE A) (B:gOn g) (c:∀ R:G->Prop,R g->QX all o E R) (h:NZ P inl N cal false n0 o g A arr K=some z) :
  ∃ tr' arr',K tr' arr'=some z/\∀ R,Rx tr' arr' R->BC P N all o E arr.toL R/\∀ t x,o.op=.load t x->∀ p,ev E x fun v=>RA v arr.toL (BC P N all o E arr.toL R) p:=by
 unfold NZ at h;rw[← m]at h;split at h
 ·rename_i k
  split at h
  ·rename_i t x b
   obtain⟨v,h,n⟩:=tl (g:=g) _ _ h;obtain⟨_,h⟩:=uw h;obtain⟨q,h,j⟩:=iq _ _ h;obtain⟨tr',h,_,_,hp⟩:=Qp m h;refine⟨tr',arr,h,fun R r=>?_⟩;have l:BC P N all o E arr.toL R:=by
    unfold BC;refine c _ ?_;simp only[k,b];exact n _ (j (fun v=>putK N o.dst (mj g v) E fun E=>R E arr.toL) (hp _ r)).1
   refine⟨l,fun w y e p=>?_⟩;rw[b]at e;cases e;rw[Zx];have C:=(j (fun v=>True) trivial).2 (BC P N all o E arr.toL R) p l
   have i:=n (fun u=>u=v) rfl
   unfold evS at i;rw[Zx]at i;generalize evF (qv E) x=f at *;cases f<;>first|exact l|(simp only at i; subst i; exact C)
  ·rename_i s d x b
   obtain⟨_,h⟩:=uw h;obtain⟨v,h,n⟩:=tl (g:=g) _ _ h;obtain⟨q,h,j⟩:=qh6 (g:=g) (a:=arr.toL) _ _ h;obtain⟨tr',h,_,_,hp⟩:=Qp m h;refine⟨tr',arr,h,fun R r=>⟨?_,fun w y e=>by rw[b]at e; cases e⟩⟩
   unfold BC;refine c _ ?_;simp only[k,b];exact n _ (j (fun v=>putK N o.dst (mj g v) E fun E=>R E arr.toL) (hp _ r))
  cases h
 ·rename_i k
  have nl:∀ t x,o.op≠.load t x:=fun t x e=>by rw[e]at k; cases k
  split at h
  ·rename_i he
   split at h
   ·obtain⟨q,arr',h,j⟩:=qh8 _ _ h
    obtain⟨tr',h,_,_,hp⟩:=Qp m h;refine⟨tr',arr',h,fun R r=>⟨?_,fun w y e=>absurd e (nl _ _)⟩⟩
    unfold BC;refine c _ ?_;simp only[k,he];exact j (fun v lo=>putK N o.dst v E fun E=>R E lo) (hp _ r)
   cases h
  ·rename_i he
   obtain⟨q,h,j⟩:=qcd kn (g:=g) B (by cases g<;>simp) _ _ h;obtain⟨tr',h,_,_,hp⟩:=Qp m h;refine⟨tr',arr,h,fun R r=>⟨?_,fun w y e=>absurd e (nl _ _)⟩⟩
   unfold BC;refine c _ ?_;simp only[k,he];exact j (fun v=>putK N o.dst (mj g v) E fun E=>R E arr.toL) (hp _ r)
theorem qdy {inl:List Nat} {N:Nat} {cal:FuncId->List PV->Option PV} (kn:qon P cal) {m:Bool} {n0:Nat} {all:List Oper} {o:Oper} {g:G} {i:Tr FV} {arr:Arr} {K:Tr FV->Arr->Option β} {z:β} {E:Env}
  (c:qv E=xE i) (j:gOn g) (a:∀ R:G->Prop,R g->QX all o E R) (h:NZ P inl N cal m n0 o g i arr K=some z) :
  ∃ tr' arr',K tr' arr'=some z/\∀ R,Rx tr' arr' R->DN P inl m n0 N all o E arr.toL R:=by
 cases m with
 | false=>
  obtain⟨tr',arr',h,n⟩:=Pa kn c j a h;exact⟨tr',arr',h,fun R r=>(n R r).1⟩
 | true=>
 simp only[DN];unfold NZ at h;rw[← c]at h;split at h
 ·rename_i e
  split at h
  ·rename_i t x f
   obtain⟨v,h,p⟩:=tl (g:=g) _ _ h;obtain⟨b,h⟩:=uw h;obtain⟨k,h,d⟩:=iq _ _ h;obtain⟨tr',h,_,_,hp⟩:=Qp c h;refine⟨tr',arr,h,fun R r=>?_⟩;unfold qds;refine a _ ?_;simp only[e,f];refine p _ ?_;have l:=(d (fun v=>putK N o.dst (mj g v) E fun E=>R E arr.toL) (hp _ r)).1
   cases v<;>simp only[qn9]at b<;>try (cases b; done)
   ·simp only[qfz,b]; exact l
   exact l
  ·obtain⟨hm,h⟩:=uw h
   cases hm
  ·cases h
 rename_i e;split at h
 ·rename_i he
  split at h
  ·obtain⟨k,arr',h,d⟩:=qh8 _ _ h
   obtain⟨tr',h,_,_,hp⟩:=Qp c h;refine⟨tr',arr',h,fun R r=>?_⟩;unfold qds;refine a _ ?_;simp only[e,he];exact d (fun v lo=>putK N o.dst v E fun E=>R E lo) (hp _ r)
  cases h
 ·rename_i he
  obtain⟨k,h,d⟩:=qcd kn (g:=g) j (by cases g<;>simp) _ _ h;obtain⟨tr',h,_,_,hp⟩:=Qp c h;refine⟨tr',arr,h,fun R r=>?_⟩;unfold qds;refine a _ ?_;simp only[e,he];exact d (fun v=>putK N o.dst (mj g v) E fun E=>R E arr.toL) (hp _ r)
def qky (inl:List Nat) (d:Option Tmp) (op:Op):Bool:=match op with
 | .makeSlice _ _ _=>false
 | .call { callee:=.builtin .copy,args:=⟨[_,_]⟩,argTypes:=⟨[_,_]⟩ }=>false
 | .box _ _=>!eh inl d
 | _=>true
theorem qcc {inl:List Nat} {d:Option Tmp} {op:Op} {E:Env} {lo:List AObj} (h:qky inl d op=true) {no:Prop} {R:FV->List AObj->Prop} (r:no):Nw P inl d op E lo no R:=by
 unfold qky at h;split at h
 ·cases h
 ·cases h
 ·simp only[Bool.not_eq_true']at h
  simp only[Nw,h];exact r
 rename_i a b c;unfold Nw;split
 ·exact(a _ _ _ rfl).elim
 ·exact(b _ _ _ _ rfl).elim
 ·exact(c _ _ rfl).elim
 exact r
theorem qad {α:Type} {l:List α}:∀ {x:α} {R:List α->Prop},R (l++[x])->Xr l x R:=by
 induction l with
 | nil=>intro x R h; exact h
 | cons b l ih=>intro x R h; exact ih h
end
end Ax
end
