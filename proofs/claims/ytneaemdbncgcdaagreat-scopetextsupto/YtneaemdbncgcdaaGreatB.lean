/- A part of the proof: the abstract execution. -/
import Derived.Deep.LoopGhost
import Derived.Laws.Externs
import Derived.Lib.Builder
import Derived.Shelf.Strings.Builder1
import Derived.ChangeArms
import Derived.DataElems
import Derived.DataReads
import Derived.Carry
import Derived.ChangeSame
import Derived.ProofKit
import Derived.WalkKit
import Derived.OpenShut
import Derived.Test.YtneaemdbncgcdaaGreatShelf
import Derived.Test.YtneaemdbncgcdaaGreatA
set_option linter.unusedVariables false
set_option linter.unusedSimpArgs false
set_option linter.unnecessarySimpa false
set_option linter.deprecated false
set_option linter.unusedSectionVars false
set_option linter.constructorNameAsVariable false
section
namespace Ax
open Go
def upd (e:Nat->FV) (d:Option Tmp) (v:FV):Nat->FV:=
 match d with
 | none=>e
 | some d=>fun t=>if t=d then v else e t
theorem zgp (d:Tmp) (v:FV) (E:Env):qb7 ((d,v)::E)=upd (qb7 E) (some d) v:=by
 funext t
 simp only[qb7,upd]
 by_cases h:t=d
 ·subst h; simp[Nat.beq_refl]
 ·have:Nat.beq t d=false:=by
   cases hb:Nat.beq t d with
   | false=>rfl
   | true=>exact absurd (Nat.eq_of_beq_eq_true hb) h
  simp[this,h]
def qr8 (ops:Array Oper) (o:Oper) (e:Nat->FV) (g:G):Prop:=
 match o.guard with
 | none=>g=none
 | some (j,want)=>∃ oj d b,ops[j]? =some oj/\oj.dst=some d /\
   ((e d=.p (.bool b)/\g=some (match want with|true=>b|false=>!b)) \/
    ∃ g',e d=.opt g' (.p (.bool b))/\g=some (match want with|true=>g'&&b|false=>g'&&!b))
def qwz (P:Program) (sl:List Nat) (m:Bool) (n0:Nat) (o:Oper) (e:Nat->FV) (lo:List AObj) (g:G) (fv:FV):Prop:=
 qk2 P o e lo g fv lo/\(m=true->∃ kk:Option (Nat×AObj),(∀ k ob,kk=some (k,ob)->zoy sl n0 k=true/\ob.boxy=true/\lo[k]? =some ob)/\∀ lo2,(∀ k ob,kk=some (k,ob)->lo2[k]? =some ob)->qk2 P o e lo2 g fv lo2)
def zht (sl:List Nat) (m:Bool) (n0:Nat) (o:Oper) (lo lo':List AObj):Prop:=
 m=true->n0<=lo.length->n0<=lo'.length/\(zcw sl o=true->∀ k ob,zoy sl n0 k=true->ob.boxy=true->(lo[k]? =some ob↔lo'[k]? =some ob))
theorem zkd {sl:List Nat} {n0 k:Nat} (h:zoy sl n0 k=true):k<n0/\zaz sl (60000000+1000 * n0+k)=false:=by
 unfold zoy at h
 split at h
 ·rename_i hb
  split at h
  ·cases h
  ·rename_i hm; exact⟨Nat.le_of_ble_eq_true hb,hm⟩
 ·cases h
theorem qg4.ok {sl:List Nat} {m:Bool} {n0:Nat} {o:Oper} {lo lo':List AObj} (hst:m=true->qv5 sl o=false) (h:qg4 (zeu o.op) lo lo'):zht sl m n0 o lo lo':=fun hmm hn=>⟨Nat.le_trans hn h.1,fun hm k ob hk hb=>by
 simp only[zcw,hst hmm,Bool.or_false]at hm
 exact h.2 hm k ob (Nat.lt_of_lt_of_le (zkd hk).1 hn) hb⟩
def quz (P:Program) (inl sl:List Nat) (m:Bool) (n0 N:Nat) (ops:Array Oper) (o:Oper) (e:Nat->FV) (lo:List AObj) (e':Nat->FV) (lo':List AObj):Prop:=
 ∃ g fv,qr8 ops o e g/\(∀ d,o.dst=some d->d<N)/\e'=upd e o.dst (quc g fv) /\
  ((qqv inl o=true/\g=none/\qk2 P o e lo none fv lo'/\zht sl m n0 o lo lo') \/
   (qqv inl o=false/\q6e o.op=true/\lo'=lo/\qwz P sl m n0 o e lo g fv) \/
   (qqv inl o=false/\q6e o.op=false/\lo'=lo/\∀ lo,qk2 P o e lo g fv lo))
theorem qxn (o:Oper):qqv [] o=qw4 o.op:=by
 unfold qqv
 split
 ·rename_i h; simp[h,zaz,qw4]
 ·rename_i h; simp[h,zqj,zaz,qw4]
 ·rename_i h
  simp only[h,zna,qw4]
  split<;>simp[zaz]
 ·rename_i h
  simp only[h,zna,qw4]
  split<;>simp[zaz]
 ·rfl
theorem qz3 {ops:List Oper} {o:Oper} {E:Env} {R:G->Prop} (h:zce ops o E R):∃ g,qr8 ops.toArray o (qb7 E) g/\R g:=by
 unfold zce at h
 unfold qr8
 split at h
 ·rename_i hg
  exact⟨none,by simp[hg],h⟩
 ·rename_i j want hg
  obtain⟨oj,hoj,h⟩:=qdt h
  split at h
  ·rename_i d hd
   rw[qw7]at h
   split at h
   ·rename_i b he
    cases want with
    | true=>exact⟨_,by simp only[hg]; exact⟨oj,d,b,by simpa using hoj,hd,.inl ⟨he,rfl⟩⟩,h⟩
    | false=>exact⟨_,by simp only[hg]; exact⟨oj,d,b,by simpa using hoj,hd,.inl ⟨he,rfl⟩⟩,h⟩
   ·rename_i g' b he
    cases want with
    | true=>exact⟨_,by simp only[hg]; exact⟨oj,d,b,by simpa using hoj,hd,.inr ⟨g',he,rfl⟩⟩,h⟩
    | false=>exact⟨_,by simp only[hg]; exact⟨oj,d,b,by simpa using hoj,hd,.inr ⟨g',he,rfl⟩⟩,h⟩
   ·exact h.elim
  ·exact h.elim
theorem qha {N:Nat} {d:Option Tmp} {v:FV} {E:Env} {R:Env->Prop} (h:qy7 N d v E R) :
  (∀ t,d=some t->t<N)/\∃ E',qb7 E'=upd (qb7 E) d v/\R E':=by
 unfold qy7 at h
 split at h
 ·rename_i t
  split at h
  ·rename_i hb
   rw[zcb]at h
   refine⟨fun t' ht=>?_,_,zgp t v E,h⟩
   cases ht
   exact Nat.le_of_ble_eq_true hb
  ·exact h.elim
 ·exact⟨fun t ht=>(by cases ht),E,rfl,h⟩
theorem q6h {P:Program} {o:Oper} {t:TypeId} {x i:Operand} {ok:Bool} (ho:o.op=.lookup t x i ok) {E:Env} {g:G} {lo:List AObj} {x' i':FV} (hx':Str g (evF (qb7 E) x) x') (hi':Str g (evF (qb7 E) i) i') {R:FV->Prop} (h:qvk P g t lo x' i' ok R) :
  ∃ fv,R fv/\qk2 P o (qb7 E) lo g fv lo:=by
 obtain⟨fv,h,_,hs⟩:=zcl h
 refine⟨_,h,fun hg bs ρ H w eval s hx=>?_⟩
 obtain⟨v,hr,rv⟩:=hs hg bs ρ H w _ _ s (hx' ρ H _ hg (hx x (by simp[ho,Op.operands]))) (hi' ρ H _ hg (hx i (by simp[ho,Op.operands])))
 simp only[execOp,ho]
 exact qcz s hr rv
theorem zdk {P:Program} {N:Nat} {all:List Oper} {o:Oper} {E:Env} {lo:List AObj} {R:Env->List AObj->Prop} (h:zg6 P N all o E lo R) :
  ∃ E' lo',quz P [] [] false 0 N all.toArray o (qb7 E) lo (qb7 E') lo'/\R E' lo':=by
 unfold zg6 at h
 unfold quz
 simp only[qxn]
 obtain⟨g,hg,h⟩:=qz3 h
 split at h
 ·rename_i hl
  have he:qw4 o.op=false:=by
   cases hop:o.op<;>simp[hop,q6e]at hl<;>rfl
  have fin:∀ {fv:FV},qk2 P o (qb7 E) lo g fv lo->qwz P [] false 0 o (qb7 E) lo g fv:=fun h=>⟨h,fun h=>by cases h⟩
  split at h
  ·rename_i t x ho
   obtain⟨fv,h,hs⟩:=zei ho h
   obtain⟨hd,E',hE,h⟩:=qha h
   exact⟨E',lo,⟨g,fv,hg,hd,hE,.inr (.inl ⟨he,hl,rfl,fin hs⟩)⟩,h⟩
  ·rename_i sr d x ho
   obtain⟨fv,h,hs⟩:=zed ho h
   obtain⟨hd,E',hE,h⟩:=qha h
   exact⟨E',lo,⟨g,fv,hg,hd,hE,.inr (.inl ⟨he,hl,rfl,fin hs⟩)⟩,h⟩
  ·rename_i t x i ok ho
   obtain⟨x',h,hx'⟩:=qbm h
   obtain⟨i',h,hi'⟩:=qbm h
   obtain⟨fv,h,hs⟩:=q6h ho hx' hi' h
   obtain⟨hd,E',hE,h⟩:=qha h
   exact⟨E',lo,⟨g,fv,hg,hd,hE,.inr (.inl ⟨he,hl,rfl,fin hs⟩)⟩,h⟩
  ·exact h.elim
 ·rename_i hl
  split at h
  ·rename_i he
   split at h
   ·obtain⟨fv,lo',h,hr,hs⟩:=q2k h
    obtain⟨hd,E',hE,h⟩:=qha h
    exact⟨E',lo',⟨none,fv,hg,hd,hE,.inl ⟨he,rfl,hs,hr.ok (fun h=>by cases h)⟩⟩,h⟩
   ·exact h.elim
  ·rename_i he
   obtain⟨fv,h,hs⟩:=q6j h
   obtain⟨hd,E',hE,h⟩:=qha h
   exact⟨E',lo,⟨g,fv,hg,hd,hE,.inr (.inr ⟨he,hl,rfl,hs⟩)⟩,h⟩
def zm4 (P:Program) (sl:List Nat) (t:TypeId) (lo:List AObj) (n0:Nat) (x:FV) (R:FV->Prop):Prop:=
 match x with
 | .ptr k off=>match zoy sl n0 k with
  | true=>qw5 P t lo (.ptr k off) R
  | false=>False
 | .hptr row=>qw5 P t [] (.hptr row) R
 | _=>False
def zfs (P:Program) (sl:List Nat) (g:G) (t:TypeId) (lo:List AObj) (n0:Nat) (x key:FV) (ok:Bool) (R:FV->Prop):Prop:=
 match x with
 | .mref k=>match zoy sl n0 k with
  | true=>qvk P g t lo (.mref k) key ok R
  | false=>False
 | _=>False
def zm2 (P:Program) (g:G) (src dst:TypeId) (x:FV) (R:FV->Prop):Prop:=
 match x with
 | .p p=>q6f P g src dst [] (.p p) R
 | .tsl k rows=>q6f P g src dst [] (.tsl k rows) R
 | _=>False
def zos (P:Program) (sl:List Nat) (n0 N:Nat) (all:List Oper) (o:Oper) (E:Env) (lo:List AObj) (R:Env->List AObj->Prop):Prop:=
 zce all o E fun g=>
  match q6e o.op with
  | true=>match o.op with
   | .load t x=>evS E g x fun x=>zm4 P sl t lo n0 x fun v=>qy7 N o.dst (quc g v) E fun E=>R E lo
   | .convert s d x=>evS E g x fun x=>zm2 P g s d x fun v=>qy7 N o.dst (quc g v) E fun E=>R E lo
   | .lookup t x i ok=>evS E g x fun x=>evS E g i fun i=>zfs P sl g t lo n0 x i ok fun v=>qy7 N o.dst (quc g v) E fun E=>R E lo
   | _=>False
  | false=>match qw4 o.op with
   | true=>match g with
    | none=>zm3 P o.op E lo fun v lo=>qy7 N o.dst v E fun E=>R E lo
    | some _=>False
   | false=>zlp P o.op E g fun v=>qy7 N o.dst (quc g v) E fun E=>R E lo
theorem qxs {α:Type}:∀ {n:Nat} {l:List α} {a:α} {R:α->Prop},l[n]? =some a->R a->qy6 n l R
 | 0,[],a,R,h,_=>by simp at h
 | 0,b::l,a,R,h,hr=>by simp at h; subst h; exact hr
 | n+1,[],a,R,h,_=>by simp at h
 | n+1,b::l,a,R,h,hr=>qxs (n:=n) (l:=l) (by simpa using h) hr
theorem zje {P:Program} {t:TypeId} {lo:List AObj} {k off:Nat} {R:FV->Prop} (h:qw5 P t lo (.ptr k off) R) :
  ∃ fv ob,R fv/\lo[k]? =some ob/\ob.boxy=true/\∀ lo2:List AObj,lo2[k]? =some ob->qw5 P t lo2 (.ptr k off) (fun v=>v=fv):=by
 unfold qw5 at h
 obtain⟨ob,hob,h⟩:=qdt h
 split at h
 ·rename_i bt cells
  obtain⟨h,hoff⟩:=qpu h
  obtain⟨d,i,hd,hi,h⟩:=ql7 h
  have dropI:∀ {n:Nat} {l:List FV} {R:List FV->Prop},n<=l.length->R (l.drop n)->q4h n l R:=by
   intro n
   induction n with
   | zero=>intro l R _ h; simpa[q4h]using h
   | succ n ih=>
    intro l R hl h
    cases l with
    | nil=>simp at hl
    | cons a l=>exact ih (by simpa using hl) (by simpa using h)
  have takeI:∀ {n:Nat} {l:List FV} {R:List FV->Prop},n<=l.length->R (l.take n)->q2y n l R:=by
   intro n
   induction n with
   | zero=>intro l R _ h; simpa[q2y]using h
   | succ n ih=>
    intro l R hl h
    cases l with
    | nil=>simp at hl
    | cons a l=>exact ih (l:=l) (R:=fun l=>R (a::l)) (by simpa using hl) (by simpa using h)
  have frzI:∀ {l:List FV} {R:List PV->Prop},zhn l R->∃ ps,R ps/\∀ R',R' ps->zhn l R':=by
   intro l
   induction l with
   | nil=>intro R h; exact⟨[],h,fun R' h=>h⟩
   | cons v l ih=>
    intro R h
    simp only[zhn]at h
    unfold zir at h
    split at h
    ·rename_i p
     obtain⟨ps,h,hp⟩:=ih h
     exact⟨_,h,fun R' h'=>hp _ h'⟩
    ·rename_i kk rows
     obtain⟨ps,h,hp⟩:=ih h
     exact⟨_,h,fun R' h'=>hp _ h'⟩
    ·exact h.elim
  have typeI:∀ {R:Bool->Nat->Prop},R (znh d) i.size->qvv P t R:=by
   intro R h
   unfold qvv
   simp only[hd,hi]
   exact h
  split at h
  ·rename_i hagg
   obtain⟨h,hn⟩:=qp0 h
   obtain⟨ps,h,hps⟩:=frzI h
   refine⟨_,_,h,hob,rfl,fun lo2 h2=>?_⟩
   unfold qw5
   refine qxs h2 (dropI hoff (typeI ?_))
   rw[hagg]
   exact takeI hn (hps _ rfl)
  ·rename_i hagg
   split at h
   ·rename_i c r hc
    refine⟨_,_,h,hob,rfl,fun lo2 h2=>?_⟩
    unfold qw5
    refine qxs h2 (dropI hoff (typeI ?_))
    rw[hagg]
    simp only[hc]
   ·exact h.elim
 ·exact h.elim
theorem zej {P:Program} {g:G} {t:TypeId} {lo:List AObj} {k:Nat} {key:FV} {ok:Bool} {R:FV->Prop} (h:qvk P g t lo (.mref k) key ok R) :
  ∃ fv ob,R fv/\lo[k]? =some ob/\ob.boxy=true/\∀ lo2:List AObj,lo2[k]? =some ob->qvk P g t lo2 (.mref k) key ok (fun v=>v=fv):=by
 cases key<;>simp only[qvk]at h
 rename_i kp
 obtain⟨ob,hob,h⟩:=qdt h
 split at h
 ·rename_i d es mk
  have mapI:∀ {R:TypeId->Prop},zm8 P t d kp R->∃ et,R et/\∀ R':TypeId->Prop,R' et->zm8 P t d kp R':=by
   intro R h
   unfold zm8 at h
   split at h
   ·rename_i kt et ht
    split at h
    ·rename_i d' hd
     have keyI:∀ {R:Prop},zen d' d kp R->R/\∀ R':Prop,R'->zen d' d kp R':=by
      intro R h
      unfold zen at h
      split at h
      ·exact⟨h,fun R' h'=>h'⟩
      ·exact⟨h,fun R' h'=>h'⟩
      ·split at h
       ·rename_i h1
        split at h
        ·rename_i h2
         refine⟨h,fun R' h'=>?_⟩
         simp only[zen,h1,h2]
         exact h'
        ·exact h.elim
       ·exact h.elim
      ·exact h.elim
     obtain⟨h,hk⟩:=keyI h
     refine⟨et,h,fun R' h'=>?_⟩
     unfold zm8
     simp only[ht,hd]
     exact hk _ h'
    ·exact h.elim
   ·exact h.elim
  have zeroI:∀ {et:TypeId} {R:PV->Prop},zdo P et R->∃ z,R z/\∀ R':PV->Prop,R' z->zdo P et R':=by
   intro et R h
   have vsI:∀ {vs:List Value} {R:List PV->Prop},zhp vs R->∃ ps,R ps/\∀ R':List PV->Prop,R' ps->zhp vs R':=by
    intro vs
    induction vs with
    | nil=>intro R h; exact⟨[],h,fun R' h=>h⟩
    | cons v vs ih=>
     intro R h
     simp only[zhp]at h
     split at h
     ·rename_i p hp
      obtain⟨ps,h,hps⟩:=ih h
      refine⟨_,h,fun R' h'=>?_⟩
      simp only[zhp,hp]
      exact hps _ h'
     ·exact h.elim
   unfold zdo at h
   split at h
   ·rename_i i hi
    split at h
    ·rename_i vs hz
     obtain⟨ps,h,hps⟩:=vsI h
     refine⟨_,h,fun R' h'=>?_⟩
     unfold zdo
     simp only[hi,hz]
     exact hps _ h'
    ·rename_i v hne hz
     split at h
     ·rename_i p hp
      refine⟨_,h,fun R' h'=>?_⟩
      unfold zdo
      simp only[hi,hz,hp]
      exact h'
     ·exact h.elim
    ·exact h.elim
   ·exact h.elim
  obtain⟨et,h,h1⟩:=mapI h
  obtain⟨z,h,h2⟩:=zeroI h
  obtain⟨v,b,hvb,h⟩:=h
  refine⟨_,_,h,hob,rfl,fun lo2 h3=>?_⟩
  simp only[qvk]
  exact qxs h3 (h1 _ (h2 _ ⟨v,b,hvb,rfl⟩))
 ·exact h.elim
theorem zc3 {α:Type} {R R':α->Prop} (h:∀ a,R a->R' a):∀ {n:Nat} {l:List α},qy6 n l R->qy6 n l R'
 | 0,[],x=>x
 | 0,a::_,x=>h a x
 | n+1,[],x=>x
 | n+1,_::l,x=>zc3 h (n:=n) (l:=l) x
theorem zdi {α:Type}:∀ {n:Nat} {x:α} {l:List α} {R R':List α->Prop},(∀ a,R a->R' a)->q4u n x l R->q4u n x l R'
 | 0,x,[],_,_,_,y=>y
 | 0,x,_::l,_,_,h,y=>h _ y
 | n+1,x,[],_,_,_,y=>y
 | n+1,x,a::l,R,R',h,y=>zdi (n:=n) (x:=x) (l:=l) (R:=fun l=>R (a::l)) (R':=fun l=>R' (a::l)) (fun _=>h _) y
theorem zf5 {α:Type}:∀ {n:Nat} {x:α} {l:List α} {R:List α->Prop},q4u n x l R->q4u n x l (fun l'=>R l'/\l'.length=l.length/\∀ j,j≠n->l'[j]? =l[j]?)
 | 0,x,[],_,h=>h
 | 0,x,_::l,_,h=>⟨h,by simp,fun j hj=>by cases j with|zero=>exact absurd rfl hj|succ j=>simp⟩
 | n+1,x,[],_,h=>h
 | n+1,x,a::l,R,h=>by
  have h1:q4u n x l (fun l=>R (a::l)):=h
  refine zdi (n:=n) (x:=x) (l:=l) (R':=fun l'=>R (a::l')/\(a::l').length=(a::l).length/\∀ j,j≠n+1->(a::l')[j]? =(a::l)[j]?) ?_ (zf5 h1)
  rintro l' ⟨hr,hl,hj⟩
  refine⟨hr,by simp[hl],fun j hne=>?_⟩
  cases j with
  | zero=>simp
  | succ j=>simpa using hj j (by omega)
theorem qxt:∀ {off:Nat} {vs old:List FV} {R R':List FV->Prop},(∀ a,R a->R' a)->qxc off vs old R->qxc off vs old R'
 | 0,[],old,_,_,h,y=>by cases old<;>exact h _ y
 | 0,v::vs,[],_,_,_,y=>y
 | 0,v::vs,_::old,R,R',h,y=>qxt (off:=0) (vs:=vs) (old:=old) (R:=fun l=>R (v::l)) (R':=fun l=>R' (v::l)) (fun _=>h _) y
 | n+1,vs,[],_,_,_,y=>by cases vs<;>exact y
 | n+1,vs,a::old,R,R',h,y=>by
  cases vs with
  | nil=>exact qxt (off:=n) (vs:=[]) (old:=old) (R:=fun l=>R (a::l)) (R':=fun l=>R' (a::l)) (fun _=>h _) y
  | cons v vs=>exact qxt (off:=n) (vs:=v::vs) (old:=old) (R:=fun l=>R (a::l)) (R':=fun l=>R' (a::l)) (fun _=>h _) y
theorem zct:∀ {cs:List PV} {R R':List FV->Prop},(∀ a,R a->R' a)->zm9 cs R->zm9 cs R'
 | [],_,_,h,y=>h _ y
 | c::cs,R,R',h,y=>zct (cs:=cs) (R:=fun l=>R (.p c::l)) (R':=fun l=>R' (.p c::l)) (fun _=>h _) y
theorem q54:∀ {c:FV} {R R':List FV->Prop},(∀ a,R a->R' a)->q02 c R->q02 c R'
 | .cap0,_,_,h,y=>h _ y
 | .cap a b,R,R',h,y=>q54 (c:=b) (R:=fun l=>R (a::l)) (R':=fun l=>R' (a::l)) (fun _=>h _) y
 | .top,_,_,_,y|.p _,_,_,_,y|.opt ..,_,_,_,y|.tsl ..,_,_,_,y|.ptr ..,_,_,_,y|.hptr _,_,_,_,y|.bself _,_,_,_,y|.bsl ..,_,_,_,y|.vsl ..,_,_,_,y|.eptr ..,_,_,_,y|.mref _,_,_,_,y|.pair ..,_,_,_,y|.stmp _,_,_,_,y|.clo ..,_,_,_,y|.fagg _,_,_,_,y|.nxt ..,_,_,_,y=>by simp[q02]at y
theorem zd6 {v:FV} {R R':List FV->Prop} (h:∀ a,R a->R' a) (y:qy2 v R):qy2 v R':=by
 unfold qy2 at *
 split at y
 ·exact zct h y
 ·exact q54 h y
 ·split at y
  ·exact h _ y
  ·exact y.elim
theorem zcp {α:Type}:∀ {l:List α} {n:Nat} {R R':Nat->Prop},(∀ a,R a->R' a)->q4r l n R->q4r l n R'
 | [],n,_,_,h,y=>h _ y
 | _::l,n,R,R',h,y=>zcp (l:=l) (n:=n+1) h y
theorem zg5 {P:Program} {t:TypeId} {R R':Bool->Nat->Prop} (h:∀ a b,R a b->R' a b) (y:qvv P t R):qvv P t R':=by
 unfold qvv at *
 split at y
 ·split at y
  ·exact h _ _ y
  ·exact y.elim
 ·exact y.elim
theorem q78 {P:Program} {t:TypeId} {a x:Operand} {E:Env} {lo:List AObj} {R:FV->List AObj->Prop} {k off:Nat} (ha:evF (qb7 E) a=.ptr k off) (h:zm3 P (.store t a x) E lo R) :
  zm3 P (.store t a x) E lo (fun v lo'=>R v lo'/\lo'.length=lo.length/\∀ j,j≠k->lo'[j]? =lo[j]?):=by
 simp only[zm3,evS,zal,ha]at h ⊢
 have main:∀ v:FV,(qy2 v fun vs=>match q24 vs with
   | true=>q4r vs 0 fun n=>qvv P t fun _ m=>match Nat.beq n m with
    | true=>qy6 k lo fun o=>match o with
     | .box bt cells=>qxc off vs cells fun cells=>q4u k (.box bt cells) lo fun lo=>R (.p (.tup [])) lo
     | _=>False
    | false=>False
   | false=>False)->(qy2 v fun vs=>match q24 vs with
   | true=>q4r vs 0 fun n=>qvv P t fun _ m=>match Nat.beq n m with
    | true=>qy6 k lo fun o=>match o with
     | .box bt cells=>qxc off vs cells fun cells=>q4u k (.box bt cells) lo fun lo'=>R (.p (.tup [])) lo'/\lo'.length=lo.length/\∀ j,j≠k->lo'[j]? =lo[j]?
     | _=>False
    | false=>False
   | false=>False):=fun v h=>by
  refine zd6 (fun vs h=>?_) h
  split at h
  ·refine zcp (fun n h=>?_) h
   refine zg5 (fun _ m h=>?_) h
   split at h
   ·refine zc3 (fun o h=>?_) h
    split at h
    ·refine qxt (fun cells h=>?_) h
     exact zf5 h
    ·exact h.elim
   ·exact h.elim
  ·exact h.elim
 split at h
 ·exact⟨h.1,main _ h.2⟩
 ·exact main _ h
def zel (P:Program) (sl:List Nat) (n0:Nat) (t:TypeId) (a x:Operand) (E:Env) (lo:List AObj) (R:FV->List AObj->Prop):Prop:=
 ev E a fun v=>match v with
  | .ptr k _=>match zaz sl (60000000+1000 * n0+k)with
   | true=>zm3 P (.store t a x) E lo R
   | false=>False
  | _=>False
theorem zcn {P:Program} {sl:List Nat} {o:Oper} {t:TypeId} {a x:Operand} (ho:o.op=.store t a x) {m:Bool} {n0:Nat} {E:Env} {lo:List AObj} {R:FV->List AObj->Prop} (h:zel P sl n0 t a x E lo R) :
  ∃ fv lo',R fv lo'/\zht sl m n0 o lo lo'/\qk2 P o (qb7 E) lo none fv lo':=by
 unfold zel at h
 simp only[zal]at h
 split at h
 ·rename_i k off hv
  split at h
  ·rename_i hk
   have h2:=q78 hv h
   rw[← ho]at h2
   obtain⟨fv,lo',⟨h,hlen,hj⟩,_,hs⟩:=q2k h2
   refine⟨fv,lo',h,fun _ hn=>⟨by omega,fun _ k' ob hp _=>?_⟩,hs⟩
   have hne:k'≠k:=fun e=>by
    have:=(zkd hp).2
    rw[e,hk]at this
    cases this
   rw[hj k' hne]
  ·exact h.elim
 ·exact h.elim
theorem zg8 {P:Program} {sl:List Nat} {n0 N:Nat} {all:List Oper} {o:Oper} {E:Env} {lo:List AObj} {R:Env->List AObj->Prop} (hst:qv5 sl o=false) (h:zos P sl n0 N all o E lo R) :
  ∃ E' lo',quz P [] sl true n0 N all.toArray o (qb7 E) lo (qb7 E') lo'/\R E' lo':=by
 unfold zos at h
 unfold quz
 simp only[qxn]
 obtain⟨g,hg,h⟩:=qz3 h
 split at h
 ·rename_i hl
  have he:qw4 o.op=false:=by
   cases hop:o.op<;>simp[hop,q6e]at hl<;>rfl
  split at h
  ·rename_i t x ho
   obtain⟨x',h,hx'⟩:=qbm h
   have sem:∀ {lo2:List AObj} {fv:FV},qw5 P t lo2 x' (fun v=>v=fv)->qk2 P o (qb7 E) lo2 g fv lo2:=by
    intro lo2 fv h
    obtain⟨fv',h,hs⟩:=q2m h
    subst h
    intro hg bs ρ H w eval s hx
    obtain⟨a,u,_,hr,ru⟩:=hs bs ρ H w _ s (hx' ρ H _ hg (hx x (by simp[ho,Op.operands])))
    simp only[execOp,ho]
    exact qcz s hr ru
   unfold zm4 at h
   split at h
   ·rename_i k off
    split at h
    ·rename_i hk
     obtain⟨fv,ob,h,hob,hb,hfix⟩:=zje h
     obtain⟨hd,E',hE,h⟩:=qha h
     refine⟨E',lo,⟨g,fv,hg,hd,hE,.inr (.inl ⟨he,hl,rfl,sem (hfix lo hob),fun _=>⟨some (k,ob),fun k' ob' e=>?_,fun lo2 h2=>sem (hfix lo2 (h2 k ob rfl))⟩⟩)⟩,h⟩
     cases e
     exact⟨hk,hb,hob⟩
    ·exact h.elim
   ·rename_i row
    have h1:∃ fv,(qy7 N o.dst (quc g fv) E fun E=>R E lo)/\∀ lo2,qw5 P t lo2 (.hptr row) (fun v=>v=fv):=by
     unfold qw5 at h
     obtain⟨d,i,hd,hi,h⟩:=ql7 h
     have typeI:∀ {R:Bool->Nat->Prop},R (znh d) i.size->qvv P t R:=by
      intro R h
      unfold qvv
      simp only[hd,hi]
      exact h
     split at h
     ·rename_i hagg
      obtain⟨h,hn⟩:=qp0 h
      refine⟨_,h,fun lo2=>?_⟩
      unfold qw5
      refine typeI ?_
      rw[hagg]
      have takeI:∀ {n:Nat} {l:List PV} {R:List PV->Prop},n<=l.length->R (l.take n)->q2y n l R:=by
       intro n
       induction n with
       | zero=>intro l R _ h; simpa[q2y]using h
       | succ n ih=>
        intro l R hl h
        cases l with
        | nil=>simp at hl
        | cons a l=>exact ih (l:=l) (R:=fun l=>R (a::l)) (by simpa using hl) (by simpa using h)
      exact takeI hn rfl
     ·rename_i hagg
      split at h
      ·rename_i c r
       refine⟨_,h,fun lo2=>?_⟩
       unfold qw5
       refine typeI ?_
       rw[hagg]
      ·exact h.elim
    obtain⟨fv,h,hfix⟩:=h1
    obtain⟨hd,E',hE,h⟩:=qha h
    exact⟨E',lo,⟨g,fv,hg,hd,hE,.inr (.inl ⟨he,hl,rfl,sem (hfix lo),fun _=>⟨none,fun k' ob' e=>(by cases e),fun lo2 _=>sem (hfix lo2)⟩⟩)⟩,h⟩
   ·exact h.elim
  ·rename_i sr d x ho
   obtain⟨x',h,hx'⟩:=qbm h
   have key:∃ fv,(qy7 N o.dst (quc g fv) E fun E=>R E lo)/\∀ lo2,qk2 P o (qb7 E) lo2 g fv lo2:=by
    unfold zm2 at h
    split at h
    ·rename_i p
     obtain⟨fv,h,hs⟩:=qz5 h
     refine⟨fv,h,fun lo2 hg bs ρ H w eval s hx=>?_⟩
     have s0:SatW { S:=zfc,w0:=w,H0:=H,r0:=[] } [] H [] w:={ sath:=s.sath,hlen:=rfl,pre:=List.prefix_refl _,objs:=fun k o v h=>by simp at h,excl:=fun k _ o _ v _ b h=>by simp at h,own:=fun k o v b h=>by simp at h,keep:=Keep.refl _ w,leH:=PH.le.refl H,newH:=fun b o v h=>.inl ⟨v,h⟩ }
     have rx:=hx' ρ H _ hg (hx x (by simp[ho,Op.operands]))
     obtain⟨u,hr,ru⟩:=hs hg _ [] H w _ s0 rx
     simp only[execOp,ho]
     exact qcz s hr (ru.mono (List.nil_prefix) (PH.le.refl H))
    ·rename_i k rows
     have h':q6f P g sr d [] (.p (.sl rows)) fun v=>qy7 N o.dst (quc g v) E fun E=>R E lo:=h
     obtain⟨fv,h,hs⟩:=qz5 h'
     refine⟨fv,h,fun lo2 hg bs ρ H w eval s hx=>?_⟩
     have s0:SatW { S:=zfc,w0:=w,H0:=H,r0:=[] } [] H [] w:={ sath:=s.sath,hlen:=rfl,pre:=List.prefix_refl _,objs:=fun k o v h=>by simp at h,excl:=fun k _ o _ v _ b h=>by simp at h,own:=fun k o v b h=>by simp at h,keep:=Keep.refl _ w,leH:=PH.le.refl H,newH:=fun b o v h=>.inl ⟨v,h⟩ }
     have rx:=hx' ρ H _ hg (hx x (by simp[ho,Op.operands]))
     obtain⟨u,hr,ru⟩:=hs hg _ [] H w _ s0 rx.2
     simp only[execOp,ho]
     exact qcz s hr (ru.mono (List.nil_prefix) (PH.le.refl H))
    ·exact h.elim
   obtain⟨fv,h,hs⟩:=key
   obtain⟨hd,E',hE,h⟩:=qha h
   exact⟨E',lo,⟨g,fv,hg,hd,hE,.inr (.inl ⟨he,hl,rfl,hs lo,fun _=>⟨none,fun k' ob' e=>(by cases e),fun lo2 _=>hs lo2⟩⟩)⟩,h⟩
  ·rename_i t x i ok ho
   have h0:=qbm h; clear h; obtain⟨x',h,hx'⟩:=h0
   have h0:=qbm h; clear h; obtain⟨i',h,hi'⟩:=h0
   unfold zfs at h
   split at h
   ·rename_i k
    split at h
    ·rename_i hk
     obtain⟨fv,ob,h,hob,hb,hfix⟩:=zej h
     obtain⟨hd,E',hE,h⟩:=qha h
     have sem:∀ {lo2:List AObj},lo2[k]? =some ob->qk2 P o (qb7 E) lo2 g fv lo2:=by
      intro lo2 h2
      obtain⟨fv',e,hs⟩:=q6h ho hx' hi' (hfix lo2 h2)
      subst e
      exact hs
     refine⟨E',lo,⟨g,fv,hg,hd,hE,.inr (.inl ⟨he,hl,rfl,sem hob,fun _=>⟨some (k,ob),fun k' ob' e=>?_,fun lo2 h2=>sem (h2 k ob rfl)⟩⟩)⟩,h⟩
     cases e
     exact⟨hk,hb,hob⟩
    ·exact h.elim
   ·exact h.elim
  ·exact h.elim
 ·rename_i hl
  split at h
  ·rename_i he
   split at h
   ·obtain⟨fv,lo',h,hr,hs⟩:=q2k h
    obtain⟨hd,E',hE,h⟩:=qha h
    exact⟨E',lo',⟨none,fv,hg,hd,hE,.inl ⟨he,rfl,hs,hr.ok (fun _=>hst)⟩⟩,h⟩
   ·exact h.elim
  ·rename_i he
   obtain⟨fv,h,hs⟩:=q6j h
   obtain⟨hd,E',hE,h⟩:=qha h
   exact⟨E',lo,⟨g,fv,hg,hd,hE,.inr (.inr ⟨he,hl,rfl,hs⟩)⟩,h⟩
section
variable {P:Program} {N:Nat} {ops:Array Oper} {Q:Exit->Act->World->Prop}
theorem zit {tmps:Array Value} {d:Nat} {b:Bool} (h:tmps.getD d undef=.bool b):tmps[d]? =some (.bool b):=by
 rw[Array.getD_eq_getD_getElem?]at h
 cases hx:tmps[d]? with
 | none=>simp[hx,undef]at h
 | some v=>simp[hx]at h; rw[h]
theorem Sat.put {bs:Base} {ρ ρ':List Value} {H H':PH} {e:Nat->FV} {lo lo':List AObj} {a:Act} {w w':World} {d:Option Tmp} {v:Value} {fv:FV}
  (s:Sat bs N ρ H e lo a w) (hr:ρ <+: ρ') (hH:PH.le H H') (s':SatW bs ρ' H' lo' w') (hd:∀ t,d=some t->t<N) (rv:qcc ρ' H' fv v) :
  Sat bs N ρ' H' (upd e d fv) lo' (a.put d v) w':=by
 refine{ s' with slots:=fun t=>?_,width:=?_,defers:=?_ }
 ·cases d with
  | none=>exact(s.slots t).mono hr hH
  | some d=>
   have hlt:d<a.tmps.size:=by rw[s.width]; exact hd d rfl
   simp only[upd,Act.put]
   by_cases h:t=d
   ·subst h
    simp[Array.getD_eq_getD_getElem?,hlt,rv]
   ·simp only[h,if_false]
    have:=(s.slots t).mono hr hH
    rwa [show(a.tmps.setIfInBounds d v).getD t undef=a.tmps.getD t undef by
     rw[Array.getD_eq_getD_getElem?,Array.getD_eq_getD_getElem?,Array.getElem?_setIfInBounds_ne (Ne.symm h)]]
 ·cases d<;>simp[Act.put,s.width]
 ·cases d<;>exact s.defers
theorem zdn {o:Oper} {e:Nat->FV} {g:G} {a:Act} (hg:qr8 ops o e g) {ρ:List Value} {H:PH} (hs:∀ t,qcc ρ H (e t) (a.tmps.getD t undef)) :
  Region.wanted o (yielded ops a.tmps)=g.getD true:=by
 unfold qr8 at hg
 unfold Region.wanted
 split at hg
 ·rename_i h; simp[h,hg]
 ·rename_i j want h
  obtain⟨oj,d,b,hoj,hd,hb⟩:=hg
  simp only[h]
  rcases hb with ⟨he,rfl⟩|⟨g',he,rfl⟩
  ·have h1:=hs d
   rw[he]at h1
   have h2:=zit (qso h1)
   simp only[yielded,hoj,Option.bind_some,hd,h2]
   cases want<;>cases b<;>rfl
  ·have h1:=hs d
   rw[he]at h1
   cases g' with
   | true=>
    have h2:=zit (qso (ρ:=ρ) (H:=H) (b:=b) (by simpa only[qcc,if_true]using h1))
    simp only[yielded,hoj,Option.bind_some,hd,h2]
    cases want<;>cases b<;>rfl
   | false=>
    have h2:a.tmps.getD d undef=undef:=by simpa[qcc]using h1
    have h3:∀ b,a.tmps[d]? ≠some (.bool b):=fun b hb=>by
     rw[Array.getD_eq_getD_getElem?,hb]at h2
     simp[undef]at h2
    have h4:yielded ops a.tmps j=none:=by
     simp only[yielded,hoj,Option.bind_some,hd]
     try (split<;>first|rfl|exact absurd (by assumption) (h3 _))
    rw[h4]
    cases want<;>rfl
theorem quz.wp {bs:Base} {ρ:List Value} {H:PH} {o:Oper} {e e':Nat->FV} {lo lo':List AObj} {a:Act} {w:World} {K:Act->World->Prop} {i:Nat} (ho:ops[i]? =some o)
  {inl:List Nat} {m:Bool} {n0:Nat} (st:quz P inl inl m n0 N ops o e lo e' lo') (s:Sat bs N ρ H e lo a w) (hK:∀ ρ' H' a' w',Sat bs N ρ' H' e' lo' a' w'->K a' w'):wpOp P ops Q i K a w:=by
 obtain⟨g,fv,hg,hd,rfl,hs⟩:=st
 unfold wpOp
 simp only[ho]
 rw[zdn hg s.slots]
 have sem:gOn g->zd2 P bs ρ H fv lo' ((execOp a.eval o).run P w):=by
  intro hon
  have hx:=fun x (_:x∈o.op.operands)=>qs8 s.slots x
  rcases hs with ⟨_,rfl,hs,_⟩|⟨_,_,rfl,hs⟩|⟨_,_,rfl,hs⟩
  ·exact hs hon bs ρ H w a.eval s.toSatW hx
  ·exact hs.1 hon bs ρ H w a.eval s.toSatW hx
  ·exact hs _ hon bs ρ H w a.eval s.toSatW hx
 have run:∀ fv',(∀ ρ' H' v,qcc ρ' H' fv v->qcc ρ' H' fv' v)->(∀ ρ' H' a' w',Sat bs N ρ' H' (upd e o.dst fv') lo' a' w'->K a' w')->gOn g->o.wp P a w K Q:=by
  intro fv' hf hK' hon
  have h:=sem hon
  have fin:∀ v w',que bs ρ H fv lo' v w'->K (a.put o.dst v) w':=fun v w' ⟨ρ',H',h1,h2,h3,h4⟩=>hK' _ _ _ _ (s.put h1 h2 h3 hd (hf _ _ _ h4))
  unfold Oper.wp
  generalize (execOp a.eval o).run P w=r at *
  cases r with
  | ok n w'=>
   cases n<;>simp only[zd2]at h<;>simp only[Oper.upon]
   case value v=>exact fin v w' h
   case skip=>exact fin undef w' h
   case enter f args=>exact h.mono fun en w'' ⟨v,e1,h1⟩=>by subst e1; exact fin v w'' h1
  | halt x w'=>simp only[zd2]at h
 cases g with
 | none=>exact .inl (run fv (fun _ _ _ h=>h) hK trivial)
 | some b=>
  cases b with
  | true=>exact .inl (run _ (fun _ _ _ h=>by simpa[quc,qcc]using h) hK rfl)
  | false=>
   have hlo:lo'=lo:=by
    rcases hs with ⟨_,h,_⟩|⟨_,_,h,_⟩|⟨_,_,h,_⟩
    ·cases h
    ·exact h
    ·exact h
   subst hlo
   exact hK _ _ _ _ (s.put (List.prefix_refl _) (PH.le.refl H) s.toSatW hd (by simp[quc,qcc]))
def qsx (P:Program) (f:FuncId) (args:List FV) (lo:List AObj) (R:FV->List AObj->Prop):Prop:=
 ∀ (bs:Base) (ρ:List Value) (H:PH) (w:World) (vs:List Value),SatW bs ρ H lo w->qd9 ρ H args vs ->
  match (callFunc f vs.toArray).run P w with
  | .ok (.value v) w'=>∃ r lo',que bs ρ H r lo' v w'/\R r lo'
  | .ok (.enter f' args') w'=>w'=w/\Calls P f' args' w fun en w''=>∃ v r lo',en=.returned v/\que bs ρ H r lo' v w''/\R r lo'
  | _=>False
theorem qsx.mono {f:FuncId} {args:List FV} {lo:List AObj} {R R':FV->List AObj->Prop} (h:qsx P f args lo R) (hr:∀ r lo,R r lo->R' r lo):qsx P f args lo R':=by
 intro bs ρ H w vs s rl
 have:=h bs ρ H w vs s rl
 generalize (callFunc f vs.toArray).run P w=x at *
 cases x with
 | ok n w'=>
  cases n<;>simp only at this ⊢ <;> try exact this
  ·obtain⟨r,lo',a,k⟩:=this; exact⟨r,lo',a,hr _ _ k⟩
  ·exact⟨this.1,this.2.mono fun en w'' ⟨v,r,lo',e,a,k⟩=>⟨v,r,lo',e,a,hr _ _ k⟩⟩
 | halt x w'=>exact this
def zh5 (v:FV) (lo:List AObj) (no:Prop) (R:List AObj->Prop):Prop:=
 match v with
 | .ptr k off=>qy6 k lo fun o=>match o with
  | .box T cells=>q4h off cells fun cs=>match cs with
   | .bself j::_=>(qxc off [.p .nilp] cells fun cells'=>q4u k (.box T cells') lo R)/\(qxc off [.ptr j 0] cells fun cells'=>q4u k (.box T cells') lo R)
   | _=>no
  | _=>no
 | _=>no
theorem qd9.over {ρ:List Value} {H:PH}:∀ {cs:List FV} {vs:List Value} {off:Nat} {c:FV} {v:Value},qd9 ρ H cs vs->vs[off]? =some v->qcc ρ H c v ->
  qd9 ρ H (cs.take off++[c]++cs.drop (off+1)) vs
 | [],vs,off,c,v,h,hv,r=>by simp only[qd9]at h; subst h; simp at hv
 | d::cs,vs,0,c,v,h,hv,r=>by
  obtain⟨u,vs',rfl,_,rs⟩:=h
  simp only[List.getElem?_cons_zero,Option.some.injEq]at hv
  subst hv
  simpa using⟨u,vs',rfl,r,rs⟩
 | d::cs,vs,off+1,c,v,h,hv,r=>by
  obtain⟨u,vs',rfl,r1,rs⟩:=h
  have:=rs.over (off:=off) (c:=c) (v:=v) (by simpa using hv) r
  have e:(d::cs).drop (off+1+1)=cs.drop (off+1):=rfl
  rw[List.take_succ_cons,e,List.cons_append,List.cons_append]
  exact⟨u,vs',rfl,r1,this⟩
theorem SatW.rebox {bs:Base} {ρ:List Value} {H:PH} {lo:List AObj} {w:World} {k:Nat} {T:TypeId} {cells cells':List FV} (s:SatW bs ρ H lo w) (hk:lo[k]? =some (.box T cells))
  (h:∀ vs,qd9 ρ H cells vs->ρ[k]? ≠none->(∃ b,ρ[k]? =some (.pointer (some ⟨b,0,none⟩))/\w.heap[b]? =some (.cells vs.toArray T (0,0)))->qd9 ρ H cells' vs):SatW bs ρ H (lo.set k (.box T cells')) w where
 sath:=s.sath
 hlen:=by simpa using s.hlen
 pre:=s.pre
 objs:=fun i o v hi hv=>by
  rw[List.getElem?_set]at hi
  split at hi
  ·rename_i e
   subst e
   split at hi
   ·cases hi
    obtain⟨b,vs,rfl,hg,hc,hH⟩:=s.objs _ _ _ hk hv
    exact⟨b,vs,rfl,hg,h vs hc (by rw[hv]; simp) ⟨b,hv,hg⟩,hH⟩
   ·cases hi
  ·exact s.objs i o v hi hv
 excl:=fun i j o o' v v' b hi hj hv hv' hne hl hl' hb=>by
  have key:∀ {i:Nat} {o:AObj},(lo.set k (.box T cells'))[i]? =some o->o.live=true->∃ o2,lo[i]? =some o2/\o2.live=true:=by
   intro i o hi hl
   rw[List.getElem?_set]at hi
   split at hi
   ·rename_i e; subst e; exact⟨_,hk,rfl⟩
   ·exact⟨o,hi,hl⟩
  obtain⟨o2,h2,l2⟩:=key hi hl
  obtain⟨o3,h3,l3⟩:=key hj hl'
  exact s.excl i j o2 o3 v v' b h2 h3 hv hv' hne l2 l3 hb
 own:=fun i o v b hi hv hl hb=>by
  rw[List.getElem?_set]at hi
  split at hi
  ·rename_i e; subst e; exact s.own _ _ v b hk hv rfl hb
  ·exact s.own i o v b hi hv hl hb
 keep:=s.keep
 leH:=s.leH
 newH:=s.newH
theorem zd5 {bs:Base} {ρ:List Value} {H:PH} {e:Nat->FV} {lo:List AObj} {a:Act} {w:World} {v:FV} {no:Prop} {R:List AObj->Prop} (h:zh5 v lo no R) (s:Sat bs N ρ H e lo a w) :
  no\/∃ lo',R lo'/\Sat bs N ρ H e lo' a w:=by
 unfold zh5 at h
 split at h
 ·rename_i k off
  obtain⟨o,ho,h⟩:=qdt h
  split at h
  ·rename_i T cells
   obtain⟨h,hoff⟩:=qpu h
   split at h
   ·rename_i j cs hcs
    have hc:cells[off]? =some (.bself j):=by
     have:=congrArg (fun l=>l[0]?) hcs
     simpa using this
    obtain⟨h1,h2⟩:=h
    obtain⟨h1,_⟩:=qsv h1
    obtain⟨h2,_⟩:=qsv h2
    obtain⟨h1,_⟩:=qkj h1
    obtain⟨h2,_⟩:=qkj h2
    right
    have hklt:k<ρ.length:=by rw[s.hlen]; exact(List.getElem?_eq_some_iff.1 ho).1
    obtain⟨b,vs,ek,hg,hrep,_⟩:=s.objs k _ _ ho (List.getElem?_eq_getElem hklt)
    have get:∀ {cs:List FV} {vs:List Value} {i:Nat} {c:FV},qd9 ρ H cs vs->cs[i]? =some c->∃ v,vs[i]? =some v/\qcc ρ H c v:=by
     intro cs
     induction cs with
     | nil=>intro vs i c _ h; simp at h
     | cons d cs ih=>
      intro vs i c x h
      obtain⟨v,vs',rfl,r,rs⟩:=x
      cases i with
      | zero=>simp at h; subst h; exact⟨v,by simp,r⟩
      | succ i=>simp at h; obtain⟨u,hu,ru⟩:=ih rs h; exact⟨u,by simpa using hu,ru⟩
    obtain⟨x,hx,b',hj,hx2⟩:=get hrep hc
    have uniq:∀ vs2,(∃ b,ρ[k]? =some (.pointer (some ⟨b,0,none⟩))/\w.heap[b]? =some (.cells vs2.toArray T (0,0)))->vs2=vs:=by
     rintro vs2 ⟨b2,e2,hg2⟩
     rw[List.getElem?_eq_getElem hklt,ek]at e2
     cases e2
     rw[hg]at hg2
     have:=congrArg Array.toList (Obj.cells.inj (Option.some.inj hg2)).1
     simpa using this.symm
    rcases hx2 with rfl|rfl
    ·refine⟨_,h1,{ (s.toSatW.rebox (cells':=cells.take off++[.p .nilp]++cells.drop (off+1)) ho fun vs2 r _ hw=>?_)with slots:=s.slots,width:=s.width,defers:=s.defers }⟩
     have:=uniq vs2 hw
     subst this
     exact r.over hx (by simp[qcc,qcp])
    ·refine⟨_,h2,{ (s.toSatW.rebox (cells':=cells.take off++[.ptr j 0]++cells.drop (off+1)) ho fun vs2 r _ hw=>?_)with slots:=s.slots,width:=s.width,defers:=s.defers }⟩
     have:=uniq vs2 hw
     subst this
     exact r.over hx ⟨b',hj,rfl⟩
   ·exact .inl h
  ·exact .inl h
 ·exact .inl h
def zqv {α:Type}:List α->List α->(List α->Prop)->Prop
 | [],m,R=>R m
 | a::l,m,R=>zqv l m fun l=>R (a::l)
def zot (P:Program) (inl:List Nat) (N:Nat) (all:List Oper) (o:Oper) (E:Env) (lo:List AObj) (R:Env->List AObj->Prop):Prop:=
 match o.op with
 | .call { callee:=.value (.func f),args:=⟨xs⟩,argTypes:=_ }=>match zaz inl f with
  | true=>match o.guard with
   | none=>evL E none xs fun vs=>qsx P f vs lo fun r lo=>qy7 N o.dst r E fun E=>R E lo
   | some _=>zce all o E fun g=>match g with
    | some b=>(b=true->evL E (some b) xs fun vs=>qsx P f vs lo fun r lo=>qy7 N o.dst (.opt b r) E fun E=>R E lo)/\(b=false->∃ v,qy7 N o.dst (.opt b v) E fun E=>R E lo)
    | none=>False
  | false=>zg6 P N all o E lo R
 | .call { callee:=.value (.tmp t),args:=⟨xs⟩,argTypes:=_ }=>match zqj inl t with
  | true=>match o.guard with
   | none=>evS E none (.tmp t) fun fv=>evL E none xs fun vs=>match fv with
    | .clo f c=>q02 c fun cs=>zqv vs cs fun vs=>qsx P f vs lo fun r lo=>qy7 N o.dst r E fun E=>R E lo
    | .p (.fn f)=>qsx P f vs lo fun r lo=>qy7 N o.dst r E fun E=>R E lo
    | _=>False
   | some _=>False
  | false=>zg6 P N all o E lo R
 | .call { callee:=.builtin .len,args:=⟨[x]⟩,argTypes:=⟨[t]⟩ }=>ev E x fun v=>match v with
  | .mref k=>match o.guard with
   | none=>znt P t lo (.mref k) fun v=>qy7 N o.dst v E fun E=>R E lo
   | some _=>False
  | _=>zg6 P N all o E lo R
 | .buildSlice t n ⟨parts⟩=>match zna inl o.dst with
  | true=>match o.guard with
   | none=>zar P (znp inl o.dst) E lo t n parts fun v lo=>qy7 N o.dst v E fun E=>R E lo
   | some _=>False
  | false=>zg6 P N all o E lo R
 | .convert sr d x=>match zna inl o.dst with
  | true=>match o.guard with
   | none=>evS E none x fun x=>zi8 P sr d lo x fun v lo=>qy7 N o.dst v E fun E=>R E lo
   | some _=>False
  | false=>zg6 P N all o E lo R
 | .build t ⟨parts⟩=>match znp inl o.dst with
  | true=>match o.guard with
   | none=>zaq P E none t parts fun v=>qy7 N o.dst v E fun E=>R E lo
   | some _=>False
  | false=>zg6 P N all o E lo R
 | .load t x=>ev E x fun v=>match v with
  | .eptr k z i off=>match o.guard with
   | none=>zjd P t lo k z i off fun v=>qy7 N o.dst v E fun E=>R E lo
   | some _=>False
  | v=>zh5 v lo (zg6 P N all o E lo R) (fun lo'=>zg6 P N all o E lo' R)
 | _=>zg6 P N all o E lo R
def zf9 (P:Program) (inl:List Nat) (N:Nat) (all:List Oper) (K:Env->List AObj->Prop):List Oper->Env->List AObj->Prop
 | [],E,lo=>K E lo
 | o::rest,E,lo=>zot P inl N all o E lo (zf9 P inl N all K rest)
theorem zb0 {α:Type}:∀ {l m:List α} {R:List α->Prop},zqv l m R->R (l++m)
 | [],m,R,h=>h
 | a::l,_,R,h=>zb0 (l:=l) (R:=fun l=>R (a::l)) h
theorem ze7 {bs:Base} {all:List Oper} {inl:List Nat} {o:Oper} {i:Nat} (ho:all[i]? =some o) {ρ:List Value} {H:PH} {E:Env} {lo:List AObj} {a:Act} {w:World} {R:Env->List AObj->Prop} {K:Act->World->Prop}
  (s:Sat bs N ρ H (qb7 E) lo a w) (h:zot P inl N all o E lo R) (hK:∀ E' lo' ρ' H' a' w',R E' lo'->Sat bs N ρ' H' (qb7 E') lo' a' w'->K a' w'):wpOp P all.toArray Q i K a w:=by
 have plain:∀ lo,Sat bs N ρ H (qb7 E) lo a w->zg6 P N all o E lo R->wpOp P all.toArray Q i K a w:=by
  intro lo s h
  obtain⟨E',lo',st,h⟩:=zdk h
  exact st.wp (by simpa using ho) s fun ρ' H' a' w' s'=>hK E' lo' ρ' H' a' w' h s'
 have ho':all.toArray[i]? =some o:=by simpa using ho
 have fin:∀ v w',(∃ r lo',que bs ρ H r lo' v w'/\qy7 N o.dst r E fun E=>R E lo')->K (a.put o.dst v) w':=by
  rintro v w' ⟨r,lo',⟨ρ',H',h1,h2,h3,h4⟩,hp⟩
  obtain⟨hd,E',hE,hR⟩:=qha hp
  exact hK E' lo' ρ' H' _ w' hR (by rw[hE]; exact s.put h1 h2 h3 hd h4)
 have value:o.guard=none->(∃ v w' r lo',(execOp a.eval o).run P w=.ok (.value v) w'/\que bs ρ H r lo' v w'/\qy7 N o.dst r E fun E=>R E lo')->wpOp P all.toArray Q i K a w:=by
  rintro hg ⟨v,w',r,lo',hr,af,hp⟩
  unfold wpOp
  simp only[ho',Region.wanted,hg,if_true]
  refine .inl ?_
  unfold Oper.wp
  rw[hr]
  simp only[Oper.upon]
  exact fin v w' ⟨r,lo',af,hp⟩
 have calls:o.guard=none->∀ (f:FuncId) (vs:List FV) (us:List Value),qd9 ρ H vs us->(execOp a.eval o).run P w=(callFunc f us.toArray).run P w->(qsx P f vs lo fun r lo=>qy7 N o.dst r E fun E=>R E lo)->wpOp P all.toArray Q i K a w:=by
  intro hg f vs us rl hr h
  have:=h bs ρ H w us s.toSatW rl
  unfold wpOp
  simp only[ho',Region.wanted,hg,if_true]
  refine .inl ?_
  unfold Oper.wp
  rw[hr]
  generalize (callFunc f us.toArray).run P w=x at *
  cases x with
  | ok n w'=>
   cases n<;>simp only at this<;>simp only[Oper.upon]
   case value v=>exact fin v w' this
   case enter f' args'=>
    obtain⟨rfl,hc⟩:=this
    exact hc.mono fun en w'' ⟨v,r,lo',e,af,k⟩=>by subst e; exact fin v w'' ⟨r,lo',af,k⟩
   all_goals exact this.elim
  | halt x w'=>exact this.elim
 unfold zot at h
 split at h
 ·rename_i f xs ts hop
  split at h
  ·rename_i hm
   split at h
   ·rename_i hg
    obtain⟨vs,h,hvs⟩:=qsm h
    refine calls hg f vs (xs.map a.eval) (hvs ρ H a.eval trivial (fun x _=>qs8 s.slots x)) ?_ h
    have hf:a.eval (.func f)=.func (.func f) #[] #[]:=rfl
    simp only[execOp,hop,resolve,Deferred.ofValue,invoke,hf,Sem.run_bind,Sem.run_pure,Result.andThen_ok,List.map_toArray,Array.empty_append,Array.append_empty]
   ·obtain⟨g,hg,h⟩:=qz3 h
    split at h
    ·rename_i b
     unfold wpOp
     simp only[ho']
     rw[zdn hg s.slots]
     cases b with
     | true=>
      obtain⟨vs,h,hvs⟩:=qsm (h.1 rfl)
      have rl:=hvs ρ H a.eval rfl (fun x _=>qs8 s.slots x)
      have hc:=h bs ρ H w _ s.toSatW rl
      refine .inl ?_
      have fin2:∀ v w',(∃ r lo',que bs ρ H r lo' v w'/\qy7 N o.dst (.opt true r) E fun E=>R E lo')->K (a.put o.dst v) w':=by
       rintro v w' ⟨r,lo',⟨ρ',H',h1,h2,h3,h4⟩,hp⟩
       exact fin v w' ⟨.opt true r,lo',⟨ρ',H',h1,h2,h3,by simpa[qcc]using h4⟩,hp⟩
      unfold Oper.wp
      have hf:a.eval (.func f)=.func (.func f) #[] #[]:=rfl
      simp only[execOp,hop,resolve,Deferred.ofValue,invoke,hf,Sem.run_bind,Sem.run_pure,Result.andThen_ok,List.map_toArray,Array.empty_append,Array.append_empty]
      generalize (callFunc f (List.map a.eval xs).toArray).run P w=x at *
      cases x with
      | ok n w'=>
       cases n<;>simp only at hc<;>simp only[Oper.upon]
       case value v=>exact fin2 v w' hc
       case enter f' args'=>
        obtain⟨rfl,hc⟩:=hc
        exact hc.mono fun en w'' ⟨v,r,lo',e,af,k⟩=>by subst e; exact fin2 v w'' ⟨r,lo',af,k⟩
       all_goals exact hc.elim
      | halt x w'=>exact hc.elim
     | false=>
      obtain⟨v,hp⟩:=h.2 rfl
      obtain⟨hd,E',hE,hR⟩:=qha hp
      exact hK E' lo ρ H _ w hR (by rw[hE]; exact s.put (List.prefix_refl _) (PH.le.refl H) s.toSatW hd (by simp[qcc]))
    ·exact h.elim
  ·exact plain lo s h
 ·rename_i t xs ts hop
  split at h
  ·rename_i hm
   split at h
   ·rename_i hg
    have h0:=qbm h; clear h; obtain⟨fv,h,hfv⟩:=h0
    have h0:=qsm h; clear h; obtain⟨vs,h,hvs⟩:=h0
    have rl:=hvs ρ H a.eval trivial (fun x _=>qs8 s.slots x)
    have rf:=hfv ρ H _ trivial (qs8 s.slots (.tmp t))
    split at h
    ·rename_i f c
     have h0:=qz2 h; clear h; obtain⟨cs,h,hcs⟩:=h0
     have h:=zb0 h
     obtain⟨us,hf,rc⟩:=rf
     refine calls hg f _ (xs.map a.eval++us) (rl.append (hcs _ _ _ rc)) ?_ h
     simp only[execOp,hop,resolve,Deferred.ofValue,invoke,hf,Sem.run_bind,Sem.run_pure,Result.andThen_ok,List.map_toArray,List.append_toArray,List.nil_append]
    ·rename_i f
     have hf:a.eval (.tmp t)=.func (.func f) #[] #[]:=by simpa[qcc,qcp]using rf
     refine calls hg f vs (xs.map a.eval) rl ?_ h
     simp only[execOp,hop,resolve,Deferred.ofValue,invoke,hf,Sem.run_bind,Sem.run_pure,Result.andThen_ok,List.map_toArray,Array.empty_append,Array.append_empty]
    ·exact h.elim
   ·exact h.elim
  ·exact plain lo s h
 ·rename_i x t hop
  rw[zal]at h
  split at h
  ·rename_i k hk
   split at h
   ·rename_i hg
    have h0:=zgk h; clear h; obtain⟨fv,h,hs⟩:=h0
    have rx:=qs8 s.slots x
    rw[hk]at rx
    obtain⟨v,hr,rv⟩:=hs bs ρ H w o.type _ s.toSatW rx
    refine value hg ⟨v,w,fv,lo,?_,qhu s.toSatW rv,h⟩
    simp only[execOp,hop,resolve,invoke,builtin,Sem.run_bind,Sem.run_pure,Result.andThen_ok,List.map_toArray,List.map_cons,List.map_nil,hr]
   ·exact h.elim
  ·exact plain lo s h
 ·rename_i t n parts hop
  split at h
  ·split at h
   ·rename_i hg
    have h0:=q1b h; clear h; obtain⟨fv,lo',h,_,hs⟩:=h0
    obtain⟨v,w',hr,af⟩:=hs bs ρ H w a.eval s.toSatW (fun x _=>qs8 s.slots x)
    refine value hg ⟨v,w',fv,lo',?_,af,h⟩
    simp only[execOp,hop,List.map_toArray,Sem.run_bind,hr,Result.andThen_ok,Sem.run_pure]
   ·exact h.elim
  ·exact plain lo s h
 ·rename_i sr d x hop
  split at h
  ·split at h
   ·rename_i hg
    have h0:=qbm h; clear h; obtain⟨x',h,hx'⟩:=h0
    have h0:=zec h; clear h; obtain⟨fv,lo',h,hs⟩:=h0
    obtain⟨v,w',hr,af⟩:=hs bs ρ H w _ s.toSatW (hx' ρ H _ trivial (qs8 s.slots x))
    refine value hg ⟨v,w',fv,lo',?_,af,h⟩
    simp only[execOp,hop,Sem.run_bind,hr,Result.andThen_ok,Sem.run_pure]
   ·exact h.elim
  ·exact plain lo s h
 ·rename_i t parts hop
  split at h
  ·split at h
   ·rename_i hg
    have h0:=q29 h; clear h; obtain⟨fv,h,hs⟩:=h0
    obtain⟨v,hr,rv⟩:=hs trivial ρ H w a.eval (fun x _=>qs8 s.slots x)
    refine value hg ⟨v,w,fv,lo,?_,qhu s.toSatW rv,h⟩
    simp only[execOp,hop,List.map_toArray,Sem.run_bind,hr,Result.andThen_ok,Sem.run_pure]
   ·exact h.elim
  ·exact plain lo s h
 ·rename_i t x hop
  rw[zal]at h
  split at h
  ·rename_i k z i off hk
   split at h
   ·rename_i hg
    have h0:=zeh h; clear h; obtain⟨fv,h,hs⟩:=h0
    have rx:=qs8 s.slots x
    rw[hk]at rx
    obtain⟨v,hr,rv⟩:=hs bs ρ H w _ s.toSatW rx
    refine value hg ⟨v,w,fv,lo,?_,qhu s.toSatW rv,h⟩
    simp only[execOp,hop,Sem.run_bind,hr,Result.andThen_ok,Sem.run_pure]
   ·exact h.elim
  ·rcases zd5 h s with h|⟨lo',h,s'⟩
   ·exact plain lo s h
   ·exact plain lo' s' h
 ·exact plain lo s h
theorem q3f {bs:Base} {all:List Oper} {inl:List Nat} {K:Env->List AObj->Prop} (hQ:∀ ρ H E lo a w,Sat bs N ρ H (qb7 E) lo a w->K E lo->Q .normal a w) :
  ∀ (l:List Oper) (k:Nat),(∀ j,l[j]? =all[k+j]?)->∀ (ρ:List Value) (H:PH) (E:Env) (lo:List AObj) (a:Act) (w:World),Sat bs N ρ H (qb7 E) lo a w->zf9 P inl N all K l E lo ->
   wpOps P all.toArray Q (List.range' k l.length) a w
 | [],k,_,ρ,H,E,lo,a,w,s,h=>by
  simp only[List.length_nil,List.range'_zero,wpOps]
  exact hQ ρ H E lo a w s h
 | o::l,k,hl,ρ,H,E,lo,a,w,s,h=>by
  rw[List.length_cons,List.range'_succ,wpOps_cons]
  refine ze7 (by have:=hl 0; simpa using this.symm) s h fun E' lo' ρ' H' a' w' hr s'=>?_
  exact q3f hQ l (k+1) (fun j=>by have:=hl (j+1); simpa[Nat.add_assoc,Nat.add_comm 1 j]using this) ρ' H' E' lo' a' w' s' hr
theorem q8f {bs:Base} {ρ:List Value} {H:PH} {E:Env} {lo:List AObj} {a:Act} {w:World} {K:Env->List AObj->Prop} {inl:List Nat} {id:Nat} {l:List Oper}
  (hQ:∀ ρ H E lo a w,Sat bs N ρ H (qb7 E) lo a w->K E lo->Q .normal a w) (s:Sat bs N ρ H (qb7 E) lo a w) (h:zf9 P inl N l K l E lo):(Code.region id l.toArray false).wp P Q a w:=by
 refine wp_region ?_
 have:=q3f (P:=P) hQ l 0 (by simp) ρ H E lo a w s h
 simpa[List.range_eq_range']using this
def zo0 (P:Program) (inl:List Nat) (m:Bool) (n0 N:Nat) (ops:Array Oper) (K:(Nat->FV)->List AObj->Prop):Nat->Array Bool->(Nat->FV)->List AObj->Prop
 | 0,listed,e,lo=>Region.ready .any ops listed=[]/\K e lo
 | fuel+1,listed,e,lo=>(Region.ready .any ops listed=[]->K e lo) /\
   ∀ i∈Region.ready .any ops listed,∃ o e' lo',ops[i]? =some o/\quz P inl inl m n0 N ops o e lo e' lo'/\zo0 P inl m n0 N ops K fuel (listed.setIfInBounds i true) e' lo'
theorem q1t {inl:List Nat} {m:Bool} {n0:Nat} {bs:Base} {K:(Nat->FV)->List AObj->Prop} (hQ:∀ ρ H e lo a w,Sat bs N ρ H e lo a w->K e lo->Q .normal a w) :
  ∀ (fuel:Nat) (listed:Array Bool) (ρ:List Value) (H:PH) (e:Nat->FV) (lo:List AObj) (a:Act) (w:World),Sat bs N ρ H e lo a w->zo0 P inl m n0 N ops K fuel listed e lo->wpAny P .any ops Q fuel listed a w
 | 0,_,ρ,H,e,lo,a,w,s,h=>⟨h.1,hQ ρ H e lo a w s h.2⟩
 | fuel+1,listed,ρ,H,e,lo,a,w,s,h=>⟨fun h0=>hQ ρ H e lo a w s (h.1 h0),fun i hi=>by
  obtain⟨o,e',lo',ho,st,h'⟩:=h.2 i hi
  exact st.wp ho s fun ρ' H' a' w' s'=>q1t hQ fuel _ ρ' H' e' lo' a' w' s' h'⟩
theorem qk2.congr {o:Oper} {e e':Nat->FV} {lo lo':List AObj} {g:G} {fv:FV} (h:qk2 P o e lo g fv lo') (he:∀ x∈o.op.operands,evF e' x=evF e x):qk2 P o e' lo g fv lo':=
 fun hg bs ρ H w eval s hx=>h hg bs ρ H w eval s fun x hm=>by rw[← he x hm]; exact hx x hm
theorem zim {e:Nat->FV} {d:Option Tmp} {v:FV} {o:Oper} (h:∀ t,d=some t->t ∉ o.looksAt ops):∀ x∈o.op.operands,evF (upd e d v) x=evF e x:=by
 intro x hx
 cases d with
 | none=>rfl
 | some d=>
  cases x with
  | tmp t=>
   have:t≠d:=fun e1=>by
    subst e1
    exact h t rfl (List.mem_append_left _ (List.mem_filterMap.2 ⟨.tmp t,by simpa using hx,rfl⟩))
   simp[evF,upd,this]
  | _=>rfl
theorem zcf {e:Nat->FV} {d:Option Tmp} {v:FV} {o:Oper} {g:G} (h:∀ t,d=some t->t ∉ o.looksAt ops):qr8 ops o (upd e d v) g↔qr8 ops o e g:=by
 unfold qr8
 split
 ·exact Iff.rfl
 ·rename_i j want hg
  have key:∀ oj d',ops[j]? =some oj->oj.dst=some d'->upd e d v d'=e d':=by
   intro oj d' hoj hd'
   cases d with
   | none=>rfl
   | some d=>
    have:d'≠d:=fun e1=>by
     subst e1
     refine h d' rfl (List.mem_append_right _ ?_)
     simp[hg,hoj,hd']
    simp[upd,this]
  constructor
  ·rintro⟨oj,d',b,hoj,hd',hb⟩
   rw[key oj d' hoj hd']at hb
   exact⟨oj,d',b,hoj,hd',hb⟩
  ·rintro⟨oj,d',b,hoj,hd',hb⟩
   refine⟨oj,d',b,hoj,hd',?_⟩
   rw[key oj d' hoj hd']
   exact hb
theorem zml {e:Nat->FV} {d d':Option Tmp} {v v':FV} (h:∀ t,d=some t->d'≠some t):upd (upd e d v) d' v'=upd (upd e d' v') d v:=by
 cases d with
 | none=>rfl
 | some d=>
  cases d' with
  | none=>rfl
  | some d'=>
   have hne:d'≠d:=fun e1=>h d rfl (by rw[e1])
   funext t
   simp only[upd]
   by_cases h1:t=d'
   ·have h2:t≠d:=fun h2=>hne (by rw[← h1,← h2])
    simp[h1,hne]
   ·by_cases h2:t=d
    ·have:¬ d=d':=fun h3=>hne h3.symm
     simp[h2,this]
    ·simp[h1,h2]
def q4p (inl:List Nat) (m:Bool) (oi oj:Oper):Bool:=!zh8 inl m oi oj&&!zh8 inl m oj oi
theorem qwz.congr {sl:List Nat} {m:Bool} {n0:Nat} {o:Oper} {e e':Nat->FV} {lo:List AObj} {g:G} {fv:FV} (h:qwz P sl m n0 o e lo g fv) (he:∀ x∈o.op.operands,evF e' x=evF e x):qwz P sl m n0 o e' lo g fv:=
 ⟨h.1.congr he,fun hm=>let ⟨kk,h1,h2⟩:=h.2 hm; ⟨kk,h1,fun lo2 h3=>(h2 lo2 h3).congr he⟩⟩
theorem qwz.back {sl:List Nat} {m:Bool} {n0:Nat} {o oe:Oper} {e:Nat->FV} {lo lo1:List AObj} {g:G} {fv:FV} (h:qwz P sl m n0 o e lo1 g fv) (hm:m=true) (hn:n0<=lo.length) (he:zht sl m n0 oe lo lo1) (hmild:zcw sl oe=true):qwz P sl m n0 o e lo g fv:=by
 obtain⟨kk,h1,h2⟩:=h.2 hm
 have h3:=(he hm hn).2 hmild
 have h4:∀ k ob,kk=some (k,ob)->lo[k]? =some ob:=fun k ob hk=>let ⟨a,b,c⟩:=h1 k ob hk; (h3 k ob a b).2 c
 exact⟨h2 lo h4,fun _=>⟨kk,fun k ob hk=>⟨(h1 k ob hk).1,(h1 k ob hk).2.1,h4 k ob hk⟩,h2⟩⟩
theorem qwz.forth {sl:List Nat} {m:Bool} {n0:Nat} {o oe:Oper} {e:Nat->FV} {lo lo1:List AObj} {g:G} {fv:FV} (h:qwz P sl m n0 o e lo g fv) (hm:m=true) (hn:n0<=lo.length) (he:zht sl m n0 oe lo lo1) (hmild:zcw sl oe=true):qwz P sl m n0 o e lo1 g fv:=by
 obtain⟨kk,h1,h2⟩:=h.2 hm
 have h3:=(he hm hn).2 hmild
 have h4:∀ k ob,kk=some (k,ob)->lo1[k]? =some ob:=fun k ob hk=>let ⟨a,b,c⟩:=h1 k ob hk; (h3 k ob a b).1 c
 exact⟨h2 lo1 h4,fun _=>⟨kk,fun k ob hk=>⟨(h1 k ob hk).1,(h1 k ob hk).2.1,h4 k ob hk⟩,h2⟩⟩
theorem quz.grow {inl:List Nat} {m:Bool} {n0:Nat} {o:Oper} {e e':Nat->FV} {lo lo':List AObj} (st:quz P inl inl m n0 N ops o e lo e' lo') (hn:m=true->n0<=lo.length):m=true->n0<=lo'.length:=by
 intro hm
 obtain⟨g,fv,_,_,_,hs⟩:=st
 rcases hs with ⟨_,_,_,he⟩|⟨_,_,rfl,_⟩|⟨_,_,rfl,_⟩
 ·exact(he hm (hn hm)).1
 ·exact hn hm
 ·exact hn hm
theorem quz.swap {inl:List Nat} {m:Bool} {n0:Nat} {oi oj:Oper} {e e1 e2:Nat->FV} {lo lo1 lo2:List AObj} (hn:m=true->n0<=lo.length) (hap:oi.apart ops oj=true) (hef:q4p inl m oi oj=true)
  (hi:quz P inl inl m n0 N ops oi e lo e1 lo1) (hj:quz P inl inl m n0 N ops oj e1 lo1 e2 lo2):∃ e1' lo1',quz P inl inl m n0 N ops oj e lo e1' lo1'/\quz P inl inl m n0 N ops oi e1' lo1' e2 lo2:=by
 obtain⟨a1,a2,a3⟩:=Oper.apart_spec hap
 obtain⟨gi,fi,gki,di,rfl,si⟩:=hi
 obtain⟨gj,fj,gkj,dj,rfl,sj⟩:=hj
 have gj':=(zcf a1).1 gkj
 have gi':qr8 ops oi (upd e oj.dst (quc gj fj)) gi:=(zcf a3).2 gki
 have ci:∀ x∈oi.op.operands,evF (upd e oj.dst (quc gj fj)) x=evF e x:=zim a3
 have cj:∀ x∈oj.op.operands,evF e x=evF (upd e oi.dst (quc gi fi)) x:=fun x hx=>(zim a1 x hx).symm
 have hcomm:upd (upd e oi.dst (quc gi fi)) oj.dst (quc gj fj)=upd (upd e oj.dst (quc gj fj)) oi.dst (quc gi fi):=zml a2
 simp only[q4p,zh8,Bool.and_eq_true,Bool.not_eq_true',Bool.and_eq_false_iff,Bool.or_eq_false_iff,Bool.not_eq_false']at hef
 rcases si with ⟨ei,rfl,hi,hr⟩|⟨ei,li,rfl,hi⟩|⟨ei,li,rfl,hi⟩
 ·rcases sj with ⟨ej,rfl,hj,_⟩|⟨ej,lj,rfl,hj⟩|⟨ej,lj,rfl,hj⟩
  ·simp[ei,ej]at hef
  ·
   have hmm:m=true/\zcw inl oi=true:=by simpa[ei,ej,lj]using hef
   exact⟨_,lo,⟨gj,fj,gj',dj,rfl,.inr (.inl ⟨ej,lj,rfl,(hj.congr cj).back hmm.1 (hn hmm.1) hr hmm.2⟩)⟩,⟨_,fi,gi',di,hcomm,.inl ⟨ei,rfl,hi.congr ci,hr⟩⟩⟩
  ·exact⟨_,lo,⟨gj,fj,gj',dj,rfl,.inr (.inr ⟨ej,lj,rfl,fun lo=>(hj lo).congr cj⟩)⟩,⟨_,fi,gi',di,hcomm,.inl ⟨ei,rfl,hi.congr ci,hr⟩⟩⟩
 ·rcases sj with ⟨ej,rfl,hj,hr⟩|⟨ej,lj,rfl,hj⟩|⟨ej,lj,rfl,hj⟩
  ·have hmm:m=true/\zcw inl oj=true:=by simpa[ei,ej,li]using hef
   exact⟨_,lo2,⟨_,fj,gj',dj,rfl,.inl ⟨ej,rfl,hj.congr cj,hr⟩⟩,⟨gi,fi,gi',di,hcomm,.inr (.inl ⟨ei,li,rfl,(hi.congr ci).forth hmm.1 (hn hmm.1) hr hmm.2⟩)⟩⟩
  ·exact⟨_,_,⟨gj,fj,gj',dj,rfl,.inr (.inl ⟨ej,lj,rfl,hj.congr cj⟩)⟩,⟨gi,fi,gi',di,hcomm,.inr (.inl ⟨ei,li,rfl,hi.congr ci⟩)⟩⟩
  ·exact⟨_,_,⟨gj,fj,gj',dj,rfl,.inr (.inr ⟨ej,lj,rfl,fun lo=>(hj lo).congr cj⟩)⟩,⟨gi,fi,gi',di,hcomm,.inr (.inl ⟨ei,li,rfl,hi.congr ci⟩)⟩⟩
 ·rcases sj with ⟨ej,rfl,hj,hr⟩|⟨ej,lj,rfl,hj⟩|⟨ej,lj,rfl,hj⟩
  ·exact⟨_,lo2,⟨_,fj,gj',dj,rfl,.inl ⟨ej,rfl,hj.congr cj,hr⟩⟩,⟨gi,fi,gi',di,hcomm,.inr (.inr ⟨ei,li,rfl,fun lo=>(hi lo).congr ci⟩)⟩⟩
  ·exact⟨_,_,⟨gj,fj,gj',dj,rfl,.inr (.inl ⟨ej,lj,rfl,hj.congr cj⟩)⟩,⟨gi,fi,gi',di,hcomm,.inr (.inr ⟨ei,li,rfl,fun lo=>(hi lo).congr ci⟩)⟩⟩
  ·exact⟨_,_,⟨gj,fj,gj',dj,rfl,.inr (.inr ⟨ej,lj,rfl,fun lo=>(hj lo).congr cj⟩)⟩,⟨gi,fi,gi',di,hcomm,.inr (.inr ⟨ei,li,rfl,fun lo=>(hi lo).congr ci⟩)⟩⟩
theorem zga {inl:List Nat} {m:Bool} {n0:Nat} {K:(Nat->FV)->List AObj->Prop} {i:Nat} {oi:Oper} (hi:ops[i]? =some oi) :
  ∀ (fuel:Nat) (listed:Array Bool) (e e1:Nat->FV) (lo lo1:List AObj),
   (∀ j oj,ops[j]? =some oj->j≠i->listed.getD j true=false->(∀ x∈oj.after,Region.binds .any x=true->x.on≠i)->oi.apart ops oj=true/\q4p inl m oi oj=true) ->
   (m=true->n0<=lo.length)->i∈Region.ready .any ops listed->quz P inl inl m n0 N ops oi e lo e1 lo1 ->
   zo0 P inl m n0 N ops K fuel (listed.setIfInBounds i true) e1 lo1->zo0 P inl m n0 N ops K (fuel+1) listed e lo:=by
 intro fuel
 induction fuel with
 | zero=>
  intro listed e e1 lo lo1 _ _ hr st H
  refine⟨fun h=>(by rw[h]at hr; cases hr),fun j hj=>?_⟩
  by_cases hji:j=i
  ·subst hji; exact⟨oi,e1,lo1,hi,st,H⟩
  ·have:=ready_mono hj hji
   rw[H.1]at this
   cases this
 | succ fuel ih=>
  intro listed e e1 lo lo1 hfree hn hr st H
  refine⟨fun h=>(by rw[h]at hr; cases hr),fun j hj=>?_⟩
  by_cases hji:j=i
  ·subst hji; exact⟨oi,e1,lo1,hi,st,H⟩
  ·obtain⟨oj,e2,lo2,hoj,stj,h1⟩:=H.2 j (ready_mono hj hji)
   obtain⟨hjun,oj',hoj',hall⟩:=mem_ready.1 hj
   have:oj'=oj:=Option.some.inj (hoj'.symm.trans hoj)
   subst this
   have hnot:∀ x∈oj'.after,Region.binds .any x=true->x.on≠i:=fun x he hb heq=>by
    have h1:=hall x he hb
    have h0:=(mem_ready.1 hr).1
    rw[heq]at h1
    rcases Nat.lt_or_ge i listed.size with h'|h'
    ·simp[h']at h0 h1; rw[h0]at h1; cases h1
    ·simp[Array.getElem?_eq_none h']at h1
   obtain⟨hap,hef⟩:=hfree j oj' hoj hji hjun hnot
   obtain⟨e1',lo1',stj',sti'⟩:=quz.swap hn hap hef st stj
   refine⟨oj',e1',lo1',hoj,stj',ih (listed.setIfInBounds j true) e1' e2 lo1' lo2 (fun k ok hk hki hun hno=>?_) (stj'.grow hn) (ready_mono hr (Ne.symm hji)) sti' ?_⟩
   ·refine hfree k ok hk hki ?_ hno
    by_cases hjk:j=k
    ·subst hjk; exact hjun
    ·rw[getD_set_ne true hjk]at hun; exact hun
   ·rw[Array.setIfInBounds_comm _ _ hji]
    exact h1
theorem zb8 {inl:List Nat} {m:Bool} {listed:Array Bool} {i:Nat} {oi:Oper} (hi:ops[i]? =some oi) (h:Region.effFree inl m ops listed i=true) (j:Nat) (oj:Oper) (hj:ops[j]? =some oj) (hne:j≠i)
  (hun:listed.getD j true=false) (hno:∀ x∈oj.after,Region.binds .any x=true->x.on≠i):q4p inl m oi oj=true:=by
 simp only[Region.effFree,hi,List.all_eq_true,List.mem_range]at h
 have h1:=h j (Array.getElem?_eq_some_iff.1 hj).1
 simp only[hj,Bool.or_eq_true,beq_iff_eq,hne,false_or,hun,Bool.false_eq_true]at h1
 rcases h1 with h1|h1
 ·obtain⟨x,hx,hb⟩:=Array.any_eq_true'.1 h1
  simp only[Bool.and_eq_true,beq_iff_eq]at hb
  exact absurd hb.2 (hno x hx hb.1)
 ·exact h1
def leK (n0:Nat) (lo:List AObj) (R:Prop):Prop:=
 match n0 with
 | 0=>R
 | n0+1=>q4r lo 0 fun n=>match Nat.ble (n0+1) n with
  | true=>R
  | false=>False
def ze8 (P:Program) (inl:List Nat) (m:Bool) (n0 N:Nat) (all:List Oper) (o:Oper) (E:Env) (lo:List AObj) (R:Env->List AObj->Prop):Prop:=
 match m with
 | false=>zg6 P N all o E lo R
 | true=>zos P inl n0 N all o E lo R
def zor (P:Program) (inl:List Nat) (m:Bool) (n0 N:Nat) (all:List Oper) (o:Oper) (E:Env) (lo:List AObj) (R:Env->List AObj->Prop):Prop:=
 match o.op with
 | .call { callee:=.value (.func f),args:=⟨xs⟩,argTypes:=_ }=>match zaz inl f with
  | true=>match o.guard with
   | none=>evL E none xs fun vs=>∃ r lo',qsx P f vs lo (fun a b=>a=r/\b=lo')/\leK n0 lo' (qy7 N o.dst r E fun E=>R E lo')
   | some _=>False
  | false=>ze8 P inl m n0 N all o E lo R
 | .call { callee:=.value (.tmp t),args:=⟨_⟩,argTypes:=_ }=>match zqj inl t with
  | true=>False
  | false=>ze8 P inl m n0 N all o E lo R
 | .buildSlice t n ⟨parts⟩=>match zna inl o.dst with
  | true=>match o.guard with
   | none=>zar P (znp inl o.dst) E lo t n parts fun v lo=>qy7 N o.dst v E fun E=>R E lo
   | some _=>False
  | false=>ze8 P inl m n0 N all o E lo R
 | .convert _ _ _=>match zna inl o.dst with
  | true=>False
  | false=>ze8 P inl m n0 N all o E lo R
 | .store t (.tmp a) x=>match zaz inl (50000000+a)with
  | true=>match o.guard with
   | none=>zel P inl n0 t (.tmp a) x E lo fun v lo=>qy7 N o.dst v E fun E=>R E lo
   | some _=>False
  | false=>ze8 P inl m n0 N all o E lo R
 | _=>ze8 P inl m n0 N all o E lo R
def zdl (P:Program) (inl:List Nat) (m:Bool) (n0 N:Nat) (all:List Oper) (K:Env->List AObj->Prop):List Oper->Env->List AObj->Prop
 | [],E,lo=>K E lo
 | o::rest,E,lo=>zor P inl m n0 N all o E lo (zdl P inl m n0 N all K rest)
theorem zls {n0:Nat} {lo:List AObj} {R:Prop} (h:leK n0 lo R):R/\n0<=lo.length:=by
 unfold leK at h
 split at h
 ·exact⟨h,Nat.zero_le _⟩
 ·have h:=qfz h
  rw[Nat.zero_add]at h
  split at h
  ·rename_i hb; exact⟨h,Nat.le_of_ble_eq_true hb⟩
  ·exact h.elim
theorem zg7 {inl:List Nat} {m:Bool} {n0:Nat} {all:List Oper} {o:Oper} {E:Env} {lo:List AObj} {R:Env->List AObj->Prop} (h0:m=false->n0=0) (h:zor P inl m n0 N all o E lo R) :
  ∃ E' lo',quz P inl inl m n0 N all.toArray o (qb7 E) lo (qb7 E') lo'/\R E' lo':=by
 have plain:qqv inl o=qw4 o.op->qv5 inl o=false->(ze8 P inl m n0 N all o E lo R)->∃ E' lo',quz P inl inl m n0 N all.toArray o (qb7 E) lo (qb7 E') lo'/\R E' lo':=by
  intro e hst h
  cases m with
  | false=>
   obtain rfl:=h0 rfl
   obtain⟨E',lo',st,h⟩:=zdk h
   refine⟨E',lo',?_,h⟩
   obtain⟨g,fv,h1,h2,h3,h4⟩:=st
   refine⟨g,fv,h1,h2,h3,?_⟩
   simp only[qxn]at h4
   simp only[e]
   rcases h4 with ⟨a,b,c,d⟩|⟨a,b,c,d⟩|h4
   ·exact .inl ⟨a,b,c,fun h=>by cases h⟩
   ·exact .inr (.inl ⟨a,b,c,d.1,fun h=>by cases h⟩)
   ·exact .inr (.inr h4)
  | true=>
   obtain⟨E',lo',st,h⟩:=zg8 hst h
   refine⟨E',lo',?_,h⟩
   unfold quz at st ⊢
   simp only[qxn]at st
   simp only[e]
   exact st
 unfold zor at h
 split at h
 ·rename_i f xs ts hop
  split at h
  ·rename_i hm
   split at h
   ·rename_i hg
    obtain⟨vs,h,hvs⟩:=qsm h
    obtain⟨r,lo',hc,h⟩:=h
    obtain⟨h,hle⟩:=zls h
    obtain⟨hd,E',hE,h⟩:=qha h
    refine⟨E',lo',⟨none,r,by simp[qr8,hg],hd,hE,.inl ⟨by simp[qqv,hop,hm],rfl,?_,fun _ _=>⟨hle,fun hmild=>by simp[hop,zeu,zcw,qv5]at hmild⟩⟩⟩,h⟩
    intro _ bs ρ H w eval s hx
    have rl:=hvs ρ H eval trivial (fun x hm'=>hx x (by rw[hop]; simp[Op.operands,Call.operands,hm']))
    have:=hc bs ρ H w _ s rl
    have hf:eval (.func f)=.func (.func f) #[] #[]:=by
     have:=hx (.func f) (by rw[hop]; simp[Op.operands,Call.operands])
     simpa[evF,qcc,qcp]using this
    simp only[execOp,hop,resolve,Deferred.ofValue,invoke,hf,Sem.run_bind,Sem.run_pure,Result.andThen_ok,List.map_toArray,Array.empty_append,Array.append_empty]
    generalize (callFunc f (List.map eval xs).toArray).run P w=x at *
    cases x with
    | ok n w'=>
     cases n<;>simp only at this<;>simp only[zd2]
     case value v=>
      obtain⟨r',lo2,af,rfl,rfl⟩:=this
      exact af
     case enter f' args'=>
      obtain⟨rfl,hcc⟩:=this
      exact hcc.mono fun en w'' ⟨v,r',lo2,e,af,e1,e2⟩=>by subst e1; subst e2; exact⟨v,e,af⟩
     all_goals exact this.elim
    | halt x w'=>exact this.elim
   ·exact h.elim
  ·rename_i hm
   exact plain (by simp only[qqv,hop,qw4]; simpa using hm) (by simp[qv5,hop]) h
 ·rename_i t xs ts hop
  split at h
  ·exact h.elim
  ·rename_i hm
   exact plain (by simp only[qqv,hop,qw4]; simpa using hm) (by simp[qv5,hop]) h
 ·rename_i t n parts hop
  split at h
  ·rename_i hown
   split at h
   ·rename_i hg
    obtain⟨fv,lo',h,hr,hs⟩:=q1b h
    obtain⟨hd,E',hE,h⟩:=qha h
    have hmo:zeu o.op=true:=by simp[hop,zeu]
    refine⟨E',lo',⟨none,fv,by simp[qr8,hg],hd,hE,.inl ⟨by simp[qqv,hop,hown],rfl,?_,qg4.ok (fun _=>by simp[qv5,hop]) (by rw[hmo]; exact hr)⟩⟩,h⟩
    intro _ bs ρ H w eval s hx
    obtain⟨v,w',hr,af⟩:=hs bs ρ H w eval s (fun x hx'=>hx x (by rw[hop]; simpa[Op.operands]using hx'))
    simp only[execOp,hop,List.map_toArray,Sem.run_bind,hr,Result.andThen_ok,Sem.run_pure]
    exact af
   ·exact h.elim
  ·rename_i hm
   exact plain (by simp only[qqv,hop,qw4]; simpa using hm) (by simp[qv5,hop]) h
 ·rename_i sr d x hop
  split at h
  ·exact h.elim
  ·rename_i hm
   exact plain (by simp only[qqv,hop,qw4]; simpa using hm) (by simp[qv5,hop]) h
 ·rename_i t a x hop
  split at h
  ·rename_i hs0
   split at h
   ·rename_i hg
    obtain⟨fv,lo',h,hr,hs⟩:=zcn (m:=m) (n0:=n0) hop h
    obtain⟨hd,E',hE,h⟩:=qha h
    exact⟨E',lo',⟨none,fv,by simp[qr8,hg],hd,hE,.inl ⟨by simp[qqv,hop,qw4],rfl,hs,hr⟩⟩,h⟩
   ·exact h.elim
  ·rename_i hm
   exact plain (by simp[qqv,hop]) (by simpa[qv5,hop]using hm) h
 ·rename_i hne1 hne2 hne3 hne5 hne4
  have e1:qqv inl o=qw4 o.op:=by
   unfold qqv
   split
   ·rename_i f xs ts hop; exact absurd hop (hne1 f xs.toList ts)
   ·rename_i f xs ts hop; exact absurd hop (hne2 f xs.toList ts)
   ·rename_i t n parts hop; exact absurd hop (hne3 t n parts.toList)
   ·rename_i sr d x hop; exact absurd hop (hne5 sr d x)
   ·rfl
  refine plain e1 ?_ h
  unfold qv5
  split
  ·rename_i t a x hop; exact absurd hop (hne4 t a x)
  ·rfl
theorem ze9 {inl:List Nat} {m:Bool} {n0:Nat} (hm0:m=false->n0=0) {K:(Nat->FV)->List AObj->Prop} {K':Env->List AObj->Prop} {all:List Oper} (hK:∀ E lo,K' E lo->K (qb7 E) lo) :
  ∀ (l:List Oper) (k:Nat) (listed:Array Bool) (E:Env) (lo:List AObj),(∀ j,l[j]? =all[k+j]?)->(m=true->n0<=lo.length) ->
  Region.lexFrom .any all.toArray l.length k listed=true->Region.effFrom inl m all.toArray l.length k listed=true->zdl P inl m n0 N all K' l E lo->zo0 P inl m n0 N all.toArray K l.length listed (qb7 E) lo
 | [],_,_,E,lo,_,_,hB,_,h=>⟨by simpa[Region.lexFrom]using hB,hK E lo h⟩
 | o::l,k,listed,E,lo,hl,hn,hB,hF,h=>by
  have h0:all.toArray[k]? =some o:=by have:=hl 0; simpa using this.symm
  simp only[List.length_cons,Region.lexFrom,Region.effFrom,Bool.and_eq_true]at hB hF
  obtain⟨⟨hr,hf⟩,hB'⟩:=hB
  obtain⟨E',lo',st,h⟩:=zg7 hm0 h
  refine zga h0 l.length listed (qb7 E) (qb7 E') lo lo' (fun j oj hj hne hun hno=>⟨Region.free_spec h0 hf j oj hj hne hun hno,zb8 h0 hF.1 j oj hj hne hun hno⟩) hn (by simpa using hr) st ?_
  exact ze9 hm0 hK l (k+1) _ E' lo' (fun j=>by have:=hl (j+1); simpa[Nat.add_assoc,Nat.add_comm 1 j]using this) (st.grow hn) hB' hF.2 h
theorem q1r {inl:List Nat} {mm:Bool} {n0:Nat} {bs:Base} {ρ:List Value} {H:PH} {E:Env} {lo:List AObj} {a:Act} {w:World} {K:Env->List AObj->Prop} {id:Nat} {l:List Oper} (hm:P.follows .mixedOrders=true) (hm0:mm=false->n0=0) (hn:mm=true->n0<=lo.length)
  (hB:zfi inl mm l.toArray=true) (hQ:∀ ρ H E lo a w,Sat bs N ρ H (qb7 E) lo a w->K E lo->Q .normal a w) (s:Sat bs N ρ H (qb7 E) lo a w) (h:zdl P inl mm n0 N l K l E lo):(Code.region id l.toArray true).wp P Q a w:=by
 simp only[zfi,Go.Region.lexB,Bool.and_eq_true]at hB
 have s':Sat bs N ρ H (qb7 E) lo a { w with drawn:=w.drawn+1 }:=by
  refine{ (s.toSatW.calm (H':=H) (w':={ w with drawn:=w.drawn+1 }) ⟨PH.le.refl H,⟨s.sath.cell,s.sath.root⟩,⟨rfl,rfl,rfl,Nat.le_refl _,fun _ _ _=>rfl⟩,fun b o v h=>.inl ⟨v,h⟩⟩)with slots:=s.slots,width:=s.width,defers:=s.defers }
 refine wp_region_any hm (q1t (inl:=inl) (m:=mm) (n0:=n0) (K:=fun e lo=>∃ E,qb7 E=e/\K E lo) (fun ρ H e lo a w s ⟨E,hE,hk⟩=>hQ ρ H E lo a w (by rw[hE]; exact s) hk) _ _ ρ H (qb7 E) lo a _ s' ?_)
 have:=ze9 (P:=P) (inl:=inl) (m:=mm) (n0:=n0) (N:=N) hm0 (K:=fun e lo=>∃ E,qb7 E=e/\K E lo) (K':=K) (fun E lo hk=>⟨E,rfl,hk⟩) l 0 (Array.replicate l.toArray.size false) E lo (by simp) hn (by simpa using hB.1.2) (by simpa using hB.2) h
 simpa using this
end
end Ax
end
section
namespace Ax
open Go
abbrev KA:=AX->Env->List AObj->Prop
def zkz (x:AX) (e:Exit):Prop:=
 match x,e with
 | .normal,.normal=>True
 | .exit i,.exit j=>i=j
 | .ret,.ret=>True
 | _,_=>False
def zhx (bs:Base) (N:Nat) (K:KA):Exit->Act->World->Prop:=fun e a w=>∃ x ρ H E lo,zkz x e/\Sat bs N ρ H (qb7 E) lo a w/\K x E lo
def qqh (inl:List Nat):Code->Bool
 | .seq a b=>qqh inl a&&qqh inl b
 | .cond _ t e=>qqh inl t&&qqh inl e
 | .block _ c=>qqh inl c
 | .loop c=>qqh inl c
 | .region id ops d=>!d||zfi inl (zjv inl id) ops
 | _=>true
def WpA (P:Program) (N nb:Nat) (c:Code) (K:KA) (E:Env) (lo:List AObj):Prop:=
 ∀ (bs:Base) (ρ:List Value) (H:PH) (a:Act) (w:World),bs.r0.length=nb->Sat bs N ρ H (qb7 E) lo a w->c.wp P (zhx bs N K) a w
def qby (P:Program) (inl:List Nat) (N nb:Nat) (body:Code) (K:KA) (E:Env) (lo:List AObj):Prop:=
 P.follows .mixedOrders=true->qqh inl body=true->WpA P N nb (.loop body) K E lo
def qje (P:Program) (inl:List Nat) (N nb:Nat) (a b:Code) (K:KA) (E:Env) (lo:List AObj):Prop:=
 P.follows .mixedOrders=true->qqh inl a=true->qqh inl b=true->WpA P N nb (.seq a b) K E lo
def q6a (id:Nat):Code->Nat
 | .seq a b=>q6a id a+q6a id b
 | .cond _ t e=>q6a id t+q6a id e
 | .block _ c=>q6a id c
 | .loop c=>q6a id c
 | .exit i=>match Nat.beq i id with|true=>1|false=>0
 | _=>0
def zg9:Code->Nat
 | .seq a b=>match zg9 a with|0=>0|_=>zg9 b
 | .cond _ t e=>zg9 t+zg9 e
 | .block id c=>zg9 c+q6a id c
 | .loop _=>0
 | .exit _=>0
 | .ret=>0
 | _=>1
def zm1:Code->Bool
 | .cond _ _ _=>true
 | .seq _ b=>zm1 b
 | _=>false
def zqx (inl:List Nat) (a:Code):Bool:=match zaz inl 1000000 with
 | true=>(match Nat.ble 2 (zg9 a)with
  | true=>true
  | false=>match zaz inl 1000001 with
   | true=>zm1 a
   | false=>false)
 | false=>false
def vc (P:Program) (inl:List Nat) (N nb:Nat):Code->KA->Env->List AObj->Prop
 | .skip,K,E,lo=>K .normal E lo
 | .seq a b,K,E,lo=>match zqx inl a with
  | true=>qje P inl N nb a b K E lo
  | false=>vc P inl N nb a (fun x E lo=>match x with|.normal=>vc P inl N nb b K E lo|.exit i=>K (.exit i) E lo|.ret=>K .ret E lo) E lo
 | .cond c t e,K,E,lo=>ev E c fun v=>match v with
  | .p (.bool b)=>(b=true->vc P inl N nb t K E lo)/\(b=false->vc P inl N nb e K E lo)
  | _=>False
 | .block id c,K,E,lo=>vc P inl N nb c (fun x E lo=>match x with
   | .exit i=>(match Nat.beq i id with|true=>K .normal E lo|false=>K (.exit i) E lo)
   | .normal=>K .normal E lo
   | .ret=>K .ret E lo) E lo
 | .exit id,K,E,lo=>K (.exit id) E lo
 | .ret,K,E,lo=>K .ret E lo
 | .region id ⟨ops⟩ d,K,E,lo=>match d with
  | false=>zf9 P inl N ops (K .normal) ops E lo
  | true=>match zjv inl id with
   | false=>zdl P inl false 0 N ops (K .normal) ops E lo
   | true=>q4r lo 0 fun n0=>zdl P inl true n0 N ops (K .normal) ops E lo
 | .loop body,K,E,lo=>qby P inl N nb body K E lo
 | c,K,E,lo=>WpA P N nb c K E lo
theorem zhx.mono {bs:Base} {N:Nat} {K K':KA} (h:∀ x E lo,K x E lo->K' x E lo) {e:Exit} {a:Act} {w:World} (p:zhx bs N K e a w):zhx bs N K' e a w:=
 let ⟨x,ρ,H,E,lo,hx,s,k⟩:=p
 ⟨x,ρ,H,E,lo,hx,s,h x E lo k⟩
theorem WpA.mono {P:Program} {N nb:Nat} {c:Code} {K K':KA} {E:Env} {lo:List AObj} (h:∀ x E lo,K x E lo->K' x E lo) (w:WpA P N nb c K E lo):WpA P N nb c K' E lo:=
 fun bs ρ H a ww hb s=>wp_mono (w bs ρ H a ww hb s) fun _ _ _ p=>p.mono h
theorem qmj {P:Program} {inl:List Nat} (hm:P.follows .mixedOrders=true) {N nb:Nat}:∀ (c:Code) (K:KA) (E:Env) (lo:List AObj),qqh inl c=true->vc P inl N nb c K E lo->WpA P N nb c K E lo
 | .skip,K,E,lo,_,h=>fun bs ρ H a w hb s=>wp_skip ⟨.normal,ρ,H,E,lo,trivial,s,h⟩
 | .seq x y,K,E,lo,hd,h=>fun bs ρ H a w hb s=>by
  simp only[qqh,Bool.and_eq_true]at hd
  simp only[vc]at h
  split at h
  ·exact h hm hd.1 hd.2 bs ρ H a w hb s
  refine wp_seq (wp_mono (qmj hm x _ E lo hd.1 h bs ρ H a w hb s) fun e a w p=>?_)
  obtain⟨x',ρ',H',E',lo',hx,s',k⟩:=p
  cases x'<;>cases e<;>simp only[zkz]at hx
  ·exact qmj hm y K E' lo' hd.2 k bs ρ' H' a w hb s'
  ·exact⟨.exit _,ρ',H',E',lo',hx,s',k⟩
  ·exact⟨.ret,ρ',H',E',lo',trivial,s',k⟩
 | .cond c t e,K,E,lo,hd,h=>fun bs ρ H a w hb s=>by
  simp only[qqh,Bool.and_eq_true]at hd
  simp only[vc,zal]at h
  have hc:=qs8 s.slots c
  split at h
  ·rename_i b hbv
   rw[hbv]at hc
   exact wp_cond_split (qso hc) (fun hc'=>qmj hm t K E lo hd.1 (h.1 hc') bs ρ H a w hb s) (fun hc'=>qmj hm e K E lo hd.2 (h.2 hc') bs ρ H a w hb s)
  ·exact h.elim
 | .block id c,K,E,lo,hd,h=>fun bs ρ H a w hb s=>by
  refine wp_block (wp_mono (qmj hm c _ E lo hd h bs ρ H a w hb s) fun e a w p=>?_)
  obtain⟨x',ρ',H',E',lo',hx,s',k⟩:=p
  cases x'<;>cases e<;>simp only[zkz]at hx
  ·exact⟨.normal,ρ',H',E',lo',trivial,s',k⟩
  ·rename_i i j
   subst hx
   simp only[Exit.inBlock]
   by_cases hi:i=id
   ·subst hi
    simp only[Nat.beq_refl]at k
    simp only[if_true]
    exact⟨.normal,ρ',H',E',lo',trivial,s',k⟩
   ·have:Nat.beq i id=false:=by
     cases hb:Nat.beq i id with
     | false=>rfl
     | true=>exact absurd (Nat.eq_of_beq_eq_true hb) hi
    simp only[this]at k
    simp only[hi,if_false]
    exact⟨.exit i,ρ',H',E',lo',rfl,s',k⟩
  ·exact⟨.ret,ρ',H',E',lo',trivial,s',k⟩
 | .exit id,K,E,lo,_,h=>fun bs ρ H a w hb s=>wp_exit ⟨.exit id,ρ,H,E,lo,rfl,s,h⟩
 | .ret,K,E,lo,_,h=>fun bs ρ H a w hb s=>wp_ret ⟨.ret,ρ,H,E,lo,trivial,s,h⟩
 | .region id ⟨ops⟩ d,K,E,lo,hd,h=>fun bs ρ H a w hb s=>by
  have hQ:∀ ρ H E lo a w,Sat bs N ρ H (qb7 E) lo a w->K .normal E lo->zhx bs N K .normal a w:=fun ρ H E lo a w s k=>⟨.normal,ρ,H,E,lo,trivial,s,k⟩
  cases d with
  | false=>exact q8f (P:=P) (l:=ops) hQ s h
  | true=>
   have hB:zfi inl (zjv inl id) ops.toArray=true:=by simpa[qqh]using hd
   simp only[vc]at h
   split at h
   ·rename_i hl
    rw[hl]at hB
    exact q1r hm (fun _=>rfl) (fun h=>by cases h) hB hQ s h
   ·rename_i hl
    rw[hl]at hB
    have h:=qfz h
    rw[Nat.zero_add]at h
    exact q1r hm (fun h=>by cases h) (fun _=>Nat.le_refl _) hB hQ s h
 | .loop body,K,E,lo,hd,h=>h hm hd
 | .rangeFunc ..,K,E,lo,_,h=>h
 | .scope _,K,E,lo,_,h=>h
 | .label _,K,E,lo,_,h=>h
 | .goto _,K,E,lo,_,h=>h
 | .refuse _,K,E,lo,_,h=>h
def FV.ren (π:Nat->Nat):FV->FV
 | .opt g v=>.opt g (v.ren π)
 | .tsl k rows=>.tsl (π k) rows
 | .ptr k off=>.ptr (π k) off
 | .bself k=>.bself (π k)
 | .bsl k off len cp=>.bsl (π k) off len cp
 | .vsl k n=>.vsl (π k) n
 | .eptr k z i off=>.eptr (π k) z i off
 | .mref k=>.mref (π k)
 | .pair a b=>.pair (a.ren π) (b.ren π)
 | .stmp k=>.stmp (π k)
 | .clo f c=>.clo f (c.ren π)
 | .cap a b=>.cap (a.ren π) (b.ren π)
 | .fagg c=>.fagg (c.ren π)
 | v=>v
def leF (π:Nat->Nat) (fresh:List Nat) (v v':FV):Prop:=
 match v' with
 | .top=>True
 | .p p'=>match v with
  | .p p=>p=p'\/nle p p'
  | .tsl _ rows=>PV.sl rows=p'
  | _=>False
 | .tsl k' rows'=>match v with
  | .tsl k rows=>k=π k'/\rows=rows'/\k' ∉ fresh
  | .p .nilsl=>rows'=[]/\k'∈fresh
  | _=>False
 | .ptr k' off'=>match v with
  | .ptr k off=>k=π k'/\off=off'/\k' ∉ fresh
  | _=>False
 | .bself k'=>match v with
  | .bself k=>k=π k'/\k' ∉ fresh
  | .ptr k off=>k=π k'/\off=0/\k' ∉ fresh
  | _=>False
 | .bsl k' off' len' cap'=>match v with
  | .bsl k off len cap=>k=π k'/\off=off'/\len=len'/\cap=cap'/\k' ∉ fresh
  | _=>False
 | .hptr row'=>match v with
  | .hptr row=>row=row'
  | _=>False
 | .vsl k' n'=>match v with
  | .vsl k n=>k=π k'/\n=n'/\k' ∉ fresh
  | .p .nilsl=>n'=0/\k'∈fresh
  | _=>False
 | .eptr k' z' i' off'=>match v with
  | .eptr k z i off=>k=π k'/\z=z'/\i=i'/\off=off'/\k' ∉ fresh
  | _=>False
 | .mref k'=>match v with
  | .mref k=>k=π k'/\k' ∉ fresh
  | _=>False
 | .pair a' b'=>match v with
  | .pair a b=>leF π fresh a a'/\leF π fresh b b'
  | _=>False
 | .stmp k'=>match v with
  | .stmp k=>k=π k'/\k' ∉ fresh
  | _=>False
 | .clo f' c'=>match v with
  | .clo f c=>f=f'/\leF π fresh c c'
  | _=>False
 | .cap0=>match v with
  | .cap0=>True
  | _=>False
 | .cap a' b'=>match v with
  | .cap a b=>leF π fresh a a'/\leF π fresh b b'
  | _=>False
 | .fagg c'=>match v with
  | .fagg c=>leF π fresh c c'
  | _=>False
 | .nxt ok' a' b'=>match v with
  | .nxt ok a b=>ok=ok'/\a=a'/\b=b'
  | _=>False
 | .opt _ _=>False
def leC (π:Nat->Nat) (fresh:List Nat) (k':Nat) (v v':FV):Prop:=
 match v,v' with
 | .p .nilp,.bself k=>k=k'/\k ∉ fresh
 | v,v'=>leF π fresh v v'
def qqm (π:Nat->Nat) (fresh:List Nat) (k':Nat) (o o':AObj):Prop:=
 match o' with
 | .dead=>True
 | .box t' cells'=>match o with
  | .box t cells=>t=t'/\cells.length=cells'.length/\∀ (i:Nat) (c c':FV),cells[i]? =some c->cells'[i]? =some c'->leC π fresh k' c c'
  | _=>False
 | .tail e z n=>o=.tail e z n
 | .vec e z rows=>o=.vec e z rows
 | .mp d es mk'=>mk'=none/\∃ mk,o=.mp d es mk
 | .sit l p=>o=.sit l p
 | .bv l=>o=.bv l
structure Weak (nb:Nat) (E:Env) (lo:List AObj) (E':Env) (lo':List AObj) (π:Nat->Nat) (fresh:List Nat):Prop where
 bounds:∀ k,k<lo'.length->k ∉ fresh->π k<lo.length
 keep:∀ k,k<nb->π k=k/\k ∉ fresh
 nb:nb<=lo'.length
 inj:∀ i j,i<lo'.length->j<lo'.length->i ∉ fresh->j ∉ fresh->π i=π j->i=j
 frsh:∀ k,k∈fresh->∃ e z,lo'[k]? =some (.tail e z 0)\/lo'[k]? =some (.vec e z [])
 obj:∀ k o',lo'[k]? =some o'->k ∉ fresh->∃ o,lo[π k]? =some o/\qqm π fresh k o o'
 slot:∀ t v,(t,v)∈E'->leF π fresh (qb7 E t) v
theorem zcr:∀ {E:Env} {t:Nat},qb7 E t=.top\/(t,qb7 E t)∈E
 | [],t=>.inl rfl
 | (t',v)::E,t=>by
  simp only[qb7]
  cases hb:Nat.beq t t' with
  | true=>
   have:=Nat.eq_of_beq_eq_true hb
   subst this
   exact .inr (by simp)
  | false=>
   rcases zcr (E:=E) (t:=t)with h|h
   ·exact .inl h
   ·exact .inr (by simp[h])
def zdq (ρ:List Value) (π:Nat->Nat) (fresh:List Nat) (n:Nat):List Value:=(List.range n).map fun k=>if k∈fresh then .slice none 0 0 else ρ.getD (π k) undef
theorem qk5 {ρ:List Value} {π:Nat->Nat} {fresh:List Nat} {n k:Nat} (h:k<n):(zdq ρ π fresh n)[k]? =some (if k∈fresh then .slice none 0 0 else ρ.getD (π k) undef):=by
 simp[zdq,h]
def FV.names:FV->List Nat
 | .opt _ v=>v.names
 | .tsl k _=>[k]
 | .ptr k _=>[k]
 | .bself k=>[k]
 | .bsl k _ _ _=>[k]
 | .vsl k _=>[k]
 | .eptr k _ _ _=>[k]
 | .mref k=>[k]
 | .pair a b=>a.names++b.names
 | .stmp k=>[k]
 | .clo _ c=>c.names
 | .fagg c=>c.names
 | .cap a b=>a.names++b.names
 | _=>[]
theorem zep {ρ:List Value} {H:PH} {π:Nat->Nat} {fresh:List Nat} {n:Nat} {v v':FV} {x:Value} (h:leF π fresh v v') (hn:∀ k∈v'.names,k<n) (r:qcc ρ H v x) :
  qcc (zdq ρ π fresh n) H v' x:=by
 induction v' generalizing v x with
 | top=>trivial
 | p p'=>
  cases v<;>simp only[leF]at h
  ·rename_i p
   rcases h with rfl|h
   ·exact r
   ·exact q6o h r
  ·subst h; exact r.2
 | opt g v' _=>simp[leF]at h
 | tsl k' rows'=>
  have hk:=hn k' (by simp[FV.names])
  cases v<;>simp only[leF]at h
  ·rename_i p
   cases p<;>simp only at h
   obtain⟨rfl,hf⟩:=h
   simp only[qcc,qcp]at r ⊢
   subst r
   exact⟨by rw[qk5 hk]; simp[hf],.inl ⟨trivial,.inl rfl⟩⟩
  ·rename_i k rows
   obtain⟨rfl,rfl,hf⟩:=h
   obtain⟨r1,r2⟩:=r
   refine⟨?_,r2⟩
   rw[qk5 hk]
   simp[hf,List.getD_eq_getElem?_getD,r1]
 | ptr k' off'=>
  have hk:=hn k' (by simp[FV.names])
  cases v<;>simp only[leF]at h
  rename_i k off
  obtain⟨rfl,rfl,hf⟩:=h
  obtain⟨b,r1,rfl⟩:=r
  refine⟨b,?_,rfl⟩
  rw[qk5 hk]
  simp[hf,List.getD_eq_getElem?_getD,r1]
 | hptr row=>
  cases v<;>simp only[leF]at h
  rw[h]at r
  exact r
 | bself k'=>
  have hk:=hn k' (by simp[FV.names])
  cases v<;>simp only[leF]at h
  ·rename_i k off
   obtain⟨rfl,rfl,hf⟩:=h
   obtain⟨b,r1,rfl⟩:=r
   refine⟨b,?_,.inr rfl⟩
   rw[qk5 hk]
   simp[hf,List.getD_eq_getElem?_getD,r1]
  ·rename_i k
   obtain⟨rfl,hf⟩:=h
   obtain⟨b,r1,r2⟩:=r
   refine⟨b,?_,r2⟩
   rw[qk5 hk]
   simp[hf,List.getD_eq_getElem?_getD,r1]
 | bsl k' off' len' cap'=>
  have hk:=hn k' (by simp[FV.names])
  cases v<;>simp only[leF]at h
  rename_i k off len cap
  obtain⟨rfl,rfl,rfl,rfl,hf⟩:=h
  obtain⟨b,r1,rfl⟩:=r
  refine⟨b,?_,rfl⟩
  rw[qk5 hk]
  simp[hf,List.getD_eq_getElem?_getD,r1]
 | vsl k' n'=>
  have hk:=hn k' (by simp[FV.names])
  cases v<;>simp only[leF]at h
  ·rename_i p
   cases p<;>simp only at h
   obtain⟨rfl,hf⟩:=h
   simp only[qcc,qcp]at r ⊢
   subst r
   exact⟨by rw[qk5 hk]; simp[hf],.inl ⟨trivial,rfl⟩⟩
  ·rename_i k n
   obtain⟨rfl,rfl,hf⟩:=h
   obtain⟨r1,r2⟩:=r
   refine⟨?_,r2⟩
   rw[qk5 hk]
   simp[hf,List.getD_eq_getElem?_getD,r1]
 | eptr k' z' i' off'=>
  have hk:=hn k' (by simp[FV.names])
  cases v<;>simp only[leF]at h
  rename_i k z i off
  obtain⟨rfl,rfl,rfl,rfl,hf⟩:=h
  obtain⟨b,n,cap,r1,rfl⟩:=r
  refine⟨b,n,cap,?_,rfl⟩
  rw[qk5 hk]
  simp[hf,List.getD_eq_getElem?_getD,r1]
 | mref k'=>
  have hk:=hn k' (by simp[FV.names])
  cases v<;>simp only[leF]at h
  rename_i k
  obtain⟨rfl,hf⟩:=h
  obtain⟨b,r1,rfl⟩:=r
  refine⟨b,?_,rfl⟩
  rw[qk5 hk]
  simp[hf,List.getD_eq_getElem?_getD,r1]
 | pair a' b' iha ihb=>
  cases v<;>simp only[leF]at h
  obtain⟨u,w,rfl,ra,rb⟩:=r
  exact⟨u,w,rfl,iha h.1 (fun k hk=>hn k (by simp[FV.names,hk])) ra,ihb h.2 (fun k hk=>hn k (by simp[FV.names,hk])) rb⟩
 | stmp k'=>
  have hk:=hn k' (by simp[FV.names])
  cases v<;>simp only[leF]at h
  rename_i k
  obtain⟨rfl,hf⟩:=h
  simp only[qcc]at r ⊢
  rw[qk5 hk]
  simp[hf,List.getD_eq_getElem?_getD,r]
 | clo f' c' ih=>
  cases v<;>simp only[leF]at h
  obtain⟨rfl,h⟩:=h
  obtain⟨vs,rfl,rc⟩:=r
  exact⟨vs,rfl,ih h (fun k hk=>hn k (by simp[FV.names,hk])) rc⟩
 | cap0=>
  cases v<;>simp only[leF]at h
  exact r
 | fagg c' ih=>
  cases v<;>simp only[leF]at h
  obtain⟨vs,rfl,rc⟩:=r
  exact⟨vs,rfl,ih h (fun k hk=>hn k (by simp[FV.names,hk])) rc⟩
 | nxt ok' a' b'=>
  cases v<;>simp only[leF]at h
  obtain⟨rfl,rfl,rfl⟩:=h
  exact r
 | cap a' b' iha ihb=>
  cases v<;>simp only[leF]at h
  obtain⟨u,w,rfl,ra,rb⟩:=r
  exact⟨u,w,rfl,iha h.1 (fun k hk=>hn k (by simp[FV.names,hk])) ra,ihb h.2 (fun k hk=>hn k (by simp[FV.names,hk])) rb⟩
theorem znx {ρ:List Value} {H:PH} {π:Nat->Nat} {fresh:List Nat} {n k' b:Nat} {v v':FV} {x:Value} (hk:(zdq ρ π fresh n)[k']? =some (.pointer (some ⟨b,0,none⟩))) (h:leC π fresh k' v v') (hn:∀ k∈v'.names,k<n) (r:qcc ρ H v x) :
  qcc (zdq ρ π fresh n) H v' x:=by
 unfold leC at h
 split at h
 ·obtain⟨rfl,_⟩:=h
  simp only[qcc,qcp]at r
  exact⟨b,hk,.inl r⟩
 ·exact zep h hn r
theorem qd9.le {ρ:List Value} {H:PH} {π:Nat->Nat} {fresh:List Nat} {n k' b:Nat} (hk:(zdq ρ π fresh n)[k']? =some (.pointer (some ⟨b,0,none⟩))):∀ {cs cs':List FV} {vs:List Value},cs.length=cs'.length ->
  (∀ (i:Nat) (c c':FV),cs[i]? =some c->cs'[i]? =some c'->leC π fresh k' c c')->(∀ c∈cs',∀ k∈c.names,k<n)->qd9 ρ H cs vs->qd9 (zdq ρ π fresh n) H cs' vs
 | [],[],vs,_,_,_,r=>r
 | [],_::_,_,h,_,_,_=>by simp at h
 | _::_,[],_,h,_,_,_=>by simp at h
 | c::cs,c'::cs',vs,hl,hle,hn,r=>by
  obtain⟨v,vs',rfl,r1,rs⟩:=r
  exact⟨v,vs',rfl,znx hk (hle 0 c c' rfl rfl) (hn c' (by simp)) r1,qd9.le hk (by simpa using hl) (fun i=>hle (i+1)) (fun c hc=>hn c (by simp[hc])) rs⟩
def zj0 (E:Env) (lo:List AObj):Prop:=(∀ t v,(t,v)∈E->∀ k∈v.names,k<lo.length)/\∀ t cells,AObj.box t cells∈lo->∀ c∈cells,∀ k∈c.names,k<lo.length
theorem Sat.weak {bs:Base} {N:Nat} {ρ:List Value} {H:PH} {E E':Env} {lo lo':List AObj} {a:Act} {w:World} {π:Nat->Nat} {fresh:List Nat} (s:Sat bs N ρ H (qb7 E) lo a w)
  (h:Weak bs.r0.length E lo E' lo' π fresh) (hn:zj0 E' lo'):Sat bs N (zdq ρ π fresh lo'.length) H (qb7 E') lo' a w:=by
 have get:∀ {k:Nat} {v:Value},(zdq ρ π fresh lo'.length)[k]? =some v->k<lo'.length/\((k∈fresh/\v=.slice none 0 0)\/(k ∉ fresh/\ρ[π k]? =some v)):=by
  intro k v hv
  have hk:k<lo'.length:=by have:=(List.getElem?_eq_some_iff.1 hv).1; simpa[zdq]using this
  rw[qk5 hk]at hv
  refine⟨hk,?_⟩
  by_cases hf:k∈fresh
  ·simp[hf]at hv; exact .inl ⟨hf,hv.symm⟩
  ·simp only[hf,if_false]at hv
   refine .inr ⟨hf,?_⟩
   have:=h.bounds k hk hf
   rw[← s.hlen]at this
   rw[List.getD_eq_getElem?_getD,List.getElem?_eq_getElem this]at hv
   rw[List.getElem?_eq_getElem this]
   simpa using hv
 refine{ sath:=s.sath,hlen:=by simp[zdq],pre:=?_,objs:=?_,excl:=?_,own:=?_,keep:=s.keep,leH:=s.leH,newH:=s.newH,slots:=?_,width:=s.width,defers:=s.defers }
 ·obtain⟨l,hl⟩:=s.pre
  have hlen:bs.r0.length<=lo'.length:=h.nb
  have:(zdq ρ π fresh lo'.length).take bs.r0.length=bs.r0:=by
   refine List.ext_getElem? fun i=>?_
   rw[List.getElem?_take]
   split
   ·rename_i hi
    rw[qk5 (by omega)]
    obtain⟨e1,e2⟩:=h.keep i hi
    simp only[e2,if_false,e1]
    rw[List.getD_eq_getElem?_getD,← hl,List.getElem?_append_left hi,List.getElem?_eq_getElem hi]
    rfl
   ·rename_i hi
    rw[List.getElem?_eq_none (by omega)]
  rw[← this]
  exact List.take_prefix _ _
 ·intro k o v hk hv
  obtain⟨hlt,hc⟩:=get hv
  rcases hc with ⟨hf,rfl⟩|⟨hf,hρ⟩
  ·obtain⟨e,z,he⟩:=h.frsh k hf
   rw[hk]at he
   rcases he with he|he
   ·cases he
    exact⟨[],World.ownsRow_nil w 0 e z,fun b hb=>by simp[qcs]at hb⟩
   ·cases he
    exact⟨[],World.ownsRow_nil w 0 e z,rfl,fun u hu=>(by cases hu),fun b hb=>by simp[qcs]at hb⟩
  ·obtain⟨o0,ho0,hle⟩:=h.obj k o hk hf
   have hob:=s.objs _ _ _ ho0 hρ
   cases o with
   | dead=>trivial
   | box t' cells'=>
    cases o0<;>simp only[qqm]at hle
    rename_i t cells
    obtain⟨rfl,hl,hcs⟩:=hle
    obtain⟨b,vs,rfl,hg,rc,hH⟩:=hob
    exact⟨b,vs,rfl,hg,rc.le hv hl hcs (fun c hc k hk'=>hn.2 _ _ (List.mem_of_getElem? hk) c hc k hk'),hH⟩
   | tail e z n=>
    simp only[qqm]at hle
    subst hle
    exact hob
   | vec e z rows=>
    simp only[qqm]at hle
    subst hle
    exact hob
   | mp d es mk'=>
    simp only[qqm]at hle
    obtain⟨rfl,mk,rfl⟩:=hle
    obtain⟨b,ents,clock,rfl,hg,hr',⟨h1,h2,_⟩,hh⟩:=hob
    exact⟨b,ents,clock,rfl,hg,hr',⟨h1,h2,fun key s e=>by cases e⟩,hh⟩
   | sit l p=>
    simp only[qqm]at hle
    subst hle
    exact hob
   | bv l=>
    simp only[qqm]at hle
    subst hle
    exact hob
 ·intro i j oi oj vi vj b hi hj hvi hvj hne hli hlj hb hb'
  obtain⟨h1,c1⟩:=get hvi
  obtain⟨h2,c2⟩:=get hvj
  rcases c1 with ⟨_,rfl⟩|⟨f1,r1⟩
  ·simp[qcs]at hb
  ·rcases c2 with ⟨_,rfl⟩|⟨f2,r2⟩
   ·simp[qcs]at hb'
   ·obtain⟨o1,ho1,l1⟩:=h.obj i oi hi f1
    obtain⟨o2,ho2,l2⟩:=h.obj j oj hj f2
    have live:∀ {k:Nat} {o o':AObj},qqm π fresh k o o'->o'.live=true->o.live=true:=by
     intro k o o' hle hl
     cases o' with
     | dead=>simp[AObj.live]at hl
     | box t c=>cases o<;>simp only[qqm]at hle; rfl
     | tail e z n=>simp only[qqm]at hle; subst hle; rfl
     | vec e z n=>simp only[qqm]at hle; subst hle; rfl
     | mp d es mk=>simp only[qqm]at hle; obtain⟨_,_,rfl⟩:=hle; rfl
     | sit l p=>simp only[qqm]at hle; subst hle; rfl
     | bv l=>simp only[qqm]at hle; subst hle; rfl
    exact s.excl (π i) (π j) o1 o2 vi vj b ho1 ho2 r1 r2 (fun e=>hne (h.inj i j h1 h2 f1 f2 e)) (live l1 hli) (live l2 hlj) hb hb'
 ·intro k o v b hk hv hl hb
  obtain⟨h1,c1⟩:=get hv
  rcases c1 with ⟨_,rfl⟩|⟨f1,r1⟩
  ·simp[qcs]at hb
  ·obtain⟨o1,ho1,l1⟩:=h.obj k o hk f1
   refine s.own (π k) o1 v b ho1 r1 ?_ hb
   cases o with
   | dead=>simp[AObj.live]at hl
   | box t c=>cases o1<;>simp only[qqm]at l1; rfl
   | tail e z n=>simp only[qqm]at l1; subst l1; rfl
   | vec e z n=>simp only[qqm]at l1; subst l1; rfl
   | mp d es mk=>simp only[qqm]at l1; obtain⟨_,_,rfl⟩:=l1; rfl
   | sit l p=>simp only[qqm]at l1; subst l1; rfl
   | bv l=>simp only[qqm]at l1; subst l1; rfl
 ·intro t
  rcases zcr (E:=E') (t:=t)with he|he
  ·rw[he]; trivial
  ·exact zep (h.slot t _ he) (hn.1 t _ he) (s.slots t)
end Ax
end
section
namespace Ax
open Go
def zjr (E:Env) (π:Nat->Nat) (fresh:List Nat):Env->Prop
 | []=>True
 | (t,v)::E'=>zm7 E t (fun u=>leF π fresh u v)/\zjr E π fresh E'
def q2o (π:Nat->Nat) (fresh:List Nat) (k':Nat):List FV->List FV->Prop
 | [],[]=>True
 | c::cs,c'::cs'=>leC π fresh k' c c'/\q2o π fresh k' cs cs'
 | _,_=>False
def zm5 (π:Nat->Nat) (fresh:List Nat) (k':Nat) (o o':AObj):Prop:=
 match o' with
 | .dead=>True
 | .box t' cells'=>match o with
  | .box t cells=>t=t'/\q2o π fresh k' cells cells'
  | _=>False
 | .tail e z n=>match o with
  | .tail e' z' n'=>e'=e/\z'=z/\n'=n
  | _=>False
 | .vec e z rows=>match o with
  | .vec e' z' rows'=>e'=e/\z'=z/\rows'=rows
  | _=>False
 | .mp d es mk=>match o with
  | .mp d' es' _=>mk=none/\d'=d/\es'=es
  | _=>False
 | .sit l p=>match o with
  | .sit l' p'=>l'=l/\p'=p
  | _=>False
 | .bv l=>match o with
  | .bv l'=>l'=l
  | _=>False
def zeq (lo:List AObj) (π:Nat->Nat) (fresh:List Nat):Nat->List AObj->Prop
 | _,[]=>True
 | k,o'::lo'=>(match fresh.contains k with
   | true=>match o' with|.tail _ _ n=>n=0|.vec _ _ rows=>rows=[]|_=>False
   | false=>qy6 (π k) lo fun o=>zm5 π fresh k o o')/\zeq lo π fresh (k+1) lo'
def πOf (l:List Nat):Nat->Nat:=fun k=>l.getD k 0
def zha (nb:Nat) (l fresh:List Nat):Bool:=
 decide (nb<=l.length)&&(List.range nb).all (fun k=>l.getD k 0==k&&!fresh.contains k) &&
 (List.range l.length).all (fun i=>(List.range l.length).all fun j=>fresh.contains i||fresh.contains j||l.getD i 0 != l.getD j 0||i==j) &&
 fresh.all (fun k=>decide (k<l.length))
def qpx (n:Nat):FV->Bool
 | .opt _ v=>qpx n v
 | .tsl k _=>decide (k<n)
 | .ptr k _=>decide (k<n)
 | .bself k=>decide (k<n)
 | .bsl k _ _ _=>decide (k<n)
 | .vsl k _=>decide (k<n)
 | .eptr k _ _ _=>decide (k<n)
 | .mref k=>decide (k<n)
 | .pair a b=>qpx n a&&qpx n b
 | .stmp k=>decide (k<n)
 | .clo _ c=>qpx n c
 | .fagg c=>qpx n c
 | .cap a b=>qpx n a&&qpx n b
 | _=>true
def zcz (n:Nat):Env->Bool
 | []=>true
 | (_,v)::E=>qpx n v&&zcz n E
def q8x (n:Nat):List FV->Bool
 | []=>true
 | v::l=>qpx n v&&q8x n l
def q1k (n:Nat):List AObj->Bool
 | []=>true
 | .box _ cells::l=>q8x n cells&&q1k n l
 | _::l=>q1k n l
def q76 (nb:Nat) (E:Env) (lo:List AObj) (E':Env) (lo':List AObj):Prop:=
 ∃ l fresh:List Nat,(zha nb l fresh=true/\l.length=lo'.length/\zcz lo'.length E'=true/\q1k lo'.length lo'=true)/\zjr E (πOf l) fresh E'/\zeq lo (πOf l) fresh 0 lo'
theorem q8t {E:Env} {π:Nat->Nat} {fresh:List Nat}:∀ {E':Env},zjr E π fresh E'->∀ t v,(t,v)∈E'->leF π fresh (qb7 E t) v
 | [],_,t,v,h=>by simp at h
 | (t',v')::E',h,t,v,hm=>by
  simp only[zjr,qw7]at h
  rcases List.mem_cons.1 hm with e|hm
  ·cases e; exact h.1
  ·exact q8t h.2 t v hm
theorem q3a {π:Nat->Nat} {fresh:List Nat} {k':Nat}:∀ {cs cs':List FV},q2o π fresh k' cs cs'->cs.length=cs'.length/\∀ (i:Nat) (c c':FV),cs[i]? =some c->cs'[i]? =some c'->leC π fresh k' c c'
 | [],[],_=>⟨rfl,fun i c c' h=>by simp at h⟩
 | [],_::_,h=>by simp[q2o]at h
 | _::_,[],h=>by simp[q2o]at h
 | c::cs,c'::cs',h=>by
  simp only[q2o]at h
  obtain⟨h1,h2⟩:=q3a h.2
  refine⟨by simp[h1],fun i d d' hd hd'=>?_⟩
  cases i with
  | zero=>simp at hd hd'; subst hd; subst hd'; exact h.1
  | succ i=>exact h2 i d d' (by simpa using hd) (by simpa using hd')
theorem zjs {π:Nat->Nat} {fresh:List Nat} {k':Nat} {o o':AObj} (h:zm5 π fresh k' o o'):qqm π fresh k' o o':=by
 cases o' with
 | dead=>trivial
 | box t' cells'=>
  cases o<;>simp only[zm5]at h
  exact⟨h.1,q3a h.2⟩
 | tail e z n=>
  cases o<;>simp only[zm5]at h
  obtain⟨rfl,rfl,rfl⟩:=h
  rfl
 | vec e z n=>
  cases o<;>simp only[zm5]at h
  obtain⟨rfl,rfl,rfl⟩:=h
  rfl
 | mp d es mk=>
  cases o<;>simp only[zm5]at h
  obtain⟨rfl,rfl,rfl⟩:=h
  exact⟨rfl,_,rfl⟩
 | sit l p=>
  cases o<;>simp only[zm5]at h
  obtain⟨rfl,rfl⟩:=h
  rfl
 | bv l=>
  cases o<;>simp only[zm5]at h
  subst h
  rfl
theorem q2p {lo:List AObj} {π:Nat->Nat} {fresh:List Nat}:∀ {lo':List AObj} {k:Nat},zeq lo π fresh k lo'->∀ (i:Nat) (o':AObj),lo'[i]? =some o' ->
  (k+i∈fresh->∃ e z,o'=.tail e z 0\/o'=.vec e z [])/\(k+i ∉ fresh->∃ o,lo[π (k+i)]? =some o/\qqm π fresh (k+i) o o')
 | [],_,_,i,o',h=>by simp at h
 | o1::lo',k,h,i,o',ho=>by
  simp only[zeq]at h
  cases i with
  | zero=>
   simp at ho
   subst ho
   simp only[Nat.add_zero]
   cases hf:fresh.contains k with
   | true=>
    simp only[hf]at h
    have hm:k∈fresh:=by simpa using hf
    refine⟨fun _=>?_,fun hn=>absurd hm hn⟩
    have h1:=h.1
    split at h1
    ·rename_i e z n; exact⟨e,z,.inl (by rw[h1])⟩
    ·rename_i e z rows; exact⟨e,z,.inr (by rw[h1])⟩
    ·exact h1.elim
   | false=>
    simp only[hf]at h
    have hm:k ∉ fresh:=by simpa using hf
    refine⟨fun hn=>absurd hn hm,fun _=>?_⟩
    obtain⟨o,ho,hl⟩:=qdt h.1
    exact⟨o,ho,zjs hl⟩
  | succ i=>
   have:=q2p h.2 i o' (by simpa using ho)
   have e:k+1+i=k+(i+1):=by omega
   rwa [e]at this
theorem qk4 {n:Nat}:∀ {v:FV},qpx n v=true->∀ k∈v.names,k<n
 | .opt _ v,h,k,hk=>qk4 (v:=v) h k hk
 | .tsl k' _,h,k,hk=>by simp[FV.names]at hk; subst hk; simpa[qpx]using h
 | .ptr k' _,h,k,hk=>by simp[FV.names]at hk; subst hk; simpa[qpx]using h
 | .top,_,k,hk=>by simp[FV.names]at hk
 | .p _,_,k,hk=>by simp[FV.names]at hk
 | .hptr _,_,k,hk=>by simp[FV.names]at hk
 | .bself k',h,k,hk=>by simp[FV.names]at hk; subst hk; simpa[qpx]using h
 | .bsl k' _ _ _,h,k,hk=>by simp[FV.names]at hk; subst hk; simpa[qpx]using h
 | .vsl k' _,h,k,hk=>by simp[FV.names]at hk; subst hk; simpa[qpx]using h
 | .eptr k' _ _ _,h,k,hk=>by simp[FV.names]at hk; subst hk; simpa[qpx]using h
 | .mref k',h,k,hk=>by simp[FV.names]at hk; subst hk; simpa[qpx]using h
 | .pair a b,h,k,hk=>by
  simp only[qpx,Bool.and_eq_true]at h
  rcases List.mem_append.1 hk with hk|hk
  ·exact qk4 (v:=a) h.1 k hk
  ·exact qk4 (v:=b) h.2 k hk
 | .stmp k',h,k,hk=>by simp[FV.names]at hk; subst hk; simpa[qpx]using h
 | .clo _ c,h,k,hk=>qk4 (v:=c) h k hk
 | .fagg c,h,k,hk=>qk4 (v:=c) h k hk
 | .nxt _ _ _,_,k,hk=>by simp[FV.names]at hk
 | .cap0,_,k,hk=>by simp[FV.names]at hk
 | .cap a b,h,k,hk=>by
  simp only[qpx,Bool.and_eq_true]at h
  rcases List.mem_append.1 hk with hk|hk
  ·exact qk4 (v:=a) h.1 k hk
  ·exact qk4 (v:=b) h.2 k hk
theorem q6l {n:Nat}:∀ {E:Env},zcz n E=true->∀ t v,(t,v)∈E->∀ k∈v.names,k<n
 | [],_,t,v,h=>by simp at h
 | (t',v')::E,h,t,v,hm=>by
  simp only[zcz,Bool.and_eq_true]at h
  rcases List.mem_cons.1 hm with e|hm
  ·cases e; exact qk4 h.1
  ·exact q6l h.2 t v hm
theorem qvm {n:Nat}:∀ {l:List FV},q8x n l=true->∀ v∈l,∀ k∈v.names,k<n
 | [],_,v,h=>by simp at h
 | v'::l,h,v,hm=>by
  simp only[q8x,Bool.and_eq_true]at h
  rcases List.mem_cons.1 hm with e|hm
  ·cases e; exact qk4 h.1
  ·exact qvm h.2 v hm
theorem qvn {n:Nat}:∀ {lo:List AObj},q1k n lo=true->∀ t cells,AObj.box t cells∈lo->∀ c∈cells,∀ k∈c.names,k<n
 | [],_,t,cells,h=>by simp at h
 | o::lo,h,t,cells,hm=>by
  rcases List.mem_cons.1 hm with e|hm'
  ·subst e
   simp only[q1k,Bool.and_eq_true]at h
   exact qvm h.1
  ·cases o<;>simp only[q1k,Bool.and_eq_true]at h<;>first|exact qvn h.2 t cells hm'|exact qvn h t cells hm'
theorem q76.sat {bs:Base} {N:Nat} {ρ:List Value} {H:PH} {E E':Env} {lo lo':List AObj} {a:Act} {w:World} (s:Sat bs N ρ H (qb7 E) lo a w) (h:q76 bs.r0.length E lo E' lo') :
  ∃ ρ',Sat bs N ρ' H (qb7 E') lo' a w:=by
 obtain⟨l,fresh,⟨hb,hl,hE,hO⟩,hA,hob⟩:=h
 simp only[zha,Bool.and_eq_true,decide_eq_true_eq,List.all_eq_true,List.mem_range,Bool.or_eq_true,beq_iff_eq,Bool.not_eq_true',bne_iff_ne]at hb
 obtain⟨⟨⟨h1,h2⟩,h3⟩,h4⟩:=hb
 have get:=fun(i:Nat) (o':AObj) (ho:lo'[i]? =some o')=>q2p hob i o' ho
 simp only[Nat.zero_add]at get
 refine⟨_,s.weak (π:=πOf l) (fresh:=fresh) (lo':=lo') ?_ ⟨q6l hE,qvn hO⟩⟩
 refine{ bounds:=fun k hk hf=>?_,keep:=fun k hk=>?_,nb:=by omega,inj:=fun i j hi hj hfi hfj e=>?_,frsh:=fun k hk=>?_,obj:=fun k o' ho hf=>(get k o' ho).2 hf,slot:=q8t hA }
 ·obtain⟨o,ho,_⟩:=(get k _ (List.getElem?_eq_getElem hk)).2 hf
  exact(List.getElem?_eq_some_iff.1 ho).1
 ·obtain⟨e1,e2⟩:=h2 k hk
  exact⟨e1,by simpa using e2⟩
 ·have:=h3 i (by omega) j (by omega)
  simp only[List.contains_iff_mem,hfi,hfj,false_or]at this
  rcases this with h|h
  ·exact absurd e h
  ·exact h
 ·have hk':k<lo'.length:=by have:=h4 k hk; omega
  obtain⟨e,z,he⟩:=(get k _ (List.getElem?_eq_getElem hk')).1 hk
  exact⟨e,z,he.imp (fun he=>by rw[List.getElem?_eq_getElem hk',he]) (fun he=>by rw[List.getElem?_eq_getElem hk',he])⟩
theorem qby.of {P:Program} (inl:List Nat) {N nb:Nat} {body:Code} {K:KA} {E:Env} {lo:List AObj} {S:Type} (fr:S->Env) (ob:S->List AObj) (ok:S->Prop) (μ:S->Nat) (s0:S) (h0:ok s0)
  (hw:q76 nb E lo (fr s0) (ob s0))
  (round:∀ s,ok s->vc P inl N nb body (fun x E' lo'=>match x with
   | .normal=>∃ s',ok s'/\μ s'<μ s/\q76 nb E' lo' (fr s') (ob s')
   | .exit i=>K (.exit i) E' lo'
   | .ret=>K .ret E' lo') (fr s) (ob s)):qby P inl N nb body K E lo:=by
 intro hm hd bs ρ H a w hb sat
 subst hb
 obtain⟨ρ',sat'⟩:=hw.sat sat
 refine wp_loop_ghost (I:=fun n a w=>∃ s ρ H,μ s=n/\ok s/\Sat bs N ρ H (qb7 (fr s)) (ob s) a w) (μ s0) ⟨s0,ρ',H,rfl,h0,sat'⟩ fun n a w ⟨s,ρ,H,hn,hok,sat⟩=>?_
 refine wp_mono (qmj hm body _ _ _ hd (round s hok) bs ρ H a w rfl sat) fun e a w p=>?_
 obtain⟨x,ρ2,H2,E2,lo2,hx,sat2,k⟩:=p
 cases x<;>cases e<;>simp only[zkz]at hx
 ·obtain⟨s',hok',hlt,hwk⟩:=k
  obtain⟨ρ3,sat3⟩:=hwk.sat sat2
  exact⟨μ s',hn ▸ hlt,s',ρ3,H2,rfl,hok',sat3⟩
 ·exact⟨.exit _,ρ2,H2,E2,lo2,hx,sat2,k⟩
 ·exact⟨.ret,ρ2,H2,E2,lo2,trivial,sat2,k⟩
def zkf (P:Program) (E:Env) (lo:List AObj) (r:ResultVar) (R:FV->Prop):Prop:=
 match r with
 | .tmp t=>zm7 E t R
 | .cell a t=>zm7 E a fun v=>qw5 P t lo v R
def zq5 (lo:List AObj) (v:FV) (R:FV->List AObj->Prop):Prop:=
 match v with
 | .vsl k _=>qy6 k lo fun o=>match o with
  | .vec _ _ rows=>q4u k .dead lo fun lo=>R (.p (.sl rows)) lo
  | _=>False
 | v=>R v lo
def zp3 (P:Program) (E:Env) (lo:List AObj):List ResultVar->(List PV->Prop)->Prop
 | [],R=>R []
 | r::rs,R=>zkf P E lo r fun v=>zq5 lo v fun v lo=>zir v fun v=>zp3 P E lo rs fun l=>R (v::l)
def zri (P:Program) (fn:Func) (R:PV->Prop):KA:=fun x E lo=>match x with
 | .exit _=>False
 | _=>zp3 P E lo fn.results.toList fun vs=>match vs with
   | [v]=>R v
   | vs=>R (.tup vs)
def zgj:Nat->List PV->Env
 | _,[]=>[]
 | n,v::vs=>(n,.p v)::zgj (n+1) vs
def zqp (P:Program) (inl:List Nat) (fn:Func) (args:List PV) (R:PV->Prop):Prop:=
 match fn.body with
 | some c=>vc P inl fn.ntmps 0 c (zri P fn R) (zgj 0 args) []
 | none=>False
def zmw (inl:List Nat) (fn:Func) (n:Nat):Bool:=(match fn.body with|some c=>qqh inl c|none=>false)&&decide (n<=fn.ntmps)
def q8g (P:Program) (f:FuncId):Prop:=∀ (args:Array Value) (w:World),(callFunc f args).run P w=.ok (.enter f args) w
def zdd (tmps:Array Value):ResultVar->Sem Value
 | .tmp t=>pure (tmps.getD t undef)
 | .cell p t=>do loadVar t (← asAddr (tmps.getD p undef))
theorem qsw (fn:Func) (tmps:Array Value):results fn tmps=(do
  let vs ← fn.results.mapM (zdd tmps)
  pure (if h:vs.size=1 then vs[0]else .tuple vs)):=by
 unfold results
 congr 1
theorem SatW.publish {bs:Base} {ρ:List Value} {H:PH} {lo:List AObj} {w:World} (s:SatW bs ρ H lo w) {k:Nat} {e:TypeId} {z:Nat} {rows:List (List PV)} {v:Value} (ho:lo[k]? =some (.vec e z rows)) (hv:ρ[k]? =some v) :
  ∃ H',PH.le H H'/\SatW bs ρ H' (lo.set k .dead) w/\qcp H' (.sl rows) v:=by
 obtain⟨xs,hown,hr,h1,hh⟩:=s.objs k _ _ ho hv
 rcases hown.2 with ⟨rfl,h0⟩|⟨g,cap,cur,hev,_,hg,hnc,_⟩
 ·have:rows=[]:=List.eq_nil_of_length_eq_zero h0
  subst this
  exact⟨H,PH.le.refl H,s.kill k,by simp[qcp]⟩
 ·have hb:qcs v=some g:=by rw[hev]; rfl
  have hle:PH.le H (qpw H v xs):=by
   intro b o u hu
   unfold qpw
   split
   ·rename_i hc
    rw[hb]at hc
    obtain⟨e1,_⟩:=hc
    cases e1
    rw[hh g hb o]at hu
    cases hu
   ·exact hu
  have sk:=s.kill k
  refine⟨qpw H v xs,hle,?_,qsr hr hle hown⟩
  refine{ sath:=⟨fun b o u hu=>?_,s.sath.root.mono hle⟩,hlen:=sk.hlen,pre:=sk.pre,objs:=fun i oi vi hi hvi=>?_,excl:=sk.excl,own:=sk.own,keep:=sk.keep,leH:=sk.leH.trans hle,newH:=fun b o u hu=>?_ }
  ·unfold qpw at hu
   split at hu
   ·rename_i hc
    rw[hb]at hc
    obtain⟨e1,_⟩:=hc
    cases e1
    have:=hown.cells (g:=g) (by rw[hev]; rfl) o u hu
    rw[Addr.add_lit,Nat.zero_add]at this
    exact⟨this,h1 u (List.mem_of_getElem? hu)⟩
   ·exact s.sath.cell b o u hu
  ·rw[List.getElem?_set]at hi
   split at hi
   ·split at hi
    ·cases hi; trivial
    ·cases hi
   ·rename_i hne
    cases hl:oi.live with
    | false=>cases oi<;>simp[AObj.live]at hl; trivial
    | true=>
     refine(s.objs i oi vi hi hvi).keep (List.prefix_refl _) hle (fun _ _ _=>rfl) (fun b o' hb' _ hn=>?_)
     unfold qpw
     rw[if_neg (fun hc=>s.excl k i _ oi _ vi b ho hi hv hvi hne rfl hl hc.1 hb')]
     exact hn
  ·unfold qpw at hu
   split at hu
   ·rename_i hc
    exact .inr (s.own k _ v b ho hv rfl hc.1)
   ·exact s.newH b o u hu
theorem zke {lo:List AObj} {v:FV} {R:FV->List AObj->Prop} (h:zq5 lo v R):∃ f lo',R f lo'/\∀ (bs:Base) (N:Nat) (ρ:List Value) (H:PH) (e:Nat->FV) (a:Act) (w:World) (x:Value),Sat bs N ρ H e lo a w->qcc ρ H v x ->
  ∃ H',PH.le H H'/\Sat bs N ρ H' e lo' a w/\qcc ρ H' f x:=by
 unfold zq5 at h
 split at h
 ·rename_i k n
  obtain⟨o,ho,h⟩:=qdt h
  split at h
  ·rename_i e z rows
   obtain⟨h,_⟩:=qkj h
   refine⟨_,_,h,fun bs N ρ H ev a w x s r=>?_⟩
   obtain⟨H',hle,s',rp⟩:=s.toSatW.publish ho r.1
   exact⟨H',hle,{ s' with slots:=fun t=>(s.slots t).mono (List.prefix_refl _) hle,width:=s.width,defers:=s.defers },rp⟩
  ·exact h.elim
 ·exact⟨_,_,h,fun bs N ρ H e a w x s r=>⟨H,PH.le.refl H,s,r⟩⟩
theorem qxd {P:Program} {E:Env} {lo:List AObj} {r:ResultVar} {R:FV->Prop} (h:zkf P E lo r R):∃ f,R f/\∀ (bs:Base) (N:Nat) (ρ:List Value) (H:PH) (a:Act) (w:World),Sat bs N ρ H (qb7 E) lo a w ->
  ∃ v,(zdd a.tmps r).run P w=.ok v w/\qcc ρ H f v:=by
 cases r with
 | tmp t=>
  simp only[zkf,qw7]at h
  exact⟨_,h,fun bs N ρ H a w s=>⟨a.tmps.getD t undef,rfl,s.slots t⟩⟩
 | cell q t=>
  simp only[zkf,qw7]at h
  obtain⟨fv,h,hl⟩:=q2m h
  refine⟨fv,h,fun bs N ρ H a w s=>?_⟩
  obtain⟨ad,u,e,hr,ru⟩:=hl bs ρ H w _ s.toSatW (s.slots q)
  refine⟨u,?_,ru⟩
  simp only[Instr.loadAt,e,Instr.sureAddr,Sem.run_bind,Sem.run_pure,Result.andThen_ok]at hr
  simp only[zdd,e,asAddr,Sem.run_bind,Sem.run_pure,Result.andThen_ok,hr]
theorem zdc {P:Program} {E:Env}:∀ {l:List ResultVar} {lo:List AObj} {R:List PV->Prop},zp3 P E lo l R->∃ ps,R ps/\ps.length=l.length/\∀ (bs:Base) (N:Nat) (ρ:List Value) (H:PH) (a:Act) (w:World),Sat bs N ρ H (qb7 E) lo a w ->
  ∃ (vs:List Value) (H':PH) (lo':List AObj),(l.mapM (m:=Sem) (zdd a.tmps)).run P w=.ok vs w/\qec H' ps vs/\PH.le H H'/\Sat bs N ρ H' (qb7 E) lo' a w
 | [],lo,R,h=>⟨[],h,rfl,fun bs N ρ H a w s=>⟨[],H,lo,by simp,by simp[qec],PH.le.refl H,s⟩⟩
 | r::rs,lo,R,h=>by
  simp only[zp3]at h
  obtain⟨f,h,h1⟩:=qxd h
  obtain⟨f',lo1,h,h2⟩:=zke h
  obtain⟨p,h,hp⟩:=qr2 h
  obtain⟨ps,h,hlen,h3⟩:=zdc h
  refine⟨p::ps,h,by simp[hlen],fun bs N ρ H a w s=>?_⟩
  obtain⟨v,hv,rv⟩:=h1 bs N ρ H a w s
  obtain⟨H1,hle1,s1,rv1⟩:=h2 bs N ρ H _ a w v s rv
  obtain⟨vs,H2,lo2,hvs,rvs,hle2,s2⟩:=h3 bs N ρ H1 a w s1
  refine⟨v::vs,H2,lo2,?_,by simp only[qec]; exact⟨v,vs,rfl,qcp.mono hle2 (hp _ _ _ rv1),rvs⟩,hle1.trans hle2,s2⟩
  simp only[List.mapM_cons,Sem.run_bind,hv,Result.andThen_ok,hvs,Sem.run_pure]
theorem zme {P:Program} {fn:Func} {E:Env} {lo:List AObj} {x:AX} {R:PV->Prop} (h:zri P fn R x E lo):∃ p,R p/\(x=.normal\/x=.ret) /\
  ∀ (bs:Base) (N:Nat) (ρ:List Value) (H:PH) (a:Act) (w:World),Sat bs N ρ H (qb7 E) lo a w->∃ (v:Value) (H':PH) (lo':List AObj),(results fn a.tmps).run P w=.ok v w/\qcp H' p v/\PH.le H H'/\Sat bs N ρ H' (qb7 E) lo' a w:=by
 have key:∀ {x:AX},(x=.normal\/x=.ret)->(zp3 P E lo fn.results.toList fun vs=>match vs with
   | [v]=>R v
   | vs=>R (.tup vs))->∃ p,R p/\(x=.normal\/x=.ret) /\
  ∀ (bs:Base) (N:Nat) (ρ:List Value) (H:PH) (a:Act) (w:World),Sat bs N ρ H (qb7 E) lo a w->∃ (v:Value) (H':PH) (lo':List AObj),(results fn a.tmps).run P w=.ok v w/\qcp H' p v/\PH.le H H'/\Sat bs N ρ H' (qb7 E) lo' a w:=by
  intro x hx h
  obtain⟨ps,h,hpl,hs⟩:=zdc h
  clear hpl
  split at h
  ·rename_i p
   refine⟨p,h,hx,fun bs N ρ H a w s=>?_⟩
   obtain⟨vs,H',lo',hr,rl,hle,s'⟩:=hs bs N ρ H a w s
   simp only[qec]at rl
   obtain⟨v,_,rfl,rv,rfl⟩:=rl
   refine⟨v,H',lo',?_,rv,hle,s'⟩
   rw[qsw,Array.mapM_eq_mapM_toList]
   simp only[Sem.run_bind,Sem.run_map,hr,Result.andThen_ok]
   rfl
  ·rename_i hne
   refine⟨_,h,hx,fun bs N ρ H a w s=>?_⟩
   obtain⟨vs,H',lo',hr,rl,hle,s'⟩:=hs bs N ρ H a w s
   refine⟨.tuple vs.toArray,H',lo',?_,by simp only[qcp]; exact⟨vs,rfl,rl⟩,hle,s'⟩
   rw[qsw,Array.mapM_eq_mapM_toList]
   simp only[Sem.run_bind,Sem.run_map,hr,Result.andThen_ok,Sem.run_pure]
   have:¬ vs.toArray.size=1:=by
    intro h1
    have hl:=rl.length
    simp at h1
    rw[h1]at hl
    cases ps with
    | nil=>simp at hl
    | cons a l=>cases l with
     | nil=>exact hne a rfl
     | cons b l=>simp at hl
   simp only[this,dif_neg,not_false_eq_true]
 cases x with
 | normal=>exact key (.inl rfl) h
 | exit i=>exact h.elim
 | ret=>exact key (.inr rfl) h
theorem q8r:∀ (n:Nat) (args:List PV) (t:Nat),qb7 (zgj n args) t=match (if n<=t then args[t - n]? else none)with|some v=>.p v|none=>.top
 | n,[],t=>by simp[zgj,qb7]
 | n,v::vs,t=>by
  simp only[zgj,qb7]
  cases hb:Nat.beq t n with
  | true=>
   have:=Nat.eq_of_beq_eq_true hb
   subst this
   simp
  | false=>
   have hne:t≠n:=fun e=>by subst e; simp[Nat.beq_refl]at hb
   simp only
   rw[q8r (n+1) vs t]
   by_cases h:n<=t
   ·have h1:n+1<=t:=by omega
    have h2:t - n=(t - (n+1))+1:=by omega
    simp[h,h1,h2]
   ·have h1:¬ n+1<=t:=by omega
    simp[h,h1]
theorem qae.of_vcR {P:Program} {f:FuncId} {fn:Func} {args:List PV} {r:PV} {inl:List Nat} {R:PV->Prop} (hm:P.follows .mixedOrders=true) (he:q8g P f) (hf:P.funcs[f]? =some fn) (hok:zmw inl fn args.length=true)
  (hR:∀ (p:PV) (v:Value) (H:PH),R p->qcp H p v->qcp H r v) (h:zqp P inl fn args R):qae P f args r:=by
 intro H w vs hs rl
 rw[he]
 refine⟨rfl,?_⟩
 simp only[zmw,Bool.and_eq_true,decide_eq_true_eq]at hok
 obtain⟨hd,hn⟩:=hok
 unfold zqp at h
 cases hb:fn.body with
 | none=>simp[hb]at hd
 | some c=>
  simp only[hb]at h hd
  refine calls_of_wp hf hb ?_
  have hl:=rl.length
  have sat:Sat { S:=zfc,w0:=w,H0:=H,r0:=[] } fn.ntmps [] H (qb7 (zgj 0 args)) [] { tmps:=vs.toArray++Array.replicate (fn.ntmps - vs.toArray.size) undef,defers:=[] } w:=by
   refine{ sath:=hs,hlen:=rfl,pre:=List.prefix_refl _,objs:=fun k o v h=>by simp at h,excl:=fun k _ o _ v _ b h=>by simp at h,own:=fun k o v b h=>by simp at h,keep:=Keep.refl _ w,leH:=PH.le.refl H,newH:=fun b o v h=>.inl ⟨v,h⟩,slots:=fun t=>?_,width:=by simp; omega,defers:=rfl }
   rw[q8r]
   simp only[Nat.zero_le,if_true,Nat.sub_zero]
   cases ht:args[t]? with
   | none=>trivial
   | some p=>
    obtain⟨v,hv,rv⟩:=rl.get ht
    have hlt:=(List.getElem?_eq_some_iff.1 hv).1
    have:(vs.toArray++Array.replicate (fn.ntmps - vs.toArray.size) undef).getD t undef=v:=by
     rw[Array.getD_eq_getD_getElem?,Array.getElem?_append_left (by simpa using hlt)]
     simp[hv]
    rw[this]
    exact rv
  refine wp_mono (qmj hm c _ _ _ hd h _ [] H _ w rfl sat) fun e a w' p=>?_
  obtain⟨x,ρ',H',E',lo',hx,s',k⟩:=p
  obtain⟨p,hp,hxx,hres⟩:=zme k
  obtain⟨v,H2,lo2,hv,rv,hle,s2⟩:=hres _ _ ρ' H' a w' s'
  have fin:∃ v,(results fn a.tmps).run P w'=.ok v w'/\(fun e w''=>∃ v H',e=Ending.returned v/\Calm H w H' w''/\qcp H' r v) (.returned v) w':=
   ⟨v,hv,v,H2,rfl,⟨s2.leH,s2.sath,s2.keep,fun b o v hv=>by
    rcases s2.newH b o v hv with h|h|h
    ·exact .inl h
    ·exact h.elim
    ·exact .inr h⟩,hR p v H2 hp rv⟩
  rcases hxx with rfl|rfl<;>cases e<;>simp only[zkz]at hx
  ·exact⟨s'.defers,fin⟩
  ·exact⟨s'.defers,fin⟩
theorem qae.of_vc {P:Program} {f:FuncId} {fn:Func} {args:List PV} {r:PV} {inl:List Nat} (hm:P.follows .mixedOrders=true) (he:q8g P f) (hf:P.funcs[f]? =some fn) (hok:zmw inl fn args.length=true)
  (h:zqp P inl fn args (fun v=>v=r)):qae P f args r:=
 qae.of_vcR (R:=fun v=>v=r) hm he hf hok (fun _ _ _ e x=>e ▸ x) h
end Ax
end
section
namespace Ax
open Go
def znz (ρ:List Value) (lo:List AObj):Nat->Prop:=fun b=>∃ (k:Nat) (o:AObj) (v:Value),lo[k]? =some o/\ρ[k]? =some v/\o.live=true/\qcs v=some b
theorem SatW.lend {bs:Base} {ρ:List Value} {H:PH} {lo:List AObj} {w:World} (s:SatW bs ρ H lo w):SatW { S:=znz ρ lo,w0:=w,H0:=H,r0:=ρ } ρ H lo w where
 sath:=s.sath
 hlen:=s.hlen
 pre:=List.prefix_refl _
 objs:=s.objs
 excl:=s.excl
 own:=fun k o v b hk hv hl hb=>.inl ⟨k,o,v,hk,hv,hl,hb⟩
 keep:=Keep.refl _ w
 leH:=PH.le.refl H
 newH:=fun b o v h=>.inl ⟨v,h⟩
theorem SatW.back {bs:Base} {ρ ρ':List Value} {H H':PH} {lo lo':List AObj} {w w':World} (s:SatW bs ρ H lo w) (s':SatW { S:=znz ρ lo,w0:=w,H0:=H,r0:=ρ } ρ' H' lo' w'):SatW bs ρ' H' lo' w':=by
 have hS:∀ b,znz ρ lo b->bs.S b\/bs.w0.heap.size<=b:=fun b ⟨k,o,v,hk,hv,hl,hb⟩=>s.own k o v b hk hv hl hb
 refine{ sath:=s'.sath,hlen:=s'.hlen,pre:=s.pre.trans s'.pre,objs:=s'.objs,excl:=s'.excl,own:=fun k o v b hk hv hl hb=>?_,keep:=s.keep.step s'.keep hS,leH:=s.leH.trans s'.leH,newH:=fun b o v hv=>?_ }
 ·rcases s'.own k o v b hk hv hl hb with h|h
  ·exact hS b h
  ·exact .inr (Nat.le_trans s.keep.size h)
 ·rcases s'.newH b o v hv with ⟨u,hu⟩|h|h
  ·exact s.newH b o u hu
  ·exact .inr (hS b h)
  ·exact .inr (.inr (Nat.le_trans s.keep.size h))
def qtb:Nat->List FV->Env
 | _,[]=>[]
 | n,v::vs=>(n,v)::qtb (n+1) vs
theorem qxm:∀ (n:Nat) (args:List FV) (t:Nat),qb7 (qtb n args) t=(if n<=t then args[t - n]? else none).getD .top
 | n,[],t=>by simp[qtb,qb7]
 | n,v::vs,t=>by
  simp only[qtb,qb7]
  cases hb:Nat.beq t n with
  | true=>
   have:=Nat.eq_of_beq_eq_true hb
   subst this
   simp
  | false=>
   have hne:t≠n:=fun e=>by subst e; simp[Nat.beq_refl]at hb
   simp only
   rw[qxm (n+1) vs t]
   by_cases h:n<=t
   ·have h1:n+1<=t:=by omega
    have h2:t - n=(t - (n+1))+1:=by omega
    simp[h,h1,h2]
   ·have h1:¬ n+1<=t:=by omega
    simp[h,h1]
theorem qd9.get {ρ:List Value} {H:PH}:∀ {cs:List FV} {vs:List Value} {i:Nat} {c:FV},qd9 ρ H cs vs->cs[i]? =some c->∃ v,vs[i]? =some v/\qcc ρ H c v
 | [],_,_,_,_,h=>by simp at h
 | c::cs,vs,i,c',x,h=>by
  obtain⟨v,vs',rfl,r,rs⟩:=x
  cases i with
  | zero=>simp at h; subst h; exact⟨v,by simp,r⟩
  | succ i=>simp at h; obtain⟨u,hu,ru⟩:=rs.get h; exact⟨u,by simpa using hu,ru⟩
def zqn (v1 v2:FV) (R:FV->Prop):Prop:=
 match v1 with
 | .p p1=>match v2 with
  | .p p2=>R (.p (.tup [p1,p2]))
  | .tsl _ rows=>R (.p (.tup [p1,.sl rows]))
  | v2=>R (.pair (.p p1) v2)
 | .tsl _ rows1=>match v2 with
  | .p p2=>R (.p (.tup [.sl rows1,p2]))
  | .tsl _ rows=>R (.p (.tup [.sl rows1,.sl rows]))
  | v2=>R (.pair (.p (.sl rows1)) v2)
 | v1=>match v2 with
  | .tsl _ rows=>R (.pair v1 (.p (.sl rows)))
  | v2=>R (.pair v1 v2)
def frL (P:Program) (E:Env) (lo:List AObj):List ResultVar->(List PV->Prop)->Prop
 | [],R=>R []
 | r::rs,R=>zkf P E lo r fun v=>zir v fun v=>frL P E lo rs fun l=>R (v::l)
theorem zku {v1 v2:FV} {R:FV->Prop} (h:zqn v1 v2 R):∃ v,R v/\∀ (ρ:List Value) (H:PH) (x y:Value),qcc ρ H v1 x->qcc ρ H v2 y->qcc ρ H v (.tuple #[x,y]):=by
 have pp:∀ (p1 p2:PV) (ρ:List Value) (H:PH) (x y:Value),qcp H p1 x->qcp H p2 y->qcc ρ H (.p (.tup [p1,p2])) (.tuple #[x,y]):=fun p1 p2 ρ H x y r1 r2=>by
  simp only[qcc,qcp]
  exact⟨[x,y],rfl,by simp only[qec]; exact⟨x,_,rfl,r1,y,[],rfl,r2,rfl⟩⟩
 unfold zqn at h
 split at h
 ·split at h
  ·exact⟨_,h,fun ρ H x y r1 r2=>pp _ _ ρ H x y r1 r2⟩
  ·exact⟨_,h,fun ρ H x y r1 r2=>pp _ _ ρ H x y r1 r2.2⟩
  ·exact⟨_,h,fun ρ H x y r1 r2=>⟨x,y,rfl,r1,r2⟩⟩
 ·split at h
  ·exact⟨_,h,fun ρ H x y r1 r2=>pp _ _ ρ H x y r1.2 r2⟩
  ·exact⟨_,h,fun ρ H x y r1 r2=>pp _ _ ρ H x y r1.2 r2.2⟩
  ·exact⟨_,h,fun ρ H x y r1 r2=>⟨x,y,rfl,r1.2,r2⟩⟩
 ·split at h
  ·exact⟨_,h,fun ρ H x y r1 r2=>⟨x,y,rfl,r1,r2.2⟩⟩
  ·exact⟨_,h,fun ρ H x y r1 r2=>⟨x,y,rfl,r1,r2⟩⟩
theorem zfm {P:Program} {E:Env} {lo:List AObj}:∀ {l:List ResultVar} {R:List PV->Prop},frL P E lo l R->∃ ps,R ps/\ps.length=l.length/\∀ (bs:Base) (N:Nat) (ρ:List Value) (H:PH) (a:Act) (w:World),Sat bs N ρ H (qb7 E) lo a w ->
  ∃ vs:List Value,(l.mapM (m:=Sem) (zdd a.tmps)).run P w=.ok vs w/\qec H ps vs
 | [],R,h=>⟨[],h,rfl,fun bs N ρ H a w s=>⟨[],by simp,by simp[qec]⟩⟩
 | r::rs,R,h=>by
  simp only[frL]at h
  obtain⟨f,h,h1⟩:=qxd h
  obtain⟨p,h,hp⟩:=qr2 h
  obtain⟨ps,h,hlen,h2⟩:=zfm h
  refine⟨p::ps,h,by simp[hlen],fun bs N ρ H a w s=>?_⟩
  obtain⟨v,hv,rv⟩:=h1 bs N ρ H a w s
  obtain⟨vs,hvs,rvs⟩:=h2 bs N ρ H a w s
  refine⟨v::vs,?_,by simp only[qec]; exact⟨v,vs,rfl,hp _ _ _ rv,rvs⟩⟩
  simp only[List.mapM_cons,Sem.run_bind,hv,Result.andThen_ok,hvs,Sem.run_pure]
def zq6 (P:Program) (fn:Func) (R:FV->List AObj->Prop):KA:=fun x E lo=>match x with
 | .exit _=>False
 | _=>match fn.results.toList with
  | [r]=>zkf P E lo r fun v=>R v lo
  | []=>R (.p (.tup [])) lo
  | [r1,r2]=>zkf P E lo r1 fun v1=>zkf P E lo r2 fun v2=>zqn v1 v2 fun v=>R v lo
  | r::rs=>frL P E lo (r::rs) fun vs=>R (.p (.tup vs)) lo
def vcI (P:Program) (inl:List Nat) (fn:Func) (args:List FV) (lo:List AObj) (R:FV->List AObj->Prop):Prop:=
 match fn.body with
 | some c=>q4r lo 0 fun nb=>vc P inl fn.ntmps nb c (zq6 P fn R) (qtb 0 args) lo
 | none=>False
theorem zde {P:Program} {fn:Func} {E:Env} {lo:List AObj} {x:AX} {R:FV->List AObj->Prop} (h:zq6 P fn R x E lo):∃ p,R p lo/\(x=.normal\/x=.ret) /\
  ∀ (bs:Base) (N:Nat) (ρ:List Value) (H:PH) (a:Act) (w:World),Sat bs N ρ H (qb7 E) lo a w->∃ v,(results fn a.tmps).run P w=.ok v w/\qcc ρ H p v:=by
 have key:∀ {x:AX},(x=.normal\/x=.ret)->(match fn.results.toList with
  | [r]=>zkf P E lo r fun v=>R v lo
  | []=>R (.p (.tup [])) lo
  | [r1,r2]=>zkf P E lo r1 fun v1=>zkf P E lo r2 fun v2=>zqn v1 v2 fun v=>R v lo
  | r::rs=>frL P E lo (r::rs) fun vs=>R (.p (.tup vs)) lo)->∃ p,R p lo/\(x=.normal\/x=.ret) /\
  ∀ (bs:Base) (N:Nat) (ρ:List Value) (H:PH) (a:Act) (w:World),Sat bs N ρ H (qb7 E) lo a w->∃ v,(results fn a.tmps).run P w=.ok v w/\qcc ρ H p v:=by
  intro x hx h
  split at h
  ·rename_i r hr
   obtain⟨f,h,hs⟩:=qxd h
   refine⟨f,h,hx,fun bs N ρ H a w s=>?_⟩
   obtain⟨v,hv,rv⟩:=hs bs N ρ H a w s
   refine⟨v,?_,rv⟩
   rw[qsw,Array.mapM_eq_mapM_toList,hr]
   simp only[List.mapM_cons,List.mapM_nil,Sem.run_bind,Sem.run_map,hv,Result.andThen_ok,Sem.run_pure]
   rfl
  ·rename_i hr
   refine⟨_,h,hx,fun bs N ρ H a w s=>⟨.tuple #[],?_,by simp only[qcc,qcp]; exact⟨[],rfl,rfl⟩⟩⟩
   rw[qsw,Array.mapM_eq_mapM_toList,hr]
   simp only[List.mapM_nil,Sem.run_bind,Sem.run_map,Result.andThen_ok,Sem.run_pure]
   rfl
  ·rename_i r1 r2 hr
   obtain⟨f1,h,hs1⟩:=qxd h
   obtain⟨f2,h,hs2⟩:=qxd h
   obtain⟨f,h,hs⟩:=zku h
   refine⟨f,h,hx,fun bs N ρ H a w s=>?_⟩
   obtain⟨v1,hv1,rv1⟩:=hs1 bs N ρ H a w s
   obtain⟨v2,hv2,rv2⟩:=hs2 bs N ρ H a w s
   refine⟨.tuple #[v1,v2],?_,hs _ _ _ _ rv1 rv2⟩
   rw[qsw,Array.mapM_eq_mapM_toList,hr]
   simp only[List.mapM_cons,List.mapM_nil,Sem.run_bind,Sem.run_map,hv1,hv2,Result.andThen_ok,Sem.run_pure]
   rfl
  ·rename_i r rs hne1 hne2 hr
   obtain⟨ps,h,hpl,hs⟩:=zfm h
   refine⟨_,h,hx,fun bs N ρ H a w s=>?_⟩
   obtain⟨vs,hr',rl⟩:=hs bs N ρ H a w s
   refine⟨.tuple vs.toArray,?_,by simp only[qcc,qcp]; exact⟨vs,rfl,rl⟩⟩
   rw[qsw,Array.mapM_eq_mapM_toList,hr]
   simp only[Sem.run_bind,Sem.run_map,hr',Result.andThen_ok,Sem.run_pure]
   have:¬ vs.toArray.size=1:=by
    intro h1
    simp at h1
    have hl:vs.length=(r::rs).length:=by rw[rl.length,hpl]
    rw[h1]at hl
    cases rs with
    | nil=>exact hne1 rfl
    | cons b l=>simp at hl
   simp only[this,dif_neg,not_false_eq_true]
 cases x with
 | normal=>exact key (.inl rfl) h
 | exit i=>exact h.elim
 | ret=>exact key (.inr rfl) h
theorem qsx.of_vc {P:Program} {f:FuncId} {fn:Func} {args:List FV} {lo:List AObj} {R:FV->List AObj->Prop} {inl:List Nat} (hm:P.follows .mixedOrders=true) (he:q8g P f) (hf:P.funcs[f]? =some fn) (hok:zmw inl fn args.length=true)
  (h:vcI P inl fn args lo R):qsx P f args lo R:=by
 intro bs ρ H w vs s rl
 rw[he]
 refine⟨rfl,?_⟩
 simp only[zmw,Bool.and_eq_true,decide_eq_true_eq]at hok
 obtain⟨hd,hn⟩:=hok
 unfold vcI at h
 cases hb:fn.body with
 | none=>simp[hb]at hd
 | some c=>
  simp only[hb]at h hd
  have h:=qfz h
  rw[Nat.zero_add]at h
  refine calls_of_wp hf hb ?_
  have hl:=rl.length
  have sat:Sat { S:=znz ρ lo,w0:=w,H0:=H,r0:=ρ } fn.ntmps ρ H (qb7 (qtb 0 args)) lo { tmps:=vs.toArray++Array.replicate (fn.ntmps - vs.toArray.size) undef,defers:=[] } w:=by
   refine{ s.lend with slots:=fun t=>?_,width:=by simp; omega,defers:=rfl }
   rw[qxm]
   simp only[Nat.zero_le,if_true,Nat.sub_zero]
   cases ht:args[t]? with
   | none=>trivial
   | some p=>
    obtain⟨v,hv,rv⟩:=rl.get ht
    have hlt:=(List.getElem?_eq_some_iff.1 hv).1
    have:(vs.toArray++Array.replicate (fn.ntmps - vs.toArray.size) undef).getD t undef=v:=by
     rw[Array.getD_eq_getD_getElem?,Array.getElem?_append_left (by simpa using hlt)]
     simp[hv]
    rw[this]
    exact rv
  refine wp_mono (qmj hm c _ _ _ hd h _ ρ H _ w s.hlen sat) fun e a w' p=>?_
  obtain⟨x,ρ',H',E',lo',hx,s',k⟩:=p
  obtain⟨p,hR,hxx,hres⟩:=zde k
  obtain⟨v,hv,rv⟩:=hres _ _ ρ' H' a w' s'
  have fin:∃ v,(results fn a.tmps).run P w'=.ok v w'/\(fun en w''=>∃ v r lo',en=Ending.returned v/\que bs ρ H r lo' v w''/\R r lo') (.returned v) w':=
   ⟨v,hv,v,p,lo',rfl,⟨ρ',H',s'.pre,s'.leH,s.back s'.toSatW,rv⟩,hR⟩
  rcases hxx with rfl|rfl<;>cases e<;>simp only[zkz]at hx
  ·exact⟨s'.defers,fin⟩
  ·exact⟨s'.defers,fin⟩
end Ax
end
section
namespace Ax
open Go
inductive Val where
 | mk (kind:Int) (b:Bool) (i:Int) (s:List UInt8) (l:List Val) (k:List (List UInt8))
def qam (l:List (List UInt8)):List (List PV):=l.map fun s=>[.str s]
mutual
def Val.cells:Val->List PV
 | .mk k b i s l ks=>[.int .i64 k,.bool b,.int .i64 i,.str s,.sl (Val.rows l),.sl (qam ks)]
def Val.rows:List Val->List (List PV)
 | []=>[]
 | v::l=>v.cells::Val.rows l
end
abbrev Val.pv (v:Val):PV:=.agg v.cells
def vals (l:List Val):List (List PV):=l.map Val.cells
theorem rows_eq:∀ l:List Val,Val.rows l=vals l
 | []=>rfl
 | v::l=>by simp only[Val.rows,vals,List.map_cons]; rw[rows_eq l]; rfl
@[simp] theorem zoo (l:List (List UInt8)):(qam l).length=l.length:=by simp[qam]
@[simp] theorem zoq (l:List Val):(vals l).length=l.length:=by simp[vals]
theorem q26 (v:Val):v.cells.length=6:=by cases v; rfl
theorem zky (n:Int) (h0:-9223372036854775808<=n) (h1:n<=9223372036854775807):IntKind.i64.wrap n=n:=IntWalk.i64_in n ⟨h0,h1⟩
instance:Inhabited Val:=⟨.mk 0 false 0 [] [] []⟩
end Ax
end
section
namespace Ax
open Go
end Ax
end
section
namespace Ax
open Go
theorem zfg:∀ a b:List UInt8,(Op.bytesLess a b||a==b)=!Op.bytesLess b a
 | [],[]=>rfl
 | [],_::_=>rfl
 | _::_,[]=>rfl
 | x::xs,y::ys=>by
  have ih:=zfg xs ys
  simp only[Op.bytesLess]
  rcases Nat.lt_trichotomy x.toNat y.toNat with h|h|h
  ·have h1:x<y:=UInt8.lt_iff_toNat_lt.2 h
   have h2:¬ y<x:=fun h'=>by have:=UInt8.lt_iff_toNat_lt.1 h'; omega
   have h3:¬ y=x:=fun h'=>by subst h'; omega
   simp[h1,h2,h3]
  ·have h1:x=y:=UInt8.toNat.inj h
   subst h1
   have h2:¬ x<x:=fun h'=>by have:=UInt8.lt_iff_toNat_lt.1 h'; omega
   simp only[h2,List.cons_beq_cons]
   simpa using ih
  ·have h1:¬ x<y:=fun h'=>by have:=UInt8.lt_iff_toNat_lt.1 h'; omega
   have h2:y<x:=UInt8.lt_iff_toNat_lt.2 h
   have h3:¬ x=y:=fun h'=>by subst h'; omega
   simp[h1,h2,h3]
end Ax
end
section
namespace Ax
open Go
end Ax
end
section
namespace Ax
open Go
end Ax
end
section
namespace Go.Proofs
open Go Go.Shelf Go.RowKit Ax
variable {P:Program} {ρ:Ren}
def zhy (l:List UInt8) (v:Value) (w:World) (e:Ending) (w':World):Prop:=
 e=.returned (.string ⟨l.toArray⟩)/\(w'=w.drew\/(∃ g n,qcs v=some g/\w'=w.drew.freeze ⟨g,0,none⟩ n)\/∃ o,w'=w.drew.alloc o)
end Go.Proofs
end
section
namespace Ax
open Go Go.Proofs Go.RowKit
structure Shut (v:Value) (w w':World):Prop where
 os:w'.os=w.os
 tape:w'.tape=w.tape
 output:w'.output=w.output
 size:w.heap.size<=w'.heap.size
 block:∀ k,k<w.heap.size->qcs v≠some k->w'.heap[k]? =w.heap[k]?
 cell:∀ a x,w.cell? a=some x->w'.cell? a=some x
theorem Shut.of {l:List UInt8} {v:Value} {w w':World} {e:Ending} (h:zhy l v w e w'):Shut v w w':=by
 obtain⟨_,rfl|⟨g,n,hg,rfl⟩|⟨o,rfl⟩⟩:=h
 ·exact⟨rfl,rfl,rfl,Nat.le_refl _,fun _ _ _=>rfl,fun _ _ h=>h⟩
 ·have hb:∀ k,k≠g->(w.drew.freeze ⟨g,0,none⟩ n).heap[k]? =w.heap[k]?:=by
   intro k hk
   unfold World.freeze
   split
   ·rfl
   ·simp only[Array.getElem?_modify]
    rw[if_neg (by omega)]; rfl
  refine⟨?_,?_,?_,?_,fun k _ hk=>hb k (fun e=>hk (by rw[hg,e])),fun a x hx=>?_⟩
  ·unfold World.freeze; split<;>rfl
  ·unfold World.freeze; split<;>rfl
  ·unfold World.freeze; split<;>rfl
  ·unfold World.freeze; split
   ·exact Nat.le_refl _
   ·simp
  ·unfold World.freeze
   split
   ·exact hx
   ·unfold World.cell? at hx ⊢
    split at hx
    ·rename_i c el fz hh
     have hh':w.drew.heap[a.block]? =some (.cells c el fz):=hh
     simp only[Array.getElem?_modify,hh',Option.map_some]
     by_cases hga:g=a.block
     ·simp only[hga,if_true]; exact hx
     ·simp only[hga,if_false]; exact hx
    ·exact absurd hx (by simp)
 ·refine⟨rfl,rfl,rfl,by simp,fun k hk _=>?_,fun a x hx=>?_⟩
  ·exact Go.RowKit.Below.heap_alloc w.drew o k hk
  ·rw[World.cell?_alloc_lt (h:=World.block_lt_of_cell? w.drew a hx)]; exact hx
theorem SatW.shut {bs:Base} {ρ:List Value} {H:PH} {lo:List AObj} {w w':World} (s:SatW bs ρ H lo w) {j:Nat} {v:Value} {e:TypeId} {z n:Nat} (hj:lo[j]? =some (.tail e z n)) (hv:ρ[j]? =some v)
  (h:Shut v w w'):SatW bs ρ H (lo.set j .dead) w' where
 sath:=⟨fun b o x hx=>⟨h.cell _ _ (s.sath.cell b o x hx).1,(s.sath.cell b o x hx).2⟩,s.sath.root⟩
 hlen:=by simpa using s.hlen
 pre:=s.pre
 objs:=fun i o u hi hu=>by
  rw[List.getElem?_set]at hi
  split at hi
  ·split at hi
   ·cases hi; trivial
   ·cases hi
  ·rename_i hne
   cases hl:o.live with
   | false=>cases o<;>simp[AObj.live]at hl; trivial
   | true=>
    refine(s.objs i o u hi hu).keep (List.prefix_refl _) (PH.le.refl H) (fun b hb hlt=>h.block b hlt fun e=>?_) (fun _ _ _ _ hn=>hn)
    exact s.excl i j o _ u v b hi hj hu hv (fun e=>hne e.symm) hl rfl hb e
 excl:=s.kill j |>.excl
 own:=s.kill j |>.own
 keep:=by
  refine⟨h.os.trans s.keep.os,h.tape.trans s.keep.tape,h.output.trans s.keep.output,Nat.le_trans s.keep.size h.size,fun k hk hS=>?_⟩
  rw[h.block k (Nat.lt_of_lt_of_le hk s.keep.size) fun e=>?_]
  ·exact s.keep.block k hk hS
  ·rcases s.own j _ v k hj hv rfl e with h1|h1
   ·exact hS h1
   ·omega
 leH:=s.leH
 newH:=s.newH
theorem qsx.string {P:Program} {f:FuncId} {T E:TypeId} (hent:∀ args w,(callFunc f args).run P w=.ok (.enter f args) w)
  (hc:∀ (b:Nat) (l:List UInt8) (w:World) (p v:Value),w.heap[b]? =some (.cells #[p,v] T (0,0))->w.ownsRow 0 E 1 v l.length (Lib.byteCells l)->l≠[] ->
   Calls P f #[.pointer (some ⟨b,0,none⟩)] w (zhy l v w))
  {k j:Nat} {a:FV} {bs:List UInt8} {lo:List AObj} {n:Nat} {R:FV->List AObj->Prop} (hk:lo[k]? =some (.box T [a,.tsl j (qea bs)])) (hj:lo[j]? =some (.tail E 1 n))
  (h0:bs≠[]) (h:R (.p (.str bs)) (lo.set j .dead)):qsx P f [.ptr k 0] lo R:=by
 intro bs' ρ H w vs s rl
 obtain⟨u,_,rfl,ru,rfl⟩:=rl
 obtain⟨b,hb,rfl⟩:=ru
 rw[show([Value.pointer (some ⟨b,0,none⟩)]:List Value).toArray = #[.pointer (some ⟨b,0,none⟩)]from rfl,hent]
 refine⟨rfl,?_⟩
 obtain⟨b',vs,e',hg,hcs,_⟩:=s.objs k _ _ hk hb
 cases e'
 simp only[qd9]at hcs
 obtain⟨p,_,rfl,_,v,_,rfl,⟨hv,hrep⟩,rfl⟩:=hcs
 obtain⟨xs,how,hx⟩:=s.objs j _ v hj hv
 have hxs:n=bs.length/\xs=Lib.byteCells bs:=by
  simp only[qcp]at hrep
  rcases hrep with ⟨e0,_⟩|⟨g,o,z,cap,rfl,_,rr⟩
  ·exact absurd (by simpa[qea]using e0) h0
  ·rcases how.2 with ⟨e0,_⟩|⟨g',cap',cur,e0,_⟩
   ·cases e0
   ·simp only[Value.slice.injEq,Option.some.injEq,Addr.mk.injEq]at e0
    obtain⟨⟨rfl,rfl,_⟩,hn,_⟩:=e0
    have hn':n=bs.length:=by rw[← hn]; simp[qea]
    refine⟨hn',?_⟩
    have hl:=how.1
    have hcell:=q82 s.sath rr
    refine List.ext_getElem (by rw[hl,Lib.byteCells_length,hn',Nat.mul_one]) fun j h1 h2=>?_
    have hj':j<bs.length:=by rw[Lib.byteCells_length]at h2; exact h2
    have c1:=how.cells (g:=g) rfl j _ (List.getElem?_eq_getElem h1)
    rw[hcell j hj']at c1
    simp only[Option.some.injEq]at c1
    rw[← c1]
    simp[Lib.byteCells]
 obtain⟨rfl,rfl⟩:=hxs
 refine(hc b bs w p v hg how h0).mono fun e w' hp=>?_
 exact⟨_,.p (.str bs),lo.set j .dead,hp.1,⟨ρ,H,List.prefix_refl _,PH.le.refl H,s.shut hj hv (Shut.of hp),by simp[qcc,qcp]⟩,h⟩
theorem SatH.below {H:PH} {w w':World} (s:SatH H w) (h:Below w.heap.size w w'):Calm H w H w':=
 ⟨PH.le.refl H,s.block fun b _ _ hv=>h.block b (s.lt hv),⟨h.os,h.tape,h.output,h.size,fun k hk _=>h.block k hk⟩,fun _ _ v hv=>.inl ⟨v,hv⟩⟩
end Ax
end
section
namespace Ax
open Go
mutual
def PV.norm:PV->PV
 | .nilsl=>.sl []
 | .agg cs=>.agg (q8a cs)
 | .tup cs=>.tup (q8a cs)
 | .sl rows=>.sl (zev rows)
 | v=>v
def q8a:List PV->List PV
 | []=>[]
 | c::cs=>c.norm::q8a cs
def zev:List (List PV)->List (List PV)
 | []=>[]
 | r::rs=>q8a r::zev rs
end
theorem qxb:∀ rows:List (List PV),(zev rows).length=rows.length
 | []=>rfl
 | _::l=>by simp[zev,qxb l]
theorem q3b:∀ cs:List PV,(q8a cs).length=cs.length
 | []=>rfl
 | _::l=>by simp[q8a,q3b l]
mutual
theorem qcp.norm {H:PH}:∀ {c:PV} {v:Value},qcp H c v->qcp H c.norm v
 | .nilsl,v,h=>by simp only[PV.norm,qcp]at *; exact .inl ⟨trivial,.inl h⟩
 | .agg cs,v,h=>by
  simp only[PV.norm,qcp]at *
  obtain⟨vs,e,r⟩:=h
  exact⟨vs,e,qec.norm r⟩
 | .tup cs,v,h=>by
  simp only[PV.norm,qcp]at *
  obtain⟨vs,e,r⟩:=h
  exact⟨vs,e,qec.norm r⟩
 | .sl rows,v,h=>by
  simp only[PV.norm,qcp]at *
  rcases h with ⟨rfl,h⟩|⟨b,o,z,cap,e,hc,r⟩
  ·exact .inl ⟨rfl,h⟩
  ·exact .inr ⟨b,o,z,cap,by rw[qxb]; exact e,by rw[qxb]; exact hc,qsl.norm r⟩
 | .bool _,_,h|.int ..,_,h|.str _,_,h|.nilp,_,h|.fn _,_,h|.nilfn,_,h|.nili,_,h|.nilmap,_,h|.ifc ..,_,h=>by
  simpa only[PV.norm]using h
theorem qec.norm {H:PH}:∀ {cs:List PV} {vs:List Value},qec H cs vs->qec H (q8a cs) vs
 | [],_,h=>by simpa only[q8a]using h
 | c::cs,vs,h=>by
  simp only[q8a,qec]at *
  obtain⟨v,vs',e,r,rs⟩:=h
  exact⟨v,vs',e,qcp.norm r,qec.norm rs⟩
theorem qsl.norm {H:PH} {b z:Nat}:∀ {rows:List (List PV)} {o:Nat},qsl H b z o rows->qsl H b z o (zev rows)
 | [],_,h=>by simpa only[zev]using h
 | r::rs,o,h=>by
  simp only[zev,qsl]at *
  obtain⟨e,⟨vs,q,c⟩,rr⟩:=h
  exact⟨by rw[q3b]; exact e,⟨vs,qec.norm q,c⟩,qsl.norm rr⟩
end
theorem qae.norm {P:Program} {f:FuncId} {args:List PV} {r r':PV} (h:qae P f args r) (e:r.norm=r'):qae P f args r':=by
 subst e
 intro H w vs hs rl
 have:=h H w vs hs rl
 generalize (callFunc f vs.toArray).run P w=x at *
 cases x with
 | ok n w'=>
  cases n<;>simp only[q0h]at this ⊢ <;> try exact this
  ·obtain⟨H',c,r⟩:=this; exact⟨H',c,qcp.norm r⟩
  ·exact⟨this.1,this.2.mono fun en w'' ⟨v,H',e,c,r⟩=>⟨v,H',e,c,qcp.norm r⟩⟩
 | halt x w'=>exact this
theorem qae.args {P:Program} {f:FuncId} {args args':List PV} {r:PV} (h:qae P f args' r) (e:q8a args=args'):qae P f args r:=by
 subst e
 exact fun H w vs hs rl=>h H w vs hs (qec.norm rl)
end Ax
end
section
namespace Ax
open Go
section
variable {A R S:Type}
def chk (b:Bool) (k:Option R):Option R:=match b with|true=>k|false=>none
theorem qaw {b:Bool} {k:Option R} {r:R} (h:chk b k=some r):b=true/\k=some r:=by
 cases b with
 | true=>exact⟨rfl,h⟩
 | false=>cases h
def bnd (o:Option A) (k:A->Option R):Option R:=match o with|some a=>k a|none=>none
theorem qaa {o:Option A} {k:A->Option R} {r:R} (h:bnd o k=some r):∃ x,o=some x/\k x=some r:=by
 cases o with
 | some a=>exact⟨a,rfl,h⟩
 | none=>cases h
theorem qy4 {c:Bool} {a b:Option R} {r:R} (h:(bif c then a else b)=some r) (hc:c=true):a=some r:=by subst hc; exact h
theorem qy3 {c:Bool} {a b:Option R} {r:R} (h:(bif c then a else b)=some r) (hc:c=false):b=some r:=by subst hc; exact h
def idx (l:List A) (i:Int):Option A:=if 0<=i then l[i.toNat]? else none
theorem qeb {l:List A} {i:Int} {x:A} (h:idx l i=some x):0<=i/\l[i.toNat]? =some x:=by
 unfold idx at h
 split at h
 ·exact⟨by assumption,h⟩
 ·cases h
def qa5 [Inhabited A] (g:Bool) (o:Option A):Option A:=bif g then o else some default
theorem qah [Inhabited A] {g:Bool} {o:Option A} {x:A} (h:qa5 g o=some x) (hg:g=true):o=some x:=by subst hg; exact h
def qz9 (i:Int):Option Nat:=if 0<=i then some i.toNat else none
theorem qf0 {i:Int} {n:Nat} (h:qz9 i=some n):i=n:=by
 unfold qz9 at h
 split at h
 ·cases h; omega
 ·cases h
def u8I (i:Int):Option UInt8:=if 0<=i/\i<256 then some (UInt8.ofNat i.toNat)else none
theorem zba {i:Int} {b:UInt8} (h:u8I i=some b):i=(b.toNat:Int):=by
 unfold u8I at h
 split at h
 ·cases h
  simp only[UInt8.toNat_ofNat']
  omega
 ·cases h
theorem gd {g c:Bool} (h:(bif g then c else true)=true) (hg:g=true):c=true:=by subst hg; exact h
def qap (B:(S->Option R)->S->Option R):Nat->S->Option R
 | 0,_=>none
 | n+1,s=>B (qap B n) s
end
structure Codec (A:Type) where
 cells:A->List PV
 rows:List A->List (List PV)
 z:Nat
 hrows:∀ l,rows l=l.map cells
 hz:∀ a,(cells a).length=z
 hone:∀ a,(cells a).all zj6=true
namespace Codec
variable {A:Type} (C:Codec A)
theorem at_ {l:List A} {i:Int} {x:A} (h:idx l i=some x):0<=i/\(C.rows l)[i.toNat]? =some (C.cells x)/\(C.cells x).length=C.z:=by
 obtain⟨h0,h1⟩:=qeb h
 exact⟨h0,by rw[C.hrows]; simp[h1],C.hz x⟩
theorem length (l:List A):(C.rows l).length=l.length:=by rw[C.hrows]; simp
theorem append (a b:List A):C.rows a++C.rows b=C.rows (a++b):=by simp[C.hrows]
theorem take (l:List A) (n:Nat):(C.rows l).take n=C.rows (l.take n):=by simp[C.hrows]
theorem drop (l:List A) (n:Nat):(C.rows l).drop n=C.rows (l.drop n):=by simp[C.hrows]
theorem cut (l:List A) (n m:Nat):((C.rows l).take n).drop m=C.rows ((l.take n).drop m):=by simp[C.hrows]
theorem wide (l:List A):∀ r∈C.rows l,r.length=C.z:=by
 intro r hr
 rw[C.hrows]at hr
 obtain⟨a,_,rfl⟩:=List.mem_map.1 hr
 exact C.hz a
theorem one (l:List A):∀ r∈C.rows l,r.length=C.z/\r.all zj6=true:=by
 intro r hr
 rw[C.hrows]at hr
 obtain⟨a,_,rfl⟩:=List.mem_map.1 hr
 exact⟨C.hz a,C.hone a⟩
end Codec
def qbp (k:IntKind) (l:List Int):List (List PV):=l.map fun n=>[PV.int k n]
def q84 {A:Type} (C:Codec A) (l:List (List A)):List (List PV):=l.map fun x=>[PV.sl (C.rows x)]
def qqt:Codec (List UInt8):={ cells:=fun s=>[.str s],rows:=qam,z:=1,hrows:=fun _=>rfl,hz:=fun _=>rfl,hone:=fun _=>rfl }
def quq:Codec UInt8:={ cells:=fun b=>[.int .u8 b.toNat],rows:=qea,z:=1,hrows:=fun _=>rfl,hz:=fun _=>rfl,hone:=fun _=>rfl }
def zk3 (k:IntKind):Codec Int:={ cells:=fun n=>[.int k n],rows:=qbp k,z:=1,hrows:=fun _=>rfl,hz:=fun _=>rfl,hone:=fun _=>rfl }
def slC {A:Type} (C:Codec A):Codec (List A):={ cells:=fun x=>[.sl (C.rows x)],rows:=q84 C,z:=1,hrows:=fun _=>rfl,hz:=fun _=>rfl,hone:=fun _=>rfl }
theorem Val.one (v:Val):v.cells.all zj6=true:=by cases v; rfl
def qtz:Codec Val:={ cells:=Val.cells,rows:=Val.rows,z:=6,hrows:=fun l=>rows_eq l,hz:=q26,hone:=Val.one }
theorem qdx {n b:Nat} (h:decide (n * b<=140737488355328)=true) (hb:1<=b):n<=9223372036854775807:=by
 have:=of_decide_eq_true h
 have:n * 1<=n * b:=Nat.mul_le_mul_left n hb
 omega
theorem qae.leArgs {P:Program} {f:FuncId} {args args':List PV} {r:PV} (h:qae P f args' r) (e:zgs args args'):qae P f args r:=
 fun H w vs hs rl=>h H w vs hs (qxr e rl)
theorem qae.le {P:Program} {f:FuncId} {args:List PV} {r r':PV} (h:qae P f args r) (e:nle r r'):qae P f args r':=by
 intro H w vs hs rl
 have:=h H w vs hs rl
 generalize (callFunc f vs.toArray).run P w=x at *
 cases x with
 | ok n w'=>
  cases n<;>simp only[q0h]at this ⊢ <;> try exact this
  ·obtain⟨H',c,r⟩:=this; exact⟨H',c,q6o e r⟩
  ·exact⟨this.1,this.2.mono fun en w'' ⟨v,H',e1,c,r⟩=>⟨v,H',e1,c,q6o e r⟩⟩
 | halt x w'=>exact this
theorem qby.fn {P:Program} (inl:List Nat) {N nb:Nat} {body:Code} {K:KA} {E:Env} {lo:List AObj} {S R:Type} (fr:S->Env) (ob:S->List AObj) {B:(S->Option R)->S->Option R} {n:Nat} {s0:S} {r:R}
  (h:qap B n s0=some r) (hw:q76 nb E lo (fr s0) (ob s0))
  (round:∀ (next:S->Option R) (s:S),B next s=some r->vc P inl N nb body (fun x E' lo'=>match x with
   | .normal=>∃ s',next s'=some r/\q76 nb E' lo' (fr s') (ob s')
   | .exit i=>K (.exit i) E' lo'
   | .ret=>K .ret E' lo') (fr s) (ob s)):qby P inl N nb body K E lo:=by
 intro hm hd bs ρ H a w hb sat
 subst hb
 obtain⟨ρ',sat'⟩:=hw.sat sat
 refine wp_loop_ghost (I:=fun n a w=>∃ s ρ H,qap B n s=some r/\Sat bs N ρ H (qb7 (fr s)) (ob s) a w) n ⟨s0,ρ',H,h,sat'⟩ fun n a w ⟨s,ρ,H,hs,sat⟩=>?_
 cases n with
 | zero=>cases hs
 | succ n=>
  refine wp_mono (qmj hm body _ _ _ hd (round (qap B n) s hs) bs ρ H a w rfl sat) fun e a w p=>?_
  obtain⟨x,ρ2,H2,E2,lo2,hx,sat2,k⟩:=p
  cases x<;>cases e<;>simp only[zkz]at hx
  ·obtain⟨s',hok',hwk⟩:=k
   obtain⟨ρ3,sat3⟩:=hwk.sat sat2
   exact⟨n,Nat.lt_succ_self _,s',ρ3,H2,hok',sat3⟩
  ·exact⟨.exit _,ρ2,H2,E2,lo2,hx,sat2,k⟩
  ·exact⟨.ret,ρ2,H2,E2,lo2,trivial,sat2,k⟩
theorem qje.go {P:Program} {inl:List Nat} {N nb:Nat} {x y:Code} {K:KA} {E:Env} {lo:List AObj}
  (h:vc P inl N nb x (fun e E lo=>match e with|.normal=>vc P inl N nb y K E lo|.exit i=>K (.exit i) E lo|.ret=>K .ret E lo) E lo):qje P inl N nb x y K E lo:=by
 intro hm hx hy bs ρ H a w hb s
 refine wp_seq (wp_mono (qmj hm x _ E lo hx h bs ρ H a w hb s) fun e a w p=>?_)
 obtain⟨x',ρ',H',E',lo',hx,s',k⟩:=p
 cases x'<;>cases e<;>simp only[zkz]at hx
 ·exact qmj hm y K E' lo' hy k bs ρ' H' a w hb s'
 ·exact⟨.exit _,ρ',H',E',lo',hx,s',k⟩
 ·exact⟨.ret,ρ',H',E',lo',trivial,s',k⟩
theorem qje.cut {P:Program} {inl:List Nat} {N nb:Nat} {x y:Code} {K:KA} {E:Env} {lo:List AObj} {S R:Type} (fr:S->Env) (ob:S->List AObj) (k:S->Option R) {r:R}
  (hy:∀ s,k s=some r->vc P inl N nb y K (fr s) (ob s))
  (hx:vc P inl N nb x (fun e E lo=>match e with|.normal=>∃ s,k s=some r/\q76 nb E lo (fr s) (ob s)|.exit i=>K (.exit i) E lo|.ret=>K .ret E lo) E lo):qje P inl N nb x y K E lo:=by
 intro hm hdx hdy bs ρ H a w hb s
 refine wp_seq (wp_mono (qmj hm x _ E lo hdx hx bs ρ H a w hb s) fun e a w p=>?_)
 obtain⟨x',ρ',H',E',lo',hx,s',kk⟩:=p
 cases x'<;>cases e<;>simp only[zkz]at hx
 ·obtain⟨st,hst,hwk⟩:=kk
  subst hb
  obtain⟨ρ3,s3⟩:=hwk.sat s'
  exact qmj hm y K _ _ hdy (hy st hst) bs ρ3 H' a w rfl s3
 ·exact⟨.exit _,ρ',H',E',lo',hx,s',kk⟩
 ·exact⟨.ret,ρ',H',E',lo',trivial,s',kk⟩
theorem qae.of_vcN {P:Program} {f:FuncId} {fn:Func} {args:List PV} {r:PV} {inl:List Nat} (hm:P.follows .mixedOrders=true) (he:q8g P f) (hf:P.funcs[f]? =some fn) (hok:zmw inl fn args.length=true)
  (h:zqp P inl fn args (fun v=>nle v r)):qae P f args r:=
 qae.of_vcR hm he hf hok (fun _ _ _=>q6o) h
section
variable {A R S:Type}
theorem qa0 (B:(S->Option R)->S->Option R) (n:Nat) (s:S):qap B (n+1) s=B (qap B n) s:=rfl
@[simp] theorem qac (a:A) (k:A->Option R):bnd (some a) k=k a:=rfl
@[simp] theorem zre (k:A->Option R):bnd none k=none:=rfl
@[simp] theorem zrf (k:Option R):chk true k=k:=rfl
@[simp] theorem qdw [Inhabited A] (o:Option A):qa5 true o=o:=rfl
@[simp] theorem qq7 [Inhabited A] (o:Option A):qa5 false o=some default:=rfl
@[simp] theorem qal (l:List A) (i:Nat):idx l (i:Int)=l[i]?:=by unfold idx; simp
@[simp] theorem qri (l:List A):idx l 0=l[0]?:=by unfold idx; simp
@[simp] theorem qqn (i:Nat):qz9 (i:Int)=some i:=by unfold qz9; simp
@[simp] theorem zqo (b:UInt8):u8I ((b.toNat:Nat):Int)=some b:=by
 have:=b.toNat_lt
 unfold u8I
 rw[if_pos ⟨Int.natCast_nonneg _,by omega⟩]
 simp
@[simp] theorem q53 (l:List UInt8):(qea l).length=l.length:=by simp[qea]
@[simp] theorem qfk (l:List Val):(Val.rows l).length=l.length:=by rw[rows_eq]; simp
theorem qc9 {b:Bool} (k:Option R) (h:b=true):chk b k=k:=by subst h; rfl
end
end Ax
end
section
namespace Ax
open Go
def qau (P:Program) (f:FuncId) (args:List FV) (objs:List AObj) (m:Nat) (R:FV->List AObj->Prop):Prop:=
 ∀ (bs:Base) (ρ:List Value) (H:PH) (w:World) (vs:List Value),bs.r0=ρ.take m->SatW bs ρ H objs w->qd9 ρ H args vs ->
  match (callFunc f vs.toArray).run P w with
  | .ok (.value v) w'=>∃ r objs' ρ' H',R r objs'/\PH.le H H'/\SatW bs ρ' H' objs' w'/\qcc ρ' H' r v
  | .ok (.enter f' args') w'=>w'=w/\Calls P f' args' w fun en w''=>∃ v r objs' ρ' H',en=.returned v/\R r objs'/\PH.le H H'/\SatW bs ρ' H' objs' w''/\qcc ρ' H' r v
  | _=>False
theorem qau.mono {P:Program} {f:FuncId} {args:List FV} {objs:List AObj} {m:Nat} {R R':FV->List AObj->Prop} (h:qau P f args objs m R) (hr:∀ r lo,R r lo->R' r lo):qau P f args objs m R':=by
 intro bs ρ H w vs hb s rl
 have:=h bs ρ H w vs hb s rl
 generalize (callFunc f vs.toArray).run P w=x at *
 cases x with
 | ok n w'=>
  cases n<;>simp only at this ⊢ <;> try exact this
  ·obtain⟨r,objs',ρ',H',h1,h2⟩:=this; exact⟨r,objs',ρ',H',hr _ _ h1,h2⟩
  ·exact⟨this.1,this.2.mono fun en w'' ⟨v,r,objs',ρ',H',e,h1,h2⟩=>⟨v,r,objs',ρ',H',e,hr _ _ h1,h2⟩⟩
 | halt x w'=>exact this
def zr0 (P:Program) (fn:Func) (m:Nat) (R:FV->List AObj->Prop):KA:=zq6 P fn fun r0 lo=>∃ r objs',R r objs'/\q76 m [(0,r0)] lo [(0,r)] objs'
def vcO (P:Program) (inl:List Nat) (fn:Func) (args:List FV) (objs:List AObj) (m:Nat) (R:FV->List AObj->Prop):Prop:=
 match fn.body with
 | some c=>vc P inl fn.ntmps m c (zr0 P fn m R) (qtb 0 args) objs
 | none=>False
theorem qau.of_vc {P:Program} {f:FuncId} {fn:Func} {args:List FV} {objs:List AObj} {m:Nat} {R:FV->List AObj->Prop} {inl:List Nat} (hm:P.follows .mixedOrders=true) (he:q8g P f) (hf:P.funcs[f]? =some fn) (hok:zmw inl fn args.length=true)
  (hml:m<=objs.length) (h:vcO P inl fn args objs m R):qau P f args objs m R:=by
 intro bs ρ H w vs hbs s rl
 rw[he]
 refine⟨rfl,?_⟩
 simp only[zmw,Bool.and_eq_true,decide_eq_true_eq]at hok
 obtain⟨hd,hn⟩:=hok
 unfold vcO at h
 cases hb:fn.body with
 | none=>simp[hb]at hd
 | some c=>
  simp only[hb]at h hd
  refine calls_of_wp hf hb ?_
  have hl:=rl.length
  have hr0:bs.r0.length=m:=by rw[hbs,List.length_take,s.hlen]; omega
  have sat:Sat bs fn.ntmps ρ H (qb7 (qtb 0 args)) objs { tmps:=vs.toArray++Array.replicate (fn.ntmps - vs.toArray.size) undef,defers:=[] } w:=by
   refine{ s with slots:=fun t=>?_,width:=by simp; omega,defers:=rfl }
   rw[qxm]
   simp only[Nat.zero_le,if_true,Nat.sub_zero]
   cases ht:args[t]? with
   | none=>trivial
   | some p=>
    obtain⟨v,hv,rv⟩:=rl.get ht
    have hlt:=(List.getElem?_eq_some_iff.1 hv).1
    have:(vs.toArray++Array.replicate (fn.ntmps - vs.toArray.size) undef).getD t undef=v:=by
     rw[Array.getD_eq_getD_getElem?,Array.getElem?_append_left (by simpa using hlt)]
     simp[hv]
    rw[this]
    exact rv
  have hcalls:=qmj hm c _ _ _ hd h { bs with H0:=H } ρ H _ w hr0 { sat with leH:=PH.le.refl H,newH:=fun b o v hv=>.inl ⟨v,hv⟩ }
  refine wp_mono hcalls fun e a w' p=>?_
  obtain⟨x,ρ',H',E',lo',hx,s',k⟩:=p
  obtain⟨r0,hR,hxx,hres⟩:=zde k
  obtain⟨r,objs',hR,hw⟩:=hR
  obtain⟨v,hv,rv⟩:=hres _ _ ρ' H' a w' s'
  have s1:Sat { bs with H0:=H } 1 ρ' H' (qb7 [(0,r0)]) lo' { tmps:=#[v],defers:=[] } w':=by
   refine{ s'.toSatW with slots:=fun t=>?_,width:=rfl,defers:=rfl }
   cases t with
   | zero=>exact rv
   | succ t=>simp only[qb7]; exact trivial
  obtain⟨ρ2,s2⟩:=q76.sat s1 (by rw[hr0]; exact hw)
  have rv2:qcc ρ2 H' r v:=s2.slots 0
  have fin:∃ v,(results fn a.tmps).run P w'=.ok v w'/\(fun en w''=>∃ v r objs' ρ' H',en=Ending.returned v/\R r objs'/\PH.le H H'/\SatW bs ρ' H' objs' w''/\qcc ρ' H' r v) (.returned v) w':=by
   refine⟨v,hv,v,r,objs',ρ2,H',rfl,hR,s2.leH,?_,rv2⟩
   refine{ s2.toSatW with leH:=s.leH.trans s2.leH,newH:=fun b o u hu=>?_ }
   rcases s2.newH b o u hu with ⟨u',hu'⟩|h|h
   ·exact s.newH b o u' hu'
   ·exact .inr (.inl h)
   ·exact .inr (.inr h)
  rcases hxx with rfl|rfl<;>cases e<;>simp only[zkz]at hx
  ·exact⟨s'.defers,fin⟩
  ·exact⟨s'.defers,fin⟩
def AObj.ren (σ:Nat->Nat):AObj->AObj
 | .box t cells=>.box t (cells.map (FV.ren σ))
 | .mp d es _=>.mp d es none
 | o=>o
theorem qcc.ren {ρ ρ':List Value} {H:PH} {σ:Nat->Nat} (h:∀ i v,ρ[i]? =some v->ρ'[σ i]? =some v):∀ {f:FV} {x:Value},qcc ρ H f x->qcc ρ' H (f.ren σ) x
 | .top,_,_=>trivial
 | .p p,x,r=>r
 | .opt g v,x,r=>by
  simp only[FV.ren,qcc]at *
  split
  ·rename_i hg; simp only[hg,if_true]at r; exact qcc.ren h r
  ·rename_i hg; simpa[hg]using r
 | .tsl k rows,x,r=>⟨h _ _ r.1,r.2⟩
 | .ptr k off,x,⟨b,e,e'⟩=>⟨b,h _ _ e,e'⟩
 | .hptr row,x,r=>r
 | .bself k,x,⟨b,e,e'⟩=>⟨b,h _ _ e,e'⟩
 | .bsl k off len cap,x,⟨b,e,e'⟩=>⟨b,h _ _ e,e'⟩
 | .vsl k n,x,r=>⟨h _ _ r.1,r.2⟩
 | .eptr k z i off,x,⟨b,n,cap,e,e'⟩=>⟨b,n,cap,h _ _ e,e'⟩
 | .mref k,x,⟨b,e,e'⟩=>⟨b,h _ _ e,e'⟩
 | .pair a b,x,⟨u,v,e,ra,rb⟩=>⟨u,v,e,ra.ren h,rb.ren h⟩
 | .stmp k,x,r=>h _ _ r
 | .clo f c,x,⟨vs,e,rc⟩=>⟨vs,e,rc.ren h⟩
 | .cap0,x,r=>r
 | .cap a b,x,⟨u,vs,e,ra,rb⟩=>⟨u,vs,e,ra.ren h,rb.ren h⟩
 | .fagg c,x,⟨vs,e,rc⟩=>⟨vs,e,rc.ren h⟩
 | .nxt ok a b,x,r=>r
theorem qd9.ren {ρ ρ':List Value} {H:PH} {σ:Nat->Nat} (h:∀ i v,ρ[i]? =some v->ρ'[σ i]? =some v):∀ {cs:List FV} {vs:List Value},qd9 ρ H cs vs->qd9 ρ' H (cs.map (FV.ren σ)) vs
 | [],_,r=>r
 | _::_,_,⟨v,vs',e,r,rs⟩=>⟨v,vs',e,r.ren h,rs.ren h⟩
theorem q30.ren {ρ ρ':List Value} {H:PH} {w:World} {σ:Nat->Nat} (h:∀ i v,ρ[i]? =some v->ρ'[σ i]? =some v) {v:Value} {o:AObj} (ok:q30 ρ H w v o):q30 ρ' H w v (o.ren σ):=by
 cases o with
 | dead=>trivial
 | box t cells=>
  obtain⟨b,vs,e,hg,rc,hh⟩:=ok
  exact⟨b,vs,e,hg,rc.ren h,hh⟩
 | tail e z n=>exact ok
 | vec e z rows=>exact ok
 | mp d es mk=>
  obtain⟨b,ents,clock,e,hg,rm,⟨h1,h2,_⟩,hh⟩:=ok
  exact⟨b,ents,clock,e,hg,rm,⟨h1,h2,fun key s e=>by cases e⟩,hh⟩
 | sit l p=>exact ok
 | bv l=>exact ok
theorem AObj.ren_live (σ:Nat->Nat) (o:AObj):(o.ren σ).live=o.live:=by cases o<;>rfl
def σOf (l:List Nat) (m n:Nat):Nat->Nat:=fun i=>match Nat.blt i m with
 | true=>l.getD i 0
 | false=>n+(i - m)
def zk6:List Nat->List Nat->Nat->Nat->Option Nat
 | [],_,_,_=>none
 | k::l,fresh,i,j=>match Nat.beq k j with
  | true=>match fresh.contains i with
   | true=>zk6 l fresh (i+1) j
   | false=>some i
  | false=>zk6 l fresh (i+1) j
def zet (l fresh:List Nat) (m:Nat) (σ:Nat->Nat) (objs':List AObj) (j:Nat) (o:AObj):AObj:=
 match zk6 l fresh 0 j with
 | some i=>match Nat.blt i m with
  | true=>match objs'[i]? with|some o'=>o'.ren σ|none=>.dead
  | false=>.dead
 | none=>o
def q1h (l fresh:List Nat) (m:Nat) (σ:Nat->Nat) (objs':List AObj):Nat->List AObj->List AObj
 | _,[]=>(objs'.drop m).map (AObj.ren σ)
 | j,o::lo=>zet l fresh m σ objs' j o::q1h l fresh m σ objs' (j+1) lo
def zft (l fresh:List Nat) (m:Nat) (lo objs':List AObj):List AObj:=q1h l fresh m (σOf l m lo.length) objs' 0 lo
theorem q8w {l fresh:List Nat} {m:Nat} {σ:Nat->Nat} {objs':List AObj}:∀ {lo:List AObj} {j i:Nat} {o:AObj},(q1h l fresh m σ objs' j lo)[i]? =some o ->
  (∃ o0,lo[i]? =some o0/\o=zet l fresh m σ objs' (j+i) o0)\/(lo.length<=i/\∃ o0,objs'[m+(i - lo.length)]? =some o0/\o=o0.ren σ)
 | [],j,i,o,h=>by
  simp only[q1h,List.getElem?_map,List.getElem?_drop]at h
  cases hx:objs'[m+i]? with
  | none=>simp[hx]at h
  | some o0=>
   simp[hx]at h
   exact .inr ⟨Nat.zero_le _,o0,by simpa using hx,h.symm⟩
 | x::lo,j,0,o,h=>by
  simp only[q1h,List.getElem?_cons_zero,Option.some.injEq]at h
  exact .inl ⟨x,rfl,h.symm⟩
 | x::lo,j,i+1,o,h=>by
  simp only[q1h,List.getElem?_cons_succ]at h
  rcases q8w h with ⟨o0,h1,h2⟩|⟨h1,o0,h2,h3⟩
  ·exact .inl ⟨o0,by simpa using h1,by rw[h2,Nat.add_assoc,Nat.add_comm 1 i]⟩
  ·refine .inr ⟨by simpa using h1,o0,?_,h3⟩
   simpa using h2
theorem q1i {l fresh:List Nat} {m:Nat} {σ:Nat->Nat} {objs':List AObj}:∀ {lo:List AObj} {j:Nat},(q1h l fresh m σ objs' j lo).length=lo.length+(objs'.length - m)
 | [],j=>by simp[q1h]
 | x::lo,j=>by
  simp only[q1h,List.length_cons,q1i (lo:=lo)]
  omega
theorem zc7 {fresh:List Nat} {j:Nat}:∀ {l:List Nat} {i0 i:Nat},zk6 l fresh i0 j=some i->i0<=i/\l[i - i0]? =some j/\i ∉ fresh
 | [],_,_,h=>by simp[zk6]at h
 | k::l,i0,i,h=>by
  simp only[zk6]at h
  have step:zk6 l fresh (i0+1) j=some i->i0<=i/\(k::l)[i - i0]? =some j/\i ∉ fresh:=by
   intro h
   obtain⟨h1,h2,h3⟩:=zc7 h
   refine⟨by omega,?_,h3⟩
   have e:i - i0=(i - (i0+1))+1:=by omega
   rw[e]
   simpa using h2
  split at h
  ·rename_i hk
   have hk:=Nat.eq_of_beq_eq_true hk
   split at h
   ·exact step h
   ·rename_i hf
    cases h
    exact⟨Nat.le_refl _,by simp[hk],by simpa using hf⟩
  ·exact step h
theorem zc6 {fresh:List Nat} {j:Nat}:∀ {l:List Nat} {i0:Nat},zk6 l fresh i0 j=none->∀ i,l[i]? =some j->i0+i∈fresh
 | [],_,_,i,h=>by simp at h
 | k::l,i0,h,i,hi=>by
  simp only[zk6]at h
  cases i with
  | zero=>
   simp at hi
   subst hi
   simp only[Nat.beq_refl]at h
   split at h
   ·rename_i hf; simpa using hf
   ·cases h
  | succ i=>
   have step:zk6 l fresh (i0+1) j=none->i0+(i+1)∈fresh:=fun h=>by
    have:=zc6 h i (by simpa using hi)
    have e:i0+1+i=i0+(i+1):=by omega
    rwa [e]at this
   split at h
   ·split at h
    ·exact step h
    ·cases h
   ·exact step h
def leArgs (π:Nat->Nat) (fresh:List Nat):List FV->List FV->Prop
 | [],[]=>True
 | a::l,b::m=>leF π fresh a b/\leArgs π fresh l m
 | _,_=>False
theorem q8u {ρ:List Value} {H:PH} {π:Nat->Nat} {fresh:List Nat} {n:Nat}:∀ {xs ys:List FV} {vs:List Value},leArgs π fresh xs ys->(∀ c∈ys,∀ k∈c.names,k<n)->qd9 ρ H xs vs->qd9 (zdq ρ π fresh n) H ys vs
 | [],[],vs,_,_,r=>r
 | [],_::_,_,h,_,_=>by simp[leArgs]at h
 | _::_,[],_,h,_,_=>by simp[leArgs]at h
 | a::xs,b::ys,vs,h,hn,r=>by
  simp only[leArgs]at h
  obtain⟨v,vs',e,r1,rs⟩:=r
  exact⟨v,vs',e,zep h.1 (hn b (by simp)) r1,q8u h.2 (fun c hc=>hn c (by simp[hc])) rs⟩
theorem zgo {π:Nat->Nat} {fresh:List Nat} {k:Nat} {o o':AObj} (hle:qqm π fresh k o o') (hl:o'.live=true):o.live=true:=by
 cases o' with
 | dead=>simp[AObj.live]at hl
 | box t c=>cases o<;>simp only[qqm]at hle; rfl
 | tail e z n=>simp only[qqm]at hle; subst hle; rfl
 | vec e z n=>simp only[qqm]at hle; subst hle; rfl
 | mp d es mk=>simp only[qqm]at hle; obtain⟨_,_,rfl⟩:=hle; rfl
 | sit l p=>simp only[qqm]at hle; subst hle; rfl
 | bv l=>simp only[qqm]at hle; subst hle; rfl
theorem qau.use {P:Program} {f:FuncId} {args:List FV} {objs:List AObj} {m:Nat} {R:FV->List AObj->Prop} (h:qau P f args objs m R) (l fresh:List Nat) {args':List FV} {lo:List AObj} {K:FV->List AObj->Prop}
  (hw:zha 0 l fresh=true/\l.length=objs.length/\q8x objs.length args=true/\q1k objs.length objs=true/\Nat.ble m objs.length=true/\(List.range m).all (fun i=>!fresh.contains i)=true)
  (ha:leArgs (πOf l) fresh args' args) (ho:zeq lo (πOf l) fresh 0 objs)
  (hK:∀ r0 objs',R r0 objs'->∃ r lo2,r0.ren (σOf l m lo.length)=r/\zft l fresh m lo objs'=lo2/\K r lo2):qsx P f args' lo K:=by
 obtain⟨hb,hl,hnA,hnO,hml,hfr⟩:=hw
 have hml:=Nat.le_of_ble_eq_true hml
 have hfr:∀ i,i<m->i ∉ fresh:=by
  intro i hi
  have:=List.all_eq_true.1 hfr i (by simpa using hi)
  simpa using this
 simp only[zha,Bool.and_eq_true,decide_eq_true_eq,List.all_eq_true,List.mem_range,Bool.or_eq_true,beq_iff_eq,Bool.not_eq_true',bne_iff_ne]at hb
 obtain⟨⟨⟨_,_⟩,hinj⟩,hfl⟩:=hb
 have get:=fun(i:Nat) (o':AObj) (h:objs[i]? =some o')=>q2p ho i o' h
 simp only[Nat.zero_add]at get
 have inj:∀ i j,i<objs.length->j<objs.length->i ∉ fresh->j ∉ fresh->πOf l i=πOf l j->i=j:=by
  intro i j hi hj hfi hfj e
  have:=hinj i (by omega) j (by omega)
  simp only[List.contains_iff_mem,hfi,hfj,false_or]at this
  rcases this with h|h
  ·exact absurd e h
  ·exact h
 have hlget:∀ i,i<l.length->l[i]? =some (πOf l i):=fun i hi=>by
  simp[πOf,List.getD_eq_getElem?_getD,List.getElem?_eq_getElem hi]
 intro bs ρ H w vs s rl
 let π:=πOf l
 let ρ2:=zdq ρ π fresh objs.length
 have weak:Weak 0 (qtb 0 args') lo (qtb 0 args) objs π fresh:=by
  refine{ bounds:=fun k hk hf=>?_,keep:=fun k hk=>absurd hk (Nat.not_lt_zero _),nb:=Nat.zero_le _,inj:=inj,frsh:=fun k hk=>?_,obj:=fun k o' ho hf=>(get k o' ho).2 hf,slot:=?_ }
  ·obtain⟨o,ho,_⟩:=(get k _ (List.getElem?_eq_getElem hk)).2 hf
   exact(List.getElem?_eq_some_iff.1 ho).1
  ·have hk':k<objs.length:=by have:=hfl k hk; omega
   obtain⟨e,z,he⟩:=(get k _ (List.getElem?_eq_getElem hk')).1 hk
   exact⟨e,z,he.imp (fun he=>by rw[List.getElem?_eq_getElem hk',he]) (fun he=>by rw[List.getElem?_eq_getElem hk',he])⟩
  ·have:∀ (n:Nat) (xs ys:List FV),leArgs π fresh xs ys->∀ t v,(t,v)∈qtb n ys->leF π fresh (qb7 (qtb n xs) t) v:=by
    intro n xs
    induction xs generalizing n with
    | nil=>
     intro ys hab t v hm
     cases ys with
     | nil=>simp[qtb]at hm
     | cons b ys=>simp[leArgs]at hab
    | cons a xs ih=>
     intro ys hab t v hm
     cases ys with
     | nil=>simp[leArgs]at hab
     | cons b ys=>
      simp only[leArgs]at hab
      simp only[qtb,List.mem_cons,Prod.mk.injEq]at hm
      have hge:∀ (n:Nat) (bs:List FV) (t:Nat) (v:FV),(t,v)∈qtb n bs->n<=t:=by
       intro n bs
       induction bs generalizing n with
       | nil=>intro t v h; simp[qtb]at h
       | cons c cs ih2=>
        intro t v h
        simp only[qtb,List.mem_cons,Prod.mk.injEq]at h
        rcases h with ⟨rfl,_⟩|h
        ·exact Nat.le_refl _
        ·have:=ih2 (n+1) t v h; omega
      simp only[qtb,qb7]
      rcases hm with ⟨rfl,rfl⟩|hm
      ·simp only[Nat.beq_refl]; exact hab.1
      ·have:=hge _ _ _ _ hm
       have hne:Nat.beq t n=false:=by
        cases hx:Nat.beq t n with
        | false=>rfl
        | true=>have:=Nat.eq_of_beq_eq_true hx; omega
       simp only[hne]
       exact ih (n+1) ys hab.2 t v hm
   exact this 0 args' args ha
 have sat0:Sat { bs with r0:=[] } vs.length ρ H (qb7 (qtb 0 args')) lo { tmps:=vs.toArray,defers:=[] } w:=by
  refine{ s with pre:=List.nil_prefix,slots:=fun t=>?_,width:=by simp,defers:=rfl }
  rw[qxm]
  simp only[Nat.zero_le,if_true,Nat.sub_zero]
  cases ht:args'[t]? with
  | none=>trivial
  | some p=>
   obtain⟨v,hv,rv⟩:=rl.get ht
   have:vs.toArray.getD t undef=v:=by
    rw[Array.getD_eq_getD_getElem?]
    simp[hv]
   rw[this]
   exact rv
 have hnames:zj0 (qtb 0 args) objs:=by
  refine⟨fun t v hm=>?_,qvn hnO⟩
  have:∀ (n:Nat) (bs:List FV) (t:Nat) (v:FV),(t,v)∈qtb n bs->v∈bs:=by
   intro n bs
   induction bs generalizing n with
   | nil=>intro t v h; simp[qtb]at h
   | cons c cs ih2=>
    intro t v h
    simp only[qtb,List.mem_cons,Prod.mk.injEq]at h
    rcases h with ⟨_,rfl⟩|h
    ·simp
    ·exact List.mem_cons_of_mem _ (ih2 (n+1) t v h)
  exact qvm hnA v (this 0 args t v hm)
 have s2:=(sat0.weak weak hnames).toSatW
 have rl2:qd9 ρ2 H args vs:=q8u ha (qvm hnA) rl
 have ρ2get:∀ {i:Nat} {v:Value},ρ2[i]? =some v->i<objs.length/\((i∈fresh/\v=.slice none 0 0)\/(i ∉ fresh/\ρ[π i]? =some v)):=by
  intro i v hv
  have hk:i<objs.length:=by have:=(List.getElem?_eq_some_iff.1 hv).1; simpa[ρ2,zdq]using this
  have hv':=hv
  rw[show ρ2[i]? =_ from qk5 hk]at hv'
  refine⟨hk,?_⟩
  by_cases hf:i∈fresh
  ·simp[hf]at hv'; exact .inl ⟨hf,hv'.symm⟩
  ·simp only[hf,if_false]at hv'
   refine .inr ⟨hf,?_⟩
   obtain⟨o,ho,_⟩:=(get i _ (List.getElem?_eq_getElem hk)).2 hf
   have:π i<ρ.length:=by rw[s.hlen]; exact(List.getElem?_eq_some_iff.1 ho).1
   rw[List.getD_eq_getElem?_getD,List.getElem?_eq_getElem this]at hv'
   rw[List.getElem?_eq_getElem this]
   simpa using hv'
 let bs2:Base:={ S:=znz ρ2 objs,w0:=w,H0:=H,r0:=ρ2.take m }
 have s2':SatW bs2 ρ2 H objs w:=
  { sath:=s2.sath,hlen:=s2.hlen,pre:=List.take_prefix _ _,objs:=s2.objs,excl:=s2.excl,own:=fun k o v b hk hv hl hb=>.inl ⟨k,o,v,hk,hv,hl,hb⟩,keep:=Keep.refl _ w,leH:=PH.le.refl H,newH:=fun b o v h=>.inl ⟨v,h⟩ }
 have lentS:∀ b,znz ρ2 objs b->∃ i o v,i<objs.length/\i ∉ fresh/\lo[π i]? =some o/\ρ[π i]? =some v/\o.live=true/\qcs v=some b:=by
  rintro b ⟨i,o,v,hi,hv,hl',hb⟩
  obtain⟨hlt,hc⟩:=ρ2get hv
  rcases hc with ⟨_,rfl⟩|⟨hf,hv'⟩
  ·simp[qcs]at hb
  ·obtain⟨o0,ho0,hle⟩:=(get i o hi).2 hf
   exact⟨i,o0,v,hlt,hf,ho0,hv',zgo hle hl',hb⟩
 have key:∀ (r0:FV) (objs':List AObj) (ρ':List Value) (H':PH) (w':World) (v:Value),R r0 objs'->PH.le H H'->SatW bs2 ρ' H' objs' w'->qcc ρ' H' r0 v->∃ r lo',que bs ρ H r lo' v w'/\K r lo':=by
  intro r0 objs' ρ' H' w' v hR hle s3 rv
  obtain⟨r,lo2,rfl,rfl,hk⟩:=hK r0 objs' hR
  refine⟨_,_,?_,hk⟩
  have hρ2len:ρ2.length=objs.length:=by simp[ρ2,zdq]
  have hpre:ρ2.take m <+: ρ':=s3.pre
  have hm':m<=ρ'.length:=by
   have:=hpre.length_le
   rw[List.length_take,hρ2len]at this
   omega
  have hold:∀ i,i<m->ρ'[i]? =ρ2[i]?:=by
   intro i hi
   obtain⟨t,ht⟩:=hpre
   rw[← ht,List.getElem?_append_left (by rw[List.length_take,hρ2len]; omega),List.getElem?_take,if_pos hi]
  have hσ:∀ i v,ρ'[i]? =some v->(ρ++ρ'.drop m)[σOf l m lo.length i]? =some v:=by
   intro i v hv
   unfold σOf
   by_cases hi:i<m
   ·have:Nat.blt i m=true:=Nat.ble_eq_true_of_le hi
    simp only[this]
    rw[hold i hi]at hv
    obtain⟨hlt,hc⟩:=ρ2get hv
    rcases hc with ⟨hf,_⟩|⟨_,hv'⟩
    ·exact absurd hf (hfr i hi)
    ·have hπ:l.getD i 0=π i:=rfl
     rw[hπ,List.getElem?_append_left (List.getElem?_eq_some_iff.1 hv').1]
     exact hv'
   ·have:Nat.blt i m=false:=by
     cases hx:Nat.blt i m with
     | false=>rfl
     | true=>exact absurd (Nat.le_of_ble_eq_true hx) hi
    simp only[this]
    rw[List.getElem?_append_right (by rw[s.hlen]; omega),s.hlen,Nat.add_sub_cancel_left,List.getElem?_drop]
    have e:m+(i - m)=i:=by omega
    rw[e]
    exact hv
  have cls:∀ (j:Nat) (o:AObj) (v:Value),(zft l fresh m lo objs')[j]? =some o->(ρ++ρ'.drop m)[j]? =some v->o.live=true ->
    (∃ i o0,objs'[i]? =some o0/\ρ'[i]? =some v/\o=o0.ren (σOf l m lo.length)/\j=σOf l m lo.length i) \/
    (j<lo.length/\lo[j]? =some o/\ρ[j]? =some v/\∀ i,i<objs.length->i ∉ fresh->π i≠j):=by
   intro j o v hj hv hlive
   rcases q8w hj with ⟨o0,h1,h2⟩|⟨h1,o0,h2,h3⟩
   ·have hjl:=(List.getElem?_eq_some_iff.1 h1).1
    rw[List.getElem?_append_left (by rw[s.hlen]; exact hjl)]at hv
    rw[Nat.zero_add]at h2
    unfold zet at h2
    split at h2
    ·rename_i i hp
     obtain⟨_,hli,hif⟩:=zc7 hp
     rw[Nat.sub_zero]at hli
     have hil:i<l.length:=(List.getElem?_eq_some_iff.1 hli).1
     have hπ:π i=j:=by have:=hlget i hil; rw[hli]at this; exact(Option.some.inj this).symm
     split at h2
     ·rename_i him
      have him:i<m:=Nat.le_of_ble_eq_true him
      split at h2
      ·rename_i o' ho'
       refine .inl ⟨i,o',ho',?_,h2,?_⟩
       ·rw[hold i him]
        have hik:i<objs.length:=by omega
        rw[show ρ2[i]? =_ from qk5 hik]
        simp only[hif,if_false]
        rw[List.getD_eq_getElem?_getD,hπ,hv]
        rfl
       ·unfold σOf
        simp only[show Nat.blt i m=true from Nat.ble_eq_true_of_le him]
        exact hπ.symm
      ·rw[h2]at hlive; simp[AObj.live]at hlive
     ·rw[h2]at hlive; simp[AObj.live]at hlive
    ·rename_i hp
     refine .inr ⟨hjl,by rw[h2]; exact h1,hv,fun i hi hf e=>?_⟩
     have:=zc6 hp i (by rw[hlget i (by omega)]; exact congrArg some e)
     rw[Nat.zero_add]at this
     exact hf this
   ·refine .inl ⟨m+(j - lo.length),o0,h2,?_,h3,?_⟩
    ·rw[List.getElem?_append_right (by rw[s.hlen]; exact h1),s.hlen,List.getElem?_drop]at hv
     exact hv
    ·unfold σOf
     have:Nat.blt (m+(j - lo.length)) m=false:=by
      cases hx:Nat.blt (m+(j - lo.length)) m with
      | false=>rfl
      | true=>have:=Nat.le_of_ble_eq_true hx; omega
     simp only[this]
     omega
  have apart:∀ (j:Nat) (o:AObj) (v:Value) (b:Nat),lo[j]? =some o->ρ[j]? =some v->(∀ i,i<objs.length->i ∉ fresh->π i≠j)->o.live=true->qcs v=some b->¬ znz ρ2 objs b:=by
   intro j o v b hj hv hnot hlive hb hlent
   obtain⟨i,o0,v0,hi,hf,ho0,hv0,hl0,hb0⟩:=lentS b hlent
   exact s.excl (π i) j o0 o v0 v b ho0 hj hv0 hv (hnot i hi hf) hl0 hlive hb0 hb
  have old:∀ (j:Nat) (o:AObj) (v:Value) (b:Nat),lo[j]? =some o->ρ[j]? =some v->o.live=true->qcs v=some b->b<w.heap.size:=by
   intro j o v b hj hv hlive hb
   have hfresh:=s.fresh (g:=b)
   rcases Nat.lt_or_ge b w.heap.size with h|h
   ·exact h
   ·exact absurd hb (hfresh h j o v hj hv hlive)
  have zl3:∀ b,bs2.S b\/w.heap.size<=b->bs.S b\/bs.w0.heap.size<=b:=by
   rintro b (hb|hb)
   ·obtain⟨i,o0,v0,_,_,ho0,hv0,hl0,hb0⟩:=lentS b hb
    exact s.own _ o0 v0 b ho0 hv0 hl0 hb0
   ·exact .inr (Nat.le_trans s.keep.size hb)
  refine⟨ρ++ρ'.drop m,H',List.prefix_append _ _,hle,?_,rv.ren hσ⟩
  refine{ sath:=s3.sath,hlen:=?_,pre:=s.pre.trans (List.prefix_append _ _),objs:=?_,excl:=?_,own:=?_,keep:=?_,leH:=s.leH.trans hle,newH:=?_ }
  ·unfold zft
   rw[q1i,List.length_append,List.length_drop,s.hlen,s3.hlen]
  ·intro j o v hj hv
   cases hlive:o.live with
   | false=>cases o<;>simp[AObj.live]at hlive; trivial
   | true=>
    rcases cls j o v hj hv hlive with ⟨i,o0,h1,h2,rfl,_⟩|⟨hjl,h1,h2,hnot⟩
    ·exact(s3.objs i o0 v h1 h2).ren hσ
    ·refine(s.objs j o v h1 h2).keep (List.prefix_append _ _) hle (fun b hb hlt=>s3.keep.block b hlt (apart j o v b h1 h2 hnot hlive hb)) (fun b o' hb hlt hn=>?_)
     cases hx:H' b o' with
     | none=>rfl
     | some u=>
      rcases s3.newH b o' u hx with ⟨y,hy⟩|hS|hge
      ·have hy':H b o'=some y:=hy
       rw[hn]at hy'; cases hy'
      ·exact absurd hS (apart j o v b h1 h2 hnot hlive hb)
      ·have hge':w.heap.size<=b:=hge
       omega
  ·intro j1 j2 o1 o2 v1 v2 b hj1 hj2 hv1 hv2 hne hl1 hl2 hb1 hb2
   rcases cls j1 o1 v1 hj1 hv1 hl1 with ⟨i1,a1,h1,h1v,rfl,e1⟩|⟨hjl1,h1,h1v,hnot1⟩<;>rcases cls j2 o2 v2 hj2 hv2 hl2 with ⟨i2,a2,h2,h2v,rfl,e2⟩|⟨hjl2,h2,h2v,hnot2⟩
   ·exact s3.excl i1 i2 a1 a2 v1 v2 b h1 h2 h1v h2v (fun e=>hne (by rw[e1,e2,e])) (by rw[← AObj.ren_live]; exact hl1) (by rw[← AObj.ren_live]; exact hl2) hb1 hb2
   ·have:=s3.own i1 a1 v1 b h1 h1v (by rw[← AObj.ren_live]; exact hl1) hb1
    rcases this with hS|hge
    ·exact apart j2 o2 v2 b h2 h2v hnot2 hl2 hb2 hS
    ·have hge':w.heap.size<=b:=hge
     have:=old j2 o2 v2 b h2 h2v hl2 hb2
     omega
   ·have:=s3.own i2 a2 v2 b h2 h2v (by rw[← AObj.ren_live]; exact hl2) hb2
    rcases this with hS|hge
    ·exact apart j1 o1 v1 b h1 h1v hnot1 hl1 hb1 hS
    ·have hge':w.heap.size<=b:=hge
     have:=old j1 o1 v1 b h1 h1v hl1 hb1
     omega
   ·exact s.excl j1 j2 o1 o2 v1 v2 b h1 h2 h1v h2v hne hl1 hl2 hb1 hb2
  ·intro j o v b hj hv hlive hb
   rcases cls j o v hj hv hlive with ⟨i,a,h1,h1v,rfl,_⟩|⟨_,h1,h1v,_⟩
   ·exact zl3 b (s3.own i a v b h1 h1v (by rw[← AObj.ren_live]; exact hlive) hb)
   ·exact s.own j o v b h1 h1v hlive hb
  ·exact s.keep.step s3.keep fun i hi=>zl3 i (.inl hi)
  ·intro b o u hu
   rcases s3.newH b o u hu with ⟨y,hy⟩|hS|hge
   ·exact s.newH b o y hy
   ·exact .inr (zl3 b (.inl hS))
   ·exact .inr (zl3 b (.inr hge))
 have:=h bs2 ρ2 H w vs rfl s2' rl2
 generalize (callFunc f vs.toArray).run P w=x at *
 cases x with
 | ok n w'=>
  cases n<;>simp only at this ⊢ <;> try exact this
  ·obtain⟨r0,objs',ρ',H',hR,hle,s3,rv⟩:=this
   exact key r0 objs' ρ' H' w' _ hR hle s3 rv
  ·obtain⟨rfl,hc⟩:=this
   exact⟨rfl,hc.mono fun en w'' ⟨v,r0,objs',ρ',H',e,hR,hle,s3,rv⟩=>by
    obtain⟨r,lo',af,k⟩:=key r0 objs' ρ' H' w'' v hR hle s3 rv
    exact⟨v,r,lo',e,af,k⟩⟩
 | halt x w'=>exact this
end Ax
end
section
namespace Ax
open Go
section
variable {K V:Type} [BEq K]
def qbc (kp:K->PV) (vp:V->PV) (l:List (K×V)):List (PV×PV):=l.map fun e=>(kp e.1,vp e.2)
def qst (k:K):List (K×V)->Option V
 | []=>none
 | (k',v)::l=>bif k==k' then some v else qst k l
def qd0 (l:List (K×V)) (k:K) (d:V):V:=(qst k l).getD d
def q4t (l:List (K×V)) (k:K):Bool:=(qst k l).isSome
def qco (k:K) (v:V):List (K×V)->List (K×V)
 | []=>[(k,v)]
 | (k',v')::l=>bif k==k' then(k,v)::l else(k',v')::qco k v l
def zhu (kp:K->PV):Prop:=∀ a b,zk4 (kp a) (kp b)=(a==b)
theorem q2r {kp:K->PV} (hk:zhu kp) (vp:V->PV) (k:K):∀ l:List (K×V),q4k (kp k) (qbc kp vp l)=(qst k l).map vp
 | []=>rfl
 | (k',v)::l=>by
  have:=q2r hk vp k l
  simp only[qbc,List.map_cons,q4k,qst]at this ⊢
  rw[hk k k']
  cases k==k' with
  | true=>rfl
  | false=>simpa using this
theorem qtt {kp:K->PV} (hk:zhu kp) (vp:V->PV) (l:List (K×V)) (k:K) (d:V):(q4k (kp k) (qbc kp vp l)).getD (vp d)=vp (qd0 l k d):=by
 rw[q2r hk,qd0]
 cases qst k l<;>rfl
theorem qtu {kp:K->PV} (hk:zhu kp) (vp:V->PV) (l:List (K×V)) (k:K):(q4k (kp k) (qbc kp vp l)).isSome=q4t l k:=by
 rw[q2r hk,q4t]
 cases qst k l<;>rfl
theorem qh3 {kp:K->PV} (hk:zhu kp) (vp:V->PV) (k:K) (v:V):∀ l:List (K×V),zk5 (kp k) (vp v) (qbc kp vp l)=qbc kp vp (qco k v l)
 | []=>rfl
 | (k',v')::l=>by
  have:=qh3 hk vp k v l
  simp only[qbc,List.map_cons,zk5,qco]at this ⊢
  rw[hk k k']
  cases k==k' with
  | true=>rfl
  | false=>simpa using this
theorem zjw (kp:K->PV) (vp:V->PV) (l:List (K×V)):(qbc kp vp l).length=l.length:=by simp[qbc]
end
theorem qen:zhu PV.str:=fun _ _=>rfl
theorem Codec.getN {A:Type} (C:Codec A) {l:List A} {j:Nat} {x:A} (h:l[j]? =some x):(C.rows l)[j]? =some (C.cells x):=by
 rw[C.hrows]; simp[h]
theorem Codec.setN {A:Type} (C:Codec A) (l:List A) (j:Nat) (y:A):(C.rows l).set j (C.cells y)=C.rows (l.set j y):=by
 rw[C.hrows,C.hrows,List.map_set]
end Ax
end
section
open Go
namespace Ax
theorem wk {nb:Nat} {E:Env} {lo:List AObj} {E':Env} {lo':List AObj} (l fresh:List Nat) (h:zha nb l fresh=true/\l.length=lo'.length/\zcz lo'.length E'=true/\q1k lo'.length lo'=true:=by exact⟨rfl,rfl,rfl,rfl⟩)
  (h1:zjr E (πOf l) fresh E':=by repeat (first|exact trivial|exact .inl rfl|exact rfl|exact List.not_mem_nil|(refine .inr ?_)|(refine⟨?_,?_⟩)|exact List.length_set.symm|decide))
  (h2:zeq lo (πOf l) fresh 0 lo':=by repeat (first|exact trivial|exact .inl rfl|exact rfl|exact List.not_mem_nil|(refine .inr ?_)|(refine⟨?_,?_⟩)|exact List.length_set.symm|decide)):q76 nb E lo E' lo':=⟨l,fresh,h,h1,h2⟩
theorem qcl {P:Program} {f:FuncId} {args:List FV} {objs:List AObj} {m:Nat} {R:FV->List AObj->Prop} (h:qau P f args objs m R) (l fresh:List Nat) {args':List FV} {lo:List AObj} {K:FV->List AObj->Prop}
  (hK:∀ r0 objs',R r0 objs'->∃ r lo2,r0.ren (σOf l m lo.length)=r/\zft l fresh m lo objs'=lo2/\K r lo2)
  (hw:zha 0 l fresh=true/\l.length=objs.length/\q8x objs.length args=true/\q1k objs.length objs=true/\Nat.ble m objs.length=true/\(List.range m).all (fun i=>!fresh.contains i)=true:=by exact⟨rfl,rfl,rfl,rfl,rfl,rfl⟩)
  (ha:leArgs (πOf l) fresh args' args:=by repeat (first|exact trivial|exact .inl rfl|exact rfl|exact List.not_mem_nil|(refine .inr ?_)|(refine⟨?_,?_⟩)|exact List.length_set.symm|decide))
  (ho:zeq lo (πOf l) fresh 0 objs:=by repeat (first|exact trivial|exact .inl rfl|exact rfl|exact List.not_mem_nil|(refine .inr ?_)|(refine⟨?_,?_⟩)|exact List.length_set.symm|decide)):qsx P f args' lo K:=qau.use h l fresh hw ha ho hK
theorem fin {P:Prop} (h:P:=by repeat (first|exact rfl|exact trivial|refine⟨?_,?_⟩)):P:=h
theorem ifc {R:Type} {c:Bool} {a b:Option R} {r:R} {P Q:Prop} (h:(bif c then a else b)=some r) (f:c=true->a=some r->P) (g:c=false->b=some r->Q):(c=true->P)/\(c=false->Q):=
 ⟨fun hc=>f hc (qy4 h hc),fun hc=>g hc (qy3 h hc)⟩
theorem sj {A:Type} {a b:A} (h:some a=some b):a=b:=Option.some.inj h
end Ax
end
section
namespace W
open Go Ax
inductive qab where
 | mk (op:Int) (name:List UInt8) (val:Val) (names:List (List UInt8)) (args:List qab)
mutual
def qab.cells:qab->List PV
 | .mk op name ⟨k,b,i,s,l,ks⟩ names args=>[.int .i64 op,.str name,.int .i64 k,.bool b,.int .i64 i,.str s,.sl (Val.rows l),.sl (qam ks),.sl (qam names),.sl (qab.rows args)]
def qab.rows:List qab->List (List PV)
 | []=>[]
 | v::l=>v.cells::qab.rows l
end
theorem qab.rows_eq:∀ l:List qab,qab.rows l=l.map qab.cells
 | []=>rfl
 | v::l=>by simp only[qab.rows,List.map_cons]; rw[qab.rows_eq l]
theorem qab.width (e:qab):e.cells.length=10:=by obtain⟨_,_,⟨_,_,_,_,_,_⟩,_,_⟩:=e; rfl
theorem qab.one (e:qab):e.cells.all zj6=true:=by obtain⟨_,_,⟨_,_,_,_,_,_⟩,_,_⟩:=e; rfl
def qca:Codec qab:={ cells:=qab.cells,rows:=qab.rows,z:=10,hrows:=fun l=>qab.rows_eq l,hz:=qab.width,hone:=qab.one }
instance:Inhabited qab:=⟨.mk 0 [] default [] []⟩
structure qaf where
 var_:List UInt8
 labels:List (List UInt8)
 keys:List (List UInt8)
 vals:List qab
def qaf.cells:qaf->List PV
 | ⟨x1,x2,x3,x4⟩=>[.str x1,.sl (qam x2),.sl (qam x3),.sl (qab.rows x4)]
def qaf.rows (l:List qaf):List (List PV):=l.map qaf.cells
def qeq:Codec qaf:={ cells:=qaf.cells,rows:=qaf.rows,z:=4,hrows:=fun _=>rfl,hz:=fun⟨x1,x2,x3,x4⟩=>rfl,hone:=fun⟨x1,x2,x3,x4⟩=>rfl }
deriving instance Inhabited for qaf
structure qai where
 var_:List UInt8
 type_:List UInt8
 dir:Int
 keys:List (List UInt8)
 vals:List qab
def qai.cells:qai->List PV
 | ⟨x1,x2,x3,x4,x5⟩=>[.str x1,.str x2,.int .i64 x3,.sl (qam x4),.sl (qab.rows x5)]
def qai.rows (l:List qai):List (List PV):=l.map qai.cells
def qgn:Codec qai:={ cells:=qai.cells,rows:=qai.rows,z:=5,hrows:=fun _=>rfl,hz:=fun⟨x1,x2,x3,x4,x5⟩=>rfl,hone:=fun⟨x1,x2,x3,x4,x5⟩=>rfl }
deriving instance Inhabited for qai
structure qa9 where
 nodes:List qaf
 edges:List qai
def qa9.cells:qa9->List PV
 | ⟨x1,x2⟩=>[.sl (qaf.rows x1),.sl (qai.rows x2)]
def qa9.rows (l:List qa9):List (List PV):=l.map qa9.cells
def qoa:Codec qa9:={ cells:=qa9.cells,rows:=qa9.rows,z:=2,hrows:=fun _=>rfl,hz:=fun⟨x1,x2⟩=>rfl,hone:=fun⟨x1,x2⟩=>rfl }
deriving instance Inhabited for qa9
structure qbh where
 e:qab
 as_:List UInt8
def qbh.cells:qbh->List PV
 | ⟨⟨x1,x2,⟨x3,x4,x5,x6,x7,x8⟩,x9,x10⟩,x11⟩=>[.int .i64 x1,.str x2,.int .i64 x3,.bool x4,.int .i64 x5,.str x6,.sl (Val.rows x7),.sl (qam x8),.sl (qam x9),.sl (qab.rows x10),.str x11]
def qbh.rows (l:List qbh):List (List PV):=l.map qbh.cells
def qtc:Codec qbh:={ cells:=qbh.cells,rows:=qbh.rows,z:=11,hrows:=fun _=>rfl,hz:=fun⟨⟨x1,x2,⟨x3,x4,x5,x6,x7,x8⟩,x9,x10⟩,x11⟩=>rfl,hone:=fun⟨⟨x1,x2,⟨x3,x4,x5,x6,x7,x8⟩,x9,x10⟩,x11⟩=>rfl }
deriving instance Inhabited for qbh
structure qar where
 e:qab
 down:Bool
def qar.cells:qar->List PV
 | ⟨⟨x1,x2,⟨x3,x4,x5,x6,x7,x8⟩,x9,x10⟩,x11⟩=>[.int .i64 x1,.str x2,.int .i64 x3,.bool x4,.int .i64 x5,.str x6,.sl (Val.rows x7),.sl (qam x8),.sl (qam x9),.sl (qab.rows x10),.bool x11]
def qar.rows (l:List qar):List (List PV):=l.map qar.cells
def qpz:Codec qar:={ cells:=qar.cells,rows:=qar.rows,z:=11,hrows:=fun _=>rfl,hz:=fun⟨⟨x1,x2,⟨x3,x4,x5,x6,x7,x8⟩,x9,x10⟩,x11⟩=>rfl,hone:=fun⟨⟨x1,x2,⟨x3,x4,x5,x6,x7,x8⟩,x9,x10⟩,x11⟩=>rfl }
deriving instance Inhabited for qar
structure qag where
 var_:List UInt8
 key:List UInt8
 label:List UInt8
 e:qab
def qag.cells:qag->List PV
 | ⟨x1,x2,x3,⟨x4,x5,⟨x6,x7,x8,x9,x10,x11⟩,x12,x13⟩⟩=>[.str x1,.str x2,.str x3,.int .i64 x4,.str x5,.int .i64 x6,.bool x7,.int .i64 x8,.str x9,.sl (Val.rows x10),.sl (qam x11),.sl (qam x12),.sl (qab.rows x13)]
def qag.rows (l:List qag):List (List PV):=l.map qag.cells
def qi2:Codec qag:={ cells:=qag.cells,rows:=qag.rows,z:=13,hrows:=fun _=>rfl,hz:=fun⟨x1,x2,x3,⟨x4,x5,⟨x6,x7,x8,x9,x10,x11⟩,x12,x13⟩⟩=>rfl,hone:=fun⟨x1,x2,x3,⟨x4,x5,⟨x6,x7,x8,x9,x10,x11⟩,x12,x13⟩⟩=>rfl }
deriving instance Inhabited for qag
structure qtk where
 setItem:qag
 set_:Bool
def qtk.cells:qtk->List PV
 | ⟨⟨x1,x2,x3,⟨x4,x5,⟨x6,x7,x8,x9,x10,x11⟩,x12,x13⟩⟩,x14⟩=>[.str x1,.str x2,.str x3,.int .i64 x4,.str x5,.int .i64 x6,.bool x7,.int .i64 x8,.str x9,.sl (Val.rows x10),.sl (qam x11),.sl (qam x12),.sl (qab.rows x13),.bool x14]
def qtk.rows (l:List qtk):List (List PV):=l.map qtk.cells
def znm:Codec qtk:={ cells:=qtk.cells,rows:=qtk.rows,z:=14,hrows:=fun _=>rfl,hz:=fun⟨⟨x1,x2,x3,⟨x4,x5,⟨x6,x7,x8,x9,x10,x11⟩,x12,x13⟩⟩,x14⟩=>rfl,hone:=fun⟨⟨x1,x2,x3,⟨x4,x5,⟨x6,x7,x8,x9,x10,x11⟩,x12,x13⟩⟩,x14⟩=>rfl }
deriving instance Inhabited for qtk
structure q16 where
 keys:List (List UInt8)
 vals:List qab
def q16.cells:q16->List PV
 | ⟨x1,x2⟩=>[.sl (qam x1),.sl (qab.rows x2)]
def q16.rows (l:List q16):List (List PV):=l.map q16.cells
def zpu:Codec q16:={ cells:=q16.cells,rows:=q16.rows,z:=2,hrows:=fun _=>rfl,hz:=fun⟨x1,x2⟩=>rfl,hone:=fun⟨x1,x2⟩=>rfl }
deriving instance Inhabited for q16
structure qad where
 kind:Int
 paths:List qa9
 where_:List qab
 e:qab
 var_:List UInt8
 items:List qbh
 unique:Bool
 order:List qar
 skip:List qab
 limit:List qab
 sets:List qag
 vars:List (List UInt8)
 detach:Bool
def qad.cells:qad->List PV
 | ⟨x1,x2,x3,⟨x4,x5,⟨x6,x7,x8,x9,x10,x11⟩,x12,x13⟩,x14,x15,x16,x17,x18,x19,x20,x21,x22⟩=>[.int .i64 x1,.sl (qa9.rows x2),.sl (qab.rows x3),.int .i64 x4,.str x5,.int .i64 x6,.bool x7,.int .i64 x8,.str x9,.sl (Val.rows x10),.sl (qam x11),.sl (qam x12),.sl (qab.rows x13),.str x14,.sl (qbh.rows x15),.bool x16,.sl (qar.rows x17),.sl (qab.rows x18),.sl (qab.rows x19),.sl (qag.rows x20),.sl (qam x21),.bool x22]
def qad.rows (l:List qad):List (List PV):=l.map qad.cells
def qcw:Codec qad:={ cells:=qad.cells,rows:=qad.rows,z:=22,hrows:=fun _=>rfl,hz:=fun⟨x1,x2,x3,⟨x4,x5,⟨x6,x7,x8,x9,x10,x11⟩,x12,x13⟩,x14,x15,x16,x17,x18,x19,x20,x21,x22⟩=>rfl,hone:=fun⟨x1,x2,x3,⟨x4,x5,⟨x6,x7,x8,x9,x10,x11⟩,x12,x13⟩,x14,x15,x16,x17,x18,x19,x20,x21,x22⟩=>rfl }
deriving instance Inhabited for qad
structure qg3 where
 clauses:List qad
def qg3.cells:qg3->List PV
 | ⟨x1⟩=>[.sl (qad.rows x1)]
def qg3.rows (l:List qg3):List (List PV):=l.map qg3.cells
def qys:Codec qg3:={ cells:=qg3.cells,rows:=qg3.rows,z:=1,hrows:=fun _=>rfl,hz:=fun⟨x1⟩=>rfl,hone:=fun⟨x1⟩=>rfl }
deriving instance Inhabited for qg3
structure qaj where
 kind:Int
 text:List UInt8
 int:Int
 at_:Int
def qaj.cells:qaj->List PV
 | ⟨x1,x2,x3,x4⟩=>[.int .i64 x1,.str x2,.int .i64 x3,.int .i64 x4]
def qaj.rows (l:List qaj):List (List PV):=l.map qaj.cells
def qr3:Codec qaj:={ cells:=qaj.cells,rows:=qaj.rows,z:=4,hrows:=fun _=>rfl,hz:=fun⟨x1,x2,x3,x4⟩=>rfl,hone:=fun⟨x1,x2,x3,x4⟩=>rfl }
deriving instance Inhabited for qaj
structure qa6 where
 names:List (List UInt8)
 kinds:List Int
def qa6.cells:qa6->List PV
 | ⟨x1,x2⟩=>[.sl (qam x1),.sl (qbp .i64 x2)]
def qa6.rows (l:List qa6):List (List PV):=l.map qa6.cells
def qpv:Codec qa6:={ cells:=qa6.cells,rows:=qa6.rows,z:=2,hrows:=fun _=>rfl,hz:=fun⟨x1,x2⟩=>rfl,hone:=fun⟨x1,x2⟩=>rfl }
deriving instance Inhabited for qa6
structure qt0 where
 least:Int
 most:Int
 kind:Int
def qt0.cells:qt0->List PV
 | ⟨x1,x2,x3⟩=>[.int .i64 x1,.int .i64 x2,.int .i64 x3]
def qt0.rows (l:List qt0):List (List PV):=l.map qt0.cells
def zpc:Codec qt0:={ cells:=qt0.cells,rows:=qt0.rows,z:=3,hrows:=fun _=>rfl,hz:=fun⟨x1,x2,x3⟩=>rfl,hone:=fun⟨x1,x2,x3⟩=>rfl }
deriving instance Inhabited for qt0
inductive qbl where
 | path (x:qa9)
 | expr (x:qab)
 | item (x:qbh)
 | sorted (x:qar)
 | name (x:List UInt8)
 | change (x:qtk)
def qbl.tid:qbl->TypeId
 | .path _=>128
 | .expr _=>131
 | .item _=>134
 | .sorted _=>137
 | .name _=>140
 | .change _=>144
def qbl.val:qbl->PV
 | .path x=>.agg (qa9.cells x)
 | .expr x=>.agg (qab.cells x)
 | .item x=>.agg (qbh.cells x)
 | .sorted x=>.agg (qar.cells x)
 | .name x=>.str x
 | .change x=>.agg (qtk.cells x)
def qbl.pv (x:qbl):PV:=.ifc x.tid x.val
def qbl.rows (l:List qbl):List (List PV):=l.map fun x=>[x.pv]
def qq9:Codec qbl:={ cells:=fun x=>[x.pv],rows:=qbl.rows,z:=1,hrows:=fun _=>rfl,hz:=fun _=>rfl,hone:=fun _=>rfl }
instance:Inhabited qbl:=⟨.path default⟩
structure qba where
 word:List UInt8
 parts:List qbl
 least:Int
 most:Int
def qba.cells:qba->List PV
 | ⟨x1,x2,x3,x4⟩=>[.str x1,.sl (qbl.rows x2),.int .i64 x3,.int .i64 x4]
def qba.rows (l:List qba):List (List PV):=l.map qba.cells
def qsf:Codec qba:={ cells:=qba.cells,rows:=qba.rows,z:=4,hrows:=fun _=>rfl,hz:=fun⟨x1,x2,x3,x4⟩=>rfl,hone:=fun⟨x1,x2,x3,x4⟩=>rfl }
deriving instance Inhabited for qba
end W
end
section
open Go Ax
namespace W
abbrev SS:=List UInt8
abbrev pI (x:Int):FV:=.p (.int .i64 x)
abbrev pS (x:List UInt8):FV:=.p (.str x)
abbrev pB (x:Bool):FV:=.p (.bool x)
abbrev pT (x:List (List UInt8)):FV:=.p (.sl (qam x))
abbrev pE (x:List qab):FV:=.p (.sl (qab.rows x))
abbrev pV (x:List Val):FV:=.p (.sl (Val.rows x))
abbrev pO (x:List qar):FV:=.p (.sl (qar.rows x))
abbrev pA (x:List qbh):FV:=.p (.sl (qbh.rows x))
abbrev pU (x:List qag):FV:=.p (.sl (qag.rows x))
abbrev pP (x:List qa9):FV:=.p (.sl (qa9.rows x))
abbrev pN (x:List qaf):FV:=.p (.sl (qaf.rows x))
abbrev pG (x:List qai):FV:=.p (.sl (qai.rows x))
abbrev pC (x:List qad):FV:=.p (.sl (qad.rows x))
abbrev pK (x:List qaj):FV:=.p (.sl (qaj.rows x))
end W
end
section
namespace Ax
open Go
def q09 (w:World):PH:=fun b o=>(w.cell? ⟨b,o,none⟩).bind fun v=>bif v.oneCell' then some v else none
theorem qur {w:World} (h:∃ m,w.cell? ⟨0,0,none⟩=some (.int .i64 m)):SatH (q09 w) w where
 cell:=fun b o v hv=>by
  unfold q09 at hv
  obtain⟨u,hu,h1⟩:=Option.bind_eq_some_iff.1 hv
  cases hc:u.oneCell' with
  | false=>rw[hc]at h1; cases h1
  | true=>rw[hc]at h1; cases h1; exact⟨hu,hc⟩
 root:=by
  obtain⟨m,hm⟩:=h
  exact⟨m,by simp[q09,hm,Value.oneCell']⟩
theorem zlm {w:World} {a:Addr} {v:Value} (h:w.cell? a=some v) (h1:v.oneCell'=true):q09 w a.block a.off=some v:=by
 have hs:a.spot=none:=by
  unfold World.cell? at h
  split at h
  ·cases hsp:a.spot with
   | none=>rfl
   | some s=>rw[hsp]at h; simp at h
  ·cases h
 have:(⟨a.block,a.off,none⟩:Addr)=a:=by cases a; simp only at hs; subst hs; rfl
 unfold q09
 rw[this,h]
 simp[h1]
theorem zb3 {w:World} {base:Nat} {a:Addr} {n:Nat} {cs:List Value} (h:w.cells? base a n=some cs):cs.length=n/\∀ j,j<n->w.cell? (a.add j)=cs[j]?:=by
 unfold World.cells? at h
 split at h
 ·exact⟨by simpa using mapM_some_length h,fun j hj=>mapM_some_get h j j (by simp[hj])⟩
 ·cases h
section
variable {Hd:Type} {enc:TypeId×Value->Hd} {P:Program} {w:World}
def qgk {α:Type} (enc:TypeId×Value->Hd) (P:Program) (w:World) (t:TypeId) (n:Nat) (row:α->List PV) (sz:α->Nat) (bulk:DataW Hd->Nat):Prop:=
 ∀ (cs:List Value) (x:DataW Hd×List MemPlace),DataW.trod enc P w 0 (fun _=>true) true n t cs=some x->∃ v:α,qec (q09 w) (row v) cs/\(∀ u∈cs,u.oneCell'=true)/\sz v<=bulk x.1
theorem zp5 {α:Type} {H:PH} {b z:Nat} {row:α->List PV}:∀ (l:List α) (o:Nat) (csOf:Nat->List Value),(∀ v∈l,(row v).length=z) ->
  (∀ i v,l[i]? =some v->qec H (row v) (csOf i)/\∀ j u,(csOf i)[j]? =some u->H b (o+i * z+j)=some u)->qsl H b z o (l.map row)
 | [],_,_,_,_=>trivial
 | v::l,o,csOf,hz,h=>by
  simp only[List.map_cons,qsl]
  refine⟨hz v (by simp),⟨csOf 0,(h 0 v rfl).1,fun j u hu=>by have:=(h 0 v rfl).2 j u hu; simpa using this⟩,?_⟩
  refine zp5 l (o+z) (fun i=>csOf (i+1)) (fun v hv=>hz v (by simp[hv])) fun i v' hv'=>?_
  obtain⟨h1,h2⟩:=h (i+1) v' (by simpa using hv')
  refine⟨h1,fun j u hu=>?_⟩
  have:=h2 j u hu
  rw[Nat.add_mul,Nat.one_mul]at this
  have e:o+(i * z+z)+j=o+z+i * z+j:=by omega
  rw[← e]; exact this
theorem zgx {α:Type} [Inhabited α] {t e:TypeId} {z fuel:Nat} {row:α->List PV} {sz:α->Nat} {bulk:DataW Hd->Nat} (ht:P.underlying t=some (.slice e)) (hz:P.cellsOf e=z) (hz1:1<=z)
  (hrow:∀ v,(row v).length=z) (hel:∀ n,n<fuel->qgk enc P w e n row sz bulk) {cs:List Value} {x:DataW Hd×List MemPlace} (h:DataW.trod enc P w 0 (fun _=>true) true fuel t cs=some x) :
  ∃ (l:List α) (v:Value),cs=[v]/\v.oneCell'=true/\qcp (q09 w) (.sl (l.map row)) v /\
   ((x.1=.nil/\l=[])\/∃ elems rest,x.1=.slice elems rest/\l.length=elems.length/\∀ (i:Nat) (d:DataW Hd) (v:α),elems[i]? =some d->l[i]? =some v->sz v<=bulk d):=by
 rcases DataW.trod_slice ht h with ⟨rfl,rfl⟩|⟨a,len,cap,elems,rest,n,rfl,rfl,rfl,_,hlc,_,hlen,hget,_,_⟩
 ·exact⟨[],_,rfl,rfl,by simp[qcp],.inl ⟨rfl,rfl⟩⟩
 ·have hx:∀ i,i<len->∃ (v:α) (cs:List Value) (d:DataW Hd×List MemPlace),elems[i]? =some d/\qec (q09 w) (row v) cs/\(∀ j u,cs[j]? =some u->q09 w a.block (a.off+i * z+j)=some u)/\sz v<=bulk d.1:=by
   intro i hi
   have h1:=hget i hi
   obtain⟨d,hd⟩:∃ d,elems[i]? =some d:=⟨_,List.getElem?_eq_getElem (by omega)⟩
   rw[hd]at h1
   obtain⟨cs,hcs,htr⟩:=Option.bind_eq_some_iff.1 h1
   obtain⟨v,r,hone,hs⟩:=hel n (Nat.lt_succ_self n) cs d htr
   refine⟨v,cs,d,hd,r,fun j u hu=>?_,hs⟩
   obtain⟨hl,hc⟩:=zb3 hcs
   have hj:j<P.cellsOf e:=by have:=(List.getElem?_eq_some_iff.1 hu).1; omega
   have h2:=hc j hj
   rw[hu,Addr.add_add]at h2
   have:=zlm h2 (hone u (List.mem_of_getElem? hu))
   rw[hz]at this
   have eb:(a.add (i * z+j)).block=a.block:=by unfold Addr.add; split<;>rfl
   have eo:(a.add (i * z+j)).off=a.off+i * z+j:=by unfold Addr.add; split<;>(try simp only)<;>omega
   rw[eb,eo]at this
   exact this
  have spot:len≠0->a.spot=none:=by
   intro h0
   have h1:=hget 0 (by omega)
   obtain⟨d,hd⟩:∃ d,elems[0]? =some d:=⟨_,List.getElem?_eq_getElem (by omega)⟩
   rw[hd]at h1
   obtain⟨cs,hcs,_⟩:=Option.bind_eq_some_iff.1 h1
   obtain⟨hl,hc⟩:=zb3 hcs
   have h2:=hc 0 (by omega)
   rw[Nat.zero_mul,Addr.add_zero',Addr.add_zero']at h2
   cases hu:cs[0]? with
   | none=>have:=List.getElem?_eq_none_iff.1 hu; omega
   | some u=>
    rw[hu]at h2
    unfold World.cell? at h2
    split at h2
    ·cases hsp:a.spot with
     | none=>rfl
     | some s=>rw[hsp]at h2; simp at h2
    ·cases h2
  let f:Nat->α:=fun i=>if h:i<len then(hx i h).choose else default
  have hf:∀ i,i<len->∃ (cs:List Value) (d:DataW Hd×List MemPlace),elems[i]? =some d/\qec (q09 w) (row (f i)) cs/\(∀ j u,cs[j]? =some u->q09 w a.block (a.off+i * z+j)=some u)/\sz (f i)<=bulk d.1:=by
   intro i hi
   have:=(hx i hi).choose_spec
   simp only[f,hi,dif_pos]
   exact this
  refine⟨(List.range len).map f,_,rfl,rfl,?_,.inr ⟨_,_,rfl,by simp[hlen],fun i d v hd hv=>?_⟩⟩
  ·simp only[qcp,List.length_map,List.length_range]
   by_cases h0:len=0
   ·subst h0
    exact .inl ⟨rfl,.inr ⟨_,_,rfl⟩⟩
   ·refine .inr ⟨a.block,a.off,z,cap,?_,hlc,?_⟩
    ·have:=spot h0
     cases a
     simp only at this
     subst this
     rfl
    ·refine zp5 ((List.range len).map f) a.off (fun i=>if h:i<len then(hf i h).choose else[]) (fun v _=>hrow v) fun i v hv=>?_
     simp only[List.getElem?_map,Option.map_eq_some_iff]at hv
     obtain⟨i',hi',rfl⟩:=hv
     obtain⟨hlt,e⟩:=List.getElem?_eq_some_iff.1 hi'
     simp at hlt e
     subst e
     obtain⟨d,hd,hr,hc,_⟩:=(hf i hlt).choose_spec
     simp only[hlt,dif_pos]
     exact⟨hr,hc⟩
  ·simp only[List.getElem?_map,Option.map_eq_some_iff]at hv hd
   obtain⟨i',hi',rfl⟩:=hv
   obtain⟨hlt,e⟩:=List.getElem?_eq_some_iff.1 hi'
   simp at hlt e
   subst e
   obtain⟨d',hd',rfl⟩:=hd
   obtain⟨_,d2,hd2,_,_,hs⟩:=hf i hlt
   rw[hd']at hd2
   cases hd2
   exact hs
end
end Ax
end
section
namespace Ax
open Go Go.RowKit Go.ChangeShapes Go.WideShapes Go.ChangeAt
section
variable {H:Type} {enc:TypeId×Value->H} {P:Program}
theorem q1o (hl:laidOutB P=true) {W W':World} {sp:Nat->Bool} (hb:Below W.heap.size W W'):∀ {ts:List TypeId} {vs:List Value} {ds:List (DataW H)} {ps:List MemPlace},
  (ts.all fun t=>P.readableRec t&&decide (t<P.types.size))=true->DataW.TrodAll enc P W 0 (fun _=>true) true ts vs ds ps->(∀ p∈ps,p.block<W.heap.size)->(∀ p∈ps,sp p.block=true) ->
  DataW.TrodAll enc P W' 0 sp true ts vs ds ps
 | [],_,_,_,_,h,_,_=>by
  obtain⟨rfl,rfl,rfl⟩:=trodAll_nil h
  exact trodAll_mk0
 | t::ts,_,_,_,hr,h,hlt,hs=>by
  obtain⟨v,vs1,d,ds1,a,b,rfl,rfl,rfl,h1,h2⟩:=trodAll_cons h
  simp only[List.all_cons,Bool.and_eq_true,decide_eq_true_eq]at hr
  exact⟨a,b,WideElems.Trod_stays hl hr.1.1 hr.1.2 h1 (fun x hx=>hb.same (hlt x (List.mem_append_left _ hx))) (fun x hx=>hs x (List.mem_append_left _ hx)),
   q1o hl hb hr.2 h2 (fun x hx=>hlt x (List.mem_append_right _ hx)) (fun x hx=>hs x (List.mem_append_right _ hx)),rfl⟩
theorem qxv {f:Func} {s:ChangeSpec} {apart fresh handsOn again:Bool} {W W':World} {args:Array Value} {ds gs:List (DataW H)} {before:List MemPlace} {tb:TypeId} (hl:laidOutB P=true)
  (hr:(f.params.toList.all fun t=>P.readableRec t&&decide (t<P.types.size))=true) (hW:DataW.Whole enc P f.params.toList s.vars apart W args.toList ds gs before) (hb:Below W.heap.size W W') (hvars:s.vars=[])
  (hfn:s.fn H (ds++gs)={ results:=[.lit (.bool true)],args:=ds }) (hrt:f.resultTypes = #[tb]) (hbool:P.underlying tb=some .bool):s.post enc P f apart fresh handsOn again W args (.bool true) W':=by
 have hlt:∀ p∈before,p.block<W.heap.size:=fun p hp=>by simpa using hW.lt p hp
 have hold:∀ p∈before,(fun b=>decide (b<W.heap.size)) p.block=true:=fun p hp=>by simpa using hW.lt p hp
 have hW':=hW
 obtain⟨p,q,hA,hV,rfl,hz,hn⟩:=hW'
 have hq:q=[]/\gs=[]:=by
  rw[hvars]at hV
  obtain⟨h1,h2⟩:=trodVars_none hV
  exact⟨by first|exact h2|exact h1,by first|exact h1|exact h2⟩
 obtain⟨rfl,rfl⟩:=hq
 simp only[List.append_nil]at *
 have hargs:∀ sp:Nat->Bool,(∀ x∈p,sp x.block=true)->DataW.TrodAll enc P W' 0 sp true f.params.toList args.toList ds p:=fun sp hs=>q1o hl hb hr hA hlt hs
 have hres:∀ (b:Nat) (sp:Nat->Bool) (hd:Bool),DataW.TrodAll enc P W' b sp hd f.resultTypes.toList ((Value.bool true).resultList f.resultTypes.size) (s.fn H ds).results []:=by
  intro b sp hd
  rw[hrt,hfn]
  exact trodAll_cons_mk (shut_bool hbool _) trodAll_mk0
 have hvs:∀ sp:Nat->Bool,DataW.TrodVars enc P W' sp s.vars (s.fn H ds).vars []:=by
  intro sp
  rw[hvars,hfn]
  rfl
 refine⟨ds,[],p,[],p,[],hW,?_,?_,?_,World.keptBut_mono (fun x hx=>⟨hx,Or.inr (Or.inl hx)⟩) (hb.frame _),fun _=>?_⟩
 ·simpa using hres _ _ _
 ·simp only[List.append_nil]; rw[hfn]; exact hargs _ hold
 ·simpa using hvs _
 ·refine⟨?_,_,_,([]++p)++[],⟨[]++p,[],trodAll_append (hargs _ (fun _ _=>rfl)) (hres _ _ _),hvs _,rfl,?_,?_⟩,?_⟩
  ·exact ok_one hrt rfl (okWide_bool_mk hbool _)
  ·intro b off hp
   have hp':MemPlace.cell b off∈p:=by simpa using hp
   rw[hb.frozen (p:=⟨b,off,none⟩) (hlt _ hp')]
   exact hz b off hp'
  ·intro ha
   simpa using hn ha
  ·intro x hx _
   simpa using hx
end
end Ax
end
section
namespace Ax
open Go Go.RowKit
theorem qae.calls {P:Program} {f:FuncId} {args:List PV} {r:PV} (h:qae P f args r) (he:q8g P f) {H:PH} {w:World} {vs:List Value} (hs:SatH H w) (rl:qec H args vs) :
  Calls P f vs.toArray w fun e w'=>∃ v H',e=.returned v/\Calm H w H' w'/\qcp H' r v:=by
 have:=h H w vs hs rl
 rw[he]at this
 exact this.2
theorem Calm.below {H H':PH} {w w':World} (c:Calm H w H' w'):Below w.heap.size w w':=
 ⟨c.keep.os,c.keep.tape,c.keep.output,c.keep.size,fun k hk=>c.keep.block k hk id⟩
end Ax
end
section
open Go Ax
namespace W
abbrev lim:Nat:=1073741824
section
variable {A R S T:Type}
@[simp] theorem qac (a:A) (k:A->Option R):bnd (some a) k=k a:=rfl
@[simp] theorem zqw (k:Option R):chk true k=k:=rfl
theorem qc9 {b:Bool} {k:Option R} (h:b=true):chk b k=k:=by subst h; rfl
theorem q2f {p:Prop} [Decidable p] {k:Option R} (h:p):chk (decide p) k=k:=qc9 (decide_eq_true h)
@[simp] theorem qdw [Inhabited A] (o:Option A):qa5 true o=o:=rfl
@[simp] theorem qq7 [Inhabited A] (o:Option A):qa5 false o=some default:=rfl
theorem qa0 (B:(S->Option R)->S->Option R) (n:Nat) (s:S):qap B (n+1) s=B (qap B n) s:=rfl
theorem qal {l:List A} {i:Nat} {x:A} (h:l[i]? =some x):idx l (i:Int)=some x:=by
 unfold idx
 rw[if_pos (Int.natCast_nonneg i)]
 simpa using h
@[simp] theorem qri (x:A) (l:List A):idx (x::l) (0:Int)=some x:=rfl
@[simp] theorem zd8 (x y:A) (l:List A):idx (x::y::l) (1:Int)=some y:=rfl
@[simp] theorem qqn (n:Nat):qz9 (n:Int)=some n:=by
 unfold qz9
 rw[if_pos (Int.natCast_nonneg n)]
 simp
theorem qb8 {k:Nat} (h:k<=1152921504606846976):IntKind.i64.wrap ((k:Int)+1)=((k+1:Nat):Int):=by
 rw[zky _ (by omega) (by omega)]; omega
theorem qvx {i:Int} (h0:-1152921504606846976<=i) (h1:i<=1152921504606846976):IntKind.i64.wrap i=i:=zky _ (by omega) (by omega)
theorem qte {B:(S->Option R)->S->Option R} (st:Nat->S) (m:Nat) {r:Option R} (hs:∀ k,k<m->∀ nx,B nx (st k)=nx (st (k+1))) (he:∀ nx,B nx (st m)=r) {n:Nat} (hn:m<n):qap B n (st 0)=r:=by
 have key:∀ (d k n:Nat),k+d=m->d<n->qap B n (st k)=r:=by
  intro d
  induction d with
  | zero=>
   intro k n hk hn
   obtain⟨n,rfl⟩:=Nat.exists_eq_succ_of_ne_zero (by omega:n≠0)
   have:k=m:=by omega
   subst this
   exact he _
  | succ d ih=>
   intro k n hk hn
   obtain⟨n,rfl⟩:=Nat.exists_eq_succ_of_ne_zero (by omega:n≠0)
   rw[qa0,hs k (by omega)]
   exact ih (k+1) n (by omega) (by omega)
 exact key m 0 n (by omega) hn
def orE (o k:Option R):Option R:=match o with|some r=>some r|none=>k
def zj7 (o:R ⊕ T) (k:T->Option R):Option R:=match o with|.inl r=>some r|.inr t=>k t
@[simp] theorem zqm (r:R) (k:Option R):orE (some r) k=some r:=rfl
@[simp] theorem zql (k:Option R):orE none k=k:=rfl
@[simp] theorem zrg (r:R) (k:T->Option R):zj7 (.inl r) k=some r:=rfl
@[simp] theorem zj8 (t:T) (k:T->Option R):zj7 (.inr t) k=k t:=rfl
def qdo (f:T->A->R ⊕ T):T->List A->R ⊕ T
 | t,[]=>.inr t
 | t,x::l=>match f t x with
  | .inl r=>.inl r
  | .inr t'=>qdo f t' l
theorem qoq {B:(S->Option R)->S->Option R} (mk:Nat->T->S) (I:Nat->T->Prop) {l:List A} (f:T->A->R ⊕ T) {rest:T->Option R}
  (hs:∀ (k:Nat) (x:A) (t:T) (nx:S->Option R),l[k]? =some x->I k t->B nx (mk k t)=zj7 (f t x) fun t'=>nx (mk (k+1) t'))
  (hI:∀ (k:Nat) (x:A) (t t':T),l[k]? =some x->I k t->f t x=.inr t'->I (k+1) t')
  (he:∀ (t:T) (nx:S->Option R),I l.length t->B nx (mk l.length t)=rest t) {n:Nat} (hn:l.length<n) {t0:T} (h0:I 0 t0) :
  qap B n (mk 0 t0)=zj7 (qdo f t0 l) rest:=by
 have key:∀ (suf:List A) (k n:Nat) (t:T),(∀ j,suf[j]? =l[k+j]?)->k+suf.length=l.length->suf.length<n->I k t->qap B n (mk k t)=zj7 (qdo f t suf) rest:=by
  intro suf
  induction suf with
  | nil=>
   intro k n t hsuf hk hn hi
   obtain⟨n,rfl⟩:=Nat.exists_eq_succ_of_ne_zero (by omega:n≠0)
   have:k=l.length:=by simpa using hk
   subst this
   rw[qa0,he t _ hi]
   rfl
  | cons x suf ih=>
   intro k n t hsuf hk hn hi
   obtain⟨n,rfl⟩:=Nat.exists_eq_succ_of_ne_zero (by omega:n≠0)
   have hx:l[k]? =some x:=by have:=hsuf 0; simpa using this.symm
   rw[qa0,hs k x t _ hx hi]
   simp only[qdo]
   cases hf:f t x with
   | inl r=>rfl
   | inr t'=>
    simp only[zj8]
    refine ih (k+1) n t' (fun j=>?_) (by simp at hk; omega) (by simp at hn; omega) (hI k x t t' hx hi hf)
    have:=hsuf (j+1)
    rw[show k+1+j=k+(j+1) by omega]
    simpa using this
 exact key l 0 n t0 (fun j=>by simp) (by simp) hn h0
def qew (f:A->Option R):List A->Option R
 | []=>none
 | x::l=>match f x with
  | some r=>some r
  | none=>qew f l
theorem qds {B:(S->Option R)->S->Option R} (mk:Nat->S) {l:List A} (f:A->Option R) {rest:Option R}
  (hs:∀ (k:Nat) (x:A) (nx:S->Option R),l[k]? =some x->B nx (mk k)=orE (f x) (nx (mk (k+1))))
  (he:∀ (nx:S->Option R),B nx (mk l.length)=rest) {n:Nat} (hn:l.length<n) :
  qap B n (mk 0)=orE (qew f l) rest:=by
 have h:=qoq (B:=B) (fun k (_:Unit)=>mk k) (fun _ _=>True) (l:=l) (fun _ x=>match f x with|some r=>.inl r|none=>.inr ()) (rest:=fun _=>rest)
  (fun k x _ nx hx _=>by rw[hs k x nx hx]; cases f x<;>rfl) (fun _ _ _ _ _ _ _=>trivial) (fun _ nx _=>he nx) hn (t0:=()) trivial
 rw[h]
 have key:∀ l:List A,qdo (T:=Unit) (fun _ x=>match f x with|some r=>.inl r|none=>.inr ()) () l=(match qew f l with|some r=>.inl r|none=>.inr ()):=by
  intro l
  induction l with
  | nil=>rfl
  | cons x l ih=>
   simp only[qdo,qew]
   cases f x with
   | some r=>rfl
   | none=>exact ih
 rw[key]
 cases qew f l<;>rfl
end
theorem qcm {A:Type} {l:List A} {k:Nat} {x:A} (h:l[k]? =some x):k<l.length:=(List.getElem?_eq_some_iff.1 h).1
theorem qbn {A:Type} {l:List A} {k:Nat} {x:A} (h:l[k]? =some x):x∈l:=List.mem_of_getElem? h
@[simp] theorem qay (l:List (List UInt8)):(qam l).length=l.length:=by simp[qam]
@[simp] theorem qvi (k:IntKind) (l:List Int):(qbp k l).length=l.length:=by simp[qbp]
@[simp] theorem q53 (l:List UInt8):(qea l).length=l.length:=by simp[qea]
@[simp] theorem qfk (l:List Val):(Val.rows l).length=l.length:=by rw[rows_eq]; simp
theorem qbf {k m:Nat} (h:k<m):decide ((k:Int)<(m:Int))=true:=decide_eq_true (by omega)
theorem qaz {m:Nat}:decide ((m:Int)<(m:Int))=false:=decide_eq_false (by omega)
end W
end
section
open Go Go.Proofs Ax
namespace W
theorem qa3:Tryz.prog.follows .mixedOrders=true:=by kernel_rfl
def qmh (_:Nat) (s sub:List UInt8):Option Bool:=chk (decide (s.length<4294967281)) (some (Lib.contains s sub))
set_option maxRecDepth 100000 in
theorem qwv (n:Nat):∀ (s sub:List UInt8) (r:Bool),qmh n s sub=some r->qae Tryz.prog 172 [.str s,.str sub] (.bool r):=by
 intro s sub r h
 obtain⟨hs,h⟩:=qaw h
 obtain rfl:=Option.some.inj h
 intro H w vs hsat hr
 obtain⟨m,hm⟩:=hsat.root
 have c:=Tryz.strings_Contains ⟨s.toArray⟩ ⟨sub.toArray⟩ m w (by rw[ByteArray.size_mk_toArray]; exact of_decide_eq_true hs) (hsat.cell _ _ _ hm).1
 have e:vs=[.string ⟨s.toArray⟩,.string ⟨sub.toArray⟩]:=by
  simp only[qec,qcp]at hr
  obtain⟨_,_,rfl,rfl,_,_,rfl,rfl,rfl⟩:=hr
  rfl
 subst e
 rw[Tryz.call172]
 refine⟨rfl,c.mono fun e w' p=>?_⟩
 obtain⟨p,rfl⟩:=p
 exact⟨_,H,p,Calm.refl hsat,by simp[qcp]⟩
end W
end
