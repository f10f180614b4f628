/- A part of the proof: the abstract execution. -/
import Derived.Test.YtgbnebnnphdenaaGreatShelf
import Derived.ChangeArms
import Derived.DataElems
import Derived.DataReads
import Derived.Carry
import Derived.ChangeSame
import Derived.ProofKit
import Derived.WalkKit
import Derived.OpenShut
import Derived.Shelf.Spec.SlicesGrow
import Derived.Shelf.GgSortMore.Stable
import Derived.Shelf.GgSortFunc.SW
import Derived.Deep.QuietTactic
import Derived.Test.YtgbnebnnphdenaaGreatB
set_option linter.unusedVariables false
set_option linter.unusedSimpArgs false
set_option linter.unnecessarySimpa false
set_option linter.deprecated false
set_option linter.unusedSectionVars false
set_option linter.constructorNameAsVariable false
open Go renaming run_underlying->kru
open List renaming getElem?_eq_getElem->jf,mem_cons->jg,map_cons->jk,length_map->jl,prefix_refl->jq,length_take->jt,getElem?_append_left->jB,getElem?_append_right->jC,getElem?_drop->jD,getElem?_take->jE,getElem?_set->jF,getElem?_eq_some_iff->jG,eq_nil_of_length_eq_zero->jI,map_map->jW
open Nat renaming le_of_ble_eq_true->jh,eq_of_beq_eq_true->jm,le_refl->jw,zero_add->jx,zero_le->jS
open Bool renaming and_eq_true->ji
open Go.Result renaming andThen_ok->kc
open Go.Sem renaming run_bind->ke
section
namespace Ax
open Go
def zn (P:Program) (f:FuncId) (args:List FV) (objs:List AObj) (m:Nat) (R:FV->List AObj->Prop):Prop:=
 ∀ (bs:Base) (ρ:List Value) (H:PH) (w:World) (vs:List Value),bs.r0=ρ.take m->SatW bs ρ H objs w->zZ ρ H args vs ->
  match (callFunc f vs.toArray).run P w with
  | .ok (.value v) w'=>∃ r a ρ' H',R r a/\PH.le H H'/\SatW bs ρ' H' a w'/\qR ρ' H' r v
  | .ok (.enter f' args') w'=>w'=w/\Calls P f' args' w fun c b=>∃ v r a ρ' H',c=.returned v/\R r a/\PH.le H H'/\SatW bs ρ' H' a b/\qR ρ' H' r v
  | _=>False
theorem zn.mono {P:Program} {f:FuncId} {args:List FV} {objs:List AObj} {m:Nat} {R R':FV->List AObj->Prop} (h:zn P f args objs m R) (b:∀ r lo,R r lo->R' r lo):zn P f args objs m R':=by
 intro bs ρ H w vs c s d;have:=h bs ρ H w vs c s d;generalize (callFunc f vs.toArray).run P w=x at *;cases x with
 | ok n w'=>
  cases n<;>simp only at this ⊢ <;> try exact this
  ·obtain⟨r,a,ρ',H',h1,h2⟩:=this; exact⟨r,a,ρ',H',b _ _ h1,h2⟩
  exact⟨this.1,this.2.mono fun i g ⟨v,r,a,ρ',H',e,h1,h2⟩=>⟨v,r,a,ρ',H',e,b _ _ h1,h2⟩⟩
 | halt x w'=>exact this
def qgz (P:Program) (fn:Func) (m:Nat) (R:FV->List AObj->Prop):KA:=qfz P fn fun r0 lo=>∃ r a,R r a/\Eo m [(0,r0)] lo [(0,r)] a
def vcO (P:Program) (inl:List Nat) (fn:Func) (args:List FV) (objs:List AObj) (m:Nat) (R:FV->List AObj->Prop):Prop:=
 match fn.body with
 | some c=>vc P inl fn.ntmps m c (qgz P fn m R) (sD 0 args) objs
 | none=>False
theorem zn.of_vc {P:Program} {f:FuncId} {fn:Func} {args:List FV} {objs:List AObj} {m:Nat} {R:FV->List AObj->Prop} {inl:List Nat} (hm:P.follows .mixedOrders=true) (he:Enters P f) (J:P.funcs[f]? =some fn) (j:iN inl fn args.length=true)
  (K:m<=objs.length) (h:vcO P inl fn args objs m R):zn P f args objs m R:=by
 intro bs ρ H w vs y s I;rw[he];refine⟨rfl,?_⟩;simp only[iN,ji,kde]at j;obtain⟨z,Q⟩:=j;unfold vcO at h;cases A:fn.body with
 | none=>simp[A]at z
 | some c=>
  simp only[A]at h z;refine calls_of_wp J A ?_;have hl:=I.length;have l:bs.r0.length=m:=by rw[y,jt,s.hlen]; omega
  have sat:Sat bs fn.ntmps ρ H (qT (sD 0 args)) objs { tmps:=vs.toArray++Array.replicate (fn.ntmps - vs.toArray.size) undef,defers:=[] } w:=by
   refine{ s with slots:=fun t=>?_,width:=by simp; omega,defers:=rfl }
   rw[XX];simp only[jS,if_true,Nat.sub_zero];cases L:args[t]? with
   | none=>trivial
   | some p=>
    obtain⟨v,i,B⟩:=I.get L;have C:=(jG.1 i).1;have:(vs.toArray++Array.replicate (fn.ntmps - vs.toArray.size) undef).getD t undef=v:=by
     rw[Array.getD_eq_getD_getElem?,Array.getElem?_append_left (by simpa using C)];simp[i]
    rw[this];exact B
  have g:=cq hm c _ _ _ z h { bs with H0:=H } ρ H _ w l { sat with leH:=PH.le.refl H,newH:=fun b o v i=>.inl ⟨v,i⟩ }
  refine wp_mono g fun e a w' p=>?_;obtain⟨x,ρ',H',E',lo',M,q,k⟩:=p;obtain⟨r0,D,E,n⟩:=NM k;obtain⟨r,d,D,hw⟩:=D;obtain⟨v,i,B⟩:=n _ _ ρ' H' a w' q;have s1:Sat { bs with H0:=H } 1 ρ' H' (qT [(0,r0)]) lo' { tmps:=#[v],defers:=[] } w':=by
   refine{ q.toSatW with slots:=fun t=>?_,width:=rfl,defers:=rfl }
   cases t with
   | zero=>exact B
   | succ t=>simp only[qT]; exact trivial
  obtain⟨ρ2,s2⟩:=Eo.sat s1 (by rw[l]; exact hw);have rv2:qR ρ2 H' r v:=s2.slots 0;have fin:∃ v,(results fn a.tmps).run P w'=.ok v w'/\(fun N F=>∃ v r d ρ' H',N=Ending.returned v/\R r d/\PH.le H H'/\SatW bs ρ' H' d F/\qR ρ' H' r v) (.returned v) w':=by
   refine⟨v,i,v,r,d,ρ2,H',rfl,D,s2.leH,?_,rv2⟩;refine{ s2.toSatW with leH:=s.leH.trans s2.leH,newH:=fun b o u hu=>?_ }
   rcases s2.newH b o u hu with ⟨O,G⟩|h|h
   ·exact s.newH b o O G
   ·exact .inr (.inl h)
   exact .inr (.inr h)
  rcases E with rfl|rfl<;>cases e<;>simp only[aX]at M
  ·exact⟨q.defers,fin⟩
  exact⟨q.defers,fin⟩
def AObj.ren (σ:Nat->Nat):AObj->AObj
 | .box t cells=>.box t (cells.map (FV.ren σ))
 | .mp d es _=>.mp d es none
 | .vl e z rows j k=>.vl e z rows j (σ k)
 | .pbx t c=>.pbx t (c.ren σ)
 | o=>o
theorem qR.ren {ρ ρ':List Value} {H:PH} {σ:Nat->Nat} (h:∀ i v,ρ[i]? =some v->ρ'[σ i]? =some v):∀ {f:FV} {x:Value},qR ρ H f x->qR ρ' H (f.ren σ) x
 | .top,_,_=>trivial
 | .p p,x,r=>r
 | .opt g v,x,r=>by
  simp only[FV.ren,qR]at *;split
  ·rename_i d; simp only[d,if_true]at r; exact qR.ren h r
  rename_i d; simpa[d]using r
 | .tsl k rows,x,r=>⟨h _ _ r.1,r.2⟩
 | .ptr k off,x,⟨b,e,e'⟩=>⟨b,h _ _ e,e'⟩
 | .hptr row,x,r=>r
 | .bself k,x,⟨b,e,e'⟩=>⟨b,h _ _ e,e'⟩
 | .bsl k off len cap,x,⟨b,e,e'⟩=>⟨b,h _ _ e,e'⟩
 | .vsl k n,x,r=>⟨h _ _ r.1,r.2⟩
 | .eptr k z i off,x,⟨b,n,cap,e,e'⟩=>⟨b,n,cap,h _ _ e,e'⟩
 | .mref k,x,⟨b,e,e'⟩=>⟨b,h _ _ e,e'⟩
 | .pair a b,x,⟨u,v,e,ra,rb⟩=>⟨u,v,e,ra.ren h,rb.ren h⟩
 | .stmp k,x,r=>h _ _ r
 | .clo f c,x,⟨vs,e,rc⟩=>⟨vs,e,rc.ren h⟩
 | .cap0,x,r=>r
 | .cap a b,x,⟨u,vs,e,ra,rb⟩=>⟨u,vs,e,ra.ren h,rb.ren h⟩
 | .fagg c,x,⟨vs,e,rc⟩=>⟨vs,e,rc.ren h⟩
 | .nxt ok a b,x,r=>r
 | .asl k off n,x,⟨b,m,cap,c,e,e'⟩=>⟨b,m,cap,c,h _ _ e,e'⟩
 | .ifs t c,x,⟨u,e,rc⟩=>⟨u,e,rc.ren h⟩
theorem zZ.ren {ρ ρ':List Value} {H:PH} {σ:Nat->Nat} (h:∀ i v,ρ[i]? =some v->ρ'[σ i]? =some v):∀ {cs:List FV} {vs:List Value},zZ ρ H cs vs->zZ ρ' H (cs.map (FV.ren σ)) vs
 | [],_,r=>r
 | _::_,_,⟨v,vs',e,r,rs⟩=>⟨v,vs',e,r.ren h,rs.ren h⟩
theorem ZK.ren {ρ ρ':List Value} {H:PH} {w:World} {σ:Nat->Nat} (h:∀ i v,ρ[i]? =some v->ρ'[σ i]? =some v) {v:Value} {o:AObj} (ok:ZK ρ H w v o):ZK ρ' H w v (o.ren σ):=by
 cases o with
 | dead=>trivial
 | box t cells=>
  obtain⟨b,vs,e,a,rc,f⟩:=ok;exact⟨b,vs,e,a,rc.ren h,f⟩
 | tail e z n=>exact ok
 | vec e z rows=>exact ok
 | mp d es mk=>
  obtain⟨b,ents,clock,e,a,g,⟨h1,h2,_⟩,f⟩:=ok;exact⟨b,ents,clock,e,a,g,⟨h1,h2,fun key s e=>by cases e⟩,f⟩
 | sit l p=>exact ok
 | bv l=>exact ok
 | vl e z rows j k=>
  obtain⟨xs,h1,h2,h3,h4,h5⟩:=ok;exact⟨xs,h1,h2,h3,h4,fun u hu=>h _ _ (h5 u hu)⟩
 | pbx t c=>
  obtain⟨b,u,us,e,a,rc,f⟩:=ok;exact⟨b,u,us,e,a,rc.ren h,f⟩
theorem AObj.ren_live (σ:Nat->Nat) (o:AObj):(o.ren σ).live=o.live:=by cases o<;>rfl
def σOf (l:List Nat) (m n:Nat):Nat->Nat:=fun i=>match Nat.blt i m with
 | true=>l.getD i 0
 | false=>n+(i - m)
def ed:List Nat->List Nat->Nat->Nat->Option Nat
 | [],_,_,_=>none
 | k::l,fresh,i,j=>match Nat.beq k j with
  | true=>match fresh.contains i with
   | true=>ed l fresh (i+1) j
   | false=>some i
  | false=>ed l fresh (i+1) j
def Rs (l fresh:List Nat) (m:Nat) (σ:Nat->Nat) (a:List AObj) (j:Nat) (o:AObj):AObj:=
 match ed l fresh 0 j with
 | some i=>match Nat.blt i m with
  | true=>match a[i]? with|some o'=>o'.ren σ|none=>.dead
  | false=>.dead
 | none=>o
def UM (l fresh:List Nat) (m:Nat) (σ:Nat->Nat) (a:List AObj):Nat->List AObj->List AObj
 | _,[]=>(a.drop m).map (AObj.ren σ)
 | j,o::lo=>Rs l fresh m σ a j o::UM l fresh m σ a (j+1) lo
def Sj (l fresh:List Nat) (m:Nat) (lo a:List AObj):List AObj:=UM l fresh m (σOf l m lo.length) a 0 lo
theorem ET {l fresh:List Nat} {m:Nat} {σ:Nat->Nat} {a:List AObj}:∀ {lo:List AObj} {j i:Nat} {o:AObj},(UM l fresh m σ a j lo)[i]? =some o ->
  (∃ b,lo[i]? =some b/\o=Rs l fresh m σ a (j+i) b)\/(lo.length<=i/\∃ b,a[m+(i - lo.length)]? =some b/\o=b.ren σ)
 | [],j,i,o,h=>by
  simp only[UM,List.getElem?_map,jD]at h;cases c:a[m+i]? with
  | none=>simp[c]at h
  | some b=>
   simp[c]at h;exact .inr ⟨jS _,b,by simpa using c,h.symm⟩
 | x::lo,j,0,o,h=>by
  simp only[UM,List.getElem?_cons_zero,Option.some.injEq]at h;exact .inl ⟨x,rfl,h.symm⟩
 | x::lo,j,i+1,o,h=>by
  simp only[UM,List.getElem?_cons_succ]at h;rcases ET h with ⟨b,h1,h2⟩|⟨h1,b,h2,h3⟩
  ·exact .inl ⟨b,by simpa using h1,by rw[h2,Nat.add_assoc,Nat.add_comm 1 i]⟩
  refine .inr ⟨by simpa using h1,b,?_,h3⟩;simpa using h2
theorem UN {l fresh:List Nat} {m:Nat} {σ:Nat->Nat} {a:List AObj}:∀ {lo:List AObj} {j:Nat},(UM l fresh m σ a j lo).length=lo.length+(a.length - m)
 | [],j=>by simp[UM]
 | x::lo,j=>by
  simp only[UM,List.length_cons,UN (lo:=lo)];omega
theorem ND {fresh:List Nat} {j:Nat}:∀ {l:List Nat} {i0 i:Nat},ed l fresh i0 j=some i->i0<=i/\l[i - i0]? =some j/\i ∉ fresh
 | [],_,_,h=>by simp[ed]at h
 | k::l,i0,i,h=>by
  simp only[ed]at h;have step:ed l fresh (i0+1) j=some i->i0<=i/\(k::l)[i - i0]? =some j/\i ∉ fresh:=by
   intro h;obtain⟨h1,h2,h3⟩:=ND h;refine⟨by omega,?_,h3⟩;have e:i - i0=(i - (i0+1))+1:=by omega
   rw[e];simpa using h2
  split at h
  ·rename_i a
   have a:=jm a;split at h
   ·exact step h
   rename_i b;cases h;exact⟨jw _,by simp[a],by simpa using b⟩
  exact step h
theorem NC {fresh:List Nat} {j:Nat}:∀ {l:List Nat} {i0:Nat},ed l fresh i0 j=none->∀ i,l[i]? =some j->i0+i∈fresh
 | [],_,_,i,h=>by simp at h
 | k::l,i0,h,i,hi=>by
  simp only[ed]at h;cases i with
  | zero=>
   simp at hi;subst hi;simp only[Nat.beq_refl]at h;split at h
   ·rename_i a; simpa using a
   cases h
  | succ i=>
   have step:ed l fresh (i0+1) j=none->i0+(i+1)∈fresh:=fun h=>by
    have:=NC h i (by simpa using hi);have e:i0+1+i=i0+(i+1):=by omega
    rwa [e]at this
   split at h
   ·split at h
    ·exact step h
    cases h
   ·exact step h
def leArgs (π:Nat->Nat) (fresh:List Nat):List FV->List FV->Prop
 | [],[]=>True
 | a::l,b::m=>leF π fresh a b/\leArgs π fresh l m
 | _,_=>False
theorem ER {ρ:List Value} {H:PH} {π:Nat->Nat} {fresh:List Nat} {n:Nat}:∀ {xs d:List FV} {vs:List Value},leArgs π fresh xs d->(∀ c∈d,∀ k∈c.names,k<n)->zZ ρ H xs vs->zZ (Pf ρ π fresh n) H d vs
 | [],[],vs,_,_,r=>r
 | [],_::_,_,h,_,_=>by simp[leArgs]at h
 | _::_,[],_,h,_,_=>by simp[leArgs]at h
 | a::xs,b::d,vs,h,hn,r=>by
  simp only[leArgs]at h;obtain⟨v,f,e,g,rs⟩:=r;exact⟨v,f,e,LJ h.1 (hn b (by simp)) g,ER h.2 (fun c i=>hn c (by simp[i])) rs⟩
theorem Tk {π:Nat->Nat} {fresh:List Nat} {k:Nat} {o o':AObj} (a:fZ π fresh k o o') (hl:o'.live=true):o.live=true:=by
 cases o' with
 | dead=>simp[AObj.live]at hl
 | box t c=>cases o<;>simp only[fZ]at a; rfl
 | tail e z n=>simp only[fZ]at a; subst a; rfl
 | vec e z n=>simp only[fZ]at a; subst a; rfl
 | mp d es mk=>simp only[fZ]at a; obtain⟨_,_,rfl⟩:=a; rfl
 | sit l p=>simp only[fZ]at a; subst a; rfl
 | bv l=>simp only[fZ]at a; subst a; rfl
 | vl e z rows j k'=>simp only[fZ]at a; obtain⟨_,rfl⟩:=a; rfl
 | pbx t c=>cases o<;>simp only[fZ]at a; rfl
theorem zn.use {P:Program} {f:FuncId} {args:List FV} {objs:List AObj} {m:Nat} {R:FV->List AObj->Prop} (h:zn P f args objs m R) (l fresh:List Nat) {args':List FV} {lo:List AObj} {K:FV->List AObj->Prop}
  (hw:qc2 0 l fresh=true/\l.length=objs.length/\EU objs.length args=true/\nW objs.length objs=true/\Nat.ble m objs.length=true/\(List.range m).all (fun i=>!fresh.contains i)=true)
  (ha:leArgs (πOf l) fresh args' args) (ho:Ro lo (πOf l) fresh 0 objs)
  (hK:∀ r0 q,R r0 q->∃ r lo2,r0.ren (σOf l m lo.length)=r/\Sj l fresh m lo q=lo2/\K r lo2):vO P f args' lo K:=by
 obtain⟨C,hl,hnA,hnO,hml,hfr⟩:=hw;have hml:=jh hml;have hfr:∀ i,i<m->i ∉ fresh:=by
  intro i E;have:=List.all_eq_true.1 hfr i (by simpa using E);simpa using this
 simp only[qc2,ji,kde,List.all_eq_true,List.mem_range,Bool.or_eq_true,beq_iff_eq,Bool.not_eq_true',bne_iff_ne]at C;obtain⟨⟨⟨_,_⟩,hinj⟩,hfl⟩:=C;have get:=fun(i:Nat) (o':AObj) (h:objs[i]? =some o')=>GK ho i o' h;simp only[jx]at get;have inj:∀ i j,i<objs.length->j<objs.length->i ∉ fresh->j ∉ fresh->πOf l i=πOf l j->i=j:=by
  intro i j E X hfi hfj e;have:=hinj i (by omega) j (by omega);simp only[List.contains_iff_mem,hfi,hfj,false_or]at this;rcases this with h|h
  ·exact absurd e h
  exact h
 have Y:∀ i,i<l.length->l[i]? =some (πOf l i):=fun i E=>by
  simp[πOf,List.getD_eq_getElem?_getD,jf E]
 intro bs ρ H w vs s rl
 let π:=πOf l
 let ρ2:=Pf ρ π fresh objs.length
 have weak:Weak 0 (sD 0 args') lo (sD 0 args) objs π fresh:=by
  refine{ bounds:=fun k L I=>?_,keep:=fun k L=>absurd L (Nat.not_lt_zero _),nb:=jS _,inj:=fun i j oi oj E X _ _=>inj i j (jG.1 E).1 (jG.1 X).1,frsh:=fun k L=>?_,obj:=fun k o' ho I=>(get k o' ho).2 I,slot:=?_ }
  ·obtain⟨o,ho,_⟩:=(get k _ (jf L)).2 I
   exact(jG.1 ho).1
  ·have hk':k<objs.length:=by have:=hfl k L; omega
   obtain⟨e,z,he⟩:=(get k _ (jf hk')).1 L;exact⟨e,z,he.imp (fun he=>by rw[jf hk',he]) (fun he=>he.imp (fun he=>by rw[jf hk',he]) (fun⟨j,k2,he⟩=>⟨j,k2,by rw[jf hk',he]⟩))⟩
  have:∀ (n:Nat) (xs ys:List FV),leArgs π fresh xs ys->∀ t v,(t,v)∈sD n ys->leF π fresh (qT (sD n xs) t) v:=by
   intro n xs
   induction xs generalizing n with
   | nil=>
    intro ys O t v hm;cases ys with
    | nil=>simp[sD]at hm
    | cons b ys=>simp[leArgs]at O
   | cons a xs ih=>
    intro ys O t v hm;cases ys with
    | nil=>simp[leArgs]at O
    | cons b ys=>
     simp only[leArgs]at O;simp only[sD,jg,Prod.mk.injEq]at hm;have F:∀ (n:Nat) (bs:List FV) (t:Nat) (v:FV),(t,v)∈sD n bs->n<=t:=by
      intro n bs
      induction bs generalizing n with
      | nil=>intro t v h; simp[sD]at h
      | cons c cs ih2=>
       intro t v h;simp only[sD,jg,Prod.mk.injEq]at h;rcases h with ⟨rfl,_⟩|h
       ·exact jw _
       have:=ih2 (n+1) t v h; omega
     simp only[sD,qT];rcases hm with ⟨rfl,rfl⟩|hm
     ·simp only[Nat.beq_refl]; exact O.1
     have:=F _ _ _ _ hm;have hne:Nat.beq t n=false:=by
      cases hx:Nat.beq t n with
      | false=>rfl
      | true=>have:=jm hx; omega
     simp only[hne];exact ih (n+1) ys O.2 t v hm
  exact this 0 args' args ha
 have sat0:Sat { bs with r0:=[] } vs.length ρ H (qT (sD 0 args')) lo { tmps:=vs.toArray,defers:=[] } w:=by
  refine{ s with pre:=List.nil_prefix,slots:=fun t=>?_,width:=by simp,defers:=rfl }
  rw[XX];simp only[jS,if_true,Nat.sub_zero];cases ht:args'[t]? with
  | none=>trivial
  | some p=>
   obtain⟨v,A,rv⟩:=rl.get ht;have:vs.toArray.getD t undef=v:=by
    rw[Array.getD_eq_getD_getElem?];simp[A]
   rw[this];exact rv
 have hnames:lQ (sD 0 args) objs:=by
  refine⟨fun t v hm=>?_,Zt hnO,tm hnO,tn hnO⟩;have:∀ (n:Nat) (bs:List FV) (t:Nat) (v:FV),(t,v)∈sD n bs->v∈bs:=by
   intro n bs
   induction bs generalizing n with
   | nil=>intro t v h; simp[sD]at h
   | cons c cs ih2=>
    intro t v h;simp only[sD,jg,Prod.mk.injEq]at h;rcases h with ⟨_,rfl⟩|h
    ·simp
    exact List.mem_cons_of_mem _ (ih2 (n+1) t v h)
  exact Zs hnA v (this 0 args t v hm)
 have s2:=(sat0.weak weak hnames).toSatW;have rl2:zZ ρ2 H args vs:=ER ha (Zs hnA) rl;have ρ2get:∀ {i:Nat} {v:Value},ρ2[i]? =some v->i<objs.length/\((i∈fresh/\v=.slice none 0 0)\/(i ∉ fresh/\ρ[π i]? =some v)):=by
  intro i v A;have L:i<objs.length:=by have:=(jG.1 A).1; simpa[ρ2,Pf]using this
  have B:=A;rw[show ρ2[i]? =_ from gy L]at B;refine⟨L,?_⟩;by_cases I:i∈fresh
  ·simp[I]at B; exact .inl ⟨I,B.symm⟩
  simp only[I,if_false]at B;refine .inr ⟨I,?_⟩;obtain⟨o,ho,_⟩:=(get i _ (jf L)).2 I;have:π i<ρ.length:=by rw[s.hlen]; exact(jG.1 ho).1
  rw[List.getD_eq_getElem?_getD,jf this]at B;rw[jf this];simpa using B
 let bs2:Base:={ S:=qbx ρ2 objs,w0:=w,H0:=H,r0:=ρ2.take m }
 have s2':SatW bs2 ρ2 H objs w:=
  { sath:=s2.sath,hlen:=s2.hlen,pre:=List.take_prefix _ _,objs:=s2.objs,excl:=s2.excl,own:=fun k o v b L A hl C=>.inl ⟨k,o,v,L,A,hl,C⟩,keep:=Keep.refl _ w,leH:=PH.le.refl H,newH:=fun b o v h=>.inl ⟨v,h⟩ }
 have lentS:∀ b,qbx ρ2 objs b->∃ i o v,i<objs.length/\i ∉ fresh/\lo[π i]? =some o/\ρ[π i]? =some v/\o.live=true/\qZ v=some b:=by
  rintro b ⟨i,o,v,E,A,hl',C⟩;obtain⟨Z,hc⟩:=ρ2get A;rcases hc with ⟨_,rfl⟩|⟨I,B⟩
  ·simp[qZ]at C
  obtain⟨Q,ho0,G⟩:=(get i o E).2 I;exact⟨i,Q,v,Z,I,ho0,B,Tk G hl',C⟩
 have key:∀ (r0:FV) (q:List AObj) (ρ':List Value) (H':PH) (w':World) (v:Value),R r0 q->PH.le H H'->SatW bs2 ρ' H' q w'->qR ρ' H' r0 v->∃ r lo',dT bs ρ H r lo' v w'/\K r lo':=by
  intro r0 q ρ' H' w' v hR G J rv;obtain⟨r,lo2,rfl,rfl,L⟩:=hK r0 q hR;refine⟨_,_,?_,L⟩;have M:ρ2.length=objs.length:=by simp[ρ2,Pf]
  have hpre:ρ2.take m <+: ρ':=J.pre;have hm':m<=ρ'.length:=by
   have:=hpre.length_le;rw[jt,M]at this;omega
  have hold:∀ i,i<m->ρ'[i]? =ρ2[i]?:=by
   intro i E;obtain⟨t,ht⟩:=hpre;rw[← ht,jB (by rw[jt,M]; omega),jE,if_pos E]
  have hσ:∀ i v,ρ'[i]? =some v->(ρ++ρ'.drop m)[σOf l m lo.length i]? =some v:=by
   intro i v A;unfold σOf;by_cases E:i<m
   ·have:Nat.blt i m=true:=Nat.ble_eq_true_of_le E
    simp only[this];rw[hold i E]at A;obtain⟨Z,hc⟩:=ρ2get A;rcases hc with ⟨I,_⟩|⟨_,B⟩
    ·exact absurd I (hfr i E)
    have hπ:l.getD i 0=π i:=rfl;rw[hπ,jB (jG.1 B).1];exact B
   have:Nat.blt i m=false:=by
    cases hx:Nat.blt i m with
    | false=>rfl
    | true=>exact absurd (jh hx) E
   simp only[this];rw[jC (by rw[s.hlen]; omega),s.hlen,Nat.add_sub_cancel_left,jD];have e:m+(i - m)=i:=by omega
   rw[e];exact A
  have cls:∀ (j:Nat) (o:AObj) (v:Value),(Sj l fresh m lo q)[j]? =some o->(ρ++ρ'.drop m)[j]? =some v->o.live=true ->
    (∃ i Q,q[i]? =some Q/\ρ'[i]? =some v/\o=Q.ren (σOf l m lo.length)/\j=σOf l m lo.length i) \/
    (j<lo.length/\lo[j]? =some o/\ρ[j]? =some v/\∀ i,i<objs.length->i ∉ fresh->π i≠j):=by
   intro j o v X A d;rcases ET X with ⟨Q,h1,h2⟩|⟨h1,Q,h2,h3⟩
   ·have hjl:=(jG.1 h1).1
    rw[jB (by rw[s.hlen]; exact hjl)]at A;rw[jx]at h2;unfold Rs at h2;split at h2
    ·rename_i i hp
     obtain⟨_,hli,hif⟩:=ND hp;rw[Nat.sub_zero]at hli;have hil:i<l.length:=(jG.1 hli).1;have hπ:π i=j:=by have:=Y i hil; rw[hli]at this; exact(Option.some.inj this).symm
     split at h2
     ·rename_i him
      have him:i<m:=jh him;split at h2
      ·rename_i o' ho'
       refine .inl ⟨i,o',ho',?_,h2,?_⟩
       ·rw[hold i him]
        have hik:i<objs.length:=by omega
        rw[show ρ2[i]? =_ from gy hik];simp only[hif,if_false];rw[List.getD_eq_getElem?_getD,hπ,A];rfl
       unfold σOf;simp only[show Nat.blt i m=true from Nat.ble_eq_true_of_le him];exact hπ.symm
      rw[h2]at d; simp[AObj.live]at d
     rw[h2]at d; simp[AObj.live]at d
    rename_i hp;refine .inr ⟨hjl,by rw[h2]; exact h1,A,fun i E I e=>?_⟩;have:=NC hp i (by rw[Y i (by omega)]; exact congrArg some e);rw[jx]at this;exact I this
   refine .inl ⟨m+(j - lo.length),Q,h2,?_,h3,?_⟩
   ·rw[jC (by rw[s.hlen]; exact h1),s.hlen,jD]at A
    exact A
   unfold σOf;have:Nat.blt (m+(j - lo.length)) m=false:=by
    cases hx:Nat.blt (m+(j - lo.length)) m with
    | false=>rfl
    | true=>have:=jh hx; omega
   simp only[this];omega
  have apart:∀ (j:Nat) (o:AObj) (v:Value) (b:Nat),lo[j]? =some o->ρ[j]? =some v->(∀ i,i<objs.length->i ∉ fresh->π i≠j)->o.live=true->qZ v=some b->¬ qbx ρ2 objs b:=by
   intro j o v b X A N d C hlent;obtain⟨i,Q,v0,E,I,ho0,hv0,hl0,hb0⟩:=lentS b hlent;exact s.excl (π i) j Q o v0 v b ho0 X hv0 A (N i E I) hl0 d hb0 C
  have old:∀ (j:Nat) (o:AObj) (v:Value) (b:Nat),lo[j]? =some o->ρ[j]? =some v->o.live=true->qZ v=some b->b<w.heap.size:=by
   intro j o v b X A d C;have hfresh:=s.fresh (g:=b);rcases Nat.lt_or_ge b w.heap.size with h|h
   ·exact h
   exact absurd C (hfresh h j o v X A d)
  have ownS:∀ b,bs2.S b\/w.heap.size<=b->bs.S b\/bs.w0.heap.size<=b:=by
   rintro b (C|C)
   ·obtain⟨i,Q,v0,_,_,ho0,hv0,hl0,hb0⟩:=lentS b C
    exact s.own _ Q v0 b ho0 hv0 hl0 hb0
   exact .inr (Nat.le_trans s.keep.size C)
  refine⟨ρ++ρ'.drop m,H',List.prefix_append _ _,G,?_,rv.ren hσ⟩;refine{ sath:=J.sath,hlen:=?_,pre:=s.pre.trans (List.prefix_append _ _),objs:=?_,excl:=?_,own:=?_,keep:=?_,leH:=s.leH.trans G,newH:=?_ }
  ·unfold Sj
   rw[UN,List.length_append,List.length_drop,s.hlen,J.hlen]
  ·intro j o v X A
   cases d:o.live with
   | false=>cases o<;>simp[AObj.live]at d; trivial
   | true=>
    rcases cls j o v X A d with ⟨i,Q,h1,h2,rfl,_⟩|⟨hjl,h1,h2,N⟩
    ·exact(J.objs i Q v h1 h2).ren hσ
    refine(s.objs j o v h1 h2).keep (List.prefix_append _ _) G (fun b C Z=>J.keep.block b Z (apart j o v b h1 h2 N d C)) (fun b o' C Z hn=>?_)
    cases hx:H' b o' with
    | none=>rfl
    | some u=>
     rcases J.newH b o' u hx with ⟨y,hy⟩|hS|F
     ·have hy':H b o'=some y:=hy
      rw[hn]at hy'; cases hy'
     ·exact absurd hS (apart j o v b h1 h2 N d C)
     have hge':w.heap.size<=b:=F;omega
  ·intro j1 j2 o1 o2 v1 v2 b hj1 hj2 hv1 hv2 hne T U hb1 hb2
   rcases cls j1 o1 v1 hj1 hv1 T with ⟨i1,a1,h1,D,rfl,e1⟩|⟨hjl1,h1,D,hnot1⟩<;>rcases cls j2 o2 v2 hj2 hv2 U with ⟨i2,a2,h2,V,rfl,e2⟩|⟨hjl2,h2,V,hnot2⟩
   ·exact J.excl i1 i2 a1 a2 v1 v2 b h1 h2 D V (fun e=>hne (by rw[e1,e2,e])) (by rw[← AObj.ren_live]; exact T) (by rw[← AObj.ren_live]; exact U) hb1 hb2
   ·have:=J.own i1 a1 v1 b h1 D (by rw[← AObj.ren_live]; exact T) hb1
    rcases this with hS|F
    ·exact apart j2 o2 v2 b h2 V hnot2 U hb2 hS
    have hge':w.heap.size<=b:=F;have:=old j2 o2 v2 b h2 V U hb2;omega
   ·have:=J.own i2 a2 v2 b h2 V (by rw[← AObj.ren_live]; exact U) hb2
    rcases this with hS|F
    ·exact apart j1 o1 v1 b h1 D hnot1 T hb1 hS
    have hge':w.heap.size<=b:=F;have:=old j1 o1 v1 b h1 D T hb1;omega
   exact s.excl j1 j2 o1 o2 v1 v2 b h1 h2 D V hne T U hb1 hb2
  ·intro j o v b X A d C
   rcases cls j o v X A d with ⟨i,a,h1,D,rfl,_⟩|⟨_,h1,D,_⟩
   ·exact ownS b (J.own i a v b h1 D (by rw[← AObj.ren_live]; exact d) C)
   exact s.own j o v b h1 D d C
  ·exact s.keep.step J.keep fun i E=>ownS i (.inl E)
  intro b o u hu;rcases J.newH b o u hu with ⟨y,hy⟩|hS|F
  ·exact s.newH b o y hy
  ·exact .inr (ownS b (.inl hS))
  exact .inr (ownS b (.inr F))
 have:=h bs2 ρ2 H w vs rfl s2' rl2;generalize (callFunc f vs.toArray).run P w=x at *;cases x with
 | ok n w'=>
  cases n<;>simp only at this ⊢ <;> try exact this
  ·obtain⟨r0,q,ρ',H',hR,G,J,rv⟩:=this
   exact key r0 q ρ' H' w' _ hR G J rv
  obtain⟨rfl,hc⟩:=this;exact⟨rfl,hc.mono fun en w'' ⟨v,r0,q,ρ',H',e,hR,G,J,rv⟩=>by
   obtain⟨r,lo',af,k⟩:=key r0 q ρ' H' w'' v hR G J rv;exact⟨v,r,lo',e,af,k⟩⟩
 | halt x w'=>exact this
end Ax
end
section
namespace Ax
open Go
section
variable {K V:Type} [BEq K]
def Rp (a:K->PV) (b:V->PV) (l:List (K×V)):List (PV×PV):=l.map fun e=>(a e.1,b e.2)
def qao (k:K):List (K×V)->Option V
 | []=>none
 | (k',v)::l=>bif k==k' then some v else qao k l
def eW (l:List (K×V)) (k:K) (d:V):V:=(qao k l).getD d
def qgf (l:List (K×V)) (k:K):Bool:=(qao k l).isSome
def xH (k:K) (v:V):List (K×V)->List (K×V)
 | []=>[(k,v)]
 | (k',v')::l=>bif k==k' then(k,v)::l else(k',v')::xH k v l
def TW (c:K->PV):Prop:=∀ a b,aZ (c a) (c b)=(a==b)
theorem GL {a:K->PV} (c:TW a) (b:V->PV) (k:K):∀ l:List (K×V),Cb (a k) (Rp a b l)=(qao k l).map b
 | []=>rfl
 | (k',v)::l=>by
  have:=GL c b k l;simp only[Rp,jk,Cb,qao]at this ⊢;rw[c k k'];cases k==k' with
  | true=>rfl
  | false=>simpa using this
theorem UI {a:K->PV} (c:TW a) (b:V->PV) (l:List (K×V)) (k:K) (d:V):(Cb (a k) (Rp a b l)).getD (b d)=b (eW l k d):=by
 rw[GL c,eW];cases qao k l<;>rfl
theorem UJ {a:K->PV} (b:TW a) (c:V->PV) (l:List (K×V)) (k:K):(Cb (a k) (Rp a c l)).isSome=qgf l k:=by
 rw[GL b,qgf];cases qao k l<;>rfl
theorem ri {a:K->PV} (c:TW a) (b:V->PV) (k:K) (v:V):∀ l:List (K×V),ec (a k) (b v) (Rp a b l)=Rp a b (xH k v l)
 | []=>rfl
 | (k',v')::l=>by
  have:=ri c b k v l;simp only[Rp,jk,ec,xH]at this ⊢;rw[c k k'];cases k==k' with
  | true=>rfl
  | false=>simpa using this
end
theorem fl:TW PV.str:=fun _ _=>rfl
theorem Codec.getN {A:Type} (C:Codec A) {l:List A} {j:Nat} {x:A} (h:l[j]? =some x):(C.rows l)[j]? =some (C.cells x):=by
 rw[C.hrows]; simp[h]
theorem Codec.setN {A:Type} (C:Codec A) (l:List A) (j:Nat) (y:A):(C.rows l).set j (C.cells y)=C.rows (l.set j y):=by
 rw[C.hrows,C.hrows,List.map_set]
theorem zn.less {P:Program} {f:FuncId} {args:List FV} {objs:List AObj} {m b:Nat} {R:FV->List AObj->Prop} (h:zn P f args objs m R) (hm:b<=m):zn P f args objs b R:=by
 intro bs ρ H w vs d s g;have hp:ρ.take b <+: ρ.take m:=by
  have e:ρ.take b=(ρ.take m).take b:=by rw[List.take_take,Nat.min_eq_left hm]
  rw[e];exact List.take_prefix _ _
 have:=h { bs with r0:=ρ.take m } ρ H w vs rfl { s with pre:=List.take_prefix _ _ } g
 have back:∀ {ρ':List Value} {H':PH} {a:List AObj} {w':World},SatW { bs with r0:=ρ.take m } ρ' H' a w'->SatW bs ρ' H' a w':=fun c=>{ c with pre:=by rw[d]; exact hp.trans c.pre }
 generalize (callFunc f vs.toArray).run P w=x at *;cases x with
 | ok n w'=>
  cases n<;>simp only at this ⊢ <;> try exact this
  ·obtain⟨r,a,ρ',H',h1,h2,h3,h4⟩:=this; exact⟨r,a,ρ',H',h1,h2,back h3,h4⟩
  exact⟨this.1,this.2.mono fun j i ⟨v,r,a,ρ',H',e,h1,h2,h3,h4⟩=>⟨v,r,a,ρ',H',e,h1,h2,back h3,h4⟩⟩
 | halt x w'=>exact this
end Ax
end
section
open Go
namespace Ax
theorem wk {nb:Nat} {E:Env} {lo:List AObj} {E':Env} {lo':List AObj} (l fresh:List Nat) (h:qc3 nb l fresh lo'=true/\l.length=lo'.length/\Nx lo'.length E'=true/\nW lo'.length lo'=true:=by exact⟨rfl,rfl,rfl,rfl⟩)
  (h1:lH E (πOf l) fresh E':=by repeat (first|exact trivial|exact .inl rfl|exact rfl|exact List.not_mem_nil|(refine .inr ?_)|(refine⟨?_,?_⟩)|exact List.length_set.symm|decide))
  (h2:Ro lo (πOf l) fresh 0 lo':=by repeat (first|exact trivial|exact .inl rfl|exact rfl|exact List.not_mem_nil|(refine .inr ?_)|(refine⟨?_,?_⟩)|exact List.length_set.symm|decide)):Eo nb E lo E' lo':=⟨l,fresh,h,h1,h2⟩
theorem zU {P:Program} {f:FuncId} {args:List FV} {objs:List AObj} {m:Nat} {R:FV->List AObj->Prop} (h:zn P f args objs m R) (l fresh:List Nat) {args':List FV} {lo:List AObj} {K:FV->List AObj->Prop}
  (hK:∀ r0 objs',R r0 objs'->∃ r lo2,r0.ren (σOf l m lo.length)=r/\Sj l fresh m lo objs'=lo2/\K r lo2)
  (hw:qc2 0 l fresh=true/\l.length=objs.length/\EU objs.length args=true/\nW objs.length objs=true/\Nat.ble m objs.length=true/\(List.range m).all (fun i=>!fresh.contains i)=true:=by exact⟨rfl,rfl,rfl,rfl,rfl,rfl⟩)
  (ha:leArgs (πOf l) fresh args' args:=by repeat (first|exact trivial|exact .inl rfl|exact rfl|exact List.not_mem_nil|(refine .inr ?_)|(refine⟨?_,?_⟩)|exact List.length_set.symm|decide))
  (ho:Ro lo (πOf l) fresh 0 objs:=by repeat (first|exact trivial|exact .inl rfl|exact rfl|exact List.not_mem_nil|(refine .inr ?_)|(refine⟨?_,?_⟩)|exact List.length_set.symm|decide)):vO P f args' lo K:=zn.use h l fresh hw ha ho hK
theorem fin {P:Prop} (h:P:=by repeat (first|exact rfl|exact trivial|refine⟨?_,?_⟩)):P:=h
theorem ifc {R:Type} {c:Bool} {a b:Option R} {r:R} {P Q:Prop} (h:(bif c then a else b)=some r) (f:c=true->a=some r->P) (g:c=false->b=some r->Q):(c=true->P)/\(c=false->Q):=
 ⟨fun hc=>f hc (mC h hc),fun hc=>g hc (gf h hc)⟩
theorem sj {A:Type} {a b:A} (h:some a=some b):a=b:=Option.some.inj h
theorem bq {A R:Type} {o:Option A} {k:A->Option R} {r:R} {G:Prop} (h:bnd o k=some r) (f:∀ x,o=some x->k x=some r->G):G:=by
 obtain⟨x,h1,h2⟩:=RL h;exact f x h1 h2
end Ax
end
section
namespace W
open Go Ax
inductive qa where
 | mk (op:Int) (name:List UInt8) (val:Val) (names:List (List UInt8)) (args:List qa)
mutual
def qa.cells:qa->List PV
 | .mk op name ⟨k,b,i,s,l,ks⟩ names args=>[.int .i64 op,.str name,.int .i64 k,.bool b,.int .i64 i,.str s,.sl (Val.rows l),.sl (qi ks),.sl (qi names),.sl (qa.rows args)]
def qa.rows:List qa->List (List PV)
 | []=>[]
 | v::l=>v.cells::qa.rows l
end
theorem qa.rows_eq:∀ l:List qa,qa.rows l=l.map qa.cells
 | []=>rfl
 | v::l=>by simp only[qa.rows,jk]; rw[qa.rows_eq l]
theorem qa.width (e:qa):e.cells.length=10:=by obtain⟨_,_,⟨_,_,_,_,_,_⟩,_,_⟩:=e; rfl
theorem qa.one (e:qa):e.cells.all EW=true:=by obtain⟨_,_,⟨_,_,_,_,_,_⟩,_,_⟩:=e; rfl
def zx:Codec qa:={ cells:=qa.cells,rows:=qa.rows,z:=10,hrows:=fun l=>qa.rows_eq l,hz:=qa.width,hone:=qa.one }
instance:Inhabited qa:=⟨.mk 0 [] default [] []⟩
structure qd where
 var_:List UInt8
 labels:List (List UInt8)
 keys:List (List UInt8)
 vals:List qa
def qd.cells:qd->List PV
 | ⟨x1,x2,x3,x4⟩=>[.str x1,.sl (qi x2),.sl (qi x3),.sl (qa.rows x4)]
def qd.rows (l:List qd):List (List PV):=l.map qd.cells
def fr:Codec qd:={ cells:=qd.cells,rows:=qd.rows,z:=4,hrows:=fun _=>rfl,hz:=fun⟨a,b,c,d⟩=>rfl,hone:=fun⟨a,b,c,d⟩=>rfl }
deriving instance Inhabited for qd
structure qf where
 var_:List UInt8
 type_:List UInt8
 dir:Int
 keys:List (List UInt8)
 vals:List qa
def qf.cells:qf->List PV
 | ⟨x1,x2,x3,x4,x5⟩=>[.str x1,.str x2,.int .i64 x3,.sl (qi x4),.sl (qa.rows x5)]
def qf.rows (l:List qf):List (List PV):=l.map qf.cells
def nB:Codec qf:={ cells:=qf.cells,rows:=qf.rows,z:=5,hrows:=fun _=>rfl,hz:=fun⟨a,b,c,d,e⟩=>rfl,hone:=fun⟨a,b,c,d,e⟩=>rfl }
deriving instance Inhabited for qf
structure xN where
 nodes:List qd
 edges:List qf
def xN.cells:xN->List PV
 | ⟨x1,x2⟩=>[.sl (qd.rows x1),.sl (qf.rows x2)]
def xN.rows (l:List xN):List (List PV):=l.map xN.cells
def Vt:Codec xN:={ cells:=xN.cells,rows:=xN.rows,z:=2,hrows:=fun _=>rfl,hz:=fun⟨a,b⟩=>rfl,hone:=fun⟨a,b⟩=>rfl }
deriving instance Inhabited for xN
structure xq where
 e:qa
 as_:List UInt8
def xq.cells:xq->List PV
 | ⟨⟨x1,x2,⟨x3,x4,x5,x6,x7,x8⟩,x9,x10⟩,x11⟩=>[.int .i64 x1,.str x2,.int .i64 x3,.bool x4,.int .i64 x5,.str x6,.sl (Val.rows x7),.sl (qi x8),.sl (qi x9),.sl (qa.rows x10),.str x11]
def xq.rows (l:List xq):List (List PV):=l.map xq.cells
def BC:Codec xq:={ cells:=xq.cells,rows:=xq.rows,z:=11,hrows:=fun _=>rfl,hz:=fun⟨⟨c,d,⟨e,f,g,h,i,j⟩,k,a⟩,b⟩=>rfl,hone:=fun⟨⟨c,d,⟨e,f,g,h,i,j⟩,k,a⟩,b⟩=>rfl }
deriving instance Inhabited for xq
structure zw where
 e:qa
 down:Bool
def zw.cells:zw->List PV
 | ⟨⟨x1,x2,⟨x3,x4,x5,x6,x7,x8⟩,x9,x10⟩,x11⟩=>[.int .i64 x1,.str x2,.int .i64 x3,.bool x4,.int .i64 x5,.str x6,.sl (Val.rows x7),.sl (qi x8),.sl (qi x9),.sl (qa.rows x10),.bool x11]
def zw.rows (l:List zw):List (List PV):=l.map zw.cells
def US:Codec zw:={ cells:=zw.cells,rows:=zw.rows,z:=11,hrows:=fun _=>rfl,hz:=fun⟨⟨c,d,⟨e,f,g,h,i,j⟩,k,a⟩,b⟩=>rfl,hone:=fun⟨⟨c,d,⟨e,f,g,h,i,j⟩,k,a⟩,b⟩=>rfl }
deriving instance Inhabited for zw
structure qq where
 var_:List UInt8
 key:List UInt8
 label:List UInt8
 e:qa
def qq.cells:qq->List PV
 | ⟨x1,x2,x3,⟨x4,x5,⟨x6,x7,x8,x9,x10,x11⟩,x12,x13⟩⟩=>[.str x1,.str x2,.str x3,.int .i64 x4,.str x5,.int .i64 x6,.bool x7,.int .i64 x8,.str x9,.sl (Val.rows x10),.sl (qi x11),.sl (qi x12),.sl (qa.rows x13)]
def qq.rows (l:List qq):List (List PV):=l.map qq.cells
def tr:Codec qq:={ cells:=qq.cells,rows:=qq.rows,z:=13,hrows:=fun _=>rfl,hz:=fun⟨e,f,g,⟨h,i,⟨j,k,l,m,a,b⟩,c,d⟩⟩=>rfl,hone:=fun⟨e,f,g,⟨h,i,⟨j,k,l,m,a,b⟩,c,d⟩⟩=>rfl }
deriving instance Inhabited for qq
structure qv where
 kind:Int
 paths:List xN
 where_:List qa
 e:qa
 var_:List UInt8
 items:List xq
 unique:Bool
 order:List zw
 skip:List qa
 limit:List qa
 sets:List qq
 vars:List (List UInt8)
 detach:Bool
def qv.cells:qv->List PV
 | ⟨x1,x2,x3,⟨x4,x5,⟨x6,x7,x8,x9,x10,x11⟩,x12,x13⟩,x14,x15,x16,x17,x18,x19,x20,x21,x22⟩=>[.int .i64 x1,.sl (xN.rows x2),.sl (qa.rows x3),.int .i64 x4,.str x5,.int .i64 x6,.bool x7,.int .i64 x8,.str x9,.sl (Val.rows x10),.sl (qi x11),.sl (qi x12),.sl (qa.rows x13),.str x14,.sl (xq.rows x15),.bool x16,.sl (zw.rows x17),.sl (qa.rows x18),.sl (qa.rows x19),.sl (qq.rows x20),.sl (qi x21),.bool x22]
def qv.rows (l:List qv):List (List PV):=l.map qv.cells
def fX:Codec qv:={ cells:=qv.cells,rows:=qv.rows,z:=22,hrows:=fun _=>rfl,hz:=fun⟨n,o,p,⟨q,r,⟨s,t,u,v,a,b⟩,c,d⟩,e,f,g,h,i,j,k,l,m⟩=>rfl,hone:=fun⟨n,o,p,⟨q,r,⟨s,t,u,v,a,b⟩,c,d⟩,e,f,g,h,i,j,k,l,m⟩=>rfl }
deriving instance Inhabited for qv
structure Cf where
 clauses:List qv
def Cf.cells:Cf->List PV
 | ⟨x1⟩=>[.sl (qv.rows x1)]
def Cf.rows (l:List Cf):List (List PV):=l.map Cf.cells
def qcl:Codec Cf:={ cells:=Cf.cells,rows:=Cf.rows,z:=1,hrows:=fun _=>rfl,hz:=fun⟨a⟩=>rfl,hone:=fun⟨a⟩=>rfl }
deriving instance Inhabited for Cf
structure ql where
 kind:Int
 text:List UInt8
 int:Int
 at_:Int
def ql.cells:ql->List PV
 | ⟨x1,x2,x3,x4⟩=>[.int .i64 x1,.str x2,.int .i64 x3,.int .i64 x4]
def ql.rows (l:List ql):List (List PV):=l.map ql.cells
def nY:Codec ql:={ cells:=ql.cells,rows:=ql.rows,z:=4,hrows:=fun _=>rfl,hz:=fun⟨a,b,c,d⟩=>rfl,hone:=fun⟨a,b,c,d⟩=>rfl }
deriving instance Inhabited for ql
structure Node where
 id:Int
 labels:List (List UInt8)
 keys:List (List UInt8)
 vals:List Val
def Node.cells:Node->List PV
 | ⟨x1,x2,x3,x4⟩=>[.int .i64 x1,.sl (qi x2),.sl (qi x3),.sl (Val.rows x4)]
def Node.rows (l:List Node):List (List PV):=l.map Node.cells
def Vs:Codec Node:={ cells:=Node.cells,rows:=Node.rows,z:=4,hrows:=fun _=>rfl,hz:=fun⟨a,b,c,d⟩=>rfl,hone:=fun⟨a,b,c,d⟩=>rfl }
deriving instance Inhabited for Node
structure Edge where
 id:Int
 from_:Int
 to:Int
 type_:List UInt8
 keys:List (List UInt8)
 vals:List Val
def Edge.cells:Edge->List PV
 | ⟨x1,x2,x3,x4,x5,x6⟩=>[.int .i64 x1,.int .i64 x2,.int .i64 x3,.str x4,.sl (qi x5),.sl (Val.rows x6)]
def Edge.rows (l:List Edge):List (List PV):=l.map Edge.cells
def GF:Codec Edge:={ cells:=Edge.cells,rows:=Edge.rows,z:=6,hrows:=fun _=>rfl,hz:=fun⟨a,b,c,d,e,f⟩=>rfl,hone:=fun⟨a,b,c,d,e,f⟩=>rfl }
deriving instance Inhabited for Edge
structure Graph where
 nodes:List Node
 edges:List Edge
def Graph.cells:Graph->List PV
 | ⟨x1,x2⟩=>[.sl (Node.rows x1),.sl (Edge.rows x2)]
def Graph.rows (l:List Graph):List (List PV):=l.map Graph.cells
def EK:Codec Graph:={ cells:=Graph.cells,rows:=Graph.rows,z:=2,hrows:=fun _=>rfl,hz:=fun⟨a,b⟩=>rfl,hone:=fun⟨a,b⟩=>rfl }
deriving instance Inhabited for Graph
structure Env where
 names:List (List UInt8)
 vals:List Val
def Env.cells:Env->List PV
 | ⟨x1,x2⟩=>[.sl (qi x1),.sl (Val.rows x2)]
def Env.rows (l:List Env):List (List PV):=l.map Env.cells
def qgb:Codec Env:={ cells:=Env.cells,rows:=Env.rows,z:=2,hrows:=fun _=>rfl,hz:=fun⟨a,b⟩=>rfl,hone:=fun⟨a,b⟩=>rfl }
deriving instance Inhabited for Env
structure vK where
 v:Env
 g:Graph
 params:Val
def vK.cells:vK->List PV
 | ⟨⟨x1,x2⟩,⟨x3,x4⟩,⟨x5,x6,x7,x8,x9,x10⟩⟩=>[.sl (qi x1),.sl (Val.rows x2),.sl (Node.rows x3),.sl (Edge.rows x4),.int .i64 x5,.bool x6,.int .i64 x7,.str x8,.sl (Val.rows x9),.sl (qi x10)]
def vK.rows (l:List vK):List (List PV):=l.map vK.cells
def Bp:Codec vK:={ cells:=vK.cells,rows:=vK.rows,z:=10,hrows:=fun _=>rfl,hz:=fun⟨⟨b,c⟩,⟨d,e⟩,⟨f,g,h,i,j,a⟩⟩=>rfl,hone:=fun⟨⟨b,c⟩,⟨d,e⟩,⟨f,g,h,i,j,a⟩⟩=>rfl }
deriving instance Inhabited for vK
structure xa where
 env:Env
 g:Graph
 params:Val
def xa.cells:xa->List PV
 | ⟨⟨x1,x2⟩,⟨x3,x4⟩,⟨x5,x6,x7,x8,x9,x10⟩⟩=>[.sl (qi x1),.sl (Val.rows x2),.sl (Node.rows x3),.sl (Edge.rows x4),.int .i64 x5,.bool x6,.int .i64 x7,.str x8,.sl (Val.rows x9),.sl (qi x10)]
def xa.rows (l:List xa):List (List PV):=l.map xa.cells
def nX:Codec xa:={ cells:=xa.cells,rows:=xa.rows,z:=10,hrows:=fun _=>rfl,hz:=fun⟨⟨b,c⟩,⟨d,e⟩,⟨f,g,h,i,j,a⟩⟩=>rfl,hone:=fun⟨⟨b,c⟩,⟨d,e⟩,⟨f,g,h,i,j,a⟩⟩=>rfl }
deriving instance Inhabited for xa
end W
end
section
open Go Go.Proofs Go.RowKit
namespace Ax
theorem Nb {bs:Base} {ρ:List Value} {H:PH} {lo:List AObj} {w w':World} (s:SatW bs ρ H lo w) {e:TypeId} {z n:Nat} {v':Value} {xs:List Value} (f:Below w.heap.size w w')
  (i:w'.ownsRow w.heap.size e z v' n xs) (h1:∀ u∈xs,u.oneCell'=true) :
  PH.le H (vA H v' xs)/\w'.ownsRow 0 e z v' n xs/\SatW bs (ρ++[v']) (vA H v' xs) (lo++[.tail e z n]) w':=by
 have q:∀ b,qZ v'=some b->w.heap.size<=b:=by
  intro b f;rcases i.2 with ⟨rfl,_⟩|⟨g,cap,cur,rfl,y,_⟩
  ·simp[qZ]at f
  simp[qZ]at f; omega
 have t:∀ b o u,qZ v'=some b->H b o=some u->False:=fun b o u f hu=>by
  have h2:=s.sath.lt hu;have h3:=q b f;omega
 have l:PH.le H (vA H v' xs):=by
  intro b o u hu;unfold vA;rw[if_neg (fun v=>t b o u v.1 hu)]
  exact hu
 have d:w'.ownsRow 0 e z v' n xs:=⟨i.1,i.2.imp id fun⟨g,cap,cur,a,b,c⟩=>⟨g,cap,cur,a,jS _,c⟩⟩;have hcell:∀ g,qZ v'=some g->∀ o u,xs[o]? =some u->w'.cell? ⟨g,o,none⟩=some u:=by
  intro g y o u hu;have:=d.cells (g:=g) (by
   rcases d.2 with ⟨rfl,_⟩|⟨D,cap,cur,rfl,_⟩
   ·simp[qZ]at y
   simpa[qZ,Value.ownBlock]using y) o u hu
  rwa [Addr.add_lit,jx]at this
 have hkeep:∀ S,Keep S w w':=fun S=>⟨f.os,f.tape,f.output,f.size,fun k B _=>f.block k B⟩
 have m:SatH (vA H v' xs) w':=by
  refine⟨?_,s.sath.root.mono l⟩;intro b o u hu;unfold vA at hu;split at hu
  ·rename_i v
   exact⟨hcell b v.1 o u hu,h1 u (List.mem_of_getElem? hu)⟩
  obtain⟨A,hone⟩:=s.sath.cell b o u hu;refine⟨?_,hone⟩;rw[World.cell?_of_block (w:=w) (a:=⟨b,o,none⟩) (f.block b (s.sath.lt hu))];exact A
 have x:∀ ρ,ZK ρ (vA H v' xs) w' v' (.tail e z n):=by
  intro ρ;refine⟨xs,d,fun b f=>⟨fun j u hu=>?_,fun o E=>?_⟩⟩
  ·unfold vA
   rw[if_pos ⟨f,(jG.1 hu).1⟩];exact hu
  unfold vA;rw[if_neg (by rw[i.1]; omega)];cases C:H b o with
  | none=>rfl
  | some u=>exact(t b o u f C).elim
 have p:∀ b o u,vA H v' xs b o=some u->(∃ u,H b o=some u)\/qZ v'=some b:=by
  intro b o u hu;unfold vA at hu;split at hu
  ·rename_i v; exact .inr v.1
  exact .inl ⟨u,hu⟩
 refine⟨l,d,?_⟩;cases r:qZ v' with
 | none=>
  refine s.push (g:=w.heap.size) (.inr r) (s.fresh (jw _)) (.inr s.keep.size) l m (fun b o u hu=>?_) (hkeep _) (x _);rcases p b o u hu with h|h
  ·exact .inl h
  rw[r]at h; cases h
 | some g=>
  refine s.push (g:=g) (.inl r) (s.fresh (q g r)) (.inr (Nat.le_trans s.keep.size (q g r))) l m (fun b o u hu=>?_) (hkeep _) (x _);rcases p b o u hu with h|h
  ·exact .inl h
  rw[r]at h; exact .inr (Option.some.inj h).symm
theorem qav (H:PH):∀ (l:List (List UInt8)),cP H 1 (qi l) (l.map fun s=>Value.string ⟨s.toArray⟩)
 | []=>by simp[qi,cP]
 | b::l=>by
  have:=qav H l;unfold qi at this ⊢;simp only[jk,cP];refine⟨rfl,[.string ⟨b.toArray⟩],l.map fun s=>Value.string ⟨s.toArray⟩,by simp,?_,this⟩
  simp[zz,qP]
theorem Qw {H:PH} {b z:Nat}:∀ {x:List (List UInt8)} {o:Nat},nS H b z o (qi x)->∀ (j:Nat) (l:List UInt8),x[j]? =some l->H b (o+j)=some (.string ⟨l.toArray⟩)
 | [],_,_,j,l,h=>by simp at h
 | y::x,o,r,j,l,h=>by
  simp only[qi,jk,nS]at r;obtain⟨hz,⟨vs,a,rc⟩,c⟩:=r;have hz:z=1:=by simpa using hz.symm
  subst hz;cases j with
  | zero=>
   simp only[List.getElem?_cons_zero,Option.some.injEq]at h;subst h;simp only[zz,qP]at a;obtain⟨u,d,rfl,rfl,_⟩:=a;exact rc 0 _ rfl
  | succ j=>
   have:=Qw (x:=x) c j l (by simpa using h);rw[show o+(j+1)=o+1+j from by omega];exact this
theorem PK {P:Program} {f:FuncId} (enter:∀ vs w,(callFunc f vs).run P w=.ok (.enter f vs) w) {e:TypeId}
  (l:∀ (n c:Nat) (w:World),Calls P f #[.slice none n c] w fun d w'=>d=.returned (.slice none 0 0)/\w'=w)
  (h:∀ (a:Addr) (c:Nat) (w:World),Calls P f #[.slice (some a) 0 c] w fun d w'=>∃ v',d=.returned v'/\w'.ownsRow w.heap.size e 1 v' 0 []/\v'≠.slice none 0 0/\Below w.heap.size w w')
  (i:∀ (b off n c:Nat) (r:List ByteArray) (w:World),n<=r.length->n * 16<=140737488355328->(∀ j,j<r.length->w.cell? ⟨b,off+j,none⟩=some (.string (r.getD j ByteArray.empty))) ->
   Calls P f #[.slice (some ⟨b,off,none⟩) n c] w fun d w'=>∃ v',d=.returned v'/\w'.ownsRow w.heap.size e 1 v' n ((r.take n).map Value.string)/\v'≠.slice none 0 0/\Below w.heap.size w w')
  (x:List (List UInt8)) (g:(qi x).length * 16<=140737488355328):zn P f [.p (.sl (qi x))] [] 0 (fun v lo=>v=.tsl 0 (qi x)/\lo=[.tail e 1 (qi x).length]):=by
 intro bs ρ H w vs I s J;have y:ρ=[]:=jI s.hlen;subst y;obtain⟨v,A,rfl,t,B⟩:=J;obtain rfl:A=[]:=B;have t:qP H (.sl (qi x)) v:=t;rw[enter];refine⟨rfl,?_⟩;have hl:(qi x).length=x.length:=by simp[qi]
 have base:Calls P f [v].toArray w fun d w'=>∃ v',d=.returned v'/\w'.ownsRow w.heap.size e 1 v' x.length (x.map fun s=>Value.string ⟨s.toArray⟩)/\Below w.heap.size w w':=by
  simp only[qP]at t;rcases t with ⟨F,rfl|⟨a,cap,rfl⟩⟩|⟨b,o,z,cap,rfl,G,K⟩
  ·have C:x=[]:=by cases x with|nil=>rfl|cons _ _=>cases F
   subst C;refine(l 0 0 w).mono fun d w' p=>?_;obtain⟨rfl,rfl⟩:=p;exact⟨_,rfl,⟨by simp,.inl ⟨rfl,rfl⟩⟩,Below.refl _ _⟩
  ·have C:x=[]:=by cases x with|nil=>rfl|cons _ _=>cases F
   subst C;refine(h a cap w).mono fun d w' p=>?_;obtain⟨v',rfl,k,_,m⟩:=p;exact⟨_,rfl,k,m⟩
  rw[hl]at g ⊢;refine(i b o x.length cap (x.map fun s=>⟨s.toArray⟩) w (by simp) g fun j D=>?_).mono fun d w' p=>?_
  ·simp only[jl]at D
   have h2:=Qw K j _ (jf D);rw[(s.sath.cell _ _ _ h2).1];simp[List.getD,jf D]
  obtain⟨v',rfl,k,_,m⟩:=p;refine⟨_,rfl,?_,m⟩;rw[List.take_of_length_le (by simp),jW]at k;exact k
 refine base.mono fun d w' p=>?_;obtain⟨v',rfl,k,m⟩:=p;obtain⟨q,E,L⟩:=Nb s m k (fun u hu=>by obtain⟨_,_,rfl⟩:=List.mem_map.1 hu; rfl)
 refine⟨v',.tsl 0 (qi x),[.tail e 1 (qi x).length],[v'],_,rfl,⟨rfl,rfl⟩,q,by rw[hl]; exact L,rfl,bu (qav H x) q (by rw[hl]; exact E)⟩
end Ax
end
section
namespace Ax
open Go
def NI:List FV->Option (List PV)
 | []=>some []
 | .p v::l=>match NI l with|some r=>some (v::r)|none=>none
 | .tsl _ rows::l=>match NI l with|some r=>some (.sl rows::r)|none=>none
 | .hptr row::l=>match NI l with|some r=>some (.hp row::r)|none=>none
 | _=>none
theorem UQ {ρ:List Value} {H:PH}:∀ {cs:List FV} {row:List PV} {vs:List Value},NI cs=some row->zZ ρ H cs vs->zz H row vs
 | [],row,vs,h,r=>by simp only[NI]at h; cases h; simp only[zz]; exact r
 | c::cs,row,vs,h,r=>by
  obtain⟨u,us,e,b,d⟩:=r;cases c<;>simp only[NI]at h<;>try (exact absurd h (by simp))
  ·split at h
   ·rename_i q a
    cases h;simp only[zz];exact⟨u,us,e,b,UQ a d⟩
   cases h
  ·split at h
   ·rename_i q a
    cases h;simp only[zz];exact⟨u,us,e,b.2,UQ a d⟩
   cases h
  ·split at h
   ·rename_i q a
    cases h;simp only[zz];refine⟨u,us,e,?_,UQ a d⟩;simp only[qP];exact b
   cases h
theorem SatW.publishBox {bs:Base} {ρ:List Value} {H:PH} {lo:List AObj} {w:World} (s:SatW bs ρ H lo w) {k:Nat} {t:TypeId} {cells:List FV} {row:List PV} {v:Value} (l:lo[k]? =some (.box t cells)) (m:ρ[k]? =some v)
  (hp:NI cells=some row) (h1:row.all EW=true):∃ H' b vs,PH.le H H'/\SatW bs ρ H' (lo.set k .dead) w/\v=.pointer (some ⟨b,0,none⟩)/\zz H' row vs/\∀ j u,vs[j]? =some u->H' b j=some u:=by
 obtain⟨b,vs,rfl,y,n,z⟩:=s.objs k _ _ l m;have r:=UQ hp n;have hone:∀ u∈vs,u.oneCell'=true:=zz.one (fun c d=>List.all_eq_true.1 h1 c d) r
 have a:PH.le H (vA H (.pointer (some ⟨b,0,none⟩)) vs):=by
  intro e o u hu;unfold vA;split
  ·rename_i d
   obtain⟨g,_⟩:=d;simp only[qZ,Option.some.injEq]at g;subst g;rw[z o]at hu;cases hu
  ·exact hu
 have sk:=s.kill k;refine⟨vA H (.pointer (some ⟨b,0,none⟩)) vs,b,vs,a,?_,rfl,zz.mono a r,fun j u hu=>?_⟩
 ·refine{ sath:=⟨fun e o u hu=>?_,s.sath.root.mono a⟩,hlen:=sk.hlen,pre:=sk.pre,objs:=fun i oi x f h=>?_,excl:=sk.excl,own:=sk.own,keep:=sk.keep,leH:=sk.leH.trans a,newH:=fun e o u hu=>?_ }
  ·unfold vA at hu
   split at hu
   ·rename_i d
    obtain⟨g,_⟩:=d;simp only[qZ,Option.some.injEq]at g;subst g;refine⟨?_,hone u (List.mem_of_getElem? hu)⟩;simp only[World.cell?,y];simpa using hu
   exact s.sath.cell e o u hu
  ·rw[jF]at f
   split at f
   ·split at f
    ·cases f; trivial
    cases f
   ·rename_i p
    cases hl:oi.live with
    | false=>cases oi<;>simp[AObj.live]at hl; trivial
    | true=>
     refine(s.objs i oi x f h).keep (jq _) a (fun _ _ _=>rfl) (fun e o' q _ A=>?_)
     unfold vA;rw[if_neg (fun d=>s.excl k i _ oi _ x e l f m h p rfl hl d.1 q)]
     exact A
  unfold vA at hu;split at hu
  ·rename_i d
   exact .inr (s.own k _ _ e l m rfl d.1)
  exact s.newH e o u hu
 unfold vA;rw[if_pos ⟨by simp[qZ],(jG.1 hu).1⟩];exact hu
def qde (k:Nat) (row:List PV):FV->FV
 | .ptr k' off=>match Nat.beq k' k with|true=>.hptr (row.drop off)|false=>.ptr k' off
 | .clo f c=>.clo f (qde k row c)
 | .cap a b=>.cap (qde k row a) (qde k row b)
 | v=>v
theorem oN {ρ:List Value} {H H':PH} {k:Nat} {row:List PV} {b:Nat} {vs:List Value} (g:ρ[k]? =some (.pointer (some ⟨b,0,none⟩))) (h:zz H' row vs) (i:∀ j u,vs[j]? =some u->H' b j=some u) (d:PH.le H H') {f:FV} {x:Value} (r:qR ρ H f x) :
  qR ρ H' (qde k row f) x:=by
 induction f generalizing x with
 | ptr k' off=>
  simp only[qde];split
  ·rename_i l
   have e:=jm l;subst e;obtain⟨o,h1,rfl⟩:=r;rw[g]at h1;cases h1;exact⟨b,off,vs.drop off,rfl,h.drop off,fun j u hu=>i _ _ (by simpa using hu)⟩
  exact r.mono (jq _) d
 | clo f c ih=>
  obtain⟨us,e,r⟩:=r;exact⟨us,e,ih r⟩
 | cap a b iha ihb=>
  obtain⟨u,us,e,m,n⟩:=r;exact⟨u,us,e,iha m,ihb n⟩
 | _=>exact r.mono (jq _) d
def qco (k:Nat) (row:List PV):List FV->List FV
 | []=>[]
 | v::l=>qde k row v::qco k row l
def SV:Nat->List AObj->List AObj
 | _,[]=>[]
 | 0,_::l=>.dead::l
 | n+1,o::l=>o::SV n l
theorem RO:∀ (k:Nat) (lo:List AObj),SV k lo=lo.set k .dead
 | _,[]=>by simp[SV]
 | 0,a::l=>by simp[SV]
 | n+1,a::l=>by simp[SV,RO n l]
theorem vO.pubBox {P:Program} {f:FuncId} {args:List FV} {lo:List AObj} {R:FV->List AObj->Prop} (k:Nat) {t:TypeId} {cells:List FV} {row:List PV} (o:lo[k]? =some (.box t cells)) (hp:NI cells=some row) (h1:row.all EW=true)
  (h:vO P f (qco k row args) (SV k lo) R):vO P f args lo R:=by
 intro bs ρ H w vs s p;have q:k<ρ.length:=by rw[s.hlen]; exact(jG.1 o).1
 have i:ρ[k]? =some ρ[k]:=jf q;obtain⟨H',b,cs,g,y,e,z,A⟩:=s.publishBox o i hp h1;rw[e]at i;have sub:∀ {xs:List FV} {us:List Value},zZ ρ H xs us->zZ ρ H' (qco k row xs) us:=by
  intro xs
  induction xs with
  | nil=>intro us r; exact r
  | cons x xs ih=>
   intro us r;obtain⟨u,j,e,B,C⟩:=r;exact⟨u,j,e,oN i z A g B,ih C⟩
 rw[RO]at h;have:=h bs ρ H' w vs y (sub p);have after:∀ {r lo' v w'},dT bs ρ H' r lo' v w'->dT bs ρ H r lo' v w':=fun⟨ρ2,D,a,b,c,d⟩=>⟨ρ2,D,a,g.trans b,c,d⟩;generalize (callFunc f vs.toArray).run P w=x at *;cases x with
 | ok n w'=>
  cases n<;>simp only at this ⊢ <;> try exact this
  ·obtain⟨r,lo',a,l⟩:=this; exact⟨r,lo',after a,l⟩
  obtain⟨e,m⟩:=this;exact⟨e,m.mono fun F E ⟨v,r,lo',e,a,l⟩=>⟨v,r,lo',e,after a,l⟩⟩
 | halt x w'=>exact this
end Ax
end
section
open Go Go.Proofs
namespace Ax
variable {P:Program}
structure ZeroIs (P:Program) (a:TypeId) (z:PV):Prop where
 plain:∃ u,P.underlying a=some u/\∀ m,u≠.interface m
 zero:∃ v i,P.info? a=some i/\i.zero=some v/\∀ H,qP H z v
theorem ZeroIs.of {a:TypeId} (d:TypeDesc) (v:Value) {z:PV} (h1:P.underlying a=some d) (h2:∀ m,d≠.interface m) (h3:(P.info? a).bind (·.zero)=some v) (h4:∀ H,qP H z v):ZeroIs P a z:=by
 refine⟨⟨d,h1,h2⟩,v,?_⟩;cases e:P.info? a with
 | none=>rw[e]at h3; cases h3
 | some i=>rw[e]at h3; exact⟨i,rfl,h3,h4⟩
theorem SJ {a:TypeId} {i:TypeInfo} {v:Value} (h1:P.info? a=some i) (h2:i.zero=some v) (w:World):(zeroValue a).run P w=.ok v w:=by
 simp only[zeroValue,ke,typeInfo,run_program,h1,kc,h2,Sem.run_pure]
theorem UA {a b:TypeId} {z v:PV} (hz:ZeroIs P a z):bB P (.ifc a v) b a (.tup [v,.bool true]):=by
 intro H x w h;simp only[qP]at h;obtain⟨u,rfl,hu⟩:=h;obtain⟨d,c,e⟩:=hz.plain;refine⟨.tuple #[u,.bool true],?_,?_⟩
 ·unfold Instr.typeAssert
  simp only[ke,kru c,kc];cases d with
  | interface m=>exact absurd rfl (e m)
  | _=>simp
 ·simp only[qP,zz]
  exact⟨[u,.bool true],rfl,u,_,rfl,hu,_,_,rfl,rfl,rfl⟩
theorem UB {a t e:TypeId} {z v:PV} (hz:ZeroIs P a z) (h:t≠a):bB P (.ifc t v) e a (.tup [z,.bool false]):=by
 intro H x w c;simp only[qP]at c;obtain⟨u,rfl,hu⟩:=c;obtain⟨d,f,g⟩:=hz.plain;obtain⟨b,i,h1,h2,h3⟩:=hz.zero;refine⟨.tuple #[b,.bool false],?_,?_⟩
 ·unfold Instr.typeAssert
  simp only[ke,kru f,kc];cases d with
  | interface m=>exact absurd rfl (g m)
  | _=>simp[h,SJ h1 h2]
 ·simp only[qP,zz]
  exact⟨[b,.bool false],rfl,b,_,rfl,h3 H,_,_,rfl,rfl,rfl⟩
theorem XU {a e:TypeId} {z:PV} (hz:ZeroIs P a z):bB P .nili e a (.tup [z,.bool false]):=by
 intro H x w c;simp only[qP]at c;subst c;obtain⟨d,f,g⟩:=hz.plain;obtain⟨b,i,h1,h2,h3⟩:=hz.zero;refine⟨.tuple #[b,.bool false],?_,?_⟩
 ·unfold Instr.typeAssert
  simp only[ke,kru f,kc];cases d with
  | interface m=>exact absurd rfl (g m)
  | _=>simp[SJ h1 h2]
 ·simp only[qP,zz]
  exact⟨[b,.bool false],rfl,b,_,rfl,h3 H,_,_,rfl,rfl,rfl⟩
theorem dP {a b t:TypeId} {n:Bool} {v r:PV} (h1:n=true->bB P .nili b a r) (h2:n=false->bB P (.ifc t v) b a r):bB P (.ifo n t v) b a r:=by
 intro H x w h;simp only[qP]at h;rcases h with ⟨e,h⟩|⟨e,h⟩
 ·exact h1 e H x w (by simpa only[qP]using h)
 exact h2 e H x w (by simpa only[qP]using h)
theorem vO.ofF {f:FuncId} {args:List FV} {lo:List AObj} {R:FV->List AObj->Prop} (h:Pd args fun g=>∃ r,qc P f g r/\R (.p r) lo):vO P f args lo R:=by
 obtain⟨g,⟨r,j,i⟩,b⟩:=dC h;intro bs ρ H w vs s k;have:=j H w vs s.sath (b ρ H vs k);generalize (callFunc f vs.toArray).run P w=x at *;unfold XR at this;split at this
 ·obtain⟨H',c,d⟩:=this
  exact⟨.p r,lo,Qm s c d,i⟩
 ·obtain⟨rfl,a⟩:=this
  exact⟨rfl,a.mono fun m l ⟨v,H',e,c,d⟩=>⟨v,.p r,lo,e,Qm s c d,i⟩⟩
 exact this.elim
end Ax
end
section
open Go Go.Proofs Ax Go.RowKit
namespace W
theorem mixed:Tryz.prog.follows .mixedOrders=true:=by kernel_rfl
theorem iG:∀ (args:Array Value) (w:World),(callFunc 219 args).run Tryz.prog w=.ok (.enter 219 args) w:=fun _ _=>Tryz.call219 _ _
theorem BW (b:Nat) (l:List UInt8) (w:World) (p v:Value) (c:w.heap[b]? =some (.cells #[p,v] 259 (0,0))) (a:w.ownsRow 0 5 1 v l.length (Lib.byteCells l)) (d:l≠[]) :
  Calls Tryz.prog 219 #[.pointer (some ⟨b,0,none⟩)] w (Bl l v w):=Any.String_exact Tryz.lays169 Tryz.Builder_Extra_169 b l w p v c a d
theorem BV:Bm Tryz.prog 219 259 5:=fun b w p v c a=>Any.String_empty Tryz.lays169 Tryz.Builder_Extra_169 b w p v c a
set_option maxRecDepth 100000 in
theorem Ho (x:List (List UInt8)) (a:(qi x).length * 16<=140737488355328):zn Tryz.prog 64 [.p (.sl (qi x))] [] 0 (fun v lo=>v=.tsl 0 (qi x)/\lo=[.tail 9 1 (qi x).length]):=
 PK (fun _ _=>Tryz.call64 _ _) Tryz.slices_Clone_string_nil Tryz.slices_Clone_string_zero (fun b o n c d w h1 h2 h3=>Tryz.slices_Clone_string b o n c d w h1 h2 h3) x a
theorem SQ {H:PH} {w w':World} (s:SatH H w) (h:Below w.heap.size w w'):Calm H w H w':=
 ⟨PH.le.refl H,s.block fun b _ _ a=>h.block b (s.lt a),⟨h.os,h.tape,h.output,h.size,fun k c _=>h.block k c⟩,fun _ _ v a=>.inl ⟨v,a⟩⟩
def dy (_:Nat) (a:List (List UInt8)) (sep:List UInt8):Option (List UInt8):=
 chk (decide ((Lib.join a sep).length<=140737488355328)) (chk (decide (a.length<=140737488355328)) (some (Lib.join a sep)))
set_option maxRecDepth 100000 in
theorem Qk (n:Nat):∀ (a:List (List UInt8)) (sep r:List UInt8),dy n a sep=some r->qc Tryz.prog 197 [.sl (qi a),.str sep] (.str r):=by
 intro a sep r h;obtain⟨h1,h⟩:=qg h;obtain⟨h2,h⟩:=qg h;obtain rfl:=Option.some.inj h;intro H w vs d m;simp only[zz]at m;obtain⟨v,_,rfl,g,u,_,rfl,s,rfl⟩:=m;simp only[qP]at g s;subst s;rw[Tryz.call197];refine⟨rfl,?_⟩;rcases g with ⟨A,g⟩|⟨b,o,z,cap,rfl,f,t⟩
 ·have ha:a=[]:=by cases a with|nil=>rfl|cons _ _=>cases A
  subst ha;have go:∀ (p:Option Addr) (c:Nat),Calls Tryz.prog 197 #[.slice p 0 c,.string ⟨sep.toArray⟩] w fun e i=>∃ v H',e=.returned v/\Calm H w H' i/\qP H' (.str (Lib.join [] sep)) v:=fun p c=>
   (Tryz.strings_Join_none p c ⟨sep.toArray⟩ w).mono fun e w' q=>by obtain⟨rfl,rfl⟩:=q; exact⟨_,H,rfl,Calm.refl d,by simp[qP,Lib.join]⟩
  rcases g with rfl|⟨p,cap,rfl⟩
  ·exact go none 0
  exact go (some p) cap
 have hl:(qi a).length=a.length:=by simp[qi]
 rw[hl]at f ⊢;have em:(a.map fun l=>(⟨l.toArray⟩:ByteArray)).map (fun x=>x.data.toList)=a:=by rw[jW]; exact List.map_id' a
 cases ha:a with
 | nil=>
  subst ha;exact(Tryz.strings_Join_none (some ⟨b,o,none⟩) cap ⟨sep.toArray⟩ w).mono fun e w' q=>by obtain⟨rfl,rfl⟩:=q; exact⟨_,H,rfl,Calm.refl d,by simp[qP,Lib.join]⟩
 | cons x0 a0=>
  rw[← ha];have hcells:∀ (j:Nat) x,(a.map fun l=>(⟨l.toArray⟩:ByteArray))[j]? =some x->w.cell? ⟨b,o+j,none⟩=some (.string x):=by
   intro j x y;rw[List.getElem?_map]at y;obtain⟨l,hl,rfl⟩:=Option.map_eq_some_iff.1 y;exact(d.cell _ _ _ (Qw t j l hl)).1
  have k:b<w.heap.size:=d.lt (Qw t 0 x0 (by rw[ha]; rfl));have c:=Tryz.strings_Join b o cap (a.map fun l=>⟨l.toArray⟩) ⟨sep.toArray⟩ w hcells k (by rw[jl]; exact kod h2) (by rw[jl]; exact f) (by rw[em]; exact kod h1);rw[jl,em]at c;exact c.mono fun e w' p=>⟨_,H,p.1,SQ d p.2,by simp[qP]⟩
structure xm where
 a:qa
 b:qa
def xm.cells:xm->List PV|⟨a,b⟩=>a.cells++b.cells
def xm.rows (l:List xm):List (List PV):=l.map xm.cells
def iK:Codec xm:={ cells:=xm.cells,rows:=xm.rows,z:=20,hrows:=fun _=>rfl,hz:=fun⟨a,b⟩=>by simp[xm.cells,qa.width],hone:=fun⟨a,b⟩=>by simp only[xm.cells,List.all_append,qa.one,Bool.and_self] }
deriving instance Inhabited for xm
inductive Any where
 | nul|b (x:Bool)|i (x:Int)|s (x:List UInt8)|l (x:List Val)|v (x:Val)
instance:Inhabited Any:=⟨.nul⟩
def Any.isnul:Any->Bool|.nul=>true|_=>false
def Any.tid:Any->TypeId
 | .nul=>4|.b _=>4|.i _=>2|.s _=>9|.l _=>22|.v _=>25
def Any.val:Any->PV
 | .nul=>.nilp
 | .b x=>.bool x
 | .i x=>.int .i64 x
 | .s x=>.str x
 | .l x=>.sl (Val.rows x)
 | .v x=>.agg (qS.cells x)
abbrev Any.pv (e:Any):PV:=.ifo e.isnul e.tid e.val
def Any.get_b:Any->Bool|.b x=>x|_=>false
def Any.is_b:Any->Bool|.b _=>true|_=>false
def Any.get_i:Any->Int|.i x=>x|_=>0
def Any.is_i:Any->Bool|.i _=>true|_=>false
def Any.get_s:Any->List UInt8|.s x=>x|_=>[]
def Any.is_s:Any->Bool|.s _=>true|_=>false
def Any.get_l:Any->List Val|.l x=>x|_=>[]
def Any.is_l:Any->Bool|.l _=>true|_=>false
theorem aT:ZeroIs Tryz.prog 4 (.bool false):=.of (.bool) (.bool false) (by kernel_rfl) (by intro m h; cases h) (by kernel_rfl) (fun H=>by simp[qP])
theorem aU:ZeroIs Tryz.prog 2 (.int .i64 0):=.of (.int .i64) (.int .i64 0) (by kernel_rfl) (by intro m h; cases h) (by kernel_rfl) (fun H=>by simp[qP])
theorem aW:ZeroIs Tryz.prog 9 (.str []):=.of (.string) (.string ⟨#[]⟩) (by kernel_rfl) (by intro m h; cases h) (by kernel_rfl) (fun H=>by simp[qP])
theorem aV:ZeroIs Tryz.prog 22 (.sl (Val.rows [])):=.of (.slice 25) (.slice none 0 0) (by kernel_rfl) (by intro m h; cases h) (by kernel_rfl) (fun H=>by simp[qP,Val.rows])
theorem Any.as_b (e:Any):bB Tryz.prog e.pv 20 4 (.tup [.bool e.get_b,.bool e.is_b]):=by
 cases e with
 | nul=>exact dP (fun _=>XU aT) (fun h=>by cases h)
 | b x=>exact dP (fun h=>by cases h) (fun _=>UA aT)
 | _=>exact dP (fun h=>by cases h) (fun _=>UB aT (by simp only[Any.tid]; decide))
theorem Any.as_i (e:Any):bB Tryz.prog e.pv 20 2 (.tup [.int .i64 e.get_i,.bool e.is_i]):=by
 cases e with
 | nul=>exact dP (fun _=>XU aU) (fun h=>by cases h)
 | i x=>exact dP (fun h=>by cases h) (fun _=>UA aU)
 | _=>exact dP (fun h=>by cases h) (fun _=>UB aU (by simp only[Any.tid]; decide))
theorem Any.as_s (e:Any):bB Tryz.prog e.pv 20 9 (.tup [.str e.get_s,.bool e.is_s]):=by
 cases e with
 | nul=>exact dP (fun _=>XU aW) (fun h=>by cases h)
 | s x=>exact dP (fun h=>by cases h) (fun _=>UA aW)
 | _=>exact dP (fun h=>by cases h) (fun _=>UB aW (by simp only[Any.tid]; decide))
theorem Any.as_l (e:Any):bB Tryz.prog e.pv 20 22 (.tup [.sl (Val.rows e.get_l),.bool e.is_l]):=by
 cases e with
 | nul=>exact dP (fun _=>XU aV) (fun h=>by cases h)
 | l x=>exact dP (fun h=>by cases h) (fun _=>UA aV)
 | _=>exact dP (fun h=>by cases h) (fun _=>UB aV (by simp only[Any.tid]; decide))
end W
end
section
open Go Go.Proofs Ax
namespace W
abbrev SS:=List UInt8
abbrev pI (x:Int):FV:=.p (.int .i64 x)
abbrev pS (x:List UInt8):FV:=.p (.str x)
abbrev pB (x:Bool):FV:=.p (.bool x)
abbrev pT (x:List (List UInt8)):FV:=.p (.sl (qi x))
abbrev pE (x:List qa):FV:=.p (.sl (qa.rows x))
abbrev pV (x:List Val):FV:=.p (.sl (Val.rows x))
abbrev pO (x:List zw):FV:=.p (.sl (zw.rows x))
abbrev pA (x:List xq):FV:=.p (.sl (xq.rows x))
abbrev pU (x:List qq):FV:=.p (.sl (qq.rows x))
abbrev pP (x:List xN):FV:=.p (.sl (xN.rows x))
abbrev pN (x:List qd):FV:=.p (.sl (qd.rows x))
abbrev pG (x:List qf):FV:=.p (.sl (qf.rows x))
abbrev pC (x:List qv):FV:=.p (.sl (qv.rows x))
abbrev pK (x:List ql):FV:=.p (.sl (ql.rows x))
theorem zle {m n:Nat} (h:Nat.ble m n=true):m<=n:=jh h
abbrev LK (T R:Type):Type:=(T->Option R)->T->Option R
noncomputable abbrev TP:Program:=Tryz.prog
set_option maxRecDepth 100000 in
theorem zN {f:FuncId} {fn:Func} {args:List PV} {r:PV} (he:Ax.Enters Tryz.prog f) (hf:Tryz.prog.funcs[f]? =some fn) (inl:List Nat) (h:qey Tryz.prog inl fn args (fun v=>nle v r)) (hok:iN inl fn args.length=true:=by kernel_rfl):qc Tryz.prog f args r:=qc.of_vcN mixed he hf hok h
set_option maxRecDepth 100000 in
theorem zI {f:FuncId} {fn:Func} {args:List FV} {lo:List AObj} {R:FV->List AObj->Prop} (he:Ax.Enters Tryz.prog f) (hf:Tryz.prog.funcs[f]? =some fn) (inl:List Nat) (h:vcI Tryz.prog inl fn args lo R) (hok:iN inl fn args.length=true:=by kernel_rfl):vO Tryz.prog f args lo R:=vO.of_vc mixed he hf hok h
set_option maxRecDepth 100000 in
theorem zO {f:FuncId} {fn:Func} {args:List FV} {objs:List AObj} {m:Nat} {R:FV->List AObj->Prop} (he:Ax.Enters Tryz.prog f) (hf:Tryz.prog.funcs[f]? =some fn) (inl:List Nat) (h:vcO Tryz.prog inl fn args objs m R) (hok:iN inl fn args.length=true:=by kernel_rfl) (hml:m<=objs.length:=by exact zle rfl):zn Tryz.prog f args objs m R:=zn.of_vc mixed he hf hok hml h
abbrev zq0:FV:=.p (.int .i64 (0:Int))
abbrev zq1:FV:=.p (.str ([]:SS))
abbrev zq2:FV:=.p (.nilsl)
abbrev zq3:AObj:=.box 63 [zq0,zq2,zq2,zq0,zq1,zq0,pB false,zq0,zq1,zq2,zq2,zq2,zq2,zq1,zq2,pB false,zq2,zq2,zq2,zq2,zq2,pB false]
abbrev zq4:AObj:=.box 28 [zq0,zq1,zq0,pB false,zq0,zq1,zq2,zq2,zq2,zq2]
abbrev zq5:List (SS×PV):=(xH ([97,98,115]:SS) (PV.fn 101) (xH ([115,105,122,101]:SS) (PV.fn 100) ([]:List (SS×PV))))
abbrev zq6:AObj:=.box 25 [zq0,pB false,zq0,zq1,zq2,zq2]
abbrev zq7:AObj:=.box 84 [zq2,zq2]
abbrev zq8:AObj:=.box 86 [zq1,zq2,zq2,zq2]
abbrev zq9:AObj:=.box 88 [zq1,zq1,zq0,zq2,zq2]
abbrev qgm:AObj:=.box 63 [.p (.int .i64 (8:Int)),zq2,zq2,zq0,zq1,zq0,pB false,zq0,zq1,zq2,zq2,zq2,zq2,zq1,zq2,pB false,zq2,zq2,zq2,zq2,zq2,pB false]
end W
end
section
namespace Ax
open Go
def UC (w:World):PH:=fun b o=>(w.cell? ⟨b,o,none⟩).bind fun v=>bif v.oneCell' then some v else none
theorem UD {w:World} (h:∃ m,w.cell? ⟨0,0,none⟩=some (.int .i64 m)):SatH (UC w) w where
 cell:=fun b o v c=>by
  unfold UC at c;obtain⟨u,hu,h1⟩:=Option.bind_eq_some_iff.1 c;cases a:u.oneCell' with
  | false=>rw[a]at h1; cases h1
  | true=>rw[a]at h1; cases h1; exact⟨hu,a⟩
 root:=by
  obtain⟨m,hm⟩:=h;exact⟨m,by simp[UC,hm,Value.oneCell']⟩
theorem eL {w:World} {a:Addr} {v:Value} (h:w.cell? a=some v) (h1:v.oneCell'=true):UC w a.block a.off=some v:=by
 have c:a.spot=none:=by
  unfold World.cell? at h;split at h
  ·cases b:a.spot with
   | none=>rfl
   | some s=>rw[b]at h; simp at h
  ·cases h
 have:(⟨a.block,a.off,none⟩:Addr)=a:=by cases a; simp only at c; subst c; rfl
 unfold UC;rw[this,h];simp[h1]
theorem MU {w:World} {base:Nat} {a:Addr} {n:Nat} {cs:List Value} (h:w.cells? base a n=some cs):cs.length=n/\∀ j,j<n->w.cell? (a.add j)=cs[j]?:=by
 unfold World.cells? at h;split at h
 ·exact⟨by simpa using mapM_some_length h,fun j b=>mapM_some_get h j j (by simp[b])⟩
 cases h
section
variable {Hd:Type} {enc:TypeId×Value->Hd} {P:Program} {w:World}
def fW {α:Type} (enc:TypeId×Value->Hd) (P:Program) (w:World) (t:TypeId) (n:Nat) (row:α->List PV) (a:α->Nat) (bulk:DataW Hd->Nat):Prop:=
 ∀ (cs:List Value) (x:DataW Hd×List MemPlace),DataW.trod enc P w 0 (fun _=>true) true n t cs=some x->∃ v:α,zz (UC w) (row v) cs/\(∀ u∈cs,u.oneCell'=true)/\a v<=bulk x.1
theorem qer {α:Type} {H:PH} {b z:Nat} {row:α->List PV}:∀ (l:List α) (o:Nat) (a:Nat->List Value),(∀ v∈l,(row v).length=z) ->
  (∀ i v,l[i]? =some v->zz H (row v) (a i)/\∀ j u,(a i)[j]? =some u->H b (o+i * z+j)=some u)->nS H b z o (l.map row)
 | [],_,_,_,_=>trivial
 | v::l,o,a,hz,h=>by
  simp only[jk,nS];refine⟨hz v (by simp),⟨a 0,(h 0 v rfl).1,fun j u hu=>by have:=(h 0 v rfl).2 j u hu; simpa using this⟩,?_⟩
  refine qer l (o+z) (fun i=>a (i+1)) (fun v d=>hz v (by simp[d])) fun i v' c=>?_
  obtain⟨h1,h2⟩:=h (i+1) v' (by simpa using c);refine⟨h1,fun j u hu=>?_⟩;have:=h2 j u hu;rw[Nat.add_mul,Nat.one_mul]at this;have e:o+(i * z+z)+j=o+z+i * z+j:=by omega
  rw[← e]; exact this
theorem Tw {α:Type} [Inhabited α] {t e:TypeId} {z fuel:Nat} {row:α->List PV} {A:α->Nat} {bulk:DataW Hd->Nat} (L:P.underlying t=some (.slice e)) (hz:P.cellsOf e=z) (M:1<=z)
  (o:∀ v,(row v).length=z) (C:∀ n,n<fuel->fW enc P w e n row A bulk) {cs:List Value} {x:DataW Hd×List MemPlace} (h:DataW.trod enc P w 0 (fun _=>true) true fuel t cs=some x) :
  ∃ (l:List α) (v:Value),cs=[v]/\v.oneCell'=true/\qP (UC w) (.sl (l.map row)) v /\
   ((x.1=.nil/\l=[])\/∃ elems rest,x.1=.slice elems rest/\l.length=elems.length/\∀ (i:Nat) (d:DataW Hd) (v:α),elems[i]? =some d->l[i]? =some v->A v<=bulk d):=by
 rcases DataW.trod_slice L h with ⟨rfl,rfl⟩|⟨a,len,cap,elems,rest,n,rfl,rfl,rfl,_,D,_,hlen,c,_,_⟩
 ·exact⟨[],_,rfl,rfl,by simp[qP],.inl ⟨rfl,rfl⟩⟩
 have K:∀ i,i<len->∃ (v:α) (cs:List Value) (d:DataW Hd×List MemPlace),elems[i]? =some d/\zz (UC w) (row v) cs/\(∀ j u,cs[j]? =some u->UC w a.block (a.off+i * z+j)=some u)/\A v<=bulk d.1:=by
  intro i B;have h1:=c i B;obtain⟨d,g⟩:∃ d,elems[i]? =some d:=⟨_,jf (by omega)⟩;rw[g]at h1;obtain⟨cs,k,E⟩:=Option.bind_eq_some_iff.1 h1;obtain⟨v,r,hone,F⟩:=C n (Nat.lt_succ_self n) cs d E;refine⟨v,cs,d,g,r,fun j u hu=>?_,F⟩;obtain⟨hl,p⟩:=MU k;have N:j<P.cellsOf e:=by have:=(jG.1 hu).1; omega
  have h2:=p j N;rw[hu,Addr.add_add]at h2;have:=eL h2 (hone u (List.mem_of_getElem? hu));rw[hz]at this;have eb:(a.add (i * z+j)).block=a.block:=by unfold Addr.add; split<;>rfl
  have eo:(a.add (i * z+j)).off=a.off+i * z+j:=by unfold Addr.add; split<;>(try simp only)<;>omega
  rw[eb,eo]at this;exact this
 have spot:len≠0->a.spot=none:=by
  intro G;have h1:=c 0 (by omega);obtain⟨d,g⟩:∃ d,elems[0]? =some d:=⟨_,jf (by omega)⟩;rw[g]at h1;obtain⟨cs,k,_⟩:=Option.bind_eq_some_iff.1 h1;obtain⟨hl,p⟩:=MU k;have h2:=p 0 (by omega);rw[Nat.zero_mul,Addr.add_zero',Addr.add_zero']at h2;cases hu:cs[0]? with
  | none=>have:=List.getElem?_eq_none_iff.1 hu; omega
  | some u=>
   rw[hu]at h2;unfold World.cell? at h2;split at h2
   ·cases H:a.spot with
    | none=>rfl
    | some s=>rw[H]at h2; simp at h2
   ·cases h2
 let f:Nat->α:=fun i=>if h:i<len then(K i h).choose else default
 have I:∀ i,i<len->∃ (cs:List Value) (d:DataW Hd×List MemPlace),elems[i]? =some d/\zz (UC w) (row (f i)) cs/\(∀ j u,cs[j]? =some u->UC w a.block (a.off+i * z+j)=some u)/\A (f i)<=bulk d.1:=by
  intro i B;have:=(K i B).choose_spec;simp only[f,B,dif_pos];exact this
 refine⟨(List.range len).map f,_,rfl,rfl,?_,.inr ⟨_,_,rfl,by simp[hlen],fun i d v g q=>?_⟩⟩
 ·simp only[qP,jl,List.length_range]
  by_cases G:len=0
  ·subst G
   exact .inl ⟨rfl,.inr ⟨_,_,rfl⟩⟩
  refine .inr ⟨a.block,a.off,z,cap,?_,D,?_⟩
  ·have:=spot G
   cases a;simp only at this;subst this;rfl
  refine qer ((List.range len).map f) a.off (fun i=>if h:i<len then(I i h).choose else[]) (fun v _=>o v) fun i v q=>?_
  simp only[List.getElem?_map,Option.map_eq_some_iff]at q;obtain⟨O,m,rfl⟩:=q;obtain⟨b,e⟩:=jG.1 m;simp at b e;subst e;obtain⟨d,g,Q,p,_⟩:=(I i b).choose_spec;simp only[b,dif_pos];exact⟨Q,p⟩
 simp only[List.getElem?_map,Option.map_eq_some_iff]at q g;obtain⟨O,m,rfl⟩:=q;obtain⟨b,e⟩:=jG.1 m;simp at b e;subst e;obtain⟨R,J,rfl⟩:=g;obtain⟨_,d2,y,_,_,F⟩:=I i b;rw[J]at y;cases y;exact F
end
end Ax
end
section
namespace Ax
open Go Go.RowKit Go.ChangeShapes Go.WideShapes Go.ChangeAt
section
variable {H:Type} {enc:TypeId×Value->H} {P:Program}
theorem UW (hl:laidOutB P=true) {W g:World} {sp:Nat->Bool} (i:Below W.heap.size W g):∀ {e:List TypeId} {vs:List Value} {j:List (DataW H)} {f:List MemPlace},
  (e.all fun t=>P.readableRec t&&decide (t<P.types.size))=true->DataW.TrodAll enc P W 0 (fun _=>true) true e vs j f->(∀ p∈f,p.block<W.heap.size)->(∀ p∈f,sp p.block=true) ->
  DataW.TrodAll enc P g 0 sp true e vs j f
 | [],_,_,_,_,h,_,_=>by
  obtain⟨rfl,rfl,rfl⟩:=trodAll_nil h;exact trodAll_mk0
 | t::e,_,_,_,hr,h,hlt,hs=>by
  obtain⟨v,k,d,l,a,b,rfl,rfl,rfl,h1,h2⟩:=trodAll_cons h;simp only[List.all_cons,ji,kde]at hr;exact⟨a,b,WideElems.Trod_stays hl hr.1.1 hr.1.2 h1 (fun x c=>i.same (hlt x (List.mem_append_left _ c))) (fun x c=>hs x (List.mem_append_left _ c)),
   UW hl i hr.2 h2 (fun x c=>hlt x (List.mem_append_right _ c)) (fun x c=>hs x (List.mem_append_right _ c)),rfl⟩
theorem Cp {f:Func} {s:ChangeSpec} {apart fresh a d:Bool} {W h:World} {args:Array Value} {e gs:List (DataW H)} {before:List MemPlace} {tb:TypeId} (hl:laidOutB P=true)
  (y:(f.params.toList.all fun t=>P.readableRec t&&decide (t<P.types.size))=true) (n:DataW.Whole enc P f.params.toList s.vars apart W args.toList e gs before) (r:Below W.heap.size W h) (hvars:s.vars=[])
  (g:s.fn H (e++gs)={ results:=[.lit (.bool true)],args:=e }) (i:f.resultTypes = #[tb]) (hbool:P.underlying tb=some .bool):s.post enc P f apart fresh a d W args (.bool true) h:=by
 have j:∀ p∈before,p.block<W.heap.size:=fun p hp=>by simpa using n.lt p hp
 have k:∀ p∈before,(fun b=>decide (b<W.heap.size)) p.block=true:=fun p hp=>by simpa using n.lt p hp
 have u:=n;obtain⟨p,q,z,v,rfl,hz,A⟩:=u;have B:q=[]/\gs=[]:=by
  rw[hvars]at v;obtain⟨h1,h2⟩:=trodVars_none v;exact⟨by first|exact h2|exact h1,by first|exact h1|exact h2⟩
 obtain⟨rfl,rfl⟩:=B;simp only[List.append_nil]at *;have hargs:∀ sp:Nat->Bool,(∀ x∈p,sp x.block=true)->DataW.TrodAll enc P h 0 sp true f.params.toList args.toList e p:=fun sp C=>UW hl r y z j C
 have c:∀ (b:Nat) (sp:Nat->Bool) (w:Bool),DataW.TrodAll enc P h b sp w f.resultTypes.toList ((Value.bool true).resultList f.resultTypes.size) (s.fn H e).results []:=by
  intro b sp w;rw[i,g];exact trodAll_cons_mk (shut_bool hbool _) trodAll_mk0
 have l:∀ sp:Nat->Bool,DataW.TrodVars enc P h sp s.vars (s.fn H e).vars []:=by
  intro sp;rw[hvars,g];rfl
 refine⟨e,[],p,[],p,[],n,?_,?_,?_,World.keptBut_mono (fun x o=>⟨o,Or.inr (Or.inl o)⟩) (r.frame _),fun _=>?_⟩
 ·simpa using c _ _ _
 ·simp only[List.append_nil]; rw[g]; exact hargs _ k
 ·simpa using l _
 refine⟨?_,_,_,([]++p)++[],⟨[]++p,[],trodAll_append (hargs _ (fun _ _=>rfl)) (c _ _ _),l _,rfl,?_,?_⟩,?_⟩
 ·exact ok_one i rfl (okWide_bool_mk hbool _)
 ·intro b off hp
  have m:MemPlace.cell b off∈p:=by simpa using hp
  rw[r.frozen (p:=⟨b,off,none⟩) (j _ m)];exact hz b off m
 ·intro ha
  simpa using A ha
 intro x o _;simpa using o
end
end Ax
end
section
namespace Ax
open Go Go.RowKit
theorem qc.calls {P:Program} {f:FuncId} {args:List PV} {r:PV} (h:qc P f args r) (he:Enters P f) {H:PH} {w:World} {vs:List Value} (a:SatH H w) (b:zz H args vs) :
  Calls P f vs.toArray w fun e w'=>∃ v H',e=.returned v/\Calm H w H' w'/\qP H' r v:=by
 have:=h H w vs a b;rw[he]at this;exact this.2
theorem Calm.below {H H':PH} {w w':World} (c:Calm H w H' w'):Below w.heap.size w w':=
 ⟨c.keep.os,c.keep.tape,c.keep.output,c.keep.size,fun k a=>c.keep.block k a id⟩
end Ax
end
section
open Go Go.Proofs Go.RowKit
namespace Ax
theorem eK {P:Program} {f:FuncId} (enter:∀ vs w,(callFunc f vs).run P w=.ok (.enter f vs) w) {e:TypeId} {z a:Nat}
  (o:∀ (w:World),Calls P f #[.slice none 0 0,.int .i64 (0:Nat)] w fun b w'=>b=.returned (.slice none 0 0)/\w'=w)
  (q:∀ (n:Nat) (w:World),0<n->n * a<=140737488355328->n<=4611686018427387904->Calls P f #[.slice none 0 0,.int .i64 n] w fun b w'=>∃ v',b=.returned v'/\w'.ownsRow w.heap.size e z v' 0 []/\Below w.heap.size w w')
  (n:Nat) (c:n * a<=140737488355328) (g:n<=4611686018427387904):zn P f [.p .nilsl,.p (.int .i64 (n:Int))] [] 0 (fun v lo=>v=.tsl 0 []/\lo=[.tail e z 0]):=by
 intro bs ρ H w vs r s t;have i:ρ=[]:=jI s.hlen;subst i;obtain⟨v,x,rfl,y,j⟩:=t;obtain⟨u,k,rfl,A,l⟩:=j;obtain rfl:k=[]:=l;obtain rfl:v=.slice none 0 0:=by simpa only[qR,qP]using y
 obtain rfl:u=.int .i64 (n:Int):=by simpa only[qR,qP]using A
 rw[enter];refine⟨rfl,?_⟩;have base:Calls P f #[.slice none 0 0,.int .i64 (n:Int)] w fun b w'=>∃ v',b=.returned v'/\w'.ownsRow w.heap.size e z v' 0 []/\Below w.heap.size w w':=by
  rcases Nat.eq_zero_or_pos n with h|h
  ·subst h
   refine(o w).mono fun b w' p=>?_;obtain⟨rfl,rfl⟩:=p;exact⟨_,rfl,⟨by simp,.inl ⟨rfl,rfl⟩⟩,Below.refl _ _⟩
  exact q n w h c g
 refine base.mono fun b w' p=>?_;obtain⟨v',rfl,B,C⟩:=p;obtain⟨d,m,D⟩:=Nb s C B (fun u hu=>by cases hu)
 refine⟨v',.tsl 0 [],[.tail e z 0],[v'],_,rfl,⟨rfl,rfl⟩,d,D,rfl,bu (by simp only[cP]) d m⟩
end Ax
end
section
open Go Go.Proofs Ax Go.RowKit Go.Shelf
namespace W
theorem qcu:∃ i,Tryz.prog.info? 25=some i/\i.size=6/\i.bytes=88/\i.zero=some (.agg #[.int .i64 0,.bool false,.int .i64 0,.string ⟨#[]⟩,.slice none 0 0,.slice none 0 0]):=by
 have h:(Tryz.prog.info? 25).map (fun i=>(i.size,i.bytes,i.zero))=some (6,88,some (.agg #[.int .i64 0,.bool false,.int .i64 0,.string ⟨#[]⟩,.slice none 0 0,.slice none 0 0])):=by kernel_rfl
 obtain⟨i,h1,h2⟩:=Option.map_eq_some_iff.1 h;simp only[Prod.mk.injEq]at h2;exact⟨i,h1,h2.1,h2.2.1,h2.2.2⟩
set_option maxRecDepth 100000 in
theorem qa2 (n:Nat) (b:n * 88<=140737488355328) (d:n<=4611686018427387904):zn Tryz.prog 193 [.p .nilsl,.p (.int .i64 (n:Int))] [] 0 (fun v lo=>v=.tsl 0 []/\lo=[.tail 25 6 0]):=by
 obtain⟨g,v1,v2,v3,v4⟩:=qcu;refine eK (fun _ _=>Tryz.call193 _ _) (fun w=>?_) (fun n w h1 h2 h3=>?_) n b d
 ·exact Any8.slices_Grow_room Tryz.growV none 0 0 0 w (jw _) (by omega) (by omega) (jw _)
 have c:=Any8.slices_Grow_grow Tryz.growV g _ (by exact v1) v4 (by rw[v2]; decide) none 0 0 n [] w (jw _) (by omega) (by rw[v3,jx]; exact h2) (by omega) (by simp) (fun _=>rfl) (fun a h=>by cases h)
 refine Calls.mono (by exact c) fun e w' p=>?_;obtain⟨rfl,hw⟩:=p;have j:n<=grownCap w (0+n) 0 25:=by have:=grownCap_ge w (0+n) 0 25; omega
 have hm:grownCap w (0+n) 0 25<=maxLen:=grownCap_le_maxLen w (0+n) 0 25 (by unfold maxLen; omega);have f:Tryz.growV_ren.t 25=25:=by kernel_rfl
 rw[f]at hw;generalize hcur:(([]:List Value).toArray++Builtin.zeroCells _ (0+n - 0)++Builtin.zeroCells _ (grownCap w (0+n) 0 25 - (0+n)):Array Value)=cur at hw;have i:cur.size=grownCap w (0+n) 0 25 * 6:=by
  rw[← hcur];simp only[Array.size_append,size_zeroCells,Value.cells];change 0+(0+n - 0) * 6+(grownCap w (0+n) 0 25 - (0+n)) * 6=grownCap w (0+n) 0 25 * 6;omega
 subst hw;rw[f];refine⟨_,rfl,⟨by simp,.inr ⟨w.heap.size,grownCap w (0+n) 0 25,cur,rfl,jw _,?_,jS _,hm,i,by simp⟩⟩,(Below.refl w.heap.size w).drew.alloc (jw _) _⟩;show(w.heap.push _)[w.heap.size]? =_;simp
set_option maxRecDepth 100000 in
theorem ee {i:Int} {n:Nat} (h:Qq i=some n) (a:n * 88<=140737488355328):zn Tryz.prog 193 [.p .nilsl,.p (.int .i64 i)] [] 0 (fun v lo=>v=.tsl 0 []/\lo=[.tail 25 6 0]):=by
 have e:i=(n:Int):=zC h;subst e;exact qa2 n a (by omega)
end W
end
section
namespace Go.Proofs
open Go.Shelf Go.RowKit Go.Lib Go.Sort
abbrev lsD (g:Nat) (lb:Array Value) (sf:Nat) (sb:Array Value):Value:=.agg #[.func (.func g) #[] lb,.func (.func sf) #[] sb]
abbrev Zr (ρ:Ren) (g:Nat) (lb:Array Value) (sf:Nat) (sb:Array Value) (W:World):World:=W.alloc (.cells #[.func (.func g) #[] lb,.func (.func sf) #[] sb] (ρ.t 42))
section
variable {P:Program} {α:Type} [Inhabited α] {enc:α->Value} {lt:α->α->Bool} {g:Nat} {lb:Array Value} {sf:Nat} {sb:Array Value} {blk off:Nat} {W:World} {d dk:Array α}
theorem SW.trans' {w0:World} (h:SW enc w0 blk off d W) (a:blk<w0.heap.size) {w:World} (b:SW enc W blk off dk w) (c:dk.size=d.size):SW enc w0 blk off dk w:=by
 obtain⟨m,os,rfl⟩:=b;exact h.on a m dk os c
theorem SW.cell' {w:World} (c:SW enc W blk off dk w) {b o:Nat} {v:Value} (e:b≠blk) (a:b<W.heap.size) (h:W.cell? ⟨b,o,none⟩=some v):w.cell? ⟨b,o,none⟩=some v:=by
 obtain⟨n,os,rfl⟩:=c;unfold sortWorld;rw[cell?_grow _ _ _ (by rw[size_putRow]; exact a),cell?_putRow_other enc _ blk off _ _ (Or.inl e)];exact h
structure SSt (P:Program) (enc:α->Value) (lt:α->α->Bool) (g:Nat) (lb:Array Value) (sf:Nat) (sb:Array Value) (blk off:Nat) (d:Array α) (W:World):Prop where
 eg:∀ args w,(callFunc g args).run P w=.ok (.enter g args) w
 less:LessReads P g lb enc lt blk off d.size W
 swap:SwapSwaps P sf sb enc blk off d.size
 holds:Holds enc W blk off d
 blkLt:blk<W.heap.size
 big:d.size<4611686018427387904
theorem SSt.on (h:SSt P enc lt g lb sf sb blk off d W) {w:World} (b:SW enc W blk off dk w) (a:dk.size=d.size):SSt P enc lt g lb sf sb blk off dk w:=
 ⟨h.eg,by rw[a]; exact b.lessReads h.less h.blkLt a,by rw[a]; exact h.swap,b.holds h.blkLt h.holds a,b.lt h.blkLt,by rw[a]; exact h.big⟩
theorem SSt.start (h:SSt P enc lt g lb sf sb blk off d W):SW enc W blk off d W:=.start h.holds
theorem SSt.lessAt (h:SSt P enc lt g lb sf sb blk off d W) (i j:Nat) (a:i<d.size) (b:j<d.size) :
  Calls P g (#[.int .i64 i,.int .i64 j]++lb) W fun e w'=>e=.returned (.bool (lt d[i]! d[j]!))/\∃ q,w'=W.drewN q:=h.start.less h.less rfl i j a b
def gz (a b:Nat):Nat->Nat->Array α->Array α
 | 0,_,d=>d
 | k+1,i,d=>gz a b k (i+1) (swp d (a+i) (b+i))
theorem xX (a b:Nat):∀ (k i:Nat) (d:Array α),(gz a b k i d).size=d.size
 | 0,_,_=>rfl
 | k+1,i,d=>by unfold gz; rw[xX a b k,size_swp]
def xV (m:Nat):Nat->Nat->Nat->Array α->Array α
 | 0,i,_,d=>gz (m - i) m i 0 d
 | f+1,i,j,d=>if i=j then gz (m - i) m i 0 d else if j<i then xV m f (i - j) j (gz (m - i) m j 0 d)else xV m f i (j - i) (gz (m - i) (m+j - i) i 0 d)
theorem zP (m:Nat):∀ (f i j:Nat) (d:Array α),(xV m f i j d).size=d.size
 | 0,i,_,d=>xX _ _ _ _ _
 | f+1,i,j,d=>by
  unfold xV;split
  ·exact xX _ _ _ _ _
  split
  ·rw[zP m f,xX]
  rw[zP m f,xX]
theorem Ru (m f i:Nat) (d:Array α):xV m f i i d=gz (m - i) m i 0 d:=by
 cases f with
 | zero=>rfl
 | succ f=>unfold xV; rw[if_pos rfl]
end
variable {P:Program} {ρ:Ren} {α:Type} [Inhabited α] {enc:α->Value} {lt:α->α->Bool} {g:Nat} {lb:Array Value} {sf:Nat} {sb:Array Value} {blk off:Nat}
theorem SSt.box {W:World} {d:Array α} (h:SSt P enc lt g lb sf sb blk off d W):SW enc W blk off d (Zr ρ g lb sf sb W):=h.start.alloc _
set_option maxHeartbeats 2000000 in
set_option maxRecDepth 100000 in
theorem Any.swapRange_func (L:LaysGt.n15 P ρ) {d:Array α} {W:World} (h:SSt P enc lt g lb sf sb blk off d W) (a b n:Nat) (ha:a+n<=d.size) (y:b+n<=d.size) :
  Calls P (ρ.f 49) #[lsD g lb sf sb,.int .i64 a,.int .i64 b,.int .i64 n] W fun e w'=>e=.returned (.tuple #[])/\SW enc W blk off (gz a b n 0 d) w':=by
 have mixed:=L.mixed; have t0:=L.t0; have a0:=L.a0; have z0:=L.z0; have v0:=L.v0; have t3:=L.t3; have a3:=L.a3; have z3:=L.z3; have v3:=L.v3; have t4:=L.t4; have a4:=L.a4; have z4:=L.z4; have v4:=L.v4; have t26:=L.t26; have a26:=L.a26; have z26:=L.z26; have v26:=L.v26; have t38:=L.t38; have a38:=L.a38; have z38:=L.z38; have v38:=L.v38; have t42:=L.t42; have a42:=L.a42; have z42:=L.z42; have v42:=L.v42; have t47:=L.t47; have a47:=L.a47; have z47:=L.z47; have v47:=L.v47;have u42:=kru L.t42;have k:W.heap.size≠blk:=by have:=h.blkLt; omega
 have q:=h.big;have c:SW enc W blk off d (Zr ρ g lb sf sb W):=h.box
 go_enter L.f49,BodyGt.n49_ntmps ρ
 go_wp2
 go_loopw [8] (fun p wr=>∃ (i:Nat) (dk:Array α),p=.int .i64 i/\i<=n/\dk.size=d.size/\SW enc (Zr ρ g lb sf sb W) blk off dk wr/\gz a b (n - i) i dk=gz a b n 0 d) (fun p _=>n - (intOf p).toNat)
 case atStart=>exact⟨0,d,by go_num,by omega,rfl,.start (c.holds h.blkLt h.holds rfl),rfl⟩
 case round=>
  obtain⟨i,dk,rfl,t,j,l,r⟩:=hrel;have HO:Hid (gz a b (n - i) i dk=gz a b n 0 d):=r;clear r;have c0:=l.cell' (v:=.func (.func g) #[] lb) (o:=0) k (by simp) (by simp);have c1:=l.cell' (v:=.func (.func sf) #[] sb) (o:=1) k (by simp) (by simp);have m:=h.on (c.trans' h.blkLt l j) j
  go_wp2
  ·have u:i<n:=by assumption
   have s:=m.swap wr dk m.holds rfl (a+i) (b+i) (by omega) (by omega);rw[show(((a+i:Nat):Int))=(a:Int)+i by omega,show(((b+i:Nat):Int))=(b:Int)+i by omega]at s;rw[s,Oper.upon_value]
   go_wp2
   go_roundw
   case rel=>
    refine⟨i+1,swp dk (a+i) (b+i),by congr 1<;>omega,by omega,by rw[size_swp]; exact j,l.swap (c.lt h.blkLt) (a+i) (b+i) (by omega) (by omega),?_⟩;rw[← HO.out,show n - i=(n - (i+1))+1 by omega]; rfl
   case measure=>simp[intOf]; omega
  ·have x:¬ i<n:=by assumption
   go_end0
   refine⟨rfl,c.trans' h.blkLt (w:=wr) (dk:=gz a b n 0 d) ?_ (by rw[xX])⟩;rw[← HO.out,show n - i=0 by omega];exact l
set_option maxHeartbeats 2000000 in
set_option maxRecDepth 100000 in
theorem Any.rotate_func (L:LaysGt.n15 P ρ) {d:Array α} {W:World} (h:SSt P enc lt g lb sf sb blk off d W) (a m b:Nat) (A:a<m) (B:m<b) (E:b<=d.size) :
  Calls P (ρ.f 42) #[lsD g lb sf sb,.int .i64 a,.int .i64 m,.int .i64 b] W fun e w'=>e=.returned (.tuple #[])/\SW enc W blk off (xV m (b - a) (m - a) (b - m) d) w':=by
 have mixed:=L.mixed; have t0:=L.t0; have a0:=L.a0; have z0:=L.z0; have v0:=L.v0; have t3:=L.t3; have a3:=L.a3; have z3:=L.z3; have v3:=L.v3; have t4:=L.t4; have a4:=L.a4; have z4:=L.z4; have v4:=L.v4; have t26:=L.t26; have a26:=L.a26; have z26:=L.z26; have v26:=L.v26; have t38:=L.t38; have a38:=L.a38; have z38:=L.z38; have v38:=L.v38; have t42:=L.t42; have a42:=L.a42; have z42:=L.z42; have v42:=L.v42; have t47:=L.t47; have a47:=L.a47; have z47:=L.z47; have v47:=L.v47;have u42:=kru L.t42;have e49:∀ args w,(callFunc (ρ.f 49) args).run P w=.ok (.enter (ρ.f 49) args) w:=enters_of L.f49 (by kernel_rfl) rfl;have r:W.heap.size≠blk:=by have:=h.blkLt; omega
 have x:=h.big;have c:SW enc W blk off d (Zr ρ g lb sf sb W):=h.box
 go_enter L.f42,BodyGt.n42_ntmps ρ
 go_wp2
 go_loopw [8,9] (fun t u wr=>∃ (f i j:Nat) (dk:Array α),t=.int .i64 i/\u=.int .i64 j/\1<=i/\1<=j/\i<=m/\m+j<=b/\i+j<=f/\dk.size=d.size/\SW enc (Zr ρ g lb sf sb W) blk off dk wr/\xV m f i j dk=xV m (b - a) (m - a) (b - m) d) (fun t u _=>(intOf t).toNat+(intOf u).toNat)
 case atStart=>exact⟨b - a,m - a,b - m,d,by go_num,by go_num,by omega,by omega,by omega,by omega,by omega,rfl,.start (c.holds h.blkLt h.holds rfl),rfl⟩
 case round=>
  obtain⟨f,i,j,dk,rfl,rfl,F,G,C,D,H,k,q,y⟩:=hrel;have HO:Hid (xV m f i j dk=xV m (b - a) (m - a) (b - m) d):=y;clear y;have c0:=q.cell' (v:=.func (.func g) #[] lb) (o:=0) r (by simp) (by simp);have c1:=q.cell' (v:=.func (.func sf) #[] sb) (o:=1) r (by simp) (by simp);have n:=h.on (c.trans' h.blkLt q k) k;obtain⟨s,rfl⟩:∃ s,f=s+1:=⟨f - 1,by omega⟩;by_cases p:i=j
  ·subst p
   have l:=Any.swapRange_func L n (m - i) m i (by omega) (by omega);rw[show(((m - i:Nat):Int))=(m:Int) - i by omega]at l
   go_wp2_with (go_at_fn (ρ.f 49); refine l.mono ?_; rintro e z ⟨rfl,h1⟩)
   go_end0
   refine⟨rfl,?_⟩;rw[← HO.out,Ru];exact c.trans' h.blkLt (q.trans' (c.lt h.blkLt) h1 (xX _ _ _ _ _)) (by rw[xX]; exact k)
  by_cases hgt:j<i
  ·have l:=Any.swapRange_func L n (m - i) m j (by omega) (by omega)
   rw[show(((m - i:Nat):Int))=(m:Int) - i by omega]at l
   go_wp2_with (go_at_fn (ρ.f 49); refine l.mono ?_; rintro e z ⟨rfl,h1⟩)
   go_roundw
   case rel=>
    refine⟨s,i - j,j,gz (m - i) m j 0 dk,by congr 1<;>omega,rfl,by omega,by omega,by omega,by omega,by omega,by rw[xX]; exact k,q.trans' (c.lt h.blkLt) h1 (xX _ _ _ _ _),?_⟩;rw[← HO.out];conv=>rhs; unfold xV;rw[if_neg p,if_pos hgt]
   case measure=>simp[intOf]; omega
  ·have l:=Any.swapRange_func L n (m - i) (m+j - i) i (by omega) (by omega)
   rw[show(((m - i:Nat):Int))=(m:Int) - i by omega,show(((m+j - i:Nat):Int))=(m:Int)+j - i by omega]at l
   go_wp2_with (go_at_fn (ρ.f 49); refine l.mono ?_; rintro e z ⟨rfl,h1⟩)
   go_roundw
   case rel=>
    refine⟨s,i,j - i,gz (m - i) (m+j - i) i 0 dk,rfl,by congr 1<;>omega,by omega,by omega,by omega,by omega,by omega,by rw[xX]; exact k,q.trans' (c.lt h.blkLt) h1 (xX _ _ _ _ _),?_⟩;rw[← HO.out];conv=>rhs; unfold xV;rw[if_neg p,if_neg hgt]
   case measure=>simp[intOf]; omega
end Go.Proofs
end
section
namespace Go.Proofs
open Go.Shelf Go.RowKit Go.Lib Go.Sort
def bsP (p:Nat->Bool):Nat->Nat->Nat->Nat
 | 0,i,_=>i
 | f+1,i,j=>if i<j then(if p ((i+j) / 2)=true then bsP p f ((i+j) / 2+1) j else bsP p f i ((i+j) / 2))else i
theorem Cg (p:Nat->Bool) (f i j:Nat) (h:¬ i<j):bsP p f i j=i:=by
 cases f with
 | zero=>rfl
 | succ f=>unfold bsP; rw[if_neg h]
theorem SP (p:Nat->Bool) (f i j:Nat) (h:i<j) (hp:p ((i+j) / 2)=true):bsP p (f+1) i j=bsP p f ((i+j) / 2+1) j:=by
 conv=>lhs; unfold bsP;rw[if_pos h,if_pos hp]
theorem SO (p:Nat->Bool) (f i j:Nat) (h:i<j) (hp:p ((i+j) / 2)=false):bsP p (f+1) i j=bsP p f i ((i+j) / 2):=by
 conv=>lhs; unfold bsP;rw[if_pos h,if_neg (by rw[hp]; exact Bool.false_ne_true)]
section
variable {α:Type} [Inhabited α]
def upP:Nat->Nat->Array α->Array α
 | 0,_,d=>d
 | c+1,k,d=>upP c (k+1) (swp d k (k+1))
def dnP:Nat->Nat->Array α->Array α
 | 0,_,d=>d
 | c+1,k,d=>dnP c (k - 1) (swp d k (k - 1))
theorem SF:∀ (c k:Nat) (d:Array α),(upP c k d).size=d.size
 | 0,_,_=>rfl
 | c+1,k,d=>by unfold upP; rw[SF c,size_swp]
theorem RQ:∀ (c k:Nat) (d:Array α),(dnP c k d).size=d.size
 | 0,_,_=>rfl
 | c+1,k,d=>by unfold dnP; rw[RQ c,size_swp]
def zQ (lt:α->α->Bool) (a m b:Nat) (d:Array α):Nat:=
 bsP (fun c=>!lt d[(a+b) / 2+m - 1 - c]! d[c]!) b (if(a+b) / 2<m then(a+b) / 2+m - b else a) (if(a+b) / 2<m then(a+b) / 2 else m)
def dD (m s e:Nat) (d:Array α):Array α:=if s<m/\m<e then xV m (e - s) (m - s) (e - m) d else d
def mS (lt:α->α->Bool):Nat->Nat->Nat->Nat->Array α->Array α
 | 0,_,_,_,d=>d
 | f+1,a,m,b,d=>
  if m - a=1 then upP (bsP (fun h=>lt d[h]! d[a]!) b m b - 1 - a) a d
  else if b - m=1 then dnP (m - bsP (fun h=>!lt d[m]! d[h]!) b a m) m d
  else
   let s:=zQ lt a m b d
   let e:=(a+b) / 2+m - s
   let d1:=dD m s e d
   let d2:=if a<s/\s<(a+b) / 2 then mS lt f a s ((a+b) / 2) d1 else d1
   if(a+b) / 2<e/\e<b then mS lt f ((a+b) / 2) e b d2 else d2
theorem Zy (m s e:Nat) (d:Array α):(dD m s e d).size=d.size:=by
 unfold dD;split
 ·exact zP _ _ _ _ _
 rfl
theorem zb (lt:α->α->Bool):∀ (f a m b:Nat) (d:Array α),(mS lt f a m b d).size=d.size
 | 0,_,_,_,_=>rfl
 | f+1,a,m,b,d=>by
  unfold mS;split
  ·exact SF _ _ _
  split
  ·exact RQ _ _ _
  simp only;split
  ·rw[zb lt f]
   split
   ·rw[zb lt f,Zy]
   exact Zy _ _ _ _
  split
  ·rw[zb lt f,Zy]
  exact Zy _ _ _ _
end
end Go.Proofs
end
section
namespace Go.Proofs
open Go.Shelf Go.RowKit Go.Lib Go.Sort
variable {P:Program} {ρ:Ren} {α:Type} [Inhabited α] {enc:α->Value} {lt:α->α->Bool} {g:Nat} {lb:Array Value} {sf:Nat} {sb:Array Value} {blk off:Nat}
set_option maxHeartbeats 4000000 in
set_option maxRecDepth 100000 in
theorem Any.symMerge_c1 (L:LaysGt.n15 P ρ) (F:Nat) {d:Array α} {W:World} (h:SSt P enc lt g lb sf sb blk off d W) (a m b:Nat) (Y:b - a<=F+1) (O:a<m) (Q:m<b) (Z:b<=d.size) (h1:m - a=1) :
  Calls P (ρ.f 30) #[lsD g lb sf sb,.int .i64 a,.int .i64 m,.int .i64 b] W fun e w'=>e=.returned (.tuple #[])/\SW enc W blk off (mS lt (F+1) a m b d) w':=by
 have mixed:=L.mixed; have t0:=L.t0; have a0:=L.a0; have z0:=L.z0; have v0:=L.v0; have t3:=L.t3; have a3:=L.a3; have z3:=L.z3; have v3:=L.v3; have t4:=L.t4; have a4:=L.a4; have z4:=L.z4; have v4:=L.v4; have t26:=L.t26; have a26:=L.a26; have z26:=L.z26; have v26:=L.v26; have t38:=L.t38; have a38:=L.a38; have z38:=L.z38; have v38:=L.v38; have t42:=L.t42; have a42:=L.a42; have z42:=L.z42; have v42:=L.v42; have t47:=L.t47; have a47:=L.a47; have z47:=L.z47; have v47:=L.v47;have u42:=kru L.t42;have e42:∀ args w,(callFunc (ρ.f 42) args).run P w=.ok (.enter (ρ.f 42) args) w:=enters_of L.f42 (by kernel_rfl) rfl;have e30:∀ args w,(callFunc (ρ.f 30) args).run P w=.ok (.enter (ρ.f 30) args) w:=enters_of L.f30 (by kernel_rfl) rfl;have eg:=h.eg;have p:W.heap.size≠blk:=by have:=h.blkLt; omega
 have J:=h.big;have l:SW enc W blk off d (Zr ρ g lb sf sb W):=h.box
 go_enter L.f30,BodyGt.n30_ntmps ρ
 have y:(m:Int) - a=1:=by omega
 go_wp2
 have H1:Hid _:=y;clear y
 go_loopw [8,9] (fun B C wr=>∃ (f i j:Nat),B=.int .i64 i/\C=.int .i64 j/\m<=i/\i<=j/\j<=b/\j - i<=f/\SW enc (Zr ρ g lb sf sb W) blk off d wr/\bsP (fun h=>lt d[h]! d[a]!) f i j=bsP (fun h=>lt d[h]! d[a]!) b m b) (fun B C _=>(intOf C).toNat - (intOf B).toNat)
 case atStart=>exact⟨b,m,b,by go_num,by go_num,by omega,by omega,by omega,by omega,.start (l.holds h.blkLt h.holds rfl),rfl⟩
 case round=>
  obtain⟨f,i,j,rfl,rfl,R,S,T,hf,x,K⟩:=hrel;have HO:Hid (bsP (fun h=>lt d[h]! d[a]!) f i j=bsP (fun h=>lt d[h]! d[a]!) b m b):=K
  clear K;have c0:=x.cell' (v:=.func (.func g) #[] lb) (o:=0) p (by simp) (by simp);have c1:=x.cell' (v:=.func (.func sf) #[] sb) (o:=1) p (by simp) (by simp);have D:=h.on (l.trans' h.blkLt x rfl) rfl;by_cases u:i<j
  ·obtain⟨A,rfl⟩:∃ A,f=A+1:=⟨f - 1,by omega⟩
   have hl:=D.lessAt ((i+j) / 2) (a) (by omega) (by omega);rw[show((((i+j) / 2:Nat)):Int)=((i:Int)+j) / 2 by omega]at hl;cases r:lt d[(i+j) / 2]! d[a]! with
   | true=>
    rw[r]at hl
    go_wp2_with (go_at_fn g; refine hl.mono ?_; rintro e w' ⟨rfl,q,rfl⟩)
    go_roundw
    case rel=>
     skip
     exact⟨A,(i+j) / 2+1,j,by congr 1<;>omega,rfl,by omega,by omega,by omega,by omega,x.drewN q,by rw[← HO.out,SP _ _ _ _ u (by simp[r])]⟩
    case measure=>simp[intOf]; omega
   | false=>
    rw[r]at hl
    go_wp2_with (go_at_fn g; refine hl.mono ?_; rintro e w' ⟨rfl,q,rfl⟩)
    go_roundw
    case rel=>
     skip
     exact⟨A,i,(i+j) / 2,rfl,by congr 1<;>omega,by omega,by omega,by omega,by omega,x.drewN q,by rw[← HO.out,SO _ _ _ _ u (by simp[r])]⟩
    case measure=>simp[intOf]; omega
  ·have E:=HO.out
   rw[Cg _ _ _ _ u]at E;have HI:Hid _:=E;clear HO E
   go_wp2
   go_loopw [11] (fun G U=>∃ (c k:Nat) (dk:Array α),G=.int .i64 k/\a<=k/\k+c<=i - 1/\i - 1<=k+c/\dk.size=d.size/\SW enc (Zr ρ g lb sf sb W) blk off dk U/\upP c k dk=upP (i - 1 - a) a d) (fun G _=>i - (intOf G).toNat)
   case atStart=>exact⟨i - 1 - a,a,d,by go_num,by omega,by omega,by omega,rfl,x,rfl⟩
   case round=>
    obtain⟨c,k,dk,rfl,V,X,M,s,n,z⟩:=hrel;have HO2:Hid (upP c k dk=upP (i - 1 - a) a d):=z;clear z;have c0:=n.cell' (v:=.func (.func g) #[] lb) (o:=0) p (by simp) (by simp);have c1:=n.cell' (v:=.func (.func sf) #[] sb) (o:=1) p (by simp) (by simp);have t:=h.on (l.trans' h.blkLt n s) s;by_cases hk:k<i - 1
    ·obtain⟨H,rfl⟩:∃ H,c=H+1:=⟨c - 1,by omega⟩
     have I:(k:Int)<(i:Int) - 1:=by omega
     go_wp2
     have N:=t.swap _ dk t.holds rfl k (k+1) (by omega) (by omega);rw[show(((k+1:Nat):Int))=(k:Int)+1 by omega]at N;rw[N,Oper.upon_value]
     go_wp2
     go_roundw
     case rel=>
      refine⟨H,k+1,swp dk k (k+1),by congr 1<;>omega,by omega,by omega,by omega,by rw[size_swp]; exact s,n.swap (l.lt h.blkLt) k (k+1) (by omega) (by omega),?_⟩;rw[← HO2.out]; rfl
     case measure=>simp[intOf]; omega
    ·have I:¬ (k:Int)<(i:Int) - 1:=by omega
     go_wp2
     (try simp only[Exit.inBlock,Exit.then]); refine bodyPost_ret (results_none rfl _ _ _) rfl ?_
     refine⟨rfl,?_⟩;have:c=0:=by omega
     subst this;have e:=HO2.out;unfold mS;rw[if_pos h1,← HI.out,← e];exact l.trans' h.blkLt n s
end Go.Proofs
end
section
namespace Go.Proofs
open Go.Shelf Go.RowKit Go.Lib Go.Sort
variable {P:Program} {ρ:Ren} {α:Type} [Inhabited α] {enc:α->Value} {lt:α->α->Bool} {g:Nat} {lb:Array Value} {sf:Nat} {sb:Array Value} {blk off:Nat}
set_option maxHeartbeats 4000000 in
set_option maxRecDepth 100000 in
theorem Any.symMerge_c2 (L:LaysGt.n15 P ρ) (F:Nat) {d:Array α} {W:World} (h:SSt P enc lt g lb sf sb blk off d W) (a m b:Nat) (Z:b - a<=F+1) (O:a<m) (Q:m<b) (hb:b<=d.size) (h1:¬ m - a=1) (h2:b - m=1) :
  Calls P (ρ.f 30) #[lsD g lb sf sb,.int .i64 a,.int .i64 m,.int .i64 b] W fun e w'=>e=.returned (.tuple #[])/\SW enc W blk off (mS lt (F+1) a m b d) w':=by
 have mixed:=L.mixed; have t0:=L.t0; have a0:=L.a0; have z0:=L.z0; have v0:=L.v0; have t3:=L.t3; have a3:=L.a3; have z3:=L.z3; have v3:=L.v3; have t4:=L.t4; have a4:=L.a4; have z4:=L.z4; have v4:=L.v4; have t26:=L.t26; have a26:=L.a26; have z26:=L.z26; have v26:=L.v26; have t38:=L.t38; have a38:=L.a38; have z38:=L.z38; have v38:=L.v38; have t42:=L.t42; have a42:=L.a42; have z42:=L.z42; have v42:=L.v42; have t47:=L.t47; have a47:=L.a47; have z47:=L.z47; have v47:=L.v47;have u42:=kru L.t42;have e42:∀ args w,(callFunc (ρ.f 42) args).run P w=.ok (.enter (ρ.f 42) args) w:=enters_of L.f42 (by kernel_rfl) rfl;have e30:∀ args w,(callFunc (ρ.f 30) args).run P w=.ok (.enter (ρ.f 30) args) w:=enters_of L.f30 (by kernel_rfl) rfl;have eg:=h.eg;have p:W.heap.size≠blk:=by have:=h.blkLt; omega
 have J:=h.big;have l:SW enc W blk off d (Zr ρ g lb sf sb W):=h.box
 go_enter L.f30,BodyGt.n30_ntmps ρ
 have R:¬ (m:Int) - a=1:=by omega
 have z:(b:Int) - m=1:=by omega
 go_wp2
 have u:((m:Int) - a==1)=false:=by simp; omega
 have H2:Hid _:=z;clear z
 go_loopw [12,13] (fun C D wr=>∃ (f i j:Nat),C=.int .i64 i/\D=.int .i64 j/\a<=i/\i<=j/\j<=m/\j - i<=f/\SW enc (Zr ρ g lb sf sb W) blk off d wr/\bsP (fun h=>!lt d[m]! d[h]!) f i j=bsP (fun h=>!lt d[m]! d[h]!) b a m) (fun C D _=>(intOf D).toNat - (intOf C).toNat)
 case atStart=>exact⟨b,a,m,by go_num,by go_num,by omega,by omega,by omega,by omega,.start (l.holds h.blkLt h.holds rfl),rfl⟩
 case round=>
  obtain⟨f,i,j,rfl,rfl,S,T,U,hf,y,K⟩:=hrel;have HO:Hid (bsP (fun h=>!lt d[m]! d[h]!) f i j=bsP (fun h=>!lt d[m]! d[h]!) b a m):=K;clear K;have c0:=y.cell' (v:=.func (.func g) #[] lb) (o:=0) p (by simp) (by simp);have c1:=y.cell' (v:=.func (.func sf) #[] sb) (o:=1) p (by simp) (by simp);have E:=h.on (l.trans' h.blkLt y rfl) rfl;by_cases x:i<j
  ·obtain⟨B,rfl⟩:∃ B,f=B+1:=⟨f - 1,by omega⟩
   have hl:=E.lessAt (m) ((i+j) / 2) (by omega) (by omega);rw[show((((i+j) / 2:Nat)):Int)=((i:Int)+j) / 2 by omega]at hl;cases r:lt d[m]! d[(i+j) / 2]! with
   | false=>
    rw[r]at hl
    go_wp2_with (go_at_fn g; refine hl.mono ?_; rintro e w' ⟨rfl,q,rfl⟩)
    go_roundw
    case rel=>
     (repeat apply Exists.intro)
     exact⟨⟨B,(i+j) / 2+1,j,by congr 1<;>omega,rfl,by omega,by omega,by omega,by omega,y.drewN q,by rw[← HO.out,SP _ _ _ _ x (by simp[r])]⟩,by(rw[u])<;>rfl⟩
    case measure=>simp[intOf]; omega
   | true=>
    rw[r]at hl
    go_wp2_with (go_at_fn g; refine hl.mono ?_; rintro e w' ⟨rfl,q,rfl⟩)
    go_roundw
    case rel=>
     (repeat apply Exists.intro)
     exact⟨⟨B,i,(i+j) / 2,rfl,by congr 1<;>omega,by omega,by omega,by omega,by omega,y.drewN q,by rw[← HO.out,SO _ _ _ _ x (by simp[r])]⟩,by(rw[u])<;>rfl⟩
    case measure=>simp[intOf]; omega
  ·have G:=HO.out
   rw[Cg _ _ _ _ x]at G;have HI:Hid _:=G;clear HO G
   go_wp2
   go_loopw [15] (fun H V=>∃ (c k:Nat) (dk:Array α),H=.int .i64 k/\k<=m/\k<=i+c/\i+c<=k/\dk.size=d.size/\SW enc (Zr ρ g lb sf sb W) blk off dk V/\dnP c k dk=dnP (m - i) m d) (fun H _=>(intOf H).toNat)
   case atStart=>exact⟨m - i,m,d,by go_num,by omega,by omega,by omega,rfl,y,rfl⟩
   case round=>
    obtain⟨c,k,dk,rfl,X,Y,M,s,n,A⟩:=hrel;have HO2:Hid (dnP c k dk=dnP (m - i) m d):=A;clear A;have c0:=n.cell' (v:=.func (.func g) #[] lb) (o:=0) p (by simp) (by simp);have c1:=n.cell' (v:=.func (.func sf) #[] sb) (o:=1) p (by simp) (by simp);have t:=h.on (l.trans' h.blkLt n s) s;by_cases hk:i<k
    ·obtain⟨I,rfl⟩:∃ I,c=I+1:=⟨c - 1,by omega⟩
     go_wp2
     have N:=t.swap _ dk t.holds rfl k (k - 1) (by omega) (by omega);rw[show(((k - 1:Nat):Int))=(k:Int) - 1 by omega]at N;rw[N,Oper.upon_value]
     go_wp2
     go_roundw
     case rel=>
      (repeat apply Exists.intro)
      exact⟨⟨I,k - 1,swp dk k (k - 1),by congr 1<;>omega,by omega,by omega,by omega,by rw[size_swp]; exact s,n.swap (l.lt h.blkLt) k (k - 1) (by omega) (by omega),by rw[← HO2.out]; rfl⟩,by(rw[u,show(((k - 1:Nat)):Int)=(k:Int) - 1 by omega])<;>rfl⟩
     case measure=>simp[intOf]; omega
    ·go_wp2
     (try simp only[Exit.inBlock,Exit.then]); refine bodyPost_ret (results_none rfl _ _ _) rfl ?_
     refine⟨rfl,?_⟩;have:c=0:=by omega
     subst this;have e:=HO2.out;unfold mS;rw[if_neg h1,if_pos h2,← HI.out,← e];exact l.trans' h.blkLt n s
end Go.Proofs
end
section
namespace Go.Proofs
open Go.Shelf Go.RowKit Go.Lib Go.Sort
variable {P:Program} {ρ:Ren} {α:Type} [Inhabited α] {enc:α->Value} {lt:α->α->Bool} {g:Nat} {lb:Array Value} {sf:Nat} {sb:Array Value} {blk off:Nat}
set_option maxHeartbeats 4000000 in
set_option maxRecDepth 100000 in
theorem Any.symMerge_c3 (L:LaysGt.n15 P ρ) (F:Nat) {d:Array α} {W:World} (h:SSt P enc lt g lb sf sb blk off d W) (a m b:Nat) (hF:b - a<=F+1) (ham:a<m) (hmb:m<b) (hb:b<=d.size) (h1:¬ m - a=1) (h2:¬ b - m=1) (hm:(a+b) / 2<m) (z:∀ {d:Array α} {W:World},SSt P enc lt g lb sf sb blk off d W->∀ a m b:Nat,b - a<=F->a<m->m<b->b<=d.size->Calls P (ρ.f 30) #[lsD g lb sf sb,.int .i64 a,.int .i64 m,.int .i64 b] W fun e w'=>e=.returned (.tuple #[])/\SW enc W blk off (mS lt F a m b d) w') :
  Calls P (ρ.f 30) #[lsD g lb sf sb,.int .i64 a,.int .i64 m,.int .i64 b] W fun e w'=>e=.returned (.tuple #[])/\SW enc W blk off (mS lt (F+1) a m b d) w':=by
 have mixed:=L.mixed; have t0:=L.t0; have a0:=L.a0; have z0:=L.z0; have v0:=L.v0; have t3:=L.t3; have a3:=L.a3; have z3:=L.z3; have v3:=L.v3; have t4:=L.t4; have a4:=L.a4; have z4:=L.z4; have v4:=L.v4; have t26:=L.t26; have a26:=L.a26; have z26:=L.z26; have v26:=L.v26; have t38:=L.t38; have a38:=L.a38; have z38:=L.z38; have v38:=L.v38; have t42:=L.t42; have a42:=L.a42; have z42:=L.z42; have v42:=L.v42; have t47:=L.t47; have a47:=L.a47; have z47:=L.z47; have v47:=L.v47;have u42:=kru L.t42;have e42:∀ args w,(callFunc (ρ.f 42) args).run P w=.ok (.enter (ρ.f 42) args) w:=enters_of L.f42 (by kernel_rfl) rfl;have e30:∀ args w,(callFunc (ρ.f 30) args).run P w=.ok (.enter (ρ.f 30) args) w:=enters_of L.f30 (by kernel_rfl) rfl;have eg:=h.eg;have n:W.heap.size≠blk:=by have:=h.blkLt; omega
 have hbig:=h.big;have l:SW enc W blk off d (Zr ρ g lb sf sb W):=h.box
 go_enter L.f30,BodyGt.n30_ntmps ρ
 have X:¬ (m:Int) - a=1:=by omega
 have Y:¬ (b:Int) - m=1:=by omega
 have Z:((m:Int) - a==1)=false:=by simp; omega
 have hb2:((b:Int) - m==1)=false:=by simp; omega
 have hm':((a:Int)+b) / 2<m:=by omega
 go_wp2
 have H1:Hid _:=X;have H2:Hid _:=Y;have HM:Hid _:=hm';clear X Y hm'
 go_loopw [18,19] (fun vi vj wr=>∃ (f i j:Nat),vi=.int .i64 i/\vj=.int .i64 j/\(a+b) / 2+m - b<=i/\i<=j/\j<=(a+b) / 2/\j - i<=f/\SW enc (Zr ρ g lb sf sb W) blk off d wr/\bsP (fun c=>!lt d[(a+b) / 2+m - 1 - c]! d[c]!) f i j=bsP (fun c=>!lt d[(a+b) / 2+m - 1 - c]! d[c]!) b ((a+b) / 2+m - b) ((a+b) / 2)) (fun vi vj _=>(intOf vj).toNat - (intOf vi).toNat)
 case atStart=>exact⟨b,(a+b) / 2+m - b,(a+b) / 2,by congr 1<;>omega,by congr 1<;>omega,by omega,by omega,by omega,by omega,.start (l.holds h.blkLt h.holds rfl),rfl⟩
 case round=>
  obtain⟨f,i,j,rfl,rfl,hmi,hij,hjb,hf,Q,hO⟩:=hrel;have HO:Hid (bsP (fun c=>!lt d[(a+b) / 2+m - 1 - c]! d[c]!) f i j=bsP (fun c=>!lt d[(a+b) / 2+m - 1 - c]! d[c]!) b ((a+b) / 2+m - b) ((a+b) / 2)):=hO;clear hO;have c0:=Q.cell' (v:=.func (.func g) #[] lb) (o:=0) n (by simp) (by simp);have c1:=Q.cell' (v:=.func (.func sf) #[] sb) (o:=1) n (by simp) (by simp);have J:=h.on (l.trans' h.blkLt Q rfl) rfl;by_cases K:i<j
  ·obtain⟨T,rfl⟩:∃ T,f=T+1:=⟨f - 1,by omega⟩
   have hl:=J.lessAt ((a+b) / 2+m - 1 - (i+j) / 2) ((i+j) / 2) (by omega) (by omega);rw[show((((a+b) / 2+m - 1 - (i+j) / 2:Nat)):Int)=((a:Int)+b) / 2+m - 1 - ((i:Int)+j) / 2 by omega,show((((i+j) / 2:Nat)):Int)=((i:Int)+j) / 2 by omega]at hl;cases I:lt d[(a+b) / 2+m - 1 - (i+j) / 2]! d[(i+j) / 2]! with
   | false=>
    rw[I]at hl
    go_wp2_with (go_at_fn g; refine hl.mono ?_; rintro e w' ⟨rfl,q,rfl⟩)
    go_roundw
    case rel=>
     first|exact⟨T,(i+j) / 2+1,j,by congr 1<;>omega,rfl,by omega,by omega,by omega,by omega,Q.drewN q,by rw[← HO.out,SP _ _ _ _ K (by simp[I])]⟩|((repeat apply Exists.intro); exact⟨⟨T,(i+j) / 2+1,j,by congr 1<;>omega,rfl,by omega,by omega,by omega,by omega,Q.drewN q,by rw[← HO.out,SP _ _ _ _ K (by simp[I])]⟩,by(rw[Z,hb2])<;>rfl⟩)|trace_state
    case measure=>simp[intOf]; omega
   | true=>
    rw[I]at hl
    go_wp2_with (go_at_fn g; refine hl.mono ?_; rintro e w' ⟨rfl,q,rfl⟩)
    go_roundw
    case rel=>
     first|exact⟨T,i,(i+j) / 2,rfl,by congr 1<;>omega,by omega,by omega,by omega,by omega,Q.drewN q,by rw[← HO.out,SO _ _ _ _ K (by simp[I])]⟩|((repeat apply Exists.intro); exact⟨⟨T,i,(i+j) / 2,rfl,by congr 1<;>omega,by omega,by omega,by omega,by omega,Q.drewN q,by rw[← HO.out,SO _ _ _ _ K (by simp[I])]⟩,by(rw[Z,hb2])<;>rfl⟩)|trace_state
    case measure=>simp[intOf]; omega
  ·have hI:=HO.out
   rw[Cg _ _ _ _ K]at hI;have HI:Hid _:=hI;clear HO hI;have hec:((a:Int)+b) / 2+m - i=((((a+b) / 2+m - i):Nat):Int):=by omega
   have R:((a:Int)+b) / 2=((((a+b) / 2):Nat):Int):=by omega
   have HMID:Hid _:=R;clear R;have u:=Q;by_cases hr:i<m/\m<((a+b) / 2+m - i)
   ·obtain⟨A,B⟩:=hr
    by_cases ha:a<i/\i<((a+b) / 2)
    ·obtain⟨M,N⟩:=ha
     by_cases O:((a+b) / 2)<((a+b) / 2+m - i)/\((a+b) / 2+m - i)<b
     ·obtain⟨D,E⟩:=O
      have r:=Any.rotate_func L J i m ((a+b) / 2+m - i) A B (by omega)
      go_wp2_with (go_at_fn (ρ.f 42); refine r.mono ?_; rintro U V ⟨rfl,t⟩; have k:=u.trans' (l.lt h.blkLt) t (zP _ _ _ _ _); have c1a:=k.cell' (v:=.func (.func g) #[] lb) (o:=0) n (by simp) (by simp); have c1b:=k.cell' (v:=.func (.func sf) #[] sb) (o:=1) n (by simp) (by simp))
      all_goals
       have z1:(xV m (((a+b) / 2+m - i) - i) (m - i) (((a+b) / 2+m - i) - m) d).size=d.size:=zP _ _ _ _ _;have x:=h.on (l.trans' h.blkLt k z1) z1;have y:=z x (a) (i) (((a+b) / 2)) (by omega) (by omega) (by omega) (by have:=z1; omega);rw[← HMID.out]at y
       go_wp2_with (go_at_fn (ρ.f 30); refine y.mono ?_; rintro e2 w2 ⟨rfl,G⟩; have s:=k.trans' (l.lt h.blkLt) G (zb _ _ _ _ _ _); have c2a:=s.cell' (v:=.func (.func g) #[] lb) (o:=0) n (by simp) (by simp); have c2b:=s.cell' (v:=.func (.func sf) #[] sb) (o:=1) n (by simp) (by simp))
       all_goals
        have z2:(mS lt F a i ((a+b) / 2) (xV m (((a+b) / 2+m - i) - i) (m - i) (((a+b) / 2+m - i) - m) d)).size=d.size:=(zb _ _ _ _ _ _).trans z1;have hst3:=h.on (l.trans' h.blkLt s z2) z2;have hc3:=z hst3 (((a+b) / 2)) (((a+b) / 2+m - i)) (b) (by omega) (by omega) (by omega) (by have:=z2; omega);rw[← HMID.out]at hc3
        go_wp2_with (go_at_fn (ρ.f 30); refine hc3.mono ?_; rintro e3 w3 ⟨rfl,hw3⟩; have S:=s.trans' (l.lt h.blkLt) hw3 (zb _ _ _ _ _ _); have c3a:=S.cell' (v:=.func (.func g) #[] lb) (o:=0) n (by simp) (by simp); have c3b:=S.cell' (v:=.func (.func sf) #[] sb) (o:=1) n (by simp) (by simp))
        all_goals
         have z3:(mS lt F ((a+b) / 2) ((a+b) / 2+m - i) b (mS lt F a i ((a+b) / 2) (xV m (((a+b) / 2+m - i) - i) (m - i) (((a+b) / 2+m - i) - m) d))).size=d.size:=(zb _ _ _ _ _ _).trans z2
         go_end0
         refine⟨rfl,?_⟩;have p:=l.trans' h.blkLt S z3;have H:zQ lt a m b d=i:=by unfold zQ; rw[if_pos hm,if_pos hm]; exact HI.out.symm
         unfold mS dD;simp only[if_neg h1,if_neg h2,H];rw[if_pos (And.intro A B),if_pos (And.intro M N),if_pos (And.intro D E)]
         first|done|exact p
     ·skip
      have r:=Any.rotate_func L J i m ((a+b) / 2+m - i) A B (by omega)
      go_wp2_with (go_at_fn (ρ.f 42); refine r.mono ?_; rintro U V ⟨rfl,t⟩; have k:=u.trans' (l.lt h.blkLt) t (zP _ _ _ _ _); have c1a:=k.cell' (v:=.func (.func g) #[] lb) (o:=0) n (by simp) (by simp); have c1b:=k.cell' (v:=.func (.func sf) #[] sb) (o:=1) n (by simp) (by simp))
      all_goals
       have z1:(xV m (((a+b) / 2+m - i) - i) (m - i) (((a+b) / 2+m - i) - m) d).size=d.size:=zP _ _ _ _ _;have x:=h.on (l.trans' h.blkLt k z1) z1;have y:=z x (a) (i) (((a+b) / 2)) (by omega) (by omega) (by omega) (by have:=z1; omega);rw[← HMID.out]at y
       go_wp2_with (go_at_fn (ρ.f 30); refine y.mono ?_; rintro e2 w2 ⟨rfl,G⟩; have s:=k.trans' (l.lt h.blkLt) G (zb _ _ _ _ _ _); have c2a:=s.cell' (v:=.func (.func g) #[] lb) (o:=0) n (by simp) (by simp); have c2b:=s.cell' (v:=.func (.func sf) #[] sb) (o:=1) n (by simp) (by simp))
       all_goals
        have z2:(mS lt F a i ((a+b) / 2) (xV m (((a+b) / 2+m - i) - i) (m - i) (((a+b) / 2+m - i) - m) d)).size=d.size:=(zb _ _ _ _ _ _).trans z1
        go_end0
        refine⟨rfl,?_⟩;have p:=l.trans' h.blkLt s z2;have H:zQ lt a m b d=i:=by unfold zQ; rw[if_pos hm,if_pos hm]; exact HI.out.symm
        unfold mS dD;simp only[if_neg h1,if_neg h2,H];rw[if_pos (And.intro A B),if_pos (And.intro M N),if_neg O]
        first|done|exact p
    ·skip
     by_cases O:((a+b) / 2)<((a+b) / 2+m - i)/\((a+b) / 2+m - i)<b
     ·obtain⟨D,E⟩:=O
      have r:=Any.rotate_func L J i m ((a+b) / 2+m - i) A B (by omega)
      go_wp2_with (go_at_fn (ρ.f 42); refine r.mono ?_; rintro U V ⟨rfl,t⟩; have k:=u.trans' (l.lt h.blkLt) t (zP _ _ _ _ _); have c1a:=k.cell' (v:=.func (.func g) #[] lb) (o:=0) n (by simp) (by simp); have c1b:=k.cell' (v:=.func (.func sf) #[] sb) (o:=1) n (by simp) (by simp))
      all_goals
       have z1:(xV m (((a+b) / 2+m - i) - i) (m - i) (((a+b) / 2+m - i) - m) d).size=d.size:=zP _ _ _ _ _;have x:=h.on (l.trans' h.blkLt k z1) z1;have y:=z x (((a+b) / 2)) (((a+b) / 2+m - i)) (b) (by omega) (by omega) (by omega) (by have:=z1; omega);rw[← HMID.out]at y
       go_wp2_with (go_at_fn (ρ.f 30); refine y.mono ?_; rintro e2 w2 ⟨rfl,G⟩; have s:=k.trans' (l.lt h.blkLt) G (zb _ _ _ _ _ _); have c2a:=s.cell' (v:=.func (.func g) #[] lb) (o:=0) n (by simp) (by simp); have c2b:=s.cell' (v:=.func (.func sf) #[] sb) (o:=1) n (by simp) (by simp))
       all_goals
        have z2:(mS lt F ((a+b) / 2) ((a+b) / 2+m - i) b (xV m (((a+b) / 2+m - i) - i) (m - i) (((a+b) / 2+m - i) - m) d)).size=d.size:=(zb _ _ _ _ _ _).trans z1
        go_end0
        refine⟨rfl,?_⟩;have p:=l.trans' h.blkLt s z2;have H:zQ lt a m b d=i:=by unfold zQ; rw[if_pos hm,if_pos hm]; exact HI.out.symm
        unfold mS dD;simp only[if_neg h1,if_neg h2,H];rw[if_pos (And.intro A B),if_neg ha,if_pos (And.intro D E)]
        first|done|exact p
     ·skip
      have r:=Any.rotate_func L J i m ((a+b) / 2+m - i) A B (by omega)
      go_wp2_with (go_at_fn (ρ.f 42); refine r.mono ?_; rintro U V ⟨rfl,t⟩; have k:=u.trans' (l.lt h.blkLt) t (zP _ _ _ _ _); have c1a:=k.cell' (v:=.func (.func g) #[] lb) (o:=0) n (by simp) (by simp); have c1b:=k.cell' (v:=.func (.func sf) #[] sb) (o:=1) n (by simp) (by simp))
      all_goals
       have z1:(xV m (((a+b) / 2+m - i) - i) (m - i) (((a+b) / 2+m - i) - m) d).size=d.size:=zP _ _ _ _ _
       go_end0
       refine⟨rfl,?_⟩;have p:=l.trans' h.blkLt k z1;have H:zQ lt a m b d=i:=by unfold zQ; rw[if_pos hm,if_pos hm]; exact HI.out.symm
       unfold mS dD;simp only[if_neg h1,if_neg h2,H];rw[if_pos (And.intro A B),if_neg ha,if_neg O]
       first|done|exact p
   ·skip
    by_cases ha:a<i/\i<((a+b) / 2)
    ·obtain⟨M,N⟩:=ha
     by_cases O:((a+b) / 2)<((a+b) / 2+m - i)/\((a+b) / 2+m - i)<b
     ·obtain⟨D,E⟩:=O
      have C:=h.on (l.trans' h.blkLt u (rfl:d.size=d.size)) (rfl:d.size=d.size);have r:=z C (a) (i) (((a+b) / 2)) (by omega) (by omega) (by omega) (by have:=(rfl:d.size=d.size); omega);rw[← HMID.out]at r
      go_wp2_with (go_at_fn (ρ.f 30); refine r.mono ?_; rintro U V ⟨rfl,t⟩; have k:=u.trans' (l.lt h.blkLt) t (zb _ _ _ _ _ _); have c1a:=k.cell' (v:=.func (.func g) #[] lb) (o:=0) n (by simp) (by simp); have c1b:=k.cell' (v:=.func (.func sf) #[] sb) (o:=1) n (by simp) (by simp))
      all_goals
       have z1:(mS lt F a i ((a+b) / 2) d).size=d.size:=(zb _ _ _ _ _ _).trans (rfl:d.size=d.size);have x:=h.on (l.trans' h.blkLt k z1) z1;have y:=z x (((a+b) / 2)) (((a+b) / 2+m - i)) (b) (by omega) (by omega) (by omega) (by have:=z1; omega);rw[← HMID.out]at y
       go_wp2_with (go_at_fn (ρ.f 30); refine y.mono ?_; rintro e2 w2 ⟨rfl,G⟩; have s:=k.trans' (l.lt h.blkLt) G (zb _ _ _ _ _ _); have c2a:=s.cell' (v:=.func (.func g) #[] lb) (o:=0) n (by simp) (by simp); have c2b:=s.cell' (v:=.func (.func sf) #[] sb) (o:=1) n (by simp) (by simp))
       all_goals
        have z2:(mS lt F ((a+b) / 2) ((a+b) / 2+m - i) b (mS lt F a i ((a+b) / 2) d)).size=d.size:=(zb _ _ _ _ _ _).trans z1
        go_end0
        refine⟨rfl,?_⟩;have p:=l.trans' h.blkLt s z2;have H:zQ lt a m b d=i:=by unfold zQ; rw[if_pos hm,if_pos hm]; exact HI.out.symm
        unfold mS dD;simp only[if_neg h1,if_neg h2,H];rw[if_neg hr,if_pos (And.intro M N),if_pos (And.intro D E)]
        first|done|exact p
     ·skip
      have C:=h.on (l.trans' h.blkLt u (rfl:d.size=d.size)) (rfl:d.size=d.size);have r:=z C (a) (i) (((a+b) / 2)) (by omega) (by omega) (by omega) (by have:=(rfl:d.size=d.size); omega);rw[← HMID.out]at r
      go_wp2_with (go_at_fn (ρ.f 30); refine r.mono ?_; rintro U V ⟨rfl,t⟩; have k:=u.trans' (l.lt h.blkLt) t (zb _ _ _ _ _ _); have c1a:=k.cell' (v:=.func (.func g) #[] lb) (o:=0) n (by simp) (by simp); have c1b:=k.cell' (v:=.func (.func sf) #[] sb) (o:=1) n (by simp) (by simp))
      all_goals
       have z1:(mS lt F a i ((a+b) / 2) d).size=d.size:=(zb _ _ _ _ _ _).trans (rfl:d.size=d.size)
       go_end0
       refine⟨rfl,?_⟩;have p:=l.trans' h.blkLt k z1;have H:zQ lt a m b d=i:=by unfold zQ; rw[if_pos hm,if_pos hm]; exact HI.out.symm
       unfold mS dD;simp only[if_neg h1,if_neg h2,H];rw[if_neg hr,if_pos (And.intro M N),if_neg O]
       first|done|exact p
    ·skip
     by_cases O:((a+b) / 2)<((a+b) / 2+m - i)/\((a+b) / 2+m - i)<b
     ·obtain⟨D,E⟩:=O
      have C:=h.on (l.trans' h.blkLt u (rfl:d.size=d.size)) (rfl:d.size=d.size);have r:=z C (((a+b) / 2)) (((a+b) / 2+m - i)) (b) (by omega) (by omega) (by omega) (by have:=(rfl:d.size=d.size); omega);rw[← HMID.out]at r
      go_wp2_with (go_at_fn (ρ.f 30); refine r.mono ?_; rintro U V ⟨rfl,t⟩; have k:=u.trans' (l.lt h.blkLt) t (zb _ _ _ _ _ _); have c1a:=k.cell' (v:=.func (.func g) #[] lb) (o:=0) n (by simp) (by simp); have c1b:=k.cell' (v:=.func (.func sf) #[] sb) (o:=1) n (by simp) (by simp))
      all_goals
       have z1:(mS lt F ((a+b) / 2) ((a+b) / 2+m - i) b d).size=d.size:=(zb _ _ _ _ _ _).trans (rfl:d.size=d.size)
       go_end0
       refine⟨rfl,?_⟩;have p:=l.trans' h.blkLt k z1;have H:zQ lt a m b d=i:=by unfold zQ; rw[if_pos hm,if_pos hm]; exact HI.out.symm
       unfold mS dD;simp only[if_neg h1,if_neg h2,H];rw[if_neg hr,if_neg ha,if_pos (And.intro D E)]
       first|done|exact p
     ·skip
      go_wp2
      all_goals
       go_end0
       refine⟨rfl,?_⟩;have p:=l.trans' h.blkLt u (rfl:d.size=d.size);have H:zQ lt a m b d=i:=by unfold zQ; rw[if_pos hm,if_pos hm]; exact HI.out.symm
       unfold mS dD;simp only[if_neg h1,if_neg h2,H];rw[if_neg hr,if_neg ha,if_neg O]
       first|done|exact p
end Go.Proofs
end
section
namespace Go.Proofs
open Go.Shelf Go.RowKit Go.Lib Go.Sort
variable {P:Program} {ρ:Ren} {α:Type} [Inhabited α] {enc:α->Value} {lt:α->α->Bool} {g:Nat} {lb:Array Value} {sf:Nat} {sb:Array Value} {blk off:Nat}
set_option maxHeartbeats 4000000 in
set_option maxRecDepth 100000 in
theorem Any.symMerge_c4 (L:LaysGt.n15 P ρ) (F:Nat) {d:Array α} {W:World} (h:SSt P enc lt g lb sf sb blk off d W) (a m b:Nat) (hF:b - a<=F+1) (ham:a<m) (hmb:m<b) (hb:b<=d.size) (h1:¬ m - a=1) (h2:¬ b - m=1) (hm:¬ (a+b) / 2<m) (z:∀ {d:Array α} {W:World},SSt P enc lt g lb sf sb blk off d W->∀ a m b:Nat,b - a<=F->a<m->m<b->b<=d.size->Calls P (ρ.f 30) #[lsD g lb sf sb,.int .i64 a,.int .i64 m,.int .i64 b] W fun e w'=>e=.returned (.tuple #[])/\SW enc W blk off (mS lt F a m b d) w') :
  Calls P (ρ.f 30) #[lsD g lb sf sb,.int .i64 a,.int .i64 m,.int .i64 b] W fun e w'=>e=.returned (.tuple #[])/\SW enc W blk off (mS lt (F+1) a m b d) w':=by
 have mixed:=L.mixed; have t0:=L.t0; have a0:=L.a0; have z0:=L.z0; have v0:=L.v0; have t3:=L.t3; have a3:=L.a3; have z3:=L.z3; have v3:=L.v3; have t4:=L.t4; have a4:=L.a4; have z4:=L.z4; have v4:=L.v4; have t26:=L.t26; have a26:=L.a26; have z26:=L.z26; have v26:=L.v26; have t38:=L.t38; have a38:=L.a38; have z38:=L.z38; have v38:=L.v38; have t42:=L.t42; have a42:=L.a42; have z42:=L.z42; have v42:=L.v42; have t47:=L.t47; have a47:=L.a47; have z47:=L.z47; have v47:=L.v47;have u42:=kru L.t42;have e42:∀ args w,(callFunc (ρ.f 42) args).run P w=.ok (.enter (ρ.f 42) args) w:=enters_of L.f42 (by kernel_rfl) rfl;have e30:∀ args w,(callFunc (ρ.f 30) args).run P w=.ok (.enter (ρ.f 30) args) w:=enters_of L.f30 (by kernel_rfl) rfl;have eg:=h.eg;have n:W.heap.size≠blk:=by have:=h.blkLt; omega
 have hbig:=h.big;have l:SW enc W blk off d (Zr ρ g lb sf sb W):=h.box
 go_enter L.f30,BodyGt.n30_ntmps ρ
 have X:¬ (m:Int) - a=1:=by omega
 have Y:¬ (b:Int) - m=1:=by omega
 have Z:((m:Int) - a==1)=false:=by simp; omega
 have hb2:((b:Int) - m==1)=false:=by simp; omega
 have hm':¬ ((a:Int)+b) / 2<m:=by omega
 go_wp2
 have H1:Hid _:=X;have H2:Hid _:=Y;have HM:Hid _:=hm';clear X Y hm'
 go_loopw [18,19] (fun vi vj wr=>∃ (f i j:Nat),vi=.int .i64 i/\vj=.int .i64 j/\a<=i/\i<=j/\j<=m/\j - i<=f/\SW enc (Zr ρ g lb sf sb W) blk off d wr/\bsP (fun c=>!lt d[(a+b) / 2+m - 1 - c]! d[c]!) f i j=bsP (fun c=>!lt d[(a+b) / 2+m - 1 - c]! d[c]!) b (a) (m)) (fun vi vj _=>(intOf vj).toNat - (intOf vi).toNat)
 case atStart=>exact⟨b,a,m,by congr 1<;>omega,by congr 1<;>omega,by omega,by omega,by omega,by omega,.start (l.holds h.blkLt h.holds rfl),rfl⟩
 case round=>
  obtain⟨f,i,j,rfl,rfl,hmi,hij,hjb,hf,Q,hO⟩:=hrel;have HO:Hid (bsP (fun c=>!lt d[(a+b) / 2+m - 1 - c]! d[c]!) f i j=bsP (fun c=>!lt d[(a+b) / 2+m - 1 - c]! d[c]!) b (a) (m)):=hO;clear hO;have c0:=Q.cell' (v:=.func (.func g) #[] lb) (o:=0) n (by simp) (by simp);have c1:=Q.cell' (v:=.func (.func sf) #[] sb) (o:=1) n (by simp) (by simp);have J:=h.on (l.trans' h.blkLt Q rfl) rfl;by_cases K:i<j
  ·obtain⟨T,rfl⟩:∃ T,f=T+1:=⟨f - 1,by omega⟩
   have hl:=J.lessAt ((a+b) / 2+m - 1 - (i+j) / 2) ((i+j) / 2) (by omega) (by omega);rw[show((((a+b) / 2+m - 1 - (i+j) / 2:Nat)):Int)=((a:Int)+b) / 2+m - 1 - ((i:Int)+j) / 2 by omega,show((((i+j) / 2:Nat)):Int)=((i:Int)+j) / 2 by omega]at hl;cases I:lt d[(a+b) / 2+m - 1 - (i+j) / 2]! d[(i+j) / 2]! with
   | false=>
    rw[I]at hl
    go_wp2_with (go_at_fn g; refine hl.mono ?_; rintro e w' ⟨rfl,q,rfl⟩)
    go_roundw
    case rel=>
     first|exact⟨T,(i+j) / 2+1,j,by congr 1<;>omega,rfl,by omega,by omega,by omega,by omega,Q.drewN q,by rw[← HO.out,SP _ _ _ _ K (by simp[I])]⟩|((repeat apply Exists.intro); exact⟨⟨T,(i+j) / 2+1,j,by congr 1<;>omega,rfl,by omega,by omega,by omega,by omega,Q.drewN q,by rw[← HO.out,SP _ _ _ _ K (by simp[I])]⟩,by(rw[Z,hb2])<;>rfl⟩)|trace_state
    case measure=>simp[intOf]; omega
   | true=>
    rw[I]at hl
    go_wp2_with (go_at_fn g; refine hl.mono ?_; rintro e w' ⟨rfl,q,rfl⟩)
    go_roundw
    case rel=>
     first|exact⟨T,i,(i+j) / 2,rfl,by congr 1<;>omega,by omega,by omega,by omega,by omega,Q.drewN q,by rw[← HO.out,SO _ _ _ _ K (by simp[I])]⟩|((repeat apply Exists.intro); exact⟨⟨T,i,(i+j) / 2,rfl,by congr 1<;>omega,by omega,by omega,by omega,by omega,Q.drewN q,by rw[← HO.out,SO _ _ _ _ K (by simp[I])]⟩,by(rw[Z,hb2])<;>rfl⟩)|trace_state
    case measure=>simp[intOf]; omega
  ·have hI:=HO.out
   rw[Cg _ _ _ _ K]at hI;have HI:Hid _:=hI;clear HO hI;have hec:((a:Int)+b) / 2+m - i=((((a+b) / 2+m - i):Nat):Int):=by omega
   have R:((a:Int)+b) / 2=((((a+b) / 2):Nat):Int):=by omega
   have HMID:Hid _:=R;clear R;have u:=Q;by_cases hr:i<m/\m<((a+b) / 2+m - i)
   ·obtain⟨A,B⟩:=hr
    by_cases ha:a<i/\i<((a+b) / 2)
    ·obtain⟨M,N⟩:=ha
     by_cases O:((a+b) / 2)<((a+b) / 2+m - i)/\((a+b) / 2+m - i)<b
     ·obtain⟨D,E⟩:=O
      have r:=Any.rotate_func L J i m ((a+b) / 2+m - i) A B (by omega)
      go_wp2_with (go_at_fn (ρ.f 42); refine r.mono ?_; rintro U V ⟨rfl,t⟩; have k:=u.trans' (l.lt h.blkLt) t (zP _ _ _ _ _); have c1a:=k.cell' (v:=.func (.func g) #[] lb) (o:=0) n (by simp) (by simp); have c1b:=k.cell' (v:=.func (.func sf) #[] sb) (o:=1) n (by simp) (by simp))
      all_goals
       have z1:(xV m (((a+b) / 2+m - i) - i) (m - i) (((a+b) / 2+m - i) - m) d).size=d.size:=zP _ _ _ _ _;have x:=h.on (l.trans' h.blkLt k z1) z1;have y:=z x (a) (i) (((a+b) / 2)) (by omega) (by omega) (by omega) (by have:=z1; omega);rw[← HMID.out]at y
       go_wp2_with (go_at_fn (ρ.f 30); refine y.mono ?_; rintro e2 w2 ⟨rfl,G⟩; have s:=k.trans' (l.lt h.blkLt) G (zb _ _ _ _ _ _); have c2a:=s.cell' (v:=.func (.func g) #[] lb) (o:=0) n (by simp) (by simp); have c2b:=s.cell' (v:=.func (.func sf) #[] sb) (o:=1) n (by simp) (by simp))
       all_goals
        have z2:(mS lt F a i ((a+b) / 2) (xV m (((a+b) / 2+m - i) - i) (m - i) (((a+b) / 2+m - i) - m) d)).size=d.size:=(zb _ _ _ _ _ _).trans z1;have hst3:=h.on (l.trans' h.blkLt s z2) z2;have hc3:=z hst3 (((a+b) / 2)) (((a+b) / 2+m - i)) (b) (by omega) (by omega) (by omega) (by have:=z2; omega);rw[← HMID.out]at hc3
        go_wp2_with (go_at_fn (ρ.f 30); refine hc3.mono ?_; rintro e3 w3 ⟨rfl,hw3⟩; have S:=s.trans' (l.lt h.blkLt) hw3 (zb _ _ _ _ _ _); have c3a:=S.cell' (v:=.func (.func g) #[] lb) (o:=0) n (by simp) (by simp); have c3b:=S.cell' (v:=.func (.func sf) #[] sb) (o:=1) n (by simp) (by simp))
        all_goals
         have z3:(mS lt F ((a+b) / 2) ((a+b) / 2+m - i) b (mS lt F a i ((a+b) / 2) (xV m (((a+b) / 2+m - i) - i) (m - i) (((a+b) / 2+m - i) - m) d))).size=d.size:=(zb _ _ _ _ _ _).trans z2
         go_end0
         refine⟨rfl,?_⟩;have p:=l.trans' h.blkLt S z3;have H:zQ lt a m b d=i:=by unfold zQ; rw[if_neg hm,if_neg hm]; exact HI.out.symm
         unfold mS dD;simp only[if_neg h1,if_neg h2,H];rw[if_pos (And.intro A B),if_pos (And.intro M N),if_pos (And.intro D E)]
         first|done|exact p
     ·skip
      have r:=Any.rotate_func L J i m ((a+b) / 2+m - i) A B (by omega)
      go_wp2_with (go_at_fn (ρ.f 42); refine r.mono ?_; rintro U V ⟨rfl,t⟩; have k:=u.trans' (l.lt h.blkLt) t (zP _ _ _ _ _); have c1a:=k.cell' (v:=.func (.func g) #[] lb) (o:=0) n (by simp) (by simp); have c1b:=k.cell' (v:=.func (.func sf) #[] sb) (o:=1) n (by simp) (by simp))
      all_goals
       have z1:(xV m (((a+b) / 2+m - i) - i) (m - i) (((a+b) / 2+m - i) - m) d).size=d.size:=zP _ _ _ _ _;have x:=h.on (l.trans' h.blkLt k z1) z1;have y:=z x (a) (i) (((a+b) / 2)) (by omega) (by omega) (by omega) (by have:=z1; omega);rw[← HMID.out]at y
       go_wp2_with (go_at_fn (ρ.f 30); refine y.mono ?_; rintro e2 w2 ⟨rfl,G⟩; have s:=k.trans' (l.lt h.blkLt) G (zb _ _ _ _ _ _); have c2a:=s.cell' (v:=.func (.func g) #[] lb) (o:=0) n (by simp) (by simp); have c2b:=s.cell' (v:=.func (.func sf) #[] sb) (o:=1) n (by simp) (by simp))
       all_goals
        have z2:(mS lt F a i ((a+b) / 2) (xV m (((a+b) / 2+m - i) - i) (m - i) (((a+b) / 2+m - i) - m) d)).size=d.size:=(zb _ _ _ _ _ _).trans z1
        go_end0
        refine⟨rfl,?_⟩;have p:=l.trans' h.blkLt s z2;have H:zQ lt a m b d=i:=by unfold zQ; rw[if_neg hm,if_neg hm]; exact HI.out.symm
        unfold mS dD;simp only[if_neg h1,if_neg h2,H];rw[if_pos (And.intro A B),if_pos (And.intro M N),if_neg O]
        first|done|exact p
    ·skip
     by_cases O:((a+b) / 2)<((a+b) / 2+m - i)/\((a+b) / 2+m - i)<b
     ·obtain⟨D,E⟩:=O
      have r:=Any.rotate_func L J i m ((a+b) / 2+m - i) A B (by omega)
      go_wp2_with (go_at_fn (ρ.f 42); refine r.mono ?_; rintro U V ⟨rfl,t⟩; have k:=u.trans' (l.lt h.blkLt) t (zP _ _ _ _ _); have c1a:=k.cell' (v:=.func (.func g) #[] lb) (o:=0) n (by simp) (by simp); have c1b:=k.cell' (v:=.func (.func sf) #[] sb) (o:=1) n (by simp) (by simp))
      all_goals
       have z1:(xV m (((a+b) / 2+m - i) - i) (m - i) (((a+b) / 2+m - i) - m) d).size=d.size:=zP _ _ _ _ _;have x:=h.on (l.trans' h.blkLt k z1) z1;have y:=z x (((a+b) / 2)) (((a+b) / 2+m - i)) (b) (by omega) (by omega) (by omega) (by have:=z1; omega);rw[← HMID.out]at y
       go_wp2_with (go_at_fn (ρ.f 30); refine y.mono ?_; rintro e2 w2 ⟨rfl,G⟩; have s:=k.trans' (l.lt h.blkLt) G (zb _ _ _ _ _ _); have c2a:=s.cell' (v:=.func (.func g) #[] lb) (o:=0) n (by simp) (by simp); have c2b:=s.cell' (v:=.func (.func sf) #[] sb) (o:=1) n (by simp) (by simp))
       all_goals
        have z2:(mS lt F ((a+b) / 2) ((a+b) / 2+m - i) b (xV m (((a+b) / 2+m - i) - i) (m - i) (((a+b) / 2+m - i) - m) d)).size=d.size:=(zb _ _ _ _ _ _).trans z1
        go_end0
        refine⟨rfl,?_⟩;have p:=l.trans' h.blkLt s z2;have H:zQ lt a m b d=i:=by unfold zQ; rw[if_neg hm,if_neg hm]; exact HI.out.symm
        unfold mS dD;simp only[if_neg h1,if_neg h2,H];rw[if_pos (And.intro A B),if_neg ha,if_pos (And.intro D E)]
        first|done|exact p
     ·skip
      have r:=Any.rotate_func L J i m ((a+b) / 2+m - i) A B (by omega)
      go_wp2_with (go_at_fn (ρ.f 42); refine r.mono ?_; rintro U V ⟨rfl,t⟩; have k:=u.trans' (l.lt h.blkLt) t (zP _ _ _ _ _); have c1a:=k.cell' (v:=.func (.func g) #[] lb) (o:=0) n (by simp) (by simp); have c1b:=k.cell' (v:=.func (.func sf) #[] sb) (o:=1) n (by simp) (by simp))
      all_goals
       have z1:(xV m (((a+b) / 2+m - i) - i) (m - i) (((a+b) / 2+m - i) - m) d).size=d.size:=zP _ _ _ _ _
       go_end0
       refine⟨rfl,?_⟩;have p:=l.trans' h.blkLt k z1;have H:zQ lt a m b d=i:=by unfold zQ; rw[if_neg hm,if_neg hm]; exact HI.out.symm
       unfold mS dD;simp only[if_neg h1,if_neg h2,H];rw[if_pos (And.intro A B),if_neg ha,if_neg O]
       first|done|exact p
   ·skip
    by_cases ha:a<i/\i<((a+b) / 2)
    ·obtain⟨M,N⟩:=ha
     by_cases O:((a+b) / 2)<((a+b) / 2+m - i)/\((a+b) / 2+m - i)<b
     ·obtain⟨D,E⟩:=O
      have C:=h.on (l.trans' h.blkLt u (rfl:d.size=d.size)) (rfl:d.size=d.size);have r:=z C (a) (i) (((a+b) / 2)) (by omega) (by omega) (by omega) (by have:=(rfl:d.size=d.size); omega);rw[← HMID.out]at r
      go_wp2_with (go_at_fn (ρ.f 30); refine r.mono ?_; rintro U V ⟨rfl,t⟩; have k:=u.trans' (l.lt h.blkLt) t (zb _ _ _ _ _ _); have c1a:=k.cell' (v:=.func (.func g) #[] lb) (o:=0) n (by simp) (by simp); have c1b:=k.cell' (v:=.func (.func sf) #[] sb) (o:=1) n (by simp) (by simp))
      all_goals
       have z1:(mS lt F a i ((a+b) / 2) d).size=d.size:=(zb _ _ _ _ _ _).trans (rfl:d.size=d.size);have x:=h.on (l.trans' h.blkLt k z1) z1;have y:=z x (((a+b) / 2)) (((a+b) / 2+m - i)) (b) (by omega) (by omega) (by omega) (by have:=z1; omega);rw[← HMID.out]at y
       go_wp2_with (go_at_fn (ρ.f 30); refine y.mono ?_; rintro e2 w2 ⟨rfl,G⟩; have s:=k.trans' (l.lt h.blkLt) G (zb _ _ _ _ _ _); have c2a:=s.cell' (v:=.func (.func g) #[] lb) (o:=0) n (by simp) (by simp); have c2b:=s.cell' (v:=.func (.func sf) #[] sb) (o:=1) n (by simp) (by simp))
       all_goals
        have z2:(mS lt F ((a+b) / 2) ((a+b) / 2+m - i) b (mS lt F a i ((a+b) / 2) d)).size=d.size:=(zb _ _ _ _ _ _).trans z1
        go_end0
        refine⟨rfl,?_⟩;have p:=l.trans' h.blkLt s z2;have H:zQ lt a m b d=i:=by unfold zQ; rw[if_neg hm,if_neg hm]; exact HI.out.symm
        unfold mS dD;simp only[if_neg h1,if_neg h2,H];rw[if_neg hr,if_pos (And.intro M N),if_pos (And.intro D E)]
        first|done|exact p
     ·skip
      have C:=h.on (l.trans' h.blkLt u (rfl:d.size=d.size)) (rfl:d.size=d.size);have r:=z C (a) (i) (((a+b) / 2)) (by omega) (by omega) (by omega) (by have:=(rfl:d.size=d.size); omega);rw[← HMID.out]at r
      go_wp2_with (go_at_fn (ρ.f 30); refine r.mono ?_; rintro U V ⟨rfl,t⟩; have k:=u.trans' (l.lt h.blkLt) t (zb _ _ _ _ _ _); have c1a:=k.cell' (v:=.func (.func g) #[] lb) (o:=0) n (by simp) (by simp); have c1b:=k.cell' (v:=.func (.func sf) #[] sb) (o:=1) n (by simp) (by simp))
      all_goals
       have z1:(mS lt F a i ((a+b) / 2) d).size=d.size:=(zb _ _ _ _ _ _).trans (rfl:d.size=d.size)
       go_end0
       refine⟨rfl,?_⟩;have p:=l.trans' h.blkLt k z1;have H:zQ lt a m b d=i:=by unfold zQ; rw[if_neg hm,if_neg hm]; exact HI.out.symm
       unfold mS dD;simp only[if_neg h1,if_neg h2,H];rw[if_neg hr,if_pos (And.intro M N),if_neg O]
       first|done|exact p
    ·skip
     by_cases O:((a+b) / 2)<((a+b) / 2+m - i)/\((a+b) / 2+m - i)<b
     ·obtain⟨D,E⟩:=O
      have C:=h.on (l.trans' h.blkLt u (rfl:d.size=d.size)) (rfl:d.size=d.size);have r:=z C (((a+b) / 2)) (((a+b) / 2+m - i)) (b) (by omega) (by omega) (by omega) (by have:=(rfl:d.size=d.size); omega);rw[← HMID.out]at r
      go_wp2_with (go_at_fn (ρ.f 30); refine r.mono ?_; rintro U V ⟨rfl,t⟩; have k:=u.trans' (l.lt h.blkLt) t (zb _ _ _ _ _ _); have c1a:=k.cell' (v:=.func (.func g) #[] lb) (o:=0) n (by simp) (by simp); have c1b:=k.cell' (v:=.func (.func sf) #[] sb) (o:=1) n (by simp) (by simp))
      all_goals
       have z1:(mS lt F ((a+b) / 2) ((a+b) / 2+m - i) b d).size=d.size:=(zb _ _ _ _ _ _).trans (rfl:d.size=d.size)
       go_end0
       refine⟨rfl,?_⟩;have p:=l.trans' h.blkLt k z1;have H:zQ lt a m b d=i:=by unfold zQ; rw[if_neg hm,if_neg hm]; exact HI.out.symm
       unfold mS dD;simp only[if_neg h1,if_neg h2,H];rw[if_neg hr,if_neg ha,if_pos (And.intro D E)]
       first|done|exact p
     ·skip
      go_wp2
      all_goals
       go_end0
       refine⟨rfl,?_⟩;have p:=l.trans' h.blkLt u (rfl:d.size=d.size);have H:zQ lt a m b d=i:=by unfold zQ; rw[if_neg hm,if_neg hm]; exact HI.out.symm
       unfold mS dD;simp only[if_neg h1,if_neg h2,H];rw[if_neg hr,if_neg ha,if_neg O]
       first|done|exact p
end Go.Proofs
end
section
namespace Go.Proofs
open Go.Shelf Go.RowKit Go.Lib Go.Sort
variable {P:Program} {ρ:Ren} {α:Type} [Inhabited α] {enc:α->Value} {lt:α->α->Bool} {g:Nat} {lb:Array Value} {sf:Nat} {sb:Array Value} {blk off:Nat}
theorem Any.symMerge_func (L:LaysGt.n15 P ρ):∀ (F:Nat) {d:Array α} {W:World} (h:SSt P enc lt g lb sf sb blk off d W) (a m b:Nat) (j:b - a<=F) (c:a<m) (i:m<b) (k:b<=d.size),
  Calls P (ρ.f 30) #[lsD g lb sf sb,.int .i64 a,.int .i64 m,.int .i64 b] W fun e w'=>e=.returned (.tuple #[])/\SW enc W blk off (mS lt F a m b d) w'
 | 0,_,_,_,a,m,b,j,c,i,_=>by omega
 | F+1,d,W,h,a,m,b,j,c,i,k=>by
  have ihS:=fun{d:Array α} {W:World} (h:SSt P enc lt g lb sf sb blk off d W) a m b=>Any.symMerge_func L F h a m b;by_cases h1:m - a=1
  ·exact Any.symMerge_c1 L F h a m b j c i k h1
  by_cases h2:b - m=1
  ·exact Any.symMerge_c2 L F h a m b j c i k h1 h2
  by_cases hm:(a+b) / 2<m
  ·exact Any.symMerge_c3 L F h a m b j c i k h1 h2 hm ihS
  exact Any.symMerge_c4 L F h a m b j c i k h1 h2 hm ihS
end Go.Proofs
end
section
namespace Go.Proofs
open Go.Shelf Go.RowKit Go.Lib Go.Sort
section
variable {α:Type} [Inhabited α]
def SN (lt:α->α->Bool) (n:Nat):Nat->Nat->Array α->Nat×Array α
 | 0,a,d=>(a,d)
 | f+1,a,d=>if a+20<=n then SN lt n f (a+20) (Sort.insertionSort lt d a (a+20))else(a,d)
def TU (lt:α->α->Bool) (n bs:Nat):Nat->Nat->Array α->Nat×Array α
 | 0,a,d=>(a,d)
 | f+1,a,d=>if a+2 * bs<=n then TU lt n bs f (a+2 * bs) (mS lt n a (a+bs) (a+2 * bs) d)else(a,d)
def qdy (lt:α->α->Bool) (n bs:Nat) (x:Nat×Array α):Array α:=if x.1+bs<n then mS lt n x.1 (x.1+bs) n x.2 else x.2
def aY (lt:α->α->Bool) (n:Nat):Nat->Nat->Array α->Array α
 | 0,_,d=>d
 | f+1,bs,d=>if bs<n then aY lt n f (2 * bs) (qdy lt n bs (TU lt n bs n 0 d))else d
def stP (lt:α->α->Bool) (d:Array α):Array α:=
 aY lt d.size d.size 20 (Sort.insertionSort lt (SN lt d.size d.size 0 d).2 (SN lt d.size d.size 0 d).1 d.size)
theorem MQ {lt:α->α->Bool} {n f a:Nat} {d:Array α} (h:¬ a+20<=n):SN lt n f a d=(a,d):=by
 cases f with
 | zero=>rfl
 | succ f=>unfold SN; rw[if_neg h]
theorem lY {lt:α->α->Bool} {n bs f a:Nat} {d:Array α} (h:¬ a+2 * bs<=n):TU lt n bs f a d=(a,d):=by
 cases f with
 | zero=>rfl
 | succ f=>unfold TU; rw[if_neg h]
theorem ML {lt:α->α->Bool} {n f bs:Nat} {d:Array α} (h:¬ bs<n):aY lt n f bs d=d:=by
 cases f with
 | zero=>rfl
 | succ f=>unfold aY; rw[if_neg h]
end
variable {P:Program} {ρ:Ren} {α:Type} [Inhabited α] {enc:α->Value} {lt:α->α->Bool} {g:Nat} {lb:Array Value} {sf:Nat} {sb:Array Value} {blk off:Nat}
section
abbrev SwK (Q:Array α->Prop):Prop:=∀ d i j,Q d->Q (swp d i j)
theorem UE {Q:Array α->Prop} (b:SwK Q) (lt:α->α->Bool) (a:Nat):∀ (j:Nat) (d:Array α),Q d->Q (Sort.insInner lt a j d)
 | 0,_,h=>by unfold Sort.insInner; exact h
 | j+1,d,h=>by
  unfold Sort.insInner;split
  ·exact UE b lt a j _ (b _ _ _ h)
  exact h
theorem UF {Q:Array α->Prop} (c:SwK Q) (lt:α->α->Bool) (a b:Nat):∀ (k i:Nat) (d:Array α),b - i<=k->Q d->Q (Sort.insOuter lt a b i d)
 | 0,i,d,hk,h=>by rw[Sort.insOuter,if_neg (by omega)]; exact h
 | k+1,i,d,hk,h=>by
  rw[Sort.insOuter];split
  ·exact UF c lt a b k (i+1) _ (by omega) (UE c lt a i d h)
  exact h
theorem Lu {Q:Array α->Prop} (c:SwK Q) (lt:α->α->Bool) (a b:Nat) (d:Array α) (h:Q d):Q (Sort.insertionSort lt d a b):=by
 unfold Sort.insertionSort; exact UF c lt a b _ _ d (jw _) h
theorem mA {Q:Array α->Prop} (c:SwK Q) (a b:Nat):∀ (k i:Nat) (d:Array α),Q d->Q (gz a b k i d)
 | 0,_,_,h=>h
 | k+1,i,d,h=>mA c a b k (i+1) _ (c _ _ _ h)
theorem XM {Q:Array α->Prop} (a:SwK Q) (m:Nat):∀ (f i j:Nat) (d:Array α),Q d->Q (xV m f i j d)
 | 0,i,_,d,h=>mA a _ _ _ _ _ h
 | f+1,i,j,d,h=>by
  unfold xV;split
  ·exact mA a _ _ _ _ _ h
  split
  ·exact XM a m f _ _ _ (mA a _ _ _ _ _ h)
  exact XM a m f _ _ _ (mA a _ _ _ _ _ h)
theorem SE {Q:Array α->Prop} (a:SwK Q):∀ (c k:Nat) (d:Array α),Q d->Q (upP c k d)
 | 0,_,_,h=>h
 | c+1,k,d,h=>SE a c (k+1) _ (a _ _ _ h)
theorem RP {Q:Array α->Prop} (a:SwK Q):∀ (c k:Nat) (d:Array α),Q d->Q (dnP c k d)
 | 0,_,_,h=>h
 | c+1,k,d,h=>RP a c (k - 1) _ (a _ _ _ h)
theorem Rw {Q:Array α->Prop} (a:SwK Q) (m s e:Nat) (d:Array α) (h:Q d):Q (dD m s e d):=by
 unfold dD;split
 ·exact XM a _ _ _ _ _ h
 exact h
theorem XO {Q:Array α->Prop} (c:SwK Q) (lt:α->α->Bool):∀ (f a m b:Nat) (d:Array α),Q d->Q (mS lt f a m b d)
 | 0,_,_,_,_,h=>h
 | f+1,a,m,b,d,h=>by
  unfold mS;split
  ·exact SE c _ _ _ h
  split
  ·exact RP c _ _ _ h
  simp only;have h1:=Rw c m (zQ lt a m b d) ((a+b) / 2+m - zQ lt a m b d) d h;split
  ·refine XO c lt f _ _ _ _ ?_
   split
   ·exact XO c lt f _ _ _ _ h1
   exact h1
  split
  ·exact XO c lt f _ _ _ _ h1
  exact h1
theorem MP {Q:Array α->Prop} (b:SwK Q) (lt:α->α->Bool) (n:Nat):∀ (f a:Nat) (d:Array α),Q d->Q (SN lt n f a d).2
 | 0,_,_,h=>h
 | f+1,a,d,h=>by
  unfold SN;split
  ·exact MP b lt n f _ _ (Lu b lt _ _ _ h)
  exact h
theorem NA {Q:Array α->Prop} (b:SwK Q) (lt:α->α->Bool) (n bs:Nat):∀ (f a:Nat) (d:Array α),Q d->Q (TU lt n bs f a d).2
 | 0,_,_,h=>h
 | f+1,a,d,h=>by
  unfold TU;split
  ·exact NA b lt n bs f _ _ (XO b lt _ _ _ _ _ h)
  exact h
theorem iE {Q:Array α->Prop} (a:SwK Q) (lt:α->α->Bool) (n bs:Nat) (x:Nat×Array α) (h:Q x.2):Q (qdy lt n bs x):=by
 unfold qdy;split
 ·exact XO a lt _ _ _ _ _ h
 exact h
theorem MK {Q:Array α->Prop} (a:SwK Q) (lt:α->α->Bool) (n:Nat):∀ (f bs:Nat) (d:Array α),Q d->Q (aY lt n f bs d)
 | 0,_,_,h=>h
 | f+1,bs,d,h=>by
  unfold aY;split
  ·exact MK a lt n f _ _ (iE a lt _ _ _ (NA a lt _ _ _ _ _ h))
  exact h
theorem oL {Q:Array α->Prop} (a:SwK Q) (lt:α->α->Bool) (d:Array α) (h:Q d):Q (stP lt d):=by
 unfold stP;exact MK a lt _ _ _ _ (Lu a lt _ _ _ (MP a lt _ _ _ _ h))
end
theorem Lt (lt:α->α->Bool) (d:Array α) (a b:Nat):(Sort.insertionSort lt d a b).size=d.size:=
 Lu (Q:=fun x=>x.size=d.size) (fun x i j h=>(size_swp x i j).trans h) lt a b d rfl
theorem SA (lt:α->α->Bool) (d:Array α):(stP lt d).size=d.size:=
 oL (Q:=fun x=>x.size=d.size) (fun x i j h=>(size_swp x i j).trans h) lt d rfl
theorem SSt.ins (i:LaysGg.n26 P ρ.viaGt) {d:Array α} {W:World} (h:SSt P enc lt g lb sf sb blk off d W) (a b:Nat) (c:a<=b) (j:b<=d.size) :
  Calls P (ρ.f 29) #[lsD g lb sf sb,.int .i64 a,.int .i64 b] W fun e w'=>e=.returned (.tuple #[])/\SW enc W blk off (Sort.insertionSort lt d a b) w':=
 (Any.insertionSort_func_w i enc lt g lb sf sb blk off a b d W h.eg h.less h.swap h.holds h.blkLt c j (by have:=h.big; omega)).mono fun _ _ h=>⟨h.1,h.2⟩
set_option maxHeartbeats 4000000 in
set_option maxRecDepth 100000 in
theorem Any.stable_func (L:LaysGt.n15 P ρ) {d:Array α} {W:World} (h:SSt P enc lt g lb sf sb blk off d W) :
  Calls P (ρ.f 15) #[lsD g lb sf sb,.int .i64 d.size] W fun e w'=>e=.returned (.tuple #[])/\SW enc W blk off (stP lt d) w':=by
 have mixed:=L.mixed; have t0:=L.t0; have a0:=L.a0; have z0:=L.z0; have v0:=L.v0; have t3:=L.t3; have a3:=L.a3; have z3:=L.z3; have v3:=L.v3; have t4:=L.t4; have a4:=L.a4; have z4:=L.z4; have v4:=L.v4; have t26:=L.t26; have a26:=L.a26; have z26:=L.z26; have v26:=L.v26; have t38:=L.t38; have a38:=L.a38; have z38:=L.z38; have v38:=L.v38; have t42:=L.t42; have a42:=L.a42; have z42:=L.z42; have v42:=L.v42; have t47:=L.t47; have a47:=L.a47; have z47:=L.z47; have v47:=L.v47;have u42:=kru L.t42;have e29:∀ args w,(callFunc (ρ.f 29) args).run P w=.ok (.enter (ρ.f 29) args) w:=enters_of L.f29 (by kernel_rfl) rfl;have e30:∀ args w,(callFunc (ρ.f 30) args).run P w=.ok (.enter (ρ.f 30) args) w:=enters_of L.f30 (by kernel_rfl) rfl;have LI:LaysGg.n26 P ρ.viaGt:=({ L with }:LaysGt.n29 P ρ).elder
 have n:W.heap.size≠blk:=by have:=h.blkLt; omega
 have O:=h.big;have i:SW enc W blk off d (Zr ρ g lb sf sb W):=h.box;have ihS:=fun{d:Array α} {W:World} (h:SSt P enc lt g lb sf sb blk off d W) F a m b=>Any.symMerge_func L F h a m b;have ihI:=fun{d:Array α} {W:World} (h:SSt P enc lt g lb sf sb blk off d W) a b=>h.ins LI a b
 go_enter L.f15,BodyGt.n15_ntmps ρ
 go_wp2
 go_loopw [5,6] (fun u H wr=>∃ (f a:Nat) (dk:Array α),u=.int .i64 a/\H=.int .i64 ((a:Int)+20)/\a<=d.size/\d.size<=a+f/\dk.size=d.size/\SW enc (Zr ρ g lb sf sb W) blk off dk wr/\SN lt d.size f a dk=SN lt d.size d.size 0 d) (fun u _ _=>d.size - (intOf u).toNat)
 case atStart=>exact⟨d.size,0,d,by go_num,by go_num,by omega,by omega,rfl,.start (i.holds h.blkLt h.holds rfl),rfl⟩
 case round=>
  obtain⟨f,a,dk,rfl,rfl,S,hf,p,A,Q⟩:=hrel;have HO:Hid (SN lt d.size f a dk=SN lt d.size d.size 0 d):=Q;clear Q;have c0:=A.cell' (v:=.func (.func g) #[] lb) (o:=0) n (by simp) (by simp);have c1:=A.cell' (v:=.func (.func sf) #[] sb) (o:=1) n (by simp) (by simp);have B:=h.on (i.trans' h.blkLt A p) p;by_cases C:a+20<=d.size
  ·obtain⟨I,rfl⟩:∃ I,f=I+1:=⟨f - 1,by omega⟩
   have l:=ihI B a (a+20) (by omega) (by omega);rw[show(((a+20:Nat)):Int)=(a:Int)+20 by omega]at l
   go_wp2_with (go_at_fn (ρ.f 29); refine l.mono ?_; rintro T U ⟨rfl,h1⟩)
   go_roundw
   case rel=>
    refine⟨I,a+20,Sort.insertionSort lt dk a (a+20),by congr 1<;>omega,by congr 1<;>omega,by omega,by omega,by rw[Lt]; exact p,A.trans' (i.lt h.blkLt) h1 (Lt _ _ _ _),?_⟩;rw[← HO.out];conv=>rhs; unfold SN;rw[if_pos C]
   case measure=>simp[intOf]; omega
  ·have J:=HO.out
   rw[MQ C]at J;have HI:Hid ((a,dk)=SN lt d.size d.size 0 d):=J;clear HO J;have l:=ihI B a d.size (by omega) (by omega)
   go_wp2_with (go_at_fn (ρ.f 29); refine l.mono ?_; rintro T U ⟨rfl,K⟩; have M:=A.trans' (i.lt h.blkLt) K (Lt _ _ _ _))
   have z1:(Sort.insertionSort lt dk a d.size).size=d.size:=by rw[Lt]; exact p
   go_loopw [4] (fun vs V=>∃ (f bs:Nat) (d2:Array α),vs=.int .i64 bs/\1<=bs/\bs<9223372036854775808/\d.size<=bs+f/\d2.size=d.size/\SW enc (Zr ρ g lb sf sb W) blk off d2 V/\aY lt d.size f bs d2=stP lt d) (fun vs _=>d.size - (intOf vs).toNat)
   case atStart=>exact⟨d.size,20,_,by go_num,by omega,by omega,by omega,z1,M,by unfold stP; rw[← HI.out]⟩
   case round=>
    obtain⟨f2,bs,d2,rfl,X,Y,Z,r,D,E⟩:=hrel;have HO2:Hid (aY lt d.size f2 bs d2=stP lt d):=E;clear E;by_cases x:bs<d.size
    ·obtain⟨q,rfl⟩:∃ q,f2=q+1:=⟨f2 - 1,by omega⟩
     go_wp2
     go_loopw [5,6] (fun u H w3=>∃ (f a:Nat) (d3:Array α),u=.int .i64 a/\H=.int .i64 ((a:Int)+2 * bs)/\a<=d.size/\d.size<=a+f/\d3.size=d.size/\SW enc (Zr ρ g lb sf sb W) blk off d3 w3/\TU lt d.size bs f a d3=TU lt d.size bs d.size 0 d2) (fun u _ _=>d.size - (intOf u).toNat)
     case atStart=>exact⟨d.size,0,d2,by go_num,by congr 1<;>omega,by omega,by omega,r,D,rfl⟩
     case round=>
      obtain⟨f3,c,d3,rfl,rfl,R,hf3,j,k,G⟩:=hrel;have HO3:Hid (TU lt d.size bs f3 c d3=TU lt d.size bs d.size 0 d2):=G;clear G;have c0:=k.cell' (v:=.func (.func g) #[] lb) (o:=0) n (by simp) (by simp);have c1:=k.cell' (v:=.func (.func sf) #[] sb) (o:=1) n (by simp) (by simp);have s:=h.on (i.trans' h.blkLt k j) j;by_cases t:c+2 * bs<=d.size
      ·obtain⟨y,rfl⟩:∃ y,f3=y+1:=⟨f3 - 1,by omega⟩
       have l:=ihS s d.size c (c+bs) (c+2 * bs) (by omega) (by omega) (by omega) (by omega);rw[show(((c+bs:Nat)):Int)=(c:Int)+bs by omega,show(((c+2 * bs:Nat)):Int)=(c:Int)+2 * bs by omega]at l
       go_wp2_with (go_at_fn (ρ.f 30); refine l.mono ?_; rintro e3 w4 ⟨rfl,h4⟩)
       go_roundw
       case rel=>
        refine⟨y,c+2 * bs,mS lt d.size c (c+bs) (c+2 * bs) d3,by congr 1<;>omega,by congr 1<;>omega,by omega,by omega,by rw[zb]; exact j,k.trans' (i.lt h.blkLt) h4 (zb _ _ _ _ _ _),?_⟩;rw[← HO3.out];conv=>rhs; unfold TU;rw[if_pos t]
       case measure=>simp[intOf]; omega
      ·have z:=HO3.out
       rw[lY t]at z;have HI3:Hid ((c,d3)=TU lt d.size bs d.size 0 d2):=z;clear HO3 z;by_cases hm:c+bs<d.size
       ·have l:=ihS s d.size c (c+bs) d.size (by omega) (by omega) (by omega) (by omega)
        rw[show(((c+bs:Nat)):Int)=(c:Int)+bs by omega]at l;have N:(c:Int)+bs<d.size:=by omega
        go_wp2_with (go_at_fn (ρ.f 30); refine l.mono ?_; rintro e3 w4 ⟨rfl,h4⟩)
        go_roundw
        case rel=>
         refine⟨q,2 * bs,mS lt d.size c (c+bs) d.size d3,by congr 1<;>omega,by omega,by omega,by omega,by rw[zb]; exact j,k.trans' (i.lt h.blkLt) h4 (zb _ _ _ _ _ _),?_⟩;rw[← HO2.out];conv=>rhs; unfold aY;rw[if_pos x,← HI3.out];unfold qdy;rw[if_pos hm]
        case measure=>simp[intOf]; omega
       ·have N:¬ (c:Int)+bs<d.size:=by omega
        go_wp2
        go_roundw
        case rel=>
         refine⟨q,2 * bs,d3,by congr 1<;>omega,by omega,by omega,by omega,j,k,?_⟩;rw[← HO2.out];conv=>rhs; unfold aY;rw[if_pos x,← HI3.out];unfold qdy;rw[if_neg hm]
        case measure=>simp[intOf]; omega
    ·go_wp2
     go_end0
     refine⟨rfl,?_⟩;have e:=HO2.out;rw[ML x]at e;rw[← e];exact i.trans' h.blkLt D r
theorem Any.sort_SliceStable (L:LaysGt.n8 P ρ) (t e:TypeId) (i b:TypeInfo) (A:P.info? t=some i) (B:i.desc=.slice e) (r:P.packed t=false) (k:P.info? e=some b) (l:Nat) (s:∀ w,(Extern.Rtype.kind e).run P w=.ok l w)
  (m:b.size=1) (h:∀ w,(isAgg e).run P w=.ok false w) (enc:α->Value) (h1:∀ x,(enc x).oneCell'=true) (lt:α->α->Bool) (g:Nat) (lb:Array Value)
  (eg:∀ args w,(callFunc g args).run P w=.ok (.enter g args) w) (blk off c:Nat) (d:Array α) (h2:2<=d.size) (j:d.size<4611686018427387904)
  (f:Nat) (w:World) (o:∀ R:World->Prop,Calls P (ρ.f 15) #[.agg #[.func (.func g) #[] lb,.func (.func f) #[] (sliceBound P e b l (some ⟨blk,off,none⟩) d.size c)],.int .i64 d.size] (stableWorld P ρ t (some ⟨blk,off,none⟩) d.size c w) (fun e w'=>e=.returned (.tuple #[])/\R w') ->
   Calls P (ρ.f 8) #[.iface t (.slice (some ⟨blk,off,none⟩) d.size c),.func (.func g) #[] lb] w fun e w'=>e=.returned (.tuple #[])/\R w')
  (p:Bool) (u:∀ args W,(callFunc f args).run P W=((Extern.ReflectliteSwapper.swap p args).run P W).andThen fun v w'=>.ok (.value v) w')
  (hless:LessReads P g lb enc lt blk off d.size w) (y:Holds enc w blk off d) (a:blk<w.heap.size) :
  Calls P (ρ.f 8) #[.iface t (.slice (some ⟨blk,off,none⟩) d.size c),.func (.func g) #[] lb] w fun e w'=>
   e=.returned (.tuple #[])/\∃ n os,w'=grow (putRow enc (Sort.ahead w n) blk off (stP lt d)) os:=by
 refine o _ ?_;have z:sliceBound P e b l (some ⟨blk,off,none⟩) d.size c = #[.slice (some ⟨blk,off,none⟩) d.size c,typeHandle P e]:=by
  unfold sliceBound; rw[if_neg (swapperK_gt _ _ _ h2)]
 have q:stableWorld P ρ t (some ⟨blk,off,none⟩) d.size c w=grow w #[.cells #[.slice (some ⟨blk,off,none⟩) d.size c] t,.cells #[.pointer (some ⟨P.globals.size,t,none⟩),.pointer (some ⟨w.heap.size,0,none⟩),.int .u64 151] (ρ.t 36)]:=by
  unfold stableWorld; rw[alloc_eq_grow,alloc_eq_grow,grow_grow]; rfl
 generalize (#[.cells #[.slice (some ⟨blk,off,none⟩) d.size c] t,.cells #[.pointer (some ⟨P.globals.size,t,none⟩),.pointer (some ⟨w.heap.size,0,none⟩),.int .u64 151] (ρ.t 36)]:Array Obj)=os0 at q;rw[z,q];have hp:=Any.stable_func (P:=P) (ρ:=ρ) { L with } (enc:=enc) (lt:=lt) (g:=g) (lb:=lb) (sf:=f) (blk:=blk) (off:=off) (d:=d) (W:=grow w os0) ⟨eg,hless.grow a os0,
  swapSwaps_of_literal p f u e b k m h enc h1 blk off d.size c,holds_grow enc w _ blk off d a y,by rw[size_grow]; omega,j⟩
 refine hp.mono ?_;rintro e w' ⟨rfl,n,os,rfl⟩;exact⟨rfl,n,_,by unfold sortWorld; rw[ahead_grow,putRow_grow enc (Sort.ahead w n) _ blk off _ a,grow_grow]⟩
end Go.Proofs
end
section
open Go Go.Proofs Go.RowKit Go.Lib Ax
namespace W
def ltN (names:List (List UInt8)) (m:Nat):Fin (m+1)->Fin (m+1)->Bool:=fun i j=>Op.bytesLess (names.getD i.val []) (names.getD j.val [])
def stI (names:List (List UInt8)) (m:Nat) (a:List Int):List Int:=(stP (ltN names m) (a.map fun i=>Fin.ofNat (m+1) i.toNat).toArray).toList.map fun x=>((x.val:Nat):Int)
def Rv (names:List (List UInt8)) (a:List Int):Option (List Int):=
 chk (decide (a.length<4611686018427387904)) (chk (a.all fun i=>decide (0<=i)&&Nat.blt i.toNat names.length) (some (bif Nat.ble a.length 1 then a else stI names (names.length - 1) a)))
theorem qcj (blk cap n b c bs o a:Nat) (names:List (List UInt8)) (W:World) (G:Nat->Nat)
  (l:W.cell? ⟨b,0,none⟩=some (.slice (some ⟨bs,o,none⟩) names.length a)) (ha:W.cell? ⟨c,0,none⟩=some (.slice (some ⟨blk,0,none⟩) n cap))
  (d:∀ t,t<n->W.cell? ⟨blk,t,none⟩=some (.int .i64 (G t:Nat))) (f:∀ t,t<names.length->W.cell? ⟨bs,o+t,none⟩=some (.string ⟨(names.getD t []).toArray⟩))
  (g:∀ t,t<n->G t<names.length) (i j:Nat) (h:i<n) (k:j<n) :
  Calls Tryz.prog 78 #[.int .i64 i,.int .i64 j,.pointer (some ⟨b,0,none⟩),.pointer (some ⟨c,0,none⟩)] W fun e w'=>e=.returned (.bool (Op.bytesLess (names.getD (G i) []) (names.getD (G j) [])))/\∃ q,w'=W.drewN q:=by
 have ci:=d i h;have cj:=d j k;have gi:=g i h;have gj:=g j k;have si:=f (G i) gi;have sj:=f (G j) gj
 go_enter Tryz.func78,Tryz.ntmps78
 go_wp2
 go_quiet (fail)
 go_wp2
 go_ret
 refine⟨?_,nq,rfl⟩;simp[List.getD_eq_getElem?_getD,gi,gj]
theorem iX {H:PH}:∀ {ss:List Int} {xs:List Value},cP H 1 (xO .i64 ss) xs->xs=ss.map fun s=>Value.int .i64 s
 | [],xs,h=>by simpa[xO,cP]using h
 | s::ss,xs,h=>by
  simp only[xO,jk,cP]at h;obtain⟨_,a,b,rfl,ha,c⟩:=h;have e:=iX (ss:=ss) (xs:=b) c;simp only[zz,qP]at ha;obtain⟨_,_,rfl,rfl,rfl⟩:=ha;rw[e];rfl
theorem Ni {H:PH}:∀ (ss:List Int),cP H 1 (xO .i64 ss) (ss.map fun s=>Value.int .i64 s)
 | []=>by simp[xO,cP]
 | s::ss=>⟨rfl,[_],_,rfl,by simp only[zz,qP]; exact⟨_,_,rfl,rfl,rfl⟩,Ni ss⟩
theorem Lv (ss:List Int):(xO .i64 ss).length=ss.length:=by simp[xO]
theorem GQ (names:List (List UInt8)) (m:Nat) (a:List Int):(stI names m a).length=a.length:=by simp[stI,SA]
noncomputable def siT:TypeInfo:=(Tryz.prog.info? 144).get (by kernel_rfl)
noncomputable def siE:TypeInfo:=(Tryz.prog.info? 3).get (by kernel_rfl)
theorem siK (n:Nat) (h2:2<=n):Lib.swapperK n siE 2=5:=by
 have a:siE.hasPointers=false:=by kernel_rfl
 have b:siE.bytes=8:=by kernel_rfl
 have c:(n==0)=false:=by simp; omega
 have d:(n==1)=false:=by simp; omega
 simp[Lib.swapperK,a,b,c,d]
theorem qg0:Lib.swapperK 0 siE 2=1:=by simp[Lib.swapperK]
theorem qg1:Lib.swapperK 1 siE 2=2:=by simp[Lib.swapperK]
theorem oM (n cap:Nat) (p:Option Addr) (a:n<=1) (lb:Array Value) (w:World) :
  Calls Tryz.prog 77 #[.iface 144 (.slice p n cap),.func (.func 78) #[] lb] w fun e w'=>e=.returned (.tuple #[])/\∃ os,w'=Go.Sort.grow w os:=by
 rcases(by omega:n=0\/n=1)with rfl|rfl
 ·exact Any.sort_SliceStable_tiny Tryz.laysGt8 144 3 siT siE (by kernel_rfl) (by kernel_rfl) (by kernel_rfl) (by kernel_rfl) 2 (fun _=>by kernel_rfl) p 0 cap (by omega) 169 (by rw[qg0]; kernel_rfl) _ _ _ w
 exact Any.sort_SliceStable_tiny Tryz.laysGt8 144 3 siT siE (by kernel_rfl) (by kernel_rfl) (by kernel_rfl) (by kernel_rfl) 2 (fun _=>by kernel_rfl) p 1 cap (by omega) 170 (by rw[qg1]; kernel_rfl) _ _ _ w
abbrev PQ (m:Nat):Fin (m+1)->Value:=fun x=>.int .i64 ((x.val:Nat):Int)
abbrev Hg (m:Nat) (a:List Int):Array (Fin (m+1)):=(a.map fun i=>Fin.ofNat (m+1) i.toNat).toArray
theorem qet (names:List (List UInt8)) (m:Nat) (hm:names.length=m+1) (a:List Int) (g cap h k bs o d:Nat) (w:World)
  (h2:2<=a.length) (f:a.length<4611686018427387904)
  (z:w.cell? ⟨h,0,none⟩=some (.slice (some ⟨bs,o,none⟩) names.length d)) (ha:w.cell? ⟨k,0,none⟩=some (.slice (some ⟨g,0,none⟩) a.length cap))
  (A:∀ t,t<names.length->w.cell? ⟨bs,o+t,none⟩=some (.string ⟨(names.getD t []).toArray⟩))
  (s:Go.Sort.Holds (PQ m) w g 0 (Hg m a)) (l:g<w.heap.size) (B:h≠g) (C:k≠g) (D:bs≠g) (E:h<w.heap.size) (F:k<w.heap.size) (ls:bs<w.heap.size) :
  Calls Tryz.prog 77 #[.iface 144 (.slice (some ⟨g,0,none⟩) a.length cap),.func (.func 78) #[] #[.pointer (some ⟨h,0,none⟩),.pointer (some ⟨k,0,none⟩)]] w fun e w'=>
   e=.returned (.tuple #[])/\∃ n os,w'=Go.Sort.grow (Go.Sort.putRow (PQ m) (Go.Sort.ahead w n) g 0 (stP (ltN names m) (Hg m a))) os:=by
 have c:(Hg m a).size=a.length:=by simp[Hg]
 have hless:LessReads Tryz.prog 78 #[.pointer (some ⟨h,0,none⟩),.pointer (some ⟨k,0,none⟩)] (PQ m) (ltN names m) g 0 (Hg m a).size w:=by
  intro q os dk u i j G H;have e:sortWorld (PQ m) w g 0 q dk os=Go.Sort.putRow (PQ m) (Go.Sort.grow (Go.Sort.ahead w q) os) g 0 dk:=by
   unfold sortWorld; rw[Go.Sort.putRow_grow _ (Go.Sort.ahead w q) _ g 0 _ l]
  have p:Go.Sort.Holds (PQ m) (Go.Sort.grow (Go.Sort.ahead w q) os) g 0 (Hg m a):=Go.Sort.holds_grow _ _ _ g 0 _ l (Go.Sort.holds_ahead _ _ _ _ _ _ s);have other:∀ b x v,b≠g->b<w.heap.size->w.cell? ⟨b,x,none⟩=some v->(sortWorld (PQ m) w g 0 q dk os).cell? ⟨b,x,none⟩=some v:=fun b x v h1 h2 h3=>by
   rw[e,Go.Sort.cell?_putRow_other _ _ g 0 dk _ (Or.inl h1),Go.Sort.cell?_grow _ _ _ h2]; exact h3
  have:=qcj g cap a.length h k bs o d names (sortWorld (PQ m) w g 0 q dk os) (fun t=>(dk[t]!).val) (other _ _ _ B E z) (other _ _ _ C F ha) (fun t r=>by
   rw[e];have:=Go.Sort.cell?_putRow (PQ m) (Go.Sort.grow (Go.Sort.ahead w q) os) g 0 (Hg m a) dk p u t (by rw[u,c]; exact r);rw[jx]at this;exact this) (fun t r=>other _ _ _ D ls (A t r)) (fun t _=>by rw[hm]; exact(dk[t]!).isLt) i j (by rw[← c]; exact G) (by rw[← c]; exact H)
  exact this
 have y:=Any.sort_SliceStable Tryz.laysGt8 144 3 siT siE (by kernel_rfl) (by kernel_rfl) (by kernel_rfl) (by kernel_rfl) 2 (fun _=>by kernel_rfl) (by kernel_rfl) (fun _=>by kernel_rfl) (PQ m) (fun _=>rfl) (ltN names m) 78 _
  (fun _ _=>Tryz.call78 _ _) g 0 cap (Hg m a) (by rw[c]; exact h2) (by rw[c]; exact f) 173 w
  (fun R hp=>Any.sort_SliceStable_of_stable Tryz.laysGt8 144 3 siT siE (by kernel_rfl) (by kernel_rfl) (by kernel_rfl) (by kernel_rfl) 2 (fun _=>by kernel_rfl) _ _ cap (by rw[c]; exact f) 173 (by rw[c,siK _ h2]; kernel_rfl) _ _ _ w R hp) true
  (fun args W=>run_callFunc_extern Tryz.func173 (by kernel_rfl) (by kernel_rfl) (by kernel_rfl) (e:=Extern.ReflectliteSwapper.swap true) (by kernel_rfl) args W) hless s l
 rw[c]at y;exact y
theorem iq {H:PH} {w:World} (s:SatH H w) (os:Array Obj):Calm H w H (Go.Sort.grow w os):=
 ⟨PH.le.refl H,s.block fun b _ _ a=>Go.Sort.heap_grow_old w os (s.lt a),⟨rfl,rfl,rfl,by simp[Go.Sort.grow],fun b c _=>Go.Sort.heap_grow_old w os c⟩,fun _ _ v a=>.inl ⟨v,a⟩⟩
theorem oE {α:Type} {l:List α} {k:Nat} {x:α} (h:l[k]? =some x):l.set k x=l:=by
 refine List.ext_getElem? fun i=>?_;rw[jF];split
 ·rename_i e; subst e
  obtain⟨hl,_⟩:=jG.1 h;rw[if_pos hl,h]
 rfl
set_option maxRecDepth 100000 in
theorem qck {lo lo':List AObj} {k kn ka n:Nat} {names:List (List UInt8)} {a a':List Int} {R:FV->List AObj->Prop}
  (ho:lo[k]? =some (.vec 3 1 (xO .i64 a))) (hn:lo[kn]? =some (.box 23 [.p (.sl (qi names))])) (ha:lo[ka]? =some (.box 144 [.vsl k n])) (c:Rv names a=some a')
  (hl:lo.set k (.vec 3 1 (xO .i64 a'))=lo') (hR:R (.p (.tup [])) lo') :
  vO Tryz.prog 77 [.ifs 144 (.vsl k n),.clo 78 (.cap (.ptr kn 0) (.cap (.ptr ka 0) .cap0))] lo R:=by
 obtain⟨h1,c⟩:=qg c;obtain⟨h2,c⟩:=qg c;have c:=Option.some.inj c;have N:=kod h1;intro bs ρ H w vs s rl;obtain⟨v1,_,rfl,⟨u,rfl,hρ,hu⟩,v2,_,rfl,⟨cs,rfl,rc⟩,rfl⟩:=rl;obtain⟨L,F,O,r1,M,B,e2,r2,P⟩:=(show ∃ L F,cs=L::F/\qR ρ H (.ptr kn 0) L/\∃ M B,F=M::B/\qR ρ H (.ptr ka 0) M/\B=[]from by
  obtain⟨L,F,O,r1,M,B,e2,r2,P⟩:=rc;have O:cs=L::F:=by simpa using O
  have e2:F=M::B:=by simpa using e2
  have P:B=[]:=by
   have:Value.tuple B.toArray=.tuple #[]:=P;simpa using this
  exact⟨L,F,O,r1,M,B,e2,r2,P⟩)
 subst O e2 P;obtain⟨Bn,hbn,rfl⟩:=r1;obtain⟨Ba,hba,rfl⟩:=r2;obtain⟨Bn',nv,Q,gn,rn,hhn⟩:=s.objs kn _ _ hn hbn;cases Q;obtain⟨Ba',av,G,ga,ra,hha⟩:=s.objs ka _ _ ha hba;cases G;obtain⟨nv1,_,rfl,rn,rfl⟩:=rn;obtain⟨I,_,rfl,⟨hρ2,_⟩,rfl⟩:=ra;have:I=u:=Option.some.inj (hρ2.symm.trans hρ);subst this;rw[Tryz.call77];refine⟨rfl,?_⟩;have ay:a.length<=1->∀ (p:Option Addr) (cap:Nat),I=.slice p a.length cap->Calls Tryz.prog 77 #[.iface 144 I,.func (.func 78) #[] #[.pointer (some ⟨Bn,0,none⟩),.pointer (some ⟨Ba,0,none⟩)]] w fun Q w''=>∃ v r lo',Q=.returned v/\dT bs ρ H r lo' v w''/\R r lo':=by
  intro f p cap e;subst e;refine(oM a.length cap p f _ w).mono fun Q w' q=>?_;obtain⟨rfl,os,rfl⟩:=q;have G:a'=a:=by
   rw[← c];have:Nat.ble a.length 1=true:=Nat.ble_eq_true_of_le f;rw[this]; rfl
  subst G;rw[oE ho]at hl;subst hl;exact⟨_,_,_,rfl,⟨ρ,H,jq _,PH.le.refl H,s.calm (iq s.sath os),by simp only[qR,qP]; exact⟨[],rfl,by simp only[zz]⟩⟩,hR⟩
 obtain⟨xs,S,hr,_,hh⟩:=s.objs k _ _ ho hρ;have hlen:(xO .i64 a).length=a.length:=Lv a;rcases S.2 with ⟨rfl,h0⟩|⟨g,cap,cur,rfl,_,J,hnc,hm,hsz,T⟩
 ·exact ay (by rw[← hlen,h0]; omega) none 0 (by rw[← hlen,h0])
 rw[hlen]at ay ⊢;by_cases f:a.length<=1
 ·exact ay f _ _ rfl
 have C:=List.all_eq_true.1 h2;obtain⟨U,a0,ea0⟩:∃ U a0,a=U::a0:=by
  cases a with
  | nil=>simp at f
  | cons U a0=>exact⟨U,a0,rfl⟩
 obtain⟨m,h⟩:∃ m,names.length=m+1:=by
  have:=C U (by rw[ea0]; exact List.mem_cons_self);simp only[ji]at this;have:=jh this.2;exact⟨names.length - 1,by omega⟩
 have hx:∀ i∈a,((Fin.ofNat (m+1) i.toNat).val:Int)=i:=by
  intro i hi;have:=C i hi;simp only[ji,kde]at this;have h3:=jh this.2;simp only[Fin.ofNat];rw[Nat.mod_eq_of_lt (by omega)];omega
 have D:∀ j (d:j<a.length),cur[j]? =some (Value.int .i64 a[j]):=by
  intro j d;have hxs:=iX hr;have:(cur.toList.take ((xO .i64 a).length * 1))[j]? =xs[j]?:=by rw[T]
  rw[jE,hxs,List.getElem?_map]at this;rw[if_pos (by rw[hlen]; omega)]at this;rw[← Array.getElem?_toList,this];simp[jf d]
 have l:(Hg m a).size=a.length:=by simp[Hg]
 have V:∀ j (d:j<a.length),PQ m (Hg m a)[j]! =.int .i64 a[j]:=by
  intro j d;have e:(Hg m a)[j]! =Fin.ofNat (m+1) (a[j]).toNat:=by
   rw[getElem!_pos _ _ (by rw[l]; exact d)];simp[Hg]
  show Value.int .i64 (((Hg m a)[j]!).val:Int)=_;rw[e,hx _ (List.getElem_mem d)]
 have hH:Go.Sort.Holds (PQ m) w g 0 (Hg m a):=by
  intro j d;have d:j<a.length:=by rw[← l]; exact d
  refine⟨?_,frozen_of_row w g _ cur 3 J⟩;rw[cell_of_row w g _ _ 3 _ J,jx,D j d,V j d]
 have A:∃ b o cap,nv1=.slice (some ⟨b,o,none⟩) names.length cap/\nS H b 1 o (qi names):=by
  simp only[qR,qP]at rn;rcases rn with ⟨h0,_⟩|⟨b,o,z,cap,e,_,X⟩
  ·have:(qi names).length=0:=by rw[h0]; rfl
   simp[qi,h]at this
  refine⟨b,o,cap,by rw[e]; simp[qi],?_⟩;cases Y:names with
  | nil=>rw[Y]at h; cases h
  | cons y ys=>
   rw[Y]at X;have:z=1:=by
    have:=X;simp only[qi,jk,nS]at this;simpa using this.1.symm
   rw[← this]; exact X
 obtain⟨nb,no,Z,rfl,X⟩:=A;have hs:∀ t,t<names.length->H nb (no+t)=some (.string ⟨(names.getD t []).toArray⟩):=fun t T=>by
  refine Qw X t _ ?_;simp[List.getD_eq_getElem?_getD,jf T]
 have hS:=qet names m h a g cap Bn Ba nb no Z w (by omega) N (by rw[cell_of_row w Bn _ _ 23 _ gn]; rfl) (by rw[cell_of_row w Ba _ _ 144 _ ga]; rw[hlen]; rfl)
  (fun t T=>(s.sath.cell _ _ _ (hs t T)).1) hH (xU J) (fun e=>by subst e; rw[J]at gn; cases gn) (fun e=>by subst e; rw[J]at ga; cases ga)
  (fun e=>by subst e; have:=hs 0 (by omega); rw[hh nb rfl]at this; cases this) (xU gn) (xU ga) (s.sath.lt (hs 0 (by omega)))
 refine hS.mono fun Q w' p=>?_;obtain⟨rfl,q,os,rfl⟩:=p;have G:a'=stI names m a:=by
  rw[← c];have:Nat.ble a.length 1=false:=by
   cases hb:Nat.ble a.length 1 with
   | false=>rfl
   | true=>exact absurd (jh hb) f
  rw[this,h]; rfl
 have E:(stP (ltN names m) (Hg m a)).size=a.length:=by rw[SA,l]
 have hw':(Go.Sort.grow (Go.Sort.putRow (PQ m) (Go.Sort.ahead w q) g 0 (stP (ltN names m) (Hg m a))) os).heap[g]? =some (.cells (Go.Sort.putCells (PQ m) 0 (stP (ltN names m) (Hg m a)) cur) 3 (0,0)):=by
  have hlt:=xU J;simp only[Go.Sort.grow,Go.Sort.putRow,Go.Sort.mapBlock,Go.Sort.ahead];rw[Array.getElem?_append_left (by simpa using hlt),Array.getElem?_modify,if_pos rfl,J];rfl
 have hkeep:Keep (fun b=>b=g) w (Go.Sort.grow (Go.Sort.putRow (PQ m) (Go.Sort.ahead w q) g 0 (stP (ltN names m) (Hg m a))) os):=by
  refine⟨rfl,rfl,rfl,?_,fun b hb hne=>?_⟩
  ·simp[Go.Sort.grow,Go.Sort.putRow,Go.Sort.mapBlock,Go.Sort.ahead]
  simp only[Go.Sort.grow,Go.Sort.putRow,Go.Sort.mapBlock,Go.Sort.ahead];rw[Array.getElem?_append_left (by simpa using hb),Array.getElem?_modify,if_neg (fun e=>hne e.symm)]
 subst hl;refine⟨_,_,_,rfl,⟨ρ,H,jq _,PH.le.refl H,?_,by simp only[qR,qP]; exact⟨[],rfl,by simp only[zz]⟩⟩,hR⟩;refine s.upd (k:=k) (b:=g) ho hρ rfl rfl (hh g rfl) hkeep ?_;have K:(xO .i64 a').length=a.length:=by rw[Lv,G,GQ]
 refine⟨a'.map fun s=>Value.int .i64 s,⟨by simp[Lv],.inr ⟨g,cap,_,by rw[K,hlen],jS _,hw',by rw[K,← hlen]; exact hnc,hm,by rw[← hsz]; simp[Go.Sort.putCells],?_⟩⟩,Ni _,?_,fun b hb o'=>hh b hb o'⟩
 ·refine List.ext_getElem? fun j=>?_
  rw[jE,K];split
  ·rename_i d
   have d:j<a.length:=by omega
   have hj2:j<(stP (ltN names m) (Hg m a)).size:=by rw[E]; exact d
   simp only[Go.Sort.putCells,Array.toList_mapIdx,List.getElem?_mapIdx,Array.getElem?_toList,D j d,Option.map_some,List.getElem?_map];rw[G];simp only[stI,List.getElem?_map,Array.getElem?_toList];rw[Array.getElem?_eq_getElem hj2];simp[hj2,E,d]
  rename_i d;rw[List.getElem?_eq_none (by simp[G,GQ]; omega)]
 intro u hu;obtain⟨x,_,rfl⟩:=List.mem_map.1 hu;rfl
end W
end
