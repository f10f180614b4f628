/- A part of the proof: the abstract execution. -/
import Derived.Test.YtglihheagfnakaaGreatShelf
import Derived.WalkKit
import Derived.WalkSpells
import Derived.ChangeArms
import Derived.DataElems
import Derived.DataReads
import Derived.Carry
import Derived.ChangeSame
import Derived.ProofKit
import Derived.OpenShut
import Derived.Test.YtglihheagfnakaaGreatB
set_option linter.unusedVariables false
set_option linter.unusedSimpArgs false
set_option linter.unnecessarySimpa false
set_option linter.deprecated false
set_option linter.unusedSectionVars false
set_option linter.constructorNameAsVariable false
open List renaming getElem?_eq_getElem->jf,mem_cons->jg,map_cons->jk,length_map->jl,length_take->jt,getElem?_append_left->jB,getElem?_append_right->jC,getElem?_drop->jD,getElem?_eq_some_iff->jG,eq_nil_of_length_eq_zero->jI
open Nat renaming le_of_ble_eq_true->jh,eq_of_beq_eq_true->jm,le_refl->jw,zero_add->jx,zero_le->jR
open Bool renaming and_eq_true->ji
section
namespace Ax
open Go
variable {Lw:Nat}
def qS (P:Program) (f:FuncId) (args:List FV) (objs:List AObj) (m:Nat) (R:FV->List AObj->Prop):Prop:=
 ∀ ⦃Lw:Nat⦄ (bs:(Base Lw)) (ρ:List Value) (H:(PH Lw)) (w:World) (vs:List Value),bs.r0=ρ.take m->SatW bs ρ H objs w->zJ ρ H args vs ->
  match (callFunc f vs.toArray).run P w with
  | .ok (.value v) w'=>∃ r a ρ' H',R r a/\PH.le H H'/\SatW bs ρ' H' a w'/\qL ρ' H' r v
  | .ok (.enter f' args') w'=>w'=w/\Calls P f' args' w fun c b=>∃ v r a ρ' H',c=.returned v/\R r a/\PH.le H H'/\SatW bs ρ' H' a b/\qL ρ' H' r v
  | _=>False
theorem qS.mono {P:Program} {f:FuncId} {args:List FV} {objs:List AObj} {m:Nat} {R R':FV->List AObj->Prop} (h:qS P f args objs m R) (d:∀ r lo,R r lo->R' r lo):qS P f args objs m R':=by
 intro Lw bs ρ H w vs g s i;have:=h bs ρ H w vs g s i;generalize (callFunc f vs.toArray).run P w=x at *;cases x with
 | ok n w'=>
  cases n<;>simp only at this ⊢ <;> try exact this
  ·obtain⟨r,a,ρ',H',b,c⟩:=this; exact⟨r,a,ρ',H',d _ _ b,c⟩
  exact⟨this.1,this.2.mono fun k j ⟨v,r,a,ρ',H',e,b,c⟩=>⟨v,r,a,ρ',H',e,d _ _ b,c⟩⟩
 | halt x w'=>exact this
def oz (P:Program) (fn:Func) (m:Nat) (R:FV->List AObj->Prop):KA:=eF P fn fun r0 lo=>∃ r a,R r a/\UY m [(0,r0)] lo [(0,r)] a
def vcO (P:Program) (inl:List Nat) (fn:Func) (args:List FV) (objs:List AObj) (m:Nat) (R:FV->List AObj->Prop):Prop:=
 match fn.body with
 | some c=>vc P inl fn.ntmps m c (oz P fn m R) (nU 0 args) objs
 | none=>False
theorem qS.of_vc {P:Program} {f:FuncId} {fn:Func} {args:List FV} {objs:List AObj} {m:Nat} {R:FV->List AObj->Prop} {inl:List Nat} (hm:P.follows .mixedOrders=true) (he:Enters P f) (J:P.funcs[f]? =some fn) (j:MT inl fn args.length=true)
  (K:m<=objs.length) (h:vcO P inl fn args objs m R):qS P f args objs m R:=by
 intro Lw bs ρ H w vs y s I;rw[he];refine⟨rfl,?_⟩;simp only[MT,ji,kde]at j;obtain⟨z,Q⟩:=j;unfold vcO at h;cases A:fn.body with
 | none=>simp[A]at z
 | some c=>
  simp only[A]at h z;refine calls_of_wp J A ?_;have S:=I.length;have l:bs.r0.length=m:=by rw[y,jt,s.hlen]; omega
  have sat:Sat bs fn.ntmps ρ H (qG (nU 0 args)) objs { tmps:=vs.toArray++Array.replicate (fn.ntmps - vs.toArray.size) undef,defers:=[] } w:=by
   refine{ s with slots:=fun t=>?_,width:=by simp; omega,defers:=rfl }
   rw[Zf];simp only[jR,if_true,Nat.sub_zero];cases L:args[t]? with
   | none=>trivial
   | some p=>
    obtain⟨v,i,B⟩:=I.get L;have C:=(jG.1 i).1;have:(vs.toArray++Array.replicate (fn.ntmps - vs.toArray.size) undef).getD t undef=v:=by
     rw[Array.getD_eq_getD_getElem?,Array.getElem?_append_left (by simpa using C)];simp[i]
    rw[this];exact B
  have g:=uD hm c _ _ _ z h { bs with H0:=H } ρ H _ w l { sat with leH:=PH.le.refl H,newH:=fun b o v i=>.inl ⟨v,i⟩ }
  refine wp_mono g fun e a w' p=>?_;obtain⟨x,ρ',H',E',lo',M,q,k⟩:=p;obtain⟨r0,D,E,n⟩:=HV k;obtain⟨r,d,D,hw⟩:=D;obtain⟨v,i,B⟩:=n _ _ ρ' H' a w' q;have s1:Sat { bs with H0:=H } 1 ρ' H' (qG [(0,r0)]) lo' { tmps:=#[v],defers:=[] } w':=by
   refine{ q.toSatW with slots:=fun t=>?_,width:=rfl,defers:=rfl }
   cases t with
   | zero=>exact B
   | succ t=>simp only[qG]; exact trivial
  obtain⟨ρ2,s2⟩:=UY.sat s1 (by rw[l]; exact hw);have rv2:qL ρ2 H' r v:=s2.slots 0;have oX:∃ v,(results fn a.tmps).run P w'=.ok v w'/\(fun N F=>∃ v r d ρ' H',N=Ending.returned v/\R r d/\PH.le H H'/\SatW bs ρ' H' d F/\qL ρ' H' r v) (.returned v) w':=by
   refine⟨v,i,v,r,d,ρ2,H',rfl,D,s2.leH,?_,rv2⟩;refine{ s2.toSatW with leH:=s.leH.trans s2.leH,newH:=fun b o u hu=>?_ }
   rcases s2.newH b o u hu with ⟨O,G⟩|h|h
   ·exact s.newH b o O G
   ·exact .inr (.inl h)
   exact .inr (.inr h)
  rcases E with rfl|rfl<;>cases e<;>simp only[Pj]at M
  ·exact⟨q.defers,oX⟩
  exact⟨q.defers,oX⟩
def AObj.ren (σ:Nat->Nat):AObj->AObj
 | .box t cells=>.box t (cells.map (FV.ren σ))
 | .mp d es _=>.mp d es none
 | .vl e z rows j k=>.vl e z rows j (σ k)
 | .pbx t c=>.pbx t (c.ren σ)
 | o=>o
theorem qL.ren {ρ ρ':List Value} {H:(PH Lw)} {σ:Nat->Nat} (h:∀ i v,ρ[i]? =some v->ρ'[σ i]? =some v):∀ {f:FV} {x:Value},qL ρ H f x->qL ρ' H (f.ren σ) x
 | .top,_,_=>trivial
 | .p p,x,r=>r
 | .opt g v,x,r=>by
  simp only[FV.ren,qL]at *;split
  ·rename_i d; simp only[d,if_true]at r; exact qL.ren h r
  rename_i d; simpa[d]using r
 | .tsl k rows,x,r=>⟨h _ _ r.1,r.2⟩
 | .ptr k off,x,⟨b,e,e'⟩=>⟨b,h _ _ e,e'⟩
 | .hptr row,x,r=>r
 | .bself k,x,⟨b,e,e'⟩=>⟨b,h _ _ e,e'⟩
 | .bsl k off len cap,x,⟨b,e,e'⟩=>⟨b,h _ _ e,e'⟩
 | .vsl k n,x,r=>⟨h _ _ r.1,r.2⟩
 | .eptr k z i off,x,⟨b,n,cap,e,e'⟩=>⟨b,n,cap,h _ _ e,e'⟩
 | .mref k,x,⟨b,e,e'⟩=>⟨b,h _ _ e,e'⟩
 | .pair a b,x,⟨u,v,e,ra,rb⟩=>⟨u,v,e,ra.ren h,rb.ren h⟩
 | .stmp k,x,r=>h _ _ r
 | .clo f c,x,⟨vs,e,rc⟩=>⟨vs,e,rc.ren h⟩
 | .cap0,x,r=>r
 | .cap a b,x,⟨u,vs,e,ra,rb⟩=>⟨u,vs,e,ra.ren h,rb.ren h⟩
 | .fagg c,x,⟨vs,e,rc⟩=>⟨vs,e,rc.ren h⟩
 | .nxt ok a b,x,r=>r
 | .asl k off n,x,⟨b,m,cap,c,e,e'⟩=>⟨b,m,cap,c,h _ _ e,e'⟩
 | .ifs t c,x,⟨u,e,rc⟩=>⟨u,e,rc.ren h⟩
 | .cut rows,x,r=>r
theorem zJ.ren {ρ ρ':List Value} {H:(PH Lw)} {σ:Nat->Nat} (h:∀ i v,ρ[i]? =some v->ρ'[σ i]? =some v):∀ {cs:List FV} {vs:List Value},zJ ρ H cs vs->zJ ρ' H (cs.map (FV.ren σ)) vs
 | [],_,r=>r
 | _::_,_,⟨v,vs',e,r,rs⟩=>⟨v,vs',e,r.ren h,rs.ren h⟩
theorem sD.ren {ρ ρ':List Value} {H:(PH Lw)} {w:World} {σ:Nat->Nat} (h:∀ i v,ρ[i]? =some v->ρ'[σ i]? =some v) {v:Value} {o:AObj} (ok:sD ρ H w v o):sD ρ' H w v (o.ren σ):=by
 cases o with
 | dead=>trivial
 | box t cells=>
  obtain⟨b,vs,e,a,rc,f⟩:=ok;exact⟨b,vs,e,a,rc.ren h,f⟩
 | tail e z n=>exact ok
 | vec e z rows=>exact ok
 | mp d es mk=>
  obtain⟨b,ents,clock,e,a,q,⟨g,m,_⟩,f⟩:=ok;exact⟨b,ents,clock,e,a,q,⟨g,m,fun key s e=>by cases e⟩,f⟩
 | sit l p=>exact ok
 | bv l=>exact ok
 | vl e z rows j k=>
  obtain⟨xs,g,m,r,x,y⟩:=ok;exact⟨xs,g,m,r,x,fun u hu=>h _ _ (y u hu)⟩
 | pbx t c=>
  obtain⟨b,u,us,e,a,rc,f⟩:=ok;exact⟨b,u,us,e,a,rc.ren h,f⟩
theorem AObj.ren_live (σ:Nat->Nat) (o:AObj):(o.ren σ).live=o.live:=by cases o<;>rfl
def σOf (l:List Nat) (m n:Nat):Nat->Nat:=fun i=>match Nat.blt i m with
 | true=>l.getD i 0
 | false=>n+(i - m)
def SI:List Nat->List Nat->Nat->Nat->Option Nat
 | [],_,_,_=>none
 | k::l,fresh,i,j=>match Nat.beq k j with
  | true=>match fresh.contains i with
   | true=>SI l fresh (i+1) j
   | false=>some i
  | false=>SI l fresh (i+1) j
def Ms (l fresh:List Nat) (m:Nat) (σ:Nat->Nat) (a:List AObj) (j:Nat) (o:AObj):AObj:=
 match SI l fresh 0 j with
 | some i=>match Nat.blt i m with
  | true=>match a[i]? with|some o'=>o'.ren σ|none=>.dead
  | false=>.dead
 | none=>o
def XR (l fresh:List Nat) (m:Nat) (σ:Nat->Nat) (a:List AObj):Nat->List AObj->List AObj
 | _,[]=>(a.drop m).map (AObj.ren σ)
 | j,o::lo=>Ms l fresh m σ a j o::XR l fresh m σ a (j+1) lo
def Nh (l fresh:List Nat) (m:Nat) (lo a:List AObj):List AObj:=XR l fresh m (σOf l m lo.length) a 0 lo
theorem BA {l fresh:List Nat} {m:Nat} {σ:Nat->Nat} {a:List AObj}:∀ {lo:List AObj} {j i:Nat} {o:AObj},(XR l fresh m σ a j lo)[i]? =some o ->
  (∃ b,lo[i]? =some b/\o=Ms l fresh m σ a (j+i) b)\/(lo.length<=i/\∃ b,a[m+(i - lo.length)]? =some b/\o=b.ren σ)
 | [],j,i,o,h=>by
  simp only[XR,List.getElem?_map,jD]at h;cases c:a[m+i]? with
  | none=>simp[c]at h
  | some b=>
   simp[c]at h;exact .inr ⟨jR _,b,by simpa using c,h.symm⟩
 | x::lo,j,0,o,h=>by
  simp only[XR,List.getElem?_cons_zero,Option.some.injEq]at h;exact .inl ⟨x,rfl,h.symm⟩
 | x::lo,j,i+1,o,h=>by
  simp only[XR,List.getElem?_cons_succ]at h;rcases BA h with ⟨b,d,e⟩|⟨d,b,e,f⟩
  ·exact .inl ⟨b,by simpa using d,by rw[e,Nat.add_assoc,Nat.add_comm 1 i]⟩
  refine .inr ⟨by simpa using d,b,?_,f⟩;simpa using e
theorem XS {l fresh:List Nat} {m:Nat} {σ:Nat->Nat} {a:List AObj}:∀ {lo:List AObj} {j:Nat},(XR l fresh m σ a j lo).length=lo.length+(a.length - m)
 | [],j=>by simp[XR]
 | x::lo,j=>by
  simp only[XR,List.length_cons,XS (lo:=lo)];omega
theorem HN {fresh:List Nat} {j:Nat}:∀ {l:List Nat} {i0 i:Nat},SI l fresh i0 j=some i->i0<=i/\l[i - i0]? =some j/\i ∉ fresh
 | [],_,_,h=>by simp[SI]at h
 | k::l,i0,i,h=>by
  simp only[SI]at h;have step:SI l fresh (i0+1) j=some i->i0<=i/\(k::l)[i - i0]? =some j/\i ∉ fresh:=by
   intro h;obtain⟨f,b,c⟩:=HN h;refine⟨by omega,?_,c⟩;have e:i - i0=(i - (i0+1))+1:=by omega
   rw[e];simpa using b
  split at h
  ·rename_i a
   have a:=jm a;split at h
   ·exact step h
   rename_i d;cases h;exact⟨jw _,by simp[a],by simpa using d⟩
  exact step h
theorem HM {fresh:List Nat} {j:Nat}:∀ {l:List Nat} {i0:Nat},SI l fresh i0 j=none->∀ i,l[i]? =some j->i0+i∈fresh
 | [],_,_,i,h=>by simp at h
 | k::l,i0,h,i,hi=>by
  simp only[SI]at h;cases i with
  | zero=>
   simp at hi;subst hi;simp only[Nat.beq_refl]at h;split at h
   ·rename_i a; simpa using a
   cases h
  | succ i=>
   have step:SI l fresh (i0+1) j=none->i0+(i+1)∈fresh:=fun h=>by
    have:=HM h i (by simpa using hi);have e:i0+1+i=i0+(i+1):=by omega
    rwa [e]at this
   split at h
   ·split at h
    ·exact step h
    cases h
   ·exact step h
def leArgs (π:Nat->Nat) (fresh:List Nat):List FV->List FV->Prop
 | [],[]=>True
 | a::l,b::m=>leF π fresh a b/\leArgs π fresh l m
 | _,_=>False
theorem Bz {ρ:List Value} {H:(PH Lw)} {π:Nat->Nat} {fresh:List Nat} {n:Nat}:∀ {xs d:List FV} {vs:List Value},leArgs π fresh xs d->(∀ c∈d,∀ k∈c.names,k<n)->zJ ρ H xs vs->zJ (Lo ρ π fresh n) H d vs
 | [],[],vs,_,_,r=>r
 | [],_::_,_,h,_,_=>by simp[leArgs]at h
 | _::_,[],_,h,_,_=>by simp[leArgs]at h
 | a::xs,b::d,vs,h,hn,r=>by
  simp only[leArgs]at h;obtain⟨v,f,e,g,rs⟩:=r;exact⟨v,f,e,DV h.1 (hn b (by simp)) g,Bz h.2 (fun c i=>hn c (by simp[i])) rs⟩
theorem NU {π:Nat->Nat} {fresh:List Nat} {k:Nat} {o o':AObj} (a:gO π fresh k o o') (b:o'.live=true):o.live=true:=by
 cases o' with
 | dead=>simp[AObj.live]at b
 | box t c=>cases o<;>simp only[gO]at a; rfl
 | tail e z n=>simp only[gO]at a; subst a; rfl
 | vec e z n=>simp only[gO]at a; subst a; rfl
 | mp d es mk=>simp only[gO]at a; obtain⟨_,_,rfl⟩:=a; rfl
 | sit l p=>simp only[gO]at a; subst a; rfl
 | bv l=>simp only[gO]at a; subst a; rfl
 | vl e z rows j k'=>simp only[gO]at a; obtain⟨_,rfl⟩:=a; rfl
 | pbx t c=>cases o<;>simp only[gO]at a; rfl
theorem qS.use {P:Program} {f:FuncId} {args:List FV} {objs:List AObj} {m:Nat} {R:FV->List AObj->Prop} (h:qS P f args objs m R) (l fresh:List Nat) {A:List FV} {lo:List AObj} {K:FV->List AObj->Prop}
  (hw:lJ 0 l fresh=true/\l.length=objs.length/\BB objs.length args=true/\mb objs.length objs=true/\Nat.ble m objs.length=true/\(List.range m).all (fun i=>!fresh.contains i)=true)
  (ha:leArgs (πOf l) fresh A args) (ho:Mp lo (πOf l) fresh 0 objs)
  (hK:∀ r0 q,R r0 q->∃ r lo2,r0.ren (σOf l m lo.length)=r/\Nh l fresh m lo q=lo2/\K r lo2):vF P f A lo K:=by
 obtain⟨E,hl,hnA,hnO,hml,hfr⟩:=hw;have hml:=jh hml;have hfr:∀ i,i<m->i ∉ fresh:=by
  intro i I;have:=List.all_eq_true.1 hfr i (by simpa using I);simpa using this
 simp only[lJ,ji,kde,List.all_eq_true,List.mem_range,Bool.or_eq_true,beq_iff_eq,Bool.not_eq_true',bne_iff_ne]at E;obtain⟨⟨⟨_,_⟩,hinj⟩,hfl⟩:=E;have get:=fun(i:Nat) (o':AObj) (h:objs[i]? =some o')=>VR ho i o' h;simp only[jx]at get;have inj:∀ i j,i<objs.length->j<objs.length->i ∉ fresh->j ∉ fresh->πOf l i=πOf l j->i=j:=by
  intro i j I hj hfi hfj e;have:=hinj i (by omega) j (by omega);simp only[List.contains_iff_mem,hfi,hfj,false_or]at this;rcases this with h|h
  ·exact absurd e h
  exact h
 have hlget:∀ i,i<l.length->l[i]? =some (πOf l i):=fun i I=>by
  simp[πOf,List.getD_eq_getElem?_getD,jf I]
 intro Lw bs ρ H w vs s rl
 let π:=πOf l
 let ρ2:=Lo ρ π fresh objs.length
 have weak:Weak 0 (nU 0 A) lo (nU 0 args) objs π fresh:=by
  refine{ bounds:=fun k O M=>?_,keep:=fun k O=>absurd O (Nat.not_lt_zero _),nb:=jR _,inj:=fun i j oi oj I hj _ _=>inj i j (jG.1 I).1 (jG.1 hj).1,frsh:=fun k O=>?_,obj:=fun k o' ho M=>(get k o' ho).2 M,slot:=?_ }
  ·obtain⟨o,ho,_⟩:=(get k _ (jf O)).2 M
   exact(jG.1 ho).1
  ·have hk':k<objs.length:=by have:=hfl k O; omega
   obtain⟨e,z,he⟩:=(get k _ (jf hk')).1 O;exact⟨e,z,he.imp (fun he=>by rw[jf hk',he]) (fun he=>he.imp (fun he=>by rw[jf hk',he]) (fun⟨j,k2,he⟩=>⟨j,k2,by rw[jf hk',he]⟩))⟩
  have:∀ (n:Nat) (xs ys:List FV),leArgs π fresh xs ys->∀ t v,(t,v)∈nU n ys->leF π fresh (qG (nU n xs) t) v:=by
   intro n xs
   induction xs generalizing n with
   | nil=>
    intro ys U t v hm;cases ys with
    | nil=>simp[nU]at hm
    | cons b ys=>simp[leArgs]at U
   | cons a xs ih=>
    intro ys U t v hm;cases ys with
    | nil=>simp[leArgs]at U
    | cons b ys=>
     simp only[leArgs]at U;simp only[nU,jg,Prod.mk.injEq]at hm;have J:∀ (n:Nat) (bs:List FV) (t:Nat) (v:FV),(t,v)∈nU n bs->n<=t:=by
      intro n bs
      induction bs generalizing n with
      | nil=>intro t v h; simp[nU]at h
      | cons c cs ih2=>
       intro t v h;simp only[nU,jg,Prod.mk.injEq]at h;rcases h with ⟨rfl,_⟩|h
       ·exact jw _
       have:=ih2 (n+1) t v h; omega
     simp only[nU,qG];rcases hm with ⟨rfl,rfl⟩|hm
     ·simp only[Nat.beq_refl]; exact U.1
     have:=J _ _ _ _ hm;have hne:Nat.beq t n=false:=by
      cases hx:Nat.beq t n with
      | false=>rfl
      | true=>have:=jm hx; omega
     simp only[hne];exact ih (n+1) ys U.2 t v hm
  exact this 0 A args ha
 have sat0:Sat { bs with r0:=[] } vs.length ρ H (qG (nU 0 A)) lo { tmps:=vs.toArray,defers:=[] } w:=by
  refine{ s with pre:=List.nil_prefix,slots:=fun t=>?_,width:=by simp,defers:=rfl }
  rw[Zf];simp only[jR,if_true,Nat.sub_zero];cases ht:A[t]? with
  | none=>trivial
  | some p=>
   obtain⟨v,B,rv⟩:=rl.get ht;have:vs.toArray.getD t undef=v:=by
    rw[Array.getD_eq_getD_getElem?];simp[B]
   rw[this];exact rv
 have hnames:Sa (nU 0 args) objs:=by
  refine⟨fun t v hm=>?_,tI hnO,pJ hnO,pL hnO⟩;have:∀ (n:Nat) (bs:List FV) (t:Nat) (v:FV),(t,v)∈nU n bs->v∈bs:=by
   intro n bs
   induction bs generalizing n with
   | nil=>intro t v h; simp[nU]at h
   | cons c cs ih2=>
    intro t v h;simp only[nU,jg,Prod.mk.injEq]at h;rcases h with ⟨_,rfl⟩|h
    ·simp
    exact List.mem_cons_of_mem _ (ih2 (n+1) t v h)
  exact tH hnA v (this 0 args t v hm)
 have s2:=(sat0.weak weak hnames).toSatW;have rl2:zJ ρ2 H args vs:=Bz ha (tH hnA) rl;have ρ2get:∀ {i:Nat} {v:Value},ρ2[i]? =some v->i<objs.length/\((i∈fresh/\v=.slice none 0 0)\/(i ∉ fresh/\ρ[π i]? =some v)):=by
  intro i v B;have O:i<objs.length:=by have:=(jG.1 B).1; simpa[ρ2,Lo]using this
  have D:=B;rw[show ρ2[i]? =_ from ur O]at D;refine⟨O,?_⟩;by_cases M:i∈fresh
  ·simp[M]at D; exact .inl ⟨M,D.symm⟩
  simp only[M,if_false]at D;refine .inr ⟨M,?_⟩;obtain⟨o,ho,_⟩:=(get i _ (jf O)).2 M;have:π i<ρ.length:=by rw[s.hlen]; exact(jG.1 ho).1
  rw[List.getD_eq_getElem?_getD,jf this]at D;rw[jf this];simpa using D
 let bs2:(Base Lw):={ S:=iV ρ2 objs,w0:=w,H0:=H,r0:=ρ2.take m }
 have s2':SatW bs2 ρ2 H objs w:=
  { sath:=s2.sath,hlen:=s2.hlen,pre:=List.take_prefix _ _,objs:=s2.objs,excl:=s2.excl,own:=fun k o v b O B hl E=>.inl ⟨k,o,v,O,B,hl,E⟩,keep:=Keep.refl _ w,leH:=PH.le.refl H,newH:=fun b o v h=>.inl ⟨v,h⟩ }
 have lentS:∀ b,iV ρ2 objs b->∃ i o v,i<objs.length/\i ∉ fresh/\lo[π i]? =some o/\ρ[π i]? =some v/\o.live=true/\qI v=some b:=by
  rintro b ⟨i,o,v,I,B,hl',E⟩;obtain⟨hlt,hc⟩:=ρ2get B;rcases hc with ⟨_,rfl⟩|⟨M,D⟩
  ·simp[qI]at E
  obtain⟨V,ho0,L⟩:=(get i o I).2 M;exact⟨i,V,v,hlt,M,ho0,D,NU L hl',E⟩
 have key:∀ (r0:FV) (q:List AObj) (ρ':List Value) (H':(PH Lw)) (w':World) (v:Value),R r0 q->PH.le H H'->SatW bs2 ρ' H' q w'->qL ρ' H' r0 v->∃ r lo',dJ bs ρ H r lo' v w'/\K r lo':=by
  intro r0 q ρ' H' w' v hR L N rv;obtain⟨r,lo2,rfl,rfl,O⟩:=hK r0 q hR;refine⟨_,_,?_,O⟩;have Q:ρ2.length=objs.length:=by simp[ρ2,Lo]
  have hpre:ρ2.take m <+: ρ':=N.pre;have hm':m<=ρ'.length:=by
   have:=hpre.length_le;rw[jt,Q]at this;omega
  have hold:∀ i,i<m->ρ'[i]? =ρ2[i]?:=by
   intro i I;obtain⟨t,ht⟩:=hpre;rw[← ht,jB (by rw[jt,Q]; omega),List.getElem?_take,if_pos I]
  have hσ:∀ i v,ρ'[i]? =some v->(ρ++ρ'.drop m)[σOf l m lo.length i]? =some v:=by
   intro i v B;unfold σOf;by_cases I:i<m
   ·have:Nat.blt i m=true:=Nat.ble_eq_true_of_le I
    simp only[this];rw[hold i I]at B;obtain⟨hlt,hc⟩:=ρ2get B;rcases hc with ⟨M,_⟩|⟨_,D⟩
    ·exact absurd M (hfr i I)
    have hπ:l.getD i 0=π i:=rfl;rw[hπ,jB (jG.1 D).1];exact D
   have:Nat.blt i m=false:=by
    cases hx:Nat.blt i m with
    | false=>rfl
    | true=>exact absurd (jh hx) I
   simp only[this];rw[jC (by rw[s.hlen]; omega),s.hlen,Nat.add_sub_cancel_left,jD];have e:m+(i - m)=i:=by omega
   rw[e];exact B
  have cls:∀ (j:Nat) (o:AObj) (v:Value),(Nh l fresh m lo q)[j]? =some o->(ρ++ρ'.drop m)[j]? =some v->o.live=true ->
    (∃ i V,q[i]? =some V/\ρ'[i]? =some v/\o=V.ren (σOf l m lo.length)/\j=σOf l m lo.length i) \/
    (j<lo.length/\lo[j]? =some o/\ρ[j]? =some v/\∀ i,i<objs.length->i ∉ fresh->π i≠j):=by
   intro j o v hj B d;rcases BA hj with ⟨V,F,C⟩|⟨F,V,C,h3⟩
   ·have hjl:=(jG.1 F).1
    rw[jB (by rw[s.hlen]; exact hjl)]at B;rw[jx]at C;unfold Ms at C;split at C
    ·rename_i i hp
     obtain⟨_,hli,hif⟩:=HN hp;rw[Nat.sub_zero]at hli;have hil:i<l.length:=(jG.1 hli).1;have hπ:π i=j:=by have:=hlget i hil; rw[hli]at this; exact(Option.some.inj this).symm
     split at C
     ·rename_i him
      have him:i<m:=jh him;split at C
      ·rename_i o' ho'
       refine .inl ⟨i,o',ho',?_,C,?_⟩
       ·rw[hold i him]
        have hik:i<objs.length:=by omega
        rw[show ρ2[i]? =_ from ur hik];simp only[hif,if_false];rw[List.getD_eq_getElem?_getD,hπ,B];rfl
       unfold σOf;simp only[show Nat.blt i m=true from Nat.ble_eq_true_of_le him];exact hπ.symm
      rw[C]at d; simp[AObj.live]at d
     rw[C]at d; simp[AObj.live]at d
    rename_i hp;refine .inr ⟨hjl,by rw[C]; exact F,B,fun i I M e=>?_⟩;have:=HM hp i (by rw[hlget i (by omega)]; exact congrArg some e);rw[jx]at this;exact M this
   refine .inl ⟨m+(j - lo.length),V,C,?_,h3,?_⟩
   ·rw[jC (by rw[s.hlen]; exact F),s.hlen,jD]at B
    exact B
   unfold σOf;have:Nat.blt (m+(j - lo.length)) m=false:=by
    cases hx:Nat.blt (m+(j - lo.length)) m with
    | false=>rfl
    | true=>have:=jh hx; omega
   simp only[this];omega
  have apart:∀ (j:Nat) (o:AObj) (v:Value) (b:Nat),lo[j]? =some o->ρ[j]? =some v->(∀ i,i<objs.length->i ∉ fresh->π i≠j)->o.live=true->qI v=some b->¬ iV ρ2 objs b:=by
   intro j o v b hj B T d E hlent;obtain⟨i,V,v0,I,M,ho0,hv0,hl0,hb0⟩:=lentS b hlent;exact s.excl (π i) j V o v0 v b ho0 hj hv0 B (T i I M) hl0 d hb0 E
  have old:∀ (j:Nat) (o:AObj) (v:Value) (b:Nat),lo[j]? =some o->ρ[j]? =some v->o.live=true->qI v=some b->b<w.heap.size:=by
   intro j o v b hj B d E;have hfresh:=s.fresh (g:=b);rcases Nat.lt_or_ge b w.heap.size with h|h
   ·exact h
   exact absurd E (hfresh h j o v hj B d)
  have ownS:∀ b,bs2.S b\/w.heap.size<=b->bs.S b\/bs.w0.heap.size<=b:=by
   rintro b (E|E)
   ·obtain⟨i,V,v0,_,_,ho0,hv0,hl0,hb0⟩:=lentS b E
    exact s.own _ V v0 b ho0 hv0 hl0 hb0
   exact .inr (Nat.le_trans s.keep.size E)
  refine⟨ρ++ρ'.drop m,H',List.prefix_append _ _,L,?_,rv.ren hσ⟩;refine{ sath:=N.sath,hlen:=?_,pre:=s.pre.trans (List.prefix_append _ _),objs:=?_,excl:=?_,own:=?_,keep:=?_,leH:=s.leH.trans L,newH:=?_ }
  ·unfold Nh
   rw[XS,List.length_append,List.length_drop,s.hlen,N.hlen]
  ·intro j o v hj B
   cases d:o.live with
   | false=>cases o<;>simp[AObj.live]at d; trivial
   | true=>
    rcases cls j o v hj B d with ⟨i,V,F,C,rfl,_⟩|⟨hjl,F,C,T⟩
    ·exact(N.objs i V v F C).ren hσ
    refine(s.objs j o v F C).keep (List.prefix_append _ _) L (fun b E hlt=>N.keep.block b hlt (apart j o v b F C T d E)) (fun b o' E hlt hn=>?_)
    cases hx:H' b o' with
    | none=>rfl
    | some u=>
     rcases N.newH b o' u hx with ⟨y,hy⟩|hS|J
     ·have hy':H b o'=some y:=hy
      rw[hn]at hy'; cases hy'
     ·exact absurd hS (apart j o v b F C T d E)
     have hge':w.heap.size<=b:=J;omega
  ·intro j1 j2 o1 o2 v1 v2 b hj1 hj2 hv1 hv2 hne X Y hb1 hb2
   rcases cls j1 o1 v1 hj1 hv1 X with ⟨i1,a1,F,G,rfl,e1⟩|⟨hjl1,F,G,hnot1⟩<;>rcases cls j2 o2 v2 hj2 hv2 Y with ⟨i2,a2,C,Z,rfl,e2⟩|⟨hjl2,C,Z,hnot2⟩
   ·exact N.excl i1 i2 a1 a2 v1 v2 b F C G Z (fun e=>hne (by rw[e1,e2,e])) (by rw[← AObj.ren_live]; exact X) (by rw[← AObj.ren_live]; exact Y) hb1 hb2
   ·have:=N.own i1 a1 v1 b F G (by rw[← AObj.ren_live]; exact X) hb1
    rcases this with hS|J
    ·exact apart j2 o2 v2 b C Z hnot2 Y hb2 hS
    have hge':w.heap.size<=b:=J;have:=old j2 o2 v2 b C Z Y hb2;omega
   ·have:=N.own i2 a2 v2 b C Z (by rw[← AObj.ren_live]; exact Y) hb2
    rcases this with hS|J
    ·exact apart j1 o1 v1 b F G hnot1 X hb1 hS
    have hge':w.heap.size<=b:=J;have:=old j1 o1 v1 b F G X hb1;omega
   exact s.excl j1 j2 o1 o2 v1 v2 b F C G Z hne X Y hb1 hb2
  ·intro j o v b hj B d E
   rcases cls j o v hj B d with ⟨i,a,F,G,rfl,_⟩|⟨_,F,G,_⟩
   ·exact ownS b (N.own i a v b F G (by rw[← AObj.ren_live]; exact d) E)
   exact s.own j o v b F G d E
  ·exact s.keep.step N.keep fun i I=>ownS i (.inl I)
  intro b o u hu;rcases N.newH b o u hu with ⟨y,hy⟩|hS|J
  ·exact s.newH b o y hy
  ·exact .inr (ownS b (.inl hS))
  exact .inr (ownS b (.inr J))
 have:=h bs2 ρ2 H w vs rfl s2' rl2;generalize (callFunc f vs.toArray).run P w=x at *;cases x with
 | ok n w'=>
  cases n<;>simp only at this ⊢ <;> try exact this
  ·obtain⟨r0,q,ρ',H',hR,L,N,rv⟩:=this
   exact key r0 q ρ' H' w' _ hR L N rv
  obtain⟨rfl,hc⟩:=this;exact⟨rfl,hc.mono fun en w'' ⟨v,r0,q,ρ',H',e,hR,L,N,rv⟩=>by
   obtain⟨r,lo',af,k⟩:=key r0 q ρ' H' w'' v hR L N rv;exact⟨v,r,lo',e,af,k⟩⟩
 | halt x w'=>exact this
end Ax
end
section
namespace Ax
open Go
variable {Lw:Nat}
section
variable {K V:Type} [BEq K]
end
theorem Codec.getN {A:Type} (C:Codec A) {l:List A} {j:Nat} {x:A} (h:l[j]? =some x):(C.rows l)[j]? =some (C.cells x):=by
 rw[C.hrows]; simp[h]
theorem Codec.setN {A:Type} (C:Codec A) (l:List A) (j:Nat) (y:A):(C.rows l).set j (C.cells y)=C.rows (l.set j y):=by
 rw[C.hrows,C.hrows,List.map_set]
theorem Codec.ne_nil {A:Type} (C:Codec A) (x:A) (l:List A):C.rows (x::l)≠[]:=by rw[C.hrows]; simp
end Ax
end
section
open Go
namespace Ax
theorem wk {nb:Nat} {E:Env} {lo:List AObj} {E':Env} {lo':List AObj} (l fresh:List Nat) (h:lK nb l fresh lo'=true/\l.length=lo'.length/\HG lo'.length E'=true/\mb lo'.length lo'=true:=by exact⟨rfl,rfl,rfl,rfl⟩)
  (h1:RR E (πOf l) fresh E':=by repeat (first|exact trivial|exact .inl rfl|exact rfl|exact List.not_mem_nil|(refine .inr ?_)|(refine⟨?_,?_⟩)|exact List.length_set.symm|decide))
  (h2:Mp lo (πOf l) fresh 0 lo':=by repeat (first|exact trivial|exact .inl rfl|exact rfl|exact List.not_mem_nil|(refine .inr ?_)|(refine⟨?_,?_⟩)|exact List.length_set.symm|decide)):UY nb E lo E' lo':=⟨l,fresh,h,h1,h2⟩
theorem zz {P:Program} {f:FuncId} {args:List FV} {objs:List AObj} {m:Nat} {R:FV->List AObj->Prop} (h:qS P f args objs m R) (l fresh:List Nat) {args':List FV} {lo:List AObj} {K:FV->List AObj->Prop}
  (hK:∀ r0 objs',R r0 objs'->∃ r lo2,r0.ren (σOf l m lo.length)=r/\Nh l fresh m lo objs'=lo2/\K r lo2)
  (hw:lJ 0 l fresh=true/\l.length=objs.length/\BB objs.length args=true/\mb objs.length objs=true/\Nat.ble m objs.length=true/\(List.range m).all (fun i=>!fresh.contains i)=true:=by exact⟨rfl,rfl,rfl,rfl,rfl,rfl⟩)
  (ha:leArgs (πOf l) fresh args' args:=by repeat (first|exact trivial|exact .inl rfl|exact rfl|exact List.not_mem_nil|(refine .inr ?_)|(refine⟨?_,?_⟩)|exact List.length_set.symm|decide))
  (ho:Mp lo (πOf l) fresh 0 objs:=by repeat (first|exact trivial|exact .inl rfl|exact rfl|exact List.not_mem_nil|(refine .inr ?_)|(refine⟨?_,?_⟩)|exact List.length_set.symm|decide)):vF P f args' lo K:=qS.use h l fresh hw ha ho hK
theorem oX {P:Prop} (h:P:=by repeat (first|exact rfl|exact trivial|refine⟨?_,?_⟩)):P:=h
theorem ifc {R:Type} {c:Bool} {a b:Option R} {r:R} {P Q:Prop} (h:(bif c then a else b)=some r) (f:c=true->a=some r->P) (g:c=false->b=some r->Q):(c=true->P)/\(c=false->Q):=
 ⟨fun hc=>f hc (uA h hc),fun hc=>g hc (uz h hc)⟩
theorem sj {A:Type} {a b:A} (h:some a=some b):a=b:=Option.some.inj h
theorem bq {A R:Type} {o:Option A} {k:A->Option R} {r:R} {G:Prop} (h:bnd o k=some r) (f:∀ x,o=some x->k x=some r->G):G:=by
 obtain⟨x,h1,h2⟩:=zx h;exact f x h1 h2
end Ax
end
section
namespace W
open Go Ax
inductive qd where
 | mk (op:Int) (name:List UInt8) (val:Val) (names:List (List UInt8)) (args:List qd)
mutual
def qd.cells:qd->List PV
 | .mk op name ⟨k,b,i,s,l,ks⟩ names args=>[.int .i64 op,.str name,.int .i64 k,.bool b,.int .i64 i,.str s,.sl (Val.rows l),.sl (qi ks),.sl (qi names),.sl (qd.rows args)]
def qd.rows:List qd->List (List PV)
 | []=>[]
 | v::l=>v.cells::qd.rows l
end
theorem qd.rows_eq:∀ l:List qd,qd.rows l=l.map qd.cells
 | []=>rfl
 | v::l=>by simp only[qd.rows,jk]; rw[qd.rows_eq l]
theorem qd.width (e:qd):e.cells.length=10:=by obtain⟨_,_,⟨_,_,_,_,_,_⟩,_,_⟩:=e; rfl
theorem qd.one (e:qd):e.cells.all Eo=true:=by obtain⟨_,_,⟨_,_,_,_,_,_⟩,_,_⟩:=e; rfl
def xT:Codec qd:={ cells:=qd.cells,rows:=qd.rows,z:=10,hrows:=fun l=>qd.rows_eq l,hz:=qd.width,hone:=qd.one }
instance:Inhabited qd:=⟨.mk 0 [] default [] []⟩
structure qe where
 var_:List UInt8
 labels:List (List UInt8)
 keys:List (List UInt8)
 vals:List qd
def qe.cells:qe->List PV
 | ⟨x1,x2,x3,x4⟩=>[.str x1,.sl (qi x2),.sl (qi x3),.sl (qd.rows x4)]
def qe.rows (l:List qe):List (List PV):=l.map qe.cells
def ua:Codec qe:={ cells:=qe.cells,rows:=qe.rows,z:=4,hrows:=fun _=>rfl,hz:=fun⟨a,b,c,d⟩=>rfl,hone:=fun⟨a,b,c,d⟩=>rfl }
deriving instance Inhabited for qe
structure qg where
 var_:List UInt8
 type_:List UInt8
 dir:Int
 keys:List (List UInt8)
 vals:List qd
def qg.cells:qg->List PV
 | ⟨x1,x2,x3,x4,x5⟩=>[.str x1,.str x2,.int .i64 x3,.sl (qi x4),.sl (qd.rows x5)]
def qg.rows (l:List qg):List (List PV):=l.map qg.cells
def gV:Codec qg:={ cells:=qg.cells,rows:=qg.rows,z:=5,hrows:=fun _=>rfl,hz:=fun⟨a,b,c,d,e⟩=>rfl,hone:=fun⟨a,b,c,d,e⟩=>rfl }
deriving instance Inhabited for qg
structure zU where
 nodes:List qe
 edges:List qg
def zU.cells:zU->List PV
 | ⟨x1,x2⟩=>[.sl (qe.rows x1),.sl (qg.rows x2)]
def zU.rows (l:List zU):List (List PV):=l.map zU.cells
def Qc:Codec zU:={ cells:=zU.cells,rows:=zU.rows,z:=2,hrows:=fun _=>rfl,hz:=fun⟨a,b⟩=>rfl,hone:=fun⟨a,b⟩=>rfl }
deriving instance Inhabited for zU
structure xj where
 e:qd
 as_:List UInt8
def xj.cells:xj->List PV
 | ⟨⟨x1,x2,⟨x3,x4,x5,x6,x7,x8⟩,x9,x10⟩,x11⟩=>[.int .i64 x1,.str x2,.int .i64 x3,.bool x4,.int .i64 x5,.str x6,.sl (Val.rows x7),.sl (qi x8),.sl (qi x9),.sl (qd.rows x10),.str x11]
def xj.rows (l:List xj):List (List PV):=l.map xj.cells
def Bf:Codec xj:={ cells:=xj.cells,rows:=xj.rows,z:=11,hrows:=fun _=>rfl,hz:=fun⟨⟨c,d,⟨e,f,g,h,i,j⟩,k,a⟩,b⟩=>rfl,hone:=fun⟨⟨c,d,⟨e,f,g,h,i,j⟩,k,a⟩,b⟩=>rfl }
deriving instance Inhabited for xj
structure zy where
 e:qd
 down:Bool
def zy.cells:zy->List PV
 | ⟨⟨x1,x2,⟨x3,x4,x5,x6,x7,x8⟩,x9,x10⟩,x11⟩=>[.int .i64 x1,.str x2,.int .i64 x3,.bool x4,.int .i64 x5,.str x6,.sl (Val.rows x7),.sl (qi x8),.sl (qi x9),.sl (qd.rows x10),.bool x11]
def zy.rows (l:List zy):List (List PV):=l.map zy.cells
def XW:Codec zy:={ cells:=zy.cells,rows:=zy.rows,z:=11,hrows:=fun _=>rfl,hz:=fun⟨⟨c,d,⟨e,f,g,h,i,j⟩,k,a⟩,b⟩=>rfl,hone:=fun⟨⟨c,d,⟨e,f,g,h,i,j⟩,k,a⟩,b⟩=>rfl }
deriving instance Inhabited for zy
structure qv where
 var_:List UInt8
 key:List UInt8
 label:List UInt8
 e:qd
def qv.cells:qv->List PV
 | ⟨x1,x2,x3,⟨x4,x5,⟨x6,x7,x8,x9,x10,x11⟩,x12,x13⟩⟩=>[.str x1,.str x2,.str x3,.int .i64 x4,.str x5,.int .i64 x6,.bool x7,.int .i64 x8,.str x9,.sl (Val.rows x10),.sl (qi x11),.sl (qi x12),.sl (qd.rows x13)]
def qv.rows (l:List qv):List (List PV):=l.map qv.cells
def pQ:Codec qv:={ cells:=qv.cells,rows:=qv.rows,z:=13,hrows:=fun _=>rfl,hz:=fun⟨e,f,g,⟨h,i,⟨j,k,l,m,a,b⟩,c,d⟩⟩=>rfl,hone:=fun⟨e,f,g,⟨h,i,⟨j,k,l,m,a,b⟩,c,d⟩⟩=>rfl }
deriving instance Inhabited for qv
structure qy where
 kind:Int
 paths:List zU
 where_:List qd
 e:qd
 var_:List UInt8
 items:List xj
 unique:Bool
 order:List zy
 skip:List qd
 limit:List qd
 sets:List qv
 vars:List (List UInt8)
 detach:Bool
def qy.cells:qy->List PV
 | ⟨x1,x2,x3,⟨x4,x5,⟨x6,x7,x8,x9,x10,x11⟩,x12,x13⟩,x14,x15,x16,x17,x18,x19,x20,x21,x22⟩=>[.int .i64 x1,.sl (zU.rows x2),.sl (qd.rows x3),.int .i64 x4,.str x5,.int .i64 x6,.bool x7,.int .i64 x8,.str x9,.sl (Val.rows x10),.sl (qi x11),.sl (qi x12),.sl (qd.rows x13),.str x14,.sl (xj.rows x15),.bool x16,.sl (zy.rows x17),.sl (qd.rows x18),.sl (qd.rows x19),.sl (qv.rows x20),.sl (qi x21),.bool x22]
def qy.rows (l:List qy):List (List PV):=l.map qy.cells
def ub:Codec qy:={ cells:=qy.cells,rows:=qy.rows,z:=22,hrows:=fun _=>rfl,hz:=fun⟨n,o,p,⟨q,r,⟨s,t,u,v,a,b⟩,c,d⟩,e,f,g,h,i,j,k,l,m⟩=>rfl,hone:=fun⟨n,o,p,⟨q,r,⟨s,t,u,v,a,b⟩,c,d⟩,e,f,g,h,i,j,k,l,m⟩=>rfl }
deriving instance Inhabited for qy
structure UX where
 clauses:List qy
def UX.cells:UX->List PV
 | ⟨x1⟩=>[.sl (qy.rows x1)]
def UX.rows (l:List UX):List (List PV):=l.map UX.cells
def lx:Codec UX:={ cells:=UX.cells,rows:=UX.rows,z:=1,hrows:=fun _=>rfl,hz:=fun⟨a⟩=>rfl,hone:=fun⟨a⟩=>rfl }
deriving instance Inhabited for UX
structure qo where
 kind:Int
 text:List UInt8
 int:Int
 at_:Int
def qo.cells:qo->List PV
 | ⟨x1,x2,x3,x4⟩=>[.int .i64 x1,.str x2,.int .i64 x3,.int .i64 x4]
def qo.rows (l:List qo):List (List PV):=l.map qo.cells
def mf:Codec qo:={ cells:=qo.cells,rows:=qo.rows,z:=4,hrows:=fun _=>rfl,hz:=fun⟨a,b,c,d⟩=>rfl,hone:=fun⟨a,b,c,d⟩=>rfl }
deriving instance Inhabited for qo
structure Node where
 id:Int
 labels:List (List UInt8)
 keys:List (List UInt8)
 vals:List Val
def Node.cells:Node->List PV
 | ⟨x1,x2,x3,x4⟩=>[.int .i64 x1,.sl (qi x2),.sl (qi x3),.sl (Val.rows x4)]
def Node.rows (l:List Node):List (List PV):=l.map Node.cells
def zL:Codec Node:={ cells:=Node.cells,rows:=Node.rows,z:=4,hrows:=fun _=>rfl,hz:=fun⟨a,b,c,d⟩=>rfl,hone:=fun⟨a,b,c,d⟩=>rfl }
deriving instance Inhabited for Node
structure Edge where
 id:Int
 from_:Int
 to:Int
 type_:List UInt8
 keys:List (List UInt8)
 vals:List Val
def Edge.cells:Edge->List PV
 | ⟨x1,x2,x3,x4,x5,x6⟩=>[.int .i64 x1,.int .i64 x2,.int .i64 x3,.str x4,.sl (qi x5),.sl (Val.rows x6)]
def Edge.rows (l:List Edge):List (List PV):=l.map Edge.cells
def zD:Codec Edge:={ cells:=Edge.cells,rows:=Edge.rows,z:=6,hrows:=fun _=>rfl,hz:=fun⟨a,b,c,d,e,f⟩=>rfl,hone:=fun⟨a,b,c,d,e,f⟩=>rfl }
deriving instance Inhabited for Edge
structure Graph where
 nodes:List Node
 edges:List Edge
def Graph.cells:Graph->List PV
 | ⟨x1,x2⟩=>[.sl (Node.rows x1),.sl (Edge.rows x2)]
def Graph.rows (l:List Graph):List (List PV):=l.map Graph.cells
def vG:Codec Graph:={ cells:=Graph.cells,rows:=Graph.rows,z:=2,hrows:=fun _=>rfl,hz:=fun⟨a,b⟩=>rfl,hone:=fun⟨a,b⟩=>rfl }
deriving instance Inhabited for Graph
structure Env where
 names:List (List UInt8)
 vals:List Val
def Env.cells:Env->List PV
 | ⟨x1,x2⟩=>[.sl (qi x1),.sl (Val.rows x2)]
def Env.rows (l:List Env):List (List PV):=l.map Env.cells
def SV:Codec Env:={ cells:=Env.cells,rows:=Env.rows,z:=2,hrows:=fun _=>rfl,hz:=fun⟨a,b⟩=>rfl,hone:=fun⟨a,b⟩=>rfl }
deriving instance Inhabited for Env
structure cG where
 node:Int
 edge:Int
def cG.cells:cG->List PV
 | ⟨x1,x2⟩=>[.int .i64 x1,.int .i64 x2]
def cG.rows (l:List cG):List (List PV):=l.map cG.cells
deriving instance Inhabited for cG
structure State where
 g:Graph
 next:cG
def State.cells:State->List PV
 | ⟨⟨x1,x2⟩,⟨x3,x4⟩⟩=>[.sl (Node.rows x1),.sl (Edge.rows x2),.int .i64 x3,.int .i64 x4]
def State.rows (l:List State):List (List PV):=l.map State.cells
def mH:Codec State:={ cells:=State.cells,rows:=State.rows,z:=4,hrows:=fun _=>rfl,hz:=fun⟨⟨a,b⟩,⟨c,d⟩⟩=>rfl,hone:=fun⟨⟨a,b⟩,⟨c,d⟩⟩=>rfl }
deriving instance Inhabited for State
structure Given where
 v:Env
 s:State
 params:Val
def Given.cells:Given->List PV
 | ⟨⟨x1,x2⟩,⟨⟨x3,x4⟩,⟨x5,x6⟩⟩,⟨x7,x8,x9,x10,x11,x12⟩⟩=>[.sl (qi x1),.sl (Val.rows x2),.sl (Node.rows x3),.sl (Edge.rows x4),.int .i64 x5,.int .i64 x6,.int .i64 x7,.bool x8,.int .i64 x9,.str x10,.sl (Val.rows x11),.sl (qi x12)]
def Given.rows (l:List Given):List (List PV):=l.map Given.cells
def XM:Codec Given:={ cells:=Given.cells,rows:=Given.rows,z:=12,hrows:=fun _=>rfl,hz:=fun⟨⟨d,e⟩,⟨⟨f,g⟩,⟨h,i⟩⟩,⟨j,k,l,a,b,c⟩⟩=>rfl,hone:=fun⟨⟨d,e⟩,⟨⟨f,g⟩,⟨h,i⟩⟩,⟨j,k,l,a,b,c⟩⟩=>rfl }
deriving instance Inhabited for Given
structure Made where
 keys:List (List UInt8)
 vals:List Val
def Made.cells:Made->List PV
 | ⟨x1,x2⟩=>[.sl (qi x1),.sl (Val.rows x2)]
def Made.rows (l:List Made):List (List PV):=l.map Made.cells
def gA:Codec Made:={ cells:=Made.cells,rows:=Made.rows,z:=2,hrows:=fun _=>rfl,hz:=fun⟨a,b⟩=>rfl,hone:=fun⟨a,b⟩=>rfl }
deriving instance Inhabited for Made
end W
end
section
open Go Go.Proofs Go.RowKit
namespace Ax
variable {Lw:Nat}
theorem Hl {bs:(Base Lw)} {ρ:List Value} {H:(PH Lw)} {lo:List AObj} {w w':World} (s:SatW bs ρ H lo w) {e:TypeId} {z n:Nat} {v':Value} {xs:List Value} (f:Below w.heap.size w w')
  (i:w'.ownsRow w.heap.size e z v' n xs) (C:∀ u∈xs,u.oneCell'=true) :
  PH.le H (xk H v' xs)/\w'.ownsRow 0 e z v' n xs/\SatW bs (ρ++[v']) (xk H v' xs) (lo++[.tail e z n]) w':=by
 have q:∀ b,qI v'=some b->w.heap.size<=b:=by
  intro b f;rcases i.2 with ⟨rfl,_⟩|⟨g,cap,cur,rfl,A,_⟩
  ·simp[qI]at f
  simp[qI]at f; omega
 have v:∀ b o u,qI v'=some b->H b o=some u->False:=fun b o u f hu=>by
  have G:=s.sath.lt hu;have I:=q b f;omega
 have l:PH.le H (xk H v' xs):=by
  intro b o u hu;unfold xk;rw[if_neg (fun r=>v b o u r.1 hu)]
  exact hu
 have d:w'.ownsRow 0 e z v' n xs:=⟨i.1,i.2.imp id fun⟨g,cap,cur,a,b,c⟩=>⟨g,cap,cur,a,jR _,c⟩⟩;have hcell:∀ g,qI v'=some g->∀ o u,xs[o]? =some u->w'.cell? ⟨g,o,none⟩=some u:=by
  intro g A o u hu;have:=d.cells (g:=g) (by
   rcases d.2 with ⟨rfl,_⟩|⟨J,cap,cur,rfl,_⟩
   ·simp[qI]at A
   simpa[qI,Value.ownBlock]using A) o u hu
  rwa [Addr.add_lit,jx]at this
 have hkeep:∀ S,Keep S w w':=fun S=>⟨f.os,f.tape,f.output,f.size,fun k D _=>f.block k D⟩
 have m:SatH (xk H v' xs) w':=by
  refine⟨?_,s.sath.root.mono l,Nat.le_trans s.sath.low f.size,?_⟩
  rotate_left
  ·intro b o u hu E
   by_cases x:qI v'=some b
   ·exact .own d x
   unfold xk at hu;rw[if_neg (fun r=>x r.1)]at hu
   exact(s.sath.nf b o u hu E).block (f.block b (s.sath.lt hu))
  intro b o u hu;unfold xk at hu;split at hu
  ·rename_i r
   exact⟨hcell b r.1 o u hu,C u (List.mem_of_getElem? hu)⟩
  obtain⟨B,hone⟩:=s.sath.cell b o u hu;refine⟨?_,hone⟩;rw[World.cell?_of_block (w:=w) (a:=⟨b,o,none⟩) (f.block b (s.sath.lt hu))];exact B
 have y:∀ ρ,sD ρ (xk H v' xs) w' v' (.tail e z n):=by
  intro ρ;refine⟨xs,d,fun b f=>⟨fun j u hu=>?_,fun o K=>?_⟩⟩
  ·unfold xk
   rw[if_pos ⟨f,(jG.1 hu).1⟩];exact hu
  unfold xk;rw[if_neg (by rw[i.1]; omega)];cases F:H b o with
  | none=>rfl
  | some u=>exact(v b o u f F).elim
 have p:∀ b o u,xk H v' xs b o=some u->(∃ u,H b o=some u)\/qI v'=some b:=by
  intro b o u hu;unfold xk at hu;split at hu
  ·rename_i r; exact .inr r.1
  exact .inl ⟨u,hu⟩
 refine⟨l,d,?_⟩;cases t:qI v' with
 | none=>
  refine s.push (g:=w.heap.size) (.inr t) (s.fresh (jw _)) (.inr s.keep.size) l m (fun b o u hu=>?_) (hkeep _) (y _);rcases p b o u hu with h|h
  ·exact .inl h
  rw[t]at h; cases h
 | some g=>
  refine s.push (g:=g) (.inl t) (s.fresh (q g t)) (.inr (Nat.le_trans s.keep.size (q g t))) l m (fun b o u hu=>?_) (hkeep _) (y _);rcases p b o u hu with h|h
  ·exact .inl h
  rw[t]at h; exact .inr (Option.some.inj h).symm
theorem iz (H:(PH Lw)):∀ (l:List (List UInt8)),fp H 1 (qi l) (l.map fun s=>Value.string ⟨s.toArray⟩)
 | []=>by simp[qi,fp]
 | b::l=>by
  have:=iz H l;unfold qi at this ⊢;simp only[jk,fp];refine⟨rfl,[.string ⟨b.toArray⟩],l.map fun s=>Value.string ⟨s.toArray⟩,by simp,?_,this⟩
  simp[qU,qu]
theorem Zl {H:(PH Lw)} {b z:Nat}:∀ {x:List (List UInt8)} {o:Nat},ca H b z o (qi x)->∀ (j:Nat) (l:List UInt8),x[j]? =some l->H b (o+j)=some (.string ⟨l.toArray⟩)
 | [],_,_,j,l,h=>by simp at h
 | y::x,o,r,j,l,h=>by
  simp only[qi,jk,ca]at r;obtain⟨hz,⟨vs,a,rc⟩,c⟩:=r;have hz:z=1:=by simpa using hz.symm
  subst hz;cases j with
  | zero=>
   simp only[List.getElem?_cons_zero,Option.some.injEq]at h;subst h;simp only[qU,qu]at a;obtain⟨u,d,rfl,rfl,_⟩:=a;exact rc 0 _ rfl
  | succ j=>
   have:=Zl (x:=x) c j l (by simpa using h);rw[show o+(j+1)=o+1+j from by omega];exact this
theorem LM {P:Program} {f:FuncId} (enter:∀ vs w,(callFunc f vs).run P w=.ok (.enter f vs) w) {e:TypeId}
  (l:∀ (n c:Nat) (w:World),Calls P f #[.slice none n c] w fun d w'=>d=.returned (.slice none 0 0)/\w'=w)
  (h:∀ (a:Addr) (c:Nat) (w:World),Calls P f #[.slice (some a) 0 c] w fun d w'=>∃ v',d=.returned v'/\w'.ownsRow w.heap.size e 1 v' 0 []/\v'≠.slice none 0 0/\Below w.heap.size w w')
  (i:∀ (b off n c:Nat) (r:List ByteArray) (w:World),n<=r.length->n * 16<=140737488355328->(∀ j,j<r.length->w.cell? ⟨b,off+j,none⟩=some (.string (r.getD j ByteArray.empty))) ->
   Calls P f #[.slice (some ⟨b,off,none⟩) n c] w fun d w'=>∃ v',d=.returned v'/\w'.ownsRow w.heap.size e 1 v' n ((r.take n).map Value.string)/\v'≠.slice none 0 0/\Below w.heap.size w w')
  (x:List (List UInt8)) (g:(qi x).length * 16<=140737488355328):qS P f [.p (.sl (qi x))] [] 0 (fun v lo=>v=.tsl 0 (qi x)/\lo=[.tail e 1 (qi x).length]):=by
 intro Lw bs ρ H w vs J s K;have y:ρ=[]:=jI s.hlen;subst y;obtain⟨v,A,rfl,t,B⟩:=K;obtain rfl:A=[]:=B;have t:qu H (.sl (qi x)) v:=t;rw[enter];refine⟨rfl,?_⟩;have C:(qi x).length=x.length:=by simp[qi]
 have base:Calls P f [v].toArray w fun d w'=>∃ v',d=.returned v'/\w'.ownsRow w.heap.size e 1 v' x.length (x.map fun s=>Value.string ⟨s.toArray⟩)/\Below w.heap.size w w':=by
  simp only[qu]at t;rcases t with ⟨G,rfl|⟨a,cap,rfl⟩⟩|⟨b,o,z,cap,rfl,I,L⟩
  ·have D:x=[]:=by cases x with|nil=>rfl|cons _ _=>cases G
   subst D;refine(l 0 0 w).mono fun d w' p=>?_;obtain⟨rfl,rfl⟩:=p;exact⟨_,rfl,⟨by simp,.inl ⟨rfl,rfl⟩⟩,Below.refl _ _⟩
  ·have D:x=[]:=by cases x with|nil=>rfl|cons _ _=>cases G
   subst D;refine(h a cap w).mono fun d w' p=>?_;obtain⟨v',rfl,k,_,m⟩:=p;exact⟨_,rfl,k,m⟩
  rw[C]at g ⊢;refine(i b o x.length cap (x.map fun s=>⟨s.toArray⟩) w (by simp) g fun j E=>?_).mono fun d w' p=>?_
  ·simp only[jl]at E
   have M:=Zl L j _ (jf E);rw[(s.sath.cell _ _ _ M).1];simp[List.getD,jf E]
  obtain⟨v',rfl,k,_,m⟩:=p;refine⟨_,rfl,?_,m⟩;rw[List.take_of_length_le (by simp),List.map_map]at k;exact k
 refine base.mono fun d w' p=>?_;obtain⟨v',rfl,k,m⟩:=p;obtain⟨q,F,N⟩:=Hl s m k (fun u hu=>by obtain⟨_,_,rfl⟩:=List.mem_map.1 hu; rfl)
 refine⟨v',.tsl 0 (qi x),[.tail e 1 (qi x).length],[v'],_,rfl,⟨rfl,rfl⟩,q,by rw[C]; exact N,rfl,ue (iz H x) q (by rw[C]; exact F)⟩
end Ax
end
section
open Go Go.Proofs Ax Go.RowKit
namespace W
theorem mixed : Tryz.prog.follows .mixedOrders = true := by kernel_rfl
theorem bj {Lw : Nat} {H : PH Lw} {w w' : World} (s : SatH H w) (h : Below w.heap.size w w') : Calm H w H w' :=
  ⟨PH.le.refl H, s.block h.size fun b _ _ hv => h.block b (s.lt hv), ⟨h.os, h.tape, h.output, h.size, fun k hk _ => h.block k hk⟩, fun _ _ v hv => .inl ⟨v, hv⟩⟩
set_option maxRecDepth 100000 in
theorem bu (x : List (List UInt8)) (hbig : (qi x).length * 16 <= 140737488355328) : qS Tryz.prog 56 [.p (.sl (qi x))] [] 0 (fun v lo => v = .tsl 0 (qi x) /\ lo = [.tail 9 1 (qi x).length]) :=
  LM (fun _ _ => Tryz.call56 _ _) Tryz.slices_Clone_string_nil Tryz.slices_Clone_string_zero (fun b o n c zs w h1 h2 h3 => Tryz.slices_Clone_string b o n c zs w h1 h2 h3) x hbig
theorem NN : ((Tryz.prog.info? 35).map fun i => (i.size, i.bytes, i.zero.map (·.cells.size))) = some (6, 88, some 6) := by kernel_rfl
theorem Hq : ∃ i0 zv, Tryz.prog.info? 35 = some i0 /\ i0.zero = some zv /\ i0.size = 6 /\ i0.bytes = 88 /\ zv.cells.size = 6 := by
  obtain ⟨i, hi, h⟩ := Option.map_eq_some_iff.1 NN
  simp only [Prod.mk.injEq] at h
  obtain ⟨h1, h2, h3⟩ := h
  obtain ⟨z, hz, h4⟩ := Option.map_eq_some_iff.1 h3
  exact ⟨i, z, hi, hz, h1, h2, h4⟩
set_option maxRecDepth 100000 in
set_option maxHeartbeats 2000000 in
theorem LL (a : Addr) (c : Nat) (w : World) : Calls Tryz.prog 57 #[.slice (some a) 0 c] w fun e w' => ∃ v', e = .returned v' /\ w'.ownsRow w.heap.size 35 6 v' 0 [] /\ Below w.heap.size w w' := by
  obtain ⟨i0, zv, hi, hz0, hz1, hz2, hzs⟩ := Hq
  have q23 : ∀ (w : World) (a : Option Addr) (n c n' c' : Nat), (binOp .eql 23 (.slice a n c) (.slice none n' c')).run Tryz.prog w = .ok (.bool a.isNone) w := fun w a n c n' c' => Lib.run_eql_slice_nil w _ _ a n c n' c' Tryz.underlying23
  go_enter Tryz.func57, Tryz.ntmps57
  go_wp2_with (at_builtin; refine wpList_append_own _ rfl _ _ 23 rfl w.heap.size 35 i0 zv 6 88 Tryz.underlying23 hi hz0 hz1 hz2 hzs (by decide) _ _ _ rfl (World.ownsRow_made w #[] 0 (jw _) (jR _) rfl) a 0 c [] rfl rfl (by intro j u hj; simp at hj) (by intro u hu; cases hu) (by unfold maxLen; omega) (by omega) (by simp) ?_)
  intro v' w1 hown hgrow hnil
  go_wp2
  go_ret
  exact ⟨v', rfl, by simpa using hown, ((Below.refl _ w).alloc (jw _) _).grown hgrow (by simp) (by intro k hk; simp [Value.ownBlock] at hk; omega)⟩
theorem TE : ∀ w, (Go.sizeOf 35).run Tryz.prog w = .ok 6 w := by
  intro w
  obtain ⟨i0, zv, hi, _, hz1, _, _⟩ := Hq
  simp [Go.sizeOf, typeInfo, hi, hz1]
set_option maxRecDepth 100000 in
theorem Gw (x : List Val) (hbig : (Val.rows x).length * 88 <= 140737488355328) : qS Tryz.prog 57 [.p (.sl (Val.rows x))] [] 0 (fun v lo => v = .tsl 0 (Val.rows x) /\ lo = [.tail 35 6 (Val.rows x).length]) := by
  obtain ⟨i0, zv, hi, hz0, hz1, hz2, hzs⟩ := Hq
  intro Lw bs ρ H w vs hr0 s rl
  have hlo : ρ = [] := jI s.hlen
  subst hlo
  obtain ⟨v, vs', rfl, rv, hvs⟩ := rl
  obtain rfl : vs' = [] := hvs
  have rv : qu H (.sl (Val.rows x)) v := rv
  rw [show (callFunc 57 [v].toArray).run Tryz.prog w = _ from Tryz.call57 _ _]
  refine ⟨rfl, ?_⟩
  have base : Calls Tryz.prog 57 [v].toArray w fun e' w' => ∃ v' xs, e' = .returned v' /\ fp H 6 (Val.rows x) xs /\ (∀ u ∈ xs, u.oneCell' = true) /\ w'.ownsRow w.heap.size 35 6 v' (Val.rows x).length xs /\ Below w.heap.size w w' := by
    rcases tN rv (fun r hr => by rw [rows_eq] at hr; exact Sy _ r hr) with ⟨h0, rfl | ⟨a, cap, rfl⟩⟩ | ⟨b, o, cap, us, rfl, hcap, hu, hc⟩
    · rw [h0]
      exact (AnyE.slices_Clone_nil Tryz.laysSlE041_f57 0 0 w).mono fun e' w' ⟨e1, e2⟩ => by subst e2; exact ⟨_, [], e1, rfl, by simp, ⟨by simp, .inl ⟨rfl, rfl⟩⟩, Below.refl _ _⟩
    · rw [h0]
      exact (LL a cap w).mono fun e' w' ⟨v', e1, ho, hb⟩ => ⟨v', [], e1, rfl, by simp, by simpa using ho, hb⟩
    · have h1 := fp.one s.sath hc
      refine (AnyE.slices_Clone Tryz.laysSlE041_f57 i0 zv 6 88 hi hz0 hz1 hz2 hzs (by decide) TE b o (Val.rows x).length cap us w hu.length (by unfold maxLen; omega) hbig (fun j u h => (s.sath.cell _ _ _ (hc j u h)).1) h1).mono fun e' w' ⟨v', e1, ho, _, hb⟩ => ⟨v', us, e1, hu, h1, ho, hb⟩
  refine base.mono fun e' w' ⟨v', xs, e1, hV, h1, ho, hb⟩ => ?_
  subst e1
  obtain ⟨hle, ho0, hs⟩ := Hl s hb ho h1
  exact ⟨v', .tsl 0 (Val.rows x), [.tail 35 6 (Val.rows x).length], [v'], _, rfl, ⟨rfl, rfl⟩, hle, hs, rfl, ue hV hle ho0⟩
end W
end
section
open Go Go.Proofs Ax
namespace W
abbrev SS:=List UInt8
abbrev pI (x:Int):FV:=.p (.int .i64 x)
abbrev pS (x:List UInt8):FV:=.p (.str x)
abbrev pB (x:Bool):FV:=.p (.bool x)
abbrev pT (x:List (List UInt8)):FV:=.p (.sl (qi x))
abbrev pE (x:List qd):FV:=.p (.sl (qd.rows x))
abbrev pV (x:List Val):FV:=.p (.sl (Val.rows x))
abbrev pO (x:List zy):FV:=.p (.sl (zy.rows x))
abbrev pA (x:List xj):FV:=.p (.sl (xj.rows x))
abbrev pU (x:List qv):FV:=.p (.sl (qv.rows x))
abbrev pP (x:List zU):FV:=.p (.sl (zU.rows x))
abbrev pN (x:List qe):FV:=.p (.sl (qe.rows x))
abbrev pG (x:List qg):FV:=.p (.sl (qg.rows x))
abbrev pC (x:List qy):FV:=.p (.sl (qy.rows x))
abbrev pK (x:List qo):FV:=.p (.sl (qo.rows x))
theorem zle {m n:Nat} (h:Nat.ble m n=true):m<=n:=jh h
abbrev LK (T R:Type):Type:=(T->Option R)->T->Option R
noncomputable abbrev TP:Program:=Tryz.prog
set_option maxRecDepth 100000 in
theorem zN {f:FuncId} {fn:Func} {args:List PV} {r:PV} (he:Ax.Enters Tryz.prog f) (hf:Tryz.prog.funcs[f]? =some fn) (inl:List Nat) (h:aJ Tryz.prog inl fn args (fun v=>nle v r)) (hok:MT inl fn args.length=true:=by kernel_rfl):qc Tryz.prog f args r:=qc.of_vcN mixed he hf hok h
set_option maxRecDepth 100000 in
theorem zI {f:FuncId} {fn:Func} {args:List FV} {lo:List AObj} {R:FV->List AObj->Prop} (he:Ax.Enters Tryz.prog f) (hf:Tryz.prog.funcs[f]? =some fn) (inl:List Nat) (h:vcI Tryz.prog inl fn args lo R) (hok:MT inl fn args.length=true:=by kernel_rfl):vF Tryz.prog f args lo R:=vF.of_vc mixed he hf hok h
set_option maxRecDepth 100000 in
theorem zO {f:FuncId} {fn:Func} {args:List FV} {objs:List AObj} {m:Nat} {R:FV->List AObj->Prop} (he:Ax.Enters Tryz.prog f) (hf:Tryz.prog.funcs[f]? =some fn) (inl:List Nat) (h:vcO Tryz.prog inl fn args objs m R) (hok:MT inl fn args.length=true:=by kernel_rfl) (hml:m<=objs.length:=by exact zle rfl):qS Tryz.prog f args objs m R:=qS.of_vc mixed he hf hok hml h
abbrev zq0:FV:=.p (.int .i64 (0:Int))
abbrev zq1:FV:=.p (.str ([]:SS))
abbrev zq2:FV:=.p (.nilsl)
abbrev zq3:AObj:=.box 47 [zq0,zq2,zq2,zq0,zq1,zq0,pB false,zq0,zq1,zq2,zq2,zq2,zq2,zq1,zq2,pB false,zq2,zq2,zq2,zq2,zq2,pB false]
abbrev zq4:AObj:=.box 42 [zq0,zq1,zq0,pB false,zq0,zq1,zq2,zq2,zq2,zq2]
abbrev zq5:AObj:=.box 100 [zq2,zq2]
abbrev zq6:AObj:=.box 102 [zq1,zq2,zq2,zq2]
abbrev zq7:AObj:=.box 104 [zq1,zq1,zq0,zq2,zq2]
abbrev zq8:AObj:=.box 33 [zq2,zq2,zq0,zq0]
abbrev zq9:AObj:=.box 47 [.p (.int .i64 (8:Int)),zq2,zq2,zq0,zq1,zq0,pB false,zq0,zq1,zq2,zq2,zq2,zq2,zq1,zq2,pB false,zq2,zq2,zq2,zq2,zq2,pB false]
end W
end
section
namespace Ax
open Go
variable {Lw:Nat}
def Xh (w:World):PH w.heap.size:=fun b o=>(w.cell? ⟨b,o,none⟩).bind fun v=>bif v.oneCell' then some v else none
theorem Rt {w:World} (h:∃ m,w.cell? ⟨0,0,none⟩=some (.int .i64 m)):SatH (Xh w) w where
 cell:=fun b o v a=>by
  unfold Xh at a;obtain⟨u,hu,c⟩:=Option.bind_eq_some_iff.1 a;cases d:u.oneCell' with
  | false=>rw[d]at c; cases c
  | true=>rw[d]at c; cases c; exact⟨hu,d⟩
 root:=by
  obtain⟨m,hm⟩:=h;exact⟨m,by simp[Xh,hm,Value.oneCell']⟩
 low:=jw _
 nf:=fun b o v a e=>by
  unfold Xh at a;obtain⟨u,hu,_⟩:=Option.bind_eq_some_iff.1 a;have:=World.block_lt_of_cell? w ⟨b,o,none⟩ hu;exact absurd e (by simp at this; omega)
theorem Tb {w:World} {a:Addr} {v:Value} (h:w.cell? a=some v) (d:v.oneCell'=true):Xh w a.block a.off=some v:=by
 have c:a.spot=none:=by
  unfold World.cell? at h;split at h
  ·cases b:a.spot with
   | none=>rfl
   | some s=>rw[b]at h; simp at h
  ·cases h
 have:(⟨a.block,a.off,none⟩:Addr)=a:=by cases a; simp only at c; subst c; rfl
 unfold Xh;rw[this,h];simp[d]
theorem EZ {w:World} {base:Nat} {a:Addr} {n:Nat} {cs:List Value} (h:w.cells? base a n=some cs):cs.length=n/\∀ j,j<n->w.cell? (a.add j)=cs[j]?:=by
 unfold World.cells? at h;split at h
 ·exact⟨by simpa using mapM_some_length h,fun j b=>mapM_some_get h j j (by simp[b])⟩
 cases h
section
variable {Hd:Type} {enc:TypeId×Value->Hd} {P:Program} {w:World}
def gk {α:Type} (enc:TypeId×Value->Hd) (P:Program) (w:World) (t:TypeId) (n:Nat) (row:α->List PV) (a:α->Nat) (bulk:DataW Hd->Nat):Prop:=
 ∀ (cs:List Value) (x:DataW Hd×List MemPlace),DataW.trod enc P w 0 (fun _=>true) true n t cs=some x->∃ v:α,qU (Xh w) (row v) cs/\(∀ u∈cs,u.oneCell'=true)/\a v<=bulk x.1
theorem aE {α:Type} {H:(PH Lw)} {b z:Nat} {row:α->List PV}:∀ (l:List α) (o:Nat) (a:Nat->List Value),(∀ v∈l,(row v).length=z) ->
  (∀ i v,l[i]? =some v->qU H (row v) (a i)/\∀ j u,(a i)[j]? =some u->H b (o+i * z+j)=some u)->ca H b z o (l.map row)
 | [],_,_,_,_=>trivial
 | v::l,o,a,hz,h=>by
  simp only[jk,ca];refine⟨hz v (by simp),⟨a 0,(h 0 v rfl).1,fun j u hu=>by have:=(h 0 v rfl).2 j u hu; simpa using this⟩,?_⟩
  refine aE l (o+z) (fun i=>a (i+1)) (fun v d=>hz v (by simp[d])) fun i v' c=>?_
  obtain⟨f,g⟩:=h (i+1) v' (by simpa using c);refine⟨f,fun j u hu=>?_⟩;have:=g j u hu;rw[Nat.add_mul,Nat.one_mul]at this;have e:o+(i * z+z)+j=o+z+i * z+j:=by omega
  rw[← e]; exact this
theorem NZ {α:Type} [Inhabited α] {t e:TypeId} {z fuel:Nat} {row:α->List PV} {C:α->Nat} {bulk:DataW Hd->Nat} (N:P.underlying t=some (.slice e)) (hz:P.cellsOf e=z) (O:1<=z)
  (p:∀ v,(row v).length=z) (E:∀ n,n<fuel->gk enc P w e n row C bulk) {cs:List Value} {x:DataW Hd×List MemPlace} (h:DataW.trod enc P w 0 (fun _=>true) true fuel t cs=some x) :
  ∃ (l:List α) (v:Value),cs=[v]/\v.oneCell'=true/\qu (Xh w) (.sl (l.map row)) v /\
   ((x.1=.nil/\l=[])\/∃ elems rest,x.1=.slice elems rest/\l.length=elems.length/\∀ (i:Nat) (d:DataW Hd) (v:α),elems[i]? =some d->l[i]? =some v->C v<=bulk d):=by
 rcases DataW.trod_slice N h with ⟨rfl,rfl⟩|⟨a,len,cap,elems,rest,n,rfl,rfl,rfl,_,F,_,hlen,g,_,_⟩
 ·exact⟨[],_,rfl,rfl,by simp[qu],.inl ⟨rfl,rfl⟩⟩
 have M:∀ i,i<len->∃ (v:α) (cs:List Value) (d:DataW Hd×List MemPlace),elems[i]? =some d/\qU (Xh w) (row v) cs/\(∀ j u,cs[j]? =some u->Xh w a.block (a.off+i * z+j)=some u)/\C v<=bulk d.1:=by
  intro i D;have q:=g i D;obtain⟨d,k⟩:∃ d,elems[i]? =some d:=⟨_,jf (by omega)⟩;rw[k]at q;obtain⟨cs,m,G⟩:=Option.bind_eq_some_iff.1 q;obtain⟨v,r,hone,H⟩:=E n (Nat.lt_succ_self n) cs d G;refine⟨v,cs,d,k,r,fun j u hu=>?_,H⟩;obtain⟨Q,y⟩:=EZ m;have R:j<P.cellsOf e:=by have:=(jG.1 hu).1; omega
  have c:=y j R;rw[hu,Addr.add_add]at c;have:=Tb c (hone u (List.mem_of_getElem? hu));rw[hz]at this;have eb:(a.add (i * z+j)).block=a.block:=by unfold Addr.add; split<;>rfl
  have eo:(a.add (i * z+j)).off=a.off+i * z+j:=by unfold Addr.add; split<;>(try simp only)<;>omega
  rw[eb,eo]at this;exact this
 have spot:len≠0->a.spot=none:=by
  intro I;have q:=g 0 (by omega);obtain⟨d,k⟩:∃ d,elems[0]? =some d:=⟨_,jf (by omega)⟩;rw[k]at q;obtain⟨cs,m,_⟩:=Option.bind_eq_some_iff.1 q;obtain⟨Q,y⟩:=EZ m;have c:=y 0 (by omega);rw[Nat.zero_mul,Addr.add_zero',Addr.add_zero']at c;cases hu:cs[0]? with
  | none=>have:=List.getElem?_eq_none_iff.1 hu; omega
  | some u=>
   rw[hu]at c;unfold World.cell? at c;split at c
   ·cases J:a.spot with
    | none=>rfl
    | some s=>rw[J]at c; simp at c
   ·cases c
 let f:Nat->α:=fun i=>if h:i<len then(M i h).choose else default
 have K:∀ i,i<len->∃ (cs:List Value) (d:DataW Hd×List MemPlace),elems[i]? =some d/\qU (Xh w) (row (f i)) cs/\(∀ j u,cs[j]? =some u->Xh w a.block (a.off+i * z+j)=some u)/\C (f i)<=bulk d.1:=by
  intro i D;have:=(M i D).choose_spec;simp only[f,D,dif_pos];exact this
 refine⟨(List.range len).map f,_,rfl,rfl,?_,.inr ⟨_,_,rfl,by simp[hlen],fun i d v k A=>?_⟩⟩
 ·simp only[qu,jl,List.length_range]
  by_cases I:len=0
  ·subst I
   exact .inl ⟨rfl,.inr ⟨_,_,rfl⟩⟩
  refine .inr ⟨a.block,a.off,z,cap,?_,F,?_⟩
  ·have:=spot I
   cases a;simp only at this;subst this;rfl
  refine aE ((List.range len).map f) a.off (fun i=>if h:i<len then(K i h).choose else[]) (fun v _=>p v) fun i v A=>?_
  simp only[List.getElem?_map,Option.map_eq_some_iff]at A;obtain⟨S,o,rfl⟩:=A;obtain⟨b,e⟩:=jG.1 o;simp at b e;subst e;obtain⟨d,k,T,y,_⟩:=(K i b).choose_spec;simp only[b,dif_pos];exact⟨T,y⟩
 simp only[List.getElem?_map,Option.map_eq_some_iff]at A k;obtain⟨S,o,rfl⟩:=A;obtain⟨b,e⟩:=jG.1 o;simp at b e;subst e;obtain⟨U,L,rfl⟩:=k;obtain⟨_,d2,B,_,_,H⟩:=K i b;rw[L]at B;cases B;exact H
end
end Ax
end
section
namespace Ax
open Go Go.RowKit Go.ChangeShapes Go.WideShapes Go.ChangeAt
section
variable {H:Type} {enc:TypeId×Value->H} {P:Program}
theorem XY (g:laidOutB P=true) {W i:World} {sp:Nat->Bool} (j:Below W.heap.size W i):∀ {e:List TypeId} {vs:List Value} {k:List (DataW H)} {f:List MemPlace},
  (e.all fun t=>P.readableRec t&&decide (t<P.types.size))=true->DataW.TrodAll enc P W 0 (fun _=>true) true e vs k f->(∀ p∈f,p.block<W.heap.size)->(∀ p∈f,sp p.block=true) ->
  DataW.TrodAll enc P i 0 sp true e vs k f
 | [],_,_,_,_,h,_,_=>by
  obtain⟨rfl,rfl,rfl⟩:=trodAll_nil h;exact trodAll_mk0
 | t::e,_,_,_,hr,h,hlt,hs=>by
  obtain⟨v,l,d,m,a,b,rfl,rfl,rfl,n,o⟩:=trodAll_cons h;simp only[List.all_cons,ji,kde]at hr;exact⟨a,b,WideElems.Trod_stays g hr.1.1 hr.1.2 n (fun x c=>j.same (hlt x (List.mem_append_left _ c))) (fun x c=>hs x (List.mem_append_left _ c)),
   XY g j hr.2 o (fun x c=>hlt x (List.mem_append_right _ c)) (fun x c=>hs x (List.mem_append_right _ c)),rfl⟩
theorem Tq {f:Func} {s:ChangeSpec} {apart fresh a d:Bool} {W h:World} {args:Array Value} {e gs:List (DataW H)} {before:List MemPlace} {tb:TypeId} (A:laidOutB P=true)
  (B:(f.params.toList.all fun t=>P.readableRec t&&decide (t<P.types.size))=true) (n:DataW.Whole enc P f.params.toList s.vars apart W args.toList e gs before) (r:Below W.heap.size W h) (hvars:s.vars=[])
  (g:s.fn H (e++gs)={ results:=[.lit (.bool true)],args:=e }) (i:f.resultTypes = #[tb]) (hbool:P.underlying tb=some .bool):s.post enc P f apart fresh a d W args (.bool true) h:=by
 have j:∀ p∈before,p.block<W.heap.size:=fun p hp=>by simpa using n.lt p hp
 have k:∀ p∈before,(fun b=>decide (b<W.heap.size)) p.block=true:=fun p hp=>by simpa using n.lt p hp
 have u:=n;obtain⟨p,q,C,v,rfl,hz,D⟩:=u;have E:q=[]/\gs=[]:=by
  rw[hvars]at v;obtain⟨w,y⟩:=trodVars_none v;exact⟨by first|exact y|exact w,by first|exact w|exact y⟩
 obtain⟨rfl,rfl⟩:=E;simp only[List.append_nil]at *;have hargs:∀ sp:Nat->Bool,(∀ x∈p,sp x.block=true)->DataW.TrodAll enc P h 0 sp true f.params.toList args.toList e p:=fun sp F=>XY A r B C j F
 have c:∀ (b:Nat) (sp:Nat->Bool) (z:Bool),DataW.TrodAll enc P h b sp z f.resultTypes.toList ((Value.bool true).resultList f.resultTypes.size) (s.fn H e).results []:=by
  intro b sp z;rw[i,g];exact trodAll_cons_mk (shut_bool hbool _) trodAll_mk0
 have l:∀ sp:Nat->Bool,DataW.TrodVars enc P h sp s.vars (s.fn H e).vars []:=by
  intro sp;rw[hvars,g];rfl
 refine⟨e,[],p,[],p,[],n,?_,?_,?_,World.keptBut_mono (fun x o=>⟨o,Or.inr (Or.inl o)⟩) (r.frame _),fun _=>?_⟩
 ·simpa using c _ _ _
 ·simp only[List.append_nil]; rw[g]; exact hargs _ k
 ·simpa using l _
 refine⟨?_,_,_,([]++p)++[],⟨[]++p,[],trodAll_append (hargs _ (fun _ _=>rfl)) (c _ _ _),l _,rfl,?_,?_⟩,?_⟩
 ·exact ok_one i rfl (okWide_bool_mk hbool _)
 ·intro b off hp
  have m:MemPlace.cell b off∈p:=by simpa using hp
  rw[r.frozen (p:=⟨b,off,none⟩) (j _ m)];exact hz b off m
 ·intro G
  simpa using D G
 intro x o _;simpa using o
end
end Ax
end
section
namespace Ax
open Go Go.RowKit
variable {Lw:Nat}
theorem qc.calls {P:Program} {f:FuncId} {args:List PV} {r:PV} (h:qc P f args r) (he:Enters P f) {H:(PH Lw)} {w:World} {vs:List Value} (a:SatH H w) (b:qU H args vs) :
  Calls P f vs.toArray w fun e w'=>∃ v H',e=.returned v/\Calm H w H' w'/\qu H' r v:=by
 have:=h H w vs a b;rw[he]at this;exact this.2
theorem Calm.below {H H':(PH Lw)} {w w':World} (c:Calm H w H' w'):Below w.heap.size w w':=
 ⟨c.keep.os,c.keep.tape,c.keep.output,c.keep.size,fun k a=>c.keep.block k a id⟩
end Ax
end
section
namespace Ax
open Go
variable {Lw:Nat}
end Ax
end
section
open Go Go.Proofs
namespace Ax
variable {P:Program}
structure ZeroIs (P:Program) (a:TypeId) (z:PV):Prop where
 plain:∃ u,P.underlying a=some u/\∀ m,u≠.interface m
 zero:∃ v i,P.info? a=some i/\i.zero=some v/\∀ ⦃Lw:Nat⦄ (H:PH Lw),qu H z v
theorem ZeroIs.of {a:TypeId} (d:TypeDesc) (v:Value) {z:PV} (c:P.underlying a=some d) (f:∀ m,d≠.interface m) (b:(P.info? a).bind (·.zero)=some v) (g:∀ ⦃Lw:Nat⦄ (H:PH Lw),qu H z v):ZeroIs P a z:=by
 refine⟨⟨d,c,f⟩,v,?_⟩;cases e:P.info? a with
 | none=>rw[e]at b; cases b
 | some i=>rw[e]at b; exact⟨i,rfl,b,g⟩
end Ax
end
