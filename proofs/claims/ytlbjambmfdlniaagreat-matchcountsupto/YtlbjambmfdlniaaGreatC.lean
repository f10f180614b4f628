/- A part of the proof: the abstract execution. -/
import Derived.Test.YtlbjambmfdlniaaGreatShelf
import Derived.WalkKit
import Derived.WalkSpells
import Derived.ChangeArms
import Derived.DataElems
import Derived.DataReads
import Derived.Carry
import Derived.ChangeSame
import Derived.ProofKit
import Derived.OpenShut
import Derived.Test.YtlbjambmfdlniaaGreatB
set_option linter.unusedVariables false
set_option linter.unusedSimpArgs false
set_option linter.unnecessarySimpa false
set_option linter.deprecated false
set_option linter.unusedSectionVars false
set_option linter.constructorNameAsVariable false
open List renaming getElem?_eq_getElem->jf,mem_cons->jg,map_cons->jk,length_map->jl,length_take->js,getElem?_append_left->jB,getElem?_append_right->jC,getElem?_drop->jD,getElem?_eq_some_iff->jG
open Nat renaming le_of_ble_eq_true->jh,eq_of_beq_eq_true->jn,le_refl->jv,zero_add->jw,zero_le->jR
open Bool renaming and_eq_true->ji
section
namespace Ax
open Go
variable {Lw:Nat}
def zb (P:Program) (f:FuncId) (args:List FV) (objs:List AObj) (m:Nat) (R:FV->List AObj->Prop):Prop:=
 ∀ ⦃Lw:Nat⦄ (bs:(Base Lw)) (ρ:List Value) (H:(PH Lw)) (w:World) (vs:List Value),bs.r0=ρ.take m->SatW bs ρ H objs w->zk ρ H args vs ->
  match (callFunc f vs.toArray).run P w with
  | .ok (.value v) w'=>∃ r a ρ' H',R r a/\PH.le H H'/\SatW bs ρ' H' a w'/\qD ρ' H' r v
  | .ok (.enter f' args') w'=>w'=w/\Calls P f' args' w fun b w''=>∃ v r a ρ' H',b=.returned v/\R r a/\PH.le H H'/\SatW bs ρ' H' a w''/\qD ρ' H' r v
  | _=>False
theorem zb.mono {P:Program} {f:FuncId} {args:List FV} {objs:List AObj} {m:Nat} {R R':FV->List AObj->Prop} (h:zb P f args objs m R) (d:∀ r lo,R r lo->R' r lo):zb P f args objs m R':=by
 intro Lw bs ρ H w vs g s i;have:=h bs ρ H w vs g s i;generalize (callFunc f vs.toArray).run P w=x at *;cases x with
 | ok n w'=>
  cases n<;>simp only at this ⊢ <;> try exact this
  ·obtain⟨r,a,ρ',H',b,c⟩:=this; exact⟨r,a,ρ',H',d _ _ b,c⟩
  exact⟨this.1,this.2.mono fun j w'' ⟨v,r,a,ρ',H',e,b,c⟩=>⟨v,r,a,ρ',H',e,d _ _ b,c⟩⟩
 | halt x w'=>exact this
def RN (P:Program) (fn:Func) (m:Nat) (R:FV->List AObj->Prop):KA:=Rj P fn fun r0 lo=>∃ r a,R r a/\Us m [(0,r0)] lo [(0,r)] a
def SM (P:Program) (inl:List Nat) (fn:Func) (args:List FV) (objs:List AObj) (m:Nat) (R:FV->List AObj->Prop):Prop:=
 match fn.body with
 | some c=>vc P inl fn.ntmps m c (RN P fn m R) (bQ 0 args) objs
 | none=>False
theorem zb.of_vc {P:Program} {f:FuncId} {fn:Func} {args:List FV} {objs:List AObj} {m:Nat} {R:FV->List AObj->Prop} {inl:List Nat} (hm:P.follows .mixedOrders=true) (he:Enters P f) (G:P.funcs[f]? =some fn) (i:LI inl fn args.length=true)
  (I:m<=objs.length) (h:SM P inl fn args objs m R):zb P f args objs m R:=by
 intro Lw bs ρ H w vs q s F;rw[he];refine⟨rfl,?_⟩;simp only[LI,ji,kde]at i;obtain⟨y,N⟩:=i;unfold SM at h;cases z:fn.body with
 | none=>simp[z]at y
 | some c=>
  simp only[z]at h y;refine calls_of_wp G z ?_;have O:=F.length;have j:bs.r0.length=m:=by rw[q,js,s.hlen]; omega
  have sat:Sat bs fn.ntmps ρ H (qz (bQ 0 args)) objs { tmps:=vs.toArray++Array.replicate (fn.ntmps - vs.toArray.size) undef,defers:=[] } w:=by
   refine{ s with slots:=fun t=>?_,width:=by simp; omega,defers:=rfl }
   rw[sK];simp only[jR,if_true,Nat.sub_zero];cases J:args[t]? with
   | none=>trivial
   | some p=>
    obtain⟨v,hv,A⟩:=F.get J;have B:=(jG.1 hv).1;have:(vs.toArray++Array.replicate (fn.ntmps - vs.toArray.size) undef).getD t undef=v:=by
     rw[Array.getD_eq_getD_getElem?,Array.getElem?_append_left (by simpa using B)];simp[hv]
    rw[this];exact A
  have g:=uq hm c _ _ _ y h { bs with H0:=H } ρ H _ w j { sat with leH:=PH.le.refl H,newH:=fun b o v hv=>.inl ⟨v,hv⟩ }
  refine wp_mono g fun e a w' p=>?_;obtain⟨x,ρ',H',E',lo',K,n,k⟩:=p;obtain⟨r0,C,D,l⟩:=CO k;obtain⟨r,d,C,hw⟩:=C;obtain⟨v,hv,A⟩:=l _ _ ρ' H' a w' n;have s1:Sat { bs with H0:=H } 1 ρ' H' (qz [(0,r0)]) lo' { tmps:=#[v],defers:=[] } w':=by
   refine{ n.toSatW with slots:=fun t=>?_,width:=rfl,defers:=rfl }
   cases t with
   | zero=>exact A
   | succ t=>simp only[qz]; exact trivial
  obtain⟨ρ2,s2⟩:=Us.sat s1 (by rw[j]; exact hw);have rv2:qD ρ2 H' r v:=s2.slots 0;have Sk:∃ v,(results fn a.tmps).run P w'=.ok v w'/\(fun L w''=>∃ v r d ρ' H',L=Ending.returned v/\R r d/\PH.le H H'/\SatW bs ρ' H' d w''/\qD ρ' H' r v) (.returned v) w':=by
   refine⟨v,hv,v,r,d,ρ2,H',rfl,C,s2.leH,?_,rv2⟩;refine{ s2.toSatW with leH:=s.leH.trans s2.leH,newH:=fun b o u hu=>?_ }
   rcases s2.newH b o u hu with ⟨M,E⟩|h|h
   ·exact s.newH b o M E
   ·exact .inr (.inl h)
   exact .inr (.inr h)
  rcases D with rfl|rfl<;>cases e<;>simp only[LH]at K
  ·exact⟨n.defers,Sk⟩
  exact⟨n.defers,Sk⟩
def AObj.ren (σ:Nat->Nat):AObj->AObj
 | .box t cells=>.box t (cells.map (FV.ren σ))
 | .mp d es _=>.mp d es none
 | .vl e z rows j k=>.vl e z rows j (σ k)
 | .pbx t c=>.pbx t (c.ren σ)
 | o=>o
theorem qD.ren {ρ ρ':List Value} {H:(PH Lw)} {σ:Nat->Nat} (h:∀ i v,ρ[i]? =some v->ρ'[σ i]? =some v):∀ {f:FV} {x:Value},qD ρ H f x->qD ρ' H (f.ren σ) x
 | .top,_,_=>trivial
 | .p p,x,r=>r
 | .opt g v,x,r=>by
  simp only[FV.ren,qD]at *;split
  ·rename_i d; simp only[d,if_true]at r; exact qD.ren h r
  rename_i d; simpa[d]using r
 | .tsl k rows,x,r=>⟨h _ _ r.1,r.2⟩
 | .ptr k off,x,⟨b,e,e'⟩=>⟨b,h _ _ e,e'⟩
 | .hptr row,x,r=>r
 | .bself k,x,⟨b,e,e'⟩=>⟨b,h _ _ e,e'⟩
 | .bsl k off len cap,x,⟨b,e,e'⟩=>⟨b,h _ _ e,e'⟩
 | .vsl k n,x,r=>⟨h _ _ r.1,r.2⟩
 | .eptr k z i off,x,⟨b,n,cap,e,e'⟩=>⟨b,n,cap,h _ _ e,e'⟩
 | .mref k,x,⟨b,e,e'⟩=>⟨b,h _ _ e,e'⟩
 | .pair a b,x,⟨u,v,e,ra,rb⟩=>⟨u,v,e,ra.ren h,rb.ren h⟩
 | .stmp k,x,r=>h _ _ r
 | .clo f c,x,⟨vs,e,rc⟩=>⟨vs,e,rc.ren h⟩
 | .cap0,x,r=>r
 | .cap a b,x,⟨u,vs,e,ra,rb⟩=>⟨u,vs,e,ra.ren h,rb.ren h⟩
 | .fagg c,x,⟨vs,e,rc⟩=>⟨vs,e,rc.ren h⟩
 | .nxt ok a b,x,r=>r
 | .asl k off n,x,⟨b,m,cap,c,e,e'⟩=>⟨b,m,cap,c,h _ _ e,e'⟩
 | .ifs t c,x,⟨u,e,rc⟩=>⟨u,e,rc.ren h⟩
 | .cut rows,x,r=>r
theorem zk.ren {ρ ρ':List Value} {H:(PH Lw)} {σ:Nat->Nat} (h:∀ i v,ρ[i]? =some v->ρ'[σ i]? =some v):∀ {cs:List FV} {vs:List Value},zk ρ H cs vs->zk ρ' H (cs.map (FV.ren σ)) vs
 | [],_,r=>r
 | _::_,_,⟨v,vs',e,r,rs⟩=>⟨v,vs',e,r.ren h,rs.ren h⟩
theorem pQ.ren {ρ ρ':List Value} {H:(PH Lw)} {w:World} {σ:Nat->Nat} (h:∀ i v,ρ[i]? =some v->ρ'[σ i]? =some v) {v:Value} {o:AObj} (ok:pQ ρ H w v o):pQ ρ' H w v (o.ren σ):=by
 cases o with
 | dead=>trivial
 | box t cells=>
  obtain⟨b,vs,e,a,rc,f⟩:=ok;exact⟨b,vs,e,a,rc.ren h,f⟩
 | tail e z n=>exact ok
 | vec e z rows=>exact ok
 | mp d es mk=>
  obtain⟨b,ents,clock,e,a,q,⟨g,m,_⟩,f⟩:=ok;exact⟨b,ents,clock,e,a,q,⟨g,m,fun key s e=>by cases e⟩,f⟩
 | sit l p=>exact ok
 | bv l=>exact ok
 | vl e z rows j k=>
  obtain⟨xs,g,m,r,x,y⟩:=ok;exact⟨xs,g,m,r,x,fun u hu=>h _ _ (y u hu)⟩
 | pbx t c=>
  obtain⟨b,u,us,e,a,rc,f⟩:=ok;exact⟨b,u,us,e,a,rc.ren h,f⟩
theorem AObj.ren_live (σ:Nat->Nat) (o:AObj):(o.ren σ).live=o.live:=by cases o<;>rfl
def Td (l:List Nat) (m n:Nat):Nat->Nat:=fun i=>match Nat.blt i m with
 | true=>l.getD i 0
 | false=>n+(i - m)
def LM:List Nat->List Nat->Nat->Nat->Option Nat
 | [],_,_,_=>none
 | k::l,fresh,i,j=>match Nat.beq k j with
  | true=>match fresh.contains i with
   | true=>LM l fresh (i+1) j
   | false=>some i
  | false=>LM l fresh (i+1) j
def Db (l fresh:List Nat) (m:Nat) (σ:Nat->Nat) (a:List AObj) (j:Nat) (o:AObj):AObj:=
 match LM l fresh 0 j with
 | some i=>match Nat.blt i m with
  | true=>match a[i]? with|some o'=>o'.ren σ|none=>.dead
  | false=>.dead
 | none=>o
def Qb (l fresh:List Nat) (m:Nat) (σ:Nat->Nat) (a:List AObj):Nat->List AObj->List AObj
 | _,[]=>(a.drop m).map (AObj.ren σ)
 | j,o::lo=>Db l fresh m σ a j o::Qb l fresh m σ a (j+1) lo
def DS (l fresh:List Nat) (m:Nat) (lo a:List AObj):List AObj:=Qb l fresh m (Td l m lo.length) a 0 lo
theorem UQ {l fresh:List Nat} {m:Nat} {σ:Nat->Nat} {a:List AObj}:∀ {lo:List AObj} {j i:Nat} {o:AObj},(Qb l fresh m σ a j lo)[i]? =some o ->
  (∃ b,lo[i]? =some b/\o=Db l fresh m σ a (j+i) b)\/(lo.length<=i/\∃ b,a[m+(i - lo.length)]? =some b/\o=b.ren σ)
 | [],j,i,o,h=>by
  simp only[Qb,List.getElem?_map,jD]at h;cases c:a[m+i]? with
  | none=>simp[c]at h
  | some b=>
   simp[c]at h;exact .inr ⟨jR _,b,by simpa using c,h.symm⟩
 | x::lo,j,0,o,h=>by
  simp only[Qb,List.getElem?_cons_zero,Option.some.injEq]at h;exact .inl ⟨x,rfl,h.symm⟩
 | x::lo,j,i+1,o,h=>by
  simp only[Qb,List.getElem?_cons_succ]at h;rcases UQ h with ⟨b,d,e⟩|⟨d,b,e,f⟩
  ·exact .inl ⟨b,by simpa using d,by rw[e,Nat.add_assoc,Nat.add_comm 1 i]⟩
  refine .inr ⟨by simpa using d,b,?_,f⟩;simpa using e
theorem Qc {l fresh:List Nat} {m:Nat} {σ:Nat->Nat} {a:List AObj}:∀ {lo:List AObj} {j:Nat},(Qb l fresh m σ a j lo).length=lo.length+(a.length - m)
 | [],j=>by simp[Qb]
 | x::lo,j=>by
  simp only[Qb,List.length_cons,Qc (lo:=lo)];omega
theorem CJ {fresh:List Nat} {j:Nat}:∀ {l:List Nat} {i0 i:Nat},LM l fresh i0 j=some i->i0<=i/\l[i - i0]? =some j/\i ∉ fresh
 | [],_,_,h=>by simp[LM]at h
 | k::l,i0,i,h=>by
  simp only[LM]at h;have step:LM l fresh (i0+1) j=some i->i0<=i/\(k::l)[i - i0]? =some j/\i ∉ fresh:=by
   intro h;obtain⟨f,b,c⟩:=CJ h;refine⟨by omega,?_,c⟩;have e:i - i0=(i - (i0+1))+1:=by omega
   rw[e];simpa using b
  split at h
  ·rename_i a
   have a:=jn a;split at h
   ·exact step h
   rename_i d;cases h;exact⟨jv _,by simp[a],by simpa using d⟩
  exact step h
theorem CI {fresh:List Nat} {j:Nat}:∀ {l:List Nat} {i0:Nat},LM l fresh i0 j=none->∀ i,l[i]? =some j->i0+i∈fresh
 | [],_,_,i,h=>by simp at h
 | k::l,i0,h,i,hi=>by
  simp only[LM]at h;cases i with
  | zero=>
   simp at hi;subst hi;simp only[Nat.beq_refl]at h;split at h
   ·rename_i a; simpa using a
   cases h
  | succ i=>
   have step:LM l fresh (i0+1) j=none->i0+(i+1)∈fresh:=fun h=>by
    have:=CI h i (by simpa using hi);have e:i0+1+i=i0+(i+1):=by omega
    rwa [e]at this
   split at h
   ·split at h
    ·exact step h
    cases h
   ·exact step h
def leArgs (π:Nat->Nat) (fresh:List Nat):List FV->List FV->Prop
 | [],[]=>True
 | a::l,b::m=>St π fresh a b/\leArgs π fresh l m
 | _,_=>False
theorem UP {ρ:List Value} {H:(PH Lw)} {π:Nat->Nat} {fresh:List Nat} {n:Nat}:∀ {xs ys:List FV} {vs:List Value},leArgs π fresh xs ys->(∀ c∈ys,∀ k∈c.names,k<n)->zk ρ H xs vs->zk (Bf ρ π fresh n) H ys vs
 | [],[],vs,_,_,r=>r
 | [],_::_,_,h,_,_=>by simp[leArgs]at h
 | _::_,[],_,h,_,_=>by simp[leArgs]at h
 | a::xs,b::ys,vs,h,hn,r=>by
  simp only[leArgs]at h;obtain⟨v,d,e,f,rs⟩:=r;exact⟨v,d,e,Fk h.1 (hn b (by simp)) f,UP h.2 (fun c g=>hn c (by simp[g])) rs⟩
theorem EA {π:Nat->Nat} {fresh:List Nat} {k:Nat} {o o':AObj} (a:ud π fresh k o o') (b:o'.live=true):o.live=true:=by
 cases o' with
 | dead=>simp[AObj.live]at b
 | box t c=>cases o<;>simp only[ud]at a; rfl
 | tail e z n=>simp only[ud]at a; subst a; rfl
 | vec e z n=>simp only[ud]at a; subst a; rfl
 | mp d es mk=>simp only[ud]at a; obtain⟨_,_,rfl⟩:=a; rfl
 | sit l p=>simp only[ud]at a; subst a; rfl
 | bv l=>simp only[ud]at a; subst a; rfl
 | vl e z rows j k'=>simp only[ud]at a; obtain⟨_,rfl⟩:=a; rfl
 | pbx t c=>cases o<;>simp only[ud]at a; rfl
theorem zb.use {P:Program} {f:FuncId} {args:List FV} {objs:List AObj} {m:Nat} {R:FV->List AObj->Prop} (h:zb P f args objs m R) (l fresh:List Nat) {A:List FV} {lo:List AObj} {K:FV->List AObj->Prop}
  (hw:NU 0 l fresh=true/\l.length=objs.length/\UR objs.length args=true/\dg objs.length objs=true/\Nat.ble m objs.length=true/\(List.range m).all (fun i=>!fresh.contains i)=true)
  (ha:leArgs (Tc l) fresh A args) (ho:BZ lo (Tc l) fresh 0 objs)
  (hK:∀ r0 q,R r0 q->∃ r lo2,r0.ren (Td l m lo.length)=r/\DS l fresh m lo q=lo2/\K r lo2):gS P f A lo K:=by
 obtain⟨D,hl,hnA,hnO,hml,hfr⟩:=hw;have hml:=jh hml;have hfr:∀ i,i<m->i ∉ fresh:=by
  intro i G;have:=List.all_eq_true.1 hfr i (by simpa using G);simpa using this
 simp only[NU,ji,kde,List.all_eq_true,List.mem_range,Bool.or_eq_true,beq_iff_eq,Bool.not_eq_true',bne_iff_ne]at D;obtain⟨⟨⟨_,_⟩,hinj⟩,hfl⟩:=D;have get:=fun(i:Nat) (o':AObj) (h:objs[i]? =some o')=>QY ho i o' h;simp only[jw]at get;have inj:∀ i j,i<objs.length->j<objs.length->i ∉ fresh->j ∉ fresh->Tc l i=Tc l j->i=j:=by
  intro i j G Z hfi hfj e;have:=hinj i (by omega) j (by omega);simp only[List.contains_iff_mem,hfi,hfj,false_or]at this;rcases this with h|h
  ·exact absurd e h
  exact h
 have hlget:∀ i,i<l.length->l[i]? =some (Tc l i):=fun i G=>by
  simp[Tc,List.getD_eq_getElem?_getD,jf G]
 intro Lw bs ρ H w vs s rl
 let π:=Tc l
 let ρ2:=Bf ρ π fresh objs.length
 have weak:Weak 0 (bQ 0 A) lo (bQ 0 args) objs π fresh:=by
  refine{ bounds:=fun k N L=>?_,keep:=fun k N=>absurd N (Nat.not_lt_zero _),nb:=jR _,inj:=fun i j oi oj G Z _ _=>inj i j (jG.1 G).1 (jG.1 Z).1,frsh:=fun k N=>?_,obj:=fun k o' ho L=>(get k o' ho).2 L,slot:=?_ }
  ·obtain⟨o,ho,_⟩:=(get k _ (jf N)).2 L
   exact(jG.1 ho).1
  ·have hk':k<objs.length:=by have:=hfl k N; omega
   obtain⟨e,z,he⟩:=(get k _ (jf hk')).1 N;exact⟨e,z,he.imp (fun he=>by rw[jf hk',he]) (fun he=>he.imp (fun he=>by rw[jf hk',he]) (fun⟨j,k2,he⟩=>⟨j,k2,by rw[jf hk',he]⟩))⟩
  have:∀ (n:Nat) (xs ys:List FV),leArgs π fresh xs ys->∀ t v,(t,v)∈bQ n ys->St π fresh (qz (bQ n xs) t) v:=by
   intro n xs
   induction xs generalizing n with
   | nil=>
    intro ys T t v hm;cases ys with
    | nil=>simp[bQ]at hm
    | cons b ys=>simp[leArgs]at T
   | cons a xs ih=>
    intro ys T t v hm;cases ys with
    | nil=>simp[leArgs]at T
    | cons b ys=>
     simp only[leArgs]at T;simp only[bQ,jg,Prod.mk.injEq]at hm;have I:∀ (n:Nat) (bs:List FV) (t:Nat) (v:FV),(t,v)∈bQ n bs->n<=t:=by
      intro n bs
      induction bs generalizing n with
      | nil=>intro t v h; simp[bQ]at h
      | cons c cs ih2=>
       intro t v h;simp only[bQ,jg,Prod.mk.injEq]at h;rcases h with ⟨rfl,_⟩|h
       ·exact jv _
       have:=ih2 (n+1) t v h; omega
     simp only[bQ,qz];rcases hm with ⟨rfl,rfl⟩|hm
     ·simp only[Nat.beq_refl]; exact T.1
     have:=I _ _ _ _ hm;have hne:Nat.beq t n=false:=by
      cases hx:Nat.beq t n with
      | false=>rfl
      | true=>have:=jn hx; omega
     simp only[hne];exact ih (n+1) ys T.2 t v hm
  exact this 0 A args ha
 have sat0:Sat { bs with r0:=[] } vs.length ρ H (qz (bQ 0 A)) lo { tmps:=vs.toArray,defers:=[] } w:=by
  refine{ s with pre:=List.nil_prefix,slots:=fun t=>?_,width:=by simp,defers:=rfl }
  rw[sK];simp only[jR,if_true,Nat.sub_zero];cases ht:A[t]? with
  | none=>trivial
  | some p=>
   obtain⟨v,hv,rv⟩:=rl.get ht;have:vs.toArray.getD t undef=v:=by
    rw[Array.getD_eq_getD_getElem?];simp[hv]
   rw[this];exact rv
 have hnames:Lg (bQ 0 args) objs:=by
  refine⟨fun t v hm=>?_,rA hnO,mq hnO,mr hnO⟩;have:∀ (n:Nat) (bs:List FV) (t:Nat) (v:FV),(t,v)∈bQ n bs->v∈bs:=by
   intro n bs
   induction bs generalizing n with
   | nil=>intro t v h; simp[bQ]at h
   | cons c cs ih2=>
    intro t v h;simp only[bQ,jg,Prod.mk.injEq]at h;rcases h with ⟨_,rfl⟩|h
    ·simp
    exact List.mem_cons_of_mem _ (ih2 (n+1) t v h)
  exact rz hnA v (this 0 args t v hm)
 have s2:=(sat0.weak weak hnames).toSatW;have rl2:zk ρ2 H args vs:=UP ha (rz hnA) rl;have ρ2get:∀ {i:Nat} {v:Value},ρ2[i]? =some v->i<objs.length/\((i∈fresh/\v=.slice none 0 0)\/(i ∉ fresh/\ρ[π i]? =some v)):=by
  intro i v hv;have N:i<objs.length:=by have:=(jG.1 hv).1; simpa[ρ2,Bf]using this
  have C:=hv;rw[show ρ2[i]? =_ from xU N]at C;refine⟨N,?_⟩;by_cases L:i∈fresh
  ·simp[L]at C; exact .inl ⟨L,C.symm⟩
  simp only[L,if_false]at C;refine .inr ⟨L,?_⟩;obtain⟨o,ho,_⟩:=(get i _ (jf N)).2 L;have:π i<ρ.length:=by rw[s.hlen]; exact(jG.1 ho).1
  rw[List.getD_eq_getElem?_getD,jf this]at C;rw[jf this];simpa using C
 let bs2:(Base Lw):={ S:=Ny ρ2 objs,w0:=w,H0:=H,r0:=ρ2.take m }
 have s2':SatW bs2 ρ2 H objs w:=
  { sath:=s2.sath,hlen:=s2.hlen,pre:=List.take_prefix _ _,objs:=s2.objs,excl:=s2.excl,own:=fun k o v b N hv hl D=>.inl ⟨k,o,v,N,hv,hl,D⟩,keep:=Keep.refl _ w,leH:=PH.le.refl H,newH:=fun b o v h=>.inl ⟨v,h⟩ }
 have lentS:∀ b,Ny ρ2 objs b->∃ i o v,i<objs.length/\i ∉ fresh/\lo[π i]? =some o/\ρ[π i]? =some v/\o.live=true/\qC v=some b:=by
  rintro b ⟨i,o,v,G,hv,hl',D⟩;obtain⟨hlt,hc⟩:=ρ2get hv;rcases hc with ⟨_,rfl⟩|⟨L,C⟩
  ·simp[qC]at D
  obtain⟨U,ho0,J⟩:=(get i o G).2 L;exact⟨i,U,v,hlt,L,ho0,C,EA J hl',D⟩
 have key:∀ (r0:FV) (q:List AObj) (ρ':List Value) (H':(PH Lw)) (w':World) (v:Value),R r0 q->PH.le H H'->SatW bs2 ρ' H' q w'->qD ρ' H' r0 v->∃ r lo',fW bs ρ H r lo' v w'/\K r lo':=by
  intro r0 q ρ' H' w' v hR J M rv;obtain⟨r,lo2,rfl,rfl,N⟩:=hK r0 q hR;refine⟨_,_,?_,N⟩;have O:ρ2.length=objs.length:=by simp[ρ2,Bf]
  have hpre:ρ2.take m <+: ρ':=M.pre;have hm':m<=ρ'.length:=by
   have:=hpre.length_le;rw[js,O]at this;omega
  have hold:∀ i,i<m->ρ'[i]? =ρ2[i]?:=by
   intro i G;obtain⟨t,ht⟩:=hpre;rw[← ht,jB (by rw[js,O]; omega),List.getElem?_take,if_pos G]
  have hσ:∀ i v,ρ'[i]? =some v->(ρ++ρ'.drop m)[Td l m lo.length i]? =some v:=by
   intro i v hv;unfold Td;by_cases G:i<m
   ·have:Nat.blt i m=true:=Nat.ble_eq_true_of_le G
    simp only[this];rw[hold i G]at hv;obtain⟨hlt,hc⟩:=ρ2get hv;rcases hc with ⟨L,_⟩|⟨_,C⟩
    ·exact absurd L (hfr i G)
    have hπ:l.getD i 0=π i:=rfl;rw[hπ,jB (jG.1 C).1];exact C
   have:Nat.blt i m=false:=by
    cases hx:Nat.blt i m with
    | false=>rfl
    | true=>exact absurd (jh hx) G
   simp only[this];rw[jC (by rw[s.hlen]; omega),s.hlen,Nat.add_sub_cancel_left,jD];have e:m+(i - m)=i:=by omega
   rw[e];exact hv
  have cls:∀ (j:Nat) (o:AObj) (v:Value),(DS l fresh m lo q)[j]? =some o->(ρ++ρ'.drop m)[j]? =some v->o.live=true ->
    (∃ i U,q[i]? =some U/\ρ'[i]? =some v/\o=U.ren (Td l m lo.length)/\j=Td l m lo.length i) \/
    (j<lo.length/\lo[j]? =some o/\ρ[j]? =some v/\∀ i,i<objs.length->i ∉ fresh->π i≠j):=by
   intro j o v Z hv d;rcases UQ Z with ⟨U,E,B⟩|⟨E,U,B,h3⟩
   ·have hjl:=(jG.1 E).1
    rw[jB (by rw[s.hlen]; exact hjl)]at hv;rw[jw]at B;unfold Db at B;split at B
    ·rename_i i hp
     obtain⟨_,hli,hif⟩:=CJ hp;rw[Nat.sub_zero]at hli;have hil:i<l.length:=(jG.1 hli).1;have hπ:π i=j:=by have:=hlget i hil; rw[hli]at this; exact(Option.some.inj this).symm
     split at B
     ·rename_i him
      have him:i<m:=jh him;split at B
      ·rename_i o' ho'
       refine .inl ⟨i,o',ho',?_,B,?_⟩
       ·rw[hold i him]
        have hik:i<objs.length:=by omega
        rw[show ρ2[i]? =_ from xU hik];simp only[hif,if_false];rw[List.getD_eq_getElem?_getD,hπ,hv];rfl
       unfold Td;simp only[show Nat.blt i m=true from Nat.ble_eq_true_of_le him];exact hπ.symm
      rw[B]at d; simp[AObj.live]at d
     rw[B]at d; simp[AObj.live]at d
    rename_i hp;refine .inr ⟨hjl,by rw[B]; exact E,hv,fun i G L e=>?_⟩;have:=CI hp i (by rw[hlget i (by omega)]; exact congrArg some e);rw[jw]at this;exact L this
   refine .inl ⟨m+(j - lo.length),U,B,?_,h3,?_⟩
   ·rw[jC (by rw[s.hlen]; exact E),s.hlen,jD]at hv
    exact hv
   unfold Td;have:Nat.blt (m+(j - lo.length)) m=false:=by
    cases hx:Nat.blt (m+(j - lo.length)) m with
    | false=>rfl
    | true=>have:=jh hx; omega
   simp only[this];omega
  have apart:∀ (j:Nat) (o:AObj) (v:Value) (b:Nat),lo[j]? =some o->ρ[j]? =some v->(∀ i,i<objs.length->i ∉ fresh->π i≠j)->o.live=true->qC v=some b->¬ Ny ρ2 objs b:=by
   intro j o v b Z hv Q d D hlent;obtain⟨i,U,v0,G,L,ho0,hv0,hl0,hb0⟩:=lentS b hlent;exact s.excl (π i) j U o v0 v b ho0 Z hv0 hv (Q i G L) hl0 d hb0 D
  have old:∀ (j:Nat) (o:AObj) (v:Value) (b:Nat),lo[j]? =some o->ρ[j]? =some v->o.live=true->qC v=some b->b<w.heap.size:=by
   intro j o v b Z hv d D;have hfresh:=s.fresh (g:=b);rcases Nat.lt_or_ge b w.heap.size with h|h
   ·exact h
   exact absurd D (hfresh h j o v Z hv d)
  have ownS:∀ b,bs2.S b\/w.heap.size<=b->bs.S b\/bs.w0.heap.size<=b:=by
   rintro b (D|D)
   ·obtain⟨i,U,v0,_,_,ho0,hv0,hl0,hb0⟩:=lentS b D
    exact s.own _ U v0 b ho0 hv0 hl0 hb0
   exact .inr (Nat.le_trans s.keep.size D)
  refine⟨ρ++ρ'.drop m,H',List.prefix_append _ _,J,?_,rv.ren hσ⟩;refine{ sath:=M.sath,hlen:=?_,pre:=s.pre.trans (List.prefix_append _ _),objs:=?_,excl:=?_,own:=?_,keep:=?_,leH:=s.leH.trans J,newH:=?_ }
  ·unfold DS
   rw[Qc,List.length_append,List.length_drop,s.hlen,M.hlen]
  ·intro j o v Z hv
   cases d:o.live with
   | false=>cases o<;>simp[AObj.live]at d; trivial
   | true=>
    rcases cls j o v Z hv d with ⟨i,U,E,B,rfl,_⟩|⟨hjl,E,B,Q⟩
    ·exact(M.objs i U v E B).ren hσ
    refine(s.objs j o v E B).keep (List.prefix_append _ _) J (fun b D hlt=>M.keep.block b hlt (apart j o v b E B Q d D)) (fun b o' D hlt hn=>?_)
    cases hx:H' b o' with
    | none=>rfl
    | some u=>
     rcases M.newH b o' u hx with ⟨y,hy⟩|hS|I
     ·have hy':H b o'=some y:=hy
      rw[hn]at hy'; cases hy'
     ·exact absurd hS (apart j o v b E B Q d D)
     have hge':w.heap.size<=b:=I;omega
  ·intro j1 j2 o1 o2 v1 v2 b hj1 hj2 hv1 hv2 hne V X hb1 hb2
   rcases cls j1 o1 v1 hj1 hv1 V with ⟨i1,a1,E,F,rfl,e1⟩|⟨hjl1,E,F,hnot1⟩<;>rcases cls j2 o2 v2 hj2 hv2 X with ⟨i2,a2,B,Y,rfl,e2⟩|⟨hjl2,B,Y,hnot2⟩
   ·exact M.excl i1 i2 a1 a2 v1 v2 b E B F Y (fun e=>hne (by rw[e1,e2,e])) (by rw[← AObj.ren_live]; exact V) (by rw[← AObj.ren_live]; exact X) hb1 hb2
   ·have:=M.own i1 a1 v1 b E F (by rw[← AObj.ren_live]; exact V) hb1
    rcases this with hS|I
    ·exact apart j2 o2 v2 b B Y hnot2 X hb2 hS
    have hge':w.heap.size<=b:=I;have:=old j2 o2 v2 b B Y X hb2;omega
   ·have:=M.own i2 a2 v2 b B Y (by rw[← AObj.ren_live]; exact X) hb2
    rcases this with hS|I
    ·exact apart j1 o1 v1 b E F hnot1 V hb1 hS
    have hge':w.heap.size<=b:=I;have:=old j1 o1 v1 b E F V hb1;omega
   exact s.excl j1 j2 o1 o2 v1 v2 b E B F Y hne V X hb1 hb2
  ·intro j o v b Z hv d D
   rcases cls j o v Z hv d with ⟨i,a,E,F,rfl,_⟩|⟨_,E,F,_⟩
   ·exact ownS b (M.own i a v b E F (by rw[← AObj.ren_live]; exact d) D)
   exact s.own j o v b E F d D
  ·exact s.keep.step M.keep fun i G=>ownS i (.inl G)
  intro b o u hu;rcases M.newH b o u hu with ⟨y,hy⟩|hS|I
  ·exact s.newH b o y hy
  ·exact .inr (ownS b (.inl hS))
  exact .inr (ownS b (.inr I))
 have:=h bs2 ρ2 H w vs rfl s2' rl2;generalize (callFunc f vs.toArray).run P w=x at *;cases x with
 | ok n w'=>
  cases n<;>simp only at this ⊢ <;> try exact this
  ·obtain⟨r0,q,ρ',H',hR,J,M,rv⟩:=this
   exact key r0 q ρ' H' w' _ hR J M rv
  obtain⟨rfl,hc⟩:=this;exact⟨rfl,hc.mono fun en w'' ⟨v,r0,q,ρ',H',e,hR,J,M,rv⟩=>by
   obtain⟨r,lo',af,k⟩:=key r0 q ρ' H' w'' v hR J M rv;exact⟨v,r,lo',e,af,k⟩⟩
 | halt x w'=>exact this
end Ax
end
section
namespace Ax
open Go
variable {Lw:Nat}
section
variable {K V:Type} [BEq K]
end
theorem Codec.getN {A:Type} (C:Codec A) {l:List A} {j:Nat} {x:A} (h:l[j]? =some x):(C.rows l)[j]? =some (C.cells x):=by
 rw[C.hrows]; simp[h]
theorem Codec.setN {A:Type} (C:Codec A) (l:List A) (j:Nat) (y:A):(C.rows l).set j (C.cells y)=C.rows (l.set j y):=by
 rw[C.hrows,C.hrows,List.map_set]
end Ax
end
section
open Go
namespace Ax
theorem wk {nb:Nat} {E:Env} {lo:List AObj} {E':Env} {lo':List AObj} (l fresh:List Nat) (h:NW nb l fresh lo'=true/\l.length=lo'.length/\CD lo'.length E'=true/\dg lo'.length lo'=true:=by exact⟨rfl,rfl,rfl,rfl⟩)
  (h1:Lb E (Tc l) fresh E':=by repeat (first|exact trivial|exact .inl rfl|exact rfl|exact List.not_mem_nil|(refine .inr ?_)|(refine⟨?_,?_⟩)|exact List.length_set.symm|decide))
  (h2:BZ lo (Tc l) fresh 0 lo':=by repeat (first|exact trivial|exact .inl rfl|exact rfl|exact List.not_mem_nil|(refine .inr ?_)|(refine⟨?_,?_⟩)|exact List.length_set.symm|decide)):Us nb E lo E' lo':=⟨l,fresh,h,h1,h2⟩
theorem zg {P:Program} {f:FuncId} {args:List FV} {objs:List AObj} {m:Nat} {R:FV->List AObj->Prop} (h:zb P f args objs m R) (l fresh:List Nat) {args':List FV} {lo:List AObj} {K:FV->List AObj->Prop}
  (hK:∀ r0 objs',R r0 objs'->∃ r lo2,r0.ren (Td l m lo.length)=r/\DS l fresh m lo objs'=lo2/\K r lo2)
  (hw:NU 0 l fresh=true/\l.length=objs.length/\UR objs.length args=true/\dg objs.length objs=true/\Nat.ble m objs.length=true/\(List.range m).all (fun i=>!fresh.contains i)=true:=by exact⟨rfl,rfl,rfl,rfl,rfl,rfl⟩)
  (ha:leArgs (Tc l) fresh args' args:=by repeat (first|exact trivial|exact .inl rfl|exact rfl|exact List.not_mem_nil|(refine .inr ?_)|(refine⟨?_,?_⟩)|exact List.length_set.symm|decide))
  (ho:BZ lo (Tc l) fresh 0 objs:=by repeat (first|exact trivial|exact .inl rfl|exact rfl|exact List.not_mem_nil|(refine .inr ?_)|(refine⟨?_,?_⟩)|exact List.length_set.symm|decide)):gS P f args' lo K:=zb.use h l fresh hw ha ho hK
theorem Sk {P:Prop} (h:P:=by repeat (first|exact rfl|exact trivial|refine⟨?_,?_⟩)):P:=h
theorem ifc {R:Type} {c:Bool} {a b:Option R} {r:R} {P Q:Prop} (h:(bif c then a else b)=some r) (f:c=true->a=some r->P) (g:c=false->b=some r->Q):(c=true->P)/\(c=false->Q):=
 ⟨fun hc=>f hc (uU h hc),fun hc=>g hc (uT h hc)⟩
theorem sj {A:Type} {a b:A} (h:some a=some b):a=b:=Option.some.inj h
theorem bq {A R:Type} {o:Option A} {k:A->Option R} {r:R} {G:Prop} (h:bnd o k=some r) (f:∀ x,o=some x->k x=some r->G):G:=by
 obtain⟨x,h1,h2⟩:=GP h;exact f x h1 h2
end Ax
end
section
namespace W
open Go Ax
inductive qb where
 | mk (op:Int) (name:List UInt8) (val:Val) (names:List (List UInt8)) (args:List qb)
mutual
def qb.cells:qb->List PV
 | .mk op name ⟨k,b,i,s,l,ks⟩ names args=>[.int .i64 op,.str name,.int .i64 k,.bool b,.int .i64 i,.str s,.sl (Val.rows l),.sl (qy ks),.sl (qy names),.sl (qb.rows args)]
def qb.rows:List qb->List (List PV)
 | []=>[]
 | v::l=>v.cells::qb.rows l
end
theorem qb.rows_eq:∀ l:List qb,qb.rows l=l.map qb.cells
 | []=>rfl
 | v::l=>by simp only[qb.rows,jk]; rw[qb.rows_eq l]
theorem qb.width (e:qb):e.cells.length=10:=by obtain⟨_,_,⟨_,_,_,_,_,_⟩,_,_⟩:=e; rfl
theorem qb.one (e:qb):e.cells.all Fp=true:=by obtain⟨_,_,⟨_,_,_,_,_,_⟩,_,_⟩:=e; rfl
def zU:Codec qb:={ cells:=qb.cells,rows:=qb.rows,z:=10,hrows:=fun l=>qb.rows_eq l,hz:=qb.width,hone:=qb.one }
instance:Inhabited qb:=⟨.mk 0 [] default [] []⟩
structure qd where
 var_:List UInt8
 labels:List (List UInt8)
 keys:List (List UInt8)
 vals:List qb
def qd.cells:qd->List PV
 | ⟨x1,x2,x3,x4⟩=>[.str x1,.sl (qy x2),.sl (qy x3),.sl (qb.rows x4)]
def qd.rows (l:List qd):List (List PV):=l.map qd.cells
def vd:Codec qd:={ cells:=qd.cells,rows:=qd.rows,z:=4,hrows:=fun _=>rfl,hz:=fun⟨a,b,c,d⟩=>rfl,hone:=fun⟨a,b,c,d⟩=>rfl }
deriving instance Inhabited for qd
structure qh where
 var_:List UInt8
 type_:List UInt8
 dir:Int
 keys:List (List UInt8)
 vals:List qb
def qh.cells:qh->List PV
 | ⟨x1,x2,x3,x4,x5⟩=>[.str x1,.str x2,.int .i64 x3,.sl (qy x4),.sl (qb.rows x5)]
def qh.rows (l:List qh):List (List PV):=l.map qh.cells
def fP:Codec qh:={ cells:=qh.cells,rows:=qh.rows,z:=5,hrows:=fun _=>rfl,hz:=fun⟨a,b,c,d,e⟩=>rfl,hone:=fun⟨a,b,c,d,e⟩=>rfl }
deriving instance Inhabited for qh
structure zj where
 nodes:List qd
 edges:List qh
def zj.cells:zj->List PV
 | ⟨x1,x2⟩=>[.sl (qd.rows x1),.sl (qh.rows x2)]
def zj.rows (l:List zj):List (List PV):=l.map zj.cells
def rC:Codec zj:={ cells:=zj.cells,rows:=zj.rows,z:=2,hrows:=fun _=>rfl,hz:=fun⟨a,b⟩=>rfl,hone:=fun⟨a,b⟩=>rfl }
deriving instance Inhabited for zj
structure zx where
 e:qb
 as_:List UInt8
def zx.cells:zx->List PV
 | ⟨⟨x1,x2,⟨x3,x4,x5,x6,x7,x8⟩,x9,x10⟩,x11⟩=>[.int .i64 x1,.str x2,.int .i64 x3,.bool x4,.int .i64 x5,.str x6,.sl (Val.rows x7),.sl (qy x8),.sl (qy x9),.sl (qb.rows x10),.str x11]
def zx.rows (l:List zx):List (List PV):=l.map zx.cells
def Uu:Codec zx:={ cells:=zx.cells,rows:=zx.rows,z:=11,hrows:=fun _=>rfl,hz:=fun⟨⟨c,d,⟨e,f,g,h,i,j⟩,k,a⟩,b⟩=>rfl,hone:=fun⟨⟨c,d,⟨e,f,g,h,i,j⟩,k,a⟩,b⟩=>rfl }
deriving instance Inhabited for zx
structure za where
 e:qb
 down:Bool
def za.cells:za->List PV
 | ⟨⟨x1,x2,⟨x3,x4,x5,x6,x7,x8⟩,x9,x10⟩,x11⟩=>[.int .i64 x1,.str x2,.int .i64 x3,.bool x4,.int .i64 x5,.str x6,.sl (Val.rows x7),.sl (qy x8),.sl (qy x9),.sl (qb.rows x10),.bool x11]
def za.rows (l:List za):List (List PV):=l.map za.cells
def Qg:Codec za:={ cells:=za.cells,rows:=za.rows,z:=11,hrows:=fun _=>rfl,hz:=fun⟨⟨c,d,⟨e,f,g,h,i,j⟩,k,a⟩,b⟩=>rfl,hone:=fun⟨⟨c,d,⟨e,f,g,h,i,j⟩,k,a⟩,b⟩=>rfl }
deriving instance Inhabited for za
structure qm where
 var_:List UInt8
 key:List UInt8
 label:List UInt8
 e:qb
def qm.cells:qm->List PV
 | ⟨x1,x2,x3,⟨x4,x5,⟨x6,x7,x8,x9,x10,x11⟩,x12,x13⟩⟩=>[.str x1,.str x2,.str x3,.int .i64 x4,.str x5,.int .i64 x6,.bool x7,.int .i64 x8,.str x9,.sl (Val.rows x10),.sl (qy x11),.sl (qy x12),.sl (qb.rows x13)]
def qm.rows (l:List qm):List (List PV):=l.map qm.cells
def mz:Codec qm:={ cells:=qm.cells,rows:=qm.rows,z:=13,hrows:=fun _=>rfl,hz:=fun⟨e,f,g,⟨h,i,⟨j,k,l,m,a,b⟩,c,d⟩⟩=>rfl,hone:=fun⟨e,f,g,⟨h,i,⟨j,k,l,m,a,b⟩,c,d⟩⟩=>rfl }
deriving instance Inhabited for qm
structure qt where
 kind:Int
 paths:List zj
 where_:List qb
 e:qb
 var_:List UInt8
 items:List zx
 unique:Bool
 order:List za
 skip:List qb
 limit:List qb
 sets:List qm
 vars:List (List UInt8)
 detach:Bool
def qt.cells:qt->List PV
 | ⟨x1,x2,x3,⟨x4,x5,⟨x6,x7,x8,x9,x10,x11⟩,x12,x13⟩,x14,x15,x16,x17,x18,x19,x20,x21,x22⟩=>[.int .i64 x1,.sl (zj.rows x2),.sl (qb.rows x3),.int .i64 x4,.str x5,.int .i64 x6,.bool x7,.int .i64 x8,.str x9,.sl (Val.rows x10),.sl (qy x11),.sl (qy x12),.sl (qb.rows x13),.str x14,.sl (zx.rows x15),.bool x16,.sl (za.rows x17),.sl (qb.rows x18),.sl (qb.rows x19),.sl (qm.rows x20),.sl (qy x21),.bool x22]
def qt.rows (l:List qt):List (List PV):=l.map qt.cells
def ub:Codec qt:={ cells:=qt.cells,rows:=qt.rows,z:=22,hrows:=fun _=>rfl,hz:=fun⟨n,o,p,⟨q,r,⟨s,t,u,v,a,b⟩,c,d⟩,e,f,g,h,i,j,k,l,m⟩=>rfl,hone:=fun⟨n,o,p,⟨q,r,⟨s,t,u,v,a,b⟩,c,d⟩,e,f,g,h,i,j,k,l,m⟩=>rfl }
deriving instance Inhabited for qt
structure ZV where
 clauses:List qt
def ZV.cells:ZV->List PV
 | ⟨x1⟩=>[.sl (qt.rows x1)]
def ZV.rows (l:List ZV):List (List PV):=l.map ZV.cells
def NM:Codec ZV:={ cells:=ZV.cells,rows:=ZV.rows,z:=1,hrows:=fun _=>rfl,hz:=fun⟨a⟩=>rfl,hone:=fun⟨a⟩=>rfl }
deriving instance Inhabited for ZV
structure qk where
 kind:Int
 text:List UInt8
 int:Int
 at_:Int
def qk.cells:qk->List PV
 | ⟨x1,x2,x3,x4⟩=>[.int .i64 x1,.str x2,.int .i64 x3,.int .i64 x4]
def qk.rows (l:List qk):List (List PV):=l.map qk.cells
def dj:Codec qk:={ cells:=qk.cells,rows:=qk.rows,z:=4,hrows:=fun _=>rfl,hz:=fun⟨a,b,c,d⟩=>rfl,hone:=fun⟨a,b,c,d⟩=>rfl }
deriving instance Inhabited for qk
structure Node where
 id:Int
 labels:List (List UInt8)
 keys:List (List UInt8)
 vals:List Val
def Node.cells:Node->List PV
 | ⟨x1,x2,x3,x4⟩=>[.int .i64 x1,.sl (qy x2),.sl (qy x3),.sl (Val.rows x4)]
def Node.rows (l:List Node):List (List PV):=l.map Node.cells
def bU:Codec Node:={ cells:=Node.cells,rows:=Node.rows,z:=4,hrows:=fun _=>rfl,hz:=fun⟨a,b,c,d⟩=>rfl,hone:=fun⟨a,b,c,d⟩=>rfl }
deriving instance Inhabited for Node
structure Edge where
 id:Int
 from_:Int
 to:Int
 type_:List UInt8
 keys:List (List UInt8)
 vals:List Val
def Edge.cells:Edge->List PV
 | ⟨x1,x2,x3,x4,x5,x6⟩=>[.int .i64 x1,.int .i64 x2,.int .i64 x3,.str x4,.sl (qy x5),.sl (Val.rows x6)]
def Edge.rows (l:List Edge):List (List PV):=l.map Edge.cells
def nQ:Codec Edge:={ cells:=Edge.cells,rows:=Edge.rows,z:=6,hrows:=fun _=>rfl,hz:=fun⟨a,b,c,d,e,f⟩=>rfl,hone:=fun⟨a,b,c,d,e,f⟩=>rfl }
deriving instance Inhabited for Edge
structure Graph where
 nodes:List Node
 edges:List Edge
def Graph.cells:Graph->List PV
 | ⟨x1,x2⟩=>[.sl (Node.rows x1),.sl (Edge.rows x2)]
def Graph.rows (l:List Graph):List (List PV):=l.map Graph.cells
def df:Codec Graph:={ cells:=Graph.cells,rows:=Graph.rows,z:=2,hrows:=fun _=>rfl,hz:=fun⟨a,b⟩=>rfl,hone:=fun⟨a,b⟩=>rfl }
deriving instance Inhabited for Graph
structure Env where
 names:List (List UInt8)
 vals:List Val
def Env.cells:Env->List PV
 | ⟨x1,x2⟩=>[.sl (qy x1),.sl (Val.rows x2)]
def Env.rows (l:List Env):List (List PV):=l.map Env.cells
def MJ:Codec Env:={ cells:=Env.cells,rows:=Env.rows,z:=2,hrows:=fun _=>rfl,hz:=fun⟨a,b⟩=>rfl,hone:=fun⟨a,b⟩=>rfl }
deriving instance Inhabited for Env
structure pd where
 v:Env
 g:Graph
 params:Val
def pd.cells:pd->List PV
 | ⟨⟨x1,x2⟩,⟨x3,x4⟩,⟨x5,x6,x7,x8,x9,x10⟩⟩=>[.sl (qy x1),.sl (Val.rows x2),.sl (Node.rows x3),.sl (Edge.rows x4),.int .i64 x5,.bool x6,.int .i64 x7,.str x8,.sl (Val.rows x9),.sl (qy x10)]
def pd.rows (l:List pd):List (List PV):=l.map pd.cells
def MH:Codec pd:={ cells:=pd.cells,rows:=pd.rows,z:=10,hrows:=fun _=>rfl,hz:=fun⟨⟨b,c⟩,⟨d,e⟩,⟨f,g,h,i,j,a⟩⟩=>rfl,hone:=fun⟨⟨b,c⟩,⟨d,e⟩,⟨f,g,h,i,j,a⟩⟩=>rfl }
deriving instance Inhabited for pd
structure fV where
 name:List UInt8
 labels:List (List UInt8)
 keys:List (List UInt8)
 vals:List Val
def fV.cells:fV->List PV
 | ⟨x1,x2,x3,x4⟩=>[.str x1,.sl (qy x2),.sl (qy x3),.sl (Val.rows x4)]
def fV.rows (l:List fV):List (List PV):=l.map fV.cells
def Xa:Codec fV:={ cells:=fV.cells,rows:=fV.rows,z:=4,hrows:=fun _=>rfl,hz:=fun⟨a,b,c,d⟩=>rfl,hone:=fun⟨a,b,c,d⟩=>rfl }
deriving instance Inhabited for fV
structure RX where
 edge:fV
 of:List UInt8
 dir:Int
 node:fV
def RX.cells:RX->List PV
 | ⟨⟨x1,x2,x3,x4⟩,x5,x6,⟨x7,x8,x9,x10⟩⟩=>[.str x1,.sl (qy x2),.sl (qy x3),.sl (Val.rows x4),.str x5,.int .i64 x6,.str x7,.sl (qy x8),.sl (qy x9),.sl (Val.rows x10)]
def RX.rows (l:List RX):List (List PV):=l.map RX.cells
def Ld:Codec RX:={ cells:=RX.cells,rows:=RX.rows,z:=10,hrows:=fun _=>rfl,hz:=fun⟨⟨b,c,d,e⟩,f,g,⟨h,i,j,a⟩⟩=>rfl,hone:=fun⟨⟨b,c,d,e⟩,f,g,⟨h,i,j,a⟩⟩=>rfl }
deriving instance Inhabited for RX
structure qK where
 first:fV
 legs:List RX
def qK.cells:qK->List PV
 | ⟨⟨x1,x2,x3,x4⟩,x5⟩=>[.str x1,.sl (qy x2),.sl (qy x3),.sl (Val.rows x4),.sl (RX.rows x5)]
def qK.rows (l:List qK):List (List PV):=l.map qK.cells
def mB:Codec qK:={ cells:=qK.cells,rows:=qK.rows,z:=5,hrows:=fun _=>rfl,hz:=fun⟨⟨a,b,c,d⟩,e⟩=>rfl,hone:=fun⟨⟨a,b,c,d⟩,e⟩=>rfl }
deriving instance Inhabited for qK
end W
end
section
open Go Go.Proofs Go.RowKit
namespace Ax
variable {Lw:Nat}
theorem HD {bs:(Base Lw)} {ρ:List Value} {H:(PH Lw)} {lo:List AObj} {w w':World} (s:SatW bs ρ H lo w) {e:TypeId} {z n:Nat} {v':Value} {xs:List Value} (f:Below w.heap.size w w')
  (i:w'.ownsRow w.heap.size e z v' n xs) (B:∀ u∈xs,u.oneCell'=true) :
  PH.le H (zl H v' xs)/\w'.ownsRow 0 e z v' n xs/\SatW bs (ρ++[v']) (zl H v' xs) (lo++[.tail e z n]) w':=by
 have q:∀ b,qC v'=some b->w.heap.size<=b:=by
  intro b f;rcases i.2 with ⟨rfl,_⟩|⟨g,cap,cur,rfl,y,_⟩
  ·simp[qC]at f
  simp[qC]at f; omega
 have t:∀ b o u,qC v'=some b->H b o=some u->False:=fun b o u f hu=>by
  have F:=s.sath.lt hu;have G:=q b f;omega
 have l:PH.le H (zl H v' xs):=by
  intro b o u hu;unfold zl;rw[if_neg (fun r=>t b o u r.1 hu)]
  exact hu
 have d:w'.ownsRow 0 e z v' n xs:=⟨i.1,i.2.imp id fun⟨g,cap,cur,a,b,c⟩=>⟨g,cap,cur,a,jR _,c⟩⟩;have hcell:∀ g,qC v'=some g->∀ o u,xs[o]? =some u->w'.cell? ⟨g,o,none⟩=some u:=by
  intro g y o u hu;have:=d.cells (g:=g) (by
   rcases d.2 with ⟨rfl,_⟩|⟨I,cap,cur,rfl,_⟩
   ·simp[qC]at y
   simpa[qC,Value.ownBlock]using y) o u hu
  rwa [Addr.add_lit,jw]at this
 have hkeep:∀ S,Keep S w w':=fun S=>⟨f.os,f.tape,f.output,f.size,fun k C _=>f.block k C⟩
 have m:SatH (zl H v' xs) w':=by
  refine⟨?_,s.sath.root.mono l,Nat.le_trans s.sath.low f.size,?_⟩
  rotate_left
  ·intro b o u hu D
   by_cases v:qC v'=some b
   ·exact .own d v
   unfold zl at hu;rw[if_neg (fun r=>v r.1)]at hu
   exact(s.sath.nf b o u hu D).block (f.block b (s.sath.lt hu))
  intro b o u hu;unfold zl at hu;split at hu
  ·rename_i r
   exact⟨hcell b r.1 o u hu,B u (List.mem_of_getElem? hu)⟩
  obtain⟨A,hone⟩:=s.sath.cell b o u hu;refine⟨?_,hone⟩;rw[World.cell?_of_block (w:=w) (a:=⟨b,o,none⟩) (f.block b (s.sath.lt hu))];exact A
 have x:∀ ρ,pQ ρ (zl H v' xs) w' v' (.tail e z n):=by
  intro ρ;refine⟨xs,d,fun b f=>⟨fun j u hu=>?_,fun o J=>?_⟩⟩
  ·unfold zl
   rw[if_pos ⟨f,(jG.1 hu).1⟩];exact hu
  unfold zl;rw[if_neg (by rw[i.1]; omega)];cases E:H b o with
  | none=>rfl
  | some u=>exact(t b o u f E).elim
 have p:∀ b o u,zl H v' xs b o=some u->(∃ u,H b o=some u)\/qC v'=some b:=by
  intro b o u hu;unfold zl at hu;split at hu
  ·rename_i r; exact .inr r.1
  exact .inl ⟨u,hu⟩
 refine⟨l,d,?_⟩;cases hv:qC v' with
 | none=>
  refine s.push (g:=w.heap.size) (.inr hv) (s.fresh (jv _)) (.inr s.keep.size) l m (fun b o u hu=>?_) (hkeep _) (x _);rcases p b o u hu with h|h
  ·exact .inl h
  rw[hv]at h; cases h
 | some g=>
  refine s.push (g:=g) (.inl hv) (s.fresh (q g hv)) (.inr (Nat.le_trans s.keep.size (q g hv))) l m (fun b o u hu=>?_) (hkeep _) (x _);rcases p b o u hu with h|h
  ·exact .inl h
  rw[hv]at h; exact .inr (Option.some.inj h).symm
theorem MX (H:(PH Lw)):∀ (l:List (List UInt8)),xG H 1 (qy l) (l.map fun s=>Value.string ⟨s.toArray⟩)
 | []=>by simp[qy,xG]
 | b::l=>by
  have:=MX H l;unfold qy at this ⊢;simp only[jk,xG];refine⟨rfl,[.string ⟨b.toArray⟩],l.map fun s=>Value.string ⟨s.toArray⟩,by simp,?_,this⟩
  simp[qJ,qp]
theorem UY {H:(PH Lw)} {b z:Nat}:∀ {x:List (List UInt8)} {o:Nat},fa H b z o (qy x)->∀ (j:Nat) (l:List UInt8),x[j]? =some l->H b (o+j)=some (.string ⟨l.toArray⟩)
 | [],_,_,j,l,h=>by simp at h
 | y::x,o,r,j,l,h=>by
  simp only[qy,jk,fa]at r;obtain⟨hz,⟨vs,a,rc⟩,c⟩:=r;have hz:z=1:=by simpa using hz.symm
  subst hz;cases j with
  | zero=>
   simp only[List.getElem?_cons_zero,Option.some.injEq]at h;subst h;simp only[qJ,qp]at a;obtain⟨u,d,rfl,rfl,_⟩:=a;exact rc 0 _ rfl
  | succ j=>
   have:=UY (x:=x) c j l (by simpa using h);rw[show o+(j+1)=o+1+j from by omega];exact this
theorem BA {P:Program} {f:FuncId} (enter:∀ vs w,(callFunc f vs).run P w=.ok (.enter f vs) w) {e:TypeId}
  (l:∀ (n c:Nat) (w:World),Calls P f #[.slice none n c] w fun d w'=>d=.returned (.slice none 0 0)/\w'=w)
  (h:∀ (a:Addr) (c:Nat) (w:World),Calls P f #[.slice (some a) 0 c] w fun d w'=>∃ v',d=.returned v'/\w'.ownsRow w.heap.size e 1 v' 0 []/\v'≠.slice none 0 0/\Below w.heap.size w w')
  (i:∀ (b off n c:Nat) (r:List ByteArray) (w:World),n<=r.length->n * 16<=140737488355328->(∀ j,j<r.length->w.cell? ⟨b,off+j,none⟩=some (.string (r.getD j ByteArray.empty))) ->
   Calls P f #[.slice (some ⟨b,off,none⟩) n c] w fun d w'=>∃ v',d=.returned v'/\w'.ownsRow w.heap.size e 1 v' n ((r.take n).map Value.string)/\v'≠.slice none 0 0/\Below w.heap.size w w')
  (x:List (List UInt8)) (g:(qy x).length * 16<=140737488355328):zb P f [.p (.sl (qy x))] [] 0 (fun v lo=>v=.tsl 0 (qy x)/\lo=[.tail e 1 (qy x).length]):=by
 intro Lw bs ρ H w vs J s K;have y:ρ=[]:=List.eq_nil_of_length_eq_zero s.hlen;subst y;obtain⟨v,A,rfl,t,B⟩:=K;obtain rfl:A=[]:=B;have t:qp H (.sl (qy x)) v:=t;rw[enter];refine⟨rfl,?_⟩;have C:(qy x).length=x.length:=by simp[qy]
 have base:Calls P f [v].toArray w fun d w'=>∃ v',d=.returned v'/\w'.ownsRow w.heap.size e 1 v' x.length (x.map fun s=>Value.string ⟨s.toArray⟩)/\Below w.heap.size w w':=by
  simp only[qp]at t;rcases t with ⟨G,rfl|⟨a,cap,rfl⟩⟩|⟨b,o,z,cap,rfl,I,L⟩
  ·have D:x=[]:=by cases x with|nil=>rfl|cons _ _=>cases G
   subst D;refine(l 0 0 w).mono fun d w' p=>?_;obtain⟨rfl,rfl⟩:=p;exact⟨_,rfl,⟨by simp,.inl ⟨rfl,rfl⟩⟩,Below.refl _ _⟩
  ·have D:x=[]:=by cases x with|nil=>rfl|cons _ _=>cases G
   subst D;refine(h a cap w).mono fun d w' p=>?_;obtain⟨v',rfl,k,_,m⟩:=p;exact⟨_,rfl,k,m⟩
  rw[C]at g ⊢;refine(i b o x.length cap (x.map fun s=>⟨s.toArray⟩) w (by simp) g fun j E=>?_).mono fun d w' p=>?_
  ·simp only[jl]at E
   have M:=UY L j _ (jf E);rw[(s.sath.cell _ _ _ M).1];simp[List.getD,jf E]
  obtain⟨v',rfl,k,_,m⟩:=p;refine⟨_,rfl,?_,m⟩;rw[List.take_of_length_le (by simp),List.map_map]at k;exact k
 refine base.mono fun d w' p=>?_;obtain⟨v',rfl,k,m⟩:=p;obtain⟨q,F,N⟩:=HD s m k (fun u hu=>by obtain⟨_,_,rfl⟩:=List.mem_map.1 hu; rfl)
 refine⟨v',.tsl 0 (qy x),[.tail e 1 (qy x).length],[v'],_,rfl,⟨rfl,rfl⟩,q,by rw[C]; exact N,rfl,xD (MX H x) q (by rw[C]; exact F)⟩
end Ax
end
section
open Go Go.Proofs Ax Go.RowKit
namespace W
theorem Py : Tryz.prog.follows .mixedOrders = true := by kernel_rfl
theorem dT {Lw : Nat} {H : PH Lw} {w w' : World} (s : SatH H w) (h : Below w.heap.size w w') : Calm H w H w' :=
  ⟨PH.le.refl H, s.block h.size fun b _ _ hv => h.block b (s.lt hv), ⟨h.os, h.tape, h.output, h.size, fun k hk _ => h.block k hk⟩, fun _ _ v hv => .inl ⟨v, hv⟩⟩
set_option maxRecDepth 100000 in
theorem Gf (x : List (List UInt8)) (hbig : (qy x).length * 16 <= 140737488355328) : zb Tryz.prog 46 [.p (.sl (qy x))] [] 0 (fun v lo => v = .tsl 0 (qy x) /\ lo = [.tail 9 1 (qy x).length]) :=
  BA (fun _ _ => Tryz.call46 _ _) Tryz.slices_Clone_string_nil Tryz.slices_Clone_string_zero (fun b o n c zs w h1 h2 h3 => Tryz.slices_Clone_string b o n c zs w h1 h2 h3) x hbig
end W
end
section
open Go Go.Proofs Ax
namespace W
abbrev SS:=List UInt8
abbrev pI (x:Int):FV:=.p (.int .i64 x)
abbrev pS (x:List UInt8):FV:=.p (.str x)
abbrev pB (x:Bool):FV:=.p (.bool x)
abbrev pT (x:List (List UInt8)):FV:=.p (.sl (qy x))
abbrev pE (x:List qb):FV:=.p (.sl (qb.rows x))
abbrev pV (x:List Val):FV:=.p (.sl (Val.rows x))
abbrev pO (x:List za):FV:=.p (.sl (za.rows x))
abbrev pA (x:List zx):FV:=.p (.sl (zx.rows x))
abbrev pU (x:List qm):FV:=.p (.sl (qm.rows x))
abbrev pP (x:List zj):FV:=.p (.sl (zj.rows x))
abbrev pN (x:List qd):FV:=.p (.sl (qd.rows x))
abbrev pG (x:List qh):FV:=.p (.sl (qh.rows x))
abbrev pC (x:List qt):FV:=.p (.sl (qt.rows x))
abbrev pK (x:List qk):FV:=.p (.sl (qk.rows x))
theorem SQ {m n:Nat} (h:Nat.ble m n=true):m<=n:=jh h
abbrev LK (T R:Type):Type:=(T->Option R)->T->Option R
noncomputable abbrev TP:Program:=Tryz.prog
set_option maxRecDepth 100000 in
theorem zN {f:FuncId} {fn:Func} {args:List PV} {r:PV} (he:Ax.Enters Tryz.prog f) (hf:Tryz.prog.funcs[f]? =some fn) (inl:List Nat) (h:PE Tryz.prog inl fn args (fun v=>Sw v r)) (hok:LI inl fn args.length=true:=by kernel_rfl):qi Tryz.prog f args r:=qi.of_vcN Py he hf hok h
set_option maxRecDepth 100000 in
theorem zO {f:FuncId} {fn:Func} {args:List FV} {objs:List AObj} {m:Nat} {R:FV->List AObj->Prop} (he:Ax.Enters Tryz.prog f) (hf:Tryz.prog.funcs[f]? =some fn) (inl:List Nat) (h:SM Tryz.prog inl fn args objs m R) (hok:LI inl fn args.length=true:=by kernel_rfl) (hml:m<=objs.length:=by exact SQ rfl):zb Tryz.prog f args objs m R:=zb.of_vc Py he hf hok hml h
abbrev SR:FV:=.p (.int .i64 (0:Int))
abbrev SU:FV:=.p (.str ([]:SS))
abbrev SV:FV:=.p (.nilsl)
abbrev SW:AObj:=.box 65 [SR,SV,SV,SR,SU,SR,pB false,SR,SU,SV,SV,SV,SV,SU,SV,pB false,SV,SV,SV,SV,SV,pB false]
abbrev SX:AObj:=.box 60 [SR,SU,SR,pB false,SR,SU,SV,SV,SV,SV]
abbrev SY:AObj:=.box 49 [SV,SV]
abbrev SZ:AObj:=.box 85 [SU,SV,SV,SV]
abbrev Ta:AObj:=.box 83 [SU,SU,SR,SV,SV]
abbrev Tb:AObj:=.box 65 [.p (.int .i64 (8:Int)),SV,SV,SR,SU,SR,pB false,SR,SU,SV,SV,SV,SV,SU,SV,pB false,SV,SV,SV,SV,SV,pB false]
end W
end
section
namespace Ax
open Go
variable {Lw:Nat}
def tX (w:World):PH w.heap.size:=fun b o=>(w.cell? ⟨b,o,none⟩).bind fun v=>bif v.oneCell' then some v else none
theorem HJ {w:World} (h:∃ m,w.cell? ⟨0,0,none⟩=some (.int .i64 m)):SatH (tX w) w where
 cell:=fun b o v hv=>by
  unfold tX at hv;obtain⟨u,hu,a⟩:=Option.bind_eq_some_iff.1 hv;cases c:u.oneCell' with
  | false=>rw[c]at a; cases a
  | true=>rw[c]at a; cases a; exact⟨hu,c⟩
 root:=by
  obtain⟨m,hm⟩:=h;exact⟨m,by simp[tX,hm,Value.oneCell']⟩
 low:=jv _
 nf:=fun b o v hv d=>by
  unfold tX at hv;obtain⟨u,hu,_⟩:=Option.bind_eq_some_iff.1 hv;have:=World.block_lt_of_cell? w ⟨b,o,none⟩ hu;exact absurd d (by simp at this; omega)
theorem Mc {w:World} {a:Addr} {v:Value} (h:w.cell? a=some v) (d:v.oneCell'=true):tX w a.block a.off=some v:=by
 have c:a.spot=none:=by
  unfold World.cell? at h;split at h
  ·cases b:a.spot with
   | none=>rfl
   | some s=>rw[b]at h; simp at h
  ·cases h
 have:(⟨a.block,a.off,none⟩:Addr)=a:=by cases a; simp only at c; subst c; rfl
 unfold tX;rw[this,h];simp[d]
theorem Cf {w:World} {base:Nat} {a:Addr} {n:Nat} {cs:List Value} (h:w.cells? base a n=some cs):cs.length=n/\∀ j,j<n->w.cell? (a.add j)=cs[j]?:=by
 unfold World.cells? at h;split at h
 ·exact⟨by simpa using mapM_some_length h,fun j b=>mapM_some_get h j j (by simp[b])⟩
 cases h
section
variable {Hd:Type} {enc:TypeId×Value->Hd} {P:Program} {w:World}
def gP {α:Type} (enc:TypeId×Value->Hd) (P:Program) (w:World) (t:TypeId) (n:Nat) (row:α->List PV) (a:α->Nat) (bulk:DataW Hd->Nat):Prop:=
 ∀ (cs:List Value) (x:DataW Hd×List MemPlace),DataW.trod enc P w 0 (fun _=>true) true n t cs=some x->∃ v:α,qJ (tX w) (row v) cs/\(∀ u∈cs,u.oneCell'=true)/\a v<=bulk x.1
theorem PC {α:Type} {H:(PH Lw)} {b z:Nat} {row:α->List PV}:∀ (l:List α) (o:Nat) (a:Nat->List Value),(∀ v∈l,(row v).length=z) ->
  (∀ i v,l[i]? =some v->qJ H (row v) (a i)/\∀ j u,(a i)[j]? =some u->H b (o+i * z+j)=some u)->fa H b z o (l.map row)
 | [],_,_,_,_=>trivial
 | v::l,o,a,hz,h=>by
  simp only[jk,fa];refine⟨hz v (by simp),⟨a 0,(h 0 v rfl).1,fun j u hu=>by have:=(h 0 v rfl).2 j u hu; simpa using this⟩,?_⟩
  refine PC l (o+z) (fun i=>a (i+1)) (fun v hv=>hz v (by simp[hv])) fun i v' c=>?_
  obtain⟨d,f⟩:=h (i+1) v' (by simpa using c);refine⟨d,fun j u hu=>?_⟩;have:=f j u hu;rw[Nat.add_mul,Nat.one_mul]at this;have e:o+(i * z+z)+j=o+z+i * z+j:=by omega
  rw[← e]; exact this
theorem EE {α:Type} [Inhabited α] {t e:TypeId} {z fuel:Nat} {row:α->List PV} {B:α->Nat} {bulk:DataW Hd->Nat} (M:P.underlying t=some (.slice e)) (hz:P.cellsOf e=z) (N:1<=z)
  (p:∀ v,(row v).length=z) (D:∀ n,n<fuel->gP enc P w e n row B bulk) {cs:List Value} {x:DataW Hd×List MemPlace} (h:DataW.trod enc P w 0 (fun _=>true) true fuel t cs=some x) :
  ∃ (l:List α) (v:Value),cs=[v]/\v.oneCell'=true/\qp (tX w) (.sl (l.map row)) v /\
   ((x.1=.nil/\l=[])\/∃ elems rest,x.1=.slice elems rest/\l.length=elems.length/\∀ (i:Nat) (d:DataW Hd) (v:α),elems[i]? =some d->l[i]? =some v->B v<=bulk d):=by
 rcases DataW.trod_slice M h with ⟨rfl,rfl⟩|⟨a,len,cap,elems,rest,n,rfl,rfl,rfl,_,E,_,hlen,g,_,_⟩
 ·exact⟨[],_,rfl,rfl,by simp[qp],.inl ⟨rfl,rfl⟩⟩
 have L:∀ i,i<len->∃ (v:α) (cs:List Value) (d:DataW Hd×List MemPlace),elems[i]? =some d/\qJ (tX w) (row v) cs/\(∀ j u,cs[j]? =some u->tX w a.block (a.off+i * z+j)=some u)/\B v<=bulk d.1:=by
  intro i C;have q:=g i C;obtain⟨d,k⟩:∃ d,elems[i]? =some d:=⟨_,jf (by omega)⟩;rw[k]at q;obtain⟨cs,m,F⟩:=Option.bind_eq_some_iff.1 q;obtain⟨v,r,hone,G⟩:=D n (Nat.lt_succ_self n) cs d F;refine⟨v,cs,d,k,r,fun j u hu=>?_,G⟩;obtain⟨O,y⟩:=Cf m;have Q:j<P.cellsOf e:=by have:=(jG.1 hu).1; omega
  have c:=y j Q;rw[hu,Addr.add_add]at c;have:=Mc c (hone u (List.mem_of_getElem? hu));rw[hz]at this;have eb:(a.add (i * z+j)).block=a.block:=by unfold Addr.add; split<;>rfl
  have eo:(a.add (i * z+j)).off=a.off+i * z+j:=by unfold Addr.add; split<;>(try simp only)<;>omega
  rw[eb,eo]at this;exact this
 have spot:len≠0->a.spot=none:=by
  intro H;have q:=g 0 (by omega);obtain⟨d,k⟩:∃ d,elems[0]? =some d:=⟨_,jf (by omega)⟩;rw[k]at q;obtain⟨cs,m,_⟩:=Option.bind_eq_some_iff.1 q;obtain⟨O,y⟩:=Cf m;have c:=y 0 (by omega);rw[Nat.zero_mul,Addr.add_zero',Addr.add_zero']at c;cases hu:cs[0]? with
  | none=>have:=List.getElem?_eq_none_iff.1 hu; omega
  | some u=>
   rw[hu]at c;unfold World.cell? at c;split at c
   ·cases I:a.spot with
    | none=>rfl
    | some s=>rw[I]at c; simp at c
   ·cases c
 let f:Nat->α:=fun i=>if h:i<len then(L i h).choose else default
 have J:∀ i,i<len->∃ (cs:List Value) (d:DataW Hd×List MemPlace),elems[i]? =some d/\qJ (tX w) (row (f i)) cs/\(∀ j u,cs[j]? =some u->tX w a.block (a.off+i * z+j)=some u)/\B (f i)<=bulk d.1:=by
  intro i C;have:=(L i C).choose_spec;simp only[f,C,dif_pos];exact this
 refine⟨(List.range len).map f,_,rfl,rfl,?_,.inr ⟨_,_,rfl,by simp[hlen],fun i d v k hv=>?_⟩⟩
 ·simp only[qp,jl,List.length_range]
  by_cases H:len=0
  ·subst H
   exact .inl ⟨rfl,.inr ⟨_,_,rfl⟩⟩
  refine .inr ⟨a.block,a.off,z,cap,?_,E,?_⟩
  ·have:=spot H
   cases a;simp only at this;subst this;rfl
  refine PC ((List.range len).map f) a.off (fun i=>if h:i<len then(J i h).choose else[]) (fun v _=>p v) fun i v hv=>?_
  simp only[List.getElem?_map,Option.map_eq_some_iff]at hv;obtain⟨R,o,rfl⟩:=hv;obtain⟨b,e⟩:=jG.1 o;simp at b e;subst e;obtain⟨d,k,S,y,_⟩:=(J i b).choose_spec;simp only[b,dif_pos];exact⟨S,y⟩
 simp only[List.getElem?_map,Option.map_eq_some_iff]at hv k;obtain⟨R,o,rfl⟩:=hv;obtain⟨b,e⟩:=jG.1 o;simp at b e;subst e;obtain⟨T,K,rfl⟩:=k;obtain⟨_,d2,A,_,_,G⟩:=J i b;rw[K]at A;cases A;exact G
end
end Ax
end
section
namespace Ax
open Go Go.RowKit Go.ChangeShapes Go.WideShapes Go.ChangeAt
section
variable {H:Type} {enc:TypeId×Value->H} {P:Program}
theorem Qj (g:laidOutB P=true) {W W':World} {sp:Nat->Bool} (i:Below W.heap.size W W'):∀ {e:List TypeId} {vs:List Value} {j:List (DataW H)} {f:List MemPlace},
  (e.all fun t=>P.readableRec t&&decide (t<P.types.size))=true->DataW.TrodAll enc P W 0 (fun _=>true) true e vs j f->(∀ p∈f,p.block<W.heap.size)->(∀ p∈f,sp p.block=true) ->
  DataW.TrodAll enc P W' 0 sp true e vs j f
 | [],_,_,_,_,h,_,_=>by
  obtain⟨rfl,rfl,rfl⟩:=trodAll_nil h;exact trodAll_mk0
 | t::e,_,_,_,hr,h,hlt,hs=>by
  obtain⟨v,k,d,l,a,b,rfl,rfl,rfl,m,n⟩:=trodAll_cons h;simp only[List.all_cons,ji,kde]at hr;exact⟨a,b,WideElems.Trod_stays g hr.1.1 hr.1.2 m (fun x c=>i.same (hlt x (List.mem_append_left _ c))) (fun x c=>hs x (List.mem_append_left _ c)),
   Qj g i hr.2 n (fun x c=>hlt x (List.mem_append_right _ c)) (fun x c=>hs x (List.mem_append_right _ c)),rfl⟩
theorem Ms {f:Func} {s:ChangeSpec} {apart fresh a d:Bool} {W W':World} {args:Array Value} {e gs:List (DataW H)} {before:List MemPlace} {tb:TypeId} (z:laidOutB P=true)
  (A:(f.params.toList.all fun t=>P.readableRec t&&decide (t<P.types.size))=true) (m:DataW.Whole enc P f.params.toList s.vars apart W args.toList e gs before) (o:Below W.heap.size W W') (hvars:s.vars=[])
  (g:s.fn H (e++gs)={ results:=[.lit (.bool true)],args:=e }) (h:f.resultTypes = #[tb]) (hbool:P.underlying tb=some .bool):s.post enc P f apart fresh a d W args (.bool true) W':=by
 have i:∀ p∈before,p.block<W.heap.size:=fun p hp=>by simpa using m.lt p hp
 have j:∀ p∈before,(fun b=>decide (b<W.heap.size)) p.block=true:=fun p hp=>by simpa using m.lt p hp
 have r:=m;obtain⟨p,q,B,u,rfl,hz,C⟩:=r;have D:q=[]/\gs=[]:=by
  rw[hvars]at u;obtain⟨v,w⟩:=trodVars_none u;exact⟨by first|exact w|exact v,by first|exact v|exact w⟩
 obtain⟨rfl,rfl⟩:=D;simp only[List.append_nil]at *;have hargs:∀ sp:Nat->Bool,(∀ x∈p,sp x.block=true)->DataW.TrodAll enc P W' 0 sp true f.params.toList args.toList e p:=fun sp E=>Qj z o A B i E
 have c:∀ (b:Nat) (sp:Nat->Bool) (y:Bool),DataW.TrodAll enc P W' b sp y f.resultTypes.toList ((Value.bool true).resultList f.resultTypes.size) (s.fn H e).results []:=by
  intro b sp y;rw[h,g];exact trodAll_cons_mk (shut_bool hbool _) trodAll_mk0
 have k:∀ sp:Nat->Bool,DataW.TrodVars enc P W' sp s.vars (s.fn H e).vars []:=by
  intro sp;rw[hvars,g];rfl
 refine⟨e,[],p,[],p,[],m,?_,?_,?_,World.keptBut_mono (fun x n=>⟨n,Or.inr (Or.inl n)⟩) (o.frame _),fun _=>?_⟩
 ·simpa using c _ _ _
 ·simp only[List.append_nil]; rw[g]; exact hargs _ j
 ·simpa using k _
 refine⟨?_,_,_,([]++p)++[],⟨[]++p,[],trodAll_append (hargs _ (fun _ _=>rfl)) (c _ _ _),k _,rfl,?_,?_⟩,?_⟩
 ·exact ok_one h rfl (okWide_bool_mk hbool _)
 ·intro b off hp
  have l:MemPlace.cell b off∈p:=by simpa using hp
  rw[o.frozen (p:=⟨b,off,none⟩) (i _ l)];exact hz b off l
 ·intro ha
  simpa using C ha
 intro x n _;simpa using n
end
end Ax
end
section
namespace Ax
open Go Go.RowKit
variable {Lw:Nat}
theorem qi.calls {P:Program} {f:FuncId} {args:List PV} {r:PV} (h:qi P f args r) (he:Enters P f) {H:(PH Lw)} {w:World} {vs:List Value} (a:SatH H w) (b:qJ H args vs) :
  Calls P f vs.toArray w fun e w'=>∃ v H',e=.returned v/\Calm H w H' w'/\qp H' r v:=by
 have:=h H w vs a b;rw[he]at this;exact this.2
theorem Calm.below {H H':(PH Lw)} {w w':World} (c:Calm H w H' w'):Below w.heap.size w w':=
 ⟨c.keep.os,c.keep.tape,c.keep.output,c.keep.size,fun k a=>c.keep.block k a id⟩
end Ax
end
section
namespace Ax
open Go
variable {Lw:Nat}
end Ax
end
section
open Go Go.Proofs
namespace Ax
variable {P:Program}
structure ZeroIs (P:Program) (a:TypeId) (z:PV):Prop where
 plain:∃ u,P.underlying a=some u/\∀ m,u≠.interface m
 zero:∃ v i,P.info? a=some i/\i.zero=some v/\∀ ⦃Lw:Nat⦄ (H:PH Lw),qp H z v
theorem ZeroIs.of {a:TypeId} (d:TypeDesc) (v:Value) {z:PV} (c:P.underlying a=some d) (f:∀ m,d≠.interface m) (b:(P.info? a).bind (·.zero)=some v) (g:∀ ⦃Lw:Nat⦄ (H:PH Lw),qp H z v):ZeroIs P a z:=by
 refine⟨⟨d,c,f⟩,v,?_⟩;cases e:P.info? a with
 | none=>rw[e]at b; cases b
 | some i=>rw[e]at b; exact⟨i,rfl,b,g⟩
end Ax
end
