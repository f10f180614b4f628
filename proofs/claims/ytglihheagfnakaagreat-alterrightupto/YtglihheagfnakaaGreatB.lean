/- A part of the proof: the abstract execution. -/
import Derived.Laws.OwnMore
import Derived.Deep.LoopGhost
import Derived.Laws.Externs
import Derived.Lib.Builder
import Derived.Shelf.Strings.Builder1
import Derived.Test.YtglihheagfnakaaGreatShelf
import Derived.WalkKit
import Derived.WalkSpells
import Derived.ChangeArms
import Derived.DataElems
import Derived.DataReads
import Derived.Carry
import Derived.ChangeSame
import Derived.ProofKit
import Derived.OpenShut
import Derived.Test.YtglihheagfnakaaGreatA
set_option linter.unusedVariables false
set_option linter.unusedSimpArgs false
set_option linter.unnecessarySimpa false
set_option linter.deprecated false
set_option linter.unusedSectionVars false
set_option linter.constructorNameAsVariable false
open Go renaming run_underlying->kru
open Go.IntKind renaming wrap->kwr,bits->kbt
open List renaming length_cons->ja,length_append->jb,getElem?_cons_zero->jd,getElem?_eq_getElem->jf,mem_cons->jg,map_cons->jk,length_map->jl,prefix_refl->jq,append_assoc->js,length_take->jt,mem_append->jy,getElem?_append_left->jB,getElem?_append_right->jC,getElem?_drop->jD,getElem?_take->jE,getElem?_set->jF,getElem?_eq_some_iff->jG,eq_nil_of_length_eq_zero->jI,map_nil->jN,map_map->jW,map_toArray->kb
open Nat renaming le_of_ble_eq_true->jh,eq_of_beq_eq_true->jm,le_refl->jw,zero_add->jx,lt_irrefl->jR,zero_le->jS
open Bool renaming and_eq_true->ji,or_eq_true->jO,false_eq_true->jP
open Array renaming getD_eq_getD_getElem?->jX
open Go.Result renaming andThen_ok->ke
open Go.Sem renaming run_bind->kf,run_pure->kg
open Go.Op renaming operands->kh
open Go.Call renaming operands->ki
section
namespace Ax
open Go
variable {Lw:Nat}
section
variable {P:Program} {w:World}
theorem SatW.publishN {bs:(Base Lw)} {ρ:List Value} {H:(PH Lw)} {lo:List AObj} {w:World} (s:SatW bs ρ H lo w) {k:Nat} {e:TypeId} {z:Nat} {rows:List (List PV)} {v:Value} (n:lo[k]? =some (.vec e z rows)) (p:ρ[k]? =some v) :
  ∃ H',PH.le H H'/\SatW bs ρ H' (lo.set k .dead) w/\qO H' (.sl rows) v/\∀ b o,H b o=none->H' b o=none\/qR v=some b:=by
 obtain⟨xs,a,A,h1,B⟩:=s.objs k _ _ n p;rcases a.2 with ⟨rfl,C⟩|⟨g,cap,cur,j,_,G,D,_⟩
 ·have:rows=[]:=jI C
  subst this;exact⟨H,PH.le.refl H,s.kill k,by simp[qO],fun _ _ h=>.inl h⟩
 have q:qR v=some g:=by rw[j]; rfl
 have d:PH.le H (xe H v xs):=by
  intro b o u hu;unfold xe;split
  ·rename_i c
   rw[q]at c;obtain⟨e1,_⟩:=c;cases e1;rw[B g q o]at hu;cases hu
  ·exact hu
 have sk:=s.kill k;refine⟨xe H v xs,d,?_,fz A d a,fun b o h=>?_⟩
 rotate_left
 ·unfold xe
  split
  ·rename_i c; exact .inr c.1
  exact .inl h
 refine{ sath:=⟨fun b o u hu=>?_,s.sath.root.mono d,s.sath.low,fun b o u hu E=>by
  by_cases l:qR v=some b
  ·exact .own a l
  unfold xe at hu;rw[if_neg (fun c=>l c.1)]at hu
  exact s.sath.nf b o u hu E⟩,hlen:=sk.hlen,pre:=sk.pre,objs:=fun i oi x f m=>?_,excl:=sk.excl,own:=sk.own,keep:=sk.keep,leH:=sk.leH.trans d,newH:=fun b o u hu=>?_ }
 ·unfold xe at hu
  split at hu
  ·rename_i c
   rw[q]at c;obtain⟨e1,_⟩:=c;cases e1;have:=a.cells (g:=g) (by rw[j]; rfl) o u hu;rw[Addr.add_lit,jx]at this;exact⟨this,h1 u (List.mem_of_getElem? hu)⟩
  exact s.sath.cell b o u hu
 ·rw[jF]at f
  split at f
  ·split at f
   ·cases f; trivial
   cases f
  ·rename_i r
   cases y:oi.live with
   | false=>cases oi<;>simp[AObj.live]at y; trivial
   | true=>
    refine(s.objs i oi x f m).keep (jq _) d (fun _ _ _=>rfl) (fun b o' t _ F=>?_)
    unfold xe;rw[if_neg (fun c=>s.excl k i _ oi _ x b n f p m r rfl y c.1 t)]
    exact F
 unfold xe at hu;split at hu
 ·rename_i c
  exact .inr (s.own k _ v b n p rfl c.1)
 exact s.newH b o u hu
theorem SatW.publish {bs:(Base Lw)} {ρ:List Value} {H:(PH Lw)} {lo:List AObj} {w:World} (s:SatW bs ρ H lo w) {k:Nat} {e:TypeId} {z:Nat} {rows:List (List PV)} {v:Value} (d:lo[k]? =some (.vec e z rows)) (f:ρ[k]? =some v) :
  ∃ H',PH.le H H'/\SatW bs ρ H' (lo.set k .dead) w/\qO H' (.sl rows) v:=
 let ⟨H',a,b,c,_⟩:=s.publishN d f
 ⟨H',a,b,c⟩
def TI (P:Program) (own grow:Bool) (lo:List AObj) (t:TypeId) (l c:FV) (R:FV->List AObj->Prop):Prop:=
 match l with
 | .p (.int _ l)=>match c with
  | .p (.int _ c)=>BG P t fun e z=>match P.info? e with
   | some i=>Rx P e fun a=>match own with
    | false=>match grow with
     | false=>∃ n:Nat,(l=0/\c=n/\n * i.bytes<=140737488355328/\n<=9223372036854775807)/\Fj lo 0 fun k=>VC lo (.tail e z 0) fun lo=>R (.tsl k []) lo
     | true=>False
    | true=>match grow with
     | false=>∃(n:Nat) (rows:List (List PV)),(l=n/\c=n/\n * i.bytes<=140737488355328/\n<=9223372036854775807/\(List.replicate n a=rows\/Vw (List.replicate n a) rows)/\a.length=z/\z≠0/\a.all Uq=true) /\
       Fj lo 0 fun k=>VC lo (.vec e z rows) fun lo=>R (.vsl k rows.length) lo
     | true=>False
   | none=>False
  | _=>False
 | _=>False
theorem ia (z:Array Value) (n:Nat) (hz:z.size≠0):(madeCells z ((n+1) * z.size)).toList=z.toList++(madeCells z (n * z.size)).toList:=by
 unfold madeCells;simp only[Array.toList_map,Array.toList_range];rw[Nat.add_mul,Nat.one_mul,Nat.add_comm (n * z.size),List.range_add,List.map_append,jW];congr 1
 ·refine List.ext_getElem? fun j=>?_
  simp only[List.getElem?_map,List.getElem?_range];by_cases a:j<z.size
  ·simp[List.getElem?_range a,a,Nat.mod_eq_of_lt a]
  have h2:z.toList[j]? =none:=by simp; omega
  rw[h2];simp; omega
 refine List.map_congr_left fun j _=>?_;simp[Nat.add_mod_left]
theorem HA {H:(PH Lw)} {a:List PV} {b:Value} (c:zC H a b.cells.toList) (d:a.length≠0):∀ n:Nat,gk H a.length (List.replicate n a) (madeCells b.cells (n * b.cells.size)).toList
 | 0=>by simp[gk,madeCells]
 | n+1=>by
  have e:=c.length;have hz:b.cells.size≠0:=by simp at e; omega
  rw[ia _ _ hz,List.replicate_succ];exact⟨rfl,_,_,rfl,c,HA c d n⟩
theorem Mi {own grow:Bool} {lo:List AObj} {t:TypeId} {l c:FV} {R:FV->List AObj->Prop} (h:TI P own grow lo t l c R) :
  ∃ K lo',R K lo'/\xS true lo lo'/\∀ ⦃Lw:Nat⦄ (bs:(Base Lw)) (ρ:List Value) (H:(PH Lw)) (w:World) (vl vc:Value),SatW bs ρ H lo w->qY ρ H l vl->qY ρ H c vc ->
   ∃ v w',(Instr.makeSlice t vl vc).run P w=.ok v w'/\tf bs ρ H K lo' v w':=by
 unfold TI at h;split at h
 case h_2=>exact h.elim
 rename_i kl l;split at h
 case h_2=>exact h.elim
 rename_i kc c;have q:=bW h; clear h; obtain⟨e,i,hu,B,h⟩:=q;rw[B]at h;have q:=XG h; clear h; obtain⟨a,d,Q,D,hz,h,r⟩:=q;obtain rfl:a=i:=Option.some.inj (D.symm.trans B);split at h
 ·split at h
  ·have q:=h; clear h; obtain⟨n,⟨rfl,rfl,y,z⟩,h⟩:=q
   have h:=vC h;have h:=gh h;refine⟨_,_,h,xS.push _,fun Lw bs ρ H w vl vc s E rc=>?_⟩;rw[vD E,vD rc];obtain⟨w',C,k,L⟩:=run_make_own (P:=P) w 0 t e a d a.size hu B hz rfl kl kc n (by rw[Nat.mul_comm]; omega) z (jS _);have f:=run_make (P:=P) w t e a d hu B hz kl kc 0 n (Int.le_refl _) (by omega) (by
    have:((a.bytes * n:Nat):Int)<=281474976710656:=by rw[Nat.mul_comm]; omega
    rwa [Int.natCast_mul]at this) (by omega)
   simp only[Int.toNat_zero,Int.toNat_natCast]at f;have hw:w'=w.alloc (.cells (madeCells d.cells (n * a.size)) e):=by
    rw[C]at f
    injection f
   subst hw;refine⟨_,_,C,ρ++[.slice (some ⟨w.heap.size,0,none⟩) 0 n],H,List.prefix_append _ _,PH.le.refl H,?_,?_⟩
   ·refine s.push (g:=w.heap.size) (.inl rfl) (s.fresh (jw _)) (.inr s.keep.size) (PH.le.refl H) (ma s.sath _) (fun b o v h=>.inl ⟨v,h⟩) (nB w _ _) ?_
    refine⟨[],k,fun b y=>⟨fun j u hu=>by simp at hu,fun o _=>?_⟩⟩
    simp only[qR,Option.some.injEq]at y;subst y;cases F:H w.heap.size o with
    | none=>rfl
    | some x=>exact absurd (s.sath.lt F) (jR _)
   ·refine⟨by simp[← s.hlen],?_⟩
    simp only[qO];exact .inl ⟨trivial,.inr ⟨_,_,rfl⟩⟩
  exact h.elim
 split at h
 ·have q:=h; clear h; obtain⟨n,rows,⟨rfl,rfl,y,z,m,G,M,hone⟩,h⟩:=q
  have h:=vC h;have h:=gh h;refine⟨_,_,h,xS.push _,fun Lw bs ρ H w vl vc s E rc=>?_⟩;rw[vD E,vD rc];have I:d.cells.size=a.size:=by have:=(r H).length; simp at this; omega
  obtain⟨w',C,k,L⟩:=run_make_full (P:=P) w 0 t e a d a.size hu B hz rfl kl kc n (by rw[Nat.mul_comm]; omega) z (jS _);have f:=run_make (P:=P) w t e a d hu B hz kl kc n n (by omega) (Int.le_refl _) (by
   have:((a.bytes * n:Nat):Int)<=281474976710656:=by rw[Nat.mul_comm]; omega
   rwa [Int.natCast_mul]at this) (by omega)
  simp only[Int.toNat_natCast]at f;have hw:w'=w.alloc (.cells (madeCells d.cells (n * a.size)) e):=by
   rw[C]at f
   injection f
  subst hw;have hlen:rows.length=n:=by
   rcases m with rfl|m
   ·simp
   have:=Vx m; simpa using this.symm
  have p:=HA (r H) (by omega) n;have J:gk H a.size rows (madeCells d.cells (n * a.size)).toList:=by
   rw[I,G]at p;exact gk.le m p
  have h1:∀ u∈(madeCells d.cells (n * a.size)).toList,u.oneCell'=true:=by
   intro u A;unfold madeCells at A;simp only[Array.toList_map,List.mem_map]at A;obtain⟨j,_,rfl⟩:=A;have N:j % d.cells.size<d.cells.size:=Nat.mod_lt _ (by omega);have hm:d.cells[j % d.cells.size]! ∈d.cells.toList:=by
    rw[getElem!_pos d.cells _ N];simp
   exact zC.one (fun c O=>(List.all_eq_true.1 hone) c O) (r H) _ hm
  refine⟨_,_,C,ρ++[.slice (some ⟨w.heap.size,0,none⟩) n n],H,List.prefix_append _ _,PH.le.refl H,?_,?_⟩
  ·refine s.push (g:=w.heap.size) (.inl rfl) (s.fresh (jw _)) (.inr s.keep.size) (PH.le.refl H) (ma s.sath _) (fun b o v h=>.inl ⟨v,h⟩) (nB w _ _) ?_
   refine⟨_,by rw[hlen]; exact k,J,h1,fun b y o=>?_⟩;simp only[qR,Option.some.injEq]at y;subst y;cases F:H w.heap.size o with
   | none=>rfl
   | some x=>exact absurd (s.sath.lt F) (jR _)
  ·exact⟨by simp[← s.hlen],.inr ⟨w.heap.size,n,by rw[hlen]⟩⟩
 exact h.elim
def TB (P:Program) (lo:List AObj) (t:TypeId) (d x:FV) (R:FV->List AObj->Prop):Prop:=
 match d with
 | .vsl k _=>NT x fun src=>Zm k lo fun o=>match o with
  | .vec e z rows=>BG P t fun _ a=>(a=z/\src.length=rows.length/\(∀ r∈src,r.length=z))/\GF k (.vec e z src) lo fun lo=>R (.p (.int .i64 src.length)) lo
  | _=>False
 | _=>False
theorem Mb {lo:List AObj} {t:TypeId} {d x:FV} {R:FV->List AObj->Prop} (h:TB P lo t d x R) :
  ∃ Q lo',R Q lo'/\xS false lo lo'/\∀ ⦃Lw:Nat⦄ (bs:(Base Lw)) (ρ:List Value) (H:(PH Lw)) (w:World) (S ty:TypeId) (G m:Value),SatW bs ρ H lo w->qY ρ H d G->qY ρ H x m ->
   ∃ v w',(Builtin.copy_ #[t,S] ty #[G,m]).run P w=.ok v w'/\tf bs ρ H Q lo' v w':=by
 unfold TB at h;split at h
 case h_2=>exact h.elim
 rename_i k n;have f:=CN h; clear h; obtain⟨src,h,r⟩:=f;have f:=xg h; clear h; obtain⟨o,I,h⟩:=f;split at h
 case h_2=>exact h.elim
 rename_i e z rows;have f:=bW h; clear h; obtain⟨e',i,hu,T,⟨rfl,hlen,hw⟩,h⟩:=f;have f:=gw h; clear h; obtain⟨h,_⟩:=f;refine⟨_,_,h,xS.set _ _,fun Lw bs ρ H w S ty G m s rd rx=>?_⟩;obtain⟨U,_⟩:=rd;have rs:=r ρ H m rx;obtain⟨xs,y,hr,h1,V⟩:=s.objs k _ _ I U;have ffirst:src=[]->∃ c:Array Value,(Builtin.firstCells i.size 0 m).run P w=.ok #[] w/\(Builtin.lenOf m).run P w=.ok 0 w:=by
  intro F;subst F;simp only[qO]at rs;have l0:∀ a:Addr,(loadCells a 0).run P w=.ok #[] w:=fun a=>by simpa using run_loadCells_list (P:=P) w a [] (by simp)
  rcases rs with ⟨_,rfl|⟨a,cap,rfl⟩⟩|⟨b,o',z',cap,rfl,_⟩
  ·exact⟨#[],by simp[Builtin.firstCells],by simp[Builtin.lenOf]⟩
  ·exact⟨#[],by simp[Builtin.firstCells,l0],by simp[Builtin.lenOf]⟩
  exact⟨#[],by simp[Builtin.firstCells,l0],by simp[Builtin.lenOf]⟩
 rcases y.2 with ⟨rfl,f⟩|⟨g,cap,cur,rfl,_,J,A,hm,X,ht⟩
 ·have K:rows=[]:=jI f
  subst K;have B:src=[]:=jI (by simpa using hlen);obtain⟨_,hf,q⟩:=ffirst B;subst B;refine⟨goInt 0,w,?_,ρ,H,jq _,PH.le.refl H,?_,by simp[qY,qO,goInt]⟩
  ·simp[Builtin.copy_,kru hu,q,Go.sizeOf,typeInfo,T,hf]
  exact s.view I rfl rfl fun v hv ok=>ok
 have hb:qR (Value.slice (some ⟨g,0,none⟩) rows.length cap)=some g:=rfl;obtain⟨vs,p,l,rv,hone⟩:∃ vs:List Value,(Builtin.firstCells i.size src.length m).run P w=.ok vs.toArray w/\(Builtin.lenOf m).run P w=.ok src.length w/\gk H i.size src vs/\∀ u∈vs,u.oneCell'=true:=by
  rcases Xi rs hw with ⟨F,_⟩|⟨b,o',Y,vs,rfl,_,rv,Z⟩
  ·obtain⟨_,hf,q⟩:=ffirst F
   subst F;exact⟨[],by simpa using hf,by simpa using q,rfl,fun u hu=>by cases hu⟩
  have q:=run_loadCells_list (P:=P) w ⟨b,o',none⟩ vs (fun j u hu=>by
   have:=(s.sath.cell b (o'+j) u (Z j u hu)).1
   rwa [Addr.add_lit])
  rw[rv.length]at q;exact⟨vs,by simp[Builtin.firstCells,q],by simp[Builtin.lenOf],rv,fun u hu=>by
   obtain⟨j,C⟩:=List.getElem?_of_mem hu;exact(s.sath.cell b (o'+j) u (Z j u C)).2⟩
 have L:vs.length=rows.length * i.size:=by rw[rv.length,hlen]
 have hcl:rows.length * i.size<=cur.size:=by rw[X]; exact Nat.mul_le_mul_right _ A
 obtain⟨M,a1,a2,a3,a4,a5⟩:=QY vs 0 w cur J;have hcell:∀ j,j<vs.length->(w.cell? ⟨g,0+j,none⟩).isSome=true:=fun j C=>by
  rw[cell_of_row w g _ _ e _ J];have:j<cur.size:=by omega
  simp[this]
 have N:=run_storeCells_cells (P:=P) g 0 vs 0 w (by simpa using hcell) (fun j C=>frozen_of_row w g _ cur e J) hone
 refine⟨goInt src.length,w.setCells g 0 vs,?_,ρ,H,jq _,PH.le.refl H,?_,by simp[qY,qO,goInt]⟩
 ·have D:Nat.min src.length rows.length=src.length:=by rw[hlen]; exact Nat.min_self _
  simp[Builtin.copy_,kru hu,l,Go.sizeOf,typeInfo,T,D,p,N]
 refine s.upd (k:=k) (b:=g) I U rfl rfl (V g rfl) a5 ?_;refine⟨vs,⟨by rw[L,hlen],.inr ⟨g,cap,M,by rw[hlen],jS _,a1,by rw[hlen]; exact A,hm,by rw[a2]; exact X,?_⟩⟩,rv,hone,fun b O o'=>V b O o'⟩
 rw[hlen];refine List.ext_getElem? fun j=>?_;rw[jE];split
 ·rename_i C
  have E:j<vs.length:=by omega
  have:=a4 j vs[j] (by simp[E]) (by omega);rw[jx]at this;rw[jf E];simpa using this
 rename_i C;rw[List.getElem?_eq_none (by omega)]
def qa8 (x:FV) (R:FV->Prop):Prop:=
 Xb x fun cs=>No cs fun a=>match a.all Uq with
  | true=>R (.hptr a)
  | false=>False
theorem PT {x:FV} {R:FV->Prop} (h:qa8 x R) :
  ∃ m,R m/\∀(lo:List AObj) ⦃Lw:Nat⦄ (bs:(Base Lw)) (ρ:List Value) (H:(PH Lw)) (w:World) (t:TypeId) (v:Value),SatW bs ρ H lo w->qY ρ H x v->∃ u w',(Instr.box t v).run P w=.ok u w'/\tf bs ρ H m lo u w':=by
 unfold qa8 at h;obtain⟨cs,h,g⟩:=QI h;obtain⟨y,h,i⟩:=pf h;split at h
 case h_2=>exact h.elim
 rename_i hone;refine⟨_,h,fun lo Lw bs ρ H w t v s rv=>?_⟩;have rl:=i ρ H _ (g ρ H v rv);have h1:=zC.one (fun c n=>(List.all_eq_true.1 hone) c n) rl;have l:∀ o,H w.heap.size o=none:=fun o=>by
  cases p:H w.heap.size o with
  | none=>rfl
  | some x=>exact absurd (s.sath.lt p) (jR _)
 let H':(PH Lw):=fun b o=>if b=w.heap.size then v.cells.toList[o]? else H b o
 have d:PH.le H H':=fun b o u hu=>by
  show(if b=w.heap.size then _ else _)=_;rw[if_neg (fun e=>by subst e; rw[l o]at hu; cases hu)]
  exact hu
 have f:∀ o u,v.cells.toList[o]? =some u->H' w.heap.size o=some u:=fun o u hu=>by
  show(if w.heap.size=w.heap.size then _ else _)=_;rw[if_pos rfl]; exact hu
 have calm:Calm H w H' (w.alloc (.cells v.cells t)):=by
  refine⟨d,⟨fun b o u hu=>?_,s.sath.root.mono d,by have:=s.sath.low; simp; omega,fun b o u hu q=>by
   have a:(if b=w.heap.size then v.cells.toList[o]? else H b o)=some u:=hu;split at a
   ·rename_i e1; subst e1; exact .of (heap_alloc_new w _)
   exact(ma s.sath _).nf b o u a q⟩,?_,fun b o u hu=>?_⟩
  ·have a:(if b=w.heap.size then v.cells.toList[o]? else H b o)=some u:=hu
   clear hu;split at a
   ·rename_i e
    subst e;refine⟨?_,h1 u (List.mem_of_getElem? a)⟩;rw[cell_of_row _ _ _ v.cells t _ (heap_alloc_new w _)];simpa using a
   exact(ma s.sath _).cell b o u a
  ·have:=nB w (.cells v.cells t) w.heap.size
   exact⟨this.os,this.tape,this.output,this.size,fun k r _=>this.block k r (fun e=>by omega)⟩
  have hu:(if b=w.heap.size then v.cells.toList[o]? else H b o)=some u:=hu;split at hu
  ·rename_i e; exact .inr (by omega)
  exact .inl ⟨u,hu⟩
 refine⟨.pointer (some ⟨w.heap.size,0,none⟩),w.alloc (.cells v.cells t),?_,ρ,H',jq _,d,s.calm calm,?_⟩
 ·simp only[Instr.box,kf,Qq,ke,kg]
 exact⟨w.heap.size,0,_,rfl,zC.mono d rl,fun j u hu=>by rw[jx]; exact f j u hu⟩
end
end Ax
namespace Ax
open Go
section
variable {P:Program} {w:World}
def aT (P:Program) (inl:List Nat) (d:Option Tmp) (op:Op) (E:Env) (lo:List AObj) (no:Prop) (R:FV->List AObj->Prop):Prop:=
 match op with
 | .makeSlice t l c=>evS E none l fun l=>evS E none c fun c=>TI P (Ri inl d) (qa1 inl d) lo t l c R
 | .call { callee:=.builtin .copy,args:=⟨[x,y]⟩,argTypes:=⟨[t,_]⟩ }=>evS E none x fun x=>evS E none y fun y=>TB P lo t x y R
 | .box _ x=>match Ri inl d with
  | true=>evS E none x fun x=>qa8 x fun v=>R v lo
  | false=>no
 | .call { callee:=.builtin .append,args:=⟨[s,x]⟩,argTypes:=⟨[t,t']⟩ }=>ev E x fun v=>match v with
  | .bsl k o n c=>False
  | _=>no
 | _=>no
theorem Db {inl:List Nat} {d:Option Tmp} {op:Op} {E:Env} {lo:List AObj} {no:Prop} {R:FV->List AObj->Prop} (h:aT P inl d op E lo no R) :
  no\/∃ g lo',R g lo'/\rz op=true/\(∀(o:Oper) (inl:List Nat),o.op=op->gz inl o=true/\mb inl o=false)/\xS (Rh op) lo lo'/\∀ o:Oper,o.op=op->gB P o (qW E) lo none g lo':=by
 unfold aT at h;split at h
 ·rename_i t l c
  have a:=qU h; clear h; obtain⟨l',h,p⟩:=a;have a:=qU h; clear h; obtain⟨u,h,q⟩:=a;have a:=Mi h; clear h; obtain⟨g,lo',h,f,j⟩:=a;refine .inr ⟨g,lo',h,rfl,fun o inl e=>⟨by simp[gz,e,rz],by simp[mb,e]⟩,f,fun o e _ Lw bs ρ H w eval s b=>?_⟩;rw[e]at b;obtain⟨v,w',f,k⟩:=j bs ρ H w _ _ s (p ρ H _ trivial (b l (by simp[kh]))) (q ρ H _ trivial (b c (by simp[kh])));simp only[execOp,e,kf,f,ke,kg];exact k
 ·rename_i x y t n
  have a:=qU h; clear h; obtain⟨r,h,i⟩:=a;have a:=qU h; clear h; obtain⟨z,h,m⟩:=a;have a:=Mb h; clear h; obtain⟨g,lo',h,f,j⟩:=a;refine .inr ⟨g,lo',h,rfl,fun o inl e=>⟨by simp[gz,e,rz],by simp[mb,e]⟩,f,fun o e _ Lw bs ρ H w eval s b=>?_⟩;rw[e]at b;obtain⟨v,w',f,k⟩:=j bs ρ H w n o.type _ _ s (i ρ H _ trivial (b x (by simp[kh,ki]))) (m ρ H _ trivial (b y (by simp[kh,ki])));simp only[execOp,e,resolve,invoke,builtin,kf,kg,ke,kb,jk,jN,f];exact k
 ·rename_i t x
  split at h
  ·have a:=qU h; clear h; obtain⟨r,h,i⟩:=a
   have a:=PT (P:=P) h; clear h; obtain⟨g,h,j⟩:=a;refine .inr ⟨g,lo,h,rfl,fun o inl e=>⟨by simp[gz,e,rz],by simp[mb,e]⟩,xS.refl _,fun o e _ Lw bs ρ H w eval s b=>?_⟩;rw[e]at b;obtain⟨v,w',f,k⟩:=j lo bs ρ H w t _ s (i ρ H _ trivial (b x (by simp[kh])));simp only[execOp,e,kf,f,ke,kg];exact k
  exact .inl h
 ·rename_i A x t n
  rw[Cp]at h;split at h
  ·exact h.elim
  exact .inl h
 exact .inl h
end
end Ax
end
section
namespace Ax
open Go
variable {Lw:Nat}
def upd (e:Nat->FV) (d:Option Tmp) (v:FV):Nat->FV:=
 match d with
 | none=>e
 | some d=>fun t=>if t=d then v else e t
theorem Re (d:Tmp) (v:FV) (E:Env):qW ((d,v)::E)=upd (qW E) (some d) v:=by
 funext t;simp only[qW,upd];by_cases h:t=d
 ·subst h; simp[Nat.beq_refl]
 have:Nat.beq t d=false:=by
  cases a:Nat.beq t d with
  | false=>rfl
  | true=>exact absurd (jm a) h
 simp[this,h]
def bH (ops:Array Oper) (o:Oper) (e:Nat->FV) (g:G):Prop:=
 match o.guard with
 | none=>g=none
 | some (j,want)=>∃ oj d b,ops[j]? =some oj/\oj.dst=some d /\
   ((e d=.p (.bool b)/\g=some (match want with|true=>b|false=>!b)) \/
    ∃ a,e d=.opt a (.p (.bool b))/\g=some (match want with|true=>a&&b|false=>a&&!b))
def ZY (P:Program) (sl:List Nat) (m:Bool) (n0:Nat) (o:Oper) (e:Nat->FV) (lo:List AObj) (g:G) (c:FV):Prop:=
 gB P o e lo g c lo/\(m=true->Gk sl o=false->∃ d:Option (Nat×AObj),(∀ k b,d=some (k,b)->qdz sl n0 k=true/\b.boxy=true/\lo[k]? =some b)/\∀ a,(∀ k b,d=some (k,b)->a[k]? =some b)->gB P o e a g c a)
def Pr (sl:List Nat) (m:Bool) (n0:Nat) (o:Oper) (lo lo':List AObj):Prop:=
 m=true->n0<=lo.length->n0<=lo'.length/\(HE sl o=true->∀ k a,qdz sl n0 k=true->a.boxy=true->(lo[k]? =some a↔lo'[k]? =some a))
theorem CM {sl:List Nat} {n0 k:Nat} (h:qdz sl n0 k=true):k<n0/\Xw sl (60000000+1000 * n0+k)=false:=by
 unfold qdz at h;split at h
 ·rename_i a
  split at h
  ·cases h
  rename_i hm; exact⟨jh a,hm⟩
 cases h
theorem xS.ok {sl:List Nat} {m:Bool} {n0:Nat} {o:Oper} {lo lo':List AObj} (a:m=true->mb sl o=false) (h:xS (Rh o.op) lo lo'):Pr sl m n0 o lo lo':=fun b c=>⟨Nat.le_trans c h.1,fun hm k d e f=>by
 simp only[HE,a b,Bool.or_false]at hm;exact h.2 hm k d (Nat.lt_of_lt_of_le (CM e).1 c) f⟩
def Pp (P:Program) (inl:List Nat) (o:Oper) (e:Nat->FV) (lo:List AObj) (b:FV) (lo':List AObj):Prop:=
 (nC inl o=true->lo'.length=lo.length/\∀ l,gB P o e (lo++l) none b (lo'++l)) /\
 (Ft inl o=true->∃ c,lo'=lo++[c]/\∀ a:List AObj,a.length=lo.length->gB P o e a none b (a++[c]))
theorem Pp.no {P:Program} {inl:List Nat} {o:Oper} {e:Nat->FV} {lo lo':List AObj} {a:FV} (h1:nC inl o=false) (h2:Ft inl o=false):Pp P inl o e lo a lo':=
 ⟨fun h=>(by rw[h1]at h; cases h),fun h=>(by rw[h2]at h; cases h)⟩
theorem Cz (o:Oper):nC [] o=false:=by
 unfold nC;split
 ·simp[Xw]
 rfl
theorem Er (o:Oper):Ft [] o=false:=by
 unfold Ft;split
 ·split<;>simp[Xw]
 rfl
def tU (P:Program) (inl sl:List Nat) (m:Bool) (n0 N:Nat) (ops:Array Oper) (o:Oper) (e:Nat->FV) (lo:List AObj) (b:Nat->FV) (lo':List AObj):Prop:=
 ∃ g a,bH ops o e g/\(∀ d,o.dst=some d->d<N)/\b=upd e o.dst (Xl g a) /\
  ((gz inl o=true/\g=none/\gB P o e lo none a lo'/\Pr sl m n0 o lo lo'/\Pp P inl o e lo a lo') \/
   (gz inl o=false/\Gu o.op=true/\lo'=lo/\ZY P sl m n0 o e lo g a) \/
   (gz inl o=false/\Gu o.op=false/\lo'=lo/\∀ lo,gB P o e lo g a lo))
theorem Xv (o:Oper):gz [] o=rz o.op:=by
 unfold gz;split
 ·rename_i h; simp[h,Xw,rz]
 ·rename_i h; simp[h,qc4,Xw,rz]
 ·rename_i h
  simp only[h,Ri,rz];split<;>simp[Xw]
 ·rename_i h
  simp only[h,Ri,rz];split<;>simp[Xw]
 rfl
theorem Vs {ops:List Oper} {o:Oper} {E:Env} {R:G->Prop} (h:Hk ops o E R):∃ g,bH ops.toArray o (qW E) g/\R g:=by
 unfold Hk at h;unfold bH;split at h
 ·rename_i e
  exact⟨none,by simp[e],h⟩
 rename_i j c e;obtain⟨oj,a,h⟩:=xg h;split at h
 ·rename_i d f
  rw[QP]at h;split at h
  ·rename_i b he
   cases c with
   | true=>exact⟨_,by simp only[e]; exact⟨oj,d,b,by simpa using a,f,.inl ⟨he,rfl⟩⟩,h⟩
   | false=>exact⟨_,by simp only[e]; exact⟨oj,d,b,by simpa using a,f,.inl ⟨he,rfl⟩⟩,h⟩
  ·rename_i i b he
   cases c with
   | true=>exact⟨_,by simp only[e]; exact⟨oj,d,b,by simpa using a,f,.inr ⟨i,he,rfl⟩⟩,h⟩
   | false=>exact⟨_,by simp only[e]; exact⟨oj,d,b,by simpa using a,f,.inr ⟨i,he,rfl⟩⟩,h⟩
  ·exact h.elim
 exact h.elim
theorem uk {N:Nat} {d:Option Tmp} {v:FV} {E:Env} {R:Env->Prop} (h:Vz N d v E R) :
  (∀ t,d=some t->t<N)/\∃ E',qW E'=upd (qW E) d v/\R E':=by
 unfold Vz at h;split at h
 ·rename_i t
  split at h
  ·rename_i b
   rw[Xc]at h;refine⟨fun c a=>?_,_,Re t v E,h⟩;cases a;exact jh b
  exact h.elim
 exact⟨fun t a=>(by cases a),E,rfl,h⟩
theorem Mh {P:Program} {o:Oper} {t:TypeId} {x i:Operand} {ok:Bool} (a:o.op=.lookup t x i ok) {E:Env} {g:G} {lo:List AObj} {f j:FV} (b:Str g (evF (qW E) x) f) (c:Str g (evF (qW E) i) j) {R:FV->Prop} (h:Ei P g t lo f j ok R) :
  ∃ d,R d/\gB P o (qW E) lo g d lo:=by
 obtain⟨d,h,_,l⟩:=Ht h;refine⟨_,h,fun e Lw bs ρ H w eval s k=>?_⟩;obtain⟨v,m,rv⟩:=l e bs ρ H w _ _ s (b ρ H _ e (k x (by simp[a,kh]))) (c ρ H _ e (k i (by simp[a,kh])));simp only[execOp,a];exact upon_value s m rv
theorem Lm {P:Program} {N:Nat} {all:List Oper} {o:Oper} {E:Env} {lo:List AObj} {R:Env->List AObj->Prop} (h:ME P N all o E lo R) :
  ∃ E' lo',tU P [] [] false 0 N all.toArray o (qW E) lo (qW E') lo'/\R E' lo':=by
 unfold ME at h;unfold tU;simp only[Xv];obtain⟨g,j,h⟩:=Vs h;split at h
 ·rename_i f
  have he:rz o.op=false:=by
   cases l:o.op<;>simp[l,Gu]at f<;>rfl
  have fin:∀{a:FV},gB P o (qW E) lo g a lo->ZY P [] false 0 o (qW E) lo g a:=fun h=>⟨h,fun h=>by cases h⟩
  split at h
  ·rename_i t x k
   obtain⟨a,h,b⟩:=Mg k h;obtain⟨c,E',e,h⟩:=uk h;exact⟨E',lo,⟨g,a,j,c,e,.inr (.inl ⟨he,f,rfl,fin b⟩)⟩,h⟩
  ·rename_i q d x k
   obtain⟨a,h,b⟩:=Ma k h;obtain⟨c,E',e,h⟩:=uk h;exact⟨E',lo,⟨g,a,j,c,e,.inr (.inl ⟨he,f,rfl,fin b⟩)⟩,h⟩
  ·rename_i t x i ok k
   obtain⟨r,h,m⟩:=qU h;obtain⟨s,h,n⟩:=qU h;obtain⟨a,h,b⟩:=Mh k m n h;obtain⟨c,E',e,h⟩:=uk h;exact⟨E',lo,⟨g,a,j,c,e,.inr (.inl ⟨he,f,rfl,fin b⟩)⟩,h⟩
  exact h.elim
 rename_i f;split at h
 ·rename_i he
  split at h
  ·obtain⟨a,lo',h,p,b⟩:=UY h
   obtain⟨c,E',e,h⟩:=uk h;exact⟨E',lo',⟨none,a,j,c,e,.inl ⟨he,rfl,b,p.ok (fun h=>by cases h),.no (Cz _) (Er _)⟩⟩,h⟩
  exact h.elim
 rename_i he;obtain⟨a,h,b⟩:=Cy h;obtain⟨c,E',e,h⟩:=uk h;exact⟨E',lo,⟨g,a,j,c,e,.inr (.inr ⟨he,f,rfl,b⟩)⟩,h⟩
def oM (P:Program) (sl:List Nat) (t:TypeId) (lo:List AObj) (n0:Nat) (x:FV) (R:FV->Prop):Prop:=
 match x with
 | .ptr k off=>match qdz sl n0 k with
  | true=>QM P t lo (.ptr k off) R
  | false=>False
 | .hptr row=>QM P t [] (.hptr row) R
 | _=>False
def qcc (P:Program) (sl:List Nat) (n0 N:Nat) (all:List Oper) (o:Oper) (E:Env) (lo:List AObj) (R:Env->List AObj->Prop):Prop:=
 Hk all o E fun g=>
  match Gu o.op with
  | true=>match o.op with
   | .load t x=>evS E g x fun x=>oM P sl t lo n0 x fun v=>Vz N o.dst (Xl g v) E fun E=>R E lo
   | .convert s d x=>False
   | .lookup t x i ok=>False
   | _=>False
  | false=>match rz o.op with
   | true=>match g with
    | none=>oL P o.op E lo fun v lo=>Vz N o.dst v E fun E=>R E lo
    | some _=>False
   | false=>aU P o.op E g fun v=>Vz N o.dst (Xl g v) E fun E=>R E lo
theorem Ql {α:Type}:∀{n:Nat} {l:List α} {a:α} {R:α->Prop},l[n]? =some a->R a->Zm n l R
 | 0,[],a,R,h,_=>by simp at h
 | 0,b::l,a,R,h,hr=>by simp at h; subst h; exact hr
 | n+1,[],a,R,h,_=>by simp at h
 | n+1,b::l,a,R,h,hr=>Ql (n:=n) (l:=l) (by simpa using h) hr
theorem aJ {v:FV} {R:PV->Prop} (h:qcn v R):∃ p,R p/\∀ R':PV->Prop,R' p->qcn v R':=by
 unfold qcn at h;split at h
 ·exact⟨_,h,fun R' a=>a⟩
 ·exact⟨_,h,fun R' a=>a⟩
 ·exact⟨_,h,fun R' a=>a⟩
 exact h.elim
theorem EV:∀{c:FV} {R:List PV->Prop},UU c R->∃ p,R p/\∀ R':List PV->Prop,R' p->UU c R':=by
 intro c
 induction c with
 | cap0=>intro R h; exact⟨_,h,fun R' d=>d⟩
 | cap a b _ ihb=>
  intro R h;simp only[UU]at h;obtain⟨p,h,hp⟩:=aJ h;obtain⟨f,h,e⟩:=ihb h;exact⟨_,h,fun R' d=>by simp only[UU]; exact hp _ (e _ d)⟩
 | _=>intro R h; simp[UU]at h
theorem aK {v:FV} {R:PV->Prop} (h:Nn v R):∃ p,R p/\∀ R':PV->Prop,R' p->Nn v R':=by
 unfold Nn at h;split at h
 ·exact⟨_,h,fun R' a=>a⟩
 ·exact⟨_,h,fun R' a=>a⟩
 ·exact⟨_,h,fun R' a=>a⟩
 ·obtain⟨c,h,b⟩:=EV h
  exact⟨_,h,fun R' a=>b _ a⟩
 ·obtain⟨c,h,b⟩:=EV h
  exact⟨_,h,fun R' a=>b _ a⟩
 exact h.elim
theorem TH {P:Program} {t:TypeId} {lo:List AObj} {k off:Nat} {R:FV->Prop} (h:QM P t lo (.ptr k off) R) :
  ∃ y o,R y/\lo[k]? =some o/\o.boxy=true/\∀ e:List AObj,e[k]? =some o->QM P t e (.ptr k off) (fun v=>v=y):=by
 unfold QM at h;obtain⟨o,g,h⟩:=xg h;split at h
 ·rename_i bt cells
  obtain⟨h,f⟩:=rJ h;obtain⟨d,i,s,u,h⟩:=fE h;have dropI:∀{n:Nat} {l:List FV} {R:List FV->Prop},n<=l.length->R (l.drop n)->BF n l R:=by
   intro n
   induction n with
   | zero=>intro l R _ h; simpa[BF]using h
   | succ n ih=>
    intro l R m h;cases l with
    | nil=>simp at m
    | cons a l=>exact ih (by simpa using m) (by simpa using h)
  have takeI:∀{n:Nat} {l:List FV} {R:List FV->Prop},n<=l.length->R (l.take n)->CR n l R:=by
   intro n
   induction n with
   | zero=>intro l R _ h; simpa[CR]using h
   | succ n ih=>
    intro l R m h;cases l with
    | nil=>simp at m
    | cons a l=>exact ih (l:=l) (R:=fun l=>R (a::l)) (by simpa using m) (by simpa using h)
  have frzI:∀{l:List FV} {R:List PV->Prop},No l R->∃ q,R q/\∀ R',R' q->No l R':=by
   intro l
   induction l with
   | nil=>intro R h; exact⟨[],h,fun R' h=>h⟩
   | cons v l ih=>
    intro R h;simp only[No]at h;obtain⟨p,h,w⟩:=aK h;obtain⟨q,h,hp⟩:=ih h;exact⟨_,h,fun R' A=>by simp only[No]; exact w _ (hp _ A)⟩
  have typeI:∀{R:Bool->Nat->Prop},R (lS d) i.size->Qt P t R:=by
   intro R h;unfold Qt;simp only[s,u];exact h
  split at h
  ·rename_i b
   obtain⟨h,z⟩:=rO h;split at h
   ·rename_i j
    refine⟨_,_,h,g,rfl,fun e h2=>?_⟩;unfold QM;refine Ql h2 (dropI f (typeI ?_));rw[b];refine takeI z ?_;rw[j]
   rename_i j;obtain⟨q,h,x⟩:=frzI h;refine⟨_,_,h,g,rfl,fun e h2=>?_⟩;unfold QM;refine Ql h2 (dropI f (typeI ?_));rw[b];refine takeI z ?_;rw[j];exact x _ rfl
  rename_i b;split at h
  ·rename_i c r B
   refine⟨_,_,h,g,rfl,fun e h2=>?_⟩;unfold QM;refine Ql h2 (dropI f (typeI ?_));rw[b];simp only[B]
  exact h.elim
 ·rename_i bt c
  split at h
  ·rename_i C
   obtain⟨d,i,s,u,h⟩:=fE h;split at h
   ·exact h.elim
   rename_i b;refine⟨_,_,h,g,rfl,fun e h2=>?_⟩;unfold QM;refine Ql h2 ?_;simp only[C];unfold Qt;simp only[s,u,b]
  exact h.elim
 exact h.elim
theorem HH {α:Type} {R R':α->Prop} (h:∀ a,R a->R' a):∀{n:Nat} {l:List α},Zm n l R->Zm n l R'
 | 0,[],x=>x
 | 0,a::_,x=>h a x
 | n+1,[],x=>x
 | n+1,_::l,x=>HH h (n:=n) (l:=l) x
theorem Lh {α:Type}:∀{n:Nat} {x:α} {l:List α} {R R':List α->Prop},(∀ a,R a->R' a)->GF n x l R->GF n x l R'
 | 0,x,[],_,_,_,y=>y
 | 0,x,_::l,_,_,h,y=>h _ y
 | n+1,x,[],_,_,_,y=>y
 | n+1,x,a::l,R,R',h,y=>Lh (n:=n) (x:=x) (l:=l) (R:=fun l=>R (a::l)) (R':=fun l=>R' (a::l)) (fun _=>h _) y
theorem NW {α:Type}:∀{n:Nat} {x:α} {l:List α} {R:List α->Prop},GF n x l R->GF n x l (fun l'=>R l'/\l'.length=l.length/\∀ j,j≠n->l'[j]? =l[j]?)
 | 0,x,[],_,h=>h
 | 0,x,_::l,_,h=>⟨h,by simp,fun j b=>by cases j with|zero=>exact absurd rfl b|succ j=>simp⟩
 | n+1,x,[],_,h=>h
 | n+1,x,a::l,R,h=>by
  have h1:GF n x l (fun l=>R (a::l)):=h
  refine Lh (n:=n) (x:=x) (l:=l) (R':=fun l'=>R (a::l')/\(a::l').length=(a::l).length/\∀ j,j≠n+1->(a::l')[j]? =(a::l)[j]?) ?_ (NW h1)
  rintro l' ⟨c,d,b⟩;refine⟨c,by simp[d],fun j e=>?_⟩;cases j with
  | zero=>simp
  | succ j=>simpa using b j (by omega)
theorem Xy:∀{off:Nat} {vs old:List FV} {R R':List FV->Prop},(∀ a,R a->R' a)->QU off vs old R->QU off vs old R'
 | 0,[],old,_,_,h,y=>by cases old<;>exact h _ y
 | 0,v::vs,[],_,_,_,y=>y
 | 0,v::vs,_::old,R,R',h,y=>Xy (off:=0) (vs:=vs) (old:=old) (R:=fun l=>R (v::l)) (R':=fun l=>R' (v::l)) (fun _=>h _) y
 | n+1,vs,[],_,_,_,y=>by cases vs<;>exact y
 | n+1,vs,a::old,R,R',h,y=>by
  cases vs with
  | nil=>exact Xy (off:=n) (vs:=[]) (old:=old) (R:=fun l=>R (a::l)) (R':=fun l=>R' (a::l)) (fun _=>h _) y
  | cons v vs=>exact Xy (off:=n) (vs:=v::vs) (old:=old) (R:=fun l=>R (a::l)) (R':=fun l=>R' (a::l)) (fun _=>h _) y
theorem HC:∀{cs:List PV} {R R':List FV->Prop},(∀ a,R a->R' a)->el cs R->el cs R'
 | [],_,_,h,y=>h _ y
 | c::cs,R,R',h,y=>HC (cs:=cs) (R:=fun l=>R (.p c::l)) (R':=fun l=>R' (.p c::l)) (fun _=>h _) y
theorem Cl:∀{c:FV} {R R':List FV->Prop},(∀ a,R a->R' a)->tA c R->tA c R'
 | .cap0,_,_,h,y=>h _ y
 | .cap a b,R,R',h,y=>Cl (c:=b) (R:=fun l=>R (a::l)) (R':=fun l=>R' (a::l)) (fun _=>h _) y
 | .top,_,_,_,y|.p _,_,_,_,y|.opt ..,_,_,_,y|.tsl ..,_,_,_,y|.ptr ..,_,_,_,y|.hptr _,_,_,_,y|.bself _,_,_,_,y|.bsl ..,_,_,_,y|.vsl ..,_,_,_,y|.eptr ..,_,_,_,y|.mref _,_,_,_,y|.pair ..,_,_,_,y|.stmp _,_,_,_,y|.clo ..,_,_,_,y|.fagg _,_,_,_,y|.nxt ..,_,_,_,y=>by simp[tA]at y
theorem LH {v:FV} {R R':List FV->Prop} (h:∀ a,R a->R' a) (y:Xb v R):Xb v R':=by
 unfold Xb at *;split at y
 ·exact HC h y
 ·exact Cl h y
 split at y
 ·exact h _ y
 exact y.elim
theorem Hx {α:Type}:∀{l:List α} {n:Nat} {R R':Nat->Prop},(∀ a,R a->R' a)->Fj l n R->Fj l n R'
 | [],n,_,_,h,y=>h _ y
 | _::l,n,R,R',h,y=>Hx (l:=l) (n:=n+1) h y
theorem Rt {P:Program} {t:TypeId} {R R':Bool->Nat->Prop} (h:∀ a b,R a b->R' a b) (y:Qt P t R):Qt P t R':=by
 unfold Qt at *;split at y
 ·split at y
  ·exact h _ _ y
  exact y.elim
 exact y.elim
theorem BH {P:Program} {t:TypeId} {a x:Operand} {E:Env} {lo:List AObj} {R:FV->List AObj->Prop} {k off:Nat} (b:evF (qW E) a=.ptr k off) (h:oL P (.store t a x) E lo R) :
  oL P (.store t a x) E lo (fun v lo'=>R v lo'/\lo'.length=lo.length/\∀ j,j≠k->lo'[j]? =lo[j]?):=by
 simp only[oL,evS,Cp,b]at h ⊢;have main:∀ v:FV,(Xb v fun vs=>match VY vs with
   | true=>Fj vs 0 fun n=>Qt P t fun _ m=>match Nat.beq n m with
    | true=>Zm k lo fun o=>match o with
     | .box bt cells=>QU off vs cells fun cells=>GF k (.box bt cells) lo fun lo=>R (.p (.tup [])) lo
     | _=>False
    | false=>False
   | false=>False)->(Xb v fun vs=>match VY vs with
   | true=>Fj vs 0 fun n=>Qt P t fun _ m=>match Nat.beq n m with
    | true=>Zm k lo fun o=>match o with
     | .box bt cells=>QU off vs cells fun cells=>GF k (.box bt cells) lo fun lo'=>R (.p (.tup [])) lo'/\lo'.length=lo.length/\∀ j,j≠k->lo'[j]? =lo[j]?
     | _=>False
    | false=>False
   | false=>False):=fun v h=>by
  refine LH (fun vs h=>?_) h;split at h
  ·refine Hx (fun n h=>?_) h
   refine Rt (fun _ m h=>?_) h;split at h
   ·refine HH (fun o h=>?_) h
    split at h
    ·refine Xy (fun cells h=>?_) h
     exact NW h
    exact h.elim
   exact h.elim
  exact h.elim
 split at h
 ·exact⟨h.1,main _ h.2⟩
 exact main _ h
def Ml (P:Program) (sl:List Nat) (n0:Nat) (t:TypeId) (a x:Operand) (E:Env) (lo:List AObj) (R:FV->List AObj->Prop):Prop:=
 ev E a fun v=>match v with
  | .ptr k _=>match Xw sl (60000000+1000 * n0+k)with
   | true=>oL P (.store t a x) E lo R
   | false=>False
  | _=>False
theorem Hv {P:Program} {sl:List Nat} {o:Oper} {t:TypeId} {a x:Operand} (d:o.op=.store t a x) {m:Bool} {n0:Nat} {E:Env} {lo:List AObj} {R:FV->List AObj->Prop} (h:Ml P sl n0 t a x E lo R) :
  ∃ b lo',R b lo'/\Pr sl m n0 o lo lo'/\gB P o (qW E) lo none b lo':=by
 unfold Ml at h;simp only[Cp]at h;split at h
 ·rename_i k off f
  split at h
  ·rename_i g
   have h2:=BH f h;rw[← d]at h2;obtain⟨b,lo',⟨h,hlen,i⟩,_,j⟩:=UY h2;refine⟨b,lo',h,fun _ l=>⟨by omega,fun _ k' n hp _=>?_⟩,j⟩;have c:k'≠k:=fun e=>by
    have:=(CM hp).2;rw[e,g]at this;cases this
   rw[i k' c]
  exact h.elim
 exact h.elim
theorem Rv {P:Program} {sl:List Nat} {n0 N:Nat} {all:List Oper} {o:Oper} {E:Env} {lo:List AObj} {R:Env->List AObj->Prop} (C:mb sl o=false) (h:qcc P sl n0 N all o E lo R) :
  ∃ E' lo',tU P [] sl true n0 N all.toArray o (qW E) lo (qW E') lo'/\R E' lo':=by
 unfold qcc at h;unfold tU;simp only[Xv];obtain⟨g,z,h⟩:=Vs h;split at h
 ·rename_i q
  have he:rz o.op=false:=by
   cases D:o.op<;>simp[D,Gu]at q<;>rfl
  split at h
  ·rename_i t x J
   obtain⟨L,h,F⟩:=qU h;have sem:∀{b:List AObj} {j:FV},QM P t b L (fun v=>v=j)->gB P o (qW E) b g j b:=by
    intro b j h;obtain⟨M,h,A⟩:=Ga h;subst h;intro z Lw bs ρ H w eval s O;obtain⟨a,u,_,G,S⟩:=A bs ρ H w _ s (F ρ H _ z (O x (by simp[J,kh])));simp only[execOp,J];exact upon_value s G S
   unfold oM at h;split at h
   ·rename_i k off
    split at h
    ·rename_i T
     obtain⟨j,K,h,B,U,f⟩:=TH h;obtain⟨p,E',y,h⟩:=uk h;refine⟨E',lo,⟨g,j,z,p,y,.inr (.inl ⟨he,q,rfl,sem (f lo B),fun _ _=>⟨some (k,K),fun k' I e=>?_,fun b h2=>sem (f b (h2 k K rfl))⟩⟩)⟩,h⟩
     cases e;exact⟨T,U,B⟩
    exact h.elim
   ·rename_i row
    have h1:∃ j,(Vz N o.dst (Xl g j) E fun E=>R E lo)/\∀ b,QM P t b (.hptr row) (fun v=>v=j):=by
     unfold QM at h;obtain⟨d,i,p,V,h⟩:=fE h;have typeI:∀{R:Bool->Nat->Prop},R (lS d) i.size->Qt P t R:=by
      intro R h;unfold Qt;simp only[p,V];exact h
     split at h
     ·rename_i m
      obtain⟨h,X⟩:=rO h;refine⟨_,h,fun b=>?_⟩;unfold QM;refine typeI ?_;rw[m];have takeI:∀{n:Nat} {l:List PV} {R:List PV->Prop},n<=l.length->R (l.take n)->CR n l R:=by
       intro n
       induction n with
       | zero=>intro l R _ h; simpa[CR]using h
       | succ n ih=>
        intro l R q h;cases l with
        | nil=>simp at q
        | cons a l=>exact ih (l:=l) (R:=fun l=>R (a::l)) (by simpa using q) (by simpa using h)
      exact takeI X rfl
     rename_i m;split at h
     ·rename_i c r
      refine⟨_,h,fun b=>?_⟩;unfold QM;refine typeI ?_;rw[m]
     exact h.elim
    obtain⟨j,h,f⟩:=h1;obtain⟨p,E',y,h⟩:=uk h;exact⟨E',lo,⟨g,j,z,p,y,.inr (.inl ⟨he,q,rfl,sem (f lo),fun _ _=>⟨none,fun k' I e=>(by cases e),fun b _=>sem (f b)⟩⟩)⟩,h⟩
   exact h.elim
  ·exact h.elim
  ·exact h.elim
  exact h.elim
 rename_i q;split at h
 ·rename_i he
  split at h
  ·obtain⟨j,lo',h,G,A⟩:=UY h
   obtain⟨p,E',y,h⟩:=uk h;exact⟨E',lo',⟨none,j,z,p,y,.inl ⟨he,rfl,A,G.ok (fun _=>C),.no (Cz _) (Er _)⟩⟩,h⟩
  exact h.elim
 rename_i he;obtain⟨j,h,A⟩:=Cy h;obtain⟨p,E',y,h⟩:=uk h;exact⟨E',lo,⟨g,j,z,p,y,.inr (.inr ⟨he,q,rfl,A⟩)⟩,h⟩
section
variable {P:Program} {N:Nat} {ops:Array Oper} {Q:Exit->Act->World->Prop}
theorem Tc {tmps:Array Value} {d:Nat} {b:Bool} (h:tmps.getD d undef=.bool b):tmps[d]? =some (.bool b):=by
 rw[jX]at h;cases a:tmps[d]? with
 | none=>simp[a,undef]at h
 | some v=>simp[a]at h; rw[h]
theorem Sat.put {bs:(Base Lw)} {ρ ρ':List Value} {H H':(PH Lw)} {e:Nat->FV} {lo lo':List AObj} {a:Act} {w w':World} {d:Option Tmp} {v:Value} {c:FV}
  (s:Sat bs N ρ H e lo a w) (f:ρ <+: ρ') (g:PH.le H H') (i:SatW bs ρ' H' lo' w') (j:∀ t,d=some t->t<N) (rv:qY ρ' H' c v) :
  Sat bs N ρ' H' (upd e d c) lo' (a.put d v) w':=by
 refine{ i with slots:=fun t=>?_,width:=?_,defers:=?_ }
 ·cases d with
  | none=>exact(s.slots t).mono f g
  | some d=>
   have b:d<a.tmps.size:=by rw[s.width]; exact j d rfl
   simp only[upd,Act.put];by_cases h:t=d
   ·subst h
    simp[jX,b,rv]
   simp only[h,if_false];have:=(s.slots t).mono f g
   rwa [show(a.tmps.setIfInBounds d v).getD t undef=a.tmps.getD t undef by
    rw[jX,jX,Array.getElem?_setIfInBounds_ne (Ne.symm h)]]
 ·cases d<;>simp[Act.put,s.width]
 cases d<;>exact s.defers
theorem Lp {o:Oper} {e:Nat->FV} {g:G} {a:Act} (i:bH ops o e g) {ρ:List Value} {H:(PH Lw)} (m:∀ t,qY ρ H (e t) (a.tmps.getD t undef)) :
  Region.wanted o (yielded ops a.tmps)=g.getD true:=by
 unfold bH at i;unfold Region.wanted;split at i
 ·rename_i h; simp[h,i]
 rename_i j c h;obtain⟨oj,d,b,f,k,l⟩:=i;simp only[h];rcases l with ⟨he,rfl⟩|⟨n,he,rfl⟩
 ·have h1:=m d
  rw[he]at h1;have h2:=Tc (rB h1);simp only[yielded,f,Option.bind_some,k,h2];cases c<;>cases b<;>rfl
 ·have h1:=m d
  rw[he]at h1;cases n with
  | true=>
   have h2:=Tc (rB (ρ:=ρ) (H:=H) (b:=b) (by simpa only[qY,if_true]using h1));simp only[yielded,f,Option.bind_some,k,h2];cases c<;>cases b<;>rfl
  | false=>
   have h2:a.tmps.getD d undef=undef:=by simpa[qY]using h1
   have h3:∀ b,a.tmps[d]? ≠some (.bool b):=fun b l=>by
    rw[jX,l]at h2;simp[undef]at h2
   have h4:yielded ops a.tmps j=none:=by
    simp only[yielded,f,Option.bind_some,k]
    try (split<;>first|rfl|exact absurd (by assumption) (h3 _))
   rw[h4];cases c<;>rfl
theorem tU.wp {bs:(Base Lw)} {ρ:List Value} {H:(PH Lw)} {o:Oper} {e y:Nat->FV} {lo lo':List AObj} {a:Act} {w:World} {K:Act->World->Prop} {i:Nat} (A:ops[i]? =some o)
  {inl:List Nat} {m:Bool} {n0:Nat} (st:tU P inl inl m n0 N ops o e lo y lo') (s:Sat bs N ρ H e lo a w) (l:∀ ρ' H' a' w',Sat bs N ρ' H' y lo' a' w'->K a' w'):wpOp P ops Q i K a w:=by
 obtain⟨g,k,B,z,rfl,d⟩:=st;unfold wpOp;simp only[A];rw[Lp B s.slots];have sem:gOn g->Lu P bs ρ H k lo' ((execOp a.eval o).run P w):=by
  intro c;have p:=fun x (_:x∈o.op.operands)=>Vr s.slots x
  rcases d with ⟨_,rfl,d,_⟩|⟨_,_,rfl,d⟩|⟨_,_,rfl,d⟩
  ·exact d c bs ρ H w a.eval s.toSatW p
  ·exact d.1 c bs ρ H w a.eval s.toSatW p
  exact d _ c bs ρ H w a.eval s.toSatW p
 have run:∀ j,(∀(ρ':List Value) (H':PH Lw) (v:Value),qY ρ' H' k v->qY ρ' H' j v)->(∀ ρ' H' a' w',Sat bs N ρ' H' (upd e o.dst j) lo' a' w'->K a' w')->gOn g->o.wp P a w K Q:=by
  intro j hf q c;have h:=sem c;have fin:∀ v w',tf bs ρ H k lo' v w'->K (a.put o.dst v) w':=fun v w' ⟨ρ',H',h1,h2,h3,h4⟩=>q _ _ _ _ (s.put h1 h2 h3 z (hf _ _ _ h4))
  unfold Oper.wp;generalize (execOp a.eval o).run P w=r at *;cases r with
  | ok n w'=>
   cases n<;>simp only[Lu]at h<;>simp only[Oper.upon]
   case value v=>exact fin v w' h
   case skip=>exact fin undef w' h
   case enter f args=>exact h.mono fun C t ⟨v,e1,h1⟩=>by subst e1; exact fin v t h1
  | halt x w'=>simp only[Lu]at h
 cases g with
 | none=>exact .inl (run k (fun _ _ _ h=>h) l trivial)
 | some b=>
  cases b with
  | true=>exact .inl (run _ (fun _ _ _ h=>by simpa[Xl,qY]using h) l rfl)
  | false=>
   have u:lo'=lo:=by
    rcases d with ⟨_,h,_⟩|⟨_,_,h,_⟩|⟨_,_,h,_⟩
    ·cases h
    ·exact h
    exact h
   subst u;exact l _ _ _ _ (s.put (jq _) (PH.le.refl H) s.toSatW z (by simp[Xl,qY]))
def zh (P:Program) (f:FuncId) (args:List FV) (lo:List AObj) (R:FV->List AObj->Prop):Prop:=
 ∀ ⦃Lw:Nat⦄ (bs:(Base Lw)) (ρ:List Value) (H:(PH Lw)) (w:World) (vs:List Value),SatW bs ρ H lo w->xa ρ H args vs ->
  match (callFunc f vs.toArray).run P w with
  | .ok (.value v) w'=>∃ r lo',tf bs ρ H r lo' v w'/\R r lo'
  | .ok (.enter f' args') w'=>w'=w/\Calls P f' args' w fun b a=>∃ v r lo',b=.returned v/\tf bs ρ H r lo' v a/\R r lo'
  | _=>False
theorem zh.mono {f:FuncId} {args:List FV} {lo:List AObj} {R R':FV->List AObj->Prop} (h:zh P f args lo R) (b:∀ r lo,R r lo->R' r lo):zh P f args lo R':=by
 intro Lw bs ρ H w vs s c;have:=h bs ρ H w vs s c;generalize (callFunc f vs.toArray).run P w=x at *;cases x with
 | ok n w'=>
  cases n<;>simp only at this ⊢ <;> try exact this
  ·obtain⟨r,lo',a,k⟩:=this; exact⟨r,lo',a,b _ _ k⟩
  exact⟨this.1,this.2.mono fun g d ⟨v,r,lo',e,a,k⟩=>⟨v,r,lo',e,a,b _ _ k⟩⟩
 | halt x w'=>exact this
def Sz (v:FV) (lo:List AObj) (no:Prop) (R:List AObj->Prop):Prop:=
 match v with
 | .ptr k off=>Zm k lo fun o=>match o with
  | .box T cells=>BF off cells fun cs=>match cs with
   | .bself j::_=>(QU off [.p .nilp] cells fun cells'=>GF k (.box T cells') lo R)/\(QU off [.ptr j 0] cells fun cells'=>GF k (.box T cells') lo R)
   | _=>no
  | _=>no
 | _=>no
theorem xa.over {ρ:List Value} {H:(PH Lw)}:∀{cs:List FV} {vs:List Value} {off:Nat} {c:FV} {v:Value},xa ρ H cs vs->vs[off]? =some v->qY ρ H c v ->
  xa ρ H (cs.take off++[c]++cs.drop (off+1)) vs
 | [],vs,off,c,v,h,hv,r=>by simp only[xa]at h; subst h; simp at hv
 | d::cs,vs,0,c,v,h,hv,r=>by
  obtain⟨u,a,rfl,_,rs⟩:=h;simp only[jd,Option.some.injEq]at hv;subst hv;simpa using⟨u,a,rfl,r,rs⟩
 | d::cs,vs,off+1,c,v,h,hv,r=>by
  obtain⟨u,a,rfl,b,rs⟩:=h;have:=rs.over (off:=off) (c:=c) (v:=v) (by simpa using hv) r;have e:(d::cs).drop (off+1+1)=cs.drop (off+1):=rfl;rw[List.take_succ_cons,e,List.cons_append,List.cons_append];exact⟨u,a,rfl,b,this⟩
theorem SatW.rebox {bs:(Base Lw)} {ρ:List Value} {H:(PH Lw)} {lo:List AObj} {w:World} {k:Nat} {T:TypeId} {cells cells':List FV} (s:SatW bs ρ H lo w) (g:lo[k]? =some (.box T cells))
  (h:∀ vs,xa ρ H cells vs->ρ[k]? ≠none->(∃ b,ρ[k]? =some (.pointer (some ⟨b,0,none⟩))/\w.heap[b]? =some (.cells vs.toArray T (0,0)))->xa ρ H cells' vs):SatW bs ρ H (lo.set k (.box T cells')) w where
 sath:=s.sath
 hlen:=by simpa using s.hlen
 pre:=s.pre
 objs:=fun i o v a c=>by
  rw[jF]at a;split at a
  ·rename_i e
   subst e;split at a
   ·cases a
    obtain⟨b,vs,rfl,p,q,r⟩:=s.objs _ _ _ g c;exact⟨b,vs,rfl,p,h vs q (by rw[c]; simp) ⟨b,c,p⟩,r⟩
   cases a
  ·exact s.objs i o v a c
 excl:=fun i j o o' v v' b a t c l m d n f=>by
  have key:∀{i:Nat} {o:AObj},(lo.set k (.box T cells'))[i]? =some o->o.live=true->∃ o2,lo[i]? =some o2/\o2.live=true:=by
   intro i o a d;rw[jF]at a;split at a
   ·rename_i e; subst e; exact⟨_,g,rfl⟩
   exact⟨o,a,d⟩
  obtain⟨o2,h2,u⟩:=key a d;obtain⟨x,h3,y⟩:=key t n;exact s.excl i j o2 x v v' b h2 h3 c l m u y f
 own:=fun i o v b a c d f=>by
  rw[jF]at a;split at a
  ·rename_i e; subst e; exact s.own _ _ v b g c rfl f
  exact s.own i o v b a c d f
 keep:=s.keep
 leH:=s.leH
 newH:=s.newH
theorem LG {bs:(Base Lw)} {ρ:List Value} {H:(PH Lw)} {e:Nat->FV} {lo:List AObj} {a:Act} {w:World} {v:FV} {no:Prop} {R:List AObj->Prop} (h:Sz v lo no R) (s:Sat bs N ρ H e lo a w) :
  no\/∃ lo',R lo'/\Sat bs N ρ H e lo' a w:=by
 unfold Sz at h;split at h
 ·rename_i k off
  obtain⟨o,q,h⟩:=xg h;split at h
  ·rename_i T cells
   obtain⟨h,z⟩:=rJ h;split at h
   ·rename_i j cs t
    have B:cells[off]? =some (.bself j):=by
     have:=congrArg (fun l=>l[0]?) t
     simpa using this
    obtain⟨h1,h2⟩:=h;obtain⟨h1,_⟩:=rL h1;obtain⟨h2,_⟩:=rL h2;obtain⟨h1,_⟩:=gw h1;obtain⟨h2,_⟩:=gw h2
    right
    have g:k<ρ.length:=by rw[s.hlen]; exact(jG.1 q).1
    obtain⟨b,vs,C,D,m,_⟩:=s.objs k _ _ q (jf g);have get:∀{cs:List FV} {vs:List Value} {i:Nat} {c:FV},xa ρ H cs vs->cs[i]? =some c->∃ v,vs[i]? =some v/\qY ρ H c v:=by
     intro cs
     induction cs with
     | nil=>intro vs i c _ h; simp at h
     | cons d cs ih=>
      intro vs i c x h;obtain⟨v,E,rfl,r,rs⟩:=x;cases i with
      | zero=>simp at h; subst h; exact⟨v,by simp,r⟩
      | succ i=>simp at h; obtain⟨u,hu,F⟩:=ih rs h; exact⟨u,by simpa using hu,F⟩
    obtain⟨x,A,G,I,y⟩:=get m B;have uniq:∀ f,(∃ b,ρ[k]? =some (.pointer (some ⟨b,0,none⟩))/\w.heap[b]? =some (.cells f.toArray T (0,0)))->f=vs:=by
     rintro f ⟨J,e2,n⟩;rw[jf g,C]at e2;cases e2;rw[D]at n;have:=congrArg Array.toList (Obj.cells.inj (Option.some.inj n)).1;simpa using this.symm
    rcases y with rfl|rfl
    ·refine⟨_,h1,{ (s.toSatW.rebox (cells':=cells.take off++[.p .nilp]++cells.drop (off+1)) q fun f r _ hw=>?_)with slots:=s.slots,width:=s.width,defers:=s.defers }⟩
     have:=uniq f hw;subst this;exact r.over A (by simp[qY,qO])
    refine⟨_,h2,{ (s.toSatW.rebox (cells':=cells.take off++[.ptr j 0]++cells.drop (off+1)) q fun f r _ hw=>?_)with slots:=s.slots,width:=s.width,defers:=s.defers }⟩;have:=uniq f hw;subst this;exact r.over A ⟨G,I,rfl⟩
   exact .inl h
  exact .inl h
 exact .inl h
def qet {α:Type}:List α->List α->(List α->Prop)->Prop
 | [],m,R=>R m
 | a::l,m,R=>qet l m fun l=>R (a::l)
def qcd (P:Program) (inl:List Nat) (N:Nat) (all:List Oper) (o:Oper) (E:Env) (lo:List AObj) (R:Env->List AObj->Prop):Prop:=
 match o.op with
 | .call { callee:=.value (.func f),args:=⟨xs⟩,argTypes:=_ }=>match Xw inl f with
  | true=>match o.guard with
   | none=>evL E none xs fun vs=>zh P f vs lo fun r lo=>Vz N o.dst r E fun E=>R E lo
   | some _=>Hk all o E fun g=>match g with
    | some b=>(b=true->evL E (some b) xs fun vs=>zh P f vs lo fun r lo=>Vz N o.dst (.opt b r) E fun E=>R E lo)/\(b=false->∃ v,Vz N o.dst (.opt b v) E fun E=>R E lo)
    | none=>False
  | false=>ME P N all o E lo R
 | .call { callee:=.value (.tmp t),args:=⟨xs⟩,argTypes:=_ }=>match qc4 inl t with
  | true=>match o.guard with
   | none=>evS E none (.tmp t) fun a=>evL E none xs fun vs=>match a with
    | .clo f c=>tA c fun cs=>qet vs cs fun vs=>zh P f vs lo fun r lo=>Vz N o.dst r E fun E=>R E lo
    | .p (.fn f)=>zh P f vs lo fun r lo=>Vz N o.dst r E fun E=>R E lo
    | _=>False
   | some _=>False
  | false=>ME P N all o E lo R
 | .call { callee:=.builtin .len,args:=⟨[x]⟩,argTypes:=⟨[t]⟩ }=>ev E x fun v=>match v with
  | .mref k=>False
  | _=>ME P N all o E lo R
 | .buildSlice t n ⟨xl⟩=>match Ri inl o.dst with
  | true=>False
  | false=>ME P N all o E lo R
 | .convert sr d x=>match Ri inl o.dst with
  | true=>False
  | false=>ME P N all o E lo R
 | .alloc t=>match Ri inl o.dst with
  | true=>match o.guard with
   | none=>LW P t lo fun v lo=>Vz N o.dst v E fun E=>R E lo
   | some _=>False
  | false=>ME P N all o E lo R
 | .build t ⟨xl⟩=>match qa1 inl o.dst with
  | true=>False
  | false=>ME P N all o E lo R
 | .load t x=>ev E x fun v=>match v with
  | .eptr k z i off=>match o.guard with
   | none=>TG P t lo k z i off fun v=>Vz N o.dst v E fun E=>R E lo
   | some _=>False
  | .opt g' (.eptr k z i off)=>False
  | v=>Sz v lo (ME P N all o E lo R) (fun lo'=>ME P N all o E lo' R)
 | op=>match o.guard with
  | none=>aT P inl o.dst op E lo (ME P N all o E lo R) fun v lo=>Vz N o.dst v E fun E=>R E lo
  | some _=>ME P N all o E lo R
def Pn (P:Program) (inl:List Nat) (N:Nat) (all:List Oper) (K:Env->List AObj->Prop):List Oper->Env->List AObj->Prop
 | [],E,lo=>K E lo
 | o::rest,E,lo=>qcd P inl N all o E lo (Pn P inl N all K rest)
theorem Cj {α:Type}:∀{l m:List α} {R:List α->Prop},qet l m R->R (l++m)
 | [],m,R,h=>h
 | a::l,_,R,h=>Cj (l:=l) (R:=fun l=>R (a::l)) h
theorem MF {bs:(Base Lw)} {all:List Oper} {inl:List Nat} {o:Oper} {i:Nat} (O:all[i]? =some o) {ρ:List Value} {H:(PH Lw)} {E:Env} {lo:List AObj} {a:Act} {w:World} {R:Env->List AObj->Prop} {K:Act->World->Prop}
  (s:Sat bs N ρ H (qW E) lo a w) (h:qcd P inl N all o E lo R) (M:∀ E' lo' ρ' H' C w',R E' lo'->Sat bs N ρ' H' (qW E') lo' C w'->K C w'):wpOp P all.toArray Q i K a w:=by
 have plain:∀ lo,Sat bs N ρ H (qW E) lo a w->ME P N all o E lo R->wpOp P all.toArray Q i K a w:=by
  intro lo s h;obtain⟨E',lo',st,h⟩:=Lm h;exact st.wp (by simpa using O) s fun ρ' H' C w' G=>M E' lo' ρ' H' C w' h G
 have u:all.toArray[i]? =some o:=by simpa using O
 have fin:∀ v w',(∃ r lo',tf bs ρ H r lo' v w'/\Vz N o.dst r E fun E=>R E lo')->K (a.put o.dst v) w':=by
  rintro v w' ⟨r,lo',⟨ρ',H',h1,h2,h3,h4⟩,hp⟩;obtain⟨I,E',J,S⟩:=uk hp;exact M E' lo' ρ' H' _ w' S (by rw[J]; exact s.put h1 h2 h3 I h4)
 have value:o.guard=none->(∃ v w' r lo',(execOp a.eval o).run P w=.ok (.value v) w'/\tf bs ρ H r lo' v w'/\Vz N o.dst r E fun E=>R E lo')->wpOp P all.toArray Q i K a w:=by
  rintro l ⟨v,w',r,lo',q,y,hp⟩;unfold wpOp;simp only[u,Region.wanted,l,if_true];refine .inl ?_;unfold Oper.wp;rw[q];simp only[Oper.upon];exact fin v w' ⟨r,lo',y,hp⟩
 have calls:o.guard=none->∀(f:FuncId) (vs:List FV) (us:List Value),xa ρ H vs us->(execOp a.eval o).run P w=(callFunc f us.toArray).run P w->(zh P f vs lo fun r lo=>Vz N o.dst r E fun E=>R E lo)->wpOp P all.toArray Q i K a w:=by
  intro l f vs us D q h;have:=h bs ρ H w us s.toSatW D;unfold wpOp;simp only[u,Region.wanted,l,if_true];refine .inl ?_;unfold Oper.wp;rw[q];generalize (callFunc f us.toArray).run P w=x at *;cases x with
  | ok n w'=>
   cases n<;>simp only at this<;>simp only[Oper.upon]
   case value v=>exact fin v w' this
   case enter f' args'=>
    obtain⟨rfl,p⟩:=this;exact p.mono fun V A ⟨v,r,lo',e,y,k⟩=>by subst e; exact fin v A ⟨r,lo',y,k⟩
   all_goals exact this.elim
  | halt x w'=>exact this.elim
 unfold qcd at h;split at h
 ·rename_i f xs X j
  split at h
  ·rename_i hm
   split at h
   ·rename_i l
    obtain⟨vs,h,m⟩:=ry h;refine calls l f vs (xs.map a.eval) (m ρ H a.eval trivial (fun x _=>Vr s.slots x)) ?_ h
    have hf:a.eval (.func f)=.func (.func f) #[] #[]:=rfl;simp only[execOp,j,resolve,Deferred.ofValue,invoke,hf,kf,kg,ke,kb,Array.empty_append,Array.append_empty]
   obtain⟨g,l,h⟩:=Vs h;split at h
   ·rename_i b
    unfold wpOp;simp only[u];rw[Lp l s.slots];cases b with
    | true=>
     obtain⟨vs,h,m⟩:=ry (h.1 rfl);have D:=m ρ H a.eval rfl (fun x _=>Vr s.slots x)
     have p:=h bs ρ H w _ s.toSatW D;refine .inl ?_;have fin2:∀ v w',(∃ r lo',tf bs ρ H r lo' v w'/\Vz N o.dst (.opt true r) E fun E=>R E lo')->K (a.put o.dst v) w':=by
      rintro v w' ⟨r,lo',⟨ρ',H',h1,h2,h3,h4⟩,hp⟩;exact fin v w' ⟨.opt true r,lo',⟨ρ',H',h1,h2,h3,by simpa[qY]using h4⟩,hp⟩
     unfold Oper.wp;have hf:a.eval (.func f)=.func (.func f) #[] #[]:=rfl;simp only[execOp,j,resolve,Deferred.ofValue,invoke,hf,kf,kg,ke,kb,Array.empty_append,Array.append_empty];generalize (callFunc f (List.map a.eval xs).toArray).run P w=x at *;cases x with
     | ok n w'=>
      cases n<;>simp only at p<;>simp only[Oper.upon]
      case value v=>exact fin2 v w' p
      case enter f' args'=>
       obtain⟨rfl,p⟩:=p;exact p.mono fun V A ⟨v,r,lo',e,y,k⟩=>by subst e; exact fin2 v A ⟨r,lo',y,k⟩
      all_goals exact p.elim
     | halt x w'=>exact p.elim
    | false=>
     obtain⟨v,hp⟩:=h.2 rfl;obtain⟨I,E',J,S⟩:=uk hp;exact M E' lo ρ H _ w S (by rw[J]; exact s.put (jq _) (PH.le.refl H) s.toSatW I (by simp[qY]))
   exact h.elim
  exact plain lo s h
 ·rename_i t xs X j
  split at h
  ·rename_i hm
   split at h
   ·rename_i l
    have B:=qU h; clear h; obtain⟨F,h,T⟩:=B;have B:=ry h; clear h; obtain⟨vs,h,m⟩:=B;have D:=m ρ H a.eval trivial (fun x _=>Vr s.slots x)
    have rf:=T ρ H _ trivial (Vr s.slots (.tmp t));split at h
    ·rename_i f c
     have B:=QJ h; clear h; obtain⟨cs,h,U⟩:=B;have h:=Cj h;obtain⟨us,hf,rc⟩:=rf;refine calls l f _ (xs.map a.eval++us) (D.append (U _ _ _ rc)) ?_ h;simp only[execOp,j,resolve,Deferred.ofValue,invoke,hf,kf,kg,ke,kb,List.append_toArray,List.nil_append]
    ·rename_i f
     have hf:a.eval (.tmp t)=.func (.func f) #[] #[]:=by simpa[qY,qO]using rf
     refine calls l f vs (xs.map a.eval) D ?_ h;simp only[execOp,j,resolve,Deferred.ofValue,invoke,hf,kf,kg,ke,kb,Array.empty_append,Array.append_empty]
    exact h.elim
   exact h.elim
  exact plain lo s h
 ·rename_i x t j
  rw[Cp]at h;split at h
  ·exact h.elim
  exact plain lo s h
 ·rename_i t n xl j
  split at h
  ·exact h.elim
  exact plain lo s h
 ·rename_i sr d x j
  split at h
  ·exact h.elim
  exact plain lo s h
 ·rename_i t j
  split at h
  ·split at h
   ·rename_i l
    obtain⟨F,lo',h,_,L⟩:=Hr h;obtain⟨v,w',q,y⟩:=L bs ρ H w s.toSatW;refine value l ⟨v,w',F,lo',?_,y,h⟩;simp only[execOp,j,kf,q,ke,kg]
   exact h.elim
  exact plain lo s h
 ·rename_i t xl j
  split at h
  ·exact h.elim
  exact plain lo s h
 ·rename_i t x j
  rw[Cp]at h;split at h
  ·rename_i k z i off Y
   split at h
   ·rename_i l
    have B:=Mf h; clear h; obtain⟨F,h,L⟩:=B;have rx:=Vr s.slots x;rw[Y]at rx;obtain⟨v,q,rv⟩:=L bs ρ H w _ s.toSatW rx;refine value l ⟨v,w,F,lo,?_,fy s.toSatW rv,h⟩;simp only[execOp,j,kf,q,ke,kg]
   exact h.elim
  ·exact h.elim
  rcases LG h s with h|⟨lo',h,G⟩
  ·exact plain lo s h
  exact plain lo' G h
 split at h
 ·rename_i l
  rcases Db h with h|⟨F,lo',h,he,Z,q,L⟩
  ·exact plain lo s h
  obtain⟨I,E',J,h⟩:=uk h;have st:tU P [] [] false 0 N all.toArray o (qW E) lo (qW E') lo':=
   ⟨none,F,by simp[bH,l],I,J,.inl ⟨(Z o [] rfl).1,rfl,L o rfl,(fun h=>by cases h),.no (Cz _) (Er _)⟩⟩
  exact st.wp (by simpa using O) s fun ρ' H' C w' G=>M E' lo' ρ' H' C w' h G
 exact plain lo s h
theorem GH {bs:(Base Lw)} {all:List Oper} {inl:List Nat} {K:Env->List AObj->Prop} (b:∀ ρ H E lo a w,Sat bs N ρ H (qW E) lo a w->K E lo->Q .normal a w) :
  ∀(l:List Oper) (k:Nat),(∀ j,l[j]? =all[k+j]?)->∀(ρ:List Value) (H:(PH Lw)) (E:Env) (lo:List AObj) (a:Act) (w:World),Sat bs N ρ H (qW E) lo a w->Pn P inl N all K l E lo ->
   wpOps P all.toArray Q (List.range' k l.length) a w
 | [],k,_,ρ,H,E,lo,a,w,s,h=>by
  simp only[List.length_nil,List.range'_zero,wpOps];exact b ρ H E lo a w s h
 | o::l,k,hl,ρ,H,E,lo,a,w,s,h=>by
  rw[ja,List.range'_succ,wpOps_cons];refine MF (by have:=hl 0; simpa using this.symm) s h fun E' lo' ρ' H' c w' d e=>?_;exact GH b l (k+1) (fun j=>by have:=hl (j+1); simpa[Nat.add_assoc,Nat.add_comm 1 j]using this) ρ' H' E' lo' c w' e d
theorem BM {bs:(Base Lw)} {ρ:List Value} {H:(PH Lw)} {E:Env} {lo:List AObj} {a:Act} {w:World} {K:Env->List AObj->Prop} {inl:List Nat} {id:Nat} {l:List Oper}
  (b:∀ ρ H E lo a w,Sat bs N ρ H (qW E) lo a w->K E lo->Q .normal a w) (s:Sat bs N ρ H (qW E) lo a w) (h:Pn P inl N l K l E lo):(Code.region id l.toArray false).wp P Q a w:=by
 refine wp_region ?_;have:=GH (P:=P) b l 0 (by simp) ρ H E lo a w s h;simpa[List.range_eq_range']using this
def qck (P:Program) (inl:List Nat) (m:Bool) (n0 N:Nat) (ops:Array Oper) (K:(Nat->FV)->List AObj->Prop):Nat->Array Bool->(Nat->FV)->List AObj->Prop
 | 0,listed,e,lo=>Region.ready .any ops listed=[]/\K e lo
 | fuel+1,listed,e,lo=>(Region.ready .any ops listed=[]->K e lo) /\
   ∀ i∈Region.ready .any ops listed,∃ o a lo',ops[i]? =some o/\tU P inl inl m n0 N ops o e lo a lo'/\qck P inl m n0 N ops K fuel (listed.setIfInBounds i true) a lo'
theorem Zd {inl:List Nat} {m:Bool} {n0:Nat} {bs:(Base Lw)} {K:(Nat->FV)->List AObj->Prop} (b:∀ ρ H e lo a w,Sat bs N ρ H e lo a w->K e lo->Q .normal a w) :
  ∀(fuel:Nat) (listed:Array Bool) (ρ:List Value) (H:(PH Lw)) (e:Nat->FV) (lo:List AObj) (a:Act) (w:World),Sat bs N ρ H e lo a w->qck P inl m n0 N ops K fuel listed e lo->wpAny P .any ops Q fuel listed a w
 | 0,_,ρ,H,e,lo,a,w,s,h=>⟨h.1,b ρ H e lo a w s h.2⟩
 | fuel+1,listed,ρ,H,e,lo,a,w,s,h=>⟨fun c=>b ρ H e lo a w s (h.1 c),fun i d=>by
  obtain⟨o,f,lo',g,st,j⟩:=h.2 i d;exact st.wp g s fun ρ' H' k w' l=>Zd b fuel _ ρ' H' f lo' k w' l j⟩
theorem gB.congr {o:Oper} {e a:Nat->FV} {lo lo':List AObj} {g:G} {b:FV} (h:gB P o e lo g b lo') (he:∀ x∈o.op.operands,evF a x=evF e x):gB P o a lo g b lo':=
 fun c Lw bs ρ H w eval s d=>h c bs ρ H w eval s fun x hm=>by rw[← he x hm]; exact d x hm
theorem SR {e:Nat->FV} {d:Option Tmp} {v:FV} {o:Oper} (h:∀ t,d=some t->t ∉ o.looksAt ops):∀ x∈o.op.operands,evF (upd e d v) x=evF e x:=by
 intro x a;cases d with
 | none=>rfl
 | some d=>
  cases x with
  | tmp t=>
   have:t≠d:=fun e1=>by
    subst e1;exact h t rfl (List.mem_append_left _ (List.mem_filterMap.2 ⟨.tmp t,by simpa using a,rfl⟩))
   simp[evF,upd,this]
  | _=>rfl
theorem Hl {e:Nat->FV} {d:Option Tmp} {v:FV} {o:Oper} {g:G} (h:∀ t,d=some t->t ∉ o.looksAt ops):bH ops o (upd e d v) g↔bH ops o e g:=by
 unfold bH;split
 ·exact Iff.rfl
 rename_i j k l;have key:∀ oj f,ops[j]? =some oj->oj.dst=some f->upd e d v f=e f:=by
  intro oj f a c;cases d with
  | none=>rfl
  | some d=>
   have:f≠d:=fun e1=>by
    subst e1;refine h f rfl (List.mem_append_right _ ?_);simp[l,a,c]
   simp[upd,this]
 constructor
 ·rintro⟨oj,f,b,a,c,i⟩
  rw[key oj f a c]at i;exact⟨oj,f,b,a,c,i⟩
 rintro⟨oj,f,b,a,c,i⟩;refine⟨oj,f,b,a,c,?_⟩;rw[key oj f a c];exact i
theorem oh {e:Nat->FV} {d a:Option Tmp} {v v':FV} (h:∀ t,d=some t->a≠some t):upd (upd e d v) a v'=upd (upd e a v') d v:=by
 cases d with
 | none=>rfl
 | some d=>
  cases a with
  | none=>rfl
  | some a=>
   have b:a≠d:=fun e1=>h d rfl (by rw[e1])
   funext t;simp only[upd];by_cases h1:t=a
   ·have h2:t≠d:=fun h2=>b (by rw[← h1,← h2])
    simp[h1,b]
   by_cases h2:t=d
   ·have:¬ d=a:=fun h3=>b h3.symm
    simp[h2,this]
   simp[h1,h2]
def Ud (inl:List Nat) (m:Bool) (oi oj:Oper):Bool:=(!SE inl m oi oj&&!SE inl m oj oi)||(nC inl oi&&Ft inl oj)
theorem Pp.congr {inl:List Nat} {o:Oper} {e b:Nat->FV} {lo lo':List AObj} {c:FV} (h:Pp P inl o e lo c lo') (he:∀ x∈o.op.operands,evF b x=evF e x):Pp P inl o b lo c lo':=
 ⟨fun d=>⟨(h.1 d).1,fun l=>((h.1 d).2 l).congr he⟩,fun f=>let ⟨ob,h1,h2⟩:=h.2 f; ⟨ob,h1,fun a g=>(h2 a g).congr he⟩⟩
theorem TQ {inl:List Nat} {o:Oper} (h:nC inl o=true):gz inl o=true/\Ft inl o=false:=by
 unfold nC at h;split at h
 ·rename_i f xs b a
  simp only[ji]at h;exact⟨by simp[gz,a,h.1.1],by simp[Ft,a]⟩
 cases h
theorem eA {inl:List Nat} {o:Oper} (h:Ft inl o=true):gz inl o=true/\nC inl o=false:=by
 unfold Ft at h;split at h
 ·rename_i t a
  exact⟨by simp[gz,a,rz],by simp[nC,a]⟩
 cases h
theorem ZY.congr {sl:List Nat} {m:Bool} {n0:Nat} {o:Oper} {e b:Nat->FV} {lo:List AObj} {g:G} {c:FV} (h:ZY P sl m n0 o e lo g c) (he:∀ x∈o.op.operands,evF b x=evF e x):ZY P sl m n0 o b lo g c:=
 ⟨h.1.congr he,fun hm d=>let ⟨kk,h1,h2⟩:=h.2 hm d; ⟨kk,h1,fun a h3=>(h2 a h3).congr he⟩⟩
theorem ZY.back {sl:List Nat} {m:Bool} {n0:Nat} {o l:Oper} {e:Nat->FV} {lo f:List AObj} {g:G} {n:FV} (h:ZY P sl m n0 o e f g n) (hm:m=true) (q:n0<=lo.length) (he:Pr sl m n0 l lo f) (hmild:HE sl l=true) (i:Gk sl o=false):ZY P sl m n0 o e lo g n:=by
 obtain⟨p,h1,h2⟩:=h.2 hm i;have h3:=(he hm q).2 hmild;have h4:∀ k d,p=some (k,d)->lo[k]? =some d:=fun k d j=>let ⟨a,b,c⟩:=h1 k d j; (h3 k d a b).2 c
 exact⟨h2 lo h4,fun _ _=>⟨p,fun k d j=>⟨(h1 k d j).1,(h1 k d j).2.1,h4 k d j⟩,h2⟩⟩
theorem ZY.forth {sl:List Nat} {m:Bool} {n0:Nat} {o l:Oper} {e:Nat->FV} {lo d:List AObj} {g:G} {n:FV} (h:ZY P sl m n0 o e lo g n) (hm:m=true) (q:n0<=lo.length) (he:Pr sl m n0 l lo d) (hmild:HE sl l=true) (i:Gk sl o=false):ZY P sl m n0 o e d g n:=by
 obtain⟨p,h1,h2⟩:=h.2 hm i;have h3:=(he hm q).2 hmild;have h4:∀ k f,p=some (k,f)->d[k]? =some f:=fun k f j=>let ⟨a,b,c⟩:=h1 k f j; (h3 k f a b).1 c
 exact⟨h2 d h4,fun _ _=>⟨p,fun k f j=>⟨(h1 k f j).1,(h1 k f j).2.1,h4 k f j⟩,h2⟩⟩
theorem tU.grow {inl:List Nat} {m:Bool} {n0:Nat} {o:Oper} {e b:Nat->FV} {lo lo':List AObj} (st:tU P inl inl m n0 N ops o e lo b lo') (a:m=true->n0<=lo.length):m=true->n0<=lo'.length:=by
 intro hm;obtain⟨g,d,_,_,_,c⟩:=st;rcases c with ⟨_,_,_,he,_⟩|⟨_,_,rfl,_⟩|⟨_,_,rfl,_⟩
 ·exact(he hm (a hm)).1
 ·exact a hm
 exact a hm
theorem tU.swap {inl:List Nat} {m:Bool} {n0:Nat} {oi oj:Oper} {e e1 e2:Nat->FV} {lo A t:List AObj} (G:m=true->n0<=lo.length) (I:oi.apart ops oj=true) (p:Ud inl m oi oj=true)
  (g:tU P inl inl m n0 N ops oi e lo e1 A) (d:tU P inl inl m n0 N ops oj e1 A e2 t):∃ B y,tU P inl inl m n0 N ops oj e lo B y/\tU P inl inl m n0 N ops oi B y e2 t:=by
 obtain⟨S,a2,a3⟩:=Oper.apart_spec I;obtain⟨q,j,J,u,rfl,T⟩:=g;obtain⟨r,i,K,v,rfl,sj⟩:=d;have gj':=(Hl S).1 K;have gi':bH ops oi (upd e oj.dst (Xl r i)) q:=(Hl a3).2 J;have ci:∀ x∈oi.op.operands,evF (upd e oj.dst (Xl r i)) x=evF e x:=SR a3;have cj:∀ x∈oj.op.operands,evF e x=evF (upd e oi.dst (Xl q j)) x:=fun x V=>(SR S x V).symm;have a:upd (upd e oi.dst (Xl q j)) oj.dst (Xl r i)=upd (upd e oj.dst (Xl r i)) oi.dst (Xl q j):=oh a2;cases hp:nC inl oi&&Ft inl oj with
 | true=>
  simp only[ji]at hp;obtain⟨U,C⟩:=hp;have ek:=TQ U;have en:=eA C;rcases T with ⟨c,rfl,g,s,z⟩|⟨c,_⟩|⟨c,_⟩
  ·rcases sj with ⟨b,rfl,d,X,L⟩|⟨b,_⟩|⟨b,_⟩
   ·obtain⟨M,D⟩:=z.1 U
    obtain⟨H,rfl,E⟩:=L.2 C;refine⟨_,lo++[H],⟨none,i,gj',v,rfl,.inl ⟨b,rfl,(E lo M.symm).congr cj,fun hm F=>⟨by rw[jb]; omega,fun _ k o w _=>by rw[jB (Nat.lt_of_lt_of_le (CM w).1 F)]⟩,fun h=>(by rw[en.2]at h; cases h),fun _=>⟨H,rfl,fun Y h=>(E Y (h.trans M.symm)).congr cj⟩⟩⟩,
     ⟨none,j,gi',u,a,.inl ⟨c,rfl,(D [H]).congr ci,fun hm F=>?_,fun _=>⟨by simp[M],fun l=>?_⟩,fun h=>(by rw[ek.2]at h; cases h)⟩⟩⟩
    ·have h1:=s hm (G hm)
     refine⟨by rw[jb]; omega,fun O k o w Z=>?_⟩;have R:=Nat.lt_of_lt_of_le (CM w).1 (G hm);rw[jB R,jB (by omega)];exact h1.2 O k o w Z
    rw[js,js];exact(D ([H]++l)).congr ci
   ·rw[en.1]at b; cases b
   rw[en.1]at b; cases b
  ·rw[ek.1]at c; cases c
  rw[ek.1]at c; cases c
 | false=>
 rw[Ud,hp,Bool.or_false]at p;simp only[SE,ji,Bool.not_eq_true',Bool.and_eq_false_iff,Bool.or_eq_false_iff,Bool.not_eq_false']at p;rcases T with ⟨c,rfl,g,s,z⟩|⟨c,li,rfl,g⟩|⟨c,li,rfl,g⟩
 ·rcases sj with ⟨b,rfl,d,_,_⟩|⟨b,n,rfl,d⟩|⟨b,n,rfl,d⟩
  ·simp[c,b]at p
  ·
   have f:(m=true/\HE inl oi=true)/\Gk inl oj=false:=by simpa[c,b,n]using p
   exact⟨_,lo,⟨r,i,gj',v,rfl,.inr (.inl ⟨b,n,rfl,(d.congr cj).back f.1.1 (G f.1.1) s f.1.2 f.2⟩)⟩,⟨_,j,gi',u,a,.inl ⟨c,rfl,g.congr ci,s,z.congr ci⟩⟩⟩
  exact⟨_,lo,⟨r,i,gj',v,rfl,.inr (.inr ⟨b,n,rfl,fun lo=>(d lo).congr cj⟩)⟩,⟨_,j,gi',u,a,.inl ⟨c,rfl,g.congr ci,s,z.congr ci⟩⟩⟩
 ·rcases sj with ⟨b,rfl,d,s,z⟩|⟨b,n,rfl,d⟩|⟨b,n,rfl,d⟩
  ·have f:(m=true/\HE inl oj=true)/\Gk inl oi=false:=by simpa[c,b,li]using p
   exact⟨_,t,⟨_,i,gj',v,rfl,.inl ⟨b,rfl,d.congr cj,s,z.congr cj⟩⟩,⟨q,j,gi',u,a,.inr (.inl ⟨c,li,rfl,(g.congr ci).forth f.1.1 (G f.1.1) s f.1.2 f.2⟩)⟩⟩
  ·exact⟨_,_,⟨r,i,gj',v,rfl,.inr (.inl ⟨b,n,rfl,d.congr cj⟩)⟩,⟨q,j,gi',u,a,.inr (.inl ⟨c,li,rfl,g.congr ci⟩)⟩⟩
  exact⟨_,_,⟨r,i,gj',v,rfl,.inr (.inr ⟨b,n,rfl,fun lo=>(d lo).congr cj⟩)⟩,⟨q,j,gi',u,a,.inr (.inl ⟨c,li,rfl,g.congr ci⟩)⟩⟩
 rcases sj with ⟨b,rfl,d,s,z⟩|⟨b,n,rfl,d⟩|⟨b,n,rfl,d⟩
 ·exact⟨_,t,⟨_,i,gj',v,rfl,.inl ⟨b,rfl,d.congr cj,s,z.congr cj⟩⟩,⟨q,j,gi',u,a,.inr (.inr ⟨c,li,rfl,fun lo=>(g lo).congr ci⟩)⟩⟩
 ·exact⟨_,_,⟨r,i,gj',v,rfl,.inr (.inl ⟨b,n,rfl,d.congr cj⟩)⟩,⟨q,j,gi',u,a,.inr (.inr ⟨c,li,rfl,fun lo=>(g lo).congr ci⟩)⟩⟩
 exact⟨_,_,⟨r,i,gj',v,rfl,.inr (.inr ⟨b,n,rfl,fun lo=>(d lo).congr cj⟩)⟩,⟨q,j,gi',u,a,.inr (.inr ⟨c,li,rfl,fun lo=>(g lo).congr ci⟩)⟩⟩
def FH (ops:Array Oper) (listed:Array Bool):Prop:=∀(k:Nat) (ok:Oper),ops[k]? =some ok->listed.getD k false=true->∀ x∈ok.after,Region.binds .any x=true->listed.getD x.on false=true
theorem Td (l:Array Bool) (j k:Nat) (h:l.getD k false=true):(l.setIfInBounds j true).getD k false=true:=by
 rw[jX,Array.getElem?_setIfInBounds];split
 ·split<;>rename_i h2 h3
  ·rfl
  rw[jX]at h; subst h2; rw[Array.getElem?_eq_none (by omega)]at h; exact h
 rw[jX]at h; exact h
theorem FH.set {ops:Array Oper} {listed:Array Bool} (h:FH ops listed) {j:Nat} (i:j∈Region.ready .any ops listed):FH ops (listed.setIfInBounds j true):=by
 obtain⟨_,oj,b,a⟩:=mem_ready.1 i;intro k ok c d x f g;refine Td _ _ _ ?_;by_cases e:k=j
 ·subst e
  have:ok=oj:=Option.some.inj (c.symm.trans b);subst this;exact a x f g
 refine h k ok c ?_ x f g;rw[getD_set_ne false (fun e2=>e e2.symm)]at d
 exact d
theorem GC {ops:Array Oper} {listed:Array Bool} (h:FH ops listed) {i:Nat}:∀(f j:Nat) (oj:Oper),ops[j]? =some oj->(∀ x∈oj.after,Region.binds .any x=true->listed.getD x.on false=true)->Xf ops i f j=true->listed.getD i false=true
 | 0,_,_,_,_,b=>by simp[Xf]at b
 | f+1,j,oj,hj,ha,b=>by
  simp only[Xf,hj,jO]at b;rcases b with b|b
  ·obtain⟨x,c,a⟩:=Array.any_eq_true'.1 b
   simp only[ji,beq_iff_eq]at a;rw[← a.2];exact ha x c a.1
  obtain⟨x,c,a⟩:=Array.any_eq_true'.1 b;simp only[ji]at a;cases he:ops[x.on]? with
  | none=>
   cases f with
   | zero=>simp[Xf]at a
   | succ f=>simp[Xf,he]at a
  | some ox=>exact GC h f x.on ox he (fun y e d=>h x.on ox he (ha x c a.1) y e d) a.2
theorem BN {inl:List Nat} {m:Bool} {n0:Nat} {K:(Nat->FV)->List AObj->Prop} {i:Nat} {oi:Oper} (L:ops[i]? =some oi) :
  ∀(fuel:Nat) (listed:Array Bool) (e e1:Nat->FV) (lo b:List AObj),
   (∀ j oj,ops[j]? =some oj->j≠i->listed.getD j true=false->(∀ x∈oj.after,Region.binds .any x=true->x.on≠i)->Xf ops i ops.size j=false->oi.apart ops oj=true/\Ud inl m oi oj=true) ->
   FH ops listed->(m=true->n0<=lo.length)->i∈Region.ready .any ops listed->tU P inl inl m n0 N ops oi e lo e1 b ->
   qck P inl m n0 N ops K fuel (listed.setIfInBounds i true) e1 b->qck P inl m n0 N ops K (fuel+1) listed e lo:=by
 intro fuel
 induction fuel with
 | zero=>
  intro listed e e1 lo b _ _ _ f st H;refine⟨fun h=>(by rw[h]at f; cases f),fun j r=>?_⟩;by_cases a:j=i
  ·subst a; exact⟨oi,e1,b,L,st,H⟩
  have:=ready_mono r a;rw[H.1]at this;cases this
 | succ fuel ih=>
  intro listed e e1 lo b hfree s M f st H;refine⟨fun h=>(by rw[h]at f; cases f),fun j r=>?_⟩;by_cases a:j=i
  ·subst a; exact⟨oi,e1,b,L,st,H⟩
  obtain⟨oj,e2,B,d,C,h1⟩:=H.2 j (ready_mono r a);obtain⟨g,c,t,l⟩:=mem_ready.1 r;have:c=oj:=Option.some.inj (t.symm.trans d);subst this;have u:∀ x∈c.after,Region.binds .any x=true->x.on≠i:=fun x he O D=>by
   have h1:=l x he O;have v:=(mem_ready.1 f).1;rw[D]at h1;rcases Nat.lt_or_ge i listed.size with p|p
   ·simp[p]at v h1; rw[v]at h1; cases h1
   simp[Array.getElem?_eq_none p]at h1
  have q:Xf ops i ops.size j=false:=by
   cases E:Xf ops i ops.size j with
   | false=>rfl
   | true=>
    have h1:=GC s _ j c d l E;have v:=(mem_ready.1 f).1;rcases Nat.lt_or_ge i listed.size with p|p
    ·simp[p]at v h1; rw[v]at h1; cases h1
    simp[Array.getElem?_eq_none p]at h1
  obtain⟨F,G⟩:=hfree j c d a g u q;obtain⟨w,n,o,y⟩:=tU.swap M F G st C;refine⟨c,w,n,d,o,ih (listed.setIfInBounds j true) w e2 n B (fun k ok R I z J q=>?_) (s.set (ready_mono r a |> fun _=>r)) (o.grow M) (ready_mono f (Ne.symm a)) y ?_⟩
  ·refine hfree k ok R I ?_ J q
   by_cases A:j=k
   ·subst A; exact g
   rw[getD_set_ne true A]at z; exact z
  rw[Array.setIfInBounds_comm _ _ a];exact h1
theorem Gr {inl:List Nat} {m:Bool} {listed:Array Bool} {i:Nat} {oi:Oper} (e:ops[i]? =some oi) (h:Region.effFree inl m ops listed i=true) (j:Nat) (oj:Oper) (d:ops[j]? =some oj) (a:j≠i)
  (b:listed.getD j true=false) (c:Xf ops i ops.size j=false):Ud inl m oi oj=true:=by
 simp only[Region.effFree,e,List.all_eq_true,List.mem_range]at h;have h1:=h j (Array.getElem?_eq_some_iff.1 d).1;simp only[d,jO,beq_iff_eq,a,false_or,b,jP]at h1;rcases h1 with h1|h1
 ·rw[Ud,jO]; exact h1
 rw[c]at h1; cases h1
def leK (n0:Nat) (lo:List AObj) (R:Prop):Prop:=
 match n0 with
 | 0=>R
 | n0+1=>Fj lo 0 fun n=>match Nat.ble (n0+1) n with
  | true=>R
  | false=>False
def CU (P:Program) (inl:List Nat) (m:Bool) (n0 N:Nat) (all:List Oper) (o:Oper) (E:Env) (lo:List AObj) (R:Env->List AObj->Prop):Prop:=
 match m with
 | false=>ME P N all o E lo R
 | true=>qcc P inl n0 N all o E lo R
def LX (P:Program) (t:TypeId) (lo:List AObj) (R:FV->List AObj->Prop):Prop:=
 Rx P t fun z=>el z fun cs=>match VY cs with
  | true=>Fj lo 0 fun n=>VC lo (.box t cs) fun lo=>R (.ptr n 0) lo
  | false=>False
theorem Hs {o:Oper} {t:TypeId} (b:o.op=.alloc t) {E:Env} {lo:List AObj} {R:FV->List AObj->Prop} (h:LX P t lo R) :
  ∃ d e,R d (lo++[e])/\∀ a:List AObj,a.length=lo.length->gB P o (qW E) a none d (a++[e]):=by
 unfold LX at h;obtain⟨i,z,j,f,hz,h,c⟩:=XG h;have h:=Qj h;split at h
 ·rename_i h1
  have h:=vC h;have h:=gh h;refine⟨_,_,h,fun a g k Lw bs ρ H w eval s l=>?_⟩;simp only[execOp,b,Instr.alloc,kf,zeroValue,typeInfo,run_program,f,hz,Qq,ke,kg];refine⟨_,H,List.prefix_append _ _,PH.le.refl H,s.pushBox (t:=t) (xa.of_RepL (c H)),?_⟩;exact⟨w.heap.size,by simp[← g,← s.hlen],rfl⟩
 exact h.elim
def Ru (P:Program) (inl:List Nat) (m:Bool) (n0 N:Nat) (all:List Oper) (o:Oper) (E:Env) (lo:List AObj) (R:Env->List AObj->Prop):Prop:=
 match o.op with
 | .call { callee:=.value (.func f),args:=⟨xs⟩,argTypes:=_ }=>match Xw inl f with
  | true=>match o.guard with
   | none=>evL E none xs fun vs=>match Xw inl (86000000+f)with
    | false=>∃ r lo',zh P f vs lo (fun a b=>a=r/\b=lo')/\leK n0 lo' (Vz N o.dst r E fun E=>R E lo')
    | true=>match Xw inl (87000000+f)with
     | false=>∃ r l,zh P f vs lo (fun a b=>a=r/\b=lo++l)/\qet lo l fun lo'=>leK n0 lo' (Vz N o.dst r E fun E=>R E lo')
     | true=>∃ r k e z rows lo',lo[k]? =some (.vec e z rows)/\lo.set k .dead=lo'/\(∀ l,zh P f vs (lo++l) (fun a b=>a=r/\b=lo'++l))/\leK n0 lo' (Vz N o.dst r E fun E=>R E lo')
   | some _=>False
  | false=>CU P inl m n0 N all o E lo R
 | .call { callee:=.value (.tmp t),args:=⟨xs⟩,argTypes:=_ }=>match qc4 inl t with
  | true=>False
  | false=>CU P inl m n0 N all o E lo R
 | .buildSlice t n ⟨xl⟩=>match Ri inl o.dst with
  | true=>False
  | false=>CU P inl m n0 N all o E lo R
 | .alloc t=>match Ri inl o.dst with
  | true=>False
  | false=>match Ft inl o with
   | true=>(match o.guard with
    | none=>LX P t lo fun v lo=>Vz N o.dst v E fun E=>R E lo
    | some _=>False)
   | false=>CU P inl m n0 N all o E lo R
 | .convert _ _ _=>match Ri inl o.dst with
  | true=>False
  | false=>CU P inl m n0 N all o E lo R
 | .store t (.tmp a) x=>match Xw inl (50000000+a)with
  | true=>match o.guard with
   | none=>Ml P inl n0 t (.tmp a) x E lo fun v lo=>Vz N o.dst v E fun E=>R E lo
   | some _=>False
  | false=>CU P inl m n0 N all o E lo R
 | .load t x=>ev E x fun v=>match v with
  | .eptr k z i off=>False
  | .opt g' (.eptr k z i off)=>False
  | _=>CU P inl m n0 N all o E lo R
 | .build t ⟨xl⟩=>match qa1 inl o.dst with
  | true=>match o.guard with
   | none=>Ef P E none t xl fun v=>Vz N o.dst v E fun E=>R E lo
   | some _=>False
  | false=>CU P inl m n0 N all o E lo R
 | op=>match o.guard with
  | none=>aT P inl o.dst op E lo (CU P inl m n0 N all o E lo R) fun v lo=>Vz N o.dst v E fun E=>R E lo
  | some _=>CU P inl m n0 N all o E lo R
def Ln (P:Program) (inl:List Nat) (m:Bool) (n0 N:Nat) (all:List Oper) (K:Env->List AObj->Prop):List Oper->Env->List AObj->Prop
 | [],E,lo=>K E lo
 | o::rest,E,lo=>Ru P inl m n0 N all o E lo (Ln P inl m n0 N all K rest)
theorem En {n0:Nat} {lo:List AObj} {R:Prop} (h:leK n0 lo R):R/\n0<=lo.length:=by
 unfold leK at h;split at h
 ·exact⟨h,jS _⟩
 have h:=vC h;rw[jx]at h;split at h
 ·rename_i a; exact⟨h,jh a⟩
 exact h.elim
theorem XF {inl:List Nat} {m:Bool} {n0:Nat} {all:List Oper} {o:Oper} {E:Env} {lo:List AObj} {R:Env->List AObj->Prop} (h0:m=false->n0=0) (h:Ru P inl m n0 N all o E lo R) :
  ∃ E' lo',tU P inl inl m n0 N all.toArray o (qW E) lo (qW E') lo'/\R E' lo':=by
 have plain:gz inl o=rz o.op->mb inl o=false->nC inl o=false->Ft inl o=false->(CU P inl m n0 N all o E lo R)->∃ E' lo',tU P inl inl m n0 N all.toArray o (qW E) lo (qW E') lo'/\R E' lo':=by
  intro e hst L B h;cases m with
  | false=>
   obtain rfl:=h0 rfl;obtain⟨E',lo',st,h⟩:=Lm h;refine⟨E',lo',?_,h⟩;obtain⟨g,j,h1,h2,h3,h4⟩:=st;refine⟨g,j,h1,h2,h3,?_⟩;simp only[Xv]at h4;simp only[e];rcases h4 with ⟨a,b,c,d,_⟩|⟨a,b,c,d⟩|h4
   ·exact .inl ⟨a,b,c,(fun h=>by cases h),.no L B⟩
   ·exact .inr (.inl ⟨a,b,c,d.1,fun h=>by cases h⟩)
   exact .inr (.inr h4)
  | true=>
   obtain⟨E',lo',st,h⟩:=Rv hst h;refine⟨E',lo',?_,h⟩;obtain⟨g,j,h1,h2,h3,h4⟩:=st;refine⟨g,j,h1,h2,h3,?_⟩;simp only[Xv]at h4;simp only[e];rcases h4 with ⟨a,b,c,d,_⟩|h4|h4
   ·exact .inl ⟨a,b,c,d,.no L B⟩
   ·exact .inr (.inl h4)
   exact .inr (.inr h4)
 unfold Ru at h;split at h
 ·rename_i f xs p i
  split at h
  ·rename_i hm
   split at h
   ·rename_i C
    obtain⟨vs,h,hvs⟩:=ry h;have step:∀ lo r lo',zh P f vs lo (fun a b=>a=r/\b=lo')->gB P o (qW E) lo none r lo':=by
     intro lo r lo' A;intro _ Lw bs ρ H w eval s Y;have rl:=hvs ρ H eval trivial (fun x hm'=>Y x (by rw[i]; simp[kh,ki,hm']))
     have:=A bs ρ H w _ s rl;have hf:eval (.func f)=.func (.func f) #[] #[]:=by
      have:=Y (.func f) (by rw[i]; simp[kh,ki]);simpa[evF,qY,qO]using this
     simp only[execOp,i,resolve,Deferred.ofValue,invoke,hf,kf,kg,ke,kb,Array.empty_append,Array.append_empty];generalize (callFunc f (List.map eval xs).toArray).run P w=x at *;cases x with
     | ok n w'=>
      cases n<;>simp only at this<;>simp only[Lu]
      case value v=>
       obtain⟨r',lo2,af,rfl,rfl⟩:=this;exact af
      case enter f' args'=>
       obtain⟨rfl,hcc⟩:=this;exact hcc.mono fun en w'' ⟨v,r',lo2,e,af,e1,e2⟩=>by subst e1; subst e2; exact⟨v,e,af⟩
      all_goals exact this.elim
     | halt x w'=>exact this.elim
    have main:∀ r lo',zh P f vs lo (fun a b=>a=r/\b=lo')->Pr inl m n0 o lo lo'->(nC inl o=true->lo'.length=lo.length/\∀ l,zh P f vs (lo++l) (fun a b=>a=r/\b=lo'++l))->(Vz N o.dst r E fun E=>R E lo')->∃ E' lo',tU P inl inl m n0 N all.toArray o (qW E) lo (qW E') lo'/\R E' lo':=by
     intro r lo' A hef M h;obtain⟨D,E',F,h⟩:=uk h;exact⟨E',lo',⟨none,r,by simp[bH,C],D,F,.inl ⟨by simp[gz,i,hm],rfl,step lo r lo' A,hef,fun q=>⟨(M q).1,fun l=>step (lo++l) r (lo'++l) ((M q).2 l)⟩,fun Z=>by simp[Ft,i]at Z⟩⟩,h⟩
    split at h
    ·rename_i O
     obtain⟨r,lo',A,h⟩:=h;obtain⟨h,u⟩:=En h;exact main r lo' A (fun _ _=>⟨u,fun hmild=>by simp[i,Rh,HE,mb,O]at hmild⟩) (fun q=>by simp[nC,i,O]at q) h
    split at h
    ·rename_i h87
     obtain⟨r,l,A,h⟩:=h;have h:=Cj h;obtain⟨h,u⟩:=En h;refine main r (lo++l) A (fun _ Z=>⟨u,fun _ k ob q _=>?_⟩) (fun q=>by simp[nC,i,h87]at q) h
     rw[jB (Nat.lt_of_lt_of_le (CM q).1 Z)]
    obtain⟨r,k0,e,z,rows,lo',h0,rfl,A,h⟩:=h;obtain⟨h,u⟩:=En h;refine main r _ (by have:=A []; rwa [List.append_nil,List.append_nil]at this) (fun _ Z=>⟨u,fun _ k ob q O=>?_⟩) (fun _=>⟨List.length_set,A⟩) h;rw[jF];split
    ·rename_i e1
     subst e1;rw[h0]
     constructor
     ·intro e2; cases e2; cases O
     intro e2;split at e2
     ·cases e2; cases O
     cases e2
    ·exact Iff.rfl
   exact h.elim
  rename_i hm;exact plain (by simp only[gz,i,rz]; simpa using hm) (by simp[mb,i,hm]) (by simp[nC,i,hm]) (by simp[Ft,i]) h
 ·rename_i t xs p i
  split at h
  ·exact h.elim
  rename_i hm;exact plain (by simp only[gz,i,rz]; simpa using hm) (by simp[mb,i,hm]) (by simp[nC,i]) (by simp[Ft,i]) h
 ·rename_i t n xl i
  split at h
  ·exact h.elim
  rename_i hm;exact plain (by simp only[gz,i,rz]; simpa using hm) (by simp[mb,i]) (by simp[nC,i]) (by simp[Ft,i]) h
 ·rename_i t i
  split at h
  ·exact h.elim
  split at h
  ·split at h
   ·rename_i C
    obtain⟨j,ob,h,G⟩:=Hs i h;obtain⟨D,E',F,h⟩:=uk h;exact⟨E',_,⟨none,j,by simp[bH,C],D,F,.inl ⟨by simp[gz,i,rz],rfl,G lo rfl,xS.ok (fun _=>by simp[mb,i]) (xS.push _),fun q=>by simp[nC,i]at q,fun _=>⟨ob,rfl,G⟩⟩⟩,h⟩
   exact h.elim
  rename_i B;exact plain (by simp[gz,i]) (by simp[mb,i]) (by simp[nC,i]) (by simpa using B) h
 ·rename_i sr d x i
  split at h
  ·exact h.elim
  rename_i hm;exact plain (by simp only[gz,i,rz]; simpa using hm) (by simp[mb,i]) (by simp[nC,i]) (by simp[Ft,i]) h
 ·rename_i t a x i
  split at h
  ·rename_i hs0
   split at h
   ·rename_i C
    obtain⟨j,lo',h,S,G⟩:=Hv (m:=m) (n0:=n0) i h;obtain⟨D,E',F,h⟩:=uk h;exact⟨E',lo',⟨none,j,by simp[bH,C],D,F,.inl ⟨by simp[gz,i,rz],rfl,G,S,.no (by simp[nC,i]) (by simp[Ft,i])⟩⟩,h⟩
   exact h.elim
  rename_i hm;exact plain (by simp[gz,i]) (by simpa[mb,i]using hm) (by simp[nC,i]) (by simp[Ft,i]) h
 ·rename_i t x i
  rw[Cp]at h;split at h
  ·exact h.elim
  ·exact h.elim
  exact plain (by simp[gz,i]) (by simp[mb,i]) (by simp[nC,i]) (by simp[Ft,i]) h
 ·rename_i t xl i
  split at h
  ·split at h
   ·rename_i C
    obtain⟨j,h,G⟩:=Gv h;obtain⟨D,E',F,h⟩:=uk h;refine⟨E',lo,⟨none,j,by simp[bH,C],D,F,.inr (.inr ⟨by simp[gz,i,rz],by simp[i,Gu],rfl,?_⟩)⟩,h⟩;intro _ hg' Lw bs ρ H w eval s Y;obtain⟨v,S,rv⟩:=G hg' ρ H w eval (fun x hx'=>Y x (by rw[i]; simpa[kh]using hx'))
    simp only[execOp,i,kb];exact upon_value s S rv
   exact h.elim
  exact plain (by simp[gz,i]) (by simp[mb,i]) (by simp[nC,i]) (by simp[Ft,i]) h
 rename_i y I T U J K V X;have e1:gz inl o=rz o.op:=by
  unfold gz;split
  ·rename_i f xs p i; exact absurd i (y f xs.toList p)
  ·rename_i f xs p i; exact absurd i (I f xs.toList p)
  ·rename_i t n xl i; exact absurd i (T t n xl.toList)
  ·rename_i sr d x i; exact absurd i (J sr d x)
  rfl
 have e2:mb inl o=false:=by
  unfold mb;split
  ·rename_i t a x i; exact absurd i (K t a x)
  ·rename_i t xs p i; exact absurd i (I t xs.toList p)
  ·rename_i f xs p i; exact absurd i (y f xs.toList p)
  rfl
 have e3:nC inl o=false:=by
  unfold nC;split
  ·rename_i f xs p i; exact absurd i (y f xs.toList p)
  rfl
 have e4:Ft inl o=false:=by
  unfold Ft;split
  ·rename_i t i; first|exact absurd i (K t)|exact absurd i (J t)|exact absurd i (U t)|exact absurd i (V t)|exact absurd i (X t)
  rfl
 split at h
 ·rename_i C
  rcases Db h with h|⟨j,lo',h,he,hi,S,G⟩
  ·exact plain e1 e2 e3 e4 h
  obtain⟨D,E',F,h⟩:=uk h;exact⟨E',lo',⟨none,j,by simp[bH,C],D,F,.inl ⟨(hi o inl rfl).1,rfl,G o rfl,xS.ok (fun _=>e2) S,.no e3 e4⟩⟩,h⟩
 exact plain e1 e2 e3 e4 h
theorem MJ {inl:List Nat} {m:Bool} {n0:Nat} (a:m=false->n0=0) {K:(Nat->FV)->List AObj->Prop} {K':Env->List AObj->Prop} {all:List Oper} (i:∀ E lo,K' E lo->K (qW E) lo) :
  ∀(l:List Oper) (k:Nat) (listed:Array Bool) (E:Env) (lo:List AObj),(∀ j,l[j]? =all[k+j]?)->FH all.toArray listed->(m=true->n0<=lo.length) ->
  Region.lexFrom .any all.toArray l.length k listed=true->Region.effFrom inl m all.toArray l.length k listed=true->Ln P inl m n0 N all K' l E lo->qck P inl m n0 N all.toArray K l.length listed (qW E) lo
 | [],_,_,E,lo,_,_,_,hB,_,h=>⟨by simpa[Region.lexFrom]using hB,i E lo h⟩
 | o::l,k,listed,E,lo,hl,hcl,hn,hB,hF,h=>by
  have d:all.toArray[k]? =some o:=by have:=hl 0; simpa using this.symm
  simp only[ja,Region.lexFrom,Region.effFrom,ji]at hB hF;obtain⟨⟨n,hf⟩,e⟩:=hB;obtain⟨E',lo',st,h⟩:=XF a h;refine BN d l.length listed (qW E) (qW E') lo lo' (fun j oj p b c f g=>⟨Region.free_spec d hf j oj p b c f,Gr d hF.1 j oj p b c g⟩) hcl hn (by simpa using n) st ?_;exact MJ a i l (k+1) _ E' lo' (fun j=>by have:=hl (j+1); simpa[Nat.add_assoc,Nat.add_comm 1 j]using this) (hcl.set (by simpa using n)) (st.grow hn) e hF.2 h
theorem Ux {inl:List Nat} {c:Bool} {n0:Nat} {bs:(Base Lw)} {ρ:List Value} {H:(PH Lw)} {E:Env} {lo:List AObj} {a:Act} {w:World} {K:Env->List AObj->Prop} {id:Nat} {l:List Oper} (hm:P.follows .mixedOrders=true) (f:c=false->n0=0) (j:c=true->n0<=lo.length)
  (g:Hc inl c l.toArray=true) (n:∀ ρ H E lo a w,Sat bs N ρ H (qW E) lo a w->K E lo->Q .normal a w) (s:Sat bs N ρ H (qW E) lo a w) (h:Ln P inl c n0 N l K l E lo):(Code.region id l.toArray true).wp P Q a w:=by
 simp only[Hc,Go.Region.lexB,ji]at g;have s':Sat bs N ρ H (qW E) lo a { w with drawn:=w.drawn+1 }:=by
  refine{ (s.toSatW.calm (H':=H) (w':={ w with drawn:=w.drawn+1 }) ⟨PH.le.refl H,⟨s.sath.cell,s.sath.root,s.sath.low,s.sath.nf⟩,⟨rfl,rfl,rfl,jw _,fun _ _ _=>rfl⟩,fun b o v h=>.inl ⟨v,h⟩⟩)with slots:=s.slots,width:=s.width,defers:=s.defers }
 refine wp_region_any hm (Zd (inl:=inl) (m:=c) (n0:=n0) (K:=fun e lo=>∃ E,qW E=e/\K E lo) (fun ρ H e lo a w s ⟨E,p,d⟩=>n ρ H E lo a w (by rw[p]; exact s) d) _ _ ρ H (qW E) lo a _ s' ?_)
 have:=MJ (P:=P) (inl:=inl) (m:=c) (n0:=n0) (N:=N) f (K:=fun e lo=>∃ E,qW E=e/\K E lo) (K':=K) (fun E lo d=>⟨E,rfl,d⟩) l 0 (Array.replicate l.toArray.size false) E lo (by simp) (fun k ok d i=>by simp only[jX,Array.getElem?_replicate]at i; split at i<;>cases i) j (by simpa using g.1.2) (by simpa using g.2) h
 simpa using this
inductive Plan where
 | done
 | one (i:Nat) (p:Plan)
 | two (i:Nat) (p:Plan) (j:Nat) (q:Plan)
def CL (inl:List Nat) (m:Bool) (ops:Array Oper):Plan->Nat->Array Bool->Bool
 | .done,0,l=>(Region.ready .any ops l).isEmpty
 | .one i p,f+1,l=>(Region.ready .any ops l).contains i&&Region.free .any ops l i&&Region.effFree inl m ops l i&&CL inl m ops p f (l.setIfInBounds i true)
 | .two i p j q,f+1,l=>Region.ready .any ops l==[i,j]&&CL inl m ops p f (l.setIfInBounds i true)&&CL inl m ops q f (l.setIfInBounds j true)
 | _,_,_=>false
def Lo (P:Program) (inl:List Nat) (m:Bool) (n0 N:Nat) (ops:List Oper) (K:Env->List AObj->Prop):Plan->Env->List AObj->Prop
 | .done,E,lo=>K E lo
 | .one i p,E,lo=>Zm i ops fun o=>Ru P inl m n0 N ops o E lo (Lo P inl m n0 N ops K p)
 | .two i p j q,E,lo=>(Zm i ops fun o=>Ru P inl m n0 N ops o E lo (Lo P inl m n0 N ops K p))/\(Zm j ops fun o=>Ru P inl m n0 N ops o E lo (Lo P inl m n0 N ops K q))
theorem VH {inl:List Nat} {m:Bool} {n0:Nat} (a:m=false->n0=0) {K:(Nat->FV)->List AObj->Prop} {K':Env->List AObj->Prop} {all:List Oper} (n:∀ E lo,K' E lo->K (qW E) lo) :
  ∀(p:Plan) (f:Nat) (listed:Array Bool) (E:Env) (lo:List AObj),FH all.toArray listed->(m=true->n0<=lo.length) ->
  CL inl m all.toArray p f listed=true->Lo P inl m n0 N all K' p E lo->qck P inl m n0 N all.toArray K f listed (qW E) lo
 | .done,0,listed,E,lo,_,_,hB,h=>⟨by simpa[CL]using hB,n E lo h⟩
 | .one i p,f+1,listed,E,lo,hcl,hn,hB,h=>by
  simp only[CL,ji]at hB;obtain⟨⟨⟨b,hf⟩,x⟩,r⟩:=hB;obtain⟨o,c,h⟩:=xg h;have s:all.toArray[i]? =some o:=by simpa using c
  obtain⟨E',lo',st,h⟩:=XF a h;refine BN s f listed (qW E) (qW E') lo lo' (fun j oj v d g t u=>⟨Region.free_spec s hf j oj v d g t,Gr s x j oj v d g u⟩) hcl hn (by simpa using b) st ?_;exact VH a n p f _ E' lo' (hcl.set (by simpa using b)) (st.grow hn) r h
 | .two i p j q,f+1,listed,E,lo,hcl,hn,hB,h=>by
  simp only[CL,ji,beq_iff_eq]at hB;obtain⟨⟨b,hp⟩,y⟩:=hB;refine⟨fun e=>(by rw[b]at e; cases e),fun k l=>?_⟩;have w:=hcl.set l;rw[b]at l;have l:k=i\/k=j:=by simpa using l
  rcases l with rfl|rfl
  ·obtain⟨o,c,h⟩:=xg h.1
   obtain⟨E',lo',st,h⟩:=XF a h;exact⟨o,_,_,by simpa using c,st,VH a n p f _ E' lo' w (st.grow hn) hp h⟩
  obtain⟨o,c,h⟩:=xg h.2;obtain⟨E',lo',st,h⟩:=XF a h;exact⟨o,_,_,by simpa using c,st,VH a n q f _ E' lo' w (st.grow hn) y h⟩
 | .done,_+1,_,_,_,_,_,hB,_=>by simp[CL]at hB
 | .one ..,0,_,_,_,_,_,hB,_=>by simp[CL]at hB
 | .two ..,0,_,_,_,_,_,hB,_=>by simp[CL]at hB
def Dt (ops:Array Oper) (listed:Array Bool) (l:List Nat):Bool:=Region.ready .any ops listed==l
def LM (ops:Array Oper):Bool:=!(ops.size==4)||Dt ops #[false,false,false,false] [0]&&Dt ops #[true,false,false,false] [1,2]&&Dt ops #[true,true,false,false] [2]&&Dt ops #[true,false,true,false] [1] &&
 Dt ops #[true,true,true,false] [3]&&Dt ops #[true,true,true,true] []
def EE (P:Program) (inl:List Nat) (N:Nat) (ops:List Oper) (K:Env->List AObj->Prop) (E:Env) (lo:List AObj):Prop:=
 match ops with
 | [o0,o1,o2,o3]=>False
 | ops=>∃ p:Plan,CL inl true ops.toArray p ops.length (Array.replicate ops.length false)=true/\Fj lo 0 fun n0=>Lo P inl true n0 N ops K p E lo
theorem CV {inl:List Nat} {bs:(Base Lw)} {ρ:List Value} {H:(PH Lw)} {E:Env} {lo:List AObj} {a:Act} {w:World} {K:Env->List AObj->Prop} {id:Nat} {l:List Oper} (hm:P.follows .mixedOrders=true)
  (i:LM l.toArray=true) (f:∀ ρ H E lo a w,Sat bs N ρ H (qW E) lo a w->K E lo->Q .normal a w) (s:Sat bs N ρ H (qW E) lo a w) (h:EE P inl N l K E lo):(Code.region id l.toArray true).wp P Q a w:=by
 have s':Sat bs N ρ H (qW E) lo a { w with drawn:=w.drawn+1 }:=by
  refine{ (s.toSatW.calm (H':=H) (w':={ w with drawn:=w.drawn+1 }) ⟨PH.le.refl H,⟨s.sath.cell,s.sath.root,s.sath.low,s.sath.nf⟩,⟨rfl,rfl,rfl,jw _,fun _ _ _=>rfl⟩,fun b o v h=>.inl ⟨v,h⟩⟩)with slots:=s.slots,width:=s.width,defers:=s.defers }
 unfold EE at h;split at h
 ·exact h.elim
 obtain⟨p,hp,h⟩:=h;have h:=vC h;rw[jx]at h;refine wp_region_any hm (Zd (inl:=inl) (m:=true) (n0:=lo.length) (K:=fun e lo=>∃ E,qW E=e/\K E lo) (fun ρ H e lo a w s ⟨E,g,c⟩=>f ρ H E lo a w (by rw[g]; exact s) c) _ _ ρ H (qW E) lo a _ s' ?_)
 have:=VH (P:=P) (inl:=inl) (m:=true) (n0:=lo.length) (N:=N) (fun h=>by cases h) (K:=fun e lo=>∃ E,qW E=e/\K E lo) (K':=K) (fun E lo c=>⟨E,rfl,c⟩) p l.length (Array.replicate l.length false) E lo (fun k ok c d=>by simp only[jX,Array.getElem?_replicate]at d; split at d<;>cases d) (fun _=>jw _) hp h
 simpa using this
end
end Ax
end
section
namespace Ax
open Go
variable {Lw:Nat}
abbrev KA:=AX->Env->List AObj->Prop
def Rz (x:AX) (e:Exit):Prop:=
 match x,e with
 | .normal,.normal=>True
 | .exit i,.exit j=>i=j
 | .ret,.ret=>True
 | _,_=>False
def RW (bs:(Base Lw)) (N:Nat) (K:KA):Exit->Act->World->Prop:=fun e a w=>∃ x ρ H E lo,Rz x e/\Sat bs N ρ H (qW E) lo a w/\K x E lo
def mS (inl:List Nat):Code->Bool
 | .seq a b=>mS inl a&&mS inl b
 | .cond _ t e=>mS inl t&&mS inl e
 | .block _ c=>mS inl c
 | .loop c=>mS inl c
 | .region id ops d=>!d||(match Xw inl (90000000+id)with|true=>LM ops|false=>Hc inl (NA inl id) ops)
 | _=>true
def WpA (P:Program) (N nb:Nat) (c:Code) (K:KA) (E:Env) (lo:List AObj):Prop:=
 ∀ ⦃Lw:Nat⦄ (bs:(Base Lw)) (ρ:List Value) (H:(PH Lw)) (a:Act) (w:World),bs.r0.length=nb->Sat bs N ρ H (qW E) lo a w->c.wp P (RW bs N K) a w
def uh (P:Program) (inl:List Nat) (N nb:Nat) (body:Code) (K:KA) (E:Env) (lo:List AObj):Prop:=
 P.follows .mixedOrders=true->mS inl body=true->WpA P N nb (.loop body) K E lo
def rI (P:Program) (inl:List Nat) (N nb:Nat) (a b:Code) (K:KA) (E:Env) (lo:List AObj):Prop:=
 P.follows .mixedOrders=true->mS inl a=true->mS inl b=true->WpA P N nb (.seq a b) K E lo
def Cq (id:Nat):Code->Nat
 | .seq a b=>Cq id a+Cq id b
 | .cond _ t e=>Cq id t+Cq id e
 | .block _ c=>Cq id c
 | .loop c=>Cq id c
 | .exit i=>match Nat.beq i id with|true=>1|false=>0
 | _=>0
def Rw:Code->Nat
 | .seq a b=>match Rw a with|0=>0|_=>Rw b
 | .cond _ t e=>Rw t+Rw e
 | .block id c=>Rw c+Cq id c
 | .loop _=>0
 | .exit _=>0
 | .ret=>0
 | _=>1
def oJ:Code->Bool
 | .cond _ _ _=>true
 | .seq _ b=>oJ b
 | _=>false
def qfg (inl:List Nat) (a:Code):Bool:=match Xw inl 1000000 with
 | true=>(match Nat.ble 2 (Rw a)with
  | true=>true
  | false=>match Xw inl 1000001 with
   | true=>oJ a
   | false=>false)
 | false=>false
def vc (P:Program) (inl:List Nat) (N nb:Nat):Code->KA->Env->List AObj->Prop
 | .skip,K,E,lo=>K .normal E lo
 | .seq a b,K,E,lo=>match qfg inl a with
  | true=>rI P inl N nb a b K E lo
  | false=>vc P inl N nb a (fun x E lo=>match x with|.normal=>vc P inl N nb b K E lo|.exit i=>K (.exit i) E lo|.ret=>K .ret E lo) E lo
 | .cond c t e,K,E,lo=>ev E c fun v=>match v with
  | .p (.bool b)=>(b=true->vc P inl N nb t K E lo)/\(b=false->vc P inl N nb e K E lo)
  | _=>False
 | .block id c,K,E,lo=>vc P inl N nb c (fun x E lo=>match x with
   | .exit i=>(match Nat.beq i id with|true=>K .normal E lo|false=>K (.exit i) E lo)
   | .normal=>K .normal E lo
   | .ret=>K .ret E lo) E lo
 | .exit id,K,E,lo=>K (.exit id) E lo
 | .ret,K,E,lo=>K .ret E lo
 | .region id ⟨ops⟩ d,K,E,lo=>match d with
  | false=>Pn P inl N ops (K .normal) ops E lo
  | true=>match Xw inl (90000000+id)with
   | true=>EE P inl N ops (K .normal) E lo
   | false=>match NA inl id with
    | false=>Ln P inl false 0 N ops (K .normal) ops E lo
    | true=>Fj lo 0 fun n0=>Ln P inl true n0 N ops (K .normal) ops E lo
 | .loop body,K,E,lo=>uh P inl N nb body K E lo
 | c,K,E,lo=>WpA P N nb c K E lo
theorem RW.mono {bs:(Base Lw)} {N:Nat} {K K':KA} (h:∀ x E lo,K x E lo->K' x E lo) {e:Exit} {a:Act} {w:World} (p:RW bs N K e a w):RW bs N K' e a w:=
 let ⟨x,ρ,H,E,lo,hx,s,k⟩:=p
 ⟨x,ρ,H,E,lo,hx,s,h x E lo k⟩
theorem WpA.mono {P:Program} {N nb:Nat} {c:Code} {K K':KA} {E:Env} {lo:List AObj} (h:∀ x E lo,K x E lo->K' x E lo) (w:WpA P N nb c K E lo):WpA P N nb c K' E lo:=
 fun Lw bs ρ H a ww b s=>wp_mono (w bs ρ H a ww b s) fun _ _ _ p=>p.mono h
theorem gM {P:Program} {inl:List Nat} (hm:P.follows .mixedOrders=true) {N nb:Nat}:∀(c:Code) (K:KA) (E:Env) (lo:List AObj),mS inl c=true->vc P inl N nb c K E lo->WpA P N nb c K E lo
 | .skip,K,E,lo,_,h=>fun Lw bs ρ H a w f s=>wp_skip ⟨.normal,ρ,H,E,lo,trivial,s,h⟩
 | .seq x y,K,E,lo,hd,h=>fun Lw bs ρ H a w f s=>by
  simp only[mS,ji]at hd;simp only[vc]at h;split at h
  ·exact h hm hd.1 hd.2 bs ρ H a w f s
  refine wp_seq (wp_mono (gM hm x _ E lo hd.1 h bs ρ H a w f s) fun e a w p=>?_);obtain⟨u,ρ',H',E',lo',q,m,k⟩:=p;cases u<;>cases e<;>simp only[Rz]at q
  ·exact gM hm y K E' lo' hd.2 k bs ρ' H' a w f m
  ·exact⟨.exit _,ρ',H',E',lo',q,m,k⟩
  exact⟨.ret,ρ',H',E',lo',trivial,m,k⟩
 | .cond c t e,K,E,lo,hd,h=>fun Lw bs ρ H a w f s=>by
  simp only[mS,ji]at hd;simp only[vc,Cp]at h;have o:=Vr s.slots c;split at h
  ·rename_i b v
   rw[v]at o;exact wp_cond_split (rB o) (fun n=>gM hm t K E lo hd.1 (h.1 n) bs ρ H a w f s) (fun n=>gM hm e K E lo hd.2 (h.2 n) bs ρ H a w f s)
  exact h.elim
 | .block id c,K,E,lo,hd,h=>fun Lw bs ρ H a w f s=>by
  refine wp_block (wp_mono (gM hm c _ E lo hd h bs ρ H a w f s) fun e a w p=>?_);obtain⟨u,ρ',H',E',lo',q,m,k⟩:=p;cases u<;>cases e<;>simp only[Rz]at q
  ·exact⟨.normal,ρ',H',E',lo',trivial,m,k⟩
  ·rename_i i j
   subst q;simp only[Exit.inBlock];by_cases z:i=id
   ·subst z
    simp only[Nat.beq_refl]at k;simp only[if_true];exact⟨.normal,ρ',H',E',lo',trivial,m,k⟩
   have:Nat.beq i id=false:=by
    cases f:Nat.beq i id with
    | false=>rfl
    | true=>exact absurd (jm f) z
   simp only[this]at k;simp only[z,if_false];exact⟨.exit i,ρ',H',E',lo',rfl,m,k⟩
  exact⟨.ret,ρ',H',E',lo',trivial,m,k⟩
 | .exit id,K,E,lo,_,h=>fun Lw bs ρ H a w f s=>wp_exit ⟨.exit id,ρ,H,E,lo,rfl,s,h⟩
 | .ret,K,E,lo,_,h=>fun Lw bs ρ H a w f s=>wp_ret ⟨.ret,ρ,H,E,lo,trivial,s,h⟩
 | .region id ⟨ops⟩ d,K,E,lo,hd,h=>fun Lw bs ρ H a w f s=>by
  have r:∀ ρ H E lo a w,Sat bs N ρ H (qW E) lo a w->K .normal E lo->RW bs N K .normal a w:=fun ρ H E lo a w s k=>⟨.normal,ρ,H,E,lo,trivial,s,k⟩;cases d with
  | false=>exact BM (P:=P) (l:=ops) r s h
  | true=>
   have g:(match Xw inl (90000000+id)with|true=>LM ops.toArray|false=>Hc inl (NA inl id) ops.toArray)=true:=by simpa[mS]using hd
   simp only[vc]at h;split at h
   ·rename_i o
    rw[o]at g;exact CV hm g r s h
   rename_i o;rw[o]at g;replace g:Hc inl (NA inl id) ops.toArray=true:=g;split at h
   ·rename_i A
    rw[A]at g;exact Ux hm (fun _=>rfl) (fun h=>by cases h) g r s h
   rename_i A;rw[A]at g;have h:=vC h;rw[jx]at h;exact Ux hm (fun h=>by cases h) (fun _=>jw _) g r s h
 | .loop body,K,E,lo,hd,h=>h hm hd
 | .rangeFunc ..,K,E,lo,_,h=>h
 | .scope _,K,E,lo,_,h=>h
 | .label _,K,E,lo,_,h=>h
 | .goto _,K,E,lo,_,h=>h
 | .refuse _,K,E,lo,_,h=>h
def FV.ren (π:Nat->Nat):FV->FV
 | .opt g v=>.opt g (v.ren π)
 | .tsl k rows=>.tsl (π k) rows
 | .ptr k off=>.ptr (π k) off
 | .bself k=>.bself (π k)
 | .bsl k off len cp=>.bsl (π k) off len cp
 | .vsl k n=>.vsl (π k) n
 | .eptr k z i off=>.eptr (π k) z i off
 | .mref k=>.mref (π k)
 | .pair a b=>.pair (a.ren π) (b.ren π)
 | .stmp k=>.stmp (π k)
 | .clo f c=>.clo f (c.ren π)
 | .cap a b=>.cap (a.ren π) (b.ren π)
 | .fagg c=>.fagg (c.ren π)
 | .asl k off n=>.asl (π k) off n
 | .ifs t c=>.ifs t (c.ren π)
 | v=>v
def leF (π:Nat->Nat) (fresh:List Nat) (v v':FV):Prop:=
 match v' with
 | .top=>True
 | .p p'=>match v with
  | .p p=>p=p'\/nle p p'
  | .tsl _ rows=>PV.sl rows=p'
  | .clo f c=>UU c fun cs=>PV.clo f cs=p'
  | .fagg c=>UU c fun cs=>PV.agg cs=p'
  | _=>False
 | .tsl k' rows'=>match v with
  | .tsl k rows=>k=π k'/\rows=rows'/\k' ∉ fresh
  | .p .nilsl=>rows'=[]/\k'∈fresh
  | _=>False
 | .ptr k' off'=>match v with
  | .ptr k off=>k=π k'/\off=off'/\k' ∉ fresh
  | _=>False
 | .bself k'=>match v with
  | .bself k=>k=π k'/\k' ∉ fresh
  | .ptr k off=>k=π k'/\off=0/\k' ∉ fresh
  | _=>False
 | .bsl k' off' len' cap'=>match v with
  | .bsl k off len cap=>k=π k'/\off=off'/\len=len'/\cap=cap'/\k' ∉ fresh
  | _=>False
 | .hptr row'=>match v with
  | .hptr row=>row=row'
  | _=>False
 | .vsl k' n'=>match v with
  | .vsl k n=>k=π k'/\n=n'/\k' ∉ fresh
  | .p .nilsl=>n'=0/\k'∈fresh
  | _=>False
 | .eptr k' z' i' off'=>match v with
  | .eptr k z i off=>k=π k'/\z=z'/\i=i'/\off=off'/\k' ∉ fresh
  | _=>False
 | .mref k'=>match v with
  | .mref k=>k=π k'/\k' ∉ fresh
  | _=>False
 | .pair a' b'=>match v with
  | .pair a b=>leF π fresh a a'/\leF π fresh b b'
  | _=>False
 | .stmp k'=>match v with
  | .stmp k=>k=π k'/\k' ∉ fresh
  | _=>False
 | .clo f' c'=>match v with
  | .clo f c=>f=f'/\leF π fresh c c'
  | _=>False
 | .cap0=>match v with
  | .cap0=>True
  | _=>False
 | .cap a' b'=>match v with
  | .cap a b=>leF π fresh a a'/\leF π fresh b b'
  | _=>False
 | .fagg c'=>match v with
  | .fagg c=>leF π fresh c c'
  | _=>False
 | .nxt ok' a' b'=>match v with
  | .nxt ok a b=>ok=ok'/\a=a'/\b=b'
  | _=>False
 | .asl k' off' n'=>match v with
  | .asl k off n=>k=π k'/\off=off'/\n=n'/\k' ∉ fresh
  | _=>False
 | .ifs t' c'=>match v with
  | .ifs t c=>t=t'/\leF π fresh c c'
  | _=>False
 | .cut rows'=>match v with
  | .cut rows=>rows=rows'
  | _=>False
 | .opt _ _=>False
def leC (π:Nat->Nat) (fresh:List Nat) (k':Nat) (v v':FV):Prop:=
 match v,v' with
 | .p .nilp,.bself k=>k=k'/\k ∉ fresh
 | v,v'=>leF π fresh v v'
def cq (π:Nat->Nat) (fresh:List Nat) (k':Nat) (o o':AObj):Prop:=
 match o' with
 | .dead=>True
 | .box t' cells'=>match o with
  | .box t cells=>t=t'/\cells.length=cells'.length/\∀(i:Nat) (c a:FV),cells[i]? =some c->cells'[i]? =some a->leC π fresh k' c a
  | _=>False
 | .tail e z n=>o=.tail e z n
 | .vec e z rows=>o=.vec e z rows
 | .mp d es mk'=>mk'=none/\∃ mk,o=.mp d es mk
 | .sit l p=>o=.sit l p
 | .bv l=>o=.bv l
 | .vl e z rows j k'=>k' ∉ fresh/\o=.vl e z rows j (π k')
 | .pbx t' a=>match o with
  | .pbx t c=>t=t'/\leF π fresh c a
  | _=>False
structure Weak (nb:Nat) (E:Env) (lo:List AObj) (E':Env) (lo':List AObj) (π:Nat->Nat) (fresh:List Nat):Prop where
 bounds:∀ k,k<lo'.length->k ∉ fresh->π k<lo.length
 keep:∀ k,k<nb->π k=k/\k ∉ fresh
 nb:nb<=lo'.length
 inj:∀ i j oi oj,lo'[i]? =some oi->lo'[j]? =some oj->oi.live=true->oj.live=true->i ∉ fresh->j ∉ fresh->π i=π j->i=j
 frsh:∀ k,k∈fresh->∃ e z,lo'[k]? =some (.tail e z 0)\/lo'[k]? =some (.vec e z [])\/∃ j k2,lo'[k]? =some (.vl e z [] j k2)
 obj:∀ k o',lo'[k]? =some o'->k ∉ fresh->∃ o,lo[π k]? =some o/\cq π fresh k o o'
 slot:∀ t v,(t,v)∈E'->leF π fresh (qW E t) v
theorem Hy:∀{E:Env} {t:Nat},qW E t=.top\/(t,qW E t)∈E
 | [],t=>.inl rfl
 | (t',v)::E,t=>by
  simp only[qW];cases a:Nat.beq t t' with
  | true=>
   have:=jm a;subst this;exact .inr (by simp)
  | false=>
   rcases Hy (E:=E) (t:=t)with h|h
   ·exact .inl h
   exact .inr (by simp[h])
def Ls (ρ:List Value) (π:Nat->Nat) (fresh:List Nat) (n:Nat):List Value:=(List.range n).map fun k=>if k∈fresh then .slice none 0 0 else ρ.getD (π k) undef
theorem gK {ρ:List Value} {π:Nat->Nat} {fresh:List Nat} {n k:Nat} (h:k<n):(Ls ρ π fresh n)[k]? =some (if k∈fresh then .slice none 0 0 else ρ.getD (π k) undef):=by
 simp[Ls,h]
def FV.names:FV->List Nat
 | .opt _ v=>v.names
 | .tsl k _=>[k]
 | .ptr k _=>[k]
 | .bself k=>[k]
 | .bsl k _ _ _=>[k]
 | .vsl k _=>[k]
 | .eptr k _ _ _=>[k]
 | .mref k=>[k]
 | .pair a b=>a.names++b.names
 | .stmp k=>[k]
 | .clo _ c=>c.names
 | .fagg c=>c.names
 | .asl k _ _=>[k]
 | .ifs _ c=>c.names
 | .cap a b=>a.names++b.names
 | _=>[]
theorem Em {ρ:List Value} {H:(PH Lw)} {π:Nat->Nat} {fresh:List Nat} {n:Nat} {v v':FV} {x:Value} (h:leF π fresh v v') (f:∀ k∈v'.names,k<n) (r:qY ρ H v x) :
  qY (Ls ρ π fresh n) H v' x:=by
 induction v' generalizing v x with
 | top=>trivial
 | p p'=>
  cases v<;>simp only[leF]at h
  ·rename_i p
   rcases h with rfl|h
   ·exact r
   exact Ge h r
  ·subst h; exact r.2
  ·obtain⟨s,e,l⟩:=Qf h
   subst e;obtain⟨vs,e,r⟩:=r;simp only[qY,qO];exact⟨vs,e,l _ _ _ r⟩
  obtain⟨s,e,l⟩:=Qf h;subst e;obtain⟨vs,e,r⟩:=r;simp only[qY,qO];exact⟨vs,e,l _ _ _ r⟩
 | opt g v' _=>simp[leF]at h
 | tsl k' rows'=>
  have a:=f k' (by simp[FV.names]);cases v<;>simp only[leF]at h
  ·rename_i p
   cases p<;>simp only at h;obtain⟨rfl,hf⟩:=h;simp only[qY,qO]at r ⊢;subst r;exact⟨by rw[gK a]; simp[hf],.inl ⟨trivial,.inl rfl⟩⟩
  rename_i k rows;obtain⟨rfl,rfl,hf⟩:=h;obtain⟨d,j⟩:=r;refine⟨?_,j⟩;rw[gK a];simp[hf,List.getD_eq_getElem?_getD,d]
 | ptr k' off'=>
  have a:=f k' (by simp[FV.names]);cases v<;>simp only[leF]at h;rename_i k off;obtain⟨rfl,rfl,hf⟩:=h;obtain⟨b,d,j⟩:=r;refine⟨b,?_,j⟩;rw[gK a];simp[hf,List.getD_eq_getElem?_getD,d]
 | hptr row=>
  cases v<;>simp only[leF]at h;rw[h]at r;exact r
 | bself k'=>
  have a:=f k' (by simp[FV.names]);cases v<;>simp only[leF]at h
  ·rename_i k off
   obtain⟨rfl,rfl,hf⟩:=h;obtain⟨b,d,rfl⟩:=r;refine⟨b,?_,.inr rfl⟩;rw[gK a];simp[hf,List.getD_eq_getElem?_getD,d]
  rename_i k;obtain⟨rfl,hf⟩:=h;obtain⟨b,d,j⟩:=r;refine⟨b,?_,j⟩;rw[gK a];simp[hf,List.getD_eq_getElem?_getD,d]
 | bsl k' off' len' cap'=>
  have a:=f k' (by simp[FV.names]);cases v<;>simp only[leF]at h;rename_i k off len cap;obtain⟨rfl,rfl,rfl,rfl,hf⟩:=h;obtain⟨b,d,j⟩:=r;refine⟨b,?_,j⟩;rw[gK a];simp[hf,List.getD_eq_getElem?_getD,d]
 | vsl k' n'=>
  have a:=f k' (by simp[FV.names]);cases v<;>simp only[leF]at h
  ·rename_i p
   cases p<;>simp only at h;obtain⟨rfl,hf⟩:=h;simp only[qY,qO]at r ⊢;subst r;exact⟨by rw[gK a]; simp[hf],.inl ⟨trivial,rfl⟩⟩
  rename_i k n;obtain⟨rfl,rfl,hf⟩:=h;obtain⟨d,j⟩:=r;refine⟨?_,j⟩;rw[gK a];simp[hf,List.getD_eq_getElem?_getD,d]
 | eptr k' z' i' off'=>
  have a:=f k' (by simp[FV.names]);cases v<;>simp only[leF]at h;rename_i k z i off;obtain⟨rfl,rfl,rfl,rfl,hf⟩:=h;obtain⟨b,n,cap,d,rfl⟩:=r;refine⟨b,n,cap,?_,rfl⟩;rw[gK a];simp[hf,List.getD_eq_getElem?_getD,d]
 | mref k'=>
  have a:=f k' (by simp[FV.names]);cases v<;>simp only[leF]at h;rename_i k;obtain⟨rfl,hf⟩:=h;obtain⟨b,d,j⟩:=r;refine⟨b,?_,j⟩;rw[gK a];simp[hf,List.getD_eq_getElem?_getD,d]
 | pair a' b' iha ihb=>
  cases v<;>simp only[leF]at h;obtain⟨u,w,rfl,o,q⟩:=r;exact⟨u,w,rfl,iha h.1 (fun k a=>f k (by simp[FV.names,a])) o,ihb h.2 (fun k a=>f k (by simp[FV.names,a])) q⟩
 | stmp k'=>
  have a:=f k' (by simp[FV.names]);cases v<;>simp only[leF]at h;rename_i k;obtain⟨rfl,hf⟩:=h;simp only[qY]at r ⊢;rw[gK a];simp[hf,List.getD_eq_getElem?_getD,r]
 | clo f' c' ih=>
  cases v<;>simp only[leF]at h;obtain⟨rfl,h⟩:=h;obtain⟨vs,rfl,rc⟩:=r;exact⟨vs,rfl,ih h (fun k a=>f k (by simp[FV.names,a])) rc⟩
 | cap0=>
  cases v<;>simp only[leF]at h;exact r
 | fagg c' ih=>
  cases v<;>simp only[leF]at h;obtain⟨vs,rfl,rc⟩:=r;exact⟨vs,rfl,ih h (fun k a=>f k (by simp[FV.names,a])) rc⟩
 | nxt ok' a' b'=>
  cases v<;>simp only[leF]at h;obtain⟨rfl,rfl,rfl⟩:=h;exact r
 | ifs t' c' ih=>
  cases v<;>simp only[leF]at h;obtain⟨rfl,h⟩:=h;obtain⟨u,rfl,rc⟩:=r;exact⟨u,rfl,ih h (fun k a=>f k (by simp[FV.names,a])) rc⟩
 | cut rows'=>
  cases v<;>simp only[leF]at h;subst h;exact r
 | asl k' off' n'=>
  have a:=f k' (by simp[FV.names]);cases v<;>simp only[leF]at h;rename_i k off n;obtain⟨rfl,rfl,rfl,hf⟩:=h;obtain⟨b,m,cap,c,d,rfl⟩:=r;refine⟨b,m,cap,c,?_,rfl⟩;rw[gK a];simp[hf,List.getD_eq_getElem?_getD,d]
 | cap a' b' iha ihb=>
  cases v<;>simp only[leF]at h;obtain⟨u,w,rfl,o,q⟩:=r;exact⟨u,w,rfl,iha h.1 (fun k a=>f k (by simp[FV.names,a])) o,ihb h.2 (fun k a=>f k (by simp[FV.names,a])) q⟩
theorem qbd {ρ:List Value} {H:(PH Lw)} {π:Nat->Nat} {fresh:List Nat} {n k' b:Nat} {v v':FV} {x:Value} (a:(Ls ρ π fresh n)[k']? =some (.pointer (some ⟨b,0,none⟩))) (h:leC π fresh k' v v') (c:∀ k∈v'.names,k<n) (r:qY ρ H v x) :
  qY (Ls ρ π fresh n) H v' x:=by
 unfold leC at h;split at h
 ·obtain⟨rfl,_⟩:=h
  simp only[qY,qO]at r;exact⟨b,a,.inl r⟩
 exact Em h c r
theorem xa.le {ρ:List Value} {H:(PH Lw)} {π:Nat->Nat} {fresh:List Nat} {n k' b:Nat} (f:(Ls ρ π fresh n)[k']? =some (.pointer (some ⟨b,0,none⟩))):∀{cs a:List FV} {vs:List Value},cs.length=a.length ->
  (∀(i:Nat) (c d:FV),cs[i]? =some c->a[i]? =some d->leC π fresh k' c d)->(∀ c∈a,∀ k∈c.names,k<n)->xa ρ H cs vs->xa (Ls ρ π fresh n) H a vs
 | [],[],vs,_,_,_,r=>r
 | [],_::_,_,h,_,_,_=>by simp at h
 | _::_,[],_,h,_,_,_=>by simp at h
 | c::cs,d::a,vs,hl,hle,hn,r=>by
  obtain⟨v,e,rfl,g,rs⟩:=r;exact⟨v,e,rfl,qbd f (hle 0 c d rfl rfl) (hn d (by simp)) g,xa.le f (by simpa using hl) (fun i=>hle (i+1)) (fun c j=>hn c (by simp[j])) rs⟩
def ik (E:Env) (lo:List AObj):Prop:=(∀ t v,(t,v)∈E->∀ k∈v.names,k<lo.length)/\(∀ t cells,AObj.box t cells∈lo->∀ c∈cells,∀ k∈c.names,k<lo.length)/\(∀ e z rows j k,AObj.vl e z rows j k∈lo->k<lo.length)/\∀ t c,AObj.pbx t c∈lo->∀ k∈c.names,k<lo.length
theorem Sat.weak {bs:(Base Lw)} {N:Nat} {ρ:List Value} {H:(PH Lw)} {E E':Env} {lo lo':List AObj} {a:Act} {w:World} {π:Nat->Nat} {fresh:List Nat} (s:Sat bs N ρ H (qW E) lo a w)
  (h:Weak bs.r0.length E lo E' lo' π fresh) (K:ik E' lo'):Sat bs N (Ls ρ π fresh lo'.length) H (qW E') lo' a w:=by
 have get:∀{k:Nat} {v:Value},(Ls ρ π fresh lo'.length)[k]? =some v->k<lo'.length/\((k∈fresh/\v=.slice none 0 0)\/(k ∉ fresh/\ρ[π k]? =some v)):=by
  intro k v q;have r:k<lo'.length:=by have:=(jG.1 q).1; simpa[Ls]using this
  rw[gK r]at q;refine⟨r,?_⟩;by_cases hf:k∈fresh
  ·simp[hf]at q; exact .inl ⟨hf,q.symm⟩
  simp only[hf,if_false]at q;refine .inr ⟨hf,?_⟩;have:=h.bounds k r hf;rw[← s.hlen]at this;rw[List.getD_eq_getElem?_getD,jf this]at q;rw[jf this];simpa using q
 refine{ sath:=s.sath,hlen:=by simp[Ls],pre:=?_,objs:=?_,excl:=?_,own:=?_,keep:=s.keep,leH:=s.leH,newH:=s.newH,slots:=?_,width:=s.width,defers:=s.defers }
 ·obtain⟨l,y⟩:=s.pre
  have hlen:bs.r0.length<=lo'.length:=h.nb;have:(Ls ρ π fresh lo'.length).take bs.r0.length=bs.r0:=by
   refine List.ext_getElem? fun i=>?_;rw[jE];split
   ·rename_i A
    rw[gK (by omega)];obtain⟨e1,e2⟩:=h.keep i A;simp only[e2,if_false,e1];rw[List.getD_eq_getElem?_getD,← y,jB A,jf A];rfl
   rename_i A;rw[List.getElem?_eq_none (by omega)]
  rw[← this];exact List.take_prefix _ _
 ·intro k o v r q
  obtain⟨hlt,L⟩:=get q;rcases L with ⟨hf,rfl⟩|⟨hf,hρ⟩
  ·obtain⟨e,z,he⟩:=h.frsh k hf
   rw[r]at he;rcases he with he|he|⟨j,k2,he⟩
   ·cases he
    exact⟨[],World.ownsRow_nil w 0 e z,fun b x=>by simp[qR]at x⟩
   ·cases he
    exact⟨[],World.ownsRow_nil w 0 e z,rfl,fun u hu=>(by cases hu),fun b x=>by simp[qR]at x⟩
   cases he;exact⟨[],World.ownsRow_nil w 0 e z,rfl,fun u hu=>(by cases hu),fun b x=>by simp[qR]at x,fun u hu=>by simp at hu⟩
  obtain⟨Z,M,f⟩:=h.obj k o r hf;have g:=s.objs _ _ _ M hρ;cases o with
  | dead=>trivial
  | box t' cells'=>
   cases Z<;>simp only[cq]at f;rename_i t cells;obtain⟨rfl,y,B⟩:=f;obtain⟨b,vs,rfl,F,rc,O⟩:=g;exact⟨b,vs,rfl,F,rc.le q y B (fun c L k P=>K.2.1 _ _ (List.mem_of_getElem? r) c L k P),O⟩
  | tail e z n=>
   simp only[cq]at f;subst f;exact g
  | vec e z rows=>
   simp only[cq]at f;subst f;exact g
  | mp d es mk'=>
   simp only[cq]at f;obtain⟨rfl,mk,rfl⟩:=f;obtain⟨b,ents,clock,rfl,F,C,⟨h1,h2,_⟩,Q⟩:=g;exact⟨b,ents,clock,rfl,F,C,⟨h1,h2,fun key s e=>by cases e⟩,Q⟩
  | sit l p=>
   simp only[cq]at f;subst f;exact g
  | bv l=>
   simp only[cq]at f;subst f;exact g
  | vl e z rows j k'=>
   simp only[cq]at f;obtain⟨R,rfl⟩:=f;obtain⟨xs,ho,C,h1,Q,y⟩:=g;refine⟨xs,ho,C,h1,Q,fun u hu=>?_⟩;rw[gK (K.2.2.1 _ _ _ _ _ (List.mem_of_getElem? r))];simp[R,List.getD_eq_getElem?_getD,y u hu]
  | pbx t' c'=>
   cases Z<;>simp only[cq]at f;rename_i t c;obtain⟨rfl,B⟩:=f;obtain⟨b,u,us,rfl,F,rc,O⟩:=g;exact⟨b,u,us,rfl,F,Em B (K.2.2.2 _ _ (List.mem_of_getElem? r)) rc,O⟩
 ·intro i j oi oj vi vj b A hj S T U G I x J
  obtain⟨h1,V⟩:=get S;obtain⟨h2,c2⟩:=get T;rcases V with ⟨_,rfl⟩|⟨f1,X⟩
  ·simp[qR]at x
  rcases c2 with ⟨_,rfl⟩|⟨f2,r2⟩
  ·simp[qR]at J
  obtain⟨o1,D,m⟩:=h.obj i oi A f1;obtain⟨o2,Y,l2⟩:=h.obj j oj hj f2;have live:∀{k:Nat} {o o':AObj},cq π fresh k o o'->o'.live=true->o.live=true:=by
   intro k o o' f y;cases o' with
   | dead=>simp[AObj.live]at y
   | box t c=>cases o<;>simp only[cq]at f; rfl
   | tail e z n=>simp only[cq]at f; subst f; rfl
   | vec e z n=>simp only[cq]at f; subst f; rfl
   | mp d es mk=>simp only[cq]at f; obtain⟨_,_,rfl⟩:=f; rfl
   | sit l p=>simp only[cq]at f; subst f; rfl
   | bv l=>simp only[cq]at f; subst f; rfl
   | vl e z rows j k'=>simp only[cq]at f; obtain⟨_,rfl⟩:=f; rfl
   | pbx t c=>cases o<;>simp only[cq]at f; rfl
  exact s.excl (π i) (π j) o1 o2 vi vj b D Y X r2 (fun e=>U (h.inj i j oi oj A hj G I f1 f2 e)) (live m G) (live l2 I) x J
 ·intro k o v b r q y x
  obtain⟨h1,V⟩:=get q;rcases V with ⟨_,rfl⟩|⟨f1,X⟩
  ·simp[qR]at x
  obtain⟨o1,D,m⟩:=h.obj k o r f1;refine s.own (π k) o1 v b D X ?_ x;cases o with
  | dead=>simp[AObj.live]at y
  | box t c=>cases o1<;>simp only[cq]at m; rfl
  | tail e z n=>simp only[cq]at m; subst m; rfl
  | vec e z n=>simp only[cq]at m; subst m; rfl
  | mp d es mk=>simp only[cq]at m; obtain⟨_,_,rfl⟩:=m; rfl
  | sit l p=>simp only[cq]at m; subst m; rfl
  | bv l=>simp only[cq]at m; subst m; rfl
  | vl e z rows j k'=>simp only[cq]at m; obtain⟨_,rfl⟩:=m; rfl
  | pbx t c=>cases o1<;>simp only[cq]at m; rfl
 ·intro t
  rcases Hy (E:=E') (t:=t)with he|he
  ·rw[he]; trivial
  exact Em (h.slot t _ he) (K.1 t _ he) (s.slots t)
end Ax
end
section
namespace Ax
open Go
variable {Lw:Nat}
def Ra (E:Env) (π:Nat->Nat) (fresh:List Nat):Env->Prop
 | []=>True
 | (t,v)::E'=>ef E t (fun u=>leF π fresh u v)/\Ra E π fresh E'
def Gb (π:Nat->Nat) (fresh:List Nat) (k':Nat):List FV->List FV->Prop
 | [],[]=>True
 | c::cs,c'::cs'=>leC π fresh k' c c'/\Gb π fresh k' cs cs'
 | _,_=>False
def lO (π:Nat->Nat) (fresh:List Nat) (k':Nat) (o o':AObj):Prop:=
 match o' with
 | .dead=>True
 | .box t' cells'=>match o with
  | .box t cells=>t=t'/\Gb π fresh k' cells cells'
  | _=>False
 | .tail e z n=>match o with
  | .tail e' z' n'=>e'=e/\z'=z/\n'=n
  | _=>False
 | .vec e z rows=>match o with
  | .vec e' z' rows'=>e'=e/\z'=z/\rows'=rows
  | _=>False
 | .mp d es mk=>match o with
  | .mp d' es' _=>mk=none/\d'=d/\es'=es
  | _=>False
 | .sit l p=>match o with
  | .sit l' p'=>l'=l/\p'=p
  | _=>False
 | .bv l=>match o with
  | .bv l'=>l'=l
  | _=>False
 | .vl e z rows j k'=>match o with
  | .vl e' z' rows' j2 k=>k' ∉ fresh/\e'=e/\z'=z/\rows'=rows/\j2=j/\k=π k'
  | _=>False
 | .pbx t' c'=>match o with
  | .pbx t c=>t=t'/\leF π fresh c c'
  | _=>False
def BI (lo:List AObj) (π:Nat->Nat) (fresh:List Nat):Nat->List AObj->Prop
 | _,[]=>True
 | k,o'::lo'=>(match fresh.contains k with
   | true=>match o' with|.tail _ _ n=>n=0|.vec _ _ rows=>rows=[]|.vl _ _ rows _ _=>rows=[]|_=>False
   | false=>Zm (π k) lo fun o=>lO π fresh k o o')/\BI lo π fresh (k+1) lo'
def πOf (l:List Nat):Nat->Nat:=fun k=>l.getD k 0
def lC (nb:Nat) (l fresh:List Nat):Bool:=
 decide (nb<=l.length)&&(List.range nb).all (fun k=>l.getD k 0==k&&!fresh.contains k) &&
 (List.range l.length).all (fun i=>(List.range l.length).all fun j=>fresh.contains i||fresh.contains j||l.getD i 0 != l.getD j 0||i==j) &&
 fresh.all (fun k=>decide (k<l.length))
def qdj:AObj->Bool
 | .dead=>true
 | _=>false
def az:List AObj->Nat->Bool
 | [],_=>false
 | a::_,0=>qdj a
 | _::l,i+1=>az l i
theorem UX {o:AObj} (b:o.live=true):∀{l:List AObj} {i:Nat},l[i]? =some o->az l i=false
 | [],_,h=>by simp at h
 | a::l,0,h=>by
  simp at h; subst h;cases a<;>first|rfl|(simp[AObj.live]at b)
 | a::l,i+1,h=>by
  simp at h;exact UX (l:=l) (i:=i) b h
def ov (nb:Nat) (l fresh:List Nat) (lo:List AObj):Bool:=
 decide (nb<=l.length)&&(List.range nb).all (fun k=>l.getD k 0==k&&!fresh.contains k) &&
 (List.range l.length).all (fun i=>(List.range l.length).all fun j=>fresh.contains i||fresh.contains j||l.getD i 0 != l.getD j 0||i==j||az lo i||az lo j) &&
 fresh.all (fun k=>decide (k<l.length))
def cU (n:Nat):FV->Bool
 | .opt _ v=>cU n v
 | .tsl k _=>decide (k<n)
 | .ptr k _=>decide (k<n)
 | .bself k=>decide (k<n)
 | .bsl k _ _ _=>decide (k<n)
 | .vsl k _=>decide (k<n)
 | .eptr k _ _ _=>decide (k<n)
 | .mref k=>decide (k<n)
 | .pair a b=>cU n a&&cU n b
 | .stmp k=>decide (k<n)
 | .asl k _ _=>decide (k<n)
 | .ifs _ c=>cU n c
 | .clo _ c=>cU n c
 | .fagg c=>cU n c
 | .cap a b=>cU n a&&cU n b
 | _=>true
def Dh (n:Nat):Env->Bool
 | []=>true
 | (_,v)::E=>cU n v&&Dh n E
def Gy (n:Nat):List FV->Bool
 | []=>true
 | v::l=>cU n v&&Gy n l
def bY (n:Nat):List AObj->Bool
 | []=>true
 | .box _ cells::l=>Gy n cells&&bY n l
 | .vl _ _ _ _ k::l=>decide (k<n)&&bY n l
 | .pbx _ c::l=>cU n c&&bY n l
 | _::l=>bY n l
def Fg (nb:Nat) (E:Env) (lo:List AObj) (E':Env) (lo':List AObj):Prop:=
 ∃ l fresh:List Nat,(ov nb l fresh lo'=true/\l.length=lo'.length/\Dh lo'.length E'=true/\bY lo'.length lo'=true)/\Ra E (πOf l) fresh E'/\BI lo (πOf l) fresh 0 lo'
theorem Dc {E:Env} {π:Nat->Nat} {fresh:List Nat}:∀{E':Env},Ra E π fresh E'->∀ t v,(t,v)∈E'->leF π fresh (qW E t) v
 | [],_,t,v,h=>by simp at h
 | (t',v')::E',h,t,v,hm=>by
  simp only[Ra,QP]at h;rcases jg.1 hm with e|hm
  ·cases e; exact h.1
  exact Dc h.2 t v hm
theorem Gx {π:Nat->Nat} {fresh:List Nat} {k':Nat}:∀{cs a:List FV},Gb π fresh k' cs a->cs.length=a.length/\∀(i:Nat) (c e:FV),cs[i]? =some c->a[i]? =some e->leC π fresh k' c e
 | [],[],_=>⟨rfl,fun i c e h=>by simp at h⟩
 | [],_::_,h=>by simp[Gb]at h
 | _::_,[],h=>by simp[Gb]at h
 | c::cs,e::a,h=>by
  simp only[Gb]at h;obtain⟨h1,h2⟩:=Gx h.2;refine⟨by simp[h1],fun i d g f b=>?_⟩;cases i with
  | zero=>simp at f b; subst f; subst b; exact h.1
  | succ i=>exact h2 i d g (by simpa using f) (by simpa using b)
theorem TV {π:Nat->Nat} {fresh:List Nat} {k':Nat} {o o':AObj} (h:lO π fresh k' o o'):cq π fresh k' o o':=by
 cases o' with
 | dead=>trivial
 | box t' cells'=>
  cases o<;>simp only[lO]at h;exact⟨h.1,Gx h.2⟩
 | tail e z n=>
  cases o<;>simp only[lO]at h;obtain⟨rfl,rfl,rfl⟩:=h;rfl
 | vec e z n=>
  cases o<;>simp only[lO]at h;obtain⟨rfl,rfl,rfl⟩:=h;rfl
 | mp d es mk=>
  cases o<;>simp only[lO]at h;obtain⟨rfl,rfl,rfl⟩:=h;exact⟨rfl,_,rfl⟩
 | sit l p=>
  cases o<;>simp only[lO]at h;obtain⟨rfl,rfl⟩:=h;rfl
 | bv l=>
  cases o<;>simp only[lO]at h;subst h;rfl
 | vl e z rows j k'=>
  cases o<;>simp only[lO]at h;obtain⟨a,rfl,rfl,rfl,rfl,rfl⟩:=h;exact⟨a,rfl⟩
 | pbx t' c'=>
  cases o<;>simp only[lO]at h;exact h
theorem Gc {lo:List AObj} {π:Nat->Nat} {fresh:List Nat}:∀{lo':List AObj} {k:Nat},BI lo π fresh k lo'->∀(i:Nat) (o':AObj),lo'[i]? =some o' ->
  (k+i∈fresh->∃ e z,o'=.tail e z 0\/o'=.vec e z []\/∃ j k2,o'=.vl e z [] j k2)/\(k+i ∉ fresh->∃ o,lo[π (k+i)]? =some o/\cq π fresh (k+i) o o')
 | [],_,_,i,o',h=>by simp at h
 | o1::lo',k,h,i,o',a=>by
  simp only[BI]at h;cases i with
  | zero=>
   simp at a;subst a;simp only[Nat.add_zero];cases hf:fresh.contains k with
   | true=>
    simp only[hf]at h;have hm:k∈fresh:=by simpa using hf
    refine⟨fun _=>?_,fun b=>absurd hm b⟩
    have h1:=h.1;split at h1
    ·rename_i e z n; exact⟨e,z,.inl (by rw[h1])⟩
    ·rename_i e z rows; exact⟨e,z,.inr (.inl (by rw[h1]))⟩
    ·rename_i e z rows j k2; exact⟨e,z,.inr (.inr ⟨j,k2,by rw[h1]⟩)⟩
    exact h1.elim
   | false=>
    simp only[hf]at h;have hm:k ∉ fresh:=by simpa using hf
    refine⟨fun b=>absurd b hm,fun _=>?_⟩
    obtain⟨o,a,c⟩:=xg h.1;exact⟨o,a,TV c⟩
  | succ i=>
   have:=Gc h.2 i o' (by simpa using a);have e:k+1+i=k+(i+1):=by omega
   rwa [e]at this
theorem gv {n:Nat}:∀{v:FV},cU n v=true->∀ k∈v.names,k<n
 | .opt _ v,h,k,d=>gv (v:=v) h k d
 | .tsl k' _,h,k,d=>by simp[FV.names]at d; subst d; simpa[cU]using h
 | .ptr k' _,h,k,d=>by simp[FV.names]at d; subst d; simpa[cU]using h
 | .top,_,k,d=>by simp[FV.names]at d
 | .p _,_,k,d=>by simp[FV.names]at d
 | .hptr _,_,k,d=>by simp[FV.names]at d
 | .bself k',h,k,d=>by simp[FV.names]at d; subst d; simpa[cU]using h
 | .bsl k' _ _ _,h,k,d=>by simp[FV.names]at d; subst d; simpa[cU]using h
 | .vsl k' _,h,k,d=>by simp[FV.names]at d; subst d; simpa[cU]using h
 | .eptr k' _ _ _,h,k,d=>by simp[FV.names]at d; subst d; simpa[cU]using h
 | .mref k',h,k,d=>by simp[FV.names]at d; subst d; simpa[cU]using h
 | .pair a b,h,k,d=>by
  simp only[cU,ji]at h;rcases jy.1 d with d|d
  ·exact gv (v:=a) h.1 k d
  exact gv (v:=b) h.2 k d
 | .stmp k',h,k,d=>by simp[FV.names]at d; subst d; simpa[cU]using h
 | .clo _ c,h,k,d=>gv (v:=c) h k d
 | .fagg c,h,k,d=>gv (v:=c) h k d
 | .nxt _ _ _,_,k,d=>by simp[FV.names]at d
 | .asl k' _ _,h,k,d=>by simp[FV.names]at d; subst d; simpa[cU]using h
 | .ifs _ c,h,k,d=>gv (v:=c) h k d
 | .cut _,_,k,d=>by simp[FV.names]at d
 | .cap0,_,k,d=>by simp[FV.names]at d
 | .cap a b,h,k,d=>by
  simp only[cU,ji]at h;rcases jy.1 d with d|d
  ·exact gv (v:=a) h.1 k d
  exact gv (v:=b) h.2 k d
theorem CF {n:Nat}:∀{E:Env},Dh n E=true->∀ t v,(t,v)∈E->∀ k∈v.names,k<n
 | [],_,t,v,h=>by simp at h
 | (t',v')::E,h,t,v,hm=>by
  simp only[Dh,ji]at h;rcases jg.1 hm with e|hm
  ·cases e; exact gv h.1
  exact CF h.2 t v hm
theorem QR {n:Nat}:∀{l:List FV},Gy n l=true->∀ v∈l,∀ k∈v.names,k<n
 | [],_,v,h=>by simp at h
 | v'::l,h,v,hm=>by
  simp only[Gy,ji]at h;rcases jg.1 hm with e|hm
  ·cases e; exact gv h.1
  exact QR h.2 v hm
theorem QT {n:Nat}:∀{lo:List AObj},bY n lo=true->∀ t cells,AObj.box t cells∈lo->∀ c∈cells,∀ k∈c.names,k<n
 | [],_,t,cells,h=>by simp at h
 | o::lo,h,t,cells,hm=>by
  rcases jg.1 hm with e|a
  ·subst e
   simp only[bY,ji]at h;exact QR h.1
  cases o<;>simp only[bY,ji]at h<;>first|exact QT h.2 t cells a|exact QT h t cells a
theorem tD {n:Nat}:∀{lo:List AObj},bY n lo=true->∀ t c,AObj.pbx t c∈lo->∀ k∈c.names,k<n
 | [],_,_,_,h=>by simp at h
 | o::lo,h,t,c,hm=>by
  rcases jg.1 hm with he|a
  ·subst he
   simp only[bY,ji]at h;exact gv h.1
  cases o<;>simp only[bY,ji]at h<;>first|exact tD h.2 _ _ a|exact tD h _ _ a
theorem tC {n:Nat}:∀{lo:List AObj},bY n lo=true->∀ e z rows j k,AObj.vl e z rows j k∈lo->k<n
 | [],_,_,_,_,_,_,h=>by simp at h
 | o::lo,h,e,z,rows,j,k,hm=>by
  rcases jg.1 hm with he|a
  ·subst he
   simp only[bY,ji,kde]at h;exact h.1
  cases o<;>simp only[bY,ji]at h<;>first|exact tC h.2 _ _ _ _ _ a|exact tC h _ _ _ _ _ a
theorem Fg.sat {bs:(Base Lw)} {N:Nat} {ρ:List Value} {H:(PH Lw)} {E E':Env} {lo lo':List AObj} {a:Act} {w:World} (s:Sat bs N ρ H (qW E) lo a w) (h:Fg bs.r0.length E lo E' lo') :
  ∃ ρ',Sat bs N ρ' H (qW E') lo' a w:=by
 obtain⟨l,fresh,⟨r,y,v,f⟩,x,g⟩:=h;simp only[ov,ji,kde,List.all_eq_true,List.mem_range,jO,beq_iff_eq,Bool.not_eq_true',bne_iff_ne]at r;obtain⟨⟨⟨h1,h2⟩,h3⟩,h4⟩:=r;have get:=fun(i:Nat) (o':AObj) (d:lo'[i]? =some o')=>Gc g i o' d;simp only[jx]at get;refine⟨_,s.weak (π:=πOf l) (fresh:=fresh) (lo':=lo') ?_ ⟨CF v,QT f,tC f,tD f⟩⟩;refine{ bounds:=fun k c hf=>?_,keep:=fun k c=>?_,nb:=by omega,inj:=fun i j oi oj t u m n p q e=>?_,frsh:=fun k c=>?_,obj:=fun k o' d hf=>(get k o' d).2 hf,slot:=Dc x }
 ·obtain⟨o,d,_⟩:=(get k _ (jf c)).2 hf
  exact(jG.1 d).1
 ·obtain⟨e1,e2⟩:=h2 k c
  exact⟨e1,by simpa using e2⟩
 ·have h1:=(jG.1 t).1
  have h2:=(jG.1 u).1;have:=h3 i (by omega) j (by omega);simp only[List.contains_iff_mem,p,q,UX m t,UX n u,jP,or_false,false_or]at this;rcases this with h|h
  ·exact absurd e h
  exact h
 have b:k<lo'.length:=by have:=h4 k c; omega
 obtain⟨e,z,he⟩:=(get k _ (jf b)).1 c;exact⟨e,z,he.imp (fun he=>by rw[jf b,he]) (fun he=>he.imp (fun he=>by rw[jf b,he]) (fun⟨j,k2,he⟩=>⟨j,k2,by rw[jf b,he]⟩))⟩
theorem uh.of {P:Program} (inl:List Nat) {N nb:Nat} {body:Code} {K:KA} {E:Env} {lo:List AObj} {S:Type} (l:S->Env) (m:S->List AObj) (ok:S->Prop) (μ:S->Nat) (d:S) (y:ok d)
  (hw:Fg nb E lo (l d) (m d))
  (round:∀ s,ok s->vc P inl N nb body (fun x E' lo'=>match x with
   | .normal=>∃ c,ok c/\μ c<μ s/\Fg nb E' lo' (l c) (m c)
   | .exit i=>K (.exit i) E' lo'
   | .ret=>K .ret E' lo') (l s) (m s)):uh P inl N nb body K E lo:=by
 intro hm z Lw bs ρ H a w A sat;subst A;obtain⟨ρ',f⟩:=hw.sat sat;refine wp_loop_ghost (I:=fun n a w=>∃ s ρ H,μ s=n/\ok s/\Sat bs N ρ H (qW (l s)) (m s) a w) (μ d) ⟨d,ρ',H,rfl,y,f⟩ fun n a w ⟨s,ρ,H,B,o,sat⟩=>?_;refine wp_mono (gM hm body _ _ _ z (round s o) bs ρ H a w rfl sat) fun e a w p=>?_;obtain⟨x,ρ2,q,u,g,v,b,k⟩:=p;cases x<;>cases e<;>simp only[Rz]at v
 ·obtain⟨c,h,r,t⟩:=k
  obtain⟨ρ3,j⟩:=t.sat b;exact⟨μ c,B ▸ r,c,ρ3,q,rfl,h,j⟩
 ·exact⟨.exit _,ρ2,q,u,g,v,b,k⟩
 exact⟨.ret,ρ2,q,u,g,trivial,b,k⟩
def iF (P:Program) (E:Env) (lo:List AObj) (r:ResultVar) (R:FV->Prop):Prop:=
 match r with
 | .tmp t=>ef E t R
 | .cell a t=>ef E a fun v=>QM P t lo v R
def qfl (lo:List AObj) (v:FV) (R:PV->List AObj->Prop):Prop:=
 match v with
 | .vsl k _=>Zm k lo fun o=>match o with
  | .vec _ _ rows=>GF k .dead lo fun lo=>R (.sl rows) lo
  | _=>False
 | v=>Nn v fun p=>R p lo
def qe3:List FV->List AObj->(List PV->List AObj->Prop)->Prop
 | [],lo,R=>R [] lo
 | v::cs,lo,R=>qfl lo v fun p lo=>qe3 cs lo fun a lo=>R (p::a) lo
def qfm (lo:List AObj) (v:FV) (R:FV->List AObj->Prop):Prop:=
 match v with
 | .vsl k _=>Zm k lo fun o=>match o with
  | .vec _ _ rows=>GF k .dead lo fun lo=>R (.p (.sl rows)) lo
  | .vl _ _ rows _ _=>GF k .dead lo fun lo=>R (.p (.sl rows)) lo
  | _=>False
 | .fagg c=>tA c fun cs=>qe3 cs lo fun a lo=>R (.p (.agg a)) lo
 | v=>R v lo
def qd1 (P:Program) (E:Env) (lo:List AObj):List ResultVar->(List PV->Prop)->Prop
 | [],R=>R []
 | r::rs,R=>iF P E lo r fun v=>qfm lo v fun v lo=>Nn v fun v=>qd1 P E lo rs fun l=>R (v::l)
def qgl (P:Program) (fn:Func) (R:PV->Prop):KA:=fun x E lo=>match x with
 | .exit _=>False
 | _=>qd1 P E lo fn.results.toList fun vs=>match vs with
   | [v]=>R v
   | vs=>R (.tup vs)
def toF:PV->FV
 | .hp row=>.hptr row
 | v=>.p v
theorem qb8 {ρ:List Value} {H:(PH Lw)} {v:PV} {x:Value} (h:qO H v x):qY ρ H (toF v) x:=by
 cases v<;>simp only[toF]<;>first|exact h|(simp only[qO]at h; simp only[qY]; exact h)
def PQ:Nat->List PV->Env
 | _,[]=>[]
 | n,v::vs=>(n,toF v)::PQ (n+1) vs
def qed (P:Program) (inl:List Nat) (fn:Func) (args:List PV) (R:PV->Prop):Prop:=
 match fn.body with
 | some c=>vc P inl fn.ntmps 0 c (qgl P fn R) (PQ 0 args) []
 | none=>False
def RO (inl:List Nat) (fn:Func) (n:Nat):Bool:=(match fn.body with|some c=>mS inl c|none=>false)&&decide (n<=fn.ntmps)
def Enters (P:Program) (f:FuncId):Prop:=∀(args:Array Value) (w:World),(callFunc f args).run P w=.ok (.enter f args) w
def La (tmps:Array Value):ResultVar->Sem Value
 | .tmp t=>pure (tmps.getD t undef)
 | .cell p t=>do loadVar t (← asAddr (tmps.getD p undef))
theorem rM (fn:Func) (tmps:Array Value):results fn tmps=(do
  let vs ← fn.results.mapM (La tmps)
  pure (if h:vs.size=1 then vs[0]else .tuple vs)):=by
 unfold results;congr 1
theorem iD {lo:List AObj} {v:FV} {R:PV->List AObj->Prop} (h:qfl lo v R):∃ f lo',R f lo'/\∀ ⦃Lw:Nat⦄ (bs:(Base Lw)) (N:Nat) (ρ:List Value) (H:(PH Lw)) (e:Nat->FV) (a:Act) (w:World) (x:Value),Sat bs N ρ H e lo a w->qY ρ H v x ->
  ∃ H',PH.le H H'/\Sat bs N ρ H' e lo' a w/\qO H' f x:=by
 unfold qfl at h;split at h
 ·rename_i k n
  obtain⟨o,c,h⟩:=xg h;split at h
  ·rename_i e z rows
   obtain⟨h,_⟩:=gw h;refine⟨_,_,h,fun Lw bs N ρ H ev a w x s r=>?_⟩;obtain⟨H',b,d,g⟩:=s.toSatW.publish c r.1;exact⟨H',b,{ d with slots:=fun t=>(s.slots t).mono (jq _) b,width:=s.width,defers:=s.defers },g⟩
  exact h.elim
 obtain⟨p,h,hp⟩:=mU h;exact⟨_,_,h,fun Lw bs N ρ H e a w x s r=>⟨H,PH.le.refl H,s,hp _ _ _ r⟩⟩
theorem HU:∀{cs:List FV} {lo:List AObj} {R:List PV->List AObj->Prop},qe3 cs lo R->∃ d lo',R d lo'/\∀ ⦃Lw:Nat⦄ (bs:(Base Lw)) (N:Nat) (ρ:List Value) (H:(PH Lw)) (e:Nat->FV) (a:Act) (w:World) (vs:List Value),Sat bs N ρ H e lo a w->xa ρ H cs vs ->
  ∃ H',PH.le H H'/\Sat bs N ρ H' e lo' a w/\zC H' d vs
 | [],lo,R,h=>⟨[],lo,h,fun Lw bs N ρ H e a w vs s r=>⟨H,PH.le.refl H,s,by simp only[xa]at r; simp only[zC]; exact r⟩⟩
 | v::cs,lo,R,h=>by
  simp only[qe3]at h;obtain⟨p,i,h,h1⟩:=iD h;obtain⟨d,j,h,h2⟩:=HU h;refine⟨_,_,h,fun Lw bs N ρ H e a w vs s r=>?_⟩;obtain⟨u,us,rfl,k,rs⟩:=r;obtain⟨H1,b,s1,f⟩:=h1 bs N ρ H e a w u s k;obtain⟨l,c,s2,g⟩:=h2 bs N ρ H1 e a w us s1 (rs.mono (jq _) b);exact⟨l,b.trans c,s2,by simp only[zC]; exact⟨u,us,rfl,qO.mono c f,g⟩⟩
theorem iE {lo:List AObj} {v:FV} {R:FV->List AObj->Prop} (h:qfm lo v R):∃ f lo',R f lo'/\∀ ⦃Lw:Nat⦄ (bs:(Base Lw)) (N:Nat) (ρ:List Value) (H:(PH Lw)) (e:Nat->FV) (a:Act) (w:World) (x:Value),Sat bs N ρ H e lo a w->qY ρ H v x ->
  ∃ H',PH.le H H'/\Sat bs N ρ H' e lo' a w/\qY ρ H' f x:=by
 unfold qfm at h;split at h
 ·rename_i k n
  obtain⟨o,i,h⟩:=xg h;split at h
  ·rename_i e z rows
   obtain⟨h,_⟩:=gw h;refine⟨_,_,h,fun Lw bs N ρ H ev a w x s r=>?_⟩;obtain⟨H',b,d,g⟩:=s.toSatW.publish i r.1;exact⟨H',b,{ d with slots:=fun t=>(s.slots t).mono (jq _) b,width:=s.width,defers:=s.defers },g⟩
  ·rename_i e z rows j u
   obtain⟨h,_⟩:=gw h;refine⟨_,_,h,fun Lw bs N ρ H ev a w x s r=>?_⟩;have s1:=s.toSatW.view i rfl (o':=.vec e z rows) rfl (fun v y ok=>qee ok)
   have l:k<lo.length:=(jG.1 i).1;have m:(lo.set k (AObj.vec e z rows))[k]? =some (AObj.vec e z rows):=by simp[l]
   obtain⟨H',b,d,g⟩:=s1.publish m r.1;rw[List.set_set]at d;exact⟨H',b,{ d with slots:=fun t=>(s.slots t).mono (jq _) b,width:=s.width,defers:=s.defers },g⟩
  exact h.elim
 ·rename_i c
  obtain⟨cs,h,p⟩:=QJ h;obtain⟨A,lo',h,q⟩:=HU h;refine⟨_,_,h,fun Lw bs N ρ H e a w x s r=>?_⟩;obtain⟨vs,rfl,rc⟩:=r;obtain⟨H',b,d,g⟩:=q bs N ρ H e a w vs s (p _ _ _ rc);exact⟨H',b,d,by simp only[qY,qO]; exact⟨vs,rfl,g⟩⟩
 exact⟨_,_,h,fun Lw bs N ρ H e a w x s r=>⟨H,PH.le.refl H,s,r⟩⟩
theorem Xg {P:Program} {E:Env} {lo:List AObj} {r:ResultVar} {R:FV->Prop} (h:iF P E lo r R):∃ f,R f/\∀ ⦃Lw:Nat⦄ (bs:(Base Lw)) (N:Nat) (ρ:List Value) (H:(PH Lw)) (a:Act) (w:World),Sat bs N ρ H (qW E) lo a w ->
  ∃ v,(La a.tmps r).run P w=.ok v w/\qY ρ H f v:=by
 cases r with
 | tmp t=>
  simp only[iF,QP]at h;exact⟨_,h,fun Lw bs N ρ H a w s=>⟨a.tmps.getD t undef,rfl,s.slots t⟩⟩
 | cell q t=>
  simp only[iF,QP]at h;obtain⟨c,h,d⟩:=Ga h;refine⟨c,h,fun Lw bs N ρ H a w s=>?_⟩;obtain⟨i,u,e,b,g⟩:=d bs ρ H w _ s.toSatW (s.slots q);refine⟨u,?_,g⟩;simp only[Instr.loadAt,e,Instr.sureAddr,kf,kg,ke]at b;simp only[La,e,asAddr,kf,kg,ke,b]
theorem HZ {P:Program} {E:Env}:∀{l:List ResultVar} {lo:List AObj} {R:List PV->Prop},qd1 P E lo l R->∃ c,R c/\c.length=l.length/\∀ ⦃Lw:Nat⦄ (bs:(Base Lw)) (N:Nat) (ρ:List Value) (H:(PH Lw)) (a:Act) (w:World),Sat bs N ρ H (qW E) lo a w ->
  ∃(vs:List Value) (H':(PH Lw)) (lo':List AObj),(l.mapM (m:=Sem) (La a.tmps)).run P w=.ok vs w/\zC H' c vs/\PH.le H H'/\Sat bs N ρ H' (qW E) lo' a w
 | [],lo,R,h=>⟨[],h,rfl,fun Lw bs N ρ H a w s=>⟨[],H,lo,by simp,by simp[zC],PH.le.refl H,s⟩⟩
 | r::rs,lo,R,h=>by
  simp only[qd1]at h;obtain⟨f,h,h1⟩:=Xg h;obtain⟨q,k,h,h2⟩:=iE h;obtain⟨p,h,hp⟩:=mU h;obtain⟨c,h,hlen,h3⟩:=HZ h;refine⟨p::c,h,by simp[hlen],fun Lw bs N ρ H a w s=>?_⟩;obtain⟨v,n,rv⟩:=h1 bs N ρ H a w s;obtain⟨H1,d,s1,e⟩:=h2 bs N ρ H _ a w v s rv;obtain⟨vs,o,g,i,j,b,s2⟩:=h3 bs N ρ H1 a w s1;refine⟨v::vs,o,g,?_,by simp only[zC]; exact⟨v,vs,rfl,qO.mono b (hp _ _ _ e),j⟩,d.trans b,s2⟩;simp only[List.mapM_cons,kf,n,ke,i,kg]
theorem eQ {P:Program} {fn:Func} {E:Env} {lo:List AObj} {x:AX} {R:PV->Prop} (h:qgl P fn R x E lo):∃ p,R p/\(x=.normal\/x=.ret) /\
  ∀ ⦃Lw:Nat⦄ (bs:(Base Lw)) (N:Nat) (ρ:List Value) (H:(PH Lw)) (a:Act) (w:World),Sat bs N ρ H (qW E) lo a w->∃(v:Value) (H':(PH Lw)) (lo':List AObj),(results fn a.tmps).run P w=.ok v w/\qO H' p v/\PH.le H H'/\Sat bs N ρ H' (qW E) lo' a w:=by
 have key:∀{x:AX},(x=.normal\/x=.ret)->(qd1 P E lo fn.results.toList fun vs=>match vs with
   | [v]=>R v
   | vs=>R (.tup vs))->∃ p,R p/\(x=.normal\/x=.ret) /\
  ∀ ⦃Lw:Nat⦄ (bs:(Base Lw)) (N:Nat) (ρ:List Value) (H:(PH Lw)) (a:Act) (w:World),Sat bs N ρ H (qW E) lo a w->∃(v:Value) (H':(PH Lw)) (lo':List AObj),(results fn a.tmps).run P w=.ok v w/\qO H' p v/\PH.le H H'/\Sat bs N ρ H' (qW E) lo' a w:=by
  intro x m h;obtain⟨o,h,e,n⟩:=HZ h;clear e;split at h
  ·rename_i p
   refine⟨p,h,m,fun Lw bs N ρ H a w s=>?_⟩;obtain⟨vs,H',lo',f,d,c,g⟩:=n bs N ρ H a w s;simp only[zC]at d;obtain⟨v,_,rfl,rv,rfl⟩:=d;refine⟨v,H',lo',?_,rv,c,g⟩;rw[rM,Array.mapM_eq_mapM_toList];simp only[kf,Sem.run_map,f,ke];rfl
  rename_i j;refine⟨_,h,m,fun Lw bs N ρ H a w s=>?_⟩;obtain⟨vs,H',lo',f,d,c,g⟩:=n bs N ρ H a w s;refine⟨.tuple vs.toArray,H',lo',?_,by simp only[qO]; exact⟨vs,rfl,d⟩,c,g⟩;rw[rM,Array.mapM_eq_mapM_toList];simp only[kf,Sem.run_map,f,ke,kg];have:¬ vs.toArray.size=1:=by
   intro h1;have k:=d.length;simp at h1;rw[h1]at k;cases o with
   | nil=>simp at k
   | cons a l=>cases l with
    | nil=>exact j a rfl
    | cons b l=>simp at k
  simp only[this,dif_neg,not_false_eq_true]
 cases x with
 | normal=>exact key (.inl rfl) h
 | exit i=>exact h.elim
 | ret=>exact key (.inr rfl) h
theorem BZ:∀(n:Nat) (args:List PV) (t:Nat),qW (PQ n args) t=match (if n<=t then args[t - n]? else none)with|some v=>toF v|none=>.top
 | n,[],t=>by simp[PQ,qW]
 | n,v::vs,t=>by
  simp only[PQ,qW];cases a:Nat.beq t n with
  | true=>
   have:=jm a;subst this;simp
  | false=>
   have b:t≠n:=fun e=>by subst e; simp[Nat.beq_refl]at a
   simp only;rw[BZ (n+1) vs t];by_cases h:n<=t
   ·have h1:n+1<=t:=by omega
    have h2:t - n=(t - (n+1))+1:=by omega
    simp[h,h1,h2]
   have h1:¬ n+1<=t:=by omega
   simp[h,h1]
theorem qh.of_vcR {P:Program} {f:FuncId} {fn:Func} {args:List PV} {r:PV} {inl:List Nat} {R:PV->Prop} (hm:P.follows .mixedOrders=true) (he:Enters P f) (hf:P.funcs[f]? =some fn) (g:RO inl fn args.length=true)
  (z:∀(p:PV) (v:Value) ⦃Lw:Nat⦄ (H:(PH Lw)),R p->qO H p v->qO H r v) (h:qed P inl fn args R):qh P f args r:=by
 intro Lw H w vs A u;rw[he];refine⟨rfl,?_⟩;simp only[RO,ji,kde]at g;obtain⟨j,F⟩:=g;unfold qed at h;cases l:fn.body with
 | none=>simp[l]at j
 | some c=>
  simp only[l]at h j;refine calls_of_wp hf l ?_;have G:=u.length;have sat:Sat { S:=oy,w0:=w,H0:=H,r0:=[] } fn.ntmps [] H (qW (PQ 0 args)) [] { tmps:=vs.toArray++Array.replicate (fn.ntmps - vs.toArray.size) undef,defers:=[] } w:=by
   refine{ sath:=A,hlen:=rfl,pre:=jq _,objs:=fun k o v h=>by simp at h,excl:=fun k _ o _ v _ b h=>by simp at h,own:=fun k o v b h=>by simp at h,keep:=Keep.refl _ w,leH:=PH.le.refl H,newH:=fun b o v h=>.inl ⟨v,h⟩,slots:=fun t=>?_,width:=by simp; omega,defers:=rfl }
   rw[BZ];simp only[jS,if_true,Nat.sub_zero];cases B:args[t]? with
   | none=>trivial
   | some p=>
    obtain⟨v,d,rv⟩:=u.get B;have m:=(jG.1 d).1;have:(vs.toArray++Array.replicate (fn.ntmps - vs.toArray.size) undef).getD t undef=v:=by
     rw[jX,Array.getElem?_append_left (by simpa using m)];simp[d]
    rw[this];exact qb8 rv
  refine wp_mono (gM hm c _ _ _ j h _ [] H _ w rfl sat) fun e a w' p=>?_;obtain⟨x,ρ',H',E',lo',C,n,k⟩:=p;obtain⟨p,hp,q,i⟩:=eQ k;obtain⟨v,y,D,d,rv,E,s2⟩:=i _ _ ρ' H' a w' n;have fin:∃ v,(results fn a.tmps).run P w'=.ok v w'/\(fun e s=>∃ v H',e=Ending.returned v/\Calm H w H' s/\qO H' r v) (.returned v) w':=
   ⟨v,d,v,y,rfl,⟨s2.leH,s2.sath,s2.keep,fun b o v d=>by
    rcases s2.newH b o v d with h|h|h
    ·exact .inl h
    ·exact h.elim
    exact .inr h⟩,z p v y hp rv⟩
  rcases q with rfl|rfl<;>cases e<;>simp only[Rz]at C
  ·exact⟨n.defers,fin⟩
  exact⟨n.defers,fin⟩
theorem qh.of_vc {P:Program} {f:FuncId} {fn:Func} {args:List PV} {r:PV} {inl:List Nat} (hm:P.follows .mixedOrders=true) (he:Enters P f) (hf:P.funcs[f]? =some fn) (a:RO inl fn args.length=true)
  (h:qed P inl fn args (fun v=>v=r)):qh P f args r:=
 qh.of_vcR (R:=fun v=>v=r) hm he hf a (fun _ _ _ _ e x=>e ▸ x) h
end Ax
end
section
namespace Ax
open Go
variable {Lw:Nat}
def qbe (ρ:List Value) (lo:List AObj):Nat->Prop:=fun b=>∃(k:Nat) (o:AObj) (v:Value),lo[k]? =some o/\ρ[k]? =some v/\o.live=true/\qR v=some b
theorem SatW.lend {bs:(Base Lw)} {ρ:List Value} {H:(PH Lw)} {lo:List AObj} {w:World} (s:SatW bs ρ H lo w):SatW { S:=qbe ρ lo,w0:=w,H0:=H,r0:=ρ } ρ H lo w where
 sath:=s.sath
 hlen:=s.hlen
 pre:=jq _
 objs:=s.objs
 excl:=s.excl
 own:=fun k o v b a c d e=>.inl ⟨k,o,v,a,c,d,e⟩
 keep:=Keep.refl _ w
 leH:=PH.le.refl H
 newH:=fun b o v h=>.inl ⟨v,h⟩
theorem SatW.back {bs:(Base Lw)} {ρ ρ':List Value} {H H':(PH Lw)} {lo lo':List AObj} {w w':World} (s:SatW bs ρ H lo w) (a:SatW { S:=qbe ρ lo,w0:=w,H0:=H,r0:=ρ } ρ' H' lo' w'):SatW bs ρ' H' lo' w':=by
 have d:∀ b,qbe ρ lo b->bs.S b\/bs.w0.heap.size<=b:=fun b ⟨k,o,v,e,c,f,g⟩=>s.own k o v b e c f g
 refine{ sath:=a.sath,hlen:=a.hlen,pre:=s.pre.trans a.pre,objs:=a.objs,excl:=a.excl,own:=fun k o v b e c f g=>?_,keep:=s.keep.step a.keep d,leH:=s.leH.trans a.leH,newH:=fun b o v c=>?_ }
 ·rcases a.own k o v b e c f g with h|h
  ·exact d b h
  exact .inr (Nat.le_trans s.keep.size h)
 rcases a.newH b o v c with ⟨u,hu⟩|h|h
 ·exact s.newH b o u hu
 ·exact .inr (d b h)
 exact .inr (.inr (Nat.le_trans s.keep.size h))
def tc:Nat->List FV->Env
 | _,[]=>[]
 | n,v::vs=>(n,v)::tc (n+1) vs
theorem Xu:∀(n:Nat) (args:List FV) (t:Nat),qW (tc n args) t=(if n<=t then args[t - n]? else none).getD .top
 | n,[],t=>by simp[tc,qW]
 | n,v::vs,t=>by
  simp only[tc,qW];cases a:Nat.beq t n with
  | true=>
   have:=jm a;subst this;simp
  | false=>
   have b:t≠n:=fun e=>by subst e; simp[Nat.beq_refl]at a
   simp only;rw[Xu (n+1) vs t];by_cases h:n<=t
   ·have h1:n+1<=t:=by omega
    have h2:t - n=(t - (n+1))+1:=by omega
    simp[h,h1,h2]
   have h1:¬ n+1<=t:=by omega
   simp[h,h1]
theorem xa.get {ρ:List Value} {H:(PH Lw)}:∀{cs:List FV} {vs:List Value} {i:Nat} {c:FV},xa ρ H cs vs->cs[i]? =some c->∃ v,vs[i]? =some v/\qY ρ H c v
 | [],_,_,_,_,h=>by simp at h
 | c::cs,vs,i,c',x,h=>by
  obtain⟨v,a,rfl,r,rs⟩:=x;cases i with
  | zero=>simp at h; subst h; exact⟨v,by simp,r⟩
  | succ i=>simp at h; obtain⟨u,hu,b⟩:=rs.get h; exact⟨u,by simpa using hu,b⟩
def qe5 (v1 v2:FV) (R:FV->Prop):Prop:=
 match v1 with
 | .p p1=>match v2 with
  | .p p2=>R (.p (.tup [p1,p2]))
  | .tsl _ rows=>R (.p (.tup [p1,.sl rows]))
  | v2=>R (.pair (.p p1) v2)
 | .tsl _ rows1=>match v2 with
  | .p p2=>R (.p (.tup [.sl rows1,p2]))
  | .tsl _ rows=>R (.p (.tup [.sl rows1,.sl rows]))
  | v2=>R (.pair (.p (.sl rows1)) v2)
 | v1=>match v2 with
  | .tsl _ rows=>R (.pair v1 (.p (.sl rows)))
  | v2=>R (.pair v1 v2)
def frL (P:Program) (E:Env) (lo:List AObj):List ResultVar->(List PV->Prop)->Prop
 | [],R=>R []
 | r::rs,R=>iF P E lo r fun v=>Nn v fun v=>frL P E lo rs fun l=>R (v::l)
theorem lj {v1 v2:FV} {R:FV->Prop} (h:qe5 v1 v2 R):∃ v,R v/\∀ ⦃Lw:Nat⦄ (ρ:List Value) (H:(PH Lw)) (x y:Value),qY ρ H v1 x->qY ρ H v2 y->qY ρ H v (.tuple #[x,y]):=by
 have pp:∀(c d:PV) (ρ:List Value) ⦃Lw:Nat⦄ (H:(PH Lw)) (x y:Value),qO H c x->qO H d y->qY ρ H (.p (.tup [c,d])) (.tuple #[x,y]):=fun c d ρ Lw H x y a b=>by
  simp only[qY,qO];exact⟨[x,y],rfl,by simp only[zC]; exact⟨x,_,rfl,a,y,[],rfl,b,rfl⟩⟩
 unfold qe5 at h;split at h
 ·split at h
  ·exact⟨_,h,fun Lw ρ H x y a b=>pp _ _ ρ H x y a b⟩
  ·exact⟨_,h,fun Lw ρ H x y a b=>pp _ _ ρ H x y a b.2⟩
  exact⟨_,h,fun Lw ρ H x y a b=>⟨x,y,rfl,a,b⟩⟩
 ·split at h
  ·exact⟨_,h,fun Lw ρ H x y a b=>pp _ _ ρ H x y a.2 b⟩
  ·exact⟨_,h,fun Lw ρ H x y a b=>pp _ _ ρ H x y a.2 b.2⟩
  exact⟨_,h,fun Lw ρ H x y a b=>⟨x,y,rfl,a.2,b⟩⟩
 split at h
 ·exact⟨_,h,fun Lw ρ H x y a b=>⟨x,y,rfl,a,b.2⟩⟩
 exact⟨_,h,fun Lw ρ H x y a b=>⟨x,y,rfl,a,b⟩⟩
theorem Nl {P:Program} {E:Env} {lo:List AObj}:∀{l:List ResultVar} {R:List PV->Prop},frL P E lo l R->∃ b,R b/\b.length=l.length/\∀ ⦃Lw:Nat⦄ (bs:(Base Lw)) (N:Nat) (ρ:List Value) (H:(PH Lw)) (a:Act) (w:World),Sat bs N ρ H (qW E) lo a w ->
  ∃ vs:List Value,(l.mapM (m:=Sem) (La a.tmps)).run P w=.ok vs w/\zC H b vs
 | [],R,h=>⟨[],h,rfl,fun Lw bs N ρ H a w s=>⟨[],by simp,by simp[zC]⟩⟩
 | r::rs,R,h=>by
  simp only[frL]at h;obtain⟨f,h,h1⟩:=Xg h;obtain⟨p,h,hp⟩:=mU h;obtain⟨b,h,hlen,h2⟩:=Nl h;refine⟨p::b,h,by simp[hlen],fun Lw bs N ρ H a w s=>?_⟩;obtain⟨v,e,rv⟩:=h1 bs N ρ H a w s;obtain⟨vs,c,d⟩:=h2 bs N ρ H a w s;refine⟨v::vs,?_,by simp only[zC]; exact⟨v,vs,rfl,hp _ _ _ rv,d⟩⟩;simp only[List.mapM_cons,kf,e,ke,c,kg]
def qfs (P:Program) (fn:Func) (R:FV->List AObj->Prop):KA:=fun x E lo=>match x with
 | .exit _=>False
 | _=>match fn.results.toList with
  | [r]=>iF P E lo r fun v=>R v lo
  | []=>R (.p (.tup [])) lo
  | [r1,r2]=>iF P E lo r1 fun v1=>iF P E lo r2 fun v2=>qe5 v1 v2 fun v=>R v lo
  | r::rs=>frL P E lo (r::rs) fun vs=>R (.p (.tup vs)) lo
def vcI (P:Program) (inl:List Nat) (fn:Func) (args:List FV) (lo:List AObj) (R:FV->List AObj->Prop):Prop:=
 match fn.body with
 | some c=>Fj lo 0 fun nb=>vc P inl fn.ntmps nb c (qfs P fn R) (tc 0 args) lo
 | none=>False
theorem Lb {P:Program} {fn:Func} {E:Env} {lo:List AObj} {x:AX} {R:FV->List AObj->Prop} (h:qfs P fn R x E lo):∃ p,R p lo/\(x=.normal\/x=.ret) /\
  ∀ ⦃Lw:Nat⦄ (bs:(Base Lw)) (N:Nat) (ρ:List Value) (H:(PH Lw)) (a:Act) (w:World),Sat bs N ρ H (qW E) lo a w->∃ v,(results fn a.tmps).run P w=.ok v w/\qY ρ H p v:=by
 have key:∀{x:AX},(x=.normal\/x=.ret)->(match fn.results.toList with
  | [r]=>iF P E lo r fun v=>R v lo
  | []=>R (.p (.tup [])) lo
  | [y,z]=>iF P E lo y fun v1=>iF P E lo z fun v2=>qe5 v1 v2 fun v=>R v lo
  | r::rs=>frL P E lo (r::rs) fun vs=>R (.p (.tup vs)) lo)->∃ p,R p lo/\(x=.normal\/x=.ret) /\
  ∀ ⦃Lw:Nat⦄ (bs:(Base Lw)) (N:Nat) (ρ:List Value) (H:(PH Lw)) (a:Act) (w:World),Sat bs N ρ H (qW E) lo a w->∃ v,(results fn a.tmps).run P w=.ok v w/\qY ρ H p v:=by
  intro x g h;split at h
  ·rename_i r c
   obtain⟨f,h,d⟩:=Xg h;refine⟨f,h,g,fun Lw bs N ρ H a w s=>?_⟩;obtain⟨v,D,rv⟩:=d bs N ρ H a w s;refine⟨v,?_,rv⟩;rw[rM,Array.mapM_eq_mapM_toList,c];simp only[List.mapM_cons,List.mapM_nil,kf,Sem.run_map,D,ke,kg];rfl
  ·rename_i c
   refine⟨_,h,g,fun Lw bs N ρ H a w s=>⟨.tuple #[],?_,by simp only[qY,qO]; exact⟨[],rfl,rfl⟩⟩⟩;rw[rM,Array.mapM_eq_mapM_toList,c];simp only[List.mapM_nil,kf,Sem.run_map,ke,kg];rfl
  ·rename_i y z c
   obtain⟨f1,h,j⟩:=Xg h;obtain⟨f2,h,k⟩:=Xg h;obtain⟨f,h,d⟩:=lj h;refine⟨f,h,g,fun Lw bs N ρ H a w s=>?_⟩;obtain⟨v1,m,n⟩:=j bs N ρ H a w s;obtain⟨v2,o,q⟩:=k bs N ρ H a w s;refine⟨.tuple #[v1,v2],?_,d _ _ _ _ n q⟩;rw[rM,Array.mapM_eq_mapM_toList,c];simp only[List.mapM_cons,List.mapM_nil,kf,Sem.run_map,m,o,ke,kg];rfl
  rename_i r rs e A c;obtain⟨F,h,t,d⟩:=Nl h;refine⟨_,h,g,fun Lw bs N ρ H a w s=>?_⟩;obtain⟨vs,u,B⟩:=d bs N ρ H a w s;refine⟨.tuple vs.toArray,?_,by simp only[qY,qO]; exact⟨vs,rfl,B⟩⟩;rw[rM,Array.mapM_eq_mapM_toList,c];simp only[kf,Sem.run_map,u,ke,kg];have:¬ vs.toArray.size=1:=by
   intro h1;simp at h1;have C:vs.length=(r::rs).length:=by rw[B.length,t]
   rw[h1]at C;cases rs with
   | nil=>exact e rfl
   | cons b l=>simp at C
  simp only[this,dif_neg,not_false_eq_true]
 cases x with
 | normal=>exact key (.inl rfl) h
 | exit i=>exact h.elim
 | ret=>exact key (.inr rfl) h
theorem zh.of_vc {P:Program} {f:FuncId} {fn:Func} {args:List FV} {lo:List AObj} {R:FV->List AObj->Prop} {inl:List Nat} (hm:P.follows .mixedOrders=true) (he:Enters P f) (hf:P.funcs[f]? =some fn) (d:RO inl fn args.length=true)
  (h:vcI P inl fn args lo R):zh P f args lo R:=by
 intro Lw bs ρ H w vs s q;rw[he];refine⟨rfl,?_⟩;simp only[RO,ji,kde]at d;obtain⟨j,B⟩:=d;unfold vcI at h;cases l:fn.body with
 | none=>simp[l]at j
 | some c=>
  simp only[l]at h j;have h:=vC h;rw[jx]at h;refine calls_of_wp hf l ?_;have C:=q.length;have sat:Sat { S:=qbe ρ lo,w0:=w,H0:=H,r0:=ρ } fn.ntmps ρ H (qW (tc 0 args)) lo { tmps:=vs.toArray++Array.replicate (fn.ntmps - vs.toArray.size) undef,defers:=[] } w:=by
   refine{ s.lend with slots:=fun t=>?_,width:=by simp; omega,defers:=rfl }
   rw[Xu];simp only[jS,if_true,Nat.sub_zero];cases u:args[t]? with
   | none=>trivial
   | some p=>
    obtain⟨v,i,rv⟩:=q.get u;have m:=(jG.1 i).1;have:(vs.toArray++Array.replicate (fn.ntmps - vs.toArray.size) undef).getD t undef=v:=by
     rw[jX,Array.getElem?_append_left (by simpa using m)];simp[i]
    rw[this];exact rv
  refine wp_mono (gM hm c _ _ _ j h _ ρ H _ w s.hlen sat) fun e a w' p=>?_;obtain⟨x,ρ',H',E',lo',y,b,k⟩:=p;obtain⟨p,z,n,g⟩:=Lb k;obtain⟨v,i,rv⟩:=g _ _ ρ' H' a w' b;have fin:∃ v,(results fn a.tmps).run P w'=.ok v w'/\(fun A o=>∃ v r lo',A=Ending.returned v/\tf bs ρ H r lo' v o/\R r lo') (.returned v) w':=
   ⟨v,i,v,p,lo',rfl,⟨ρ',H',b.pre,b.leH,s.back b.toSatW,rv⟩,z⟩
  rcases n with rfl|rfl<;>cases e<;>simp only[Rz]at y
  ·exact⟨b.defers,fin⟩
  exact⟨b.defers,fin⟩
end Ax
end
section
namespace Ax
open Go
inductive Val where
 | mk (kind:Int) (b:Bool) (i:Int) (s:List UInt8) (l:List Val) (k:List (List UInt8))
def qv (l:List (List UInt8)):List (List PV):=l.map fun s=>[.str s]
mutual
def Val.cells:Val->List PV
 | .mk k b i s l ks=>[.int .i64 k,.bool b,.int .i64 i,.str s,.sl (Val.rows l),.sl (qv ks)]
def Val.rows:List Val->List (List PV)
 | []=>[]
 | v::l=>v.cells::Val.rows l
end
abbrev Val.pv (v:Val):PV:=.agg v.cells
def vals (l:List Val):List (List PV):=l.map Val.cells
theorem rows_eq:∀ l:List Val,Val.rows l=vals l
 | []=>rfl
 | v::l=>by simp only[Val.rows,vals,jk]; rw[rows_eq l]; rfl
@[simp] theorem bK (l:List (List UInt8)):(qv l).length=l.length:=by simp[qv]
@[simp] theorem bL (l:List Val):(vals l).length=l.length:=by simp[vals]
theorem tx (v:Val):v.cells.length=6:=by cases v; rfl
theorem lp (l:List Val):∀ r∈vals l,r.length=6:=by
 intro r a;simp only[vals,List.mem_map]at a;obtain⟨v,_,rfl⟩:=a;exact tx v
theorem lF (n:Int) (a:-9223372036854775808<=n) (h1:n<=9223372036854775807):kwr .i64 n=n:=IntWalk.i64_in n ⟨a,h1⟩
instance:Inhabited Val:=⟨.mk 0 false 0 [] [] []⟩
end Ax
end
section
namespace Ax
open Go
def qgf:List (List UInt8)->Nat
 | []=>0
 | k::l=>k.length+1+qgf l
mutual
def Val.big:Val->Nat
 | .mk _ _ _ s l ks=>1+s.length+qf5 l+qgf ks
def qf5:List Val->Nat
 | []=>0
 | v::l=>Val.big v+qf5 l
end
end Ax
end
section
namespace Ax
open Go
theorem MO:∀ a b:List UInt8,(Op.bytesLess a b||a==b)=!Op.bytesLess b a
 | [],[]=>rfl
 | [],_::_=>rfl
 | _::_,[]=>rfl
 | x::xs,y::ys=>by
  have ih:=MO xs ys;simp only[Op.bytesLess];rcases Nat.lt_trichotomy x.toNat y.toNat with h|h|h
  ·have h1:x<y:=UInt8.lt_iff_toNat_lt.2 h
   have h2:¬ y<x:=fun c=>by have:=UInt8.lt_iff_toNat_lt.1 c; omega
   have h3:¬ y=x:=fun c=>by subst c; omega
   simp[h1,h2,h3]
  ·have h1:x=y:=UInt8.toNat.inj h
   subst h1;have h2:¬ x<x:=fun c=>by have:=UInt8.lt_iff_toNat_lt.1 c; omega
   simp only[h2,List.cons_beq_cons];simpa using ih
  have h1:¬ x<y:=fun c=>by have:=UInt8.lt_iff_toNat_lt.1 c; omega
  have h2:y<x:=UInt8.lt_iff_toNat_lt.2 h;have h3:¬ x=y:=fun c=>by subst c; omega
  simp[h1,h2,h3]
end Ax
end
section
namespace Ax
open Go
end Ax
end
section
namespace Ax
open Go
variable {Lw:Nat}
theorem zh.noEscape {P:Program} {f:FuncId} {fn:Func} (hf:P.funcs[f]? =some fn) (hname:(fn.name == "runtime.NumGoroutine")=false) (hb:fn.body.isNone=true) (hn:Extern.findNext fn=none)
  (he:Extern.find fn=some Extern.AbiNoEscape.same) {v:FV} {lo:List AObj} {R:FV->List AObj->Prop} (h:R v lo):zh P f [v] lo R:=by
 intro Lw bs ρ H w vs s rl;simp only[xa]at rl;obtain⟨v',_,rfl,rv,rfl⟩:=rl;rw[show([v']:List Value).toArray = #[v']from rfl,run_callFunc_extern hf hname hb hn he];exact⟨v,lo,⟨ρ,H,jq _,PH.le.refl H,s,rv⟩,h⟩
end Ax
end
section
namespace Go.Proofs
open Go Go.Shelf Go.RowKit Ax
variable {P:Program} {ρ:Ren}
def Cg (l:List UInt8) (v:Value) (w:World) (e:Ending) (w':World):Prop:=
 e=.returned (.string ⟨l.toArray⟩)/\(w'=w.drew\/(∃ g n,qR v=some g/\w'=w.drew.freeze ⟨g,0,none⟩ n)\/∃ o,w'=w.drew.alloc o)
set_option maxHeartbeats 2000000 in
set_option maxRecDepth 100000 in
theorem Any.String_exact (L:Lays.n169 P ρ) (X:Builder.Extra P ρ) (b:Nat) (l:List UInt8) (w:World) (p v:Value) (c:w.heap[b]? =some (.cells #[p,v] (ρ.t 72) (0,0)))
  (a:w.ownsRow 0 (ρ.t 5) 1 v l.length (Lib.byteCells l)) (k:l≠[]) :
  Calls P (ρ.f 169) #[.pointer (some ⟨b,0,none⟩)] w (Cg l v w):=by
 have d:l.length≠0:=by simpa using k
 obtain⟨g,cap,cur,rfl,m,n,e,o,h⟩:∃ g cap cur,v=.slice (some ⟨g,0,none⟩) l.length cap/\w.heap[g]? =some (.cells cur (ρ.t 5) (0,0))/\l.length<=cap/\cap<=maxLen/\cur.size=cap * 1/\cur.toList.take (l.length * 1)=Lib.byteCells l:=by
  rcases a.2 with ⟨_,hz⟩|⟨g,cap,cur,q,_,r⟩
  ·exact absurd hz d
  exact⟨g,cap,cur,q,r⟩
 have c1:w.drew.cell? ⟨b,1,none⟩=some (.slice (some ⟨g,0,none⟩) l.length cap):=by
  have:w.drew.heap[b]? =some (.cells #[p,.slice (some ⟨g,0,none⟩) l.length cap] (ρ.t 72) (0,0)):=c;rw[Lib.cell_of_heap this]; rfl
 have s:(Builtin.unsafeSliceData_ #[(ρ.t 37)] (ρ.t 127) #[.slice (some ⟨g,0,none⟩) l.length cap]).run P w.drew=.ok (.pointer (some ⟨g,0,none⟩)) w.drew:=
  Lib.run_unsafeSliceData_row _ _ _ _ _ _ (by omega)
 have u:(Builtin.unsafeString_ #[(ρ.t 127),(ρ.t 3)] (ρ.t 9) #[.pointer (some ⟨g,0,none⟩),.int .i64 l.length]).run P w.drew=.ok (.string ⟨l.toArray⟩) (w.drew.freeze ⟨g,0,none⟩ l.length):=by
  refine Lib.run_unsafeString_row w.drew (ρ.t 127) (ρ.t 3) (ρ.t 9) (ρ.t 5) L.t127 X.cellsByte g cur.size (by have i:w.drew.heap[g]? =some (.cells cur (ρ.t 5) (0,0)):=m; simp[World.shape?,i]) l k (by omega) (by unfold maxLen at e; omega) ?_;intro j x y;exact a.cells (g:=g) rfl j (.int .u8 x.toNat) (by simp[Lib.byteCells,y])
 have mixed:=L.mixed;have t72:=L.t72; have a72:=L.a72; have z72:=L.z72; have v72:=L.v72; have u72:=kru L.t72;have t70:=L.t70; have a70:=L.a70; have z70:=L.z70; have v70:=L.v70; have u70:=kru L.t70;have t37:=L.t37; have a37:=L.a37; have z37:=L.z37; have v37:=L.v37; have u37:=kru L.t37;have t127:=L.t127; have a127:=L.a127; have z127:=L.z127; have v127:=L.v127; have u127:=kru L.t127;have t3:=L.t3; have a3:=L.a3; have z3:=L.z3; have v3:=L.v3; have u3:=kru L.t3;have t9:=L.t9; have a9:=L.a9; have z9:=L.z9; have v9:=L.v9; have u9:=kru L.t9;have t5:=X.t5; have a5:=X.a5; have z5:=X.z5; have v5:=X.v5; have u5:=kru X.t5
 go_enter L.f169,Body.n169_ntmps ρ
 go_wp2
 go_region_o
 all_goals (go_wp2; go_ret; exact⟨rfl,.inr (.inl ⟨g,l.length,rfl,rfl⟩)⟩)
theorem Any.String_empty (L:Lays.n169 P ρ) (X:Builder.Extra P ρ) (b:Nat) (w:World) (p v:Value) (a:w.heap[b]? =some (.cells #[p,v] (ρ.t 72) (0,0)))
  (c:w.ownsRow 0 (ρ.t 5) 1 v 0 []) :
  Calls P (ρ.f 169) #[.pointer (some ⟨b,0,none⟩)] w fun e w'=>e=.returned (.string ⟨#[]⟩)/\Below w.heap.size w w':=by
 rcases c.2 with ⟨rfl,_⟩|⟨g,cap,cur,rfl,_,h,_,_,_,_⟩
 ·exact Any.Builder_String_nil L X _ b p w a
 by_cases d:cap=0
 ·subst d
  exact Any.Builder_String_noroom L X _ b g p cur w (jw _) a h
 exact Any.Builder_String_room L X _ b g cap p w d a
end Go.Proofs
end
section
namespace Ax
open Go Go.Proofs Go.RowKit
variable {Lw:Nat}
structure Shut (v:Value) (w w':World):Prop where
 os:w'.os=w.os
 tape:w'.tape=w.tape
 output:w'.output=w.output
 size:w.heap.size<=w'.heap.size
 block:∀ k,k<w.heap.size->qR v≠some k->w'.heap[k]? =w.heap[k]?
 cell:∀ a x,w.cell? a=some x->w'.cell? a=some x
theorem Shut.of {l:List UInt8} {v:Value} {w w':World} {e:Ending} (h:Cg l v w e w'):Shut v w w':=by
 obtain⟨_,rfl|⟨g,n,j,rfl⟩|⟨o,rfl⟩⟩:=h
 ·exact⟨rfl,rfl,rfl,jw _,fun _ _ _=>rfl,fun _ _ h=>h⟩
 ·have m:∀ k,k≠g->(w.drew.freeze ⟨g,0,none⟩ n).heap[k]? =w.heap[k]?:=by
   intro k f;unfold World.freeze;split
   ·rfl
   simp only[Array.getElem?_modify];rw[if_neg (by omega)]; rfl
  refine⟨?_,?_,?_,?_,fun k _ f=>m k (fun e=>f (by rw[j,e])),fun a x b=>?_⟩
  ·unfold World.freeze; split<;>rfl
  ·unfold World.freeze; split<;>rfl
  ·unfold World.freeze; split<;>rfl
  ·unfold World.freeze; split
   ·exact jw _
   simp
  unfold World.freeze;split
  ·exact b
  unfold World.cell? at b ⊢;split at b
  ·rename_i c p q r
   have i:w.drew.heap[a.block]? =some (.cells c p q):=r;simp only[Array.getElem?_modify,i,Option.map_some];by_cases d:g=a.block
   ·simp only[d,if_true]; exact b
   simp only[d,if_false]; exact b
  exact absurd b (by simp)
 refine⟨rfl,rfl,rfl,by simp,fun k f _=>?_,fun a x b=>?_⟩
 ·exact Go.RowKit.Below.heap_alloc w.drew o k f
 rw[World.cell?_alloc_lt (h:=World.block_lt_of_cell? w.drew a b)]; exact b
theorem SatW.shut {bs:(Base Lw)} {ρ:List Value} {H:(PH Lw)} {lo:List AObj} {w w':World} (s:SatW bs ρ H lo w) {j:Nat} {v:Value} {e:TypeId} {z n:Nat} (p:lo[j]? =some (.tail e z n)) (q:ρ[j]? =some v)
  (h:Shut v w w') (f:∀ b o x,qR v=some b->H b o=some x->∃ m,x=.int .u8 m):SatW bs ρ H (lo.set j .dead) w' where
 sath:=⟨fun b o x c=>⟨h.cell _ _ (s.sath.cell b o x c).1,(s.sath.cell b o x c).2⟩,s.sath.root,Nat.le_trans s.sath.low h.size,fun b o x c A=>by
  by_cases d:qR v=some b
  ·exact .inl (f b o x d c)
  exact(s.sath.nf b o x c A).block (h.block b (s.sath.lt c) d)⟩
 hlen:=by simpa using s.hlen
 pre:=s.pre
 objs:=fun i o u a hu=>by
  rw[jF]at a;split at a
  ·split at a
   ·cases a; trivial
   cases a
  ·rename_i g
   cases r:o.live with
   | false=>cases o<;>simp[AObj.live]at r; trivial
   | true=>
    refine(s.objs i o u a hu).keep (jq _) (PH.le.refl H) (fun b d l=>h.block b l fun e=>?_) (fun _ _ _ _ B=>B)
    exact s.excl i j o _ u v b a p hu q (fun e=>g e.symm) r rfl d e
 excl:=s.kill j |>.excl
 own:=s.kill j |>.own
 keep:=by
  refine⟨h.os.trans s.keep.os,h.tape.trans s.keep.tape,h.output.trans s.keep.output,Nat.le_trans s.keep.size h.size,fun k t y=>?_⟩;rw[h.block k (Nat.lt_of_lt_of_le t s.keep.size) fun e=>?_]
  ·exact s.keep.block k t y
  rcases s.own j _ v k p q rfl e with h1|h1
  ·exact y h1
  omega
 leH:=s.leH
 newH:=s.newH
theorem zh.string {P:Program} {f:FuncId} {T E:TypeId} (q:∀ args w,(callFunc f args).run P w=.ok (.enter f args) w)
  (I:∀(b:Nat) (l:List UInt8) (w:World) (p v:Value),w.heap[b]? =some (.cells #[p,v] T (0,0))->w.ownsRow 0 E 1 v l.length (Lib.byteCells l)->l≠[] ->
   Calls P f #[.pointer (some ⟨b,0,none⟩)] w (Cg l v w))
  {k j:Nat} {a:FV} {bs:List UInt8} {lo:List AObj} {n:Nat} {R:FV->List AObj->Prop} (J:lo[k]? =some (.box T [a,.tsl j (qo bs)])) (C:lo[j]? =some (.tail E 1 n))
  (D:bs≠[]) (h:R (.p (.str bs)) (lo.set j .dead)):zh P f [.ptr k 0] lo R:=by
 intro Lw K ρ H w vs s L;obtain⟨u,_,rfl,M,rfl⟩:=L;obtain⟨b,y,rfl⟩:=M;rw[show([Value.pointer (some ⟨b,0,none⟩)]:List Value).toArray = #[.pointer (some ⟨b,0,none⟩)]from rfl,q];refine⟨rfl,?_⟩;obtain⟨Z,vs,N,O,r,_⟩:=s.objs k _ _ J y;cases N;simp only[xa]at r;obtain⟨p,_,rfl,_,v,_,rfl,⟨F,d⟩,rfl⟩:=r;obtain⟨xs,c,Q⟩:=s.objs j _ v C F;have A:n=bs.length/\xs=Lib.byteCells bs:=by
  simp only[qO]at d;rcases d with ⟨m,_⟩|⟨g,o,z,cap,rfl,_,S⟩
  ·exact absurd (by simpa[qo]using m) D
  rcases c.2 with ⟨m,_⟩|⟨g',G,cur,m,_⟩
  ·cases m
  simp only[Value.slice.injEq,Option.some.injEq,Addr.mk.injEq]at m;obtain⟨⟨rfl,rfl,_⟩,U,_⟩:=m;have t:n=bs.length:=by rw[← U]; simp[qo]
  refine⟨t,?_⟩;have V:=c.1;have hcell:=Dv s.sath S;refine List.ext_getElem (by rw[V,Lib.byteCells_length,t,Nat.mul_one]) fun j h1 h2=>?_;have B:j<bs.length:=by rw[Lib.byteCells_length]at h2; exact h2
  have c1:=c.cells (g:=g) rfl j _ (jf h1);rw[hcell j B]at c1;simp only[Option.some.injEq]at c1;rw[← c1];simp[Lib.byteCells]
 obtain⟨rfl,rfl⟩:=A;refine(I b bs w p v O c D).mono fun e w' hp=>?_;exact⟨_,.p (.str bs),lo.set j .dead,hp.1,⟨ρ,H,jq _,PH.le.refl H,s.shut C F (Shut.of hp) (fun b o x y i=>by
  obtain⟨X,a2⟩:=Q b y;have Y:o<(Lib.byteCells bs).length:=by
   rw[Lib.byteCells_length];rcases Nat.lt_or_ge o (bs.length * 1)with h1|h1
   ·omega
   rw[a2 o h1]at i; cases i
  have h2:=X o _ (jf Y);rw[i]at h2;rw[Option.some.inj h2];simp[Lib.byteCells]),by simp[qY,qO]⟩,h⟩
theorem SatH.below {H:(PH Lw)} {w w':World} (s:SatH H w) (h:Below w.heap.size w w'):Calm H w H w':=
 ⟨PH.le.refl H,s.block h.size fun b _ _ a=>h.block b (s.lt a),⟨h.os,h.tape,h.output,h.size,fun k c _=>h.block k c⟩,fun _ _ v a=>.inl ⟨v,a⟩⟩
abbrev Ch (P:Program) (f:FuncId) (T E:TypeId):Prop:=∀(b:Nat) (w:World) (p v:Value),w.heap[b]? =some (.cells #[p,v] T (0,0))->w.ownsRow 0 E 1 v 0 [] ->
   Calls P f #[.pointer (some ⟨b,0,none⟩)] w fun e w'=>e=.returned (.string ⟨#[]⟩)/\Below w.heap.size w w'
theorem zh.string_any {P:Program} {f:FuncId} {T E:TypeId} (d:∀ args w,(callFunc f args).run P w=.ok (.enter f args) w)
  (C:∀(b:Nat) (l:List UInt8) (w:World) (p v:Value),w.heap[b]? =some (.cells #[p,v] T (0,0))->w.ownsRow 0 E 1 v l.length (Lib.byteCells l)->l≠[] ->
   Calls P f #[.pointer (some ⟨b,0,none⟩)] w (Cg l v w)) (t:Ch P f T E)
  {k j:Nat} {a:FV} {bs:List UInt8} {lo:List AObj} {n:Nat} {R:FV->List AObj->Prop} (y:lo[k]? =some (.box T [a,.tsl j (qo bs)])) (A:lo[j]? =some (.tail E 1 n))
  (h:R (.p (.str bs)) (lo.set j .dead)):zh P f [.ptr k 0] lo R:=by
 by_cases B:bs=[]
 ·subst B
  intro Lw D ρ H w vs s F;obtain⟨u,_,rfl,G,rfl⟩:=F;obtain⟨b,I,rfl⟩:=G;rw[show([Value.pointer (some ⟨b,0,none⟩)]:List Value).toArray = #[.pointer (some ⟨b,0,none⟩)]from rfl,d];refine⟨rfl,?_⟩;obtain⟨O,vs,J,K,m,_⟩:=s.objs k _ _ y I;cases J;simp only[xa]at m;obtain⟨p,_,rfl,_,v,_,rfl,⟨L,i⟩,rfl⟩:=m;obtain⟨xs,c,Q⟩:=s.objs j _ v A L;have M:n=0:=by
   simp only[qO,qo,jN]at i;rcases i with ⟨_,q⟩|⟨g,o,z,cap,rfl,_,_⟩
   ·rcases c.2 with ⟨_,hz⟩|⟨N,r,cur,e1,_⟩
    ·exact hz
    rcases q with q|⟨a0,S,q⟩
    ·rw[q]at e1; cases e1
    rw[q]at e1;simp only[Value.slice.injEq]at e1;exact e1.2.1.symm
   rcases c.2 with ⟨e1,hz⟩|⟨N,r,cur,e1,_⟩
   ·cases e1
   simp only[Value.slice.injEq]at e1;exact e1.2.1.symm
  subst M;have x:xs=[]:=by have:=c.1; simpa using this
  subst x;refine(t b w p v K c).mono fun e w' hp=>?_;exact⟨_,.p (.str []),lo.set j .dead,hp.1,⟨ρ,H,jq _,PH.le.refl H,(s.kill j).calm (s.sath.below hp.2),by simp[qY,qO]⟩,h⟩
 exact zh.string d C y A B h
end Ax
end
section
namespace Ax
open Go
variable {Lw:Nat}
mutual
def PV.norm:PV->PV
 | .nilsl=>.sl []
 | .agg cs=>.agg (BJ cs)
 | .tup cs=>.tup (BJ cs)
 | .sl rows=>.sl (Mt rows)
 | v=>v
def BJ:List PV->List PV
 | []=>[]
 | c::cs=>c.norm::BJ cs
def Mt:List (List PV)->List (List PV)
 | []=>[]
 | r::rs=>BJ r::Mt rs
end
theorem Xd:∀ rows:List (List PV),(Mt rows).length=rows.length
 | []=>rfl
 | _::l=>by simp[Mt,Xd l]
theorem Gz:∀ cs:List PV,(BJ cs).length=cs.length
 | []=>rfl
 | _::l=>by simp[BJ,Gz l]
mutual
theorem qO.norm {H:(PH Lw)}:∀{c:PV} {v:Value},qO H c v->qO H c.norm v
 | .nilsl,v,h=>by simp only[PV.norm,qO]at *; exact .inl ⟨trivial,.inl h⟩
 | .agg cs,v,h=>by
  simp only[PV.norm,qO]at *;obtain⟨vs,e,r⟩:=h;exact⟨vs,e,zC.norm r⟩
 | .tup cs,v,h=>by
  simp only[PV.norm,qO]at *;obtain⟨vs,e,r⟩:=h;exact⟨vs,e,zC.norm r⟩
 | .sl rows,v,h=>by
  simp only[PV.norm,qO]at *;rcases h with ⟨rfl,h⟩|⟨b,o,z,cap,e,hc,r⟩
  ·exact .inl ⟨rfl,h⟩
  exact .inr ⟨b,o,z,cap,by rw[Xd]; exact e,by rw[Xd]; exact hc,nA.norm r⟩
 | .bool _,_,h|.int ..,_,h|.str _,_,h|.nilp,_,h|.fn _,_,h|.nilfn,_,h|.nili,_,h|.nilmap,_,h|.ifc ..,_,h|.hp _,_,h|.clo ..,_,h|.bfn ..,_,h|.ifo ..,_,h|.nsl _,_,h=>by
  simpa only[PV.norm]using h
theorem zC.norm {H:(PH Lw)}:∀{cs:List PV} {vs:List Value},zC H cs vs->zC H (BJ cs) vs
 | [],_,h=>by simpa only[BJ]using h
 | c::cs,vs,h=>by
  simp only[BJ,zC]at *;obtain⟨v,vs',e,r,rs⟩:=h;exact⟨v,vs',e,qO.norm r,zC.norm rs⟩
theorem nA.norm {H:(PH Lw)} {b z:Nat}:∀{rows:List (List PV)} {o:Nat},nA H b z o rows->nA H b z o (Mt rows)
 | [],_,h=>by simpa only[Mt]using h
 | r::rs,o,h=>by
  simp only[Mt,nA]at *;obtain⟨e,⟨vs,q,c⟩,rr⟩:=h;exact⟨by rw[Gz]; exact e,⟨vs,zC.norm q,c⟩,nA.norm rr⟩
end
theorem qh.norm {P:Program} {f:FuncId} {args:List PV} {r a:PV} (h:qh P f args r) (e:r.norm=a):qh P f args a:=by
 subst e;intro Lw H w vs b d;have:=h H w vs b d;generalize (callFunc f vs.toArray).run P w=x at *;cases x with
 | ok n w'=>
  cases n<;>simp only[Xn]at this ⊢ <;> try exact this
  ·obtain⟨H',c,r⟩:=this; exact⟨H',c,qO.norm r⟩
  exact⟨this.1,this.2.mono fun i g ⟨v,H',e,c,r⟩=>⟨v,H',e,c,qO.norm r⟩⟩
 | halt x w'=>exact this
theorem qh.args {P:Program} {f:FuncId} {args a:List PV} {r:PV} (h:qh P f a r) (e:BJ args=a):qh P f args r:=by
 subst e;exact fun Lw H w vs b c=>h H w vs b (zC.norm c)
end Ax
end
section
namespace Ax
open Go
section
variable {A R S:Type}
def chk (b:Bool) (k:Option R):Option R:=match b with|true=>k|false=>none
theorem qu {b:Bool} {k:Option R} {r:R} (h:chk b k=some r):b=true/\k=some r:=by
 cases b with
 | true=>exact⟨rfl,h⟩
 | false=>cases h
def bnd (o:Option A) (k:A->Option R):Option R:=match o with|some a=>k a|none=>none
theorem qQ {o:Option A} {k:A->Option R} {r:R} (h:bnd o k=some r):∃ x,o=some x/\k x=some r:=by
 cases o with
 | some a=>exact⟨a,rfl,h⟩
 | none=>cases h
theorem uw {c:Bool} {a b:Option R} {r:R} (h:(bif c then a else b)=some r) (d:c=true):a=some r:=by subst d; exact h
theorem uv {c:Bool} {a b:Option R} {r:R} (h:(bif c then a else b)=some r) (d:c=false):b=some r:=by subst d; exact h
def idx (l:List A) (i:Int):Option A:=if 0<=i then l[i.toNat]? else none
theorem QK {l:List A} {i:Int} {x:A} (h:idx l i=some x):0<=i/\l[i.toNat]? =some x:=by
 unfold idx at h;split at h
 ·exact⟨by assumption,h⟩
 cases h
def qz [Inhabited A] (g:Bool) (o:Option A):Option A:=bif g then o else some default
theorem fC [Inhabited A] {g:Bool} {o:Option A} {x:A} (h:qz g o=some x) (a:g=true):o=some x:=by subst a; exact h
def pY (i:Int):Option Nat:=if 0<=i then some i.toNat else none
theorem cV {i:Int} {n:Nat} (h:pY i=some n):i=n:=by
 unfold pY at h;split at h
 ·cases h; omega
 cases h
def u8I (i:Int):Option UInt8:=if 0<=i/\i<256 then some (UInt8.ofNat i.toNat)else none
theorem xj {i:Int} {b:UInt8} (h:u8I i=some b):i=(b.toNat:Int):=by
 unfold u8I at h;split at h
 ·cases h
  simp only[UInt8.toNat_ofNat'];omega
 cases h
theorem gd {g c:Bool} (h:(bif g then c else true)=true) (a:g=true):c=true:=by subst a; exact h
def qy (B:(S->Option R)->S->Option R):Nat->S->Option R
 | 0,_=>none
 | n+1,s=>B (qy B n) s
end
structure Codec (A:Type) where
 cells:A->List PV
 rows:List A->List (List PV)
 z:Nat
 hrows:∀ l,rows l=l.map cells
 hz:∀ a,(cells a).length=z
 hone:∀ a,(cells a).all Uq=true
namespace Codec
variable {A:Type} (C:Codec A)
theorem at_ {l:List A} {i:Int} {x:A} (h:idx l i=some x):0<=i/\(C.rows l)[i.toNat]? =some (C.cells x)/\(C.cells x).length=C.z:=by
 obtain⟨a,h1⟩:=QK h;exact⟨a,by rw[C.hrows]; simp[h1],C.hz x⟩
theorem length (l:List A):(C.rows l).length=l.length:=by rw[C.hrows]; simp
theorem append (a b:List A):C.rows a++C.rows b=C.rows (a++b):=by simp[C.hrows]
theorem take (l:List A) (n:Nat):(C.rows l).take n=C.rows (l.take n):=by simp[C.hrows]
theorem drop (l:List A) (n:Nat):(C.rows l).drop n=C.rows (l.drop n):=by simp[C.hrows]
theorem cut (l:List A) (n m:Nat):((C.rows l).take n).drop m=C.rows ((l.take n).drop m):=by simp[C.hrows]
theorem dropAll (l:List A) (m:Nat):((C.rows l).take (C.rows l).length).drop m=C.rows (l.drop m):=by rw[List.take_length,C.drop]
theorem wide (l:List A):∀ r∈C.rows l,r.length=C.z:=by
 intro r b;rw[C.hrows]at b;obtain⟨a,_,rfl⟩:=List.mem_map.1 b;exact C.hz a
theorem one (l:List A):∀ r∈C.rows l,r.length=C.z/\r.all Uq=true:=by
 intro r b;rw[C.hrows]at b;obtain⟨a,_,rfl⟩:=List.mem_map.1 b;exact⟨C.hz a,C.hone a⟩
theorem made (x:A) (n:Nat) {a:List PV} (h:a=C.cells x):List.replicate n a=C.rows (List.replicate n x)\/Vw (List.replicate n a) (C.rows (List.replicate n x)):=by
 subst h; rw[C.hrows]; exact .inl (by simp)
theorem madeN (x:A) (n:Nat) {a:List PV} (h:EG a (C.cells x)):List.replicate n a=C.rows (List.replicate n x)\/Vw (List.replicate n a) (C.rows (List.replicate n x)):=by
 rw[C.hrows];refine .inr ?_
 induction n with
 | zero=>trivial
 | succ n ih=>simp only[List.replicate_succ,jk,Vw]; exact⟨h,by simpa using ih⟩
end Codec
def xZ (k:IntKind) (l:List Int):List (List PV):=l.map fun n=>[PV.int k n]
def pj {A:Type} (C:Codec A) (l:List (List A)):List (List PV):=l.map fun x=>[PV.sl (C.rows x)]
def CZ:Codec (List UInt8):={ cells:=fun s=>[.str s],rows:=qv,z:=1,hrows:=fun _=>rfl,hz:=fun _=>rfl,hone:=fun _=>rfl }
def zX:Codec UInt8:={ cells:=fun b=>[.int .u8 b.toNat],rows:=qo,z:=1,hrows:=fun _=>rfl,hz:=fun _=>rfl,hone:=fun _=>rfl }
def qa5 (k:IntKind):Codec Int:={ cells:=fun n=>[.int k n],rows:=xZ k,z:=1,hrows:=fun _=>rfl,hz:=fun _=>rfl,hone:=fun _=>rfl }
def slC {A:Type} (C:Codec A):Codec (List A):={ cells:=fun x=>[.sl (C.rows x)],rows:=pj C,z:=1,hrows:=fun _=>rfl,hz:=fun _=>rfl,hone:=fun _=>rfl }
theorem Val.one (v:Val):v.cells.all Uq=true:=by cases v; rfl
def zx:Codec Val:={ cells:=Val.cells,rows:=Val.rows,z:=6,hrows:=fun l=>rows_eq l,hz:=tx,hone:=Val.one }
theorem DQ {a:List PV} (h:a.all Uq=true):∀ c∈a,Uq c=true:=by simpa using h
theorem qcz {k:IntKind} {es:List Int} {cs:List PV} {i x:Int} {n:Nat} (h:idx es i=some x) (e:es.map (PV.int k)=cs) (b:es.length<=n):0<=i/\i<(n:Int)/\cs[i.toNat]? =some (.int k x):=by
 obtain⟨a,h1⟩:=QK h;have h2:=(jG.1 h1).1;refine⟨a,by omega,?_⟩;rw[← e];simp[h1]
theorem xY {n b:Nat} (h:decide (n * b<=140737488355328)=true) (a:1<=b):n<=9223372036854775807:=by
 have:=kod h;have:n * 1<=n * b:=Nat.mul_le_mul_left n a;omega
theorem qh.leArgs {P:Program} {f:FuncId} {args a:List PV} {r:PV} (h:qh P f a r) (e:EG args a):qh P f args r:=
 fun Lw H w vs b c=>h H w vs b (tE e c)
theorem qh.le {P:Program} {f:FuncId} {args:List PV} {r a:PV} (h:qh P f args r) (e:nle r a):qh P f args a:=by
 intro Lw H w vs b d;have:=h H w vs b d;generalize (callFunc f vs.toArray).run P w=x at *;cases x with
 | ok n w'=>
  cases n<;>simp only[Xn]at this ⊢ <;> try exact this
  ·obtain⟨H',c,r⟩:=this; exact⟨H',c,Ge e r⟩
  exact⟨this.1,this.2.mono fun i g ⟨v,H',e1,c,r⟩=>⟨v,H',e1,c,Ge e r⟩⟩
 | halt x w'=>exact this
theorem uh.fn {P:Program} (inl:List Nat) {N nb:Nat} {body:Code} {K:KA} {E:Env} {lo:List AObj} {S R:Type} (l:S->Env) (m:S->List AObj) {B:(S->Option R)->S->Option R} {n:Nat} {o:S} {r:R}
  (h:qy B n o=some r) (hw:Fg nb E lo (l o) (m o))
  (round:∀(next:S->Option R) (s:S),B next s=some r->vc P inl N nb body (fun x E' lo'=>match x with
   | .normal=>∃ c,next c=some r/\Fg nb E' lo' (l c) (m c)
   | .exit i=>K (.exit i) E' lo'
   | .ret=>K .ret E' lo') (l s) (m s)):uh P inl N nb body K E lo:=by
 intro hm z Lw bs ρ H a w D sat;subst D;obtain⟨ρ',d⟩:=hw.sat sat;refine wp_loop_ghost (I:=fun n a w=>∃ s ρ H,qy B n s=some r/\Sat bs N ρ H (qW (l s)) (m s) a w) n ⟨o,ρ',H,h,d⟩ fun n a w ⟨s,ρ,H,u,sat⟩=>?_;cases n with
 | zero=>cases u
 | succ n=>
  refine wp_mono (gM hm body _ _ _ z (round (qy B n) s u) bs ρ H a w rfl sat) fun e a w p=>?_;obtain⟨x,ρ2,q,v,f,y,b,k⟩:=p;cases x<;>cases e<;>simp only[Rz]at y
  ·obtain⟨c,g,t⟩:=k
   obtain⟨ρ3,j⟩:=t.sat b;exact⟨n,Nat.lt_succ_self _,c,ρ3,q,g,j⟩
  ·exact⟨.exit _,ρ2,q,v,f,y,b,k⟩
  exact⟨.ret,ρ2,q,v,f,trivial,b,k⟩
theorem rI.go {P:Program} {inl:List Nat} {N nb:Nat} {x y:Code} {K:KA} {E:Env} {lo:List AObj}
  (h:vc P inl N nb x (fun e E lo=>match e with|.normal=>vc P inl N nb y K E lo|.exit i=>K (.exit i) E lo|.ret=>K .ret E lo) E lo):rI P inl N nb x y K E lo:=by
 intro hm b f Lw bs ρ H a w d s;refine wp_seq (wp_mono (gM hm x _ E lo b h bs ρ H a w d s) fun e a w p=>?_);obtain⟨g,ρ',H',E',lo',b,c,k⟩:=p;cases g<;>cases e<;>simp only[Rz]at b
 ·exact gM hm y K E' lo' f k bs ρ' H' a w d c
 ·exact⟨.exit _,ρ',H',E',lo',b,c,k⟩
 exact⟨.ret,ρ',H',E',lo',trivial,c,k⟩
theorem rI.cut {P:Program} {inl:List Nat} {N nb:Nat} {x y:Code} {K:KA} {E:Env} {lo:List AObj} {S R:Type} (l:S->Env) (m:S->List AObj) (k:S->Option R) {r:R}
  (o:∀ s,k s=some r->vc P inl N nb y K (l s) (m s))
  (b:vc P inl N nb x (fun e E lo=>match e with|.normal=>∃ s,k s=some r/\Fg nb E lo (l s) (m s)|.exit i=>K (.exit i) E lo|.ret=>K .ret E lo) E lo):rI P inl N nb x y K E lo:=by
 intro hm c d Lw bs ρ H a w n s;refine wp_seq (wp_mono (gM hm x _ E lo c b bs ρ H a w n s) fun e a w p=>?_);obtain⟨q,ρ',H',E',lo',b,f,g⟩:=p;cases q<;>cases e<;>simp only[Rz]at b
 ·obtain⟨st,h,j⟩:=g
  subst n;obtain⟨ρ3,t⟩:=j.sat f;exact gM hm y K _ _ d (o st h) bs ρ3 H' a w rfl t
 ·exact⟨.exit _,ρ',H',E',lo',b,f,g⟩
 exact⟨.ret,ρ',H',E',lo',trivial,f,g⟩
theorem qh.of_vcN {P:Program} {f:FuncId} {fn:Func} {args:List PV} {r:PV} {inl:List Nat} (hm:P.follows .mixedOrders=true) (he:Enters P f) (hf:P.funcs[f]? =some fn) (a:RO inl fn args.length=true)
  (h:qed P inl fn args (fun v=>nle v r)):qh P f args r:=
 qh.of_vcR hm he hf a (fun _ _ _ _=>Ge) h
section
variable {A R S:Type}
theorem xr (B:(S->Option R)->S->Option R) (n:Nat) (s:S):qy B (n+1) s=B (qy B n) s:=rfl
@[simp] theorem qZ (a:A) (k:A->Option R):bnd (some a) k=k a:=rfl
@[simp] theorem qf9 (k:A->Option R):bnd none k=none:=rfl
@[simp] theorem qga (k:Option R):chk true k=k:=rfl
@[simp] theorem qfd (b:Bool) (k:Option R):chk b (chk b k)=chk b k:=by cases b<;>rfl
@[simp] theorem fP [Inhabited A] (o:Option A):qz true o=o:=rfl
@[simp] theorem Ea [Inhabited A] (o:Option A):qz false o=some default:=rfl
@[simp] theorem zu (l:List A) (i:Nat):idx l (i:Int)=l[i]?:=by unfold idx; simp
@[simp] theorem Nv (l:List A):idx l 0=l[0]?:=by unfold idx; simp
@[simp] theorem natI_nat (i:Nat):pY (i:Int)=some i:=by unfold pY; simp
@[simp] theorem Pg (b:UInt8):u8I ((b.toNat:Nat):Int)=some b:=by
 have:=b.toNat_lt;unfold u8I;rw[if_pos ⟨Int.natCast_nonneg _,by omega⟩];simp
@[simp] theorem EO (l:List UInt8):(qo l).length=l.length:=by simp[qo]
@[simp] theorem qn (l:List Val):(Val.rows l).length=l.length:=by rw[rows_eq]; simp
theorem gq {b:Bool} (k:Option R) (h:b=true):chk b k=k:=by subst h; rfl
end
end Ax
end
section
namespace Ax
open Go
variable {Lw:Nat}
def zw (P:Program) (f:FuncId) (args:List FV) (objs:List AObj) (m:Nat) (R:FV->List AObj->Prop):Prop:=
 ∀ ⦃Lw:Nat⦄ (bs:(Base Lw)) (ρ:List Value) (H:(PH Lw)) (w:World) (vs:List Value),bs.r0=ρ.take m->SatW bs ρ H objs w->xa ρ H args vs ->
  match (callFunc f vs.toArray).run P w with
  | .ok (.value v) w'=>∃ r a ρ' H',R r a/\PH.le H H'/\SatW bs ρ' H' a w'/\qY ρ' H' r v
  | .ok (.enter f' args') w'=>w'=w/\Calls P f' args' w fun c b=>∃ v r a ρ' H',c=.returned v/\R r a/\PH.le H H'/\SatW bs ρ' H' a b/\qY ρ' H' r v
  | _=>False
theorem zw.mono {P:Program} {f:FuncId} {args:List FV} {objs:List AObj} {m:Nat} {R R':FV->List AObj->Prop} (h:zw P f args objs m R) (b:∀ r lo,R r lo->R' r lo):zw P f args objs m R':=by
 intro Lw bs ρ H w vs c s d;have:=h bs ρ H w vs c s d;generalize (callFunc f vs.toArray).run P w=x at *;cases x with
 | ok n w'=>
  cases n<;>simp only at this ⊢ <;> try exact this
  ·obtain⟨r,a,ρ',H',h1,h2⟩:=this; exact⟨r,a,ρ',H',b _ _ h1,h2⟩
  exact⟨this.1,this.2.mono fun i g ⟨v,r,a,ρ',H',e,h1,h2⟩=>⟨v,r,a,ρ',H',e,b _ _ h1,h2⟩⟩
 | halt x w'=>exact this
def qhm (P:Program) (fn:Func) (m:Nat) (R:FV->List AObj->Prop):KA:=qfs P fn fun r0 lo=>∃ r a,R r a/\Fg m [(0,r0)] lo [(0,r)] a
def vcO (P:Program) (inl:List Nat) (fn:Func) (args:List FV) (objs:List AObj) (m:Nat) (R:FV->List AObj->Prop):Prop:=
 match fn.body with
 | some c=>vc P inl fn.ntmps m c (qhm P fn m R) (tc 0 args) objs
 | none=>False
theorem zw.of_vc {P:Program} {f:FuncId} {fn:Func} {args:List FV} {objs:List AObj} {m:Nat} {R:FV->List AObj->Prop} {inl:List Nat} (hm:P.follows .mixedOrders=true) (he:Enters P f) (hf:P.funcs[f]? =some fn) (j:RO inl fn args.length=true)
  (I:m<=objs.length) (h:vcO P inl fn args objs m R):zw P f args objs m R:=by
 intro Lw bs ρ H w vs y s G;rw[he];refine⟨rfl,?_⟩;simp only[RO,ji,kde]at j;obtain⟨z,N⟩:=j;unfold vcO at h;cases A:fn.body with
 | none=>simp[A]at z
 | some c=>
  simp only[A]at h z;refine calls_of_wp hf A ?_;have O:=G.length;have l:bs.r0.length=m:=by rw[y,jt,s.hlen]; omega
  have sat:Sat bs fn.ntmps ρ H (qW (tc 0 args)) objs { tmps:=vs.toArray++Array.replicate (fn.ntmps - vs.toArray.size) undef,defers:=[] } w:=by
   refine{ s with slots:=fun t=>?_,width:=by simp; omega,defers:=rfl }
   rw[Xu];simp only[jS,if_true,Nat.sub_zero];cases J:args[t]? with
   | none=>trivial
   | some p=>
    obtain⟨v,i,rv⟩:=G.get J;have B:=(jG.1 i).1;have:(vs.toArray++Array.replicate (fn.ntmps - vs.toArray.size) undef).getD t undef=v:=by
     rw[jX,Array.getElem?_append_left (by simpa using B)];simp[i]
    rw[this];exact rv
  have g:=gM hm c _ _ _ z h { bs with H0:=H } ρ H _ w l { sat with leH:=PH.le.refl H,newH:=fun b o v i=>.inl ⟨v,i⟩ }
  refine wp_mono g fun e a w' p=>?_;obtain⟨x,ρ',H',E',lo',K,q,k⟩:=p;obtain⟨r0,C,D,n⟩:=Lb k;obtain⟨r,d,C,hw⟩:=C;obtain⟨v,i,rv⟩:=n _ _ ρ' H' a w' q;have s1:Sat { bs with H0:=H } 1 ρ' H' (qW [(0,r0)]) lo' { tmps:=#[v],defers:=[] } w':=by
   refine{ q.toSatW with slots:=fun t=>?_,width:=rfl,defers:=rfl }
   cases t with
   | zero=>exact rv
   | succ t=>simp only[qW]; exact trivial
  obtain⟨ρ2,s2⟩:=Fg.sat s1 (by rw[l]; exact hw);have rv2:qY ρ2 H' r v:=s2.slots 0;have fin:∃ v,(results fn a.tmps).run P w'=.ok v w'/\(fun L E=>∃ v r d ρ' H',L=Ending.returned v/\R r d/\PH.le H H'/\SatW bs ρ' H' d E/\qY ρ' H' r v) (.returned v) w':=by
   refine⟨v,i,v,r,d,ρ2,H',rfl,C,s2.leH,?_,rv2⟩;refine{ s2.toSatW with leH:=s.leH.trans s2.leH,newH:=fun b o u hu=>?_ }
   rcases s2.newH b o u hu with ⟨M,F⟩|h|h
   ·exact s.newH b o M F
   ·exact .inr (.inl h)
   exact .inr (.inr h)
  rcases D with rfl|rfl<;>cases e<;>simp only[Rz]at K
  ·exact⟨q.defers,fin⟩
  exact⟨q.defers,fin⟩
def AObj.ren (σ:Nat->Nat):AObj->AObj
 | .box t cells=>.box t (cells.map (FV.ren σ))
 | .mp d es _=>.mp d es none
 | .vl e z rows j k=>.vl e z rows j (σ k)
 | .pbx t c=>.pbx t (c.ren σ)
 | o=>o
theorem qY.ren {ρ ρ':List Value} {H:(PH Lw)} {σ:Nat->Nat} (h:∀ i v,ρ[i]? =some v->ρ'[σ i]? =some v):∀{f:FV} {x:Value},qY ρ H f x->qY ρ' H (f.ren σ) x
 | .top,_,_=>trivial
 | .p p,x,r=>r
 | .opt g v,x,r=>by
  simp only[FV.ren,qY]at *;split
  ·rename_i d; simp only[d,if_true]at r; exact qY.ren h r
  rename_i d; simpa[d]using r
 | .tsl k rows,x,r=>⟨h _ _ r.1,r.2⟩
 | .ptr k off,x,⟨b,e,e'⟩=>⟨b,h _ _ e,e'⟩
 | .hptr row,x,r=>r
 | .bself k,x,⟨b,e,e'⟩=>⟨b,h _ _ e,e'⟩
 | .bsl k off len cap,x,⟨b,e,e'⟩=>⟨b,h _ _ e,e'⟩
 | .vsl k n,x,r=>⟨h _ _ r.1,r.2⟩
 | .eptr k z i off,x,⟨b,n,cap,e,e'⟩=>⟨b,n,cap,h _ _ e,e'⟩
 | .mref k,x,⟨b,e,e'⟩=>⟨b,h _ _ e,e'⟩
 | .pair a b,x,⟨u,v,e,ra,rb⟩=>⟨u,v,e,ra.ren h,rb.ren h⟩
 | .stmp k,x,r=>h _ _ r
 | .clo f c,x,⟨vs,e,rc⟩=>⟨vs,e,rc.ren h⟩
 | .cap0,x,r=>r
 | .cap a b,x,⟨u,vs,e,ra,rb⟩=>⟨u,vs,e,ra.ren h,rb.ren h⟩
 | .fagg c,x,⟨vs,e,rc⟩=>⟨vs,e,rc.ren h⟩
 | .nxt ok a b,x,r=>r
 | .asl k off n,x,⟨b,m,cap,c,e,e'⟩=>⟨b,m,cap,c,h _ _ e,e'⟩
 | .ifs t c,x,⟨u,e,rc⟩=>⟨u,e,rc.ren h⟩
 | .cut rows,x,r=>r
theorem xa.ren {ρ ρ':List Value} {H:(PH Lw)} {σ:Nat->Nat} (h:∀ i v,ρ[i]? =some v->ρ'[σ i]? =some v):∀{cs:List FV} {vs:List Value},xa ρ H cs vs->xa ρ' H (cs.map (FV.ren σ)) vs
 | [],_,r=>r
 | _::_,_,⟨v,vs',e,r,rs⟩=>⟨v,vs',e,r.ren h,rs.ren h⟩
theorem Zp.ren {ρ ρ':List Value} {H:(PH Lw)} {w:World} {σ:Nat->Nat} (h:∀ i v,ρ[i]? =some v->ρ'[σ i]? =some v) {v:Value} {o:AObj} (ok:Zp ρ H w v o):Zp ρ' H w v (o.ren σ):=by
 cases o with
 | dead=>trivial
 | box t cells=>
  obtain⟨b,vs,e,a,rc,f⟩:=ok;exact⟨b,vs,e,a,rc.ren h,f⟩
 | tail e z n=>exact ok
 | vec e z rows=>exact ok
 | mp d es mk=>
  obtain⟨b,ents,clock,e,a,g,⟨h1,h2,_⟩,f⟩:=ok;exact⟨b,ents,clock,e,a,g,⟨h1,h2,fun key s e=>by cases e⟩,f⟩
 | sit l p=>exact ok
 | bv l=>exact ok
 | vl e z rows j k=>
  obtain⟨xs,h1,h2,h3,h4,h5⟩:=ok;exact⟨xs,h1,h2,h3,h4,fun u hu=>h _ _ (h5 u hu)⟩
 | pbx t c=>
  obtain⟨b,u,us,e,a,rc,f⟩:=ok;exact⟨b,u,us,e,a,rc.ren h,f⟩
theorem AObj.ren_live (σ:Nat->Nat) (o:AObj):(o.ren σ).live=o.live:=by cases o<;>rfl
def σOf (l:List Nat) (m n:Nat):Nat->Nat:=fun i=>match Nat.blt i m with
 | true=>l.getD i 0
 | false=>n+(i - m)
def lQ:List Nat->List Nat->Nat->Nat->Option Nat
 | [],_,_,_=>none
 | k::l,fresh,i,j=>match Nat.beq k j with
  | true=>match fresh.contains i with
   | true=>lQ l fresh (i+1) j
   | false=>some i
  | false=>lQ l fresh (i+1) j
def Ms (l fresh:List Nat) (m:Nat) (σ:Nat->Nat) (a:List AObj) (j:Nat) (o:AObj):AObj:=
 match lQ l fresh 0 j with
 | some i=>match Nat.blt i m with
  | true=>match a[i]? with|some o'=>o'.ren σ|none=>.dead
  | false=>.dead
 | none=>o
def Um (l fresh:List Nat) (m:Nat) (σ:Nat->Nat) (a:List AObj):Nat->List AObj->List AObj
 | _,[]=>(a.drop m).map (AObj.ren σ)
 | j,o::lo=>Ms l fresh m σ a j o::Um l fresh m σ a (j+1) lo
def Dg (l fresh:List Nat) (m:Nat) (lo a:List AObj):List AObj:=Um l fresh m (σOf l m lo.length) a 0 lo
theorem Df {l fresh:List Nat} {m:Nat} {σ:Nat->Nat} {a:List AObj}:∀{lo:List AObj} {j i:Nat} {o:AObj},(Um l fresh m σ a j lo)[i]? =some o ->
  (∃ b,lo[i]? =some b/\o=Ms l fresh m σ a (j+i) b)\/(lo.length<=i/\∃ b,a[m+(i - lo.length)]? =some b/\o=b.ren σ)
 | [],j,i,o,h=>by
  simp only[Um,List.getElem?_map,jD]at h;cases c:a[m+i]? with
  | none=>simp[c]at h
  | some b=>
   simp[c]at h;exact .inr ⟨jS _,b,by simpa using c,h.symm⟩
 | x::lo,j,0,o,h=>by
  simp only[Um,jd,Option.some.injEq]at h;exact .inl ⟨x,rfl,h.symm⟩
 | x::lo,j,i+1,o,h=>by
  simp only[Um,List.getElem?_cons_succ]at h;rcases Df h with ⟨b,h1,h2⟩|⟨h1,b,h2,h3⟩
  ·exact .inl ⟨b,by simpa using h1,by rw[h2,Nat.add_assoc,Nat.add_comm 1 i]⟩
  refine .inr ⟨by simpa using h1,b,?_,h3⟩;simpa using h2
theorem Un {l fresh:List Nat} {m:Nat} {σ:Nat->Nat} {a:List AObj}:∀{lo:List AObj} {j:Nat},(Um l fresh m σ a j lo).length=lo.length+(a.length - m)
 | [],j=>by simp[Um]
 | x::lo,j=>by
  simp only[Um,ja,Un (lo:=lo)];omega
theorem HR {fresh:List Nat} {j:Nat}:∀{l:List Nat} {i0 i:Nat},lQ l fresh i0 j=some i->i0<=i/\l[i - i0]? =some j/\i ∉ fresh
 | [],_,_,h=>by simp[lQ]at h
 | k::l,i0,i,h=>by
  simp only[lQ]at h;have step:lQ l fresh (i0+1) j=some i->i0<=i/\(k::l)[i - i0]? =some j/\i ∉ fresh:=by
   intro h;obtain⟨h1,h2,h3⟩:=HR h;refine⟨by omega,?_,h3⟩;have e:i - i0=(i - (i0+1))+1:=by omega
   rw[e];simpa using h2
  split at h
  ·rename_i a
   have a:=jm a;split at h
   ·exact step h
   rename_i hf;cases h;exact⟨jw _,by simp[a],by simpa using hf⟩
  exact step h
theorem HQ {fresh:List Nat} {j:Nat}:∀{l:List Nat} {i0:Nat},lQ l fresh i0 j=none->∀ i,l[i]? =some j->i0+i∈fresh
 | [],_,_,i,h=>by simp at h
 | k::l,i0,h,i,hi=>by
  simp only[lQ]at h;cases i with
  | zero=>
   simp at hi;subst hi;simp only[Nat.beq_refl]at h;split at h
   ·rename_i hf; simpa using hf
   cases h
  | succ i=>
   have step:lQ l fresh (i0+1) j=none->i0+(i+1)∈fresh:=fun h=>by
    have:=HQ h i (by simpa using hi);have e:i0+1+i=i0+(i+1):=by omega
    rwa [e]at this
   split at h
   ·split at h
    ·exact step h
    cases h
   ·exact step h
def leArgs (π:Nat->Nat) (fresh:List Nat):List FV->List FV->Prop
 | [],[]=>True
 | a::l,b::m=>leF π fresh a b/\leArgs π fresh l m
 | _,_=>False
theorem Dd {ρ:List Value} {H:(PH Lw)} {π:Nat->Nat} {fresh:List Nat} {n:Nat}:∀{xs ys:List FV} {vs:List Value},leArgs π fresh xs ys->(∀ c∈ys,∀ k∈c.names,k<n)->xa ρ H xs vs->xa (Ls ρ π fresh n) H ys vs
 | [],[],vs,_,_,r=>r
 | [],_::_,_,h,_,_=>by simp[leArgs]at h
 | _::_,[],_,h,_,_=>by simp[leArgs]at h
 | a::xs,b::ys,vs,h,hn,r=>by
  simp only[leArgs]at h;obtain⟨v,d,e,f,rs⟩:=r;exact⟨v,d,e,Em h.1 (hn b (by simp)) f,Dd h.2 (fun c g=>hn c (by simp[g])) rs⟩
theorem Rb {π:Nat->Nat} {fresh:List Nat} {k:Nat} {o o':AObj} (a:cq π fresh k o o') (b:o'.live=true):o.live=true:=by
 cases o' with
 | dead=>simp[AObj.live]at b
 | box t c=>cases o<;>simp only[cq]at a; rfl
 | tail e z n=>simp only[cq]at a; subst a; rfl
 | vec e z n=>simp only[cq]at a; subst a; rfl
 | mp d es mk=>simp only[cq]at a; obtain⟨_,_,rfl⟩:=a; rfl
 | sit l p=>simp only[cq]at a; subst a; rfl
 | bv l=>simp only[cq]at a; subst a; rfl
 | vl e z rows j k'=>simp only[cq]at a; obtain⟨_,rfl⟩:=a; rfl
 | pbx t c=>cases o<;>simp only[cq]at a; rfl
theorem zw.use {P:Program} {f:FuncId} {args:List FV} {objs:List AObj} {m:Nat} {R:FV->List AObj->Prop} (h:zw P f args objs m R) (l fresh:List Nat) {A:List FV} {lo:List AObj} {K:FV->List AObj->Prop}
  (hw:lC 0 l fresh=true/\l.length=objs.length/\Gy objs.length args=true/\bY objs.length objs=true/\Nat.ble m objs.length=true/\(List.range m).all (fun i=>!fresh.contains i)=true)
  (ha:leArgs (πOf l) fresh A args) (ho:BI lo (πOf l) fresh 0 objs)
  (hK:∀ r0 q,R r0 q->∃ r lo2,r0.ren (σOf l m lo.length)=r/\Dg l fresh m lo q=lo2/\K r lo2):zh P f A lo K:=by
 obtain⟨D,hl,hnA,hnO,hml,hfr⟩:=hw;have hml:=jh hml;have hfr:∀ i,i<m->i ∉ fresh:=by
  intro i F;have:=List.all_eq_true.1 hfr i (by simpa using F);simpa using this
 simp only[lC,ji,kde,List.all_eq_true,List.mem_range,jO,beq_iff_eq,Bool.not_eq_true',bne_iff_ne]at D;obtain⟨⟨⟨_,_⟩,hinj⟩,hfl⟩:=D;have get:=fun(i:Nat) (o':AObj) (h:objs[i]? =some o')=>Gc ho i o' h;simp only[jx]at get;have inj:∀ i j,i<objs.length->j<objs.length->i ∉ fresh->j ∉ fresh->πOf l i=πOf l j->i=j:=by
  intro i j F X hfi hfj e;have:=hinj i (by omega) j (by omega);simp only[List.contains_iff_mem,hfi,hfj,false_or]at this;rcases this with h|h
  ·exact absurd e h
  exact h
 have Y:∀ i,i<l.length->l[i]? =some (πOf l i):=fun i F=>by
  simp[πOf,List.getD_eq_getElem?_getD,jf F]
 intro Lw bs ρ H w vs s rl
 let π:=πOf l
 let ρ2:=Ls ρ π fresh objs.length
 have weak:Weak 0 (tc 0 A) lo (tc 0 args) objs π fresh:=by
  refine{ bounds:=fun k L hf=>?_,keep:=fun k L=>absurd L (Nat.not_lt_zero _),nb:=jS _,inj:=fun i j oi oj F X _ _=>inj i j (jG.1 F).1 (jG.1 X).1,frsh:=fun k L=>?_,obj:=fun k o' ho hf=>(get k o' ho).2 hf,slot:=?_ }
  ·obtain⟨o,ho,_⟩:=(get k _ (jf L)).2 hf
   exact(jG.1 ho).1
  ·have hk':k<objs.length:=by have:=hfl k L; omega
   obtain⟨e,z,he⟩:=(get k _ (jf hk')).1 L;exact⟨e,z,he.imp (fun he=>by rw[jf hk',he]) (fun he=>he.imp (fun he=>by rw[jf hk',he]) (fun⟨j,k2,he⟩=>⟨j,k2,by rw[jf hk',he]⟩))⟩
  have:∀(n:Nat) (xs ys:List FV),leArgs π fresh xs ys->∀ t v,(t,v)∈tc n ys->leF π fresh (qW (tc n xs) t) v:=by
   intro n xs
   induction xs generalizing n with
   | nil=>
    intro ys O t v hm;cases ys with
    | nil=>simp[tc]at hm
    | cons b ys=>simp[leArgs]at O
   | cons a xs ih=>
    intro ys O t v hm;cases ys with
    | nil=>simp[leArgs]at O
    | cons b ys=>
     simp only[leArgs]at O;simp only[tc,jg,Prod.mk.injEq]at hm;have G:∀(n:Nat) (bs:List FV) (t:Nat) (v:FV),(t,v)∈tc n bs->n<=t:=by
      intro n bs
      induction bs generalizing n with
      | nil=>intro t v h; simp[tc]at h
      | cons c cs ih2=>
       intro t v h;simp only[tc,jg,Prod.mk.injEq]at h;rcases h with ⟨rfl,_⟩|h
       ·exact jw _
       have:=ih2 (n+1) t v h; omega
     simp only[tc,qW];rcases hm with ⟨rfl,rfl⟩|hm
     ·simp only[Nat.beq_refl]; exact O.1
     have:=G _ _ _ _ hm;have hne:Nat.beq t n=false:=by
      cases hx:Nat.beq t n with
      | false=>rfl
      | true=>have:=jm hx; omega
     simp only[hne];exact ih (n+1) ys O.2 t v hm
  exact this 0 A args ha
 have sat0:Sat { bs with r0:=[] } vs.length ρ H (qW (tc 0 A)) lo { tmps:=vs.toArray,defers:=[] } w:=by
  refine{ s with pre:=List.nil_prefix,slots:=fun t=>?_,width:=by simp,defers:=rfl }
  rw[Xu];simp only[jS,if_true,Nat.sub_zero];cases ht:A[t]? with
  | none=>trivial
  | some p=>
   obtain⟨v,B,rv⟩:=rl.get ht;have:vs.toArray.getD t undef=v:=by
    rw[jX];simp[B]
   rw[this];exact rv
 have hnames:ik (tc 0 args) objs:=by
  refine⟨fun t v hm=>?_,QT hnO,tC hnO,tD hnO⟩;have:∀(n:Nat) (bs:List FV) (t:Nat) (v:FV),(t,v)∈tc n bs->v∈bs:=by
   intro n bs
   induction bs generalizing n with
   | nil=>intro t v h; simp[tc]at h
   | cons c cs ih2=>
    intro t v h;simp only[tc,jg,Prod.mk.injEq]at h;rcases h with ⟨_,rfl⟩|h
    ·simp
    exact List.mem_cons_of_mem _ (ih2 (n+1) t v h)
  exact QR hnA v (this 0 args t v hm)
 have s2:=(sat0.weak weak hnames).toSatW;have rl2:xa ρ2 H args vs:=Dd ha (QR hnA) rl;have ρ2get:∀{i:Nat} {v:Value},ρ2[i]? =some v->i<objs.length/\((i∈fresh/\v=.slice none 0 0)\/(i ∉ fresh/\ρ[π i]? =some v)):=by
  intro i v B;have L:i<objs.length:=by have:=(jG.1 B).1; simpa[ρ2,Ls]using this
  have C:=B;rw[show ρ2[i]? =_ from gK L]at C;refine⟨L,?_⟩;by_cases hf:i∈fresh
  ·simp[hf]at C; exact .inl ⟨hf,C.symm⟩
  simp only[hf,if_false]at C;refine .inr ⟨hf,?_⟩;obtain⟨o,ho,_⟩:=(get i _ (jf L)).2 hf;have:π i<ρ.length:=by rw[s.hlen]; exact(jG.1 ho).1
  rw[List.getD_eq_getElem?_getD,jf this]at C;rw[jf this];simpa using C
 let bs2:(Base Lw):={ S:=qbe ρ2 objs,w0:=w,H0:=H,r0:=ρ2.take m }
 have s2':SatW bs2 ρ2 H objs w:=
  { sath:=s2.sath,hlen:=s2.hlen,pre:=List.take_prefix _ _,objs:=s2.objs,excl:=s2.excl,own:=fun k o v b L B hl D=>.inl ⟨k,o,v,L,B,hl,D⟩,keep:=Keep.refl _ w,leH:=PH.le.refl H,newH:=fun b o v h=>.inl ⟨v,h⟩ }
 have lentS:∀ b,qbe ρ2 objs b->∃ i o v,i<objs.length/\i ∉ fresh/\lo[π i]? =some o/\ρ[π i]? =some v/\o.live=true/\qR v=some b:=by
  rintro b ⟨i,o,v,F,B,hl',D⟩;obtain⟨Z,hc⟩:=ρ2get B;rcases hc with ⟨_,rfl⟩|⟨hf,C⟩
  ·simp[qR]at D
  obtain⟨Q,ho0,I⟩:=(get i o F).2 hf;exact⟨i,Q,v,Z,hf,ho0,C,Rb I hl',D⟩
 have key:∀(r0:FV) (q:List AObj) (ρ':List Value) (H':(PH Lw)) (w':World) (v:Value),R r0 q->PH.le H H'->SatW bs2 ρ' H' q w'->qY ρ' H' r0 v->∃ r lo',tf bs ρ H r lo' v w'/\K r lo':=by
  intro r0 q ρ' H' w' v hR I J rv;obtain⟨r,lo2,rfl,rfl,L⟩:=hK r0 q hR;refine⟨_,_,?_,L⟩;have M:ρ2.length=objs.length:=by simp[ρ2,Ls]
  have hpre:ρ2.take m <+: ρ':=J.pre;have hm':m<=ρ'.length:=by
   have:=hpre.length_le;rw[jt,M]at this;omega
  have hold:∀ i,i<m->ρ'[i]? =ρ2[i]?:=by
   intro i F;obtain⟨t,ht⟩:=hpre;rw[← ht,jB (by rw[jt,M]; omega),jE,if_pos F]
  have hσ:∀ i v,ρ'[i]? =some v->(ρ++ρ'.drop m)[σOf l m lo.length i]? =some v:=by
   intro i v B;unfold σOf;by_cases F:i<m
   ·have:Nat.blt i m=true:=Nat.ble_eq_true_of_le F
    simp only[this];rw[hold i F]at B;obtain⟨Z,hc⟩:=ρ2get B;rcases hc with ⟨hf,_⟩|⟨_,C⟩
    ·exact absurd hf (hfr i F)
    have hπ:l.getD i 0=π i:=rfl;rw[hπ,jB (jG.1 C).1];exact C
   have:Nat.blt i m=false:=by
    cases hx:Nat.blt i m with
    | false=>rfl
    | true=>exact absurd (jh hx) F
   simp only[this];rw[jC (by rw[s.hlen]; omega),s.hlen,Nat.add_sub_cancel_left,jD];have e:m+(i - m)=i:=by omega
   rw[e];exact B
  have cls:∀(j:Nat) (o:AObj) (v:Value),(Dg l fresh m lo q)[j]? =some o->(ρ++ρ'.drop m)[j]? =some v->o.live=true ->
    (∃ i Q,q[i]? =some Q/\ρ'[i]? =some v/\o=Q.ren (σOf l m lo.length)/\j=σOf l m lo.length i) \/
    (j<lo.length/\lo[j]? =some o/\ρ[j]? =some v/\∀ i,i<objs.length->i ∉ fresh->π i≠j):=by
   intro j o v X B d;rcases Df X with ⟨Q,h1,h2⟩|⟨h1,Q,h2,h3⟩
   ·have hjl:=(jG.1 h1).1
    rw[jB (by rw[s.hlen]; exact hjl)]at B;rw[jx]at h2;unfold Ms at h2;split at h2
    ·rename_i i hp
     obtain⟨_,hli,hif⟩:=HR hp;rw[Nat.sub_zero]at hli;have hil:i<l.length:=(jG.1 hli).1;have hπ:π i=j:=by have:=Y i hil; rw[hli]at this; exact(Option.some.inj this).symm
     split at h2
     ·rename_i him
      have him:i<m:=jh him;split at h2
      ·rename_i o' ho'
       refine .inl ⟨i,o',ho',?_,h2,?_⟩
       ·rw[hold i him]
        have hik:i<objs.length:=by omega
        rw[show ρ2[i]? =_ from gK hik];simp only[hif,if_false];rw[List.getD_eq_getElem?_getD,hπ,B];rfl
       unfold σOf;simp only[show Nat.blt i m=true from Nat.ble_eq_true_of_le him];exact hπ.symm
      rw[h2]at d; simp[AObj.live]at d
     rw[h2]at d; simp[AObj.live]at d
    rename_i hp;refine .inr ⟨hjl,by rw[h2]; exact h1,B,fun i F hf e=>?_⟩;have:=HQ hp i (by rw[Y i (by omega)]; exact congrArg some e);rw[jx]at this;exact hf this
   refine .inl ⟨m+(j - lo.length),Q,h2,?_,h3,?_⟩
   ·rw[jC (by rw[s.hlen]; exact h1),s.hlen,jD]at B
    exact B
   unfold σOf;have:Nat.blt (m+(j - lo.length)) m=false:=by
    cases hx:Nat.blt (m+(j - lo.length)) m with
    | false=>rfl
    | true=>have:=jh hx; omega
   simp only[this];omega
  have apart:∀(j:Nat) (o:AObj) (v:Value) (b:Nat),lo[j]? =some o->ρ[j]? =some v->(∀ i,i<objs.length->i ∉ fresh->π i≠j)->o.live=true->qR v=some b->¬ qbe ρ2 objs b:=by
   intro j o v b X B N d D hlent;obtain⟨i,Q,v0,F,hf,ho0,hv0,hl0,hb0⟩:=lentS b hlent;exact s.excl (π i) j Q o v0 v b ho0 X hv0 B (N i F hf) hl0 d hb0 D
  have old:∀(j:Nat) (o:AObj) (v:Value) (b:Nat),lo[j]? =some o->ρ[j]? =some v->o.live=true->qR v=some b->b<w.heap.size:=by
   intro j o v b X B d D;have hfresh:=s.fresh (g:=b);rcases Nat.lt_or_ge b w.heap.size with h|h
   ·exact h
   exact absurd D (hfresh h j o v X B d)
  have ownS:∀ b,bs2.S b\/w.heap.size<=b->bs.S b\/bs.w0.heap.size<=b:=by
   rintro b (D|D)
   ·obtain⟨i,Q,v0,_,_,ho0,hv0,hl0,hb0⟩:=lentS b D
    exact s.own _ Q v0 b ho0 hv0 hl0 hb0
   exact .inr (Nat.le_trans s.keep.size D)
  refine⟨ρ++ρ'.drop m,H',List.prefix_append _ _,I,?_,rv.ren hσ⟩;refine{ sath:=J.sath,hlen:=?_,pre:=s.pre.trans (List.prefix_append _ _),objs:=?_,excl:=?_,own:=?_,keep:=?_,leH:=s.leH.trans I,newH:=?_ }
  ·unfold Dg
   rw[Un,jb,List.length_drop,s.hlen,J.hlen]
  ·intro j o v X B
   cases d:o.live with
   | false=>cases o<;>simp[AObj.live]at d; trivial
   | true=>
    rcases cls j o v X B d with ⟨i,Q,h1,h2,rfl,_⟩|⟨hjl,h1,h2,N⟩
    ·exact(J.objs i Q v h1 h2).ren hσ
    refine(s.objs j o v h1 h2).keep (List.prefix_append _ _) I (fun b D Z=>J.keep.block b Z (apart j o v b h1 h2 N d D)) (fun b o' D Z hn=>?_)
    cases hx:H' b o' with
    | none=>rfl
    | some u=>
     rcases J.newH b o' u hx with ⟨y,hy⟩|hS|G
     ·have hy':H b o'=some y:=hy
      rw[hn]at hy'; cases hy'
     ·exact absurd hS (apart j o v b h1 h2 N d D)
     have hge':w.heap.size<=b:=G;omega
  ·intro j1 j2 o1 o2 v1 v2 b hj1 hj2 hv1 hv2 hne T U hb1 hb2
   rcases cls j1 o1 v1 hj1 hv1 T with ⟨i1,a1,h1,E,rfl,e1⟩|⟨hjl1,h1,E,hnot1⟩<;>rcases cls j2 o2 v2 hj2 hv2 U with ⟨i2,a2,h2,V,rfl,e2⟩|⟨hjl2,h2,V,hnot2⟩
   ·exact J.excl i1 i2 a1 a2 v1 v2 b h1 h2 E V (fun e=>hne (by rw[e1,e2,e])) (by rw[← AObj.ren_live]; exact T) (by rw[← AObj.ren_live]; exact U) hb1 hb2
   ·have:=J.own i1 a1 v1 b h1 E (by rw[← AObj.ren_live]; exact T) hb1
    rcases this with hS|G
    ·exact apart j2 o2 v2 b h2 V hnot2 U hb2 hS
    have hge':w.heap.size<=b:=G;have:=old j2 o2 v2 b h2 V U hb2;omega
   ·have:=J.own i2 a2 v2 b h2 V (by rw[← AObj.ren_live]; exact U) hb2
    rcases this with hS|G
    ·exact apart j1 o1 v1 b h1 E hnot1 T hb1 hS
    have hge':w.heap.size<=b:=G;have:=old j1 o1 v1 b h1 E T hb1;omega
   exact s.excl j1 j2 o1 o2 v1 v2 b h1 h2 E V hne T U hb1 hb2
  ·intro j o v b X B d D
   rcases cls j o v X B d with ⟨i,a,h1,E,rfl,_⟩|⟨_,h1,E,_⟩
   ·exact ownS b (J.own i a v b h1 E (by rw[← AObj.ren_live]; exact d) D)
   exact s.own j o v b h1 E d D
  ·exact s.keep.step J.keep fun i F=>ownS i (.inl F)
  intro b o u hu;rcases J.newH b o u hu with ⟨y,hy⟩|hS|G
  ·exact s.newH b o y hy
  ·exact .inr (ownS b (.inl hS))
  exact .inr (ownS b (.inr G))
 have:=h bs2 ρ2 H w vs rfl s2' rl2;generalize (callFunc f vs.toArray).run P w=x at *;cases x with
 | ok n w'=>
  cases n<;>simp only at this ⊢ <;> try exact this
  ·obtain⟨r0,q,ρ',H',hR,I,J,rv⟩:=this
   exact key r0 q ρ' H' w' _ hR I J rv
  obtain⟨rfl,hc⟩:=this;exact⟨rfl,hc.mono fun en w'' ⟨v,r0,q,ρ',H',e,hR,I,J,rv⟩=>by
   obtain⟨r,lo',af,k⟩:=key r0 q ρ' H' w'' v hR I J rv;exact⟨v,r,lo',e,af,k⟩⟩
 | halt x w'=>exact this
end Ax
end
section
namespace Ax
open Go
variable {Lw:Nat}
section
variable {K V:Type} [BEq K]
def Mn (a:K->PV) (b:V->PV) (l:List (K×V)):List (PV×PV):=l.map fun e=>(a e.1,b e.2)
def oR (k:K):List (K×V)->Option V
 | []=>none
 | (k',v)::l=>bif k==k' then some v else oR k l
def ep (l:List (K×V)) (k:K) (d:V):V:=(oR k l).getD d
def qgg (l:List (K×V)) (k:K):Bool:=(oR k l).isSome
def ig (k:K) (v:V):List (K×V)->List (K×V)
 | []=>[(k,v)]
 | (k',v')::l=>bif k==k' then(k,v)::l else(k',v')::ig k v l
def RV (c:K->PV):Prop:=∀ a b,lN (c a) (c b)=(a==b)
theorem Gd {a:K->PV} (c:RV a) (b:V->PV) (k:K):∀ l:List (K×V),Fk (a k) (Mn a b l)=(oR k l).map b
 | []=>rfl
 | (k',v)::l=>by
  have:=Gd c b k l;simp only[Mn,jk,Fk,oR]at this ⊢;rw[c k k'];cases k==k' with
  | true=>rfl
  | false=>simpa using this
theorem Uj {a:K->PV} (c:RV a) (b:V->PV) (l:List (K×V)) (k:K) (d:V):(Fk (a k) (Mn a b l)).getD (b d)=b (ep l k d):=by
 rw[Gd c,ep];cases oR k l<;>rfl
theorem Uk {a:K->PV} (b:RV a) (c:V->PV) (l:List (K×V)) (k:K):(Fk (a k) (Mn a c l)).isSome=qgg l k:=by
 rw[Gd b,qgg];cases oR k l<;>rfl
theorem rC {a:K->PV} (c:RV a) (b:V->PV) (k:K) (v:V):∀ l:List (K×V),lP (a k) (b v) (Mn a b l)=Mn a b (ig k v l)
 | []=>rfl
 | (k',v')::l=>by
  have:=rC c b k v l;simp only[Mn,jk,lP,ig]at this ⊢;rw[c k k'];cases k==k' with
  | true=>rfl
  | false=>simpa using this
end
theorem fG:RV PV.str:=fun _ _=>rfl
theorem Codec.getN {A:Type} (C:Codec A) {l:List A} {j:Nat} {x:A} (h:l[j]? =some x):(C.rows l)[j]? =some (C.cells x):=by
 rw[C.hrows]; simp[h]
theorem Codec.setN {A:Type} (C:Codec A) (l:List A) (j:Nat) (y:A):(C.rows l).set j (C.cells y)=C.rows (l.set j y):=by
 rw[C.hrows,C.hrows,List.map_set]
theorem zw.less {P:Program} {f:FuncId} {args:List FV} {objs:List AObj} {m b:Nat} {R:FV->List AObj->Prop} (h:zw P f args objs m R) (hm:b<=m):zw P f args objs b R:=by
 intro Lw bs ρ H w vs d s g;have hp:ρ.take b <+: ρ.take m:=by
  have e:ρ.take b=(ρ.take m).take b:=by rw[List.take_take,Nat.min_eq_left hm]
  rw[e];exact List.take_prefix _ _
 have:=h { bs with r0:=ρ.take m } ρ H w vs rfl { s with pre:=List.take_prefix _ _ } g
 have back:∀{ρ':List Value} {H':(PH Lw)} {a:List AObj} {w':World},SatW { bs with r0:=ρ.take m } ρ' H' a w'->SatW bs ρ' H' a w':=fun c=>{ c with pre:=by rw[d]; exact hp.trans c.pre }
 generalize (callFunc f vs.toArray).run P w=x at *;cases x with
 | ok n w'=>
  cases n<;>simp only at this ⊢ <;> try exact this
  ·obtain⟨r,a,ρ',H',h1,h2,h3,h4⟩:=this; exact⟨r,a,ρ',H',h1,h2,back h3,h4⟩
  exact⟨this.1,this.2.mono fun j i ⟨v,r,a,ρ',H',e,h1,h2,h3,h4⟩=>⟨v,r,a,ρ',H',e,h1,h2,back h3,h4⟩⟩
 | halt x w'=>exact this
theorem Codec.ne_nil {A:Type} (C:Codec A) (x:A) (l:List A):C.rows (x::l)≠[]:=by rw[C.hrows]; simp
end Ax
end
section
open Go
namespace Ax
theorem wk {nb:Nat} {E:Env} {lo:List AObj} {E':Env} {lo':List AObj} (l fresh:List Nat) (h:ov nb l fresh lo'=true/\l.length=lo'.length/\Dh lo'.length E'=true/\bY lo'.length lo'=true:=by exact⟨rfl,rfl,rfl,rfl⟩)
  (h1:Ra E (πOf l) fresh E':=by repeat (first|exact trivial|exact .inl rfl|exact rfl|exact List.not_mem_nil|(refine .inr ?_)|(refine⟨?_,?_⟩)|exact List.length_set.symm|decide))
  (h2:BI lo (πOf l) fresh 0 lo':=by repeat (first|exact trivial|exact .inl rfl|exact rfl|exact List.not_mem_nil|(refine .inr ?_)|(refine⟨?_,?_⟩)|exact List.length_set.symm|decide)):Fg nb E lo E' lo':=⟨l,fresh,h,h1,h2⟩
theorem tB {P:Program} {f:FuncId} {args:List FV} {objs:List AObj} {m:Nat} {R:FV->List AObj->Prop} (h:zw P f args objs m R) (l fresh:List Nat) {args':List FV} {lo:List AObj} {K:FV->List AObj->Prop}
  (hK:∀ r0 objs',R r0 objs'->∃ r lo2,r0.ren (σOf l m lo.length)=r/\Dg l fresh m lo objs'=lo2/\K r lo2)
  (hw:lC 0 l fresh=true/\l.length=objs.length/\Gy objs.length args=true/\bY objs.length objs=true/\Nat.ble m objs.length=true/\(List.range m).all (fun i=>!fresh.contains i)=true:=by exact⟨rfl,rfl,rfl,rfl,rfl,rfl⟩)
  (ha:leArgs (πOf l) fresh args' args:=by repeat (first|exact trivial|exact .inl rfl|exact rfl|exact List.not_mem_nil|(refine .inr ?_)|(refine⟨?_,?_⟩)|exact List.length_set.symm|decide))
  (ho:BI lo (πOf l) fresh 0 objs:=by repeat (first|exact trivial|exact .inl rfl|exact rfl|exact List.not_mem_nil|(refine .inr ?_)|(refine⟨?_,?_⟩)|exact List.length_set.symm|decide)):zh P f args' lo K:=zw.use h l fresh hw ha ho hK
theorem fin {P:Prop} (h:P:=by repeat (first|exact rfl|exact trivial|refine⟨?_,?_⟩)):P:=h
theorem ifc {R:Type} {c:Bool} {a b:Option R} {r:R} {P Q:Prop} (h:(bif c then a else b)=some r) (f:c=true->a=some r->P) (g:c=false->b=some r->Q):(c=true->P)/\(c=false->Q):=
 ⟨fun hc=>f hc (uw h hc),fun hc=>g hc (uv h hc)⟩
theorem sj {A:Type} {a b:A} (h:some a=some b):a=b:=Option.some.inj h
theorem bq {A R:Type} {o:Option A} {k:A->Option R} {r:R} {G:Prop} (h:bnd o k=some r) (f:∀ x,o=some x->k x=some r->G):G:=by
 obtain⟨x,h1,h2⟩:=qQ h;exact f x h1 h2
end Ax
end
section
namespace W
open Go Ax
inductive qf where
 | mk (op:Int) (name:List UInt8) (val:Val) (names:List (List UInt8)) (args:List qf)
mutual
def qf.cells:qf->List PV
 | .mk op name ⟨k,b,i,s,l,ks⟩ names args=>[.int .i64 op,.str name,.int .i64 k,.bool b,.int .i64 i,.str s,.sl (Val.rows l),.sl (qv ks),.sl (qv names),.sl (qf.rows args)]
def qf.rows:List qf->List (List PV)
 | []=>[]
 | v::l=>v.cells::qf.rows l
end
theorem qf.rows_eq:∀ l:List qf,qf.rows l=l.map qf.cells
 | []=>rfl
 | v::l=>by simp only[qf.rows,jk]; rw[qf.rows_eq l]
theorem qf.width (e:qf):e.cells.length=10:=by obtain⟨_,_,⟨_,_,_,_,_,_⟩,_,_⟩:=e; rfl
theorem qf.one (e:qf):e.cells.all Uq=true:=by obtain⟨_,_,⟨_,_,_,_,_,_⟩,_,_⟩:=e; rfl
def uj:Codec qf:={ cells:=qf.cells,rows:=qf.rows,z:=10,hrows:=fun l=>qf.rows_eq l,hz:=qf.width,hone:=qf.one }
instance:Inhabited qf:=⟨.mk 0 [] default [] []⟩
structure ql where
 var_:List UInt8
 labels:List (List UInt8)
 keys:List (List UInt8)
 vals:List qf
def ql.cells:ql->List PV
 | ⟨x1,x2,x3,x4⟩=>[.str x1,.sl (qv x2),.sl (qv x3),.sl (qf.rows x4)]
def ql.rows (l:List ql):List (List PV):=l.map ql.cells
def bA:Codec ql:={ cells:=ql.cells,rows:=ql.rows,z:=4,hrows:=fun _=>rfl,hz:=fun⟨a,b,c,d⟩=>rfl,hone:=fun⟨a,b,c,d⟩=>rfl }
deriving instance Inhabited for ql
structure qp where
 var_:List UInt8
 type_:List UInt8
 dir:Int
 keys:List (List UInt8)
 vals:List qf
def qp.cells:qp->List PV
 | ⟨x1,x2,x3,x4,x5⟩=>[.str x1,.str x2,.int .i64 x3,.sl (qv x4),.sl (qf.rows x5)]
def qp.rows (l:List qp):List (List PV):=l.map qp.cells
def nN:Codec qp:={ cells:=qp.cells,rows:=qp.rows,z:=5,hrows:=fun _=>rfl,hz:=fun⟨a,b,c,d,e⟩=>rfl,hone:=fun⟨a,b,c,d,e⟩=>rfl }
deriving instance Inhabited for qp
structure zL where
 nodes:List ql
 edges:List qp
def zL.cells:zL->List PV
 | ⟨x1,x2⟩=>[.sl (ql.rows x1),.sl (qp.rows x2)]
def zL.rows (l:List zL):List (List PV):=l.map zL.cells
def Gf:Codec zL:={ cells:=zL.cells,rows:=zL.rows,z:=2,hrows:=fun _=>rfl,hz:=fun⟨a,b⟩=>rfl,hone:=fun⟨a,b⟩=>rfl }
deriving instance Inhabited for zL
structure gO where
 e:qf
 as_:List UInt8
def gO.cells:gO->List PV
 | ⟨⟨x1,x2,⟨x3,x4,x5,x6,x7,x8⟩,x9,x10⟩,x11⟩=>[.int .i64 x1,.str x2,.int .i64 x3,.bool x4,.int .i64 x5,.str x6,.sl (Val.rows x7),.sl (qv x8),.sl (qv x9),.sl (qf.rows x10),.str x11]
def gO.rows (l:List gO):List (List PV):=l.map gO.cells
def PR:Codec gO:={ cells:=gO.cells,rows:=gO.rows,z:=11,hrows:=fun _=>rfl,hz:=fun⟨⟨c,d,⟨e,f,g,h,i,j⟩,k,a⟩,b⟩=>rfl,hone:=fun⟨⟨c,d,⟨e,f,g,h,i,j⟩,k,a⟩,b⟩=>rfl }
deriving instance Inhabited for gO
structure xf where
 e:qf
 down:Bool
def xf.cells:xf->List PV
 | ⟨⟨x1,x2,⟨x3,x4,x5,x6,x7,x8⟩,x9,x10⟩,x11⟩=>[.int .i64 x1,.str x2,.int .i64 x3,.bool x4,.int .i64 x5,.str x6,.sl (Val.rows x7),.sl (qv x8),.sl (qv x9),.sl (qf.rows x10),.bool x11]
def xf.rows (l:List xf):List (List PV):=l.map xf.cells
def Dz:Codec xf:={ cells:=xf.cells,rows:=xf.rows,z:=11,hrows:=fun _=>rfl,hz:=fun⟨⟨c,d,⟨e,f,g,h,i,j⟩,k,a⟩,b⟩=>rfl,hone:=fun⟨⟨c,d,⟨e,f,g,h,i,j⟩,k,a⟩,b⟩=>rfl }
deriving instance Inhabited for xf
structure qD where
 var_:List UInt8
 key:List UInt8
 label:List UInt8
 e:qf
def qD.cells:qD->List PV
 | ⟨x1,x2,x3,⟨x4,x5,⟨x6,x7,x8,x9,x10,x11⟩,x12,x13⟩⟩=>[.str x1,.str x2,.str x3,.int .i64 x4,.str x5,.int .i64 x6,.bool x7,.int .i64 x8,.str x9,.sl (Val.rows x10),.sl (qv x11),.sl (qv x12),.sl (qf.rows x13)]
def qD.rows (l:List qD):List (List PV):=l.map qD.cells
def QZ:Codec qD:={ cells:=qD.cells,rows:=qD.rows,z:=13,hrows:=fun _=>rfl,hz:=fun⟨e,f,g,⟨h,i,⟨j,k,l,m,a,b⟩,c,d⟩⟩=>rfl,hone:=fun⟨e,f,g,⟨h,i,⟨j,k,l,m,a,b⟩,c,d⟩⟩=>rfl }
deriving instance Inhabited for qD
structure qE where
 kind:Int
 paths:List zL
 where_:List qf
 e:qf
 var_:List UInt8
 items:List gO
 unique:Bool
 order:List xf
 skip:List qf
 limit:List qf
 sets:List qD
 vars:List (List UInt8)
 detach:Bool
def qE.cells:qE->List PV
 | ⟨x1,x2,x3,⟨x4,x5,⟨x6,x7,x8,x9,x10,x11⟩,x12,x13⟩,x14,x15,x16,x17,x18,x19,x20,x21,x22⟩=>[.int .i64 x1,.sl (zL.rows x2),.sl (qf.rows x3),.int .i64 x4,.str x5,.int .i64 x6,.bool x7,.int .i64 x8,.str x9,.sl (Val.rows x10),.sl (qv x11),.sl (qv x12),.sl (qf.rows x13),.str x14,.sl (gO.rows x15),.bool x16,.sl (xf.rows x17),.sl (qf.rows x18),.sl (qf.rows x19),.sl (qD.rows x20),.sl (qv x21),.bool x22]
def qE.rows (l:List qE):List (List PV):=l.map qE.cells
def dv:Codec qE:={ cells:=qE.cells,rows:=qE.rows,z:=22,hrows:=fun _=>rfl,hz:=fun⟨n,o,p,⟨q,r,⟨s,t,u,v,a,b⟩,c,d⟩,e,f,g,h,i,j,k,l,m⟩=>rfl,hone:=fun⟨n,o,p,⟨q,r,⟨s,t,u,v,a,b⟩,c,d⟩,e,f,g,h,i,j,k,l,m⟩=>rfl }
deriving instance Inhabited for qE
structure ZZ where
 clauses:List qE
def ZZ.cells:ZZ->List PV
 | ⟨x1⟩=>[.sl (qE.rows x1)]
def ZZ.rows (l:List ZZ):List (List PV):=l.map ZZ.cells
def EA:Codec ZZ:={ cells:=ZZ.cells,rows:=ZZ.rows,z:=1,hrows:=fun _=>rfl,hz:=fun⟨a⟩=>rfl,hone:=fun⟨a⟩=>rfl }
deriving instance Inhabited for ZZ
structure qk where
 kind:Int
 text:List UInt8
 int:Int
 at_:Int
def qk.cells:qk->List PV
 | ⟨x1,x2,x3,x4⟩=>[.int .i64 x1,.str x2,.int .i64 x3,.int .i64 x4]
def qk.rows (l:List qk):List (List PV):=l.map qk.cells
def CT:Codec qk:={ cells:=qk.cells,rows:=qk.rows,z:=4,hrows:=fun _=>rfl,hz:=fun⟨a,b,c,d⟩=>rfl,hone:=fun⟨a,b,c,d⟩=>rfl }
deriving instance Inhabited for qk
structure Node where
 id:Int
 labels:List (List UInt8)
 keys:List (List UInt8)
 vals:List Val
def Node.cells:Node->List PV
 | ⟨x1,x2,x3,x4⟩=>[.int .i64 x1,.sl (qv x2),.sl (qv x3),.sl (Val.rows x4)]
def Node.rows (l:List Node):List (List PV):=l.map Node.cells
def me:Codec Node:={ cells:=Node.cells,rows:=Node.rows,z:=4,hrows:=fun _=>rfl,hz:=fun⟨a,b,c,d⟩=>rfl,hone:=fun⟨a,b,c,d⟩=>rfl }
deriving instance Inhabited for Node
structure Edge where
 id:Int
 from_:Int
 to:Int
 type_:List UInt8
 keys:List (List UInt8)
 vals:List Val
def Edge.cells:Edge->List PV
 | ⟨x1,x2,x3,x4,x5,x6⟩=>[.int .i64 x1,.int .i64 x2,.int .i64 x3,.str x4,.sl (qv x5),.sl (Val.rows x6)]
def Edge.rows (l:List Edge):List (List PV):=l.map Edge.cells
def mc:Codec Edge:={ cells:=Edge.cells,rows:=Edge.rows,z:=6,hrows:=fun _=>rfl,hz:=fun⟨a,b,c,d,e,f⟩=>rfl,hone:=fun⟨a,b,c,d,e,f⟩=>rfl }
deriving instance Inhabited for Edge
structure Graph where
 nodes:List Node
 edges:List Edge
def Graph.cells:Graph->List PV
 | ⟨x1,x2⟩=>[.sl (Node.rows x1),.sl (Edge.rows x2)]
def Graph.rows (l:List Graph):List (List PV):=l.map Graph.cells
def uI:Codec Graph:={ cells:=Graph.cells,rows:=Graph.rows,z:=2,hrows:=fun _=>rfl,hz:=fun⟨a,b⟩=>rfl,hone:=fun⟨a,b⟩=>rfl }
deriving instance Inhabited for Graph
structure Env where
 names:List (List UInt8)
 vals:List Val
def Env.cells:Env->List PV
 | ⟨x1,x2⟩=>[.sl (qv x1),.sl (Val.rows x2)]
def Env.rows (l:List Env):List (List PV):=l.map Env.cells
def Nh:Codec Env:={ cells:=Env.cells,rows:=Env.rows,z:=2,hrows:=fun _=>rfl,hz:=fun⟨a,b⟩=>rfl,hone:=fun⟨a,b⟩=>rfl }
deriving instance Inhabited for Env
structure fZ where
 node:Int
 edge:Int
def fZ.cells:fZ->List PV
 | ⟨x1,x2⟩=>[.int .i64 x1,.int .i64 x2]
def fZ.rows (l:List fZ):List (List PV):=l.map fZ.cells
def Di:Codec fZ:={ cells:=fZ.cells,rows:=fZ.rows,z:=2,hrows:=fun _=>rfl,hz:=fun⟨a,b⟩=>rfl,hone:=fun⟨a,b⟩=>rfl }
deriving instance Inhabited for fZ
structure State where
 g:Graph
 next:fZ
def State.cells:State->List PV
 | ⟨⟨x1,x2⟩,⟨x3,x4⟩⟩=>[.sl (Node.rows x1),.sl (Edge.rows x2),.int .i64 x3,.int .i64 x4]
def State.rows (l:List State):List (List PV):=l.map State.cells
def tF:Codec State:={ cells:=State.cells,rows:=State.rows,z:=4,hrows:=fun _=>rfl,hz:=fun⟨⟨a,b⟩,⟨c,d⟩⟩=>rfl,hone:=fun⟨⟨a,b⟩,⟨c,d⟩⟩=>rfl }
deriving instance Inhabited for State
structure Given where
 v:Env
 s:State
 params:Val
def Given.cells:Given->List PV
 | ⟨⟨x1,x2⟩,⟨⟨x3,x4⟩,⟨x5,x6⟩⟩,⟨x7,x8,x9,x10,x11,x12⟩⟩=>[.sl (qv x1),.sl (Val.rows x2),.sl (Node.rows x3),.sl (Edge.rows x4),.int .i64 x5,.int .i64 x6,.int .i64 x7,.bool x8,.int .i64 x9,.str x10,.sl (Val.rows x11),.sl (qv x12)]
def Given.rows (l:List Given):List (List PV):=l.map Given.cells
def Vd:Codec Given:={ cells:=Given.cells,rows:=Given.rows,z:=12,hrows:=fun _=>rfl,hz:=fun⟨⟨d,e⟩,⟨⟨f,g⟩,⟨h,i⟩⟩,⟨j,k,l,a,b,c⟩⟩=>rfl,hone:=fun⟨⟨d,e⟩,⟨⟨f,g⟩,⟨h,i⟩⟩,⟨j,k,l,a,b,c⟩⟩=>rfl }
deriving instance Inhabited for Given
structure Made where
 keys:List (List UInt8)
 vals:List Val
def Made.cells:Made->List PV
 | ⟨x1,x2⟩=>[.sl (qv x1),.sl (Val.rows x2)]
def Made.rows (l:List Made):List (List PV):=l.map Made.cells
def pX:Codec Made:={ cells:=Made.cells,rows:=Made.rows,z:=2,hrows:=fun _=>rfl,hz:=fun⟨a,b⟩=>rfl,hone:=fun⟨a,b⟩=>rfl }
deriving instance Inhabited for Made
end W
end
section
open Go Go.Proofs Go.RowKit
namespace Ax
variable {Lw:Nat}
theorem Hg {bs:(Base Lw)} {ρ:List Value} {H:(PH Lw)} {lo:List AObj} {w w':World} (s:SatW bs ρ H lo w) {e:TypeId} {z n:Nat} {v':Value} {xs:List Value} (f:Below w.heap.size w w')
  (i:w'.ownsRow w.heap.size e z v' n xs) (h1:∀ u∈xs,u.oneCell'=true) :
  PH.le H (xe H v' xs)/\w'.ownsRow 0 e z v' n xs/\SatW bs (ρ++[v']) (xe H v' xs) (lo++[.tail e z n]) w':=by
 have q:∀ b,qR v'=some b->w.heap.size<=b:=by
  intro b f;rcases i.2 with ⟨rfl,_⟩|⟨g,cap,cur,rfl,A,_⟩
  ·simp[qR]at f
  simp[qR]at f; omega
 have v:∀ b o u,qR v'=some b->H b o=some u->False:=fun b o u f hu=>by
  have h2:=s.sath.lt hu;have h3:=q b f;omega
 have l:PH.le H (xe H v' xs):=by
  intro b o u hu;unfold xe;rw[if_neg (fun r=>v b o u r.1 hu)]
  exact hu
 have d:w'.ownsRow 0 e z v' n xs:=⟨i.1,i.2.imp id fun⟨g,cap,cur,a,b,c⟩=>⟨g,cap,cur,a,jS _,c⟩⟩;have hcell:∀ g,qR v'=some g->∀ o u,xs[o]? =some u->w'.cell? ⟨g,o,none⟩=some u:=by
  intro g A o u hu;have:=d.cells (g:=g) (by
   rcases d.2 with ⟨rfl,_⟩|⟨F,cap,cur,rfl,_⟩
   ·simp[qR]at A
   simpa[qR,Value.ownBlock]using A) o u hu
  rwa [Addr.add_lit,jx]at this
 have hkeep:∀ S,Keep S w w':=fun S=>⟨f.os,f.tape,f.output,f.size,fun k C _=>f.block k C⟩
 have m:SatH (xe H v' xs) w':=by
  refine⟨?_,s.sath.root.mono l,Nat.le_trans s.sath.low f.size,?_⟩
  rotate_left
  ·intro b o u hu D
   by_cases x:qR v'=some b
   ·exact .own d x
   unfold xe at hu;rw[if_neg (fun r=>x r.1)]at hu
   exact(s.sath.nf b o u hu D).block (f.block b (s.sath.lt hu))
  intro b o u hu;unfold xe at hu;split at hu
  ·rename_i r
   exact⟨hcell b r.1 o u hu,h1 u (List.mem_of_getElem? hu)⟩
  obtain⟨B,hone⟩:=s.sath.cell b o u hu;refine⟨?_,hone⟩;rw[World.cell?_of_block (w:=w) (a:=⟨b,o,none⟩) (f.block b (s.sath.lt hu))];exact B
 have y:∀ ρ,Zp ρ (xe H v' xs) w' v' (.tail e z n):=by
  intro ρ;refine⟨xs,d,fun b f=>⟨fun j u hu=>?_,fun o G=>?_⟩⟩
  ·unfold xe
   rw[if_pos ⟨f,(jG.1 hu).1⟩];exact hu
  unfold xe;rw[if_neg (by rw[i.1]; omega)];cases E:H b o with
  | none=>rfl
  | some u=>exact(v b o u f E).elim
 have p:∀ b o u,xe H v' xs b o=some u->(∃ u,H b o=some u)\/qR v'=some b:=by
  intro b o u hu;unfold xe at hu;split at hu
  ·rename_i r; exact .inr r.1
  exact .inl ⟨u,hu⟩
 refine⟨l,d,?_⟩;cases t:qR v' with
 | none=>
  refine s.push (g:=w.heap.size) (.inr t) (s.fresh (jw _)) (.inr s.keep.size) l m (fun b o u hu=>?_) (hkeep _) (y _);rcases p b o u hu with h|h
  ·exact .inl h
  rw[t]at h; cases h
 | some g=>
  refine s.push (g:=g) (.inl t) (s.fresh (q g t)) (.inr (Nat.le_trans s.keep.size (q g t))) l m (fun b o u hu=>?_) (hkeep _) (y _);rcases p b o u hu with h|h
  ·exact .inl h
  rw[t]at h; exact .inr (Option.some.inj h).symm
theorem oX (H:(PH Lw)):∀(l:List (List UInt8)),gk H 1 (qv l) (l.map fun s=>Value.string ⟨s.toArray⟩)
 | []=>by simp[qv,gk]
 | b::l=>by
  have:=oX H l;unfold qv at this ⊢;simp only[jk,gk];refine⟨rfl,[.string ⟨b.toArray⟩],l.map fun s=>Value.string ⟨s.toArray⟩,by simp,?_,this⟩
  simp[zC,qO]
theorem rN {H:(PH Lw)} {b z:Nat}:∀{x:List (List UInt8)} {o:Nat},nA H b z o (qv x)->∀(j:Nat) (l:List UInt8),x[j]? =some l->H b (o+j)=some (.string ⟨l.toArray⟩)
 | [],_,_,j,l,h=>by simp at h
 | y::x,o,r,j,l,h=>by
  simp only[qv,jk,nA]at r;obtain⟨hz,⟨vs,a,rc⟩,c⟩:=r;have hz:z=1:=by simpa using hz.symm
  subst hz;cases j with
  | zero=>
   simp only[jd,Option.some.injEq]at h;subst h;simp only[zC,qO]at a;obtain⟨u,d,rfl,rfl,_⟩:=a;exact rc 0 _ rfl
  | succ j=>
   have:=rN (x:=x) c j l (by simpa using h);rw[show o+(j+1)=o+1+j from by omega];exact this
theorem LO {P:Program} {f:FuncId} (enter:∀ vs w,(callFunc f vs).run P w=.ok (.enter f vs) w) {e:TypeId}
  (l:∀(n c:Nat) (w:World),Calls P f #[.slice none n c] w fun d w'=>d=.returned (.slice none 0 0)/\w'=w)
  (h:∀(a:Addr) (c:Nat) (w:World),Calls P f #[.slice (some a) 0 c] w fun d w'=>∃ v',d=.returned v'/\w'.ownsRow w.heap.size e 1 v' 0 []/\v'≠.slice none 0 0/\Below w.heap.size w w')
  (i:∀(b off n c:Nat) (r:List ByteArray) (w:World),n<=r.length->n * 16<=140737488355328->(∀ j,j<r.length->w.cell? ⟨b,off+j,none⟩=some (.string (r.getD j ByteArray.empty))) ->
   Calls P f #[.slice (some ⟨b,off,none⟩) n c] w fun d w'=>∃ v',d=.returned v'/\w'.ownsRow w.heap.size e 1 v' n ((r.take n).map Value.string)/\v'≠.slice none 0 0/\Below w.heap.size w w')
  (x:List (List UInt8)) (g:(qv x).length * 16<=140737488355328):zw P f [.p (.sl (qv x))] [] 0 (fun v lo=>v=.tsl 0 (qv x)/\lo=[.tail e 1 (qv x).length]):=by
 intro Lw bs ρ H w vs I s J;have t:ρ=[]:=jI s.hlen;subst t;obtain⟨v,y,rfl,rv,A⟩:=J;obtain rfl:y=[]:=A;have rv:qO H (.sl (qv x)) v:=rv;rw[enter];refine⟨rfl,?_⟩;have B:(qv x).length=x.length:=by simp[qv]
 have base:Calls P f [v].toArray w fun d w'=>∃ v',d=.returned v'/\w'.ownsRow w.heap.size e 1 v' x.length (x.map fun s=>Value.string ⟨s.toArray⟩)/\Below w.heap.size w w':=by
  simp only[qO]at rv;rcases rv with ⟨F,rfl|⟨a,cap,rfl⟩⟩|⟨b,o,z,cap,rfl,G,K⟩
  ·have C:x=[]:=by cases x with|nil=>rfl|cons _ _=>cases F
   subst C;refine(l 0 0 w).mono fun d w' p=>?_;obtain⟨rfl,rfl⟩:=p;exact⟨_,rfl,⟨by simp,.inl ⟨rfl,rfl⟩⟩,Below.refl _ _⟩
  ·have C:x=[]:=by cases x with|nil=>rfl|cons _ _=>cases F
   subst C;refine(h a cap w).mono fun d w' p=>?_;obtain⟨v',rfl,k,_,m⟩:=p;exact⟨_,rfl,k,m⟩
  rw[B]at g ⊢;refine(i b o x.length cap (x.map fun s=>⟨s.toArray⟩) w (by simp) g fun j D=>?_).mono fun d w' p=>?_
  ·simp only[jl]at D
   have h2:=rN K j _ (jf D);rw[(s.sath.cell _ _ _ h2).1];simp[List.getD,jf D]
  obtain⟨v',rfl,k,_,m⟩:=p;refine⟨_,rfl,?_,m⟩;rw[List.take_of_length_le (by simp),jW]at k;exact k
 refine base.mono fun d w' p=>?_;obtain⟨v',rfl,k,m⟩:=p;obtain⟨q,E,L⟩:=Hg s m k (fun u hu=>by obtain⟨_,_,rfl⟩:=List.mem_map.1 hu; rfl)
 refine⟨v',.tsl 0 (qv x),[.tail e 1 (qv x).length],[v'],_,rfl,⟨rfl,rfl⟩,q,by rw[B]; exact L,rfl,fz (oX H x) q (by rw[B]; exact E)⟩
end Ax
end
section
open Go Go.Proofs Ax Go.RowKit
namespace W
theorem mixed:Tryz.prog.follows .mixedOrders=true:=by kernel_rfl
theorem UT {Lw:Nat} {H:PH Lw} {w w':World} (s:SatH H w) (h:Below w.heap.size w w'):Calm H w H w':=
 ⟨PH.le.refl H,s.block h.size fun b _ _ hv=>h.block b (s.lt hv),⟨h.os,h.tape,h.output,h.size,fun k hk _=>h.block k hk⟩,fun _ _ v hv=>.inl ⟨v,hv⟩⟩
set_option maxRecDepth 100000 in
theorem Fo (x:List (List UInt8)) (hbig:(qv x).length * 16<=140737488355328):zw Tryz.prog 56 [.p (.sl (qv x))] [] 0 (fun v lo=>v=.tsl 0 (qv x)/\lo=[.tail 9 1 (qv x).length]):=
 LO (fun _ _=>Tryz.call56 _ _) Tryz.slices_Clone_string_nil Tryz.slices_Clone_string_zero (fun b o n c zs w h1 h2 h3=>Tryz.slices_Clone_string b o n c zs w h1 h2 h3) x hbig
theorem PO:((Tryz.prog.info? 35).map fun i=>(i.size,i.bytes,i.zero.map (·.cells.size)))=some (6,88,some 6):=by kernel_rfl
theorem Tq:∃ i0 zv,Tryz.prog.info? 35=some i0/\i0.zero=some zv/\i0.size=6/\i0.bytes=88/\zv.cells.size=6:=by
 obtain⟨i,hi,h⟩:=Option.map_eq_some_iff.1 PO
 simp only[Prod.mk.injEq]at h
 obtain⟨h1,h2,h3⟩:=h
 obtain⟨z,hz,h4⟩:=Option.map_eq_some_iff.1 h3
 exact⟨i,z,hi,hz,h1,h2,h4⟩
set_option maxRecDepth 100000 in
set_option maxHeartbeats 2000000 in
theorem LN (a:Addr) (c:Nat) (w:World):Calls Tryz.prog 57 #[.slice (some a) 0 c] w fun e w'=>∃ v',e=.returned v'/\w'.ownsRow w.heap.size 35 6 v' 0 []/\Below w.heap.size w w':=by
 obtain⟨i0,zv,hi,hz0,hz1,hz2,hzs⟩:=Tq
 have q23:∀(w:World) (a:Option Addr) (n c n' c':Nat),(binOp .eql 23 (.slice a n c) (.slice none n' c')).run Tryz.prog w=.ok (.bool a.isNone) w:=fun w a n c n' c'=>Lib.run_eql_slice_nil w _ _ a n c n' c' Tryz.underlying23
 go_enter Tryz.func57,Tryz.ntmps57
 go_wp2_with (at_builtin; refine wpList_append_own _ rfl _ _ 23 rfl w.heap.size 35 i0 zv 6 88 Tryz.underlying23 hi hz0 hz1 hz2 hzs (by decide) _ _ _ rfl (World.ownsRow_made w #[] 0 (jw _) (jS _) rfl) a 0 c [] rfl rfl (by intro j u hj; simp at hj) (by intro u hu; cases hu) (by unfold maxLen; omega) (by omega) (by simp) ?_)
 intro v' w1 hown hgrow hnil
 go_wp2
 go_ret
 exact⟨v',rfl,by simpa using hown,((Below.refl _ w).alloc (jw _) _).grown hgrow (by simp) (by intro k hk; simp[Value.ownBlock]at hk; omega)⟩
theorem eZ:∀ w,(Go.sizeOf 35).run Tryz.prog w=.ok 6 w:=by
 intro w
 obtain⟨i0,zv,hi,_,hz1,_,_⟩:=Tq
 simp[Go.sizeOf,typeInfo,hi,hz1]
set_option maxRecDepth 100000 in
theorem EH (x:List Val) (hbig:(Val.rows x).length * 88<=140737488355328):zw Tryz.prog 57 [.p (.sl (Val.rows x))] [] 0 (fun v lo=>v=.tsl 0 (Val.rows x)/\lo=[.tail 35 6 (Val.rows x).length]):=by
 obtain⟨i0,zv,hi,hz0,hz1,hz2,hzs⟩:=Tq
 intro Lw bs ρ H w vs hr0 s rl
 have hlo:ρ=[]:=jI s.hlen
 subst hlo
 obtain⟨v,vs',rfl,rv,hvs⟩:=rl
 obtain rfl:vs'=[]:=hvs
 have rv:qO H (.sl (Val.rows x)) v:=rv
 rw[show(callFunc 57 [v].toArray).run Tryz.prog w=_ from Tryz.call57 _ _]
 refine⟨rfl,?_⟩
 have base:Calls Tryz.prog 57 [v].toArray w fun e' w'=>∃ v' xs,e'=.returned v'/\gk H 6 (Val.rows x) xs/\(∀ u∈xs,u.oneCell'=true)/\w'.ownsRow w.heap.size 35 6 v' (Val.rows x).length xs/\Below w.heap.size w w':=by
  rcases Xi rv (fun r hr=>by rw[rows_eq]at hr; exact lp _ r hr)with ⟨h0,rfl|⟨a,cap,rfl⟩⟩|⟨b,o,cap,us,rfl,hcap,hu,hc⟩
  ·rw[h0]
   exact(AnyE.slices_Clone_nil Tryz.laysSlE041_f57 0 0 w).mono fun e' w' ⟨e1,e2⟩=>by subst e2; exact⟨_,[],e1,rfl,by simp,⟨by simp,.inl ⟨rfl,rfl⟩⟩,Below.refl _ _⟩
  ·rw[h0]
   exact(LN a cap w).mono fun e' w' ⟨v',e1,ho,hb⟩=>⟨v',[],e1,rfl,by simp,by simpa using ho,hb⟩
  ·have h1:=gk.one s.sath hc
   refine(AnyE.slices_Clone Tryz.laysSlE041_f57 i0 zv 6 88 hi hz0 hz1 hz2 hzs (by decide) eZ b o (Val.rows x).length cap us w hu.length (by unfold maxLen; omega) hbig (fun j u h=>(s.sath.cell _ _ _ (hc j u h)).1) h1).mono fun e' w' ⟨v',e1,ho,_,hb⟩=>⟨v',us,e1,hu,h1,ho,hb⟩
 refine base.mono fun e' w' ⟨v',xs,e1,hV,h1,ho,hb⟩=>?_
 subst e1
 obtain⟨hle,ho0,hs⟩:=Hg s hb ho h1
 exact⟨v',.tsl 0 (Val.rows x),[.tail 35 6 (Val.rows x).length],[v'],_,rfl,⟨rfl,rfl⟩,hle,hs,rfl,fz hV hle ho0⟩
end W
end
section
open Go Go.Proofs Ax
namespace W
abbrev SS:=List UInt8
abbrev pI (x:Int):FV:=.p (.int .i64 x)
abbrev pS (x:List UInt8):FV:=.p (.str x)
abbrev pB (x:Bool):FV:=.p (.bool x)
abbrev pT (x:List (List UInt8)):FV:=.p (.sl (qv x))
abbrev pE (x:List qf):FV:=.p (.sl (qf.rows x))
abbrev pV (x:List Val):FV:=.p (.sl (Val.rows x))
abbrev pO (x:List xf):FV:=.p (.sl (xf.rows x))
abbrev pA (x:List gO):FV:=.p (.sl (gO.rows x))
abbrev pU (x:List qD):FV:=.p (.sl (qD.rows x))
abbrev pP (x:List zL):FV:=.p (.sl (zL.rows x))
abbrev pN (x:List ql):FV:=.p (.sl (ql.rows x))
abbrev pG (x:List qp):FV:=.p (.sl (qp.rows x))
abbrev pK (x:List qk):FV:=.p (.sl (qk.rows x))
theorem zle {m n:Nat} (h:Nat.ble m n=true):m<=n:=jh h
abbrev LK (T R:Type):Type:=(T->Option R)->T->Option R
noncomputable abbrev TP:Program:=Tryz.prog
set_option maxRecDepth 100000 in
theorem zN {f:FuncId} {fn:Func} {args:List PV} {r:PV} (he:Ax.Enters Tryz.prog f) (hf:Tryz.prog.funcs[f]? =some fn) (inl:List Nat) (h:qed Tryz.prog inl fn args (fun v=>nle v r)) (hok:RO inl fn args.length=true:=by kernel_rfl):qh Tryz.prog f args r:=qh.of_vcN mixed he hf hok h
set_option maxRecDepth 100000 in
theorem zI {f:FuncId} {fn:Func} {args:List FV} {lo:List AObj} {R:FV->List AObj->Prop} (he:Ax.Enters Tryz.prog f) (hf:Tryz.prog.funcs[f]? =some fn) (inl:List Nat) (h:vcI Tryz.prog inl fn args lo R) (hok:RO inl fn args.length=true:=by kernel_rfl):zh Tryz.prog f args lo R:=zh.of_vc mixed he hf hok h
set_option maxRecDepth 100000 in
theorem zO {f:FuncId} {fn:Func} {args:List FV} {objs:List AObj} {m:Nat} {R:FV->List AObj->Prop} (he:Ax.Enters Tryz.prog f) (hf:Tryz.prog.funcs[f]? =some fn) (inl:List Nat) (h:vcO Tryz.prog inl fn args objs m R) (hok:RO inl fn args.length=true:=by kernel_rfl) (hml:m<=objs.length:=by exact zle rfl):zw Tryz.prog f args objs m R:=zw.of_vc mixed he hf hok hml h
abbrev zq0:FV:=.p (.int .i64 (0:Int))
abbrev zq1:FV:=.p (.str ([]:SS))
abbrev zq2:FV:=.p (.nilsl)
abbrev zq3:AObj:=.box 47 [zq0,zq2,zq2,zq0,zq1,zq0,pB false,zq0,zq1,zq2,zq2,zq2,zq2,zq1,zq2,pB false,zq2,zq2,zq2,zq2,zq2,pB false]
abbrev zq4:AObj:=.box 35 [zq0,pB false,zq0,zq1,zq2,zq2]
abbrev zq5:AObj:=.box 47 [.p (.int .i64 (8:Int)),zq2,zq2,zq0,zq1,zq0,pB false,zq0,zq1,zq2,zq2,zq2,zq2,zq1,zq2,pB false,zq2,zq2,zq2,zq2,zq2,pB false]
abbrev zq6:AObj:=.box 33 [zq2,zq2,zq0,zq0]
end W
end
section
namespace Ax
open Go
variable {Lw:Nat}
def Uf (w:World):PH w.heap.size:=fun b o=>(w.cell? ⟨b,o,none⟩).bind fun v=>bif v.oneCell' then some v else none
theorem Tl {w:World} (h:∃ m,w.cell? ⟨0,0,none⟩=some (.int .i64 m)):SatH (Uf w) w where
 cell:=fun b o v a=>by
  unfold Uf at a;obtain⟨u,hu,h1⟩:=Option.bind_eq_some_iff.1 a;cases c:u.oneCell' with
  | false=>rw[c]at h1; cases h1
  | true=>rw[c]at h1; cases h1; exact⟨hu,c⟩
 root:=by
  obtain⟨m,hm⟩:=h;exact⟨m,by simp[Uf,hm,Value.oneCell']⟩
 low:=jw _
 nf:=fun b o v a d=>by
  unfold Uf at a;obtain⟨u,hu,_⟩:=Option.bind_eq_some_iff.1 a;have:=World.block_lt_of_cell? w ⟨b,o,none⟩ hu;exact absurd d (by simp at this; omega)
theorem aN {w:World} {a:Addr} {v:Value} (h:w.cell? a=some v) (h1:v.oneCell'=true):Uf w a.block a.off=some v:=by
 have c:a.spot=none:=by
  unfold World.cell? at h;split at h
  ·cases b:a.spot with
   | none=>rfl
   | some s=>rw[b]at h; simp at h
  ·cases h
 have:(⟨a.block,a.off,none⟩:Addr)=a:=by cases a; simp only at c; subst c; rfl
 unfold Uf;rw[this,h];simp[h1]
theorem EY {w:World} {base:Nat} {a:Addr} {n:Nat} {cs:List Value} (h:w.cells? base a n=some cs):cs.length=n/\∀ j,j<n->w.cell? (a.add j)=cs[j]?:=by
 unfold World.cells? at h;split at h
 ·exact⟨by simpa using mapM_some_length h,fun j b=>mapM_some_get h j j (by simp[b])⟩
 cases h
section
variable {Hd:Type} {enc:TypeId×Value->Hd} {P:Program} {w:World}
def vU {α:Type} (enc:TypeId×Value->Hd) (P:Program) (w:World) (t:TypeId) (n:Nat) (row:α->List PV) (a:α->Nat) (bulk:DataW Hd->Nat):Prop:=
 ∀(cs:List Value) (x:DataW Hd×List MemPlace),DataW.trod enc P w 0 (fun _=>true) true n t cs=some x->∃ v:α,zC (Uf w) (row v) cs/\(∀ u∈cs,u.oneCell'=true)/\a v<=bulk x.1
theorem qd4 {α:Type} {H:(PH Lw)} {b z:Nat} {row:α->List PV}:∀(l:List α) (o:Nat) (a:Nat->List Value),(∀ v∈l,(row v).length=z) ->
  (∀ i v,l[i]? =some v->zC H (row v) (a i)/\∀ j u,(a i)[j]? =some u->H b (o+i * z+j)=some u)->nA H b z o (l.map row)
 | [],_,_,_,_=>trivial
 | v::l,o,a,hz,h=>by
  simp only[jk,nA];refine⟨hz v (by simp),⟨a 0,(h 0 v rfl).1,fun j u hu=>by have:=(h 0 v rfl).2 j u hu; simpa using this⟩,?_⟩
  refine qd4 l (o+z) (fun i=>a (i+1)) (fun v d=>hz v (by simp[d])) fun i v' c=>?_
  obtain⟨h1,h2⟩:=h (i+1) v' (by simpa using c);refine⟨h1,fun j u hu=>?_⟩;have:=h2 j u hu;rw[Nat.add_mul,Nat.one_mul]at this;have e:o+(i * z+z)+j=o+z+i * z+j:=by omega
  rw[← e]; exact this
theorem Ro {α:Type} [Inhabited α] {t e:TypeId} {z fuel:Nat} {row:α->List PV} {A:α->Nat} {bulk:DataW Hd->Nat} (K:P.underlying t=some (.slice e)) (hz:P.cellsOf e=z) (L:1<=z)
  (o:∀ v,(row v).length=z) (C:∀ n,n<fuel->vU enc P w e n row A bulk) {cs:List Value} {x:DataW Hd×List MemPlace} (h:DataW.trod enc P w 0 (fun _=>true) true fuel t cs=some x) :
  ∃(l:List α) (v:Value),cs=[v]/\v.oneCell'=true/\qO (Uf w) (.sl (l.map row)) v /\
   ((x.1=.nil/\l=[])\/∃ elems rest,x.1=.slice elems rest/\l.length=elems.length/\∀(i:Nat) (d:DataW Hd) (v:α),elems[i]? =some d->l[i]? =some v->A v<=bulk d):=by
 rcases DataW.trod_slice K h with ⟨rfl,rfl⟩|⟨a,len,cap,elems,rest,n,rfl,rfl,rfl,_,D,_,hlen,c,_,_⟩
 ·exact⟨[],_,rfl,rfl,by simp[qO],.inl ⟨rfl,rfl⟩⟩
 have J:∀ i,i<len->∃(v:α) (cs:List Value) (d:DataW Hd×List MemPlace),elems[i]? =some d/\zC (Uf w) (row v) cs/\(∀ j u,cs[j]? =some u->Uf w a.block (a.off+i * z+j)=some u)/\A v<=bulk d.1:=by
  intro i B;have h1:=c i B;obtain⟨d,g⟩:∃ d,elems[i]? =some d:=⟨_,jf (by omega)⟩;rw[g]at h1;obtain⟨cs,k,E⟩:=Option.bind_eq_some_iff.1 h1;obtain⟨v,r,hone,F⟩:=C n (Nat.lt_succ_self n) cs d E;refine⟨v,cs,d,g,r,fun j u hu=>?_,F⟩;obtain⟨M,p⟩:=EY k;have N:j<P.cellsOf e:=by have:=(jG.1 hu).1; omega
  have h2:=p j N;rw[hu,Addr.add_add]at h2;have:=aN h2 (hone u (List.mem_of_getElem? hu));rw[hz]at this;have eb:(a.add (i * z+j)).block=a.block:=by unfold Addr.add; split<;>rfl
  have eo:(a.add (i * z+j)).off=a.off+i * z+j:=by unfold Addr.add; split<;>(try simp only)<;>omega
  rw[eb,eo]at this;exact this
 have spot:len≠0->a.spot=none:=by
  intro G;have h1:=c 0 (by omega);obtain⟨d,g⟩:∃ d,elems[0]? =some d:=⟨_,jf (by omega)⟩;rw[g]at h1;obtain⟨cs,k,_⟩:=Option.bind_eq_some_iff.1 h1;obtain⟨M,p⟩:=EY k;have h2:=p 0 (by omega);rw[Nat.zero_mul,Addr.add_zero',Addr.add_zero']at h2;cases hu:cs[0]? with
  | none=>have:=List.getElem?_eq_none_iff.1 hu; omega
  | some u=>
   rw[hu]at h2;unfold World.cell? at h2;split at h2
   ·cases H:a.spot with
    | none=>rfl
    | some s=>rw[H]at h2; simp at h2
   ·cases h2
 let f:Nat->α:=fun i=>if h:i<len then(J i h).choose else default
 have hf:∀ i,i<len->∃(cs:List Value) (d:DataW Hd×List MemPlace),elems[i]? =some d/\zC (Uf w) (row (f i)) cs/\(∀ j u,cs[j]? =some u->Uf w a.block (a.off+i * z+j)=some u)/\A (f i)<=bulk d.1:=by
  intro i B;have:=(J i B).choose_spec;simp only[f,B,dif_pos];exact this
 refine⟨(List.range len).map f,_,rfl,rfl,?_,.inr ⟨_,_,rfl,by simp[hlen],fun i d v g q=>?_⟩⟩
 ·simp only[qO,jl,List.length_range]
  by_cases G:len=0
  ·subst G
   exact .inl ⟨rfl,.inr ⟨_,_,rfl⟩⟩
  refine .inr ⟨a.block,a.off,z,cap,?_,D,?_⟩
  ·have:=spot G
   cases a;simp only at this;subst this;rfl
  refine qd4 ((List.range len).map f) a.off (fun i=>if h:i<len then(hf i h).choose else[]) (fun v _=>o v) fun i v q=>?_
  simp only[List.getElem?_map,Option.map_eq_some_iff]at q;obtain⟨O,m,rfl⟩:=q;obtain⟨b,e⟩:=jG.1 m;simp at b e;subst e;obtain⟨d,g,Q,p,_⟩:=(hf i b).choose_spec;simp only[b,dif_pos];exact⟨Q,p⟩
 simp only[List.getElem?_map,Option.map_eq_some_iff]at q g;obtain⟨O,m,rfl⟩:=q;obtain⟨b,e⟩:=jG.1 m;simp at b e;subst e;obtain⟨R,I,rfl⟩:=g;obtain⟨_,d2,y,_,_,F⟩:=hf i b;rw[I]at y;cases y;exact F
end
end Ax
end
section
namespace Ax
open Go Go.RowKit Go.ChangeShapes Go.WideShapes Go.ChangeAt
section
variable {H:Type} {enc:TypeId×Value->H} {P:Program}
theorem Uw (g:laidOutB P=true) {W i:World} {sp:Nat->Bool} (j:Below W.heap.size W i):∀{e:List TypeId} {vs:List Value} {ds:List (DataW H)} {f:List MemPlace},
  (e.all fun t=>P.readableRec t&&decide (t<P.types.size))=true->DataW.TrodAll enc P W 0 (fun _=>true) true e vs ds f->(∀ p∈f,p.block<W.heap.size)->(∀ p∈f,sp p.block=true) ->
  DataW.TrodAll enc P i 0 sp true e vs ds f
 | [],_,_,_,_,h,_,_=>by
  obtain⟨rfl,rfl,rfl⟩:=trodAll_nil h;exact trodAll_mk0
 | t::e,_,_,_,hr,h,hlt,hs=>by
  obtain⟨v,k,d,l,a,b,rfl,rfl,rfl,h1,h2⟩:=trodAll_cons h;simp only[List.all_cons,ji,kde]at hr;exact⟨a,b,WideElems.Trod_stays g hr.1.1 hr.1.2 h1 (fun x c=>j.same (hlt x (List.mem_append_left _ c))) (fun x c=>hs x (List.mem_append_left _ c)),
   Uw g j hr.2 h2 (fun x c=>hlt x (List.mem_append_right _ c)) (fun x c=>hs x (List.mem_append_right _ c)),rfl⟩
theorem eL {f:Func} {s:ChangeSpec} {apart fresh a d:Bool} {W g:World} {args:Array Value} {ds gs:List (DataW H)} {before:List MemPlace} {tb:TypeId} (w:laidOutB P=true)
  (y:(f.params.toList.all fun t=>P.readableRec t&&decide (t<P.types.size))=true) (m:DataW.Whole enc P f.params.toList s.vars apart W args.toList ds gs before) (o:Below W.heap.size W g) (hvars:s.vars=[])
  (e:s.fn H (ds++gs)={ results:=[.lit (.bool true)],args:=ds }) (h:f.resultTypes = #[tb]) (hbool:P.underlying tb=some .bool):s.post enc P f apart fresh a d W args (.bool true) g:=by
 have i:∀ p∈before,p.block<W.heap.size:=fun p hp=>by simpa using m.lt p hp
 have j:∀ p∈before,(fun b=>decide (b<W.heap.size)) p.block=true:=fun p hp=>by simpa using m.lt p hp
 have r:=m;obtain⟨p,q,z,u,rfl,hz,A⟩:=r;have B:q=[]/\gs=[]:=by
  rw[hvars]at u;obtain⟨h1,h2⟩:=trodVars_none u;exact⟨by first|exact h2|exact h1,by first|exact h1|exact h2⟩
 obtain⟨rfl,rfl⟩:=B;simp only[List.append_nil]at *;have hargs:∀ sp:Nat->Bool,(∀ x∈p,sp x.block=true)->DataW.TrodAll enc P g 0 sp true f.params.toList args.toList ds p:=fun sp C=>Uw w o y z i C
 have c:∀(b:Nat) (sp:Nat->Bool) (v:Bool),DataW.TrodAll enc P g b sp v f.resultTypes.toList ((Value.bool true).resultList f.resultTypes.size) (s.fn H ds).results []:=by
  intro b sp v;rw[h,e];exact trodAll_cons_mk (shut_bool hbool _) trodAll_mk0
 have k:∀ sp:Nat->Bool,DataW.TrodVars enc P g sp s.vars (s.fn H ds).vars []:=by
  intro sp;rw[hvars,e];rfl
 refine⟨ds,[],p,[],p,[],m,?_,?_,?_,World.keptBut_mono (fun x n=>⟨n,Or.inr (Or.inl n)⟩) (o.frame _),fun _=>?_⟩
 ·simpa using c _ _ _
 ·simp only[List.append_nil]; rw[e]; exact hargs _ j
 ·simpa using k _
 refine⟨?_,_,_,([]++p)++[],⟨[]++p,[],trodAll_append (hargs _ (fun _ _=>rfl)) (c _ _ _),k _,rfl,?_,?_⟩,?_⟩
 ·exact ok_one h rfl (okWide_bool_mk hbool _)
 ·intro b off hp
  have l:MemPlace.cell b off∈p:=by simpa using hp
  rw[o.frozen (p:=⟨b,off,none⟩) (i _ l)];exact hz b off l
 ·intro D
  simpa using A D
 intro x n _;simpa using n
end
end Ax
end
section
namespace Ax
open Go Go.RowKit
variable {Lw:Nat}
theorem qh.calls {P:Program} {f:FuncId} {args:List PV} {r:PV} (h:qh P f args r) (he:Enters P f) {H:(PH Lw)} {w:World} {vs:List Value} (a:SatH H w) (b:zC H args vs) :
  Calls P f vs.toArray w fun e w'=>∃ v H',e=.returned v/\Calm H w H' w'/\qO H' r v:=by
 have:=h H w vs a b;rw[he]at this;exact this.2
theorem Calm.below {H H':(PH Lw)} {w w':World} (c:Calm H w H' w'):Below w.heap.size w w':=
 ⟨c.keep.os,c.keep.tape,c.keep.output,c.keep.size,fun k a=>c.keep.block k a id⟩
end Ax
end
section
namespace Ax
open Go
variable {Lw:Nat}
def HV:List FV->Option (List PV)
 | []=>some []
 | .p v::l=>match HV l with|some r=>some (v::r)|none=>none
 | .tsl _ rows::l=>match HV l with|some r=>some (.sl rows::r)|none=>none
 | .hptr row::l=>match HV l with|some r=>some (.hp row::r)|none=>none
 | _=>none
theorem Ur {ρ:List Value} {H:(PH Lw)}:∀{cs:List FV} {row:List PV} {vs:List Value},HV cs=some row->xa ρ H cs vs->zC H row vs
 | [],row,vs,h,r=>by simp only[HV]at h; cases h; simp only[zC]; exact r
 | c::cs,row,vs,h,r=>by
  obtain⟨u,us,e,b,d⟩:=r;cases c<;>simp only[HV]at h<;>try (exact absurd h (by simp))
  ·split at h
   ·rename_i q a
    cases h;simp only[zC];exact⟨u,us,e,b,Ur a d⟩
   cases h
  ·split at h
   ·rename_i q a
    cases h;simp only[zC];exact⟨u,us,e,b.2,Ur a d⟩
   cases h
  ·split at h
   ·rename_i q a
    cases h;simp only[zC];refine⟨u,us,e,?_,Ur a d⟩;simp only[qO];exact b
   cases h
theorem SatW.publishBox {bs:(Base Lw)} {ρ:List Value} {H:(PH Lw)} {lo:List AObj} {w:World} (s:SatW bs ρ H lo w) {k:Nat} {t:TypeId} {cells:List FV} {row:List PV} {v:Value} (l:lo[k]? =some (.box t cells)) (m:ρ[k]? =some v)
  (hp:HV cells=some row) (h1:row.all Uq=true):∃ H' b vs,PH.le H H'/\SatW bs ρ H' (lo.set k .dead) w/\v=.pointer (some ⟨b,0,none⟩)/\zC H' row vs/\∀ j u,vs[j]? =some u->H' b j=some u:=by
 obtain⟨b,vs,rfl,r,n,A⟩:=s.objs k _ _ l m;have x:=Ur hp n;have hone:∀ u∈vs,u.oneCell'=true:=zC.one (fun c a=>List.all_eq_true.1 h1 c a) x
 have d:PH.le H (xe H (.pointer (some ⟨b,0,none⟩)) vs):=by
  intro e o u hu;unfold xe;split
  ·rename_i a
   obtain⟨e1,_⟩:=a;simp only[qR,Option.some.injEq]at e1;subst e1;rw[A o]at hu;cases hu
  ·exact hu
 have sk:=s.kill k;refine⟨xe H (.pointer (some ⟨b,0,none⟩)) vs,b,vs,d,?_,rfl,zC.mono d x,fun j u hu=>?_⟩
 ·refine{ sath:=⟨fun e o u hu=>?_,s.sath.root.mono d,s.sath.low,fun e o u hu B=>by
   by_cases g:b=e
   ·subst g; exact .of r
   unfold xe at hu;rw[if_neg (fun a=>g (by simpa[qR]using a.1))]at hu
   exact s.sath.nf e o u hu B⟩,hlen:=sk.hlen,pre:=sk.pre,objs:=fun i oi y f h=>?_,excl:=sk.excl,own:=sk.own,keep:=sk.keep,leH:=sk.leH.trans d,newH:=fun e o u hu=>?_ }
  ·unfold xe at hu
   split at hu
   ·rename_i a
    obtain⟨e1,_⟩:=a;simp only[qR,Option.some.injEq]at e1;subst e1;refine⟨?_,hone u (List.mem_of_getElem? hu)⟩;simp only[World.cell?,r];simpa using hu
   exact s.sath.cell e o u hu
  ·rw[jF]at f
   split at f
   ·split at f
    ·cases f; trivial
    cases f
   ·rename_i p
    cases z:oi.live with
    | false=>cases oi<;>simp[AObj.live]at z; trivial
    | true=>
     refine(s.objs i oi y f h).keep (jq _) d (fun _ _ _=>rfl) (fun e o' q _ C=>?_)
     unfold xe;rw[if_neg (fun a=>s.excl k i _ oi _ y e l f m h p rfl z a.1 q)]
     exact C
  unfold xe at hu;split at hu
  ·rename_i a
   exact .inr (s.own k _ _ e l m rfl a.1)
  exact s.newH e o u hu
 unfold xe;rw[if_pos ⟨by simp[qR],(jG.1 hu).1⟩];exact hu
def qcr (k:Nat) (row:List PV):FV->FV
 | .ptr k' off=>match Nat.beq k' k with|true=>.hptr (row.drop off)|false=>.ptr k' off
 | .clo f c=>.clo f (qcr k row c)
 | .cap a b=>.cap (qcr k row a) (qcr k row b)
 | v=>v
theorem og {ρ:List Value} {H H':(PH Lw)} {k:Nat} {row:List PV} {b:Nat} {vs:List Value} (g:ρ[k]? =some (.pointer (some ⟨b,0,none⟩))) (h:zC H' row vs) (i:∀ j u,vs[j]? =some u->H' b j=some u) (d:PH.le H H') {f:FV} {x:Value} (r:qY ρ H f x) :
  qY ρ H' (qcr k row f) x:=by
 induction f generalizing x with
 | ptr k' off=>
  simp only[qcr];split
  ·rename_i l
   have e:=jm l;subst e;obtain⟨o,h1,rfl⟩:=r;rw[g]at h1;cases h1;exact⟨b,off,vs.drop off,rfl,h.drop off,fun j u hu=>i _ _ (by simpa using hu)⟩
  exact r.mono (jq _) d
 | clo f c ih=>
  obtain⟨us,e,r⟩:=r;exact⟨us,e,ih r⟩
 | cap a b iha ihb=>
  obtain⟨u,us,e,m,n⟩:=r;exact⟨u,us,e,iha m,ihb n⟩
 | _=>exact r.mono (jq _) d
def qb6 (k:Nat) (row:List PV):List FV->List FV
 | []=>[]
 | v::l=>qcr k row v::qb6 k row l
def PD:Nat->List AObj->List AObj
 | _,[]=>[]
 | 0,_::l=>.dead::l
 | n+1,o::l=>o::PD n l
theorem MW:∀(k:Nat) (lo:List AObj),PD k lo=lo.set k .dead
 | _,[]=>by simp[PD]
 | 0,a::l=>by simp[PD]
 | n+1,a::l=>by simp[PD,MW n l]
theorem zh.pubBox {P:Program} {f:FuncId} {args:List FV} {lo:List AObj} {R:FV->List AObj->Prop} (k:Nat) {t:TypeId} {cells:List FV} {row:List PV} (m:lo[k]? =some (.box t cells)) (hp:HV cells=some row) (h1:row.all Uq=true)
  (h:zh P f (qb6 k row args) (PD k lo) R):zh P f args lo R:=by
 intro Lw bs ρ H w vs s o;have p:k<ρ.length:=by rw[s.hlen]; exact(jG.1 m).1
 have i:ρ[k]? =some ρ[k]:=jf p;obtain⟨H',b,cs,g,q,e,y,z⟩:=s.publishBox m i hp h1;rw[e]at i;have sub:∀{xs:List FV} {us:List Value},xa ρ H xs us->xa ρ H' (qb6 k row xs) us:=by
  intro xs
  induction xs with
  | nil=>intro us r; exact r
  | cons x xs ih=>
   intro us r;obtain⟨u,us',e,A,B⟩:=r;exact⟨u,us',e,og i y z g A,ih B⟩
 rw[MW]at h;have:=h bs ρ H' w vs q (sub o);have after:∀{r lo' v w'},tf bs ρ H' r lo' v w'->tf bs ρ H r lo' v w':=fun⟨ρ2,C,a,b,c,d⟩=>⟨ρ2,C,a,g.trans b,c,d⟩;generalize (callFunc f vs.toArray).run P w=x at *;cases x with
 | ok n w'=>
  cases n<;>simp only at this ⊢ <;> try exact this
  ·obtain⟨r,lo',a,j⟩:=this; exact⟨r,lo',after a,j⟩
  obtain⟨e,l⟩:=this;exact⟨e,l.mono fun E D ⟨v,r,lo',e,a,j⟩=>⟨v,r,lo',e,after a,j⟩⟩
 | halt x w'=>exact this
end Ax
end
section
open Go Go.Proofs
namespace Ax
variable {P:Program}
structure ZeroIs (P:Program) (a:TypeId) (z:PV):Prop where
 plain:∃ u,P.underlying a=some u/\∀ m,u≠.interface m
 zero:∃ v i,P.info? a=some i/\i.zero=some v/\∀ ⦃Lw:Nat⦄ (H:PH Lw),qO H z v
theorem ZeroIs.of {a:TypeId} (d:TypeDesc) (v:Value) {z:PV} (h1:P.underlying a=some d) (h2:∀ m,d≠.interface m) (h3:(P.info? a).bind (·.zero)=some v) (h4:∀ ⦃Lw:Nat⦄ (H:PH Lw),qO H z v):ZeroIs P a z:=by
 refine⟨⟨d,h1,h2⟩,v,?_⟩;cases e:P.info? a with
 | none=>rw[e]at h3; cases h3
 | some i=>rw[e]at h3; exact⟨i,rfl,h3,h4⟩
theorem Po {a:TypeId} {i:TypeInfo} {v:Value} (h1:P.info? a=some i) (h2:i.zero=some v) (w:World):(zeroValue a).run P w=.ok v w:=by
 simp only[zeroValue,kf,typeInfo,run_program,h1,ke,h2,kg]
theorem Ua {a b:TypeId} {z v:PV} (hz:ZeroIs P a z):mf P (.ifc a v) b a (.tup [v,.bool true]):=by
 intro Lw H x w h;simp only[qO]at h;obtain⟨u,rfl,hu⟩:=h;obtain⟨d,c,e⟩:=hz.plain;refine⟨.tuple #[u,.bool true],?_,?_⟩
 ·unfold Instr.typeAssert
  simp only[kf,kru c,ke];cases d with
  | interface m=>exact absurd rfl (e m)
  | _=>simp
 ·simp only[qO,zC]
  exact⟨[u,.bool true],rfl,u,_,rfl,hu,_,_,rfl,rfl,rfl⟩
theorem Ub {a t e:TypeId} {z v:PV} (hz:ZeroIs P a z) (h:t≠a):mf P (.ifc t v) e a (.tup [z,.bool false]):=by
 intro Lw H x w c;simp only[qO]at c;obtain⟨u,rfl,hu⟩:=c;obtain⟨d,f,g⟩:=hz.plain;obtain⟨b,i,h1,h2,h3⟩:=hz.zero;refine⟨.tuple #[b,.bool false],?_,?_⟩
 ·unfold Instr.typeAssert
  simp only[kf,kru f,ke];cases d with
  | interface m=>exact absurd rfl (g m)
  | _=>simp[h,Po h1 h2]
 ·simp only[qO,zC]
  exact⟨[b,.bool false],rfl,b,_,rfl,h3 H,_,_,rfl,rfl,rfl⟩
theorem Xp {a e:TypeId} {z:PV} (hz:ZeroIs P a z):mf P .nili e a (.tup [z,.bool false]):=by
 intro Lw H x w c;simp only[qO]at c;subst c;obtain⟨d,f,g⟩:=hz.plain;obtain⟨b,i,h1,h2,h3⟩:=hz.zero;refine⟨.tuple #[b,.bool false],?_,?_⟩
 ·unfold Instr.typeAssert
  simp only[kf,kru f,ke];cases d with
  | interface m=>exact absurd rfl (g m)
  | _=>simp[Po h1 h2]
 ·simp only[qO,zC]
  exact⟨[b,.bool false],rfl,b,_,rfl,h3 H,_,_,rfl,rfl,rfl⟩
theorem bu {a b t:TypeId} {n:Bool} {v r:PV} (h1:n=true->mf P .nili b a r) (h2:n=false->mf P (.ifc t v) b a r):mf P (.ifo n t v) b a r:=by
 intro Lw H x w h;simp only[qO]at h;rcases h with ⟨e,h⟩|⟨e,h⟩
 ·exact h1 e H x w (by simpa only[qO]using h)
 exact h2 e H x w (by simpa only[qO]using h)
theorem zh.ofF {f:FuncId} {args:List FV} {lo:List AObj} {R:FV->List AObj->Prop} (h:No args fun d=>∃ r,qh P f d r/\R (.p r) lo):zh P f args lo R:=by
 obtain⟨d,⟨r,i,g⟩,b⟩:=pf h;intro Lw bs ρ H w vs s j;have:=i H w vs s.sath (b ρ H vs j);generalize (callFunc f vs.toArray).run P w=x at *;unfold Xn at this;split at this
 ·obtain⟨H',c,rv⟩:=this
  exact⟨.p r,lo,Qe s c rv,g⟩
 ·obtain⟨rfl,a⟩:=this
  exact⟨rfl,a.mono fun l k ⟨v,H',e,c,rv⟩=>⟨v,.p r,lo,e,Qe s c rv,g⟩⟩
 exact this.elim
end Ax
end
