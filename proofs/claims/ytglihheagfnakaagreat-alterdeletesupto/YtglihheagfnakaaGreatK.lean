/- A part of the proof: the abstract execution. -/
import Derived.Test.YtglihheagfnakaaGreatB
import Derived.Test.YtglihheagfnakaaGreatC
import Derived.Test.YtglihheagfnakaaGreatH
import Derived.Test.YtglihheagfnakaaGreatI
set_option linter.unusedVariables false
set_option linter.unusedSimpArgs false
set_option linter.unnecessarySimpa false
set_option linter.deprecated false
set_option linter.unusedSectionVars false
set_option linter.constructorNameAsVariable false
open Go.IntKind renaming wrap->kwr,bits->kbt
open List renaming prefix_refl->jq,length_take->jt,getElem?_eq_some_iff->jG
open Go.Result renaming andThen_ok->jZ
section
namespace Ax
open Go
variable {Lw:Nat}
def Tu (lo:List AObj) (v:FV) (R:PV->List AObj->Prop):Prop:=
 match v with
 | .tsl k rows=>nX k lo fun o=>match o with
  | .tail _ _ _=>R (.nsl rows) lo
  | _=>False
 | .vsl k _=>nX k lo fun o=>match o with
  | .vec _ _ rows=>Xn k .dead lo fun lo=>R (.nsl rows) lo
  | _=>False
 | v=>aW lo v R
def Tv:List FV->List AObj->(List PV->List AObj->Prop)->Prop
 | [],lo,R=>R [] lo
 | v::cs,lo,R=>Tu lo v fun p lo=>Tv cs lo fun a lo=>R (p::a) lo
def lr (lo:List AObj) (v:FV) (R:PV->List AObj->Prop):Prop:=
 match v with
 | .fagg c=>mG c fun cs=>Tv cs lo fun a lo=>R (.agg a) lo
 | v=>Tu lo v R
def Sk (P:Program) (E:Env) (lo:List AObj):List ResultVar->(List PV->Prop)->Prop
 | [],R=>R []
 | r::rs,R=>Pz P E lo r fun v=>lr lo v fun p lo=>Sk P E lo rs fun l=>R (p::l)
def aD (P:Program) (fn:Func) (R:PV->Prop):KA:=fun x E lo=>match x with
 | .exit _=>False
 | _=>Sk P E lo fn.results.toList fun vs=>match vs with
   | [v]=>R v
   | vs=>R (.tup vs)
theorem Tp {ρ:List Value} {H:PH Lw} {w:World} {v:Value} {e:TypeId} {z n:Nat} (h:sD ρ H w v (.tail e z n)) {b o m c:Nat} (d:v=.slice (some ⟨b,o,none⟩) m c):o=0:=by
 obtain⟨xs,a,_⟩:=h;rcases a.2 with ⟨rfl,_⟩|⟨g,cap,cur,rfl,_⟩
 ·cases d
 cases d; rfl
theorem Sg {ρ:List Value} {H:PH Lw} {w:World} {v:Value} {e:TypeId} {z:Nat} {rows:List (List PV)} (h:sD ρ H w v (.vec e z rows)) {b o m c:Nat} (d:v=.slice (some ⟨b,o,none⟩) m c):o=0:=by
 obtain⟨xs,a,_⟩:=h;rcases a.2 with ⟨rfl,_⟩|⟨g,cap,cur,rfl,_⟩
 ·cases d
 cases d; rfl
def NB (bs:(Base Lw)):Prop:=(∀ b,¬ bs.S b)/\Lw<=bs.w0.heap.size
theorem BI {lo:List AObj} {v:FV} {R:PV->List AObj->Prop} (h:Tu lo v R):∃ f lo',R f lo'/\∀ ⦃Lw:Nat⦄ (bs:(Base Lw)) (N:Nat) (ρ:List Value) (H:(PH Lw)) (e:Nat->FV) (a:Act) (w:World) (x:Value),NB bs->Sat bs N ρ H e lo a w->qL ρ H v x ->
  ∃ H',PH.le H H'/\Sat bs N ρ H' e lo' a w/\qu H' f x:=by
 unfold Tu at h;split at h
 ·rename_i k rows
  obtain⟨o,d,h⟩:=zd h;split at h
  ·rename_i e z n
   refine⟨_,_,h,fun Lw bs N ρ H ev a w x g s r=>⟨H,PH.le.refl H,s,?_⟩⟩;obtain⟨q,r⟩:=r;simp only[qu]at r ⊢;rcases r with r|⟨b,off,l,cap,rfl,m,p⟩
   ·exact .inl r
   refine .inr ⟨b,off,l,cap,rfl,m,?_,p⟩;refine⟨?_,Tp (s.objs k _ _ d q) rfl⟩;rcases s.own k _ _ b d q rfl rfl with c|c
   ·exact absurd c (g.1 b)
   exact Nat.le_trans g.2 c
  exact h.elim
 ·rename_i k n
  obtain⟨o,d,h⟩:=zd h;split at h
  ·rename_i e z rows
   obtain⟨h,_⟩:=xL h;refine⟨_,_,h,fun Lw bs N ρ H ev a w x g s r=>?_⟩;obtain⟨H',i,u,j⟩:=s.toSatW.publish d r.1;refine⟨H',i,{ u with slots:=fun t=>(s.slots t).mono (jq _) i,width:=s.width,defers:=s.defers },?_⟩
   simp only[qu]at j ⊢;rcases j with j|⟨b,off,l,cap,rfl,m,p⟩
   ·exact .inl j
   refine .inr ⟨b,off,l,cap,rfl,m,?_,p⟩;refine⟨?_,Sg (s.objs k _ _ d r.1) rfl⟩;rcases s.own k _ _ b d r.1 rfl rfl with c|c
   ·exact absurd c (g.1 b)
   exact Nat.le_trans g.2 c
  exact h.elim
 obtain⟨f,lo',h,y⟩:=HP h;exact⟨f,lo',h,fun Lw bs N ρ H e a w x _ s r=>y bs N ρ H e a w x s r⟩
theorem BJ:∀ {cs:List FV} {lo:List AObj} {R:List PV->List AObj->Prop},Tv cs lo R->∃ d lo',R d lo'/\∀ ⦃Lw:Nat⦄ (bs:(Base Lw)) (N:Nat) (ρ:List Value) (H:(PH Lw)) (e:Nat->FV) (a:Act) (w:World) (vs:List Value),NB bs->Sat bs N ρ H e lo a w->zJ ρ H cs vs ->
  ∃ H',PH.le H H'/\Sat bs N ρ H' e lo' a w/\qU H' d vs
 | [],lo,R,h=>⟨[],lo,h,fun Lw bs N ρ H e a w vs _ s r=>⟨H,PH.le.refl H,s,by simp only[zJ]at r; simp only[qU]; exact r⟩⟩
 | v::cs,lo,R,h=>by
  simp only[Tv]at h;obtain⟨p,j,h,k⟩:=BI h;obtain⟨d,l,h,m⟩:=BJ h;refine⟨_,_,h,fun Lw bs N ρ H e a w vs i s r=>?_⟩;obtain⟨u,us,rfl,n,rs⟩:=r;obtain⟨H1,b,s1,f⟩:=k bs N ρ H e a w u i s n;obtain⟨o,c,s2,g⟩:=m bs N ρ H1 e a w us i s1 (rs.mono (jq _) b);exact⟨o,b.trans c,s2,by simp only[qU]; exact⟨u,us,rfl,qu.mono c f,g⟩⟩
theorem NY {lo:List AObj} {v:FV} {R:PV->List AObj->Prop} (h:lr lo v R):∃ f lo',R f lo'/\∀ ⦃Lw:Nat⦄ (bs:(Base Lw)) (N:Nat) (ρ:List Value) (H:(PH Lw)) (e:Nat->FV) (a:Act) (w:World) (x:Value),NB bs->Sat bs N ρ H e lo a w->qL ρ H v x ->
  ∃ H',PH.le H H'/\Sat bs N ρ H' e lo' a w/\qu H' f x:=by
 unfold lr at h;split at h
 ·rename_i c
  obtain⟨cs,h,b⟩:=bl h;obtain⟨l,lo',h,g⟩:=BJ h;refine⟨_,_,h,fun Lw bs N ρ H e a w x i s r=>?_⟩;obtain⟨vs,rfl,rc⟩:=r;obtain⟨H',d,j,k⟩:=g bs N ρ H e a w vs i s (b _ _ _ rc);exact⟨H',d,j,by simp only[qu]; exact⟨vs,rfl,k⟩⟩
 exact BI h
theorem BK {P:Program} {E:Env}:∀ {l:List ResultVar} {lo:List AObj} {R:List PV->Prop},Sk P E lo l R->∃ c,R c/\c.length=l.length/\∀ ⦃Lw:Nat⦄ (bs:(Base Lw)) (N:Nat) (ρ:List Value) (H:(PH Lw)) (a:Act) (w:World),NB bs->Sat bs N ρ H (qG E) lo a w ->
  ∃ (vs:List Value) (H':(PH Lw)) (lo':List AObj),(l.mapM (m:=Sem) (BL a.tmps)).run P w=.ok vs w/\qU H' c vs/\PH.le H H'/\Sat bs N ρ H' (qG E) lo' a w
 | [],lo,R,h=>⟨[],h,rfl,fun Lw bs N ρ H a w _ s=>⟨[],H,lo,by simp,by simp[qU],PH.le.refl H,s⟩⟩
 | r::rs,lo,R,h=>by
  simp only[Sk]at h;obtain⟨f,h,n⟩:=sN h;obtain⟨p,o,h,q⟩:=NY h;obtain⟨c,h,hlen,t⟩:=BK h;refine⟨p::c,h,by simp[hlen],fun Lw bs N ρ H a w k s=>?_⟩;obtain⟨v,u,x⟩:=n bs N ρ H a w s;obtain⟨H1,d,s1,e⟩:=q bs N ρ H _ a w v k s x;obtain⟨vs,y,g,i,j,b,s2⟩:=t bs N ρ H1 a w k s1;refine⟨v::vs,y,g,?_,by simp only[qU]; exact⟨v,vs,rfl,qu.mono b e,j⟩,d.trans b,s2⟩;simp only[List.mapM_cons,Sem.run_bind,u,jZ,i,Sem.run_pure]
theorem Sl {P:Program} {fn:Func} {E:Env} {lo:List AObj} {x:AX} {R:PV->Prop} (h:aD P fn R x E lo):∃ p,R p/\(x=.normal\/x=.ret) /\
  ∀ ⦃Lw:Nat⦄ (bs:(Base Lw)) (N:Nat) (ρ:List Value) (H:(PH Lw)) (a:Act) (w:World),NB bs->Sat bs N ρ H (qG E) lo a w->∃ (v:Value) (H':(PH Lw)) (lo':List AObj),(results fn a.tmps).run P w=.ok v w/\qu H' p v/\PH.le H H'/\Sat bs N ρ H' (qG E) lo' a w:=by
 have key:∀ {x:AX},(x=.normal\/x=.ret)->(Sk P E lo fn.results.toList fun vs=>match vs with
   | [v]=>R v
   | vs=>R (.tup vs))->∃ p,R p/\(x=.normal\/x=.ret) /\
  ∀ ⦃Lw:Nat⦄ (bs:(Base Lw)) (N:Nat) (ρ:List Value) (H:(PH Lw)) (a:Act) (w:World),NB bs->Sat bs N ρ H (qG E) lo a w->∃ (v:Value) (H':(PH Lw)) (lo':List AObj),(results fn a.tmps).run P w=.ok v w/\qu H' p v/\PH.le H H'/\Sat bs N ρ H' (qG E) lo' a w:=by
  intro x n h;obtain⟨r,h,e,o⟩:=BK h;clear e;split at h
  ·rename_i p
   refine⟨p,h,n,fun Lw bs N ρ H a w f s=>?_⟩;obtain⟨vs,H',lo',g,d,c,j⟩:=o bs N ρ H a w f s;simp only[qU]at d;obtain⟨v,_,rfl,t,rfl⟩:=d;refine⟨v,H',lo',?_,t,c,j⟩;rw[cR,Array.mapM_eq_mapM_toList];simp only[Sem.run_bind,Sem.run_map,g,jZ];rfl
  rename_i k;refine⟨_,h,n,fun Lw bs N ρ H a w f s=>?_⟩;obtain⟨vs,H',lo',g,d,c,j⟩:=o bs N ρ H a w f s;refine⟨.tuple vs.toArray,H',lo',?_,by simp only[qu]; exact⟨vs,rfl,d⟩,c,j⟩;rw[cR,Array.mapM_eq_mapM_toList];simp only[Sem.run_bind,Sem.run_map,g,jZ,Sem.run_pure];have:¬ vs.toArray.size=1:=by
   intro q;have m:=d.length;simp at q;rw[q]at m;cases r with
   | nil=>simp at m
   | cons a l=>cases l with
    | nil=>exact k a rfl
    | cons b l=>simp at m
  simp only[this,dif_neg,not_false_eq_true]
 cases x with
 | normal=>exact key (.inl rfl) h
 | exit i=>exact h.elim
 | ret=>exact key (.inr rfl) h
def lF (P:Program) (inl:List Nat) (fn:Func) (args:List PV) (R:PV->Prop):Prop:=
 match fn.body with
 | some c=>vc P inl fn.ntmps 0 c (aD P fn R) (Hs 0 args) []
 | none=>False
theorem qc.of_vcNewR {P:Program} {f:FuncId} {fn:Func} {args:List PV} {r:PV} {inl:List Nat} {R:PV->Prop} (hm:P.follows .mixedOrders=true) (he:Enters P f) (B:P.funcs[f]? =some fn) (g:MT inl fn args.length=true)
  (C:∀ (p:PV) (v:Value) ⦃Lw:Nat⦄ (H:(PH Lw)),R p->qu H p v->qu H r v) (h:lF P inl fn args R):qc P f args r:=by
 intro Lw H w vs y z;rw[he];refine⟨rfl,?_⟩;simp only[MT,Bool.and_eq_true,kde]at g;obtain⟨j,I⟩:=g;unfold lF at h;cases l:fn.body with
 | none=>simp[l]at j
 | some c=>
  simp only[l]at h j;refine calls_of_wp B l ?_;have J:=z.length;have sat:Sat { S:=EA,w0:=w,H0:=H,r0:=[] } fn.ntmps [] H (qG (Hs 0 args)) [] { tmps:=vs.toArray++Array.replicate (fn.ntmps - vs.toArray.size) undef,defers:=[] } w:=by
   refine{ sath:=y,hlen:=rfl,pre:=jq _,objs:=fun k o v h=>by simp at h,excl:=fun k _ o _ v _ b h=>by simp at h,own:=fun k o v b h=>by simp at h,keep:=Keep.refl _ w,leH:=PH.le.refl H,newH:=fun b o v h=>.inl ⟨v,h⟩,slots:=fun t=>?_,width:=by simp; omega,defers:=rfl }
   rw[VM];simp only[Nat.zero_le,if_true,Nat.sub_zero];cases D:args[t]? with
   | none=>trivial
   | some p=>
    obtain⟨v,d,m⟩:=z.get D;have n:=(jG.1 d).1;have:(vs.toArray++Array.replicate (fn.ntmps - vs.toArray.size) undef).getD t undef=v:=by
     rw[Array.getD_eq_getD_getElem?,Array.getElem?_append_left (by simpa using n)];simp[d]
    rw[this];exact Sv m
  refine wp_mono (uD hm c _ _ _ j h _ [] H _ w rfl sat) fun e a w' p=>?_;obtain⟨x,ρ',H',E',lo',E,q,k⟩:=p;obtain⟨p,hp,s,i⟩:=Sl k;obtain⟨v,A,F,d,m,G,s2⟩:=i _ _ ρ' H' a w' ⟨fun _ h=>h,y.low⟩ q
  have oX:∃ v,(results fn a.tmps).run P w'=.ok v w'/\(fun e u=>∃ v H',e=Ending.returned v/\Calm H w H' u/\qu H' r v) (.returned v) w':=
   ⟨v,d,v,A,rfl,⟨s2.leH,s2.sath,s2.keep,fun b o v d=>by
    rcases s2.newH b o v d with h|h|h
    ·exact .inl h
    ·exact h.elim
    exact .inr h⟩,C p v A hp m⟩
  rcases s with rfl|rfl<;>cases e<;>simp only[Pj]at E
  ·exact⟨q.defers,oX⟩
  exact⟨q.defers,oX⟩
theorem qc.of_vcNew {P:Program} {f:FuncId} {fn:Func} {args:List PV} {r:PV} {inl:List Nat} (hm:P.follows .mixedOrders=true) (he:Enters P f) (b:P.funcs[f]? =some fn) (a:MT inl fn args.length=true)
  (h:lF P inl fn args (fun v=>nle v r)):qc P f args r:=
 qc.of_vcNewR hm he b a (fun _ _ _ _=>Xm) h
end Ax
end
section
namespace Ax
open Go
variable {Lw:Nat}
mutual
def wkP:PV->PV
 | .nsl rows=>.sl (wkR rows)
 | .sl rows=>.sl (wkR rows)
 | .agg cs=>.agg (wkL cs)
 | .tup cs=>.tup (wkL cs)
 | .ifc t p=>.ifc t (wkP p)
 | .hp r=>.hp (wkL r)
 | .clo f cs=>.clo f (wkL cs)
 | .bfn f cs=>.bfn f (wkL cs)
 | .ifo n t p=>.ifo n t (wkP p)
 | .bool b=>.bool b
 | .int k n=>.int k n
 | .str l=>.str l
 | .nilsl=>.nilsl
 | .nilp=>.nilp
 | .fn f=>.fn f
 | .nilfn=>.nilfn
 | .nili=>.nili
 | .nilmap=>.nilmap
def wkL:List PV->List PV
 | []=>[]
 | c::cs=>wkP c::wkL cs
def wkR:List (List PV)->List (List PV)
 | []=>[]
 | r::rs=>wkL r::wkR rs
end
mutual
def nwP:PV->Prop
 | .bool _=>True
 | .int _ _=>True
 | .str _=>True
 | .nilsl=>True
 | .agg cs=>nwL cs
 | .nsl rows=>nwR rows
 | _=>False
def nwL:List PV->Prop
 | []=>True
 | c::cs=>nwP c/\nwL cs
def nwR:List (List PV)->Prop
 | []=>True
 | r::rs=>nwL r/\nwR rs
end
theorem VT:∀ l:List PV,(wkL l).length=l.length
 | []=>rfl
 | c::cs=>by simp only[wkL,List.length_cons,VT cs]
theorem br:∀ l:List (List PV),(wkR l).length=l.length
 | []=>rfl
 | c::cs=>by simp only[wkR,List.length_cons,br cs]
def part (lo hi:Nat) (H:(PH Lw)):PH 0:=fun b o=>if lo<=b/\b<hi then H b o else none
section
variable {H:(PH Lw)} {hi:Nat} (hh:∀ b o v,H b o=some v->b<hi)
include hh
theorem HL {b o:Nat} {v:Value} (h:H b o=some v) (a:Lw<=b):part Lw hi H b o=some v:=by
 unfold part;rw[if_pos ⟨a,hh _ _ _ h⟩];exact h
mutual
theorem Tm:∀ {p:PV} {v:Value},nwP p->qu H p v->qu (part Lw hi H) (wkP p) v
 | .bool _,_,_,r=>by simp only[qu,wkP]at *; exact r
 | .int _ _,_,_,r=>by simp only[qu,wkP]at *; exact r
 | .str _,_,_,r=>by simp only[qu,wkP]at *; exact r
 | .nilsl,_,_,r=>by simp only[qu,wkP]at *; exact r
 | .agg cs,_,h,r=>by
  simp only[nwP]at h;simp only[qu,wkP]at *;obtain⟨vs,e,rr⟩:=r;exact⟨vs,e,XT h rr⟩
 | .nsl rows,_,h,r=>by
  simp only[nwP]at h;simp only[qu,wkP]at *;rcases r with ⟨rfl,r⟩|⟨b,o,z,cap,e,l,hb,rr⟩
  ·exact .inl ⟨rfl,r⟩
  exact .inr ⟨b,o,z,cap,by rw[br]; exact e,by rw[br]; exact l,HH hb.1 h rr⟩
 | .tup _,_,h,_=>by simp[nwP]at h
 | .sl _,_,h,_=>by simp[nwP]at h
 | .nilp,_,h,_=>by simp[nwP]at h
 | .fn _,_,h,_=>by simp[nwP]at h
 | .nilfn,_,h,_=>by simp[nwP]at h
 | .nili,_,h,_=>by simp[nwP]at h
 | .ifc _ _,_,h,_=>by simp[nwP]at h
 | .nilmap,_,h,_=>by simp[nwP]at h
 | .hp _,_,h,_=>by simp[nwP]at h
 | .clo _ _,_,h,_=>by simp[nwP]at h
 | .bfn _ _,_,h,_=>by simp[nwP]at h
 | .ifo _ _ _,_,h,_=>by simp[nwP]at h
theorem XT:∀ {cs:List PV} {vs:List Value},nwL cs->qU H cs vs->qU (part Lw hi H) (wkL cs) vs
 | [],_,_,r=>by simp only[qU,wkL]at *; exact r
 | c::cs,_,h,r=>by
  simp only[nwL]at h;simp only[qU,wkL]at *;obtain⟨v,vs,e,r1,r2⟩:=r;exact⟨v,vs,e,Tm h.1 r1,XT h.2 r2⟩
theorem HH {b z:Nat} (hb:Lw<=b):∀ {o:Nat} {rows:List (List PV)},nwR rows->ca H b z o rows->ca (part Lw hi H) b z o (wkR rows)
 | _,[],_,_=>by simp only[ca,wkR]
 | o,r::rs,h,x=>by
  simp only[nwR]at h;simp only[ca,wkR]at *;obtain⟨hz,⟨vs,q,c⟩,x⟩:=x;exact⟨by rw[VT]; exact hz,⟨vs,XT h.1 q,fun j v hv=>HL hh (c j v hv) hb⟩,HH hb h.2 x⟩
end
end
mutual
theorem qu.base {L':Nat} {H:(PH Lw)} {H':PH L'} (h:∀ b o v,H b o=some v->H' b o=some v):∀ {p:PV} {v:Value},qu H p v->qu H' (wkP p) v
 | .bool _,_,x|.int ..,_,x|.str _,_,x|.nilsl,_,x|.nilp,_,x|.fn _,_,x|.nilfn,_,x|.nili,_,x|.nilmap,_,x=>by
  simp only[qu,wkP]at *; exact x
 | .agg cs,v,x=>by
  simp only[qu,wkP]at *;obtain⟨vs,e,r⟩:=x;exact⟨vs,e,qU.base h r⟩
 | .tup cs,v,x=>by
  simp only[qu,wkP]at *;obtain⟨vs,e,r⟩:=x;exact⟨vs,e,qU.base h r⟩
 | .nsl rows,v,x=>by
  simp only[qu,wkP]at *;rcases x with ⟨rfl,x⟩|⟨b,o,z,cap,e,l,_,r⟩
  ·exact .inl ⟨rfl,x⟩
  exact .inr ⟨b,o,z,cap,by rw[br]; exact e,by rw[br]; exact l,ca.base h r⟩
 | .sl rows,v,x=>by
  simp only[qu,wkP]at *;rcases x with ⟨rfl,x⟩|⟨b,o,z,cap,e,l,r⟩
  ·exact .inl ⟨rfl,x⟩
  exact .inr ⟨b,o,z,cap,by rw[br]; exact e,by rw[br]; exact l,ca.base h r⟩
 | .ifc t p,v,x=>by
  simp only[qu,wkP]at *;obtain⟨u,e,r⟩:=x;exact⟨u,e,qu.base h r⟩
 | .hp row,v,x=>by
  simp only[qu,wkP]at *;obtain⟨b,o,vs,e,r,c⟩:=x;exact⟨b,o,vs,e,qU.base h r,fun j u hu=>h _ _ _ (c j u hu)⟩
 | .clo f cs,v,x=>by
  simp only[qu,wkP]at *;obtain⟨vs,e,r⟩:=x;exact⟨vs,e,qU.base h r⟩
 | .bfn f cs,v,x=>by
  simp only[qu,wkP]at *;obtain⟨vs,e,r⟩:=x;exact⟨vs,e,qU.base h r⟩
 | .ifo n t p,v,x=>by
  simp only[qu,wkP]at *;rcases x with x|⟨e,u,e',r⟩
  ·exact .inl x
  exact .inr ⟨e,u,e',qu.base h r⟩
theorem qU.base {L':Nat} {H:(PH Lw)} {H':PH L'} (h:∀ b o v,H b o=some v->H' b o=some v):∀ {cs:List PV} {vs:List Value},qU H cs vs->qU H' (wkL cs) vs
 | [],_,x=>by simp only[qU,wkL]at *; exact x
 | c::cs,vs,x=>by
  simp only[qU,wkL]at *;obtain⟨v,vs',e,r,rs⟩:=x;exact⟨v,vs',e,qu.base h r,qU.base h rs⟩
theorem ca.base {L':Nat} {H:(PH Lw)} {H':PH L'} (h:∀ b o v,H b o=some v->H' b o=some v) {b z:Nat}:∀ {o:Nat} {rows:List (List PV)},ca H b z o rows->ca H' b z o (wkR rows)
 | _,[],_=>by simp only[ca,wkR]
 | o,r::rs,x=>by
  simp only[ca,wkR]at *;obtain⟨e,⟨vs,q,c⟩,x'⟩:=x;exact⟨by rw[VT]; exact e,⟨vs,qU.base h q,fun j v hv=>h _ _ _ (c j v hv)⟩,ca.base h x'⟩
end
theorem qc.wkArgs {P:Program} {f:FuncId} {args a:List PV} {r:PV} (h:qc P f a r) (e:wkL args=a):qc P f args r:=by
 subst e;exact fun _ H w vs c d=>h H w vs c (qU.base (fun _ _ _ h=>h) d)
end Ax
end
section
namespace Ax
open Go
mutual
def Val.cellsN:Val->List PV
 | .mk k b i s l ks=>[.int .i64 k,.bool b,.int .i64 i,.str s,.nsl (Val.rowsN l),.nsl (qi ks)]
def Val.rowsN:List Val->List (List PV)
 | []=>[]
 | v::l=>v.cellsN::Val.rowsN l
end
theorem Gi:∀ l:List Val,Val.rowsN l=l.map Val.cellsN
 | []=>rfl
 | v::l=>by simp only[Val.rowsN,List.map_cons]; rw[Gi l]
theorem DE (v:Val):v.cellsN.length=6:=by cases v; rfl
def lC:Codec Val:={ cells:=Val.cellsN,rows:=Val.rowsN,z:=6,hrows:=fun l=>Gi l,hz:=DE,hone:=fun v=>by cases v; rfl }
theorem tQ:∀ l:List (List UInt8),wkR (qi l)=qi l
 | []=>rfl
 | s::l=>by
  show wkR ([.str s]::qi l)=[.str s]::qi l;simp only[wkR,wkL,wkP,tQ l]
theorem Ed:∀ l:List (List UInt8),nwR (qi l)
 | []=>trivial
 | s::l=>by
  show nwR ([.str s]::qi l);simp only[nwR,nwL,nwP,Ed l,and_self]
mutual
theorem TL:∀ v:Val,wkL v.cellsN=v.cells
 | .mk k b i s l ks=>by simp only[Val.cellsN,Val.cells,wkL,wkP,En l,tQ]
theorem En:∀ l:List Val,wkR (Val.rowsN l)=Val.rows l
 | []=>rfl
 | v::l=>by simp only[Val.rowsN,Val.rows,wkR,TL v,En l]
end
mutual
theorem lM:∀ v:Val,wkL v.cells=v.cells
 | .mk k b i s l ks=>by simp only[Val.cells,wkL,wkP,Vb l,tQ]
theorem Vb:∀ l:List Val,wkR (Val.rows l)=Val.rows l
 | []=>rfl
 | v::l=>by simp only[Val.rows,wkR,lM v,Vb l]
end
mutual
theorem Tn:∀ v:Val,nwL v.cellsN
 | .mk k b i s l ks=>by simp only[Val.cellsN,nwL,nwP,Ec l,Ed,and_self]
theorem Ec:∀ l:List Val,nwR (Val.rowsN l)
 | []=>trivial
 | v::l=>by simp only[Val.rowsN,nwR,Tn v,Ec l,and_self]
end
def oG:Value->Value->Prop
 | .int k _,u=>∃ n,u=.int k n
 | .bool _,u=>∃ b,u=.bool b
 | .string _,u=>∃ s,u=.string s
 | .slice p n c,u=>u=.slice p n c\/u=.slice none 0 0
 | v,u=>u=v
theorem oG.refl (v:Value):oG v v:=by
 cases v<;>first|exact⟨_,rfl⟩|exact .inl rfl|rfl
theorem oG.trans {a b c:Value} (h:oG a b) (k:oG b c):oG a c:=by
 cases a<;>simp only[oG]at h
 case int=>obtain⟨n,rfl⟩:=h; exact k
 case bool=>obtain⟨n,rfl⟩:=h; exact k
 case string=>obtain⟨n,rfl⟩:=h; exact k
 case slice=>
  rcases h with rfl|rfl
  ·exact k
  simp only[oG,or_self]at k;exact .inr k
 all_goals subst h; exact k
def oH (H:PH 0) (w:World):Prop:=∀ b o u,H b o=some u->∃ a,w.cell? ⟨b,o,none⟩=some a/\oG u a
theorem oH.of {H:PH 0} {w:World} (h:∀ b o u,H b o=some u->w.cell? ⟨b,o,none⟩=some u):oH H w:=fun b o u hu=>⟨u,h b o u hu,oG.refl u⟩
def ed (vs us:List Value):Prop:=vs.length=us.length/\∀ (j:Nat) (v u:Value),vs[j]? =some v->us[j]? =some u->oG v u
end Ax
end
section
namespace Ax
open Go
def Pv (i:Nat) (l:List Val):List (List PV):=Val.rowsN (l.take i)++Val.rows (l.drop i)
theorem mc (l:List Val):(Val.rowsN l).length=l.length:=by rw[Gi]; simp
theorem tL (l:List Val):(Val.rows l).length=l.length:=by rw[rows_eq]; simp[vals]
theorem Tl (l:List Val):Pv 0 l=Val.rows l:=by simp[Pv,Val.rowsN]
theorem RY {i:Nat} {l:List Val} {v:Val} (h:l[i]? =some v):(Pv i l)[i]? =some v.cells:=by
 have a:=(jG.1 h).1;unfold Pv;rw[List.getElem?_append_right (by rw[mc,jt]; omega),mc,jt,rows_eq];have e:i - min i l.length=0:=by omega
 rw[e];simp[vals,List.getElem?_drop,h]
theorem ld {i:Nat} {l:List Val} (a:i<l.length) (v:Val):(Pv i l).set i v.cellsN=Pv (i+1) (l.set i v):=by
 unfold Pv;have e1:(l.set i v).take (i+1)=l.take i++[v]:=by
  rw[List.take_set];refine List.ext_getElem? fun k=>?_;rw[List.getElem?_set,List.getElem?_append];by_cases h:i=k
  ·subst h
   rw[if_pos rfl,if_pos (by rw[jt]; omega),if_neg (by rw[jt]; omega),jt];have:i - min i l.length=0:=by omega
   rw[this];rfl
  rw[if_neg h];by_cases b:k<i
  ·rw[if_pos (by rw[jt]; omega),List.getElem?_take_of_lt (by omega),List.getElem?_take_of_lt b]
  rw[if_neg (by rw[jt]; omega),List.getElem?_eq_none (by rw[jt]; omega),List.getElem?_eq_none (by rw[jt,List.length_singleton]; omega)]
 have e2:(l.set i v).drop (i+1)=l.drop (i+1):=by rw[List.drop_set_of_lt (by omega)]
 rw[e1,e2,List.set_append_right _ _ (by rw[mc,jt]; omega),mc,jt];have e3:i - min i l.length=0:=by omega
 rw[e3,List.drop_eq_getElem_cons a];simp only[Val.rows,List.set_cons_zero,Gi,List.map_append,List.map_cons,List.map_nil,List.append_assoc,List.singleton_append]
theorem lb {i:Nat} {l:List Val} (h:l.length<=i):Pv i l=Val.rowsN l:=by
 unfold Pv;rw[List.take_of_length_le h,List.drop_eq_nil_of_le h];simp[Val.rows]
end Ax
end
section
open Go Go.Proofs Ax
namespace Ax
theorem qP.fnI {P : Program} (inl : List Nat) {N nb : Nat} {body : Code} {K : KA} {E : Env} {lo : List AObj} {S R : Type} (I : S -> Prop) (fr : S -> Env) (ob : S -> List AObj) {B : (S -> Option R) -> S -> Option R} {n : Nat} {s0 : S} {r : R}
    (h : qC B n s0 = some r) (h0 : I s0) (hw : UY nb E lo (fr s0) (ob s0))
    (round : ∀ (next : S -> Option R) (s : S), I s -> B next s = some r -> vc P inl N nb body (fun x E' lo' => match x with
      | .normal => ∃ s', (I s' /\ next s' = some r) /\ UY nb E' lo' (fr s') (ob s')
      | .exit i => K (.exit i) E' lo'
      | .ret => K .ret E' lo') (fr s) (ob s)) : qP P inl N nb body K E lo := by
  intro hm hd Lw bs ρ H a w hb sat
  subst hb
  obtain ⟨ρ', sat'⟩ := hw.sat sat
  refine wp_loop_ghost (I := fun n a w => ∃ s ρ H, (I s /\ qC B n s = some r) /\ Sat bs N ρ H (qG (fr s)) (ob s) a w) n ⟨s0, ρ', H, ⟨h0, h⟩, sat'⟩ fun n a w ⟨s, ρ, H, ⟨hI, hs⟩, sat⟩ => ?_
  cases n with
  | zero => cases hs
  | succ n =>
    refine wp_mono (uD hm body _ _ _ hd (round (qC B n) s hI hs) bs ρ H a w rfl sat) fun e a w p => ?_
    obtain ⟨x, ρ2, H2, E2, lo2, hx, sat2, k⟩ := p
    cases x <;> cases e <;> simp only [Pj] at hx
    · obtain ⟨s', hok', hwk⟩ := k
      obtain ⟨ρ3, sat3⟩ := hwk.sat sat2
      exact ⟨n, Nat.lt_succ_self _, s', ρ3, H2, hok', sat3⟩
    · exact ⟨.exit _, ρ2, H2, E2, lo2, hx, sat2, k⟩
    · exact ⟨.ret, ρ2, H2, E2, lo2, trivial, sat2, k⟩
theorem SE {x : Nat} (h : x < 140737488355328) : kwr .i64 ((x : Int) + 1) = ((x + 1 : Nat) : Int) := by
  rw [ME _ (by omega) (by omega)]; omega
end Ax
namespace W
def Node.cellsN : Node -> List PV
  | ⟨x1, x2, x3, x4⟩ => [.int .i64 x1, .nsl (qi x2), .nsl (qi x3), .nsl (Val.rowsN x4)]
def Node.rowsN (l : List Node) : List (List PV) := l.map Node.cellsN
def Se : Codec Node := { cells := Node.cellsN, rows := Node.rowsN, z := 4, hrows := fun _ => rfl, hz := fun ⟨x1, x2, x3, x4⟩ => rfl, hone := fun ⟨x1, x2, x3, x4⟩ => rfl }
def Edge.cellsN : Edge -> List PV
  | ⟨x1, x2, x3, x4, x5, x6⟩ => [.int .i64 x1, .int .i64 x2, .int .i64 x3, .str x4, .nsl (qi x5), .nsl (Val.rowsN x6)]
def Edge.rowsN (l : List Edge) : List (List PV) := l.map Edge.cellsN
def PZ : Codec Edge := { cells := Edge.cellsN, rows := Edge.rowsN, z := 6, hrows := fun _ => rfl, hz := fun ⟨x1, x2, x3, x4, x5, x6⟩ => rfl, hone := fun ⟨x1, x2, x3, x4, x5, x6⟩ => rfl }
theorem SC (d : Node) : wkL d.cellsN = d.cells := by
  obtain ⟨x1, x2, x3, x4⟩ := d
  simp only [Node.cellsN, Node.cells, wkL, wkP, tQ, En]
theorem Em : ∀ l : List Node, wkR (Node.rowsN l) = Node.rows l
  | [] => rfl
  | d :: l => by
    show wkR (d.cellsN :: Node.rowsN l) = d.cells :: Node.rows l
    simp only [wkR, SC d, Em l]
theorem SB (d : Edge) : wkL d.cellsN = d.cells := by
  obtain ⟨x1, x2, x3, x4, x5, x6⟩ := d
  simp only [Edge.cellsN, Edge.cells, wkL, wkP, tQ, En]
theorem Ek : ∀ l : List Edge, wkR (Edge.rowsN l) = Edge.rows l
  | [] => rfl
  | d :: l => by
    show wkR (d.cellsN :: Edge.rowsN l) = d.cells :: Edge.rows l
    simp only [wkR, SB d, Ek l]
abbrev XN (g : Graph) : PV := PV.agg [.nsl (Node.rowsN g.nodes), .nsl (Edge.rowsN g.edges)]
theorem El (g : Graph) : wkP (XN g) = PV.agg (vG.cells g) := by
  obtain ⟨a, b⟩ := g
  simp only [wkP, wkL, Em, Ek]
  rfl
set_option maxRecDepth 100000 in
theorem Ve (n : Nat) (g176 : Val -> Option (Val)) (g176_ok : ∀ (a0_ : Val) (r : Val), g176 a0_ = some r -> qc Tryz.prog 176 [PV.agg (xZ.cells a0_)] (PV.agg r.cellsN)) : ∀ (a0_ : Val) (r : Val), fx n g176 a0_ = some r -> qc Tryz.prog 176 [PV.agg (xZ.cells a0_)] (PV.agg r.cellsN) := by
  intro a0_ r h
  obtain ⟨x1, x2, x3, x4, x5, x6⟩ := a0_
  unfold fx at h
  refine qc.of_vcNew mixed (fun _ _ => Tryz.call176 _ _) Tryz.func176 (by kernel_rfl) (inl := [56, 10000008, 1000000]) ?_
  conv => whnf
  replace h := zx h
  obtain ⟨x7, h11, h⟩ := h
  have hj := qM h11
  conv => whnf
  obtain ⟨h10, h⟩ := qb h
  refine ⟨x7, Val.rows (List.replicate x7 (Val.mk (0 : Int) false (0 : Int) ([] : List UInt8) ([] : List Val) ([] : List (List UInt8)))), ⟨hj, hj, kod h10, qO h10 (by decide), Codec.madeN xZ (Val.mk (0 : Int) false (0 : Int) ([] : List UInt8) ([] : List Val) ([] : List (List UInt8))) x7 (by repeat (first | exact rfl | exact trivial | refine ⟨?_, ?_⟩)), rfl, by decide, rfl⟩, ?_⟩
  conv => whnf
  obtain ⟨h9, h⟩ := qb h
  have hlen : x5.length = (Val.rows (List.replicate x7 (Val.mk (0 : Int) false (0 : Int) ([] : List UInt8) ([] : List Val) ([] : List (List UInt8))))).length := by rw [← tL]; exact kod h9
  have hbig : x5.length < 140737488355328 := by have h1 := kod h10; rw [tL] at hj; omega
  refine ⟨⟨rfl, kod h9, Codec.wide xZ x5⟩, ?_⟩
  conv => whnf
  refine qP.fnI [56, 10000008, 1000000] (S := Int × List Val) (fun s => 0 <= s.1 /\ s.2.length = x5.length) (fun (x8, x9) => [(1, .ptr 0 0), (2, .ptr 1 0), (3, .vsl 2 ((Val.rows (List.replicate x7 (Val.mk (0 : Int) false (0 : Int) ([] : List UInt8) ([] : List Val) ([] : List (List UInt8))))).length)), (14, .p (.int .i64 ((((Val.rows (List.replicate x7 (Val.mk (0 : Int) false (0 : Int) ([] : List UInt8) ([] : List Val) ([] : List (List UInt8))))).length) : Nat) : Int))), (15, .p (.int .i64 x8))]) (fun (x8, x9) => [.box 35 [.p (.int .i64 x1), .p (.bool x2), .p (.int .i64 x3), .p (.str x4), .p (.sl (Val.rows x5)), .p (.sl (qi x6))], .box 35 [.p (.int .i64 (0 : Int)), .p (.bool false), .p (.int .i64 (0 : Int)), .p (.str ([] : List UInt8)), .p (.nilsl), .p (.nilsl)], .vec 35 6 (Pv x8.toNat x9)]) (B := vz n x7 g176 x6 x1 x2 x3 x4) h ⟨Int.le_refl _, rfl⟩ ⟨[0, 1, 2], [], ⟨rfl, rfl, rfl, rfl⟩, by repeat (first | exact trivial | exact .inl rfl | exact rfl | exact List.not_mem_nil | (refine .inr ?_) | (refine ⟨?_, ?_⟩) | exact List.length_set.symm | decide), by repeat (first | exact trivial | exact .inl rfl | exact rfl | exact List.not_mem_nil | (refine .inr ?_) | (refine ⟨?_, ?_⟩) | exact List.length_set.symm | exact Tl x5 | decide)⟩ ?_
  intro nx1 st hI h
  obtain ⟨x8, x9⟩ := st
  have hI1 : 0 <= x8 := hI.1
  have hI2 : x9.length = x5.length := hI.2
  unfold vz at h
  conv => whnf
  refine ⟨fun hc => ?_, fun hc => ?_⟩
  · replace h := uA h hc
    conv => whnf
    replace h := zx h
    obtain ⟨x10, h7, h⟩ := h
    have hj := qM h7
    subst hj
    conv => whnf
    obtain ⟨h6, h⟩ := qb h
    refine ⟨x10, ⟨rfl, kod h6⟩, ?_⟩
    conv => whnf
    replace h := zx h
    obtain ⟨⟨x11, x12, x13, x14, x15, x16⟩, h5, h⟩ := h
    refine ⟨_, ⟨rfl, RY h5⟩, ?_⟩
    conv => whnf
    replace h := zx h
    obtain ⟨⟨x17, x18, x19, x20, x21, x22⟩, h4, h⟩ := h
    refine ⟨_, (g176_ok _  _ h4), ?_⟩
    conv => whnf
    replace h := zx h
    obtain ⟨x23, h3, h⟩ := h
    obtain rfl : x10 = x23 := by have := qM h3; omega
    conv => whnf
    obtain ⟨h2, h⟩ := qb h
    refine ⟨x10, ⟨rfl, kod h2⟩, ?_⟩
    conv => whnf
    replace h := zx h
    obtain ⟨⟨x24, x25, x26, x27, x28, x29⟩, h1, h⟩ := h
    refine ⟨_, ⟨rfl, RY h1, rfl⟩, ?_⟩
    conv => whnf
    have hx10 : x10 < x9.length := (jG.1 h1).1
    refine ⟨_, ld hx10 (Val.mk x17 x18 x19 x20 x21 x22), ?_⟩
    conv => whnf
    have hw : kwr .i64 ((x10 : Int) + 1) = ((x10 + 1 : Nat) : Int) := SE (by omega)
    exact ⟨((kwr .i64 ((x10 : Int) + (1 : Int))), (x9.set x10 (Val.mk x17 x18 x19 x20 x21 x22))), ⟨⟨by rw [hw]; exact Int.natCast_nonneg _, by rw [List.length_set]; exact hI2⟩, h⟩, ⟨[0, 1, 2], [], ⟨rfl, rfl, rfl, rfl⟩, by repeat (first | exact trivial | exact .inl rfl | exact rfl | exact List.not_mem_nil | (refine .inr ?_) | (refine ⟨?_, ?_⟩) | exact List.length_set.symm | decide), by repeat (first | exact trivial | exact .inl rfl | exact rfl | exact List.not_mem_nil | (refine .inr ?_) | (refine ⟨?_, ?_⟩) | exact List.length_set.symm | exact congrArg (fun k => Pv k _) (by rw [hw]; rfl) | decide)⟩⟩
  · replace h := uz h hc
    conv => whnf
    obtain ⟨h8, h⟩ := qb h
    have hge : x9.length <= x8.toNat := by
      have h1 := of_decide_eq_false hc
      rw [← hlen] at h1
      omega
    have hend := lb hge
    refine qS.use (bu x6 (kod h8)) [] [] ⟨rfl, rfl, rfl, rfl, rfl, rfl⟩ (by repeat (first | exact trivial | exact .inl rfl | exact rfl | exact List.not_mem_nil | (refine .inr ?_) | (refine ⟨?_, ?_⟩) | exact List.length_set.symm | decide)) (by repeat (first | exact trivial | exact .inl rfl | exact rfl | exact List.not_mem_nil | (refine .inr ?_) | (refine ⟨?_, ?_⟩) | exact List.length_set.symm | decide)) ?_
    rintro _ _ ⟨rfl, rfl⟩
    refine ⟨.tsl 3 (qi x6), [.box 35 [.p (.int .i64 x1), .p (.bool x2), .p (.int .i64 x3), .p (.str x4), .vsl 2 ((Val.rows (List.replicate x7 (Val.mk (0 : Int) false (0 : Int) ([] : List UInt8) ([] : List Val) ([] : List (List UInt8))))).length), .p (.sl (qi x6))], .box 35 [.p (.int .i64 (0 : Int)), .p (.bool false), .p (.int .i64 (0 : Int)), .p (.str ([] : List UInt8)), .p (.nilsl), .p (.nilsl)], .vec 35 6 (Pv x8.toNat x9), .tail 9 1 (qi x6).length], rfl, rfl, ?_⟩
    obtain rfl := Option.some.inj h
    conv => whnf
    rw [hend]
    repeat (first | exact rfl | exact trivial | refine ⟨?_, ?_⟩)
set_option maxRecDepth 100000 in
theorem Ux (n : Nat) : ∀ (v r : Val), xh n v = some r -> qc Tryz.prog 176 [PV.agg (xZ.cells v)] (PV.agg r.cellsN) := by
  induction n with
  | zero => intro v r h; cases h
  | succ n ih => exact Ve n (xh n) ih
set_option maxRecDepth 100000 in
theorem pt (n : Nat)   : ∀ (x1 : List (List UInt8)) (x2 : List Val) (r : List (List UInt8) × List Val), vO n x1 x2 = some r -> qc Tryz.prog 147 [PV.sl (qi x1), PV.sl (Val.rows x2)] (PV.tup [PV.nsl (qi r.1), PV.nsl (Val.rowsN r.2)]) := by
  intro x1 x2 r h
  unfold vO at h
  refine qc.of_vcNew mixed (fun _ _ => Tryz.call147 _ _) Tryz.func147 (by kernel_rfl) (inl := [56, 1000000]) ?_
  conv => whnf
  replace h := zx h
  obtain ⟨x3, h6, h⟩ := h
  have hj := qM h6
  conv => whnf
  obtain ⟨h5, h⟩ := qb h
  refine ⟨x3, ⟨rfl, hj, kod h5, qO h5 (by decide)⟩, ?_⟩
  conv => whnf
  refine qP.fn [56, 1000000] (S := List Val × Int) (fun (x4, x5) => [(0, .p (.sl (qi x1))), (6, .tsl 0 (Val.rowsN x4)), (12, .p (.sl (Val.rows x2))), (13, .p (.int .i64 (((Val.rows x2).length : Nat) : Int))), (14, .p (.int .i64 x5))]) (fun (x4, x5) => [.tail 35 6 (Val.rowsN x4).length]) (B := xn n x2 x1) h ⟨[0], [], ⟨rfl, rfl, rfl, rfl⟩, by repeat (first | exact trivial | exact .inl rfl | exact rfl | exact List.not_mem_nil | (refine .inr ?_) | (refine ⟨?_, ?_⟩) | exact List.length_set.symm | decide), by repeat (first | exact trivial | exact .inl rfl | exact rfl | exact List.not_mem_nil | (refine .inr ?_) | (refine ⟨?_, ?_⟩) | exact List.length_set.symm | decide)⟩ ?_
  intro nx1 st h
  obtain ⟨x4, x5⟩ := st
  unfold xn at h
  conv => whnf
  refine ⟨fun hc => ?_, fun hc => ?_⟩
  · replace h := uA h hc
    conv => whnf
    replace h := zx h
    obtain ⟨⟨x6, x7, x8, x9, x10, x11⟩, h3, h⟩ := h
    refine ⟨_, Codec.at_ xZ h3, ?_⟩
    conv => whnf
    replace h := zx h
    obtain ⟨⟨x12, x13, x14, x15, x16, x17⟩, h2, h⟩ := h
    refine ⟨_, (Ux n _  _ h2), ?_⟩
    conv => whnf
    refine ⟨Codec.one lC [Val.mk x12 x13 x14 x15 x16 x17], Val.rowsN [Val.mk x12 x13 x14 x15 x16 x17], .inl rfl, ?_⟩
    conv => whnf
    rw [show Val.rowsN x4 ++ Val.rowsN [Val.mk x12 x13 x14 x15 x16 x17] = Val.rowsN (x4 ++ [Val.mk x12 x13 x14 x15 x16 x17]) from Codec.append lC x4 [Val.mk x12 x13 x14 x15 x16 x17]]
    conv => whnf
    obtain ⟨h1, h⟩ := qb h
    have hz : (Val.rowsN (x4 ++ [Val.mk x12 x13 x14 x15 x16 x17])).length * 88 <= 140737488355328 := by rw [mc, ← tL]; exact kod h1
    refine ⟨⟨Codec.wide lC (x4 ++ [Val.mk x12 x13 x14 x15 x16 x17]), hz, by omega⟩, ?_⟩
    conv => whnf
    refine ⟨⟨rfl, rfl, rfl⟩, ?_⟩
    conv => whnf
    exact ⟨((x4 ++ [Val.mk x12 x13 x14 x15 x16 x17]), (kwr .i64 (x5 + (1 : Int)))), h, ⟨[2], [], ⟨rfl, rfl, rfl, rfl⟩, by repeat (first | exact trivial | exact .inl rfl | exact rfl | exact List.not_mem_nil | (refine .inr ?_) | (refine ⟨?_, ?_⟩) | exact List.length_set.symm | decide), by repeat (first | exact trivial | exact .inl rfl | exact rfl | exact List.not_mem_nil | (refine .inr ?_) | (refine ⟨?_, ?_⟩) | exact List.length_set.symm | decide)⟩⟩
  · replace h := uz h hc
    conv => whnf
    obtain ⟨h4, h⟩ := qb h
    refine qS.use (bu x1 (kod h4)) [] [] ⟨rfl, rfl, rfl, rfl, rfl, rfl⟩ (by repeat (first | exact trivial | exact .inl rfl | exact rfl | exact List.not_mem_nil | (refine .inr ?_) | (refine ⟨?_, ?_⟩) | exact List.length_set.symm | decide)) (by repeat (first | exact trivial | exact .inl rfl | exact rfl | exact List.not_mem_nil | (refine .inr ?_) | (refine ⟨?_, ?_⟩) | exact List.length_set.symm | decide)) ?_
    rintro _ _ ⟨rfl, rfl⟩
    refine ⟨.tsl 1 (qi x1), [.tail 35 6 (Val.rowsN x4).length, .tail 9 1 (qi x1).length], rfl, rfl, ?_⟩
    obtain rfl := Option.some.inj h
    conv => whnf
    repeat (first | exact rfl | exact trivial | refine ⟨?_, ?_⟩)
set_option maxRecDepth 100000 in
theorem Zt (n : Nat)   : ∀ (a0_ : Node) (r : Node), xF n a0_ = some r -> qc Tryz.prog 101 [PV.agg (zL.cells a0_)] (PV.agg r.cellsN) := by
  intro a0_ r h
  obtain ⟨x1, x2, x3, x4⟩ := a0_
  unfold xF at h
  refine qc.of_vcNew mixed (fun _ _ => Tryz.call101 _ _) Tryz.func101 (by kernel_rfl) (inl := [56, 1000000]) ?_
  conv => whnf
  obtain ⟨h2, h⟩ := qb h
  refine qS.use (bu x2 (kod h2)) [] [] ⟨rfl, rfl, rfl, rfl, rfl, rfl⟩ (by repeat (first | exact trivial | exact .inl rfl | exact rfl | exact List.not_mem_nil | (refine .inr ?_) | (refine ⟨?_, ?_⟩) | exact List.length_set.symm | decide)) (by repeat (first | exact trivial | exact .inl rfl | exact rfl | exact List.not_mem_nil | (refine .inr ?_) | (refine ⟨?_, ?_⟩) | exact List.length_set.symm | decide)) ?_
  rintro _ _ ⟨rfl, rfl⟩
  refine ⟨.tsl 2 (qi x2), [.box 88 [.p (.int .i64 x1), .p (.sl (qi x2)), .p (.sl (qi x3)), .p (.sl (Val.rows x4))], .box 88 [.p (.int .i64 (0 : Int)), .p (.nilsl), .p (.nilsl), .p (.nilsl)], .tail 9 1 (qi x2).length], rfl, rfl, ?_⟩
  conv => whnf
  replace h := zx h
  obtain ⟨⟨x5, x6⟩, h1, h⟩ := h
  refine ⟨_, (pt n _ _  _ h1), ?_⟩
  obtain rfl := Option.some.inj h
  conv => whnf
  repeat (first | exact rfl | exact trivial | refine ⟨?_, ?_⟩)
set_option maxRecDepth 100000 in
theorem Zs (n : Nat)   : ∀ (a0_ : Edge) (r : Edge), xD n a0_ = some r -> qc Tryz.prog 102 [PV.agg (zD.cells a0_)] (PV.agg r.cellsN) := by
  intro a0_ r h
  obtain ⟨x1, x2, x3, x4, x5, x6⟩ := a0_
  unfold xD at h
  refine qc.of_vcNew mixed (fun _ _ => Tryz.call102 _ _) Tryz.func102 (by kernel_rfl) (inl := [1000000]) ?_
  conv => whnf
  replace h := zx h
  obtain ⟨⟨x7, x8⟩, h1, h⟩ := h
  refine ⟨_, (pt n _ _  _ h1), ?_⟩
  obtain rfl := Option.some.inj h
  conv => whnf
  repeat (first | exact rfl | exact trivial | refine ⟨?_, ?_⟩)
set_option maxRecDepth 100000 in
theorem mw (n : Nat)   : ∀ (a0_ : Graph) (r : Graph), xV n a0_ = some r -> qc Tryz.prog 55 [PV.agg (vG.cells a0_)] (XN r) := by
  intro a0_ r h
  obtain ⟨x1, x2⟩ := a0_
  unfold xV at h
  refine qc.of_vcNew mixed (fun _ _ => Tryz.call55 _ _) Tryz.func55 (by kernel_rfl) (inl := [1000000]) ?_
  conv => whnf
  refine qP.fn [1000000] (S := Int × List Node) (fun (x3, x4) => [(1, .ptr 0 0), (2, .ptr 1 0), (3, .ptr 2 0), (9, .p (.sl (Node.rows x1))), (10, .p (.int .i64 (((Node.rows x1).length : Nat) : Int))), (11, .p (.int .i64 x3))]) (fun (x3, x4) => [.box 29 [.p (.sl (Node.rows x1)), .p (.sl (Edge.rows x2))], .box 29 [.p (.nilsl), .p (.nilsl)], .box 29 [.tsl 3 (Node.rowsN x4), .p (.nilsl)], .tail 88 4 (Node.rowsN x4).length]) (B := uL n x1 x2) h ⟨[0, 1, 2, 0], [3], ⟨rfl, rfl, rfl, rfl⟩, by repeat (first | exact trivial | exact .inl rfl | exact rfl | exact List.not_mem_nil | (refine .inr ?_) | (refine ⟨?_, ?_⟩) | exact List.length_set.symm | decide), by repeat (first | exact trivial | exact .inl rfl | exact rfl | exact List.not_mem_nil | (refine .inr ?_) | (refine ⟨?_, ?_⟩) | exact List.length_set.symm | decide)⟩ ?_
  intro nx1 st h
  obtain ⟨x3, x4⟩ := st
  unfold uL at h
  conv => whnf
  refine ⟨fun hc => ?_, fun hc => ?_⟩
  · replace h := uA h hc
    conv => whnf
    replace h := zx h
    obtain ⟨⟨x5, x6, x7, x8⟩, h3, h⟩ := h
    refine ⟨_, Codec.at_ zL h3, ?_⟩
    conv => whnf
    replace h := zx h
    obtain ⟨⟨x9, x10, x11, x12⟩, h2, h⟩ := h
    refine ⟨_, (Zt n _  _ h2), ?_⟩
    conv => whnf
    refine ⟨Codec.one Se [Node.mk x9 x10 x11 x12], Node.rowsN [Node.mk x9 x10 x11 x12], .inl rfl, ?_⟩
    conv => whnf
    rw [show Node.rowsN x4 ++ Node.rowsN [Node.mk x9 x10 x11 x12] = Node.rowsN (x4 ++ [Node.mk x9 x10 x11 x12]) from Codec.append Se x4 [Node.mk x9 x10 x11 x12]]
    conv => whnf
    obtain ⟨h1, h⟩ := qb h
    have hz : (Node.rowsN (x4 ++ [Node.mk x9 x10 x11 x12])).length * 80 <= 140737488355328 := by have := kod h1; simpa [Node.rowsN, Node.rows] using this
    refine ⟨⟨Codec.wide Se (x4 ++ [Node.mk x9 x10 x11 x12]), hz, by omega⟩, ?_⟩
    conv => whnf
    refine ⟨⟨rfl, rfl, rfl⟩, ?_⟩
    conv => whnf
    exact ⟨((kwr .i64 (x3 + (1 : Int))), (x4 ++ [Node.mk x9 x10 x11 x12])), h, ⟨[0, 1, 2, 5], [], ⟨rfl, rfl, rfl, rfl⟩, by repeat (first | exact trivial | exact .inl rfl | exact rfl | exact List.not_mem_nil | (refine .inr ?_) | (refine ⟨?_, ?_⟩) | exact List.length_set.symm | decide), by repeat (first | exact trivial | exact .inl rfl | exact rfl | exact List.not_mem_nil | (refine .inr ?_) | (refine ⟨?_, ?_⟩) | exact List.length_set.symm | decide)⟩⟩
  · replace h := uz h hc
    conv => whnf
    refine qP.fn [1000000] (S := Int × List Edge) (fun (x13, x14) => [(2, .ptr 0 0), (3, .ptr 1 0), (24, .p (.sl (Edge.rows x2))), (25, .p (.int .i64 (((Edge.rows x2).length : Nat) : Int))), (26, .p (.int .i64 x13))]) (fun (x13, x14) => [.box 29 [.p (.nilsl), .p (.nilsl)], .box 29 [.tsl 2 (Node.rowsN x4), .tsl 3 (Edge.rowsN x14)], .tail 88 4 (Node.rowsN x4).length, .tail 86 6 (Edge.rowsN x14).length]) (B := uM n x2 x4) h ⟨[1, 2, 3, 0], [3], ⟨rfl, rfl, rfl, rfl⟩, by repeat (first | exact trivial | exact .inl rfl | exact rfl | exact List.not_mem_nil | (refine .inr ?_) | (refine ⟨?_, ?_⟩) | exact List.length_set.symm | decide), by repeat (first | exact trivial | exact .inl rfl | exact rfl | exact List.not_mem_nil | (refine .inr ?_) | (refine ⟨?_, ?_⟩) | exact List.length_set.symm | decide)⟩ ?_
    intro nx2 st h
    obtain ⟨x13, x14⟩ := st
    unfold uM at h
    conv => whnf
    refine ⟨fun hc => ?_, fun hc => ?_⟩
    · replace h := uA h hc
      conv => whnf
      replace h := zx h
      obtain ⟨⟨x15, x16, x17, x18, x19, x20⟩, h6, h⟩ := h
      refine ⟨_, Codec.at_ zD h6, ?_⟩
      conv => whnf
      replace h := zx h
      obtain ⟨⟨x21, x22, x23, x24, x25, x26⟩, h5, h⟩ := h
      refine ⟨_, (Zs n _  _ h5), ?_⟩
      conv => whnf
      refine ⟨Codec.one PZ [Edge.mk x21 x22 x23 x24 x25 x26], Edge.rowsN [Edge.mk x21 x22 x23 x24 x25 x26], .inl rfl, ?_⟩
      conv => whnf
      rw [show Edge.rowsN x14 ++ Edge.rowsN [Edge.mk x21 x22 x23 x24 x25 x26] = Edge.rowsN (x14 ++ [Edge.mk x21 x22 x23 x24 x25 x26]) from Codec.append PZ x14 [Edge.mk x21 x22 x23 x24 x25 x26]]
      conv => whnf
      obtain ⟨h4, h⟩ := qb h
      have hz : (Edge.rowsN (x14 ++ [Edge.mk x21 x22 x23 x24 x25 x26])).length * 88 <= 140737488355328 := by have := kod h4; simpa [Edge.rowsN, Edge.rows] using this
      refine ⟨⟨Codec.wide PZ (x14 ++ [Edge.mk x21 x22 x23 x24 x25 x26]), hz, by omega⟩, ?_⟩
      conv => whnf
      refine ⟨⟨rfl, rfl, rfl⟩, ?_⟩
      conv => whnf
      exact ⟨((kwr .i64 (x13 + (1 : Int))), (x14 ++ [Edge.mk x21 x22 x23 x24 x25 x26])), h, ⟨[0, 1, 2, 5], [], ⟨rfl, rfl, rfl, rfl⟩, by repeat (first | exact trivial | exact .inl rfl | exact rfl | exact List.not_mem_nil | (refine .inr ?_) | (refine ⟨?_, ?_⟩) | exact List.length_set.symm | decide), by repeat (first | exact trivial | exact .inl rfl | exact rfl | exact List.not_mem_nil | (refine .inr ?_) | (refine ⟨?_, ?_⟩) | exact List.length_set.symm | decide)⟩⟩
    · replace h := uz h hc
      obtain rfl := Option.some.inj h
      conv => whnf
      repeat (first | exact rfl | exact trivial | refine ⟨?_, ?_⟩)
set_option maxRecDepth 100000 in
theorem GO (n : Nat)   : ∀ (a0_ : Graph) (x3 : Int) (r : Graph × Int), gh n a0_ x3 = some r -> qc Tryz.prog 59 [PV.agg (vG.cells a0_), PV.int .i64 x3] (PV.tup [XN r.1, PV.int .i64 r.2]) := by
  intro a0_ x3 r h
  obtain ⟨x1, x2⟩ := a0_
  unfold gh at h
  refine qc.of_vcN mixed (fun _ _ => Tryz.call59 _ _) Tryz.func59 (by kernel_rfl) (inl := [1000000]) ?_
  conv => whnf
  replace h := zx h
  obtain ⟨⟨x4, x5⟩, h8, h⟩ := h
  refine ⟨_, (xq n _ _  _ h8), ?_⟩
  conv => whnf
  refine ⟨fun hc => ?_, fun hc => ?_⟩
  · replace h := uA h hc
    obtain rfl := Option.some.inj h
    conv => whnf
    repeat (first | exact rfl | exact trivial | refine ⟨?_, ?_⟩)
  · replace h := uz h hc
    conv => whnf
    replace h := zx h
    obtain ⟨x6, h7, h⟩ := h
    refine ⟨_, qM h7, ?_⟩
    conv => whnf
    replace h := zx h
    obtain ⟨x7, h6, h⟩ := h
    refine ⟨_, qM h6, ?_⟩
    conv => whnf
    obtain ⟨h5, h⟩ := qb h
    refine ⟨⟨(kod h5).1, (kod h5).2, Codec.wide zD x2⟩, ?_⟩
    first | rw [show List.take x6 (Edge.rows x2) = Edge.rows (x2.take x6) from Codec.take zD x2 x6] | rw [show List.take x6 (zD.rows x2) = Edge.rows (x2.take x6) from Codec.take zD x2 x6]
    conv => whnf
    replace h := zx h
    obtain ⟨x8, h4, h⟩ := h
    refine ⟨_, qM h4, ?_⟩
    conv => whnf
    obtain ⟨h3, h⟩ := qb h
    refine ⟨⟨(kod h3 : (x8 <= (Edge.rows x2).length)), Nat.le_refl _, Codec.wide zD x2⟩, ?_⟩
    first | rw [show List.drop x8 (List.take ((Edge.rows x2).length) (Edge.rows x2)) = Edge.rows (x2.drop x8) from Codec.dropAll zD x2 x8] | rw [show List.drop x8 (List.take ((zD.rows x2).length) (zD.rows x2)) = Edge.rows (x2.drop x8) from Codec.dropAll zD x2 x8]
    conv => whnf
    rw [show Edge.rows (x2.take x6) ++ Edge.rows (x2.drop x8) = Edge.rows ((x2.take x6) ++ (x2.drop x8)) from Codec.append zD (x2.take x6) (x2.drop x8)]
    conv => whnf
    obtain ⟨h2, h⟩ := qb h
    refine ⟨⟨Codec.wide zD ((x2.take x6) ++ (x2.drop x8)), kod h2, qO h2 (by decide)⟩, ?_⟩
    refine ⟨false, _, rfl, ?_⟩
    conv => whnf
    replace h := zx h
    obtain ⟨⟨x9, x10⟩, h1, h⟩ := h
    refine ⟨_, (mw n _  _ h1), ?_⟩
    obtain rfl := Option.some.inj h
    conv => whnf
    repeat (first | exact rfl | exact trivial | refine ⟨?_, ?_⟩)
theorem ZD (n : Nat) (g : Graph) (x : Int) (r : Graph × Int) (h : gh n g x = some r) : qc Tryz.prog 59 [XN g, PV.int .i64 x] (PV.tup [XN r.1, PV.int .i64 r.2]) :=
  (GO n g x r h).wkArgs (by simp only [wkL, El]; rfl)
set_option maxRecDepth 100000 in
theorem Uu (n : Nat)   : ∀ (a0_ : Graph) (x3 : Int) (r : Graph × Int), uW n a0_ x3 = some r -> qc Tryz.prog 61 [PV.agg (vG.cells a0_), PV.int .i64 x3] (PV.tup [XN r.1, PV.int .i64 r.2]) := by
  intro a0_ x3 r h
  obtain ⟨x1, x2⟩ := a0_
  unfold uW at h
  refine qc.of_vcN mixed (fun _ _ => Tryz.call61 _ _) Tryz.func61 (by kernel_rfl) (inl := [1000000]) ?_
  conv => whnf
  replace h := zx h
  obtain ⟨⟨x4, x5⟩, h9, h⟩ := h
  refine ⟨_, (zj n _ _  _ h9), ?_⟩
  conv => whnf
  refine ⟨fun hc => ?_, fun hc => ?_⟩
  · replace h := uA h hc
    obtain rfl := Option.some.inj h
    conv => whnf
    repeat (first | exact rfl | exact trivial | refine ⟨?_, ?_⟩)
  · replace h := uz h hc
    conv => whnf
    replace h := zx h
    obtain ⟨x6, h8, h⟩ := h
    refine ⟨_, (fJ n _ _ _ _  _ h8), ?_⟩
    conv => whnf
    refine ⟨fun hc => ?_, fun hc => ?_⟩
    · replace h := uA h hc
      obtain rfl := Option.some.inj h
      conv => whnf
      repeat (first | exact rfl | exact trivial | refine ⟨?_, ?_⟩)
    · replace h := uz h hc
      conv => whnf
      replace h := zx h
      obtain ⟨x7, h7, h⟩ := h
      refine ⟨_, qM h7, ?_⟩
      conv => whnf
      replace h := zx h
      obtain ⟨x8, h6, h⟩ := h
      refine ⟨_, qM h6, ?_⟩
      conv => whnf
      obtain ⟨h5, h⟩ := qb h
      refine ⟨⟨(kod h5).1, (kod h5).2, Codec.wide zL x1⟩, ?_⟩
      first | rw [show List.take x7 (Node.rows x1) = Node.rows (x1.take x7) from Codec.take zL x1 x7] | rw [show List.take x7 (zL.rows x1) = Node.rows (x1.take x7) from Codec.take zL x1 x7]
      conv => whnf
      replace h := zx h
      obtain ⟨x9, h4, h⟩ := h
      refine ⟨_, qM h4, ?_⟩
      conv => whnf
      obtain ⟨h3, h⟩ := qb h
      refine ⟨⟨(kod h3 : (x9 <= (Node.rows x1).length)), Nat.le_refl _, Codec.wide zL x1⟩, ?_⟩
      first | rw [show List.drop x9 (List.take ((Node.rows x1).length) (Node.rows x1)) = Node.rows (x1.drop x9) from Codec.dropAll zL x1 x9] | rw [show List.drop x9 (List.take ((zL.rows x1).length) (zL.rows x1)) = Node.rows (x1.drop x9) from Codec.dropAll zL x1 x9]
      conv => whnf
      rw [show Node.rows (x1.take x7) ++ Node.rows (x1.drop x9) = Node.rows ((x1.take x7) ++ (x1.drop x9)) from Codec.append zL (x1.take x7) (x1.drop x9)]
      conv => whnf
      obtain ⟨h2, h⟩ := qb h
      refine ⟨⟨Codec.wide zL ((x1.take x7) ++ (x1.drop x9)), kod h2, qO h2 (by decide)⟩, ?_⟩
      refine ⟨false, _, rfl, ?_⟩
      conv => whnf
      replace h := zx h
      obtain ⟨⟨x10, x11⟩, h1, h⟩ := h
      refine ⟨_, (mw n _  _ h1), ?_⟩
      obtain rfl := Option.some.inj h
      conv => whnf
      repeat (first | exact rfl | exact trivial | refine ⟨?_, ?_⟩)
theorem GP (n : Nat) (g : Graph) (x : Int) (r : Graph × Int) (h : uW n g x = some r) : qc Tryz.prog 61 [XN g, PV.int .i64 x] (PV.tup [XN r.1, PV.int .i64 r.2]) :=
  (Uu n g x r h).wkArgs (by simp only [wkL, El]; rfl)
theorem Vq (n : Nat) (g : Graph) (x y : Int) (s : List UInt8) (r : List Edge) (h : ux n g x y s = some r) : qc Tryz.prog 60 [XN g, PV.int .i64 x, PV.int .i64 y, PV.str s] (tV r) :=
  (fJ n g x y s r h).wkArgs (by simp only [wkL, El]; rfl)
abbrev Zw (x2 : List Node) (x3 : List Edge) (x4 : Int) (x5 : Int) (x6 : List (List UInt8)) (x7 : List Val) (x8 : Int) (x9 : Bool) (x10 : Int) (x11 : List UInt8) (x12 : List Val) (x13 : List (List UInt8)) (r : Val × Bool) : List AObj := [.box 79 [.p (.nsl (Node.rowsN x2)), .p (.nsl (Edge.rowsN x3)), .p (.int .i64 x4), .p (.int .i64 x5), .tsl 1 (qi x6), .tsl 2 (Val.rows x7), .p (.int .i64 x8), .p (.bool x9), .p (.int .i64 x10), .p (.str x11), .p (.sl (Val.rows x12)), .p (.sl (qi x13))], .tail 9 1 (qi x6).length, .tail 35 6 (Val.rows x7).length]
set_option maxHeartbeats 4000000 in
set_option maxRecDepth 100000 in
theorem QA (n : Nat)   : ∀ (x1 : List UInt8) (x2 : List Node) (x3 : List Edge) (x4 : Int) (x5 : Int) (x6 : List (List UInt8)) (x7 : List Val) (x8 : Int) (x9 : Bool) (x10 : Int) (x11 : List UInt8) (x12 : List Val) (x13 : List (List UInt8)) (r : Val × Bool), zX n x1 x2 x3 x4 x5 x6 x7 x8 x9 x10 x11 x12 x13 = some r -> qS Tryz.prog 25 [.ptr 0 0, .p (PV.str x1)] [.box 79 [.p (.nsl (Node.rowsN x2)), .p (.nsl (Edge.rowsN x3)), .p (.int .i64 x4), .p (.int .i64 x5), .tsl 1 (qi x6), .tsl 2 (Val.rows x7), .p (.int .i64 x8), .p (.bool x9), .p (.int .i64 x10), .p (.str x11), .p (.sl (Val.rows x12)), .p (.sl (qi x13))], .tail 9 1 (qi x6).length, .tail 35 6 (Val.rows x7).length] 1 (fun v lo => v = mF x2 x3 x4 x5 x6 x7 x8 x9 x10 x11 x12 x13 r /\ lo = Zw x2 x3 x4 x5 x6 x7 x8 x9 x10 x11 x12 x13 r) := by
  intro x1 x2 x3 x4 x5 x6 x7 x8 x9 x10 x11 x12 x13 r h
  unfold zX at h
  refine qS.of_vc mixed (fun _ _ => Tryz.call25 _ _) Tryz.func25 (by kernel_rfl) (inl := [1000000]) (Nat.le_of_ble_eq_true rfl) ?_
  conv => whnf
  replace h := zx h
  obtain ⟨x14, h2, h⟩ := h
  refine ⟨_, (uP n _ _  _ h2), ?_⟩
  conv => whnf
  iterate 10 (refine And.intro (fun h => h) ?_)
  conv => whnf
  refine ⟨fun hc => ?_, fun hc => ?_⟩
  · replace h := uA h hc
    obtain rfl := Option.some.inj h
    conv => whnf
    refine ⟨_, _, ⟨rfl, rfl⟩, ⟨[0, 1, 2], [], ⟨rfl, rfl, rfl, rfl⟩, by repeat (first | exact trivial | exact .inl rfl | exact rfl | exact List.not_mem_nil | (refine .inr ?_) | (refine ⟨?_, ?_⟩) | exact List.length_set.symm | decide), by repeat (first | exact trivial | exact .inl rfl | exact rfl | exact List.not_mem_nil | (refine .inr ?_) | (refine ⟨?_, ?_⟩) | exact List.length_set.symm | decide)⟩⟩
  · replace h := uz h hc
    conv => whnf
    replace h := zx h
    obtain ⟨⟨x15, x16, x17, x18, x19, x20⟩, h1, h⟩ := h
    refine ⟨_, Codec.at_ xZ h1, ?_⟩
    obtain rfl := Option.some.inj h
    conv => whnf
    refine ⟨_, _, ⟨rfl, rfl⟩, ⟨[0, 1, 2], [], ⟨rfl, rfl, rfl, rfl⟩, by repeat (first | exact trivial | exact .inl rfl | exact rfl | exact List.not_mem_nil | (refine .inr ?_) | (refine ⟨?_, ?_⟩) | exact List.length_set.symm | decide), by repeat (first | exact trivial | exact .inl rfl | exact rfl | exact List.not_mem_nil | (refine .inr ?_) | (refine ⟨?_, ?_⟩) | exact List.length_set.symm | decide)⟩⟩
abbrev Xb (x8 : List Node) (x9 : List Edge) (x10 : Int) (x11 : Int) (x12 : List (List UInt8)) (x13 : List Val) (x14 : Int) (x15 : Bool) (x16 : Int) (x17 : List UInt8) (x18 : List Val) (x19 : List (List UInt8)) (r : Int × (List Node) × (List Edge)) : List AObj := [.box 79 [.p (.nsl (Node.rowsN r.2.1)), .p (.nsl (Edge.rowsN r.2.2)), .p (.int .i64 x10), .p (.int .i64 x11), .tsl 1 (qi x12), .tsl 2 (Val.rows x13), .p (.int .i64 x14), .p (.bool x15), .p (.int .i64 x16), .p (.str x17), .p (.sl (Val.rows x18)), .p (.sl (qi x19))], .tail 9 1 (qi x12).length, .tail 35 6 (Val.rows x13).length]
set_option maxHeartbeats 4000000 in
set_option maxRecDepth 100000 in
theorem Zo (n : Nat)   : ∀ (a0_ : Val) (x7 : Bool) (x8 : List Node) (x9 : List Edge) (x10 : Int) (x11 : Int) (x12 : List (List UInt8)) (x13 : List Val) (x14 : Int) (x15 : Bool) (x16 : Int) (x17 : List UInt8) (x18 : List Val) (x19 : List (List UInt8)) (r : Int × (List Node) × (List Edge)), ve n a0_ x7 x8 x9 x10 x11 x12 x13 x14 x15 x16 x17 x18 x19 = some r -> qS Tryz.prog 26 [.ptr 0 0, .p (PV.agg (xZ.cells a0_)), .p (PV.bool x7)] [.box 79 [.p (.nsl (Node.rowsN x8)), .p (.nsl (Edge.rowsN x9)), .p (.int .i64 x10), .p (.int .i64 x11), .tsl 1 (qi x12), .tsl 2 (Val.rows x13), .p (.int .i64 x14), .p (.bool x15), .p (.int .i64 x16), .p (.str x17), .p (.sl (Val.rows x18)), .p (.sl (qi x19))], .tail 9 1 (qi x12).length, .tail 35 6 (Val.rows x13).length] 1 (fun v lo => v = nM x8 x9 x10 x11 x12 x13 x14 x15 x16 x17 x18 x19 r /\ lo = Xb x8 x9 x10 x11 x12 x13 x14 x15 x16 x17 x18 x19 r) := by
  intro a0_ x7 x8 x9 x10 x11 x12 x13 x14 x15 x16 x17 x18 x19 r h
  obtain ⟨x1, x2, x3, x4, x5, x6⟩ := a0_
  unfold ve at h
  refine qS.of_vc mixed (fun _ _ => Tryz.call26 _ _) Tryz.func26 (by kernel_rfl) (inl := [40000002, 40000012, 1000000]) (Nat.le_of_ble_eq_true rfl) ?_
  conv => whnf
  refine ⟨fun hc => ?_, fun hc => ?_⟩
  · replace h := uA h hc
    conv => whnf
    refine gW.cut (S := List Node × List Edge) (fun (x20, x21) => []) (fun (x20, x21) => [.box 79 [.p (.nsl (Node.rowsN x20)), .p (.nsl (Edge.rowsN x21)), .p (.int .i64 x10), .p (.int .i64 x11), .tsl 1 (qi x12), .tsl 2 (Val.rows x13), .p (.int .i64 x14), .p (.bool x15), .p (.int .i64 x16), .p (.str x17), .p (.sl (Val.rows x18)), .p (.sl (qi x19))], .tail 9 1 (qi x12).length, .tail 35 6 (Val.rows x13).length]) (xw n) (r := r) ?_ ?_
    · intro st h
      obtain ⟨x20, x21⟩ := st
      unfold xw at h
      obtain rfl := Option.some.inj h
      conv => whnf
      refine ⟨_, _, ⟨rfl, rfl⟩, ⟨[0, 1, 2], [], ⟨rfl, rfl, rfl, rfl⟩, by repeat (first | exact trivial | exact .inl rfl | exact rfl | exact List.not_mem_nil | (refine .inr ?_) | (refine ⟨?_, ?_⟩) | exact List.length_set.symm | decide), by repeat (first | exact trivial | exact .inl rfl | exact rfl | exact List.not_mem_nil | (refine .inr ?_) | (refine ⟨?_, ?_⟩) | exact List.length_set.symm | decide)⟩⟩
    · conv => whnf
      replace h := zx h
      obtain ⟨⟨⟨x22, x23⟩, x24⟩, h1, h⟩ := h
      refine ⟨_, (ZD n _ _  _ h1), ?_⟩
      conv => whnf
      refine ⟨fun hc => ?_, fun hc => ?_⟩
      · replace h := uA h hc
        conv => whnf
        exact ⟨(x22, x23), h, ⟨[0, 1, 2], [], ⟨rfl, rfl, rfl, rfl⟩, by repeat (first | exact trivial | exact .inl rfl | exact rfl | exact List.not_mem_nil | (refine .inr ?_) | (refine ⟨?_, ?_⟩) | exact List.length_set.symm | decide), by repeat (first | exact trivial | exact .inl rfl | exact rfl | exact List.not_mem_nil | (refine .inr ?_) | (refine ⟨?_, ?_⟩) | exact List.length_set.symm | decide)⟩⟩
      · replace h := uz h hc
        conv => whnf
        exact ⟨(x8, x9), h, ⟨[0, 1, 2], [], ⟨rfl, rfl, rfl, rfl⟩, by repeat (first | exact trivial | exact .inl rfl | exact rfl | exact List.not_mem_nil | (refine .inr ?_) | (refine ⟨?_, ?_⟩) | exact List.length_set.symm | decide), by repeat (first | exact trivial | exact .inl rfl | exact rfl | exact List.not_mem_nil | (refine .inr ?_) | (refine ⟨?_, ?_⟩) | exact List.length_set.symm | decide)⟩⟩
  · replace h := uz h hc
    conv => whnf
    refine gW.cut (S := List Node × List Edge) (fun (x25, x26) => [(0, .ptr 0 0), (4, .ptr 1 0)]) (fun (x25, x26) => [.box 79 [.p (.nsl (Node.rowsN x25)), .p (.nsl (Edge.rowsN x26)), .p (.int .i64 x10), .p (.int .i64 x11), .tsl 2 (qi x12), .tsl 3 (Val.rows x13), .p (.int .i64 x14), .p (.bool x15), .p (.int .i64 x16), .p (.str x17), .p (.sl (Val.rows x18)), .p (.sl (qi x19))], .box 35 [.p (.int .i64 x1), .p (.bool x2), .p (.int .i64 x3), .p (.str x4), .p (.sl (Val.rows x5)), .p (.sl (qi x6))], .tail 9 1 (qi x12).length, .tail 35 6 (Val.rows x13).length]) (zV n x3) (r := r) ?_ ?_
    · intro st h
      obtain ⟨x25, x26⟩ := st
      unfold zV at h
      conv => whnf
      replace h := zx h
      obtain ⟨⟨⟨x27, x28⟩, x29⟩, h2, h⟩ := h
      refine ⟨_, (GP n _ _  _ h2), ?_⟩
      conv => whnf
      refine gW.cut (S := List Node × List Edge) (fun (x30, x31) => []) (fun (x30, x31) => [.box 79 [.p (.nsl (Node.rowsN x30)), .p (.nsl (Edge.rowsN x31)), .p (.int .i64 x10), .p (.int .i64 x11), .tsl 1 (qi x12), .tsl 2 (Val.rows x13), .p (.int .i64 x14), .p (.bool x15), .p (.int .i64 x16), .p (.str x17), .p (.sl (Val.rows x18)), .p (.sl (qi x19))], .tail 9 1 (qi x12).length, .tail 35 6 (Val.rows x13).length]) (xy n) (r := r) ?_ ?_
      · intro st h
        obtain ⟨x30, x31⟩ := st
        unfold xy at h
        obtain rfl := Option.some.inj h
        conv => whnf
        refine ⟨_, _, ⟨rfl, rfl⟩, ⟨[0, 1, 2], [], ⟨rfl, rfl, rfl, rfl⟩, by repeat (first | exact trivial | exact .inl rfl | exact rfl | exact List.not_mem_nil | (refine .inr ?_) | (refine ⟨?_, ?_⟩) | exact List.length_set.symm | decide), by repeat (first | exact trivial | exact .inl rfl | exact rfl | exact List.not_mem_nil | (refine .inr ?_) | (refine ⟨?_, ?_⟩) | exact List.length_set.symm | decide)⟩⟩
      · conv => whnf
        refine ⟨fun hc => ?_, fun hc => ?_⟩
        · replace h := uA h hc
          conv => whnf
          exact ⟨(x27, x28), h, ⟨[0, 2, 3], [], ⟨rfl, rfl, rfl, rfl⟩, by repeat (first | exact trivial | exact .inl rfl | exact rfl | exact List.not_mem_nil | (refine .inr ?_) | (refine ⟨?_, ?_⟩) | exact List.length_set.symm | decide), by repeat (first | exact trivial | exact .inl rfl | exact rfl | exact List.not_mem_nil | (refine .inr ?_) | (refine ⟨?_, ?_⟩) | exact List.length_set.symm | decide)⟩⟩
        · replace h := uz h hc
          conv => whnf
          refine ⟨fun hc => ?_, fun hc => ?_⟩
          · replace h := uA h hc
            obtain rfl := Option.some.inj h
            conv => whnf
            refine ⟨_, _, ⟨rfl, rfl⟩, ⟨[0, 2, 3], [], ⟨rfl, rfl, rfl, rfl⟩, by repeat (first | exact trivial | exact .inl rfl | exact rfl | exact List.not_mem_nil | (refine .inr ?_) | (refine ⟨?_, ?_⟩) | exact List.length_set.symm | decide), by repeat (first | exact trivial | exact .inl rfl | exact rfl | exact List.not_mem_nil | (refine .inr ?_) | (refine ⟨?_, ?_⟩) | exact List.length_set.symm | decide)⟩⟩
          · replace h := uz h hc
            conv => whnf
            exact ⟨(x25, x26), h, ⟨[0, 2, 3], [], ⟨rfl, rfl, rfl, rfl⟩, by repeat (first | exact trivial | exact .inl rfl | exact rfl | exact List.not_mem_nil | (refine .inr ?_) | (refine ⟨?_, ?_⟩) | exact List.length_set.symm | decide), by repeat (first | exact trivial | exact .inl rfl | exact rfl | exact List.not_mem_nil | (refine .inr ?_) | (refine ⟨?_, ?_⟩) | exact List.length_set.symm | decide)⟩⟩
    · conv => whnf
      refine ⟨fun hc => ?_, fun hc => ?_⟩
      · replace h := uA h hc
        conv => whnf
        replace h := zx h
        obtain ⟨x32, h5, h⟩ := h
        refine ⟨_, (Vq n _ _ _ _  _ h5), ?_⟩
        conv => whnf
        refine qP.fn [40000002, 40000012, 1000000] (S := Int × List Node × List Edge) (fun (x33, x34, x35) => [(0, .ptr 0 0), (4, .ptr 1 0), (42, .p (.sl (Edge.rows x32))), (43, .p (.int .i64 (((Edge.rows x32).length : Nat) : Int))), (44, .p (.int .i64 x33))]) (fun (x33, x34, x35) => [.box 79 [.p (.nsl (Node.rowsN x34)), .p (.nsl (Edge.rowsN x35)), .p (.int .i64 x10), .p (.int .i64 x11), .tsl 2 (qi x12), .tsl 3 (Val.rows x13), .p (.int .i64 x14), .p (.bool x15), .p (.int .i64 x16), .p (.str x17), .p (.sl (Val.rows x18)), .p (.sl (qi x19))], .box 35 [.p (.int .i64 x1), .p (.bool x2), .p (.int .i64 x3), .p (.str x4), .p (.sl (Val.rows x5)), .p (.sl (qi x6))], .tail 9 1 (qi x12).length, .tail 35 6 (Val.rows x13).length]) (B := xU n x32 x3) h ⟨[0, 3, 1, 2], [], ⟨rfl, rfl, rfl, rfl⟩, by repeat (first | exact trivial | exact .inl rfl | exact rfl | exact List.not_mem_nil | (refine .inr ?_) | (refine ⟨?_, ?_⟩) | exact List.length_set.symm | decide), by repeat (first | exact trivial | exact .inl rfl | exact rfl | exact List.not_mem_nil | (refine .inr ?_) | (refine ⟨?_, ?_⟩) | exact List.length_set.symm | decide)⟩ ?_
        intro nx1 st h
        obtain ⟨x33, x34, x35⟩ := st
        unfold xU at h
        conv => whnf
        refine ⟨fun hc => ?_, fun hc => ?_⟩
        · replace h := uA h hc
          conv => whnf
          replace h := zx h
          obtain ⟨⟨x36, x37, x38, x39, x40, x41⟩, h4, h⟩ := h
          refine ⟨_, Codec.at_ zD h4, ?_⟩
          conv => whnf
          replace h := zx h
          obtain ⟨⟨⟨x42, x43⟩, x44⟩, h3, h⟩ := h
          refine ⟨_, (ZD n _ _  _ h3), ?_⟩
          conv => whnf
          exact ⟨((kwr .i64 (x33 + (1 : Int))), x42, x43), h, ⟨[0, 1, 2, 3], [], ⟨rfl, rfl, rfl, rfl⟩, by repeat (first | exact trivial | exact .inl rfl | exact rfl | exact List.not_mem_nil | (refine .inr ?_) | (refine ⟨?_, ?_⟩) | exact List.length_set.symm | decide), by repeat (first | exact trivial | exact .inl rfl | exact rfl | exact List.not_mem_nil | (refine .inr ?_) | (refine ⟨?_, ?_⟩) | exact List.length_set.symm | decide)⟩⟩
        · replace h := uz h hc
          conv => whnf
          exact ⟨(x34, x35), h, ⟨[0, 1, 2, 3], [], ⟨rfl, rfl, rfl, rfl⟩, by repeat (first | exact trivial | exact .inl rfl | exact rfl | exact List.not_mem_nil | (refine .inr ?_) | (refine ⟨?_, ?_⟩) | exact List.length_set.symm | decide), by repeat (first | exact trivial | exact .inl rfl | exact rfl | exact List.not_mem_nil | (refine .inr ?_) | (refine ⟨?_, ?_⟩) | exact List.length_set.symm | decide)⟩⟩
      · replace h := uz h hc
        conv => whnf
        exact ⟨(x8, x9), h, ⟨[0, 3, 1, 2], [], ⟨rfl, rfl, rfl, rfl⟩, by repeat (first | exact trivial | exact .inl rfl | exact rfl | exact List.not_mem_nil | (refine .inr ?_) | (refine ⟨?_, ?_⟩) | exact List.length_set.symm | decide), by repeat (first | exact trivial | exact .inl rfl | exact rfl | exact List.not_mem_nil | (refine .inr ?_) | (refine ⟨?_, ?_⟩) | exact List.length_set.symm | decide)⟩⟩
set_option maxHeartbeats 4000000 in
set_option maxRecDepth 100000 in
theorem XA (n : Nat)   : ∀ (x1 : List (List UInt8)) (x2 : Bool) (a2_ : Env) (a3_ : State) (r : State × Int), xQ n x1 x2 a2_ a3_ = some r -> qc Tryz.prog 8 [PV.sl (qi x1), PV.bool x2, PV.agg (SV.cells a2_), PV.agg (mH.cells a3_)] (PV.tup [PV.agg [.nsl (Node.rowsN r.1.g.nodes), .nsl (Edge.rowsN r.1.g.edges), .int .i64 r.1.next.node, .int .i64 r.1.next.edge], PV.int .i64 r.2]) := by
  intro x1 x2 a2_ a3_ r h
  obtain ⟨x3, x4⟩ := a2_
  obtain ⟨⟨x5, x6⟩, ⟨x7, x8⟩⟩ := a3_
  unfold xQ at h
  refine qc.of_vcN mixed (fun _ _ => Tryz.call8 _ _) Tryz.func8 (by kernel_rfl) (inl := [24, 25, 26, 1000000]) ?_
  conv => whnf
  refine vF.of_vc mixed (fun _ _ => Tryz.call24 _ _) Tryz.func24 (by kernel_rfl) (inl := [56, 57, 30000018, 30000020, 40000002, 86000056, 86000057, 1000000]) ?_
  conv => whnf
  replace h := zx h
  obtain ⟨⟨x9, x10⟩, h6, h⟩ := h
  refine ⟨_, (mw n _  _ h6), ?_⟩
  conv => whnf
  obtain ⟨h5, h⟩ := qb h
  refine ⟨.tsl 6 (qi x3), [.tail 9 1 (qi x3).length], qS.use (bu x3 (kod h5)) [] [] ⟨rfl, rfl, rfl, rfl, rfl, rfl⟩ (by repeat (first | exact trivial | exact .inl rfl | exact rfl | exact List.not_mem_nil | (refine .inr ?_) | (refine ⟨?_, ?_⟩) | exact List.length_set.symm | decide)) (by repeat (first | exact trivial | exact .inl rfl | exact rfl | exact List.not_mem_nil | (refine .inr ?_) | (refine ⟨?_, ?_⟩) | exact List.length_set.symm | decide)) (by rintro _ _ ⟨rfl, rfl⟩; exact ⟨_, _, rfl, rfl, rfl, rfl⟩), ?_⟩
  conv => whnf
  obtain ⟨h4, h⟩ := qb h
  refine ⟨.tsl 7 (Val.rows x4), [.tail 35 6 (Val.rows x4).length], qS.use (Gw x4 (kod h4)) [] [] ⟨rfl, rfl, rfl, rfl, rfl, rfl⟩ (by repeat (first | exact trivial | exact .inl rfl | exact rfl | exact List.not_mem_nil | (refine .inr ?_) | (refine ⟨?_, ?_⟩) | exact List.length_set.symm | decide)) (by repeat (first | exact trivial | exact .inl rfl | exact rfl | exact List.not_mem_nil | (refine .inr ?_) | (refine ⟨?_, ?_⟩) | exact List.length_set.symm | decide)) (by rintro _ _ ⟨rfl, rfl⟩; exact ⟨_, _, rfl, rfl, rfl, rfl⟩), ?_⟩
  conv => whnf
  refine qP.fn [24, 25, 26, 1000000] (S := Int × List Node × List Edge × List Val × List (List UInt8)) (fun (x11, x12, x13, x14, x15) => [(1, .p (.bool x2)), (8, .ptr 0 0), (10, .ptr 1 0), (20, .p (.sl (qi x1))), (21, .p (.int .i64 (((qi x1).length : Nat) : Int))), (22, .p (.int .i64 x11))]) (fun (x11, x12, x13, x14, x15) => [.box 33 [.p (.nilsl), .p (.nilsl), .p (.int .i64 (0 : Int)), .p (.int .i64 (0 : Int))], .box 79 [.p (.nsl (Node.rowsN x12)), .p (.nsl (Edge.rowsN x13)), .p (.int .i64 x7), .p (.int .i64 x8), .tsl 2 (qi x3), .tsl 3 (Val.rows x4), .p (.int .i64 (0 : Int)), .p (.bool false), .p (.int .i64 (0 : Int)), .p (.str ([] : List UInt8)), .p (.sl (Val.rows x14)), .p (.sl (qi x15))], .tail 9 1 (qi x3).length, .tail 35 6 (Val.rows x4).length]) (B := vQ n x1 x7 x8 x3 x4 x2) h ⟨[2, 8, 6, 7], [], ⟨rfl, rfl, rfl, rfl⟩, by repeat (first | exact trivial | exact .inl rfl | exact rfl | exact List.not_mem_nil | (refine .inr ?_) | (refine ⟨?_, ?_⟩) | exact List.length_set.symm | decide), by repeat (first | exact trivial | exact .inl rfl | exact rfl | exact List.not_mem_nil | (refine .inr ?_) | (refine ⟨?_, ?_⟩) | exact List.length_set.symm | decide)⟩ ?_
  intro nx1 st h
  obtain ⟨x11, x12, x13, x14, x15⟩ := st
  unfold vQ at h
  conv => whnf
  refine ⟨fun hc => ?_, fun hc => ?_⟩
  · replace h := uA h hc
    conv => whnf
    replace h := zx h
    obtain ⟨x16, h3, h⟩ := h
    refine ⟨_, Codec.at_ cV h3, ?_⟩
    conv => whnf
    replace h := zx h
    obtain ⟨⟨⟨x17, x18, x19, x20, x21, x22⟩, x23⟩, h1, h⟩ := h
    refine qS.use (QA n _ _ _ _ _ _ _ _ _ _ _ _ _ _  h1) [1, 2, 3] [] ⟨rfl, rfl, rfl, rfl, rfl, rfl⟩ (by repeat (first | exact trivial | exact .inl rfl | exact rfl | exact List.not_mem_nil | (refine .inr ?_) | (refine ⟨?_, ?_⟩) | exact List.length_set.symm | decide)) (by repeat (first | exact trivial | exact .inl rfl | exact rfl | exact List.not_mem_nil | (refine .inr ?_) | (refine ⟨?_, ?_⟩) | exact List.length_set.symm | decide)) ?_
    rintro _ _ ⟨rfl, rfl⟩
    refine ⟨.p (.tup [.agg [.int .i64 x17, .bool x18, .int .i64 x19, .str x20, .sl (Val.rows x21), .sl (qi x22)], .bool x23]), [.box 33 [.p (.nilsl), .p (.nilsl), .p (.int .i64 (0 : Int)), .p (.int .i64 (0 : Int))], .box 79 [.p (.nsl (Node.rowsN x12)), .p (.nsl (Edge.rowsN x13)), .p (.int .i64 x7), .p (.int .i64 x8), .tsl 4 (qi x3), .tsl 5 (Val.rows x4), .p (.int .i64 (0 : Int)), .p (.bool false), .p (.int .i64 (0 : Int)), .p (.str ([] : List UInt8)), .p (.sl (Val.rows x14)), .p (.sl (qi x15))], .dead, .dead, .tail 9 1 (qi x3).length, .tail 35 6 (Val.rows x4).length], rfl, rfl, ?_⟩
    conv => whnf
    refine gW.cut (S := Int) (fun x24 => [(1, .p (.bool x2)), (8, .ptr 0 0), (10, .ptr 1 0), (13, .ptr 2 0), (15, .p (.int .i64 x24)), (20, .p (.sl (qi x1))), (21, .p (.int .i64 (((qi x1).length : Nat) : Int))), (22, .p (.int .i64 x11))]) (fun x24 => [.box 33 [.p (.nilsl), .p (.nilsl), .p (.int .i64 (0 : Int)), .p (.int .i64 (0 : Int))], .box 79 [.p (.nsl (Node.rowsN x12)), .p (.nsl (Edge.rowsN x13)), .p (.int .i64 x7), .p (.int .i64 x8), .tsl 3 (qi x3), .tsl 4 (Val.rows x4), .p (.int .i64 (0 : Int)), .p (.bool false), .p (.int .i64 (0 : Int)), .p (.str ([] : List UInt8)), .p (.sl (Val.rows x14)), .p (.sl (qi x15))], .box 35 [.p (.int .i64 x17), .p (.bool x18), .p (.int .i64 x19), .p (.str x20), .p (.sl (Val.rows x21)), .p (.sl (qi x22))], .tail 9 1 (qi x3).length, .tail 35 6 (Val.rows x4).length]) (xI n x17 x18 x19 x20 x21 x22 x2 x12 x13 x7 x8 x3 x4 x14 x15 nx1 x11) (r := r) ?_ ?_
    · intro x24 h
      unfold xI at h
      conv => whnf
      refine gW.cut (S := Int × List Node × List Edge) (fun (x25, x26, x27) => [(1, .p (.bool x2)), (8, .ptr 0 0), (10, .ptr 1 0), (15, .p (.int .i64 x25)), (20, .p (.sl (qi x1))), (21, .p (.int .i64 (((qi x1).length : Nat) : Int))), (22, .p (.int .i64 x11))]) (fun (x25, x26, x27) => [.box 33 [.p (.nilsl), .p (.nilsl), .p (.int .i64 (0 : Int)), .p (.int .i64 (0 : Int))], .box 79 [.p (.nsl (Node.rowsN x26)), .p (.nsl (Edge.rowsN x27)), .p (.int .i64 x7), .p (.int .i64 x8), .tsl 2 (qi x3), .tsl 3 (Val.rows x4), .p (.int .i64 (0 : Int)), .p (.bool false), .p (.int .i64 (0 : Int)), .p (.str ([] : List UInt8)), .p (.sl (Val.rows x14)), .p (.sl (qi x15))], .tail 9 1 (qi x3).length, .tail 35 6 (Val.rows x4).length]) (xm n nx1 x11 x14 x15) (r := r) ?_ ?_
      · intro st h
        obtain ⟨x25, x26, x27⟩ := st
        unfold xm at h
        conv => whnf
        refine ⟨fun hc => ?_, fun hc => ?_⟩
        · replace h := uA h hc
          obtain rfl := Option.some.inj h
          conv => whnf
          repeat (first | exact rfl | exact trivial | refine ⟨?_, ?_⟩)
        · replace h := uz h hc
          conv => whnf
          exact ⟨((kwr .i64 (x11 + (1 : Int))), x26, x27, x14, x15), h, ⟨[0, 1, 2, 3], [], ⟨rfl, rfl, rfl, rfl⟩, by repeat (first | exact trivial | exact .inl rfl | exact rfl | exact List.not_mem_nil | (refine .inr ?_) | (refine ⟨?_, ?_⟩) | exact List.length_set.symm | decide), by repeat (first | exact trivial | exact .inl rfl | exact rfl | exact List.not_mem_nil | (refine .inr ?_) | (refine ⟨?_, ?_⟩) | exact List.length_set.symm | decide)⟩⟩
      · conv => whnf
        refine And.intro (fun h => h) ?_
        conv => whnf
        iterate 2 (refine And.intro (fun h => h) ?_)
        conv => whnf
        refine ⟨fun hc => ?_, fun hc => ?_⟩
        · replace h := uA h hc
          conv => whnf
          replace h := zx h
          obtain ⟨⟨x28, x29, x30⟩, h2, h⟩ := h
          refine qS.use (Zo n _ _ _ _ _ _ _ _ _ _ _ _ _ _ _  h2) [1, 3, 4] [] ⟨rfl, rfl, rfl, rfl, rfl, rfl⟩ (by repeat (first | exact trivial | exact .inl rfl | exact rfl | exact List.not_mem_nil | (refine .inr ?_) | (refine ⟨?_, ?_⟩) | exact List.length_set.symm | decide)) (by repeat (first | exact trivial | exact .inl rfl | exact rfl | exact List.not_mem_nil | (refine .inr ?_) | (refine ⟨?_, ?_⟩) | exact List.length_set.symm | decide)) ?_
          rintro _ _ ⟨rfl, rfl⟩
          refine ⟨.p (.int .i64 x28), [.box 33 [.p (.nilsl), .p (.nilsl), .p (.int .i64 (0 : Int)), .p (.int .i64 (0 : Int))], .box 79 [.p (.nsl (Node.rowsN x29)), .p (.nsl (Edge.rowsN x30)), .p (.int .i64 x7), .p (.int .i64 x8), .tsl 5 (qi x3), .tsl 6 (Val.rows x4), .p (.int .i64 (0 : Int)), .p (.bool false), .p (.int .i64 (0 : Int)), .p (.str ([] : List UInt8)), .p (.sl (Val.rows x14)), .p (.sl (qi x15))], .box 35 [.p (.int .i64 x17), .p (.bool x18), .p (.int .i64 x19), .p (.str x20), .p (.sl (Val.rows x21)), .p (.sl (qi x22))], .dead, .dead, .tail 9 1 (qi x3).length, .tail 35 6 (Val.rows x4).length], rfl, rfl, ?_⟩
          conv => whnf
          exact ⟨(x28, x29, x30), h, ⟨[0, 1, 5, 6], [], ⟨rfl, rfl, rfl, rfl⟩, by repeat (first | exact trivial | exact .inl rfl | exact rfl | exact List.not_mem_nil | (refine .inr ?_) | (refine ⟨?_, ?_⟩) | exact List.length_set.symm | decide), by repeat (first | exact trivial | exact .inl rfl | exact rfl | exact List.not_mem_nil | (refine .inr ?_) | (refine ⟨?_, ?_⟩) | exact List.length_set.symm | decide)⟩⟩
        · replace h := uz h hc
          conv => whnf
          exact ⟨(x24, x12, x13), h, ⟨[0, 1, 3, 4], [], ⟨rfl, rfl, rfl, rfl⟩, by repeat (first | exact trivial | exact .inl rfl | exact rfl | exact List.not_mem_nil | (refine .inr ?_) | (refine ⟨?_, ?_⟩) | exact List.length_set.symm | decide), by repeat (first | exact trivial | exact .inl rfl | exact rfl | exact List.not_mem_nil | (refine .inr ?_) | (refine ⟨?_, ?_⟩) | exact List.length_set.symm | decide)⟩⟩
    · conv => whnf
      refine ⟨fun hc => ?_, fun hc => ?_⟩
      · replace h := uA h hc
        conv => whnf
        exact ⟨(3 : Int), h, ⟨[0, 1, 6, 4, 5], [], ⟨rfl, rfl, rfl, rfl⟩, by repeat (first | exact trivial | exact .inl rfl | exact rfl | exact List.not_mem_nil | (refine .inr ?_) | (refine ⟨?_, ?_⟩) | exact List.length_set.symm | decide), by repeat (first | exact trivial | exact .inl rfl | exact rfl | exact List.not_mem_nil | (refine .inr ?_) | (refine ⟨?_, ?_⟩) | exact List.length_set.symm | decide)⟩⟩
      · replace h := uz h hc
        conv => whnf
        exact ⟨(2 : Int), h, ⟨[0, 1, 6, 4, 5], [], ⟨rfl, rfl, rfl, rfl⟩, by repeat (first | exact trivial | exact .inl rfl | exact rfl | exact List.not_mem_nil | (refine .inr ?_) | (refine ⟨?_, ?_⟩) | exact List.length_set.symm | decide), by repeat (first | exact trivial | exact .inl rfl | exact rfl | exact List.not_mem_nil | (refine .inr ?_) | (refine ⟨?_, ?_⟩) | exact List.length_set.symm | decide)⟩⟩
  · replace h := uz h hc
    obtain rfl := Option.some.inj h
    conv => whnf
    repeat (first | exact rfl | exact trivial | refine ⟨?_, ?_⟩)
end W
end
