/- A part of the proof: the abstract execution. -/
import Derived.Shelf.Slices.In.SortNone
import Derived.Test.YtlnipohgljbfiaaGreatShelf
import Derived.ChangeArms
import Derived.DataElems
import Derived.DataReads
import Derived.Carry
import Derived.ChangeSame
import Derived.ProofKit
import Derived.WalkKit
import Derived.OpenShut
import Derived.Test.YtlnipohgljbfiaaGreatA
import Derived.Test.YtlnipohgljbfiaaGreatB
set_option linter.unusedVariables false
set_option linter.unusedSimpArgs false
set_option linter.unnecessarySimpa false
set_option linter.deprecated false
set_option linter.unusedSectionVars false
set_option linter.constructorNameAsVariable false
open List renaming getElem?_eq_getElem->jf,map_cons->jk,length_map->jl,prefix_refl->jq,append_assoc->js,getElem?_append_left->jB,getElem?_append_right->jC,getElem?_eq_some_iff->jG,map_map->jW
open Nat renaming le_of_ble_eq_true->jh,eq_of_beq_eq_true->jm,le_refl->jw,zero_add->jx,zero_le->jS
open Bool renaming and_eq_true->ji,not_true->jp
open Array renaming getD_eq_getD_getElem?->jX
open Go.Result renaming andThen_ok->kb
open Go.Sem renaming run_bind->kc,run_pure->kd
section
open Go Go.Proofs Go.RowKit
namespace Ax
section
variable {P:Program} {N:Nat} {Q:Exit->Act->World->Prop}
def lendB (ρ:List Value) (H:PH) (lo:List AObj) (w:World):Base:={ S:=qd8 ρ lo,w0:=w,H0:=H,r0:=ρ }
theorem Sat.lendB {bs:Base} {ρ:List Value} {H:PH} {e:Nat->FV} {lo:List AObj} {a:Act} {w:World} (s:Sat bs N ρ H e lo a w):Sat (lendB ρ H lo w) N ρ H e lo a w:=
 { s.toSatW.lend with slots:=s.slots,width:=s.width,defers:=s.defers }
theorem Sat.backB {bs:Base} {ρ ρ':List Value} {H H':PH} {e c:Nat->FV} {lo lo':List AObj} {a d:Act} {w w':World} (s:Sat bs N ρ H e lo a w) (b:Sat (Ax.lendB ρ H lo w) N ρ' H' c lo' d w'):Sat bs N ρ' H' c lo' d w':=
 { s.toSatW.back b.toSatW with slots:=b.slots,width:=b.width,defers:=b.defers }
theorem fV {bs:Base} {ρ:List Value} {H:PH} {E:Env} {lo:List AObj} {a:Act} {w:World} {all:List Oper} {o:Oper} {i:Nat} {R:Env->List AObj->Prop} {K:Act->World->Prop}
  (e:all[i]? =some o) (s:Sat bs N ρ H (qv E) lo a w) (h:BC P N all o E lo R)
  (f:∀ (ρ':List Value) (H':PH) (E':Env) (lo':List AObj) (c:Act) (w':World),Sat bs N ρ' H' (qv E') lo' c w'->R E' lo'->(∀ b ob,Apart ρ H lo w b ob->Apart ρ' H' lo' w' b ob)->ρ <+: ρ'->PH.le H H'->K c w'):wpOp P all.toArray Q i K a w:=by
 obtain⟨E',lo',st,h⟩:=NV h;exact st.wp (by simpa using e) s.lendB fun ρ' H' c w' d=>f ρ' H' E' lo' c w' (s.backB d) h (fun b ob ap=>ap.step d.toSatW) d.pre d.leH
theorem TQ {a:Act} {w w':World} {all:List Oper} {o:Oper} {i:Nat} {v:Value} {K:Act->World->Prop} (b:all[i]? =some o) (c:o.guard=none) (d:(execOp a.eval o).run P w=.ok (.value v) w') (k:K (a.put o.dst v) w'):wpOp P all.toArray Q i K a w:=by
 unfold wpOp;simp only[show all.toArray[i]? =some o by simpa using b,Region.wanted,c,if_true];refine .inl ?_;unfold Oper.wp;rw[d];exact k
theorem di {all:List Oper} {o:Oper} {E:Env} {lo:List AObj} {R:Env->List AObj->Prop} (a:o.guard=none) (b:XM o.op=false) (he:QY o.op=false) (h:Xo P o.op E none fun v=>putK N o.dst v E fun E=>R E lo):BC P N all o E lo R:=by
 unfold BC QX;simp only[a,b,he];exact h
theorem qko {all:List Oper} {o:Oper} {E:Env} {lo:List AObj} {R:Env->List AObj->Prop} (a:o.guard=none) (b:XM o.op=false) (he:QY o.op=true) (h:ow P o.op E lo fun v lo=>putK N o.dst v E fun E=>R E lo):BC P N all o E lo R:=by
 unfold BC QX;simp only[a,b,he];exact h
theorem uE {d:Nat} {v:FV} {E:Env} {R:Env->Prop} (a:d<N) (r:R ((d,v)::E)):putK N (some d) v E R:=by
 simp only[putK,show Nat.blt d N=true from Nat.ble_eq_true_of_le a];rw[Dm];exact r
theorem Bp {E:Env} {g:G} {t:Nat} {v:FV} {R:FV->Prop} (h:qv E t=v) (a:∀ b u,v≠.opt b u) (r:R v):evS E g (.tmp t) R:=by
 unfold evS;rw[Zx];show(match qv E t with|.opt g' v'=>gI g (g'=true)/\R v'|v=>R v)
 rw[h];cases v<;>first|exact r|exact absurd rfl (a _ _)
theorem Hn {E:Env} {t:Nat} {v:FV} {R:FV->Prop} (h:qv E t=v) (r:R v):ev E (.tmp t) R:=by
 rw[Zx];show R (qv E t);rw[h]; exact r
structure IsOp (o:Oper) (d:Option Tmp) (op:Op):Prop where
 dst:o.dst=d
 op:o.op=op
 guard:o.guard=none
theorem IsOp.lt {o:Oper} {d N:Nat} {op:Op} (h:IsOp o (some d) op) (a:d<N):∀ t,o.dst=some t->t<N:=fun t e=>by
 rw[h.dst]at e;cases e;exact a
theorem qd9 {a b:Nat} (h:a≠b):Nat.beq a b=false:=by
 cases c:Nat.beq a b with
 | false=>rfl
 | true=>exact absurd (jm c) h
structure KeyTypes (P:Program) (T TS TK:TypeId):Prop where
 map:∃ kt et,P.underlying T=some (.map kt et)
 slice:P.underlying TS=some (.slice TK)
 elem:∃ i zv,P.info? TK=some i/\i.size=1/\i.bytes=16/\i.zero=some zv/\zv.cells.size=1
theorem aw {H:PH}:∀ {x:List (List UInt8×Int)} {l:List MapEntry},Lr H (qH PV.str (PV.int .i64) x) l->l.map (fun e=>aJ e.key)=x.map (·.1)/\∀ e∈l,∃ s n,e.key=.string ⟨s⟩/\e.val=.int .i64 n
 | [],l,h=>by simp only[qH,List.map_nil,Lr]at h; subst h; exact⟨rfl,fun e he=>by cases he⟩
 | (k,v)::x,l,h=>by
  simp only[qH,jk,Lr]at h;obtain⟨e,l',rfl,a,b,c⟩:=h;obtain⟨h1,h2⟩:=aw (x:=x) c;simp only[zn]at a b;refine⟨by show aJ e.key::_=k::_; rw[a]; exact congrArg (k::·) h1,fun d he=>?_⟩
  rcases List.mem_cons.1 he with rfl|he
  ·exact⟨_,_,a,b⟩
  exact h2 d he
def qco (bs:Base) (N:Nat) (b c:Nat) (TK:TypeId) (ents:Array MapEntry) (clock:Nat) (seen:Array Nat) (c0:Nat) (a:Act) (w:World):Prop:=
 ∃ (ρ:List Value) (H:PH) (lo:List AObj) (j r:Nat) (ss:List (List UInt8)),Sat bs N ρ H (qv [(0,.mref 0),(3,.vsl j ss.length),(6,.stmp r)]) lo a w/\Apart ρ H lo w b (.map ents clock)/\Apart ρ H lo w c (.mapIter (some b) clock seen c0) /\
  ρ[r]? =some (.pointer (some ⟨c,0,none⟩))/\lo[j]? =some (.vec TK 1 (qi ss))/\qau ents seen ss/\clock<=c0
variable {T TS TK:TypeId} {o7 o8 o9 o10 o4 o11 o12 o13 o14 o3:Oper} {i3 i4 i5 b0 b1:Nat}
theorem qkb (kt:KeyTypes P T TS TK) (h7:IsOp o7 (some 7) (.next (.tmp 6) false)) (Y:IsOp o8 (some 8) (.extract (.tmp 7) 0)) (h9:IsOp o9 (some 9) (.entry (.tmp 6))) (B:IsOp o10 (some 10) (.extract (.tmp 9) 0)) (h4:IsOp o4 (some 4) (.assign (.tmp 10)))
  (C:IsOp o11 (some 11) (.move (.tmp 3))) (D:IsOp o12 (some 12) (.move (.tmp 4))) (F:IsOp o13 (some 13) (.buildSlice TS 1 ⟨[(0,.tmp 12)]⟩)) (G:IsOp o14 (some 14) (.call { callee:=.builtin .append,args:=⟨[.tmp 11,.tmp 13]⟩,argTypes:=⟨[TS,TS]⟩ })) (h3:IsOp o3 (some 3) (.assign (.tmp 14)))
  (hN:18<=N) (hne:b0≠b1) {bs:Base} {b f:Nat} {ents:Array MapEntry} {clock:Nat} (hrb:bs.S f\/bs.w0.heap.size<=f) (hst:MapKept.Stamped ents clock) (hks:∀ e∈ents.toList,∃ s n,e.key=.string ⟨s⟩/\e.val=.int .i64 n) (hsz:ents.size * 16<=140737488355328)
  (hout:∀ seen c0 a w,(leftOf ents seen).size=0->qco bs N b f TK ents clock seen c0 a w->Q (.exit b0) a w) {seen:Array Nat} {c0:Nat} (hin:∀ I c0' a w,(leftOf ents I).size<(leftOf ents seen).size->qco bs N b f TK ents clock I c0' a w->Q .normal a w)
  {a:Act} {w:World} (hr:qco bs N b f TK ents clock seen c0 a w) :
  (Code.seq (.region i3 ⟨[o7,o8]⟩ false) (.seq (.cond (.tmp 8) .skip (.exit b0)) (.block b1 (.seq (.region i4 ⟨[o9,o10,o4]⟩ false) (.region i5 ⟨[o11,o12,o13,o14,o3]⟩ false))))).wp P Q a w:=by
 obtain⟨ρ,H,lo,j,r,ss,s,g,i,J,K,m,hc0⟩:=hr;obtain⟨i0,zv,hi,his,hib,hiz,hzc⟩:=kt.elem;have hit:a.eval (.tmp 6)=.pointer (some ⟨f,0,none⟩):=by
  have:=s.slots 6;simp only[qv,zo]at this;have h2:ρ[r]? =some (a.tmps.getD 6 undef):=this;rw[J]at h2;exact(Option.some.inj h2).symm
 refine wp_seq ?_;refine wp_region ?_;show wpOps P ([o7,o8]:List Oper).toArray _ [0,1] a w;rw[wpOps_cons];rcases run_next_at (P:=P) w o7.type f b clock c0 seen ents clock i.heap g.heap hst.1 hc0 with ⟨h0,L⟩|⟨e,he,w1,Z,L⟩
 ·refine TQ (v:=.tuple #[.bool false]) (w':=w) rfl h7.guard (by simp only[execOp,h7.op,hit,kc,L,kb,kd]) ?_
  have s1:Sat bs N ρ H (qv [(7,.nxt false (.bool false) (.bool false)),(0,.mref 0),(3,.vsl j ss.length),(6,.stmp r)]) lo (a.put o7.dst (.tuple #[.bool false])) w:=by
   rw[bo,← h7.dst];exact s.put (jq _) (PH.le.refl H) s.toSatW (h7.lt (by omega)) (by simp[zo])
  rw[wpOps_cons];refine fV rfl s1 (di (R:=fun E lo'=>E=(8,.p (.bool false))::[(7,.nxt false (.bool false) (.bool false)),(0,.mref 0),(3,.vsl j ss.length),(6,.stmp r)]/\lo'=lo) Y.guard (by rw[Y.op]; rfl) (by rw[Y.op]; rfl) ?_) ?_
  ·rw[Y.op,Y.dst]
   exact Bp (v:=.nxt false (.bool false) (.bool false)) rfl (by intro _ _ h; cases h) (uE (d:=8) (by omega) ⟨rfl,rfl⟩)
  rintro ρ' H' E' lo' z w' A ⟨rfl,rfl⟩ u o hle;simp only[wpOps];refine wp_seq ?_;have q:zo ρ' H' (.p (.bool false)) (z.tmps.getD 8 undef):=A.slots 8;have hc:z.eval (.tmp 8)=.bool false:=rG q;refine wp_cond_split hc (fun h=>by cases h) (fun _=>wp_exit ?_)
  refine hout seen c0 z w' h0 ⟨ρ',H',lo',j,r,ss,{ A with slots:=fun t=>?_ },u _ _ g,u _ _ i,?_,K,m,hc0⟩
  ·by_cases M:t=8
   ·subst M; trivial
   by_cases O:t=7
   ·subst O; trivial
   have:=A.slots t;simp only[qv,qd9 M,qd9 O]at this ⊢;exact this
  obtain⟨l,rfl⟩:=o;rw[jB (jG.1 J).1]; exact J
 
 have hem:=(mem_left he).1;obtain⟨ks,U,hk,hv⟩:=hks e hem;have V:w1.heap=w.heap:=by rcases Z with rfl|rfl<;>rfl
 have hkeep:Keep (fun x=>x=f) w (ChangeMaps.setBlock w1 f (.mapIter (some b) clock (seen.push e.born) clock)):=by
  refine⟨by rcases Z with rfl|rfl<;>rfl,by rcases Z with rfl|rfl<;>rfl,by rcases Z with rfl|rfl<;>rfl,by simp[ChangeMaps.setBlock,V],fun k hk hne=>?_⟩
  show(w1.heap.setIfInBounds f _)[k]? =_;rw[V,Array.getElem?_setIfInBounds_ne (fun e=>hne e.symm)]
 have hbr:b≠f:=fun e=>by
  have h1:=g.heap;rw[e,i.heap]at h1;cases h1
 have s0:=s.toSatW.other i hrb hkeep;have apb0:Apart ρ H lo (ChangeMaps.setBlock w1 f (.mapIter (some b) clock (seen.push e.born) clock)) b (.map ents clock):=⟨(hkeep.block b (vo g.heap) hbr).trans g.heap,g.free,g.none⟩;have apr0:Apart ρ H lo (ChangeMaps.setBlock w1 f (.mapIter (some b) clock (seen.push e.born) clock)) f (.mapIter (some b) clock (seen.push e.born) clock):=by
  refine⟨?_,i.free,i.none⟩;show(w1.heap.setIfInBounds f _)[f]? =_;rw[V,Array.getElem?_setIfInBounds_self_of_lt (vo i.heap)]
 generalize ChangeMaps.setBlock w1 f (.mapIter (some b) clock (seen.push e.born) clock)=w2 at *;refine TQ (v:=.tuple #[.bool true,e.key,e.val]) (w':=w2) rfl h7.guard (by simp only[execOp,h7.op,hit,kc,L,kb,kd]) ?_;have s1:Sat bs N ρ H (qv [(7,.nxt true (.str ks.toList) (.int .i64 U)),(0,.mref 0),(3,.vsl j ss.length),(6,.stmp r)]) lo (a.put o7.dst (.tuple #[.bool true,e.key,e.val])) w2:=by
  have A:Sat bs N ρ H (qv [(0,.mref 0),(3,.vsl j ss.length),(6,.stmp r)]) lo a w2:={ s0 with slots:=s.slots,width:=s.width,defers:=s.defers }
  rw[bo,← h7.dst];refine A.put (jq _) (PH.le.refl H) s0 (h7.lt (by omega)) ?_;simp only[zo,if_true];exact⟨e.key,e.val,rfl,by simp[zn,hk],by simp[zn,hv]⟩
 rw[wpOps_cons];refine fV rfl s1 (di (R:=fun E lo'=>E=(8,.p (.bool true))::[(7,.nxt true (.str ks.toList) (.int .i64 U)),(0,.mref 0),(3,.vsl j ss.length),(6,.stmp r)]/\lo'=lo) Y.guard (by rw[Y.op]; rfl) (by rw[Y.op]; rfl) ?_) ?_
 ·rw[Y.op,Y.dst]
  exact Bp (v:=.nxt true (.str ks.toList) (.int .i64 U)) rfl (by intro _ _ h; cases h) (uE (d:=8) (by omega) ⟨rfl,rfl⟩)
 rintro ρ' H' E' lo' z w' A ⟨rfl,rfl⟩ u o hle;have apb1:=u _ _ apb0;have apr1:=u _ _ apr0;have X:ρ'[r]? =some (.pointer (some ⟨f,0,none⟩)):=by
  obtain⟨l,rfl⟩:=o;rw[jB (jG.1 J).1]; exact J
 clear u o hle apb0 apr0 s1 s0;simp only[wpOps];refine wp_seq ?_;have q:zo ρ' H' (.p (.bool true)) (z.tmps.getD 8 undef):=A.slots 8;have hc:z.eval (.tmp 8)=.bool true:=rG q;refine wp_cond_split hc (fun _=>wp_skip ?_) (fun h=>by cases h)
 refine wp_block ?_;refine wp_seq ?_;refine wp_region ?_;show wpOps P ([o9,o10,o4]:List Oper).toArray _ [0,1,2] z w';rw[wpOps_cons];have hit':z.eval (.tmp 6)=.pointer (some ⟨f,0,none⟩):=by
  have h2:ρ'[r]? =some (z.tmps.getD 6 undef):=A.slots 6;rw[X]at h2;exact(Option.some.inj h2).symm
 refine TQ (v:=.tuple #[e.key,e.val]) (w':=w') rfl h9.guard (by simp only[execOp,h9.op,hit',kc,run_entry_at w' f b clock seen ents clock e apr1.heap apb1.heap hem hst.2.1,kb,kd]) ?_;have s2:Sat bs N ρ' H' (qv [(9,.p (.tup [.str ks.toList,.int .i64 U])),(0,.mref 0),(3,.vsl j ss.length),(6,.stmp r)]) lo' (z.put o9.dst (.tuple #[e.key,e.val])) w':=by
  have s'':Sat bs N ρ' H' (qv [(0,.mref 0),(3,.vsl j ss.length),(6,.stmp r)]) lo' z w':=by
   refine{ A with slots:=fun t=>?_ }
   have:=A.slots t;by_cases M:t=8
   ·subst M; trivial
   by_cases O:t=7
   ·subst O; trivial
   simp only[qv,qd9 M,qd9 O]at this ⊢;exact this
  rw[bo,← h9.dst];refine s''.put (jq _) (PH.le.refl H') A.toSatW (h9.lt (by omega)) ?_;simp only[zo,zn,zS];exact⟨[e.key,e.val],rfl,e.key,_,rfl,by rw[hk],e.val,[],rfl,hv,rfl⟩
 generalize z.put o9.dst (.tuple #[e.key,e.val])=a2 at *;clear A q hc hit';have hkey:aJ e.key=ks.toList:=by rw[hk]; rfl
 rw[wpOps_cons];refine fV rfl s2 (di (R:=fun E c=>E=(10,.p (.str ks.toList))::[(9,.p (.tup [.str ks.toList,.int .i64 U])),(0,.mref 0),(3,.vsl j ss.length),(6,.stmp r)]/\c=lo') B.guard (by rw[B.op]; rfl) (by rw[B.op]; rfl) ?_) ?_
 ·rw[B.op,B.dst]
  refine Bp (v:=.p (.tup [.str ks.toList,.int .i64 U])) rfl (by intro _ _ h; cases h) ?_;simp only[UK];exact uE (by omega) ⟨rfl,trivial⟩
 rintro ρ3 H3 E3 lo3 a3 w3 s3 ⟨rfl,rfl⟩ hap3 hpre3 hle3;rw[wpOps_cons];refine fV rfl s3 (di (R:=fun E c=>E=(4,.p (.str ks.toList))::(10,.p (.str ks.toList))::[(9,.p (.tup [.str ks.toList,.int .i64 U])),(0,.mref 0),(3,.vsl j ss.length),(6,.stmp r)]/\c=lo3) h4.guard (by rw[h4.op]; rfl) (by rw[h4.op]; rfl) ?_) ?_
 ·rw[h4.op,h4.dst]
  exact Hn (v:=.p (.str ks.toList)) rfl (uE (d:=4) (by omega) ⟨rfl,rfl⟩)
 rintro ρ4 H4 E4 lo4 a4 w4 s4 ⟨rfl,rfl⟩ hap4 hpre4 hle4;simp only[wpOps];refine wp_region ?_;show wpOps P ([o11,o12,o13,o14,o3]:List Oper).toArray _ [0,1,2,3,4] a4 w4;rw[wpOps_cons];refine fV rfl s4 (di (R:=fun E c=>E=(11,.vsl j ss.length)::(4,.p (.str ks.toList))::(10,.p (.str ks.toList))::[(9,.p (.tup [.str ks.toList,.int .i64 U])),(0,.mref 0),(3,.vsl j ss.length),(6,.stmp r)]/\c=lo4) C.guard (by rw[C.op]; rfl) (by rw[C.op]; rfl) ?_) ?_
 ·rw[C.op,C.dst]
  exact Hn (v:=.vsl j ss.length) rfl (uE (d:=11) (by omega) ⟨rfl,rfl⟩)
 rintro ρ5 H5 E5 lo5 a5 w5 s5 ⟨rfl,rfl⟩ hap5 hpre5 hle5;rw[wpOps_cons];refine fV rfl s5 (di (R:=fun E c=>E=(12,.p (.str ks.toList))::(11,.vsl j ss.length)::(4,.p (.str ks.toList))::(10,.p (.str ks.toList))::[(9,.p (.tup [.str ks.toList,.int .i64 U])),(0,.mref 0),(3,.vsl j ss.length),(6,.stmp r)]/\c=lo5) D.guard (by rw[D.op]; rfl) (by rw[D.op]; rfl) ?_) ?_
 ·rw[D.op,D.dst]
  exact Hn (v:=.p (.str ks.toList)) rfl (uE (d:=12) (by omega) ⟨rfl,rfl⟩)
 rintro ρ6 H6 E6 lo6 a6 w6 s6 ⟨rfl,rfl⟩ hap6 hpre6 hle6;rw[wpOps_cons];refine fV rfl s6 (di (R:=fun E c=>E=(13,.p (.sl [[.str ks.toList]]))::(12,.p (.str ks.toList))::(11,.vsl j ss.length)::(4,.p (.str ks.toList))::(10,.p (.str ks.toList))::[(9,.p (.tup [.str ks.toList,.int .i64 U])),(0,.mref 0),(3,.vsl j ss.length),(6,.stmp r)]/\c=lo6) F.guard (by rw[F.op]; rfl) (by rw[F.op]; rfl) ?_) ?_
 ·rw[F.op,F.dst]
  simp only[Xo,pa,GK,kt.slice,hi,his,hiz];refine Bp (v:=.p (.str ks.toList)) rfl (by intro _ _ h; cases h) ?_;exact⟨by intro r hr; simp[qdn,MZ]at hr; subst hr; exact⟨rfl,by first|trivial|rfl⟩,[[.str ks.toList]],.inl rfl,uE (d:=13) (by omega) (by first|exact⟨rfl,rfl⟩|exact⟨rfl,trivial⟩)⟩
 rintro ρ7 H7 E7 y a7 w7 s7 ⟨rfl,rfl⟩ hap7 hpre7 hle7;rw[wpOps_cons];have hll:(leftOf ents (seen.push e.born)).size<(leftOf ents seen).size:=left_shrinks ents seen e he;have hlen:ss.length+1<=ents.size:=by have:=m.len; omega
 refine fV rfl s7 (qko (R:=fun E c=>E=(14,.vsl (y.length) (qi (ss++[ks.toList])).length)::(13,.p (.sl [[.str ks.toList]]))::(12,.p (.str ks.toList))::(11,.vsl j ss.length)::(4,.p (.str ks.toList))::(10,.p (.str ks.toList))::[(9,.p (.tup [.str ks.toList,.int .i64 U])),(0,.mref 0),(3,.vsl j ss.length),(6,.stmp r)]/\c=y.set j .dead++[.vec TK 1 (qi (ss++[ks.toList]))]) G.guard (by rw[G.op]; rfl) (by rw[G.op]; rfl) ?_) ?_
 ·rw[G.op,G.dst]
  simp only[ow,Nat.beq_refl];refine Bp (v:=.vsl j ss.length) rfl (by intro _ _ h; cases h) ?_;refine Bp (v:=.p (.sl [[.str ks.toList]])) rfl (by intro _ _ h; cases h) ?_;simp only[RZ,LG,GK,kt.slice,hi,his,hiz,hzc,Nat.beq_refl,show Nat.beq 1 0=false from rfl];refine cx K ?_;have hls:(qi (ss++[ks.toList])).length=ss.length+1:=by simp[qi]
  refine⟨qi (ss++[ks.toList]),⟨by simp[qi],rfl,rfl,by intro r hr; simp at hr; subst hr; rfl,by rw[hls,hib]; omega,by rw[hls]; omega⟩,?_⟩;refine EX (jG.1 K).1 (EJ (qad (uE (d:=14) (by omega) ⟨by simp,rfl⟩)))
 rintro ρ8 H8 E8 lo8 a8 w8 s8 ⟨rfl,rfl⟩ hap8 hpre8 hle8;rw[wpOps_cons];refine fV rfl s8 (di (R:=fun E c=>qv E 3=.vsl y.length (ss++[ks.toList]).length/\qv E 6=.stmp r/\qv E 0=.mref 0/\c=y.set j .dead++[.vec TK 1 (qi (ss++[ks.toList]))]) h3.guard (by rw[h3.op]; rfl) (by rw[h3.op]; rfl) ?_) ?_
 ·rw[h3.op,h3.dst]
  refine Hn (v:=.vsl (y.length) (qi (ss++[ks.toList])).length) rfl (uE (d:=3) (by omega) ⟨?_,rfl,rfl,rfl⟩);show FV.vsl _ _=_;congr 1;simp[qi]
 rintro ρ9 H9 E9 lo9 a9 w9 s9 ⟨g3,g6,g0,rfl⟩ hap9 hpre9 hle9;simp only[wpOps];refine hin (seen.push e.born) clock a9 w9 hll ⟨ρ9,H9,_,y.length,r,ss++[ks.toList],{ s9 with slots:=fun t=>?_ },?_,?_,?_,?_,?_,jw _⟩
 ·have:=s9.slots t
  by_cases h0t:t=0
  ·subst h0t; rw[g0]at this; exact this
  by_cases h3t:t=3
  ·subst h3t; rw[g3]at this; exact this
  by_cases h6t:t=6
  ·subst h6t; rw[g6]at this; exact this
  simp only[qv,qd9 h0t,qd9 h3t,qd9 h6t]
  trivial
 ·exact hap9 _ _ (hap8 _ _ (hap7 _ _ (hap6 _ _ (hap5 _ _ (hap4 _ _ (hap3 _ _ apb1))))))
 ·exact hap9 _ _ (hap8 _ _ (hap7 _ _ (hap6 _ _ (hap5 _ _ (hap4 _ _ (hap3 _ _ apr1))))))
 ·obtain⟨l,hl⟩:=hpre3.trans (hpre4.trans (hpre5.trans (hpre6.trans (hpre7.trans (hpre8.trans hpre9)))))
  rw[← hl,jB (jG.1 X).1]; exact X
 ·rw[jC (by simp)]
  simp
 have:=m.step hst.2.1 he
 rwa [hkey]at this
theorem qhn {ρ:List Value} {H:PH} {E:Env} {t:Nat} {x:Value} (keep:List Nat) (h:zo ρ H (qv E t) x):zo ρ H (qv (keep.map fun k=>(k,qv E k)) t) x:=by
 induction keep with
 | nil=>trivial
 | cons k l ih=>
  simp only[jk,qv];split
  ·rename_i a
   rw[← jm a]; exact h
  exact ih
theorem Sat.drop {bs:Base} {ρ:List Value} {H:PH} {E E':Env} {lo:List AObj} {a:Act} {w:World} (s:Sat bs N ρ H (qv E) lo a w) (keep:List Nat) (h:E'=keep.map fun k=>(k,qv E k)):Sat bs N ρ H (qv E') lo a w:=by
 subst h;exact{ s with slots:=fun t=>qhn keep (s.slots t) }
theorem vA.fix {f:FuncId} {args:List FV} {objs:List AObj} {m:Nat} {R:FV->List AObj->Prop}
  (h:∀ (bs:Base) (ρ:List Value) (H:PH) (w:World) (vs:List Value),bs.H0=H->bs.r0=ρ.take m->SatW bs ρ H objs w->xL ρ H args vs ->
   match (callFunc f vs.toArray).run P w with
   | .ok (.value v) w'=>∃ r a ρ' H',R r a/\PH.le H H'/\SatW bs ρ' H' a w'/\zo ρ' H' r v
   | .ok (.enter f' args') w'=>w'=w/\Calls P f' args' w fun g c=>∃ v r a ρ' H',g=.returned v/\R r a/\PH.le H H'/\SatW bs ρ' H' a c/\zo ρ' H' r v
   | _=>False):vA P f args objs m R:=by
 intro bs ρ H w vs i s j;have back:∀ {ρ':List Value} {H':PH} {a:List AObj} {w':World},SatW { bs with H0:=H } ρ' H' a w'->SatW bs ρ' H' a w':=fun s2=>by
  refine{ s2 with leH:=s.leH.trans s2.leH,newH:=fun b o u hu=>?_ }
  rcases s2.newH b o u hu with ⟨k,d⟩|h|h
  ·exact s.newH b o k d
  ·exact .inr (.inl h)
  exact .inr (.inr h)
 have:=h { bs with H0:=H } ρ H w vs rfl i { s with leH:=PH.le.refl H,newH:=(fun b o v l=>.inl ⟨v,l⟩) } j
 generalize (callFunc f vs.toArray).run P w=x at *;cases x with
 | ok n w'=>
  cases n<;>simp only at this ⊢ <;> try exact this
  ·obtain⟨r,a,ρ',H',h1,h2,h3,h4⟩:=this
   exact⟨r,a,ρ',H',h1,h2,back h3,h4⟩
  exact⟨this.1,this.2.mono fun g c ⟨v,r,a,ρ',H',e,h1,h2,h3,h4⟩=>⟨v,r,a,ρ',H',e,h1,h2,back h3,h4⟩⟩
 | halt x w'=>exact this
theorem qdc {bs:Base} {ρ:List Value} {H:PH} {E:Env} {lo:List AObj} {a:Act} {w:World} {all:List Oper} {o:Oper} {i:Nat} {inl:List Nat} {R:Env->List AObj->Prop} {K:Act->World->Prop}
  (e:all[i]? =some o) (s:Sat bs N ρ H (qv E) lo a w) (h:GY P inl N all o E lo R)
  (f:∀ (ρ':List Value) (H':PH) (E':Env) (lo':List AObj) (c:Act) (w':World),Sat bs N ρ' H' (qv E') lo' c w'->R E' lo'->(∀ b ob,Apart ρ H lo w b ob->Apart ρ' H' lo' w' b ob)->ρ <+: ρ'->PH.le H H'->K c w'):wpOp P all.toArray Q i K a w:=
 BB e s.lendB h fun E' lo' ρ' H' c w' r d=>f ρ' H' E' lo' c w' (s.backB d) r (fun b ob ap=>ap.step d.toSatW) d.pre d.leH
theorem qb1 {H H':PH}:∀ {x:List (List UInt8×Int)} {l:List MapEntry},Lr H (qH PV.str (PV.int .i64) x) l->Lr H' (qH PV.str (PV.int .i64) x) l
 | [],l,h=>h
 | (k,v)::x,l,h=>by
  simp only[qH,jk,Lr]at h ⊢;obtain⟨e,l',rfl,a,b,c⟩:=h;exact⟨e,l',rfl,a,b,qb1 (x:=x) c⟩
variable {o2 o5 o6 o15 o16 o17 o18 o2':Oper} {i0 i1 i2 i6 i7:Nat} {fs:FuncId}
theorem qc6 {f:FuncId} {fn:Func} (he:Enters P f) (hf:P.funcs[f]? =some fn) (hsort:Es P fs) (hes:Enters P fs) (kt:KeyTypes P T TS TK)
  (hb:fn.body=some (.seq (.region i0 ⟨[o2]⟩ false) (.seq (.region i1 ⟨[o3]⟩ false) (.seq (.seq (.region i2 ⟨[o5,o6]⟩ false) (.block b0 (.loop (.seq (.region i3 ⟨[o7,o8]⟩ false) (.seq (.cond (.tmp 8) .skip (.exit b0)) (.block b1 (.seq (.region i4 ⟨[o9,o10,o4]⟩ false) (.region i5 ⟨[o11,o12,o13,o14,o2']⟩ false)))))))) (.seq (.region i6 ⟨[o15,o16]⟩ false) (.seq (.region i7 ⟨[o17,o18]⟩ false) .ret))))))
  (hres:fn.results.toList=[.tmp 2]) (hN:18<=fn.ntmps) (hne:b0≠b1)
  (h2:IsOp o2 (some 2) (.assign (.const (.slice none 0 0)))) (D:IsOp o3 (some 3) (.assign (.const (.slice none 0 0)))) (h5:IsOp o5 (some 5) (.move (.tmp 0))) (h6:IsOp o6 (some 6) (.range T (.tmp 5)))
  (h7:IsOp o7 (some 7) (.next (.tmp 6) false)) (h8:IsOp o8 (some 8) (.extract (.tmp 7) 0)) (h9:IsOp o9 (some 9) (.entry (.tmp 6))) (h10:IsOp o10 (some 10) (.extract (.tmp 9) 0)) (h4:IsOp o4 (some 4) (.assign (.tmp 10)))
  (h11:IsOp o11 (some 11) (.move (.tmp 3))) (h12:IsOp o12 (some 12) (.move (.tmp 4))) (h13:IsOp o13 (some 13) (.buildSlice TS 1 ⟨[(0,.tmp 12)]⟩)) (h14:IsOp o14 (some 14) (.call { callee:=.builtin .append,args:=⟨[.tmp 11,.tmp 13]⟩,argTypes:=⟨[TS,TS]⟩ })) (h3:IsOp o2' (some 3) (.assign (.tmp 14)))
  (F:IsOp o15 (some 15) (.move (.tmp 3))) (G:∃ at_,IsOp o16 (some 16) (.call { callee:=.value (.func fs),args:=⟨[.tmp 15]⟩,argTypes:=at_ })) (J:IsOp o17 (some 17) (.move (.tmp 3))) (K:IsOp o18 (some 2) (.assign (.tmp 17)))
  (x:List (List UInt8×Int)) (hbig:x.length * 16<=140737488355328) :
  vA P f [.mref 0] [.mp .string (qH PV.str (PV.int .i64) x) none] 1 (fun v lo=>v=.p (.sl (qi (Qn (x.map fun e=>e.1))))/\lo=[.mp .string (qH PV.str (PV.int .i64) x) none]):=by
 refine vA.fix ?_;intro bs ρ0 H w vs hH0 hr0 s rl;obtain⟨v0,_,rfl,rv,rfl⟩:=rl;obtain⟨b,A,rfl⟩:=rv;rw[he];refine⟨rfl,calls_of_wp hf hb ?_⟩;obtain⟨b',ents,clock,hv,hg,hrm,⟨hst,hkey,_⟩,hHb⟩:=s.objs 0 _ _ rfl A;cases hv;obtain⟨L,hks⟩:=aw hrm;have Z:ents.size=x.length:=by
  have:=congrArg List.length L;simpa using this
 have hown:=s.own 0 _ _ b rfl A rfl rfl;have hlen:ρ0.length=1:=s.hlen;have sat0:Sat bs fn.ntmps ρ0 H (qv [(0,.mref 0)]) [.dead] { tmps:=#[.map (some b)]++Array.replicate (fn.ntmps - (#[Value.map (some b)]:Array Value).size) undef,defers:=[] } w:=by
  refine{ s.kill 0 with slots:=fun t=>?_,width:=by simp; omega,defers:=rfl }
  by_cases ht:t=0
  ·subst ht
   exact⟨b,A,by rw[jX,Array.getElem?_append_left (by simp)]; rfl⟩
  simp only[qv,qd9 ht]; trivial
 have apb0:Apart ρ0 H [.dead] w b (.map ents clock):=by
  refine⟨hg,fun k ob v h1 _ hl=>?_,hHb⟩;cases k with
  | zero=>simp at h1; subst h1; simp[AObj.live]at hl
  | succ k=>simp at h1
 have hN1:18<=fn.ntmps:=hN;refine wp_seq (wp_region ?_);show wpOps P ([o2]:List Oper).toArray _ [0] _ w;rw[wpOps_cons];refine fV rfl sat0 (di (R:=fun E m=>E=(2,.p .nilsl)::[(0,.mref 0)]/\m=[.dead]) h2.guard (by rw[h2.op]; rfl) (by rw[h2.op]; rfl) ?_) ?_
 ·rw[h2.op,h2.dst]
  simp only[Xo,Zx];refine uE (d:=2) (v:=.p .nilsl) (by omega) ?_
  first|exact⟨rfl,rfl⟩|exact⟨rfl,trivial⟩
 rintro ρ1 H1 E1 q a1 w1 s1 ⟨rfl,rfl⟩ M hpre1 hle1;simp only[wpOps];refine wp_seq (wp_region ?_);show wpOps P ([o3]:List Oper).toArray _ [0] a1 w1;rw[wpOps_cons];refine fV rfl s1 (di (R:=fun E m=>E=(3,.p .nilsl)::(2,.p .nilsl)::[(0,.mref 0)]/\m=[.dead]) D.guard (by rw[D.op]; rfl) (by rw[D.op]; rfl) ?_) ?_
 ·rw[D.op,D.dst]
  simp only[Xo,Zx];refine uE (d:=3) (v:=.p .nilsl) (by omega) ?_
  first|exact⟨rfl,rfl⟩|exact⟨rfl,trivial⟩
 rintro ρ2 H2 E2 m a2 w2 s2 ⟨rfl,rfl⟩ O hpre2 hle2;simp only[wpOps];refine wp_seq (wp_seq (wp_region ?_));show wpOps P ([o5,o6]:List Oper).toArray _ [0,1] a2 w2;rw[wpOps_cons];refine fV rfl s2 (di (R:=fun E m=>E=(5,.mref 0)::(3,.p .nilsl)::(2,.p .nilsl)::[(0,.mref 0)]/\m=[.dead]) h5.guard (by rw[h5.op]; rfl) (by rw[h5.op]; rfl) ?_) ?_
 ·rw[h5.op,h5.dst]
  exact Hn (v:=.mref 0) rfl (uE (d:=5) (by omega) ⟨rfl,rfl⟩)
 rintro ρ3 C E3 lo3 a3 c y ⟨rfl,rfl⟩ U hpre3 hle3;have apb3:=U _ _ (O _ _ (M _ _ apb0));have hpre:=hpre1.trans (hpre2.trans hpre3);have hρ3:ρ3[0]? =some (.map (some b)):=by
  obtain⟨l,rfl⟩:=hpre;rw[jB (by omega)]; exact A
 rw[wpOps_cons];obtain⟨kt1,et1,hmap⟩:=kt.map;have hev5:a3.eval (.tmp 5)=.map (some b):=by
  obtain⟨b2,h1,h2⟩:=y.slots 5;rw[hρ3]at h1;cases h1;exact h2
 refine TQ rfl h6.guard (by simp only[execOp,h6.op,hev5,kc,run_range_map c T kt1 et1 b ents clock hmap apb3.heap,kb,kd]; rfl) ?_;simp only[wpOps];have z:ρ3.length=1:=y.hlen;have sA:SatW bs ρ3 C [.dead] (c.alloc (.mapIter (some b) clock #[] clock)):=by
  refine y.toSatW.calm (H':=C) ⟨PH.le.refl _,rH y.sath _,?_,fun b o v h=>.inl ⟨v,h⟩⟩;refine⟨rfl,rfl,rfl,?_,fun k hk _=>?_⟩
  ·show c.heap.size<=(c.heap.push _).size
   rw[Array.size_push]; omega
  exact heap_alloc_old c _ hk
 have apbA:Apart ρ3 C [.dead] (c.alloc (.mapIter (some b) clock #[] clock)) b (.map ents clock):=⟨(heap_alloc_old c _ (vo apb3.heap)).trans apb3.heap,apb3.free,apb3.none⟩;have aprA:Apart ρ3 C [.dead] (c.alloc (.mapIter (some b) clock #[] clock)) c.heap.size (.mapIter (some b) clock #[] clock):=by
  refine⟨heap_alloc_new c _,fun k ob v h1 _ hl=>?_,fun i=>?_⟩
  ·cases k with
   | zero=>simp at h1; subst h1; simp[AObj.live]at hl
   | succ k=>simp at h1
  ·cases hx:C c.heap.size i with
   | none=>rfl
   | some u=>exact absurd (y.sath.lt hx) (Nat.lt_irrefl _)
 have sB:=(sA.pushDead (.pointer (some ⟨c.heap.size,0,none⟩)));have sC:SatW bs (ρ3++[.pointer (some ⟨c.heap.size,0,none⟩)]++[.slice none 0 0]) C ([.dead]++[.dead]++[.vec TK 1 (qi [])]) (c.alloc (.mapIter (some b) clock #[] clock)):=by
  refine sB.push (g:=c.heap.size+1) (.inr rfl) (fun k o' v' h1 h2 hl=>?_) (.inr ?_) (PH.le.refl _) sA.sath (fun b o v h=>.inl ⟨v,h⟩) (Keep.refl _ _) ⟨[],⟨rfl,.inl ⟨rfl,rfl⟩⟩,by simp[qi,rJ],(fun u hu=>by cases hu),(fun b hb=>by cases hb)⟩
  ·have:o'=.dead:=by
    rcases k with _|_|k<;>simp at h1<;>exact h1.symm
   subst this;simp[AObj.live]at hl
  have:=y.keep.size;omega
 have apbC:=((apbA.pushDead (by simp[z]) (.pointer (some ⟨c.heap.size,0,none⟩))));have live3:∀ {B:Nat} {ob:Obj},Apart ρ3 C [.dead] (c.alloc (.mapIter (some b) clock #[] clock)) B ob->Apart (ρ3++[.pointer (some ⟨c.heap.size,0,none⟩)]++[.slice none 0 0]) C ([.dead]++[.dead]++[.vec TK 1 (qi [])]) (c.alloc (.mapIter (some b) clock #[] clock)) B ob:=by
  intro B ob ap;refine⟨ap.heap,fun k o' v' h1 h2 hl hb=>?_,ap.none⟩;rcases k with _|_|_|k
  ·simp at h1; subst h1; simp[AObj.live]at hl
  ·simp at h1; subst h1; simp[AObj.live]at hl
  ·have:v'=.slice none 0 0:=by
    rw[jC (by simp[z])]at h2;simp[z]at h2;exact h2.symm
   subst this;cases hb
  ·simp at h1
 have satC:Sat bs fn.ntmps (ρ3++[.pointer (some ⟨c.heap.size,0,none⟩)]++[.slice none 0 0]) C (qv [(0,.mref 0),(3,.vsl 2 0),(6,.stmp 1)]) ([.dead]++[.dead]++[.vec TK 1 (qi [])]) (a3.put o6.dst (.pointer (some ⟨c.heap.size,0,none⟩))) (c.alloc (.mapIter (some b) clock #[] clock)):=by
  have hw:(a3.put o6.dst (.pointer (some ⟨c.heap.size,0,none⟩))).tmps.size=fn.ntmps:=by rw[h6.dst]; simp[Act.put,y.width]
  refine{ sC with slots:=fun t=>?_,width:=hw,defers:=by rw[h6.dst]; exact y.defers }
  have h18t:6<a3.tmps.size:=by rw[y.width]; omega
  have hget:∀ t,t≠6->(a3.put o6.dst (.pointer (some ⟨c.heap.size,0,none⟩))).tmps.getD t undef=a3.tmps.getD t undef:=fun t ht=>by
   rw[h6.dst];show(a3.tmps.setIfInBounds 6 _).getD t undef=_;rw[jX,jX,Array.getElem?_setIfInBounds_ne (Ne.symm ht)]
  by_cases h0t:t=0
  ·subst h0t
   rw[hget 0 (by omega)];obtain⟨b2,g1,g2⟩:=y.slots 0;rw[hρ3]at g1;cases g1;exact⟨b,by rw[js,jB (by omega)]; exact hρ3,g2⟩
  by_cases h3t:t=3
  ·subst h3t
   rw[hget 3 (by omega)];have g2:zo ρ3 C (.p .nilsl) (a3.tmps.getD 3 undef):=y.slots 3;simp only[zo,zn]at g2;simp only[qv,qd9 h0t];show zo _ _ (.vsl 2 0) _;refine⟨?_,.inl ⟨rfl,g2⟩⟩;rw[g2,jC (by simp[z])];simp[z]
  by_cases h6t:t=6
  ·subst h6t
   show zo _ _ (.stmp 1) _;rw[h6.dst];show(ρ3++[.pointer (some ⟨c.heap.size,0,none⟩)]++[.slice none 0 0])[1]? =some ((a3.tmps.setIfInBounds 6 _).getD 6 undef);rw[jX,Array.getElem?_setIfInBounds_self_of_lt h18t];rw[js,jC (by omega)];simp[z]
  simp only[qv,qd9 h0t,qd9 h3t,qd9 h6t]
  trivial
 have V:qco bs fn.ntmps b c.heap.size TK ents clock #[] clock (a3.put o6.dst (.pointer (some ⟨c.heap.size,0,none⟩))) (c.alloc (.mapIter (some b) clock #[] clock)):=by
  refine⟨_,C,_,2,1,[],satC,live3 apbA,live3 aprA,?_,rfl,qau.start ents,jw _⟩;rw[js,jC (by omega)];simp[z]
 have hrb:bs.S c.heap.size\/bs.w0.heap.size<=c.heap.size:=.inr y.keep.size;have hleA:PH.le H C:=hle1.trans (hle2.trans hle3);clear satC live3 apbC sC sB aprA apbA sA hev5 apb3 y s2 s1;generalize hgA:a3.put o6.dst (.pointer (some ⟨c.heap.size,0,none⟩))=a5 at V ⊢;generalize c.alloc (.mapIter (some b) clock #[] clock)=w5 at V ⊢;generalize c.heap.size=rb at V hrb ⊢;have rest:∀ (seen:Array Nat) (c0:Nat) (a:Act) (w:World),(leftOf ents seen).size=0->qco bs fn.ntmps b rb TK ents clock seen c0 a w ->
   (Code.seq (.region i6 ⟨[o15,o16]⟩ false) (.seq (.region i7 ⟨[o17,o18]⟩ false) .ret)).wp P (bodyPost P fn fun en w''=>∃ v r X ρ' H',en=.returned v/\(r=.p (.sl (qi (Qn (x.map fun e=>e.1))))/\X=[.mp .string (qH PV.str (PV.int .i64) x) none])/\PH.le H H'/\SatW bs ρ' H' X w''/\zo ρ' H' r v) a w:=by
  clear V;rintro seen c0 a w h0 ⟨ρ,H6,lo,j,r,ss,s,apb,_,_,hloj,hcoll,_⟩;obtain⟨at_,G⟩:=G;have Y:=hcoll.done h0;have hsl:ss.length=ents.size:=by have:=Y.length_eq; simpa using this
  refine wp_seq (wp_region ?_);show wpOps P ([o15,o16]:List Oper).toArray _ [0,1] a w;rw[wpOps_cons];refine fV rfl s (di (R:=fun E m=>E=(15,.vsl j ss.length)::[(0,.mref 0),(3,.vsl j ss.length),(6,.stmp r)]/\m=lo) F.guard (by rw[F.op]; rfl) (by rw[F.op]; rfl) ?_) ?_
  ·rw[F.op,F.dst]
   exact Hn (v:=.vsl j ss.length) rfl (uE (d:=15) (by omega) ⟨rfl,rfl⟩)
  rintro ρ1 H1 E1 q a1 w1 s1 ⟨rfl,rfl⟩ M _ _;rw[wpOps_cons];refine qdc (inl:=[fs]) (R:=fun E m=>E=(16,.p (.tup []))::(15,.vsl j ss.length)::[(0,.mref 0),(3,.vsl j ss.length),(6,.stmp r)]/\m=q.set j (.vec TK 1 (qi (Qn ss)))) rfl s1 ?_ ?_
  ·unfold GY
   simp only[G.op,G.guard,G.dst,DS,Nat.beq_refl];refine Bp (v:=.vsl j ss.length) rfl (by intro _ _ h; cases h) ?_;refine(fb.sort_vec hes hsort hloj (by omega)).mono fun r' lo' e=>?_;obtain⟨rfl,rfl⟩:=e;exact uE (d:=16) (by omega) ⟨rfl,rfl⟩
  rintro ρ2 H2 E2 m a2 w2 s2 ⟨rfl,rfl⟩ O _ _;simp only[wpOps];refine wp_seq (wp_region ?_);show wpOps P ([o17,o18]:List Oper).toArray _ [0,1] a2 w2;rw[wpOps_cons];refine fV rfl s2 (di (R:=fun E m=>E=(17,.vsl j ss.length)::(16,.p (.tup []))::(15,.vsl j ss.length)::[(0,.mref 0),(3,.vsl j ss.length),(6,.stmp r)]/\m=q.set j (.vec TK 1 (qi (Qn ss)))) J.guard (by rw[J.op]; rfl) (by rw[J.op]; rfl) ?_) ?_
  ·rw[J.op,J.dst]
   exact Hn (v:=.vsl j ss.length) rfl (uE (d:=17) (by omega) ⟨rfl,rfl⟩)
  rintro ρ3 C E3 lo3 a3 c y ⟨rfl,rfl⟩ U _ _;rw[wpOps_cons];refine fV rfl y (di (R:=fun E m=>E=(2,.vsl j ss.length)::(17,.vsl j ss.length)::(16,.p (.tup []))::(15,.vsl j ss.length)::[(0,.mref 0),(3,.vsl j ss.length),(6,.stmp r)]/\m=q.set j (.vec TK 1 (qi (Qn ss)))) K.guard (by rw[K.op]; rfl) (by rw[K.op]; rfl) ?_) ?_
  ·rw[K.op,K.dst]
   exact Hn (v:=.vsl j ss.length) rfl (uE (d:=2) (by omega) ⟨rfl,rfl⟩)
  rintro ρ4 H4 E4 lo4 a4 w4 s4 ⟨rfl,rfl⟩ hap4 _ _;simp only[wpOps];refine wp_ret ?_;have apb4:=hap4 _ _ (U _ _ (O _ _ (M _ _ apb)));obtain⟨p,hp,_,hrs⟩:=DE (P:=P) (fn:=fn) (x:=.ret) (R:=fun r' _=>r'=.vsl j ss.length) (E:=(2,.vsl j ss.length)::(17,.vsl j ss.length)::(16,.p (.tup []))::(15,.vsl j ss.length)::[(0,.mref 0),(3,.vsl j ss.length),(6,.stmp r)]) (lo:=q.set j (.vec TK 1 (qi (Qn ss)))) (by
   simp only[qnl,hres,iD,sR];rfl)
  subst hp;obtain⟨v,hv,rv⟩:=hrs bs fn.ntmps ρ4 H4 a4 w4 s4;have hjl:j<q.length:=(jG.1 hloj).1;have hset:(q.set j (.vec TK 1 (qi (Qn ss))))[j]? =some (AObj.vec TK 1 (qi (Qn ss))):=by simp[hjl]
  obtain⟨H5,hle5,sp,rp,hnone⟩:=s4.toSatW.publishN hset rv.1;refine⟨s4.defers,v,hv,v,_,_,ρ0,H5,rfl,⟨rfl,rfl⟩,?_,?_,?_⟩
  ·rw[← hH0]; exact sp.leH
  ·refine{ sath:=sp.sath,hlen:=hlen,pre:=by rw[hr0]; exact List.take_prefix 1 ρ0,objs:=fun k ob u h1 h2=>?_,excl:=fun k k' o o' u u' bb h1 h2 _ _ hne=>?_,own:=fun k ob u bb h1 h2 hl hb=>?_,keep:=sp.keep,leH:=sp.leH,newH:=sp.newH }
   ·cases k with
    | succ k=>simp at h1
    | zero=>
     simp at h1; subst h1;rw[A]at h2; cases h2;refine⟨b,ents,clock,rfl,apb4.heap,qb1 hrm,⟨hst,hkey,fun _ _ h=>by cases h⟩,fun o=>?_⟩
     rcases hnone b o (apb4.none o)with h|h
     ·exact h
     exact absurd h (apb4.free j _ v hset rv.1 rfl)
   ·cases k with
    | succ k=>simp at h1
    | zero=>cases k' with
     | succ k=>simp at h2
     | zero=>exact absurd rfl hne
   ·cases k with
    | succ k=>simp at h1
    | zero=>
     rw[A]at h2; cases h2;cases hb;exact hown
  rw[← L,← Sc Y];exact rp
 refine wp_block ?_;refine wp_loop_ghost (I:=fun n a w=>∃ seen c0,(leftOf ents seen).size=n/\qco bs fn.ntmps b rb TK ents clock seen c0 a w) _ ⟨#[],clock,rfl,V⟩ fun n a w ⟨seen,c0,hn,V⟩=>?_;refine qkb kt h7 h8 h9 h10 h4 h11 h12 h13 h14 h3 hN hne hrb hst hks (by rw[Z]; exact hbig) (seen:=seen) (c0:=c0) ?_ ?_ V
 ·intro seen c0 a w h0 V
  have:=rest seen c0 a w h0 V;simpa[Exit.inBlock,Exit.then]using this
 intro seen' c0' a w hlt V;exact⟨_,by rw[← hn]; exact hlt,seen',c0',rfl,V⟩
end
end Ax
end
section
open Go Go.Proofs Go.RowKit
namespace Ax
theorem qfd {bs:Base} {ρ:List Value} {H:PH} {lo:List AObj} {w w':World} (s:SatW bs ρ H lo w) {e:TypeId} {z n:Nat} {v':Value} {xs:List Value} (f:Below w.heap.size w w')
  (i:w'.ownsRow w.heap.size e z v' n xs) (h1:∀ u∈xs,u.oneCell'=true) :
  PH.le H (fx H v' xs)/\w'.ownsRow 0 e z v' n xs/\SatW bs (ρ++[v']) (fx H v' xs) (lo++[.tail e z n]) w':=by
 have q:∀ b,zy v'=some b->w.heap.size<=b:=by
  intro b f;rcases i.2 with ⟨rfl,_⟩|⟨g,cap,cur,rfl,A,_⟩
  ·simp[zy]at f
  simp[zy]at f; omega
 have v:∀ b o u,zy v'=some b->H b o=some u->False:=fun b o u f hu=>by
  have h2:=s.sath.lt hu;have h3:=q b f;omega
 have l:PH.le H (fx H v' xs):=by
  intro b o u hu;unfold fx;rw[if_neg (fun x=>v b o u x.1 hu)]
  exact hu
 have d:w'.ownsRow 0 e z v' n xs:=⟨i.1,i.2.imp id fun⟨g,cap,cur,a,b,c⟩=>⟨g,cap,cur,a,jS _,c⟩⟩;have r:∀ g,zy v'=some g->∀ o u,xs[o]? =some u->w'.cell? ⟨g,o,none⟩=some u:=by
  intro g A o u hu;have:=d.cells (g:=g) (by
   rcases d.2 with ⟨rfl,_⟩|⟨E,cap,cur,rfl,_⟩
   ·simp[zy]at A
   simpa[zy,Value.ownBlock]using A) o u hu
  rwa [Addr.add_lit,jx]at this
 have hkeep:∀ S,Keep S w w':=fun S=>⟨f.os,f.tape,f.output,f.size,fun k C _=>f.block k C⟩
 have m:SatH (fx H v' xs) w':=by
  refine⟨?_,s.sath.root.mono l⟩;intro b o u hu;unfold fx at hu;split at hu
  ·rename_i x
   exact⟨r b x.1 o u hu,h1 u (List.mem_of_getElem? hu)⟩
  obtain⟨B,hone⟩:=s.sath.cell b o u hu;refine⟨?_,hone⟩;rw[World.cell?_of_block (w:=w) (a:=⟨b,o,none⟩) (f.block b (s.sath.lt hu))];exact B
 have y:∀ ρ,UQ ρ (fx H v' xs) w' v' (.tail e z n):=by
  intro ρ;refine⟨xs,d,fun b f=>⟨fun j u hu=>?_,fun o F=>?_⟩⟩
  ·unfold fx
   rw[if_pos ⟨f,(jG.1 hu).1⟩];exact hu
  unfold fx;rw[if_neg (by rw[i.1]; omega)];cases D:H b o with
  | none=>rfl
  | some u=>exact(v b o u f D).elim
 have p:∀ b o u,fx H v' xs b o=some u->(∃ u,H b o=some u)\/zy v'=some b:=by
  intro b o u hu;unfold fx at hu;split at hu
  ·rename_i x; exact .inr x.1
  exact .inl ⟨u,hu⟩
 refine⟨l,d,?_⟩;cases t:zy v' with
 | none=>
  refine s.push (g:=w.heap.size) (.inr t) (s.fresh (jw _)) (.inr s.keep.size) l m (fun b o u hu=>?_) (hkeep _) (y _);rcases p b o u hu with h|h
  ·exact .inl h
  rw[t]at h; cases h
 | some g=>
  refine s.push (g:=g) (.inl t) (s.fresh (q g t)) (.inr (Nat.le_trans s.keep.size (q g t))) l m (fun b o u hu=>?_) (hkeep _) (y _);rcases p b o u hu with h|h
  ·exact .inl h
  rw[t]at h; exact .inr (Option.some.inj h).symm
theorem qmb (H:PH):∀ (l:List (List UInt8)),rJ H 1 (qi l) (l.map fun s=>Value.string ⟨s.toArray⟩)
 | []=>by simp[qi,rJ]
 | b::l=>by
  have:=qmb H l;unfold qi at this ⊢;simp only[jk,rJ];refine⟨rfl,[.string ⟨b.toArray⟩],l.map fun s=>Value.string ⟨s.toArray⟩,by simp,?_,this⟩
  simp[zS,zn]
theorem Fx {H:PH} {b z:Nat}:∀ {x:List (List UInt8)} {o:Nat},Qg H b z o (qi x)->∀ (j:Nat) (l:List UInt8),x[j]? =some l->H b (o+j)=some (.string ⟨l.toArray⟩)
 | [],_,_,j,l,h=>by simp at h
 | y::x,o,r,j,l,h=>by
  simp only[qi,jk,Qg]at r;obtain⟨hz,⟨vs,a,rc⟩,c⟩:=r;have hz:z=1:=by simpa using hz.symm
  subst hz;cases j with
  | zero=>
   simp only[List.getElem?_cons_zero,Option.some.injEq]at h;subst h;simp only[zS,zn]at a;obtain⟨u,d,rfl,rfl,_⟩:=a;exact rc 0 _ rfl
  | succ j=>
   have:=Fx (x:=x) c j l (by simpa using h);rw[show o+(j+1)=o+1+j from by omega];exact this
theorem eQ {P:Program} {f:FuncId} (enter:∀ vs w,(callFunc f vs).run P w=.ok (.enter f vs) w) {e:TypeId}
  (l:∀ (n c:Nat) (w:World),Calls P f #[.slice none n c] w fun d w'=>d=.returned (.slice none 0 0)/\w'=w)
  (h:∀ (a:Addr) (c:Nat) (w:World),Calls P f #[.slice (some a) 0 c] w fun d w'=>∃ v',d=.returned v'/\w'.ownsRow w.heap.size e 1 v' 0 []/\v'≠.slice none 0 0/\Below w.heap.size w w')
  (i:∀ (b off n c:Nat) (r:List ByteArray) (w:World),n<=r.length->n * 16<=140737488355328->(∀ j,j<r.length->w.cell? ⟨b,off+j,none⟩=some (.string (r.getD j ByteArray.empty))) ->
   Calls P f #[.slice (some ⟨b,off,none⟩) n c] w fun d w'=>∃ v',d=.returned v'/\w'.ownsRow w.heap.size e 1 v' n ((r.take n).map Value.string)/\v'≠.slice none 0 0/\Below w.heap.size w w')
  (x:List (List UInt8)) (g:(qi x).length * 16<=140737488355328):vA P f [.p (.sl (qi x))] [] 0 (fun v lo=>v=.tsl 0 (qi x)/\lo=[.tail e 1 (qi x).length]):=by
 intro bs ρ H w vs J s K;have y:ρ=[]:=List.eq_nil_of_length_eq_zero s.hlen;subst y;obtain⟨v,A,rfl,t,B⟩:=K;obtain rfl:A=[]:=B;have t:zn H (.sl (qi x)) v:=t;rw[enter];refine⟨rfl,?_⟩;have C:(qi x).length=x.length:=by simp[qi]
 have base:Calls P f [v].toArray w fun d w'=>∃ v',d=.returned v'/\w'.ownsRow w.heap.size e 1 v' x.length (x.map fun s=>Value.string ⟨s.toArray⟩)/\Below w.heap.size w w':=by
  simp only[zn]at t;rcases t with ⟨G,rfl|⟨a,cap,rfl⟩⟩|⟨b,o,z,cap,rfl,I,rr⟩
  ·have D:x=[]:=by cases x with|nil=>rfl|cons _ _=>cases G
   subst D;refine(l 0 0 w).mono fun d w' p=>?_;obtain⟨rfl,rfl⟩:=p;exact⟨_,rfl,⟨by simp,.inl ⟨rfl,rfl⟩⟩,Below.refl _ _⟩
  ·have D:x=[]:=by cases x with|nil=>rfl|cons _ _=>cases G
   subst D;refine(h a cap w).mono fun d w' p=>?_;obtain⟨v',rfl,k,_,m⟩:=p;exact⟨_,rfl,k,m⟩
  rw[C]at g ⊢;refine(i b o x.length cap (x.map fun s=>⟨s.toArray⟩) w (by simp) g fun j E=>?_).mono fun d w' p=>?_
  ·simp only[jl]at E
   have h2:=Fx rr j _ (jf E);rw[(s.sath.cell _ _ _ h2).1];simp[List.getD,jf E]
  obtain⟨v',rfl,k,_,m⟩:=p;refine⟨_,rfl,?_,m⟩;rw[List.take_of_length_le (by simp),jW]at k;exact k
 refine base.mono fun d w' p=>?_;obtain⟨v',rfl,k,m⟩:=p;obtain⟨q,F,L⟩:=qfd s m k (fun u hu=>by obtain⟨_,_,rfl⟩:=List.mem_map.1 hu; rfl)
 refine⟨v',.tsl 0 (qi x),[.tail e 1 (qi x).length],[v'],_,rfl,⟨rfl,rfl⟩,q,by rw[C]; exact L,rfl,ZH (qmb H x) q (by rw[C]; exact F)⟩
end Ax
end
section
open Go Go.Proofs Ax Go.RowKit
namespace W
theorem mixed:Tryz.prog.follows .mixedOrders=true:=by kernel_rfl
def np (_:Nat) (s sub:List UInt8):Option Bool:=chk (decide (s.length<4294967281)) (some (Lib.contains s sub))
set_option maxRecDepth 100000 in
theorem Gu (n:Nat):∀ (s sub:List UInt8) (r:Bool),np n s sub=some r->qb Tryz.prog 227 [.str s,.str sub] (.bool r):=by
 intro s sub r h;obtain⟨d,h⟩:=qg h;obtain rfl:=Option.some.inj h;intro H w vs a b;obtain⟨m,hm⟩:=a.root;have c:=Tryz.strings_Contains ⟨s.toArray⟩ ⟨sub.toArray⟩ m w (by rw[ByteArray.size_mk_toArray]; exact kod d) (a.cell _ _ _ hm).1;have e:vs=[.string ⟨s.toArray⟩,.string ⟨sub.toArray⟩]:=by
  simp only[zS,zn]at b;obtain⟨_,_,rfl,rfl,_,_,rfl,rfl,rfl⟩:=b;rfl
 subst e;rw[Tryz.call227];refine⟨rfl,c.mono fun e w' p=>?_⟩;obtain⟨p,rfl⟩:=p;exact⟨_,H,p,Calm.refl a,by simp[zn]⟩
theorem qe4:∀ (args:Array Value) (w:World),(callFunc 182 args).run Tryz.prog w=.ok (.enter 182 args) w:=fun _ _=>Tryz.call182 _ _
theorem NS (b:Nat) (l:List UInt8) (w:World) (p v:Value) (c:w.heap[b]? =some (.cells #[p,v] 233 (0,0))) (a:w.ownsRow 0 5 1 v l.length (Lib.byteCells l)) (d:l≠[]) :
  Calls Tryz.prog 182 #[.pointer (some ⟨b,0,none⟩)] w (MV l v w):=Any.String_exact Tryz.lays169 Tryz.Builder_Extra_169 b l w p v c a d
theorem NR:MW Tryz.prog 182 233 5:=fun b w p v c a=>Any.String_empty Tryz.lays169 Tryz.Builder_Extra_169 b w p v c a
set_option maxRecDepth 100000 in
theorem LA (x:List (List UInt8)) (a:(qi x).length * 16<=140737488355328):vA Tryz.prog 28 [.p (.sl (qi x))] [] 0 (fun v lo=>v=.tsl 0 (qi x)/\lo=[.tail 9 1 (qi x).length]):=
 eQ (fun _ _=>Tryz.call28 _ _) Tryz.slices_Clone_string_nil Tryz.slices_Clone_string_zero (fun b o n c d w h1 h2 h3=>Tryz.slices_Clone_string b o n c d w h1 h2 h3) x a
theorem qct {H:PH} {w w':World} (s:SatH H w) (h:Below w.heap.size w w'):Calm H w H w':=
 ⟨PH.le.refl H,s.block fun b _ _ a=>h.block b (s.lt a),⟨h.os,h.tape,h.output,h.size,fun k c _=>h.block k c⟩,fun _ _ v a=>.inl ⟨v,a⟩⟩
def Qv (_:Nat) (a:List (List UInt8)) (sep:List UInt8):Option (List UInt8):=
 chk (decide ((Lib.join a sep).length<=140737488355328)) (chk (decide (a.length<=140737488355328)) (some (Lib.join a sep)))
set_option maxRecDepth 100000 in
theorem Vx (n:Nat):∀ (a:List (List UInt8)) (sep r:List UInt8),Qv n a sep=some r->qb Tryz.prog 235 [.sl (qi a),.str sep] (.str r):=by
 intro a sep r h;obtain⟨h1,h⟩:=qg h;obtain⟨h2,h⟩:=qg h;obtain rfl:=Option.some.inj h;intro H w vs d t;simp only[zS]at t;obtain⟨v,_,rfl,i,u,_,rfl,y,rfl⟩:=t;simp only[zn]at i y;subst y;rw[Tryz.call235];refine⟨rfl,?_⟩;rcases i with ⟨B,i⟩|⟨b,o,z,cap,rfl,f,rr⟩
 ·have g:a=[]:=by cases a with|nil=>rfl|cons _ _=>cases B
  subst g;have go:∀ (p:Option Addr) (c:Nat),Calls Tryz.prog 235 #[.slice p 0 c,.string ⟨sep.toArray⟩] w fun e k=>∃ v H',e=.returned v/\Calm H w H' k/\zn H' (.str (Lib.join [] sep)) v:=fun p c=>
   (Tryz.strings_Join_none p c ⟨sep.toArray⟩ w).mono fun e w' q=>by obtain⟨rfl,rfl⟩:=q; exact⟨_,H,rfl,Calm.refl d,by simp[zn,Lib.join]⟩
  rcases i with rfl|⟨p,cap,rfl⟩
  ·exact go none 0
  exact go (some p) cap
 have m:(qi a).length=a.length:=by simp[qi]
 rw[m]at f ⊢;have em:(a.map fun l=>(⟨l.toArray⟩:ByteArray)).map (fun x=>x.data.toList)=a:=by rw[jW]; exact List.map_id' a
 cases g:a with
 | nil=>
  subst g;exact(Tryz.strings_Join_none (some ⟨b,o,none⟩) cap ⟨sep.toArray⟩ w).mono fun e w' q=>by obtain⟨rfl,rfl⟩:=q; exact⟨_,H,rfl,Calm.refl d,by simp[zn,Lib.join]⟩
 | cons x0 a0=>
  rw[← g];have hcells:∀ (j:Nat) x,(a.map fun l=>(⟨l.toArray⟩:ByteArray))[j]? =some x->w.cell? ⟨b,o+j,none⟩=some (.string x):=by
   intro j x A;rw[List.getElem?_map]at A;obtain⟨l,m,rfl⟩:=Option.map_eq_some_iff.1 A;exact(d.cell _ _ _ (Fx rr j l m)).1
  have s:b<w.heap.size:=d.lt (Fx rr 0 x0 (by rw[g]; rfl));have c:=Tryz.strings_Join b o cap (a.map fun l=>⟨l.toArray⟩) ⟨sep.toArray⟩ w hcells s (by rw[jl]; exact kod h2) (by rw[jl]; exact f) (by rw[em]; exact kod h1);rw[jl,em]at c;exact c.mono fun e w' p=>⟨_,H,p.1,qct d p.2,by simp[zn]⟩
theorem qnq:Es Tryz.prog 59:=⟨fun blk off cap ss w h1 h2 h3=>Tryz.slices_Sort_string blk off cap ss w h1 h2 h3,fun p cap w=>Any.slices_Sort_string_none Tryz.lays190 p cap w⟩
theorem qrp:KeyTypes Tryz.prog 77 26 9:=⟨⟨9,3,by kernel_rfl⟩,by kernel_rfl,by
 refine⟨(Tryz.prog.info? 9).get (by kernel_rfl),.string ⟨#[]⟩,(Option.some_get _).symm,by kernel_rfl,by kernel_rfl,by kernel_rfl,by kernel_rfl⟩⟩
end W
end
section
open Go Go.Proofs Ax
namespace W
abbrev SS:=List UInt8
abbrev pI (x:Int):FV:=.p (.int .i64 x)
abbrev pS (x:List UInt8):FV:=.p (.str x)
abbrev pB (x:Bool):FV:=.p (.bool x)
abbrev pT (x:List (List UInt8)):FV:=.p (.sl (qi x))
abbrev pE (x:List qe):FV:=.p (.sl (qe.rows x))
abbrev pV (x:List Val):FV:=.p (.sl (Val.rows x))
abbrev pO (x:List qS):FV:=.p (.sl (qS.rows x))
abbrev pA (x:List xM):FV:=.p (.sl (xM.rows x))
abbrev pU (x:List qj):FV:=.p (.sl (qj.rows x))
abbrev pP (x:List zx):FV:=.p (.sl (zx.rows x))
abbrev pN (x:List qt):FV:=.p (.sl (qt.rows x))
abbrev pG (x:List qy):FV:=.p (.sl (qy.rows x))
abbrev pC (x:List qd):FV:=.p (.sl (qd.rows x))
theorem zle {m n:Nat} (h:Nat.ble m n=true):m<=n:=jh h
abbrev LK (T R:Type):Type:=(T->Option R)->T->Option R
noncomputable abbrev TP:Program:=Tryz.prog
set_option maxRecDepth 100000 in
theorem zN {f:FuncId} {fn:Func} {args:List PV} {r:PV} (he:Ax.Enters Tryz.prog f) (hf:Tryz.prog.funcs[f]? =some fn) (inl:List Nat) (h:qpz Tryz.prog inl fn args (fun v=>nle v r)) (hok:qfa inl fn args.length=true:=by kernel_rfl):qb Tryz.prog f args r:=qb.of_vcN mixed he hf hok h
set_option maxRecDepth 100000 in
theorem zI {f:FuncId} {fn:Func} {args:List FV} {lo:List AObj} {R:FV->List AObj->Prop} (he:Ax.Enters Tryz.prog f) (hf:Tryz.prog.funcs[f]? =some fn) (inl:List Nat) (h:vcI Tryz.prog inl fn args lo R) (hok:qfa inl fn args.length=true:=by kernel_rfl):fb Tryz.prog f args lo R:=fb.of_vc mixed he hf hok h
set_option maxRecDepth 100000 in
theorem zO {f:FuncId} {fn:Func} {args:List FV} {objs:List AObj} {m:Nat} {R:FV->List AObj->Prop} (he:Ax.Enters Tryz.prog f) (hf:Tryz.prog.funcs[f]? =some fn) (inl:List Nat) (h:vcO Tryz.prog inl fn args objs m R) (hok:qfa inl fn args.length=true:=by kernel_rfl) (hml:m<=objs.length:=by exact zle rfl):vA Tryz.prog f args objs m R:=vA.of_vc mixed he hf hok hml h
abbrev zq0:FV:=.p (.int .i64 (0:Int))
abbrev zq1:FV:=.p (.str ([]:SS))
abbrev zq2:FV:=.p (.nilsl)
abbrev zq3:List (SS×Int):=(db ([62,61]:SS) (5:Int) (db ([62]:SS) (5:Int) (db ([60,61]:SS) (5:Int) (db ([60]:SS) (5:Int) (db ([60,62]:SS) (5:Int) (db ([61]:SS) (5:Int) (db ([65,78,68]:SS) (3:Int) (db ([88,79,82]:SS) (2:Int) (db ([79,82]:SS) (1:Int) ([]:List (SS×Int)))))))))))
abbrev zq4:List (SS×Int):=(db ([47]:SS) (7:Int) (db ([42]:SS) (7:Int) (db ([45]:SS) (6:Int) (db ([43]:SS) (6:Int) (db ([73,78]:SS) (5:Int) zq3)))))
abbrev zq5:List (SS×Int):=(db ([65,78,68]:SS) (3:Int) (db ([88,79,82]:SS) (2:Int) (db ([79,82]:SS) (1:Int) ([]:List (SS×Int)))))
abbrev zq6:AObj:=.box 54 [zq0,zq2,zq2,zq0,zq1,zq0,pB false,zq0,zq1,zq2,zq2,zq2,zq2,zq1,zq2,pB false,zq2,zq2,zq2,zq2,zq2,pB false]
abbrev zq7:AObj:=.box 125 [zq2,zq2]
abbrev zq8:List (SS×Int):=(db ([60,62]:SS) (5:Int) (db ([61]:SS) (5:Int) zq5))
abbrev zq9:List (SS×Int):=(db ([43]:SS) (6:Int) (db ([73,78]:SS) (5:Int) zq3))
end W
end
section
namespace Ax
open Go
def Dn (w:World):PH:=fun b o=>(w.cell? ⟨b,o,none⟩).bind fun v=>bif v.oneCell' then some v else none
theorem Nr {w:World} (h:∃ m,w.cell? ⟨0,0,none⟩=some (.int .i64 m)):SatH (Dn w) w where
 cell:=fun b o v c=>by
  unfold Dn at c;obtain⟨u,hu,h1⟩:=Option.bind_eq_some_iff.1 c;cases a:u.oneCell' with
  | false=>rw[a]at h1; cases h1
  | true=>rw[a]at h1; cases h1; exact⟨hu,a⟩
 root:=by
  obtain⟨m,hm⟩:=h;exact⟨m,by simp[Dn,hm,Value.oneCell']⟩
theorem qjg {w:World} {a:Addr} {v:Value} (h:w.cell? a=some v) (h1:v.oneCell'=true):Dn w a.block a.off=some v:=by
 have c:a.spot=none:=by
  unfold World.cell? at h;split at h
  ·cases b:a.spot with
   | none=>rfl
   | some s=>rw[b]at h; simp at h
  ·cases h
 have:(⟨a.block,a.off,none⟩:Addr)=a:=by cases a; simp only at c; subst c; rfl
 unfold Dn;rw[this,h];simp[h1]
theorem lk {w:World} {base:Nat} {a:Addr} {n:Nat} {cs:List Value} (h:w.cells? base a n=some cs):cs.length=n/\∀ j,j<n->w.cell? (a.add j)=cs[j]?:=by
 unfold World.cells? at h;split at h
 ·exact⟨by simpa using mapM_some_length h,fun j b=>mapM_some_get h j j (by simp[b])⟩
 cases h
section
variable {Hd:Type} {enc:TypeId×Value->Hd} {P:Program} {w:World}
def xF {α:Type} (enc:TypeId×Value->Hd) (P:Program) (w:World) (t:TypeId) (n:Nat) (row:α->List PV) (a:α->Nat) (bulk:DataW Hd->Nat):Prop:=
 ∀ (cs:List Value) (x:DataW Hd×List MemPlace),DataW.trod enc P w 0 (fun _=>true) true n t cs=some x->∃ v:α,zS (Dn w) (row v) cs/\(∀ u∈cs,u.oneCell'=true)/\a v<=bulk x.1
theorem qpt {α:Type} {H:PH} {b z:Nat} {row:α->List PV}:∀ (l:List α) (o:Nat) (a:Nat->List Value),(∀ v∈l,(row v).length=z) ->
  (∀ i v,l[i]? =some v->zS H (row v) (a i)/\∀ j u,(a i)[j]? =some u->H b (o+i * z+j)=some u)->Qg H b z o (l.map row)
 | [],_,_,_,_=>trivial
 | v::l,o,a,hz,h=>by
  simp only[jk,Qg];refine⟨hz v (by simp),⟨a 0,(h 0 v rfl).1,fun j u hu=>by have:=(h 0 v rfl).2 j u hu; simpa using this⟩,?_⟩
  refine qpt l (o+z) (fun i=>a (i+1)) (fun v d=>hz v (by simp[d])) fun i v' c=>?_
  obtain⟨h1,h2⟩:=h (i+1) v' (by simpa using c);refine⟨h1,fun j u hu=>?_⟩;have:=h2 j u hu;rw[Nat.add_mul,Nat.one_mul]at this;have e:o+(i * z+z)+j=o+z+i * z+j:=by omega
  rw[← e]; exact this
theorem RV {α:Type} [Inhabited α] {t e:TypeId} {z fuel:Nat} {row:α->List PV} {A:α->Nat} {bulk:DataW Hd->Nat} (L:P.underlying t=some (.slice e)) (hz:P.cellsOf e=z) (M:1<=z)
  (o:∀ v,(row v).length=z) (C:∀ n,n<fuel->xF enc P w e n row A bulk) {cs:List Value} {x:DataW Hd×List MemPlace} (h:DataW.trod enc P w 0 (fun _=>true) true fuel t cs=some x) :
  ∃ (l:List α) (v:Value),cs=[v]/\v.oneCell'=true/\zn (Dn w) (.sl (l.map row)) v /\
   ((x.1=.nil/\l=[])\/∃ elems rest,x.1=.slice elems rest/\l.length=elems.length/\∀ (i:Nat) (d:DataW Hd) (v:α),elems[i]? =some d->l[i]? =some v->A v<=bulk d):=by
 rcases DataW.trod_slice L h with ⟨rfl,rfl⟩|⟨a,len,cap,elems,rest,n,rfl,rfl,rfl,_,D,_,hlen,c,_,_⟩
 ·exact⟨[],_,rfl,rfl,by simp[zn],.inl ⟨rfl,rfl⟩⟩
 have K:∀ i,i<len->∃ (v:α) (cs:List Value) (d:DataW Hd×List MemPlace),elems[i]? =some d/\zS (Dn w) (row v) cs/\(∀ j u,cs[j]? =some u->Dn w a.block (a.off+i * z+j)=some u)/\A v<=bulk d.1:=by
  intro i B;have h1:=c i B;obtain⟨d,g⟩:∃ d,elems[i]? =some d:=⟨_,jf (by omega)⟩;rw[g]at h1;obtain⟨cs,k,E⟩:=Option.bind_eq_some_iff.1 h1;obtain⟨v,r,hone,F⟩:=C n (Nat.lt_succ_self n) cs d E;refine⟨v,cs,d,g,r,fun j u hu=>?_,F⟩;obtain⟨N,p⟩:=lk k;have O:j<P.cellsOf e:=by have:=(jG.1 hu).1; omega
  have h2:=p j O;rw[hu,Addr.add_add]at h2;have:=qjg h2 (hone u (List.mem_of_getElem? hu));rw[hz]at this;have eb:(a.add (i * z+j)).block=a.block:=by unfold Addr.add; split<;>rfl
  have eo:(a.add (i * z+j)).off=a.off+i * z+j:=by unfold Addr.add; split<;>(try simp only)<;>omega
  rw[eb,eo]at this;exact this
 have spot:len≠0->a.spot=none:=by
  intro G;have h1:=c 0 (by omega);obtain⟨d,g⟩:∃ d,elems[0]? =some d:=⟨_,jf (by omega)⟩;rw[g]at h1;obtain⟨cs,k,_⟩:=Option.bind_eq_some_iff.1 h1;obtain⟨N,p⟩:=lk k;have h2:=p 0 (by omega);rw[Nat.zero_mul,Addr.add_zero',Addr.add_zero']at h2;cases hu:cs[0]? with
  | none=>have:=List.getElem?_eq_none_iff.1 hu; omega
  | some u=>
   rw[hu]at h2;unfold World.cell? at h2;split at h2
   ·cases H:a.spot with
    | none=>rfl
    | some s=>rw[H]at h2; simp at h2
   ·cases h2
 let f:Nat->α:=fun i=>if h:i<len then(K i h).choose else default
 have I:∀ i,i<len->∃ (cs:List Value) (d:DataW Hd×List MemPlace),elems[i]? =some d/\zS (Dn w) (row (f i)) cs/\(∀ j u,cs[j]? =some u->Dn w a.block (a.off+i * z+j)=some u)/\A (f i)<=bulk d.1:=by
  intro i B;have:=(K i B).choose_spec;simp only[f,B,dif_pos];exact this
 refine⟨(List.range len).map f,_,rfl,rfl,?_,.inr ⟨_,_,rfl,by simp[hlen],fun i d v g q=>?_⟩⟩
 ·simp only[zn,jl,List.length_range]
  by_cases G:len=0
  ·subst G
   exact .inl ⟨rfl,.inr ⟨_,_,rfl⟩⟩
  refine .inr ⟨a.block,a.off,z,cap,?_,D,?_⟩
  ·have:=spot G
   cases a;simp only at this;subst this;rfl
  refine qpt ((List.range len).map f) a.off (fun i=>if h:i<len then(I i h).choose else[]) (fun v _=>o v) fun i v q=>?_
  simp only[List.getElem?_map,Option.map_eq_some_iff]at q;obtain⟨Q,m,rfl⟩:=q;obtain⟨b,e⟩:=jG.1 m;simp at b e;subst e;obtain⟨d,g,R,p,_⟩:=(I i b).choose_spec;simp only[b,dif_pos];exact⟨R,p⟩
 simp only[List.getElem?_map,Option.map_eq_some_iff]at q g;obtain⟨Q,m,rfl⟩:=q;obtain⟨b,e⟩:=jG.1 m;simp at b e;subst e;obtain⟨S,J,rfl⟩:=g;obtain⟨_,d2,y,_,_,F⟩:=I i b;rw[J]at y;cases y;exact F
end
end Ax
end
section
namespace Ax
open Go Go.RowKit Go.ChangeShapes Go.WideShapes Go.ChangeAt
section
variable {H:Type} {enc:TypeId×Value->H} {P:Program}
theorem DJ (g:laidOutB P=true) {W i:World} {sp:Nat->Bool} (j:Below W.heap.size W i):∀ {e:List TypeId} {vs:List Value} {k:List (DataW H)} {f:List MemPlace},
  (e.all fun t=>P.readableRec t&&decide (t<P.types.size))=true->DataW.TrodAll enc P W 0 (fun _=>true) true e vs k f->(∀ p∈f,p.block<W.heap.size)->(∀ p∈f,sp p.block=true) ->
  DataW.TrodAll enc P i 0 sp true e vs k f
 | [],_,_,_,_,h,_,_=>by
  obtain⟨rfl,rfl,rfl⟩:=trodAll_nil h;exact trodAll_mk0
 | t::e,_,_,_,hr,h,hlt,hs=>by
  obtain⟨v,l,d,m,a,b,rfl,rfl,rfl,h1,h2⟩:=trodAll_cons h;simp only[List.all_cons,ji,kde]at hr;exact⟨a,b,WideElems.Trod_stays g hr.1.1 hr.1.2 h1 (fun x c=>j.same (hlt x (List.mem_append_left _ c))) (fun x c=>hs x (List.mem_append_left _ c)),
   DJ g j hr.2 h2 (fun x c=>hlt x (List.mem_append_right _ c)) (fun x c=>hs x (List.mem_append_right _ c)),rfl⟩
theorem TT {f:Func} {s:ChangeSpec} {apart fresh a d:Bool} {W h:World} {args:Array Value} {e gs:List (DataW H)} {before:List MemPlace} {tb:TypeId} (y:laidOutB P=true)
  (z:(f.params.toList.all fun t=>P.readableRec t&&decide (t<P.types.size))=true) (n:DataW.Whole enc P f.params.toList s.vars apart W args.toList e gs before) (r:Below W.heap.size W h) (hvars:s.vars=[])
  (g:s.fn H (e++gs)={ results:=[.lit (.bool true)],args:=e }) (i:f.resultTypes = #[tb]) (hbool:P.underlying tb=some .bool):s.post enc P f apart fresh a d W args (.bool true) h:=by
 have j:∀ p∈before,p.block<W.heap.size:=fun p hp=>by simpa using n.lt p hp
 have k:∀ p∈before,(fun b=>decide (b<W.heap.size)) p.block=true:=fun p hp=>by simpa using n.lt p hp
 have u:=n;obtain⟨p,q,A,v,rfl,hz,B⟩:=u;have C:q=[]/\gs=[]:=by
  rw[hvars]at v;obtain⟨h1,h2⟩:=trodVars_none v;exact⟨by first|exact h2|exact h1,by first|exact h1|exact h2⟩
 obtain⟨rfl,rfl⟩:=C;simp only[List.append_nil]at *;have hargs:∀ sp:Nat->Bool,(∀ x∈p,sp x.block=true)->DataW.TrodAll enc P h 0 sp true f.params.toList args.toList e p:=fun sp D=>DJ y r z A j D
 have c:∀ (b:Nat) (sp:Nat->Bool) (w:Bool),DataW.TrodAll enc P h b sp w f.resultTypes.toList ((Value.bool true).resultList f.resultTypes.size) (s.fn H e).results []:=by
  intro b sp w;rw[i,g];exact trodAll_cons_mk (shut_bool hbool _) trodAll_mk0
 have l:∀ sp:Nat->Bool,DataW.TrodVars enc P h sp s.vars (s.fn H e).vars []:=by
  intro sp;rw[hvars,g];rfl
 refine⟨e,[],p,[],p,[],n,?_,?_,?_,World.keptBut_mono (fun x o=>⟨o,Or.inr (Or.inl o)⟩) (r.frame _),fun _=>?_⟩
 ·simpa using c _ _ _
 ·simp only[List.append_nil]; rw[g]; exact hargs _ k
 ·simpa using l _
 refine⟨?_,_,_,([]++p)++[],⟨[]++p,[],trodAll_append (hargs _ (fun _ _=>rfl)) (c _ _ _),l _,rfl,?_,?_⟩,?_⟩
 ·exact ok_one i rfl (okWide_bool_mk hbool _)
 ·intro b off hp
  have m:MemPlace.cell b off∈p:=by simpa using hp
  rw[r.frozen (p:=⟨b,off,none⟩) (j _ m)];exact hz b off m
 ·intro E
  simpa using B E
 intro x o _;simpa using o
end
end Ax
end
section
namespace Ax
open Go Go.RowKit
theorem qb.calls {P:Program} {f:FuncId} {args:List PV} {r:PV} (h:qb P f args r) (he:Enters P f) {H:PH} {w:World} {vs:List Value} (a:SatH H w) (b:zS H args vs) :
  Calls P f vs.toArray w fun e w'=>∃ v H',e=.returned v/\Calm H w H' w'/\zn H' r v:=by
 have:=h H w vs a b;rw[he]at this;exact this.2
theorem Calm.below {H H':PH} {w w':World} (c:Calm H w H' w'):Below w.heap.size w w':=
 ⟨c.keep.os,c.keep.tape,c.keep.output,c.keep.size,fun k a=>c.keep.block k a id⟩
end Ax
end
section
namespace Ax
open Go
end Ax
end
section
namespace Ax
open Go
structure XP where
 P:Program
 inl:List Nat
 N:Nat
 cal:FuncId->List PV->Option PV
 cali:FuncId->List FV->Arr->Option (FV×Arr)
structure XP.Ok (X:XP):Prop where
 kn:qon X.P X.cal
 cali:∀ f vs arr r arr',X.cali f vs arr=some (r,arr')->fb X.P f vs arr.toL (fun a b=>a=r/\b=arr'.toL)
section
variable {β:Type}
def qkw (X:XP) (n0:Nat) (f:FuncId) (vs:List FV) (arr:Arr) (K:FV->Arr->Option β):Option β:=
 match X.cali f vs arr with
 | some (r,arr)=>xif (Nat.ble n0 arr.size) (K r arr)
 | none=>none
def xPl (X:XP) (m:Bool) (n0:Nat) (o:Oper) (g:G) (a:Tr FV) (arr:Arr) (K:Tr FV->Arr->Option β):Option β:=NZ X.P X.inl X.N X.cal m n0 o g a arr K
def qec (X:XP) (d m:Bool) (n0:Nat) (o:Oper) (g:G) (c:Tr FV) (arr:Arr) (K:Tr FV->Arr->Option β):Option β:=
 match o.op with
 | .call { callee:=.value (.func f),args:=⟨xs⟩,argTypes:=_ }=>match DS X.inl f with
  | true=>(match g with
   | none=>xif (!d||!DS X.inl (86000000+f)) (xvL (xE c) xs fun vs=>qkw X n0 f vs arr fun r arr=>iE X.N o.dst r c fun c=>K c arr)
   | some b=>xif (!d) (xif b (xvL (xE c) xs fun vs=>qkw X n0 f vs arr fun r arr=>iE X.N o.dst (.opt true r) c fun c=>K c arr)))
  | false=>xPl X m n0 o g c arr K
 | .call { callee:=.builtin .len,args:=⟨[x]⟩,argTypes:=⟨[_]⟩ }=>match evF (xE c) x with
   | .mref _=>none
   | _=>xPl X m n0 o g c arr K
 | .buildSlice _ _ ⟨_⟩=>xif (!eh X.inl o.dst) (xPl X m n0 o g c arr K)
 | .convert _ _ _=>xif (!eh X.inl o.dst) (xPl X m n0 o g c arr K)
 | .alloc _=>xif (!eh X.inl o.dst) (xPl X m n0 o g c arr K)
 | .store _ (.tmp a) _=>xif (!d||!DS X.inl (50000000+a)) (xPl X m n0 o g c arr K)
 | .load _ x=>match evF (xE c) x with
  | .eptr _ _ _ _=>none
  | _=>xPl X m n0 o g c arr K
 | op=>match g with
  | none=>xif (qky X.inl o.dst op) (xPl X m n0 o none c arr K)
  | some g=>xPl X m n0 o (some g) c arr K
def qk4 (X:XP) (d m:Bool) (n0:Nat) (o:Oper) (g:G) (e:Tr FV) (arr:Arr) (K:Tr FV->Arr->Option β):Option β:=
 match o.op with
 | .move x=>qij (match g with|none=>true|some _=>false) (xE e) x fun v=>iE X.N o.dst (mj g v) e fun e=>K e arr
 | .assign x=>qij (match g with|none=>true|some _=>false) (xE e) x fun v=>iE X.N o.dst (mj g v) e fun e=>K e arr
 | .pick c a b=>qkz (xE e) c a b fun v=>iE X.N o.dst (mj g v) e fun e=>K e arr
 | .fieldAddr t x f=>xv (xE e) x fun x=>ik X.P t x f fun v=>iE X.N o.dst (mj g v) e fun e=>K e arr
 | .indexAddr t x i=>xv (xE e) x fun x=>xv (xE e) i fun i=>il X.P t x i fun v=>iE X.N o.dst (mj g v) e fun e=>K e arr
 | .index t x i=>xv (xE e) x fun x=>xv (xE e) i fun i=>qcb X.P t x i fun v=>iE X.N o.dst (mj g v) e fun e=>K e arr
 | .binOp op t x y _=>xv (xE e) x fun x=>xv (xE e) y fun y=>qqf X.P op t x y fun v=>iE X.N o.dst (mj g v) e fun e=>K e arr
 | .extract x i=>qn0 (xE e) x i fun v=>iE X.N o.dst (mj g v) e fun e=>K e arr
 | .load t x=>(match evF (xE e) x with
  | .eptr _ _ _ _=>none
  | _=>xv (xE e) x fun x=>xif (qn9 X.inl m n0 x) (qia X.P t arr x fun v=>iE X.N o.dst (mj g v) e fun e=>K e arr))
 | _=>qec X d m n0 o g e arr K
theorem ir {X:XP} {d m:Bool} {n0:Nat} {o:Oper} {g:G} {b:Tr FV} {arr:Arr} {K:Tr FV->Arr->Option β}:qk4 X d m n0 o g b arr K=qec X d m n0 o g b arr K:=by
 unfold qk4;split
 case h_9=>
  rename_i t x a;split
  ·rename_i e
   unfold qec;simp only[a,e]
  rename_i c;unfold qec;simp only[a];simp only[xPl,NZ,a,XM]
 case h_10=>rfl
 all_goals
  rename_i a;unfold qec;simp only[a];cases g<;>simp only[xPl,NZ,a,XM,QY,qk1,qky,xif]
theorem ig {X:XP} (ok:X.Ok) {n0:Nat} {f:FuncId} {vs:List FV} {arr:Arr} {K:FV->Arr->Option β} {z:β} (h:qkw X n0 f vs arr K=some z) :
  ∃ r arr',K r arr'=some z/\fb X.P f vs arr.toL (fun a b=>a=r/\b=arr'.toL)/\∀ R:Prop,R->leK n0 arr'.toL R:=by
 unfold qkw at h;split at h
 ·rename_i r arr' c
  obtain⟨d,h⟩:=uw h;refine⟨r,arr',h,ok.cali _ _ _ _ _ c,fun R r=>?_⟩;unfold leK;split
  ·exact r
  refine EJ ?_;rw[jx,Arr.len,d];exact r
 cases h
theorem ED {o:Oper} {b:Bool} (h:o.guard=none↔some b=(none:G)):∃ x,o.guard=some x:=by
 cases a:o.guard with
 | none=>have:=h.1 a; cases this
 | some x=>exact⟨x,rfl⟩
theorem qk5 {X:XP} (ok:X.Ok) {all:List Oper} {o:Oper} {g:G} {q:Tr FV} {arr:Arr} {K:Tr FV->Arr->Option β} {z:β} {E:Env}
  (i:qv E=xE q) (w:gOn g) (d:o.guard=none↔g=none) (j:∀ R:G->Prop,R g->QX all o E R) (h:qec X false false 0 o g q arr K=some z) :
  ∃ tr' arr',K tr' arr'=some z/\∀ R,Rx tr' arr' R->GY X.P X.inl X.N all o E arr.toL R:=by
 have plain:∀ {b:Bool} {p:(Env->List AObj->Prop)->Prop},xif b (xPl X false 0 o g q arr K)=some z->(b=true->∀ R,BC X.P X.N all o E arr.toL R->p R)->∃ tr' arr',K tr' arr'=some z/\∀ R,Rx tr' arr' R->p R:=fun h f=>by
  obtain⟨n,h⟩:=uw h;obtain⟨tr',arr',h,s⟩:=Pa ok.kn i w j h;exact⟨tr',arr',h,fun R r=>f n R (s R r).1⟩
 unfold qec at h;split at h
 ·rename_i f xs H c
  split at h
  ·rename_i hm
   split at h
   ·have k:=d.2 rfl
    rw[← i]at h;obtain⟨_,h⟩:=uw h;obtain⟨vs,h,l⟩:=aZ (g:=none) _ _ h;obtain⟨r,arr',h,u,_⟩:=ig ok h;obtain⟨tr',h,_,_,hp⟩:=Qp i h;refine⟨tr',arr',h,fun R rr=>?_⟩;unfold GY;simp only[c,hm,k];exact l _ (u.mono fun a b e=>by obtain⟨rfl,rfl⟩:=e; exact hp _ rr)
   rename_i b;obtain⟨_,h⟩:=uw h;obtain⟨n,h⟩:=uw h;subst n;obtain⟨x,m⟩:=ED d;rw[← i]at h;obtain⟨vs,h,l⟩:=aZ (g:=some true) _ _ h;obtain⟨r,arr',h,u,_⟩:=ig ok h;obtain⟨tr',h,_,_,hp⟩:=Qp i h;refine⟨tr',arr',h,fun R rr=>?_⟩;unfold GY;simp only[c,hm,m];refine j _ ⟨fun _=>?_,fun e=>by cases e⟩
   exact l _ (u.mono fun a b e=>by obtain⟨rfl,rfl⟩:=e; exact hp _ rr)
  rename_i hm;exact plain (b:=true) h fun _ R r=>by unfold GY; simp only[c,hm]; exact r
 ·rename_i x t c
  split at h
  ·cases h
  exact plain (b:=true) h fun _ R r=>by unfold GY; simp only[c,Zx,i]; exact r
 ·rename_i c
  exact plain h fun hm R r=>by unfold GY; simp only[Bool.not_eq_true']at hm; simp only[c,hm]; exact r
 ·rename_i c
  exact plain h fun hm R r=>by unfold GY; simp only[Bool.not_eq_true']at hm; simp only[c,hm]; exact r
 ·rename_i c
  exact plain h fun hm R r=>by unfold GY; simp only[Bool.not_eq_true']at hm; simp only[c,hm]; exact r
 ·rename_i c
  refine plain h fun _ R r=>?_;unfold GY;simp only[c];split
  ·simp only[Nw]; exact r
  exact r
 ·rename_i t x c
  split at h
  ·cases h
  obtain⟨tr',arr',h,s⟩:=Pa ok.kn i w j h;refine⟨tr',arr',h,fun R r=>?_⟩;have n:=(s R r).2 t x c fun lo'=>BC X.P X.N all o E lo' R
  unfold GY;simp only[c,Zx,i]at n ⊢;exact n
 rename_i y A B C D I F;have go:∀ (R:Env->List AObj->Prop),(match o.guard with
   | none=>Nw X.P X.inl o.dst o.op E arr.toL (BC X.P X.N all o E arr.toL R) fun v lo=>putK X.N o.dst v E fun E=>R E lo
   | some _=>BC X.P X.N all o E arr.toL R)->GY X.P X.inl X.N all o E arr.toL R:=by
  intro R r;unfold GY;split
  ·rename_i e; exact(y _ _ _ e).elim
  ·rename_i e; exact(A _ _ e).elim
  ·rename_i e; exact(B _ _ _ e).elim
  ·rename_i e; exact(C _ _ _ e).elim
  ·rename_i e; exact(D _ e).elim
  ·rename_i e; exact(F _ _ e).elim
  exact r
 split at h
 ·have k:=d.2 rfl
  refine plain h fun hm R r=>go R ?_
  simp only[k];exact qcc hm r
 obtain⟨x,m⟩:=ED d;exact plain (b:=true) h fun _ R r=>go R (by simp only[m]; exact r)
theorem qce {X:XP} (ok:X.Ok) {m:Bool} {n0:Nat} {all:List Oper} {o:Oper} {g:G} {k:Tr FV} {arr:Arr} {K:Tr FV->Arr->Option β} {z:β} {E:Env}
  (i:qv E=xE k) (u:gOn g) (c:o.guard=none↔g=none) (l:∀ R:G->Prop,R g->QX all o E R) (h:qec X true m n0 o g k arr K=some z) :
  ∃ tr' arr',K tr' arr'=some z/\∀ R,Rx tr' arr' R->DL X.P X.inl m n0 X.N all o E arr.toL R:=by
 have plain:∀ {b:Bool} {p:(Env->List AObj->Prop)->Prop},xif b (xPl X m n0 o g k arr K)=some z->(b=true->∀ R,DN X.P X.inl m n0 X.N all o E arr.toL R->p R)->∃ tr' arr',K tr' arr'=some z/\∀ R,Rx tr' arr' R->p R:=fun h f=>by
  obtain⟨j,h⟩:=uw h;obtain⟨tr',arr',h,w⟩:=qdy ok.kn i u l h;exact⟨tr',arr',h,fun R r=>f j R (w R r)⟩
 unfold qec at h;split at h
 ·rename_i f xs J a
  split at h
  ·rename_i hm
   split at h
   ·have d:=c.2 rfl
    rw[← i]at h;obtain⟨j,h⟩:=uw h;simp only[jp,Bool.false_or,Bool.not_eq_true']at j;obtain⟨vs,h,n⟩:=aZ (g:=none) _ _ h;obtain⟨r,arr',h,y,q⟩:=ig ok h;obtain⟨tr',h,_,_,hp⟩:=Qp i h;refine⟨tr',arr',h,fun R rr=>?_⟩;unfold DL;simp only[a,hm,d,j];exact n _ ⟨r,_,y,q _ (hp _ rr)⟩
   obtain⟨A,h⟩:=uw h;cases A
  ·rename_i hm
   exact plain (b:=true) h fun _ R r=>by unfold DL; simp only[a,hm]; exact r
 ·rename_i x t a
  split at h
  ·cases h
  refine plain (b:=true) h fun _ R r=>?_;unfold DL;simp only[a];split
  ·simp only[Nw]; exact r
  exact r
 ·rename_i a
  exact plain h fun hm R r=>by unfold DL; simp only[Bool.not_eq_true']at hm; simp only[a,hm]; exact r
 ·rename_i a
  exact plain h fun hm R r=>by unfold DL; simp only[Bool.not_eq_true']at hm; simp only[a,hm]; exact r
 ·rename_i a
  exact plain h fun hm R r=>by unfold DL; simp only[Bool.not_eq_true']at hm; simp only[a,hm]; exact r
 ·rename_i a
  exact plain h fun hm R r=>by unfold DL; simp only[jp,Bool.false_or,Bool.not_eq_true']at hm; simp only[a,hm]; exact r
 ·rename_i t x a
  split at h
  ·cases h
  exact plain (b:=true) h fun _ R r=>by unfold DL; simp only[a,Zx,i]; exact r
 rename_i B L C D F H I;have go:∀ (R:Env->List AObj->Prop),(match o.guard with
   | none=>Nw X.P X.inl o.dst o.op E arr.toL (DN X.P X.inl m n0 X.N all o E arr.toL R) fun v lo=>putK X.N o.dst v E fun E=>R E lo
   | some _=>DN X.P X.inl m n0 X.N all o E arr.toL R)->DL X.P X.inl m n0 X.N all o E arr.toL R:=by
  intro R r;unfold DL;split
  ·rename_i e; exact(B _ _ _ e).elim
  ·rename_i e; exact(C _ _ _ e).elim
  ·rename_i e; exact(F _ e).elim
  ·rename_i e; exact(D _ _ _ e).elim
  ·rename_i e; exact(H _ _ _ e).elim
  ·rename_i e; exact(I _ _ e).elim
  exact r
 split at h
 ·have d:=c.2 rfl
  refine plain h fun hm R r=>go R ?_
  simp only[d];exact qcc hm r
 obtain⟨x,s⟩:=ED c;exact plain (b:=true) h fun _ R r=>go R (by simp only[s]; exact r)
end
end Ax
end
section
namespace Ax
open Go
def aS (X:XP) (d m:Bool) (n0:Nat) (all:List Oper):List Oper->Tr FV->Arr->Option (Tr FV×Arr)
 | [],a,arr=>some (a,arr)
 | o::l,a,arr=>qih all o (xE a) fun g=>match g with
  | none=>qk4 X d m n0 o none a arr fun a arr=>aS X d m n0 all l a arr
  | some b=>match b with
   | true=>qk4 X d m n0 o (some true) a arr fun a arr=>aS X d m n0 all l a arr
   | false=>xif (match d with|false=>!QY o.op|true=>!bn X.inl o) (iE X.N o.dst (.opt false (.p (.bool false))) a fun a=>aS X d m n0 all l a arr)
theorem tO.skip {P:Program} {inl sl:List Nat} {m:Bool} {n0 N:Nat} {ops:Array Oper} {o:Oper} {e:Nat->FV} {lo:List AObj} {v:FV} (b:fR ops o e (some false)) (he:bn inl o=false) (c:∀ d,o.dst=some d->d<N) :
  tO P inl sl m n0 N ops o e lo (upd e o.dst (.opt false v)) lo:=by
 refine⟨some false,v,b,c,rfl,?_⟩;have sem:∀ lo,du P o e lo (some false) v lo:=fun lo h=>by cases h
 cases f:XM o.op with
 | true=>exact .inr (.inl ⟨he,rfl,rfl,sem lo,fun _ _=>⟨none,fun k ob e=>(by cases e),fun a _=>sem a⟩⟩)
 | false=>exact .inr (.inr ⟨he,rfl,rfl,sem⟩)
section
variable {X:XP} {Q:Exit->Act->World->Prop}
theorem NY (ok:X.Ok) {bs:Base} {all:List Oper} {tr':Tr FV} {arr':Arr} (r:∀ ρ H E a w,qv E=xE tr'->Sat bs X.N ρ H (qv E) arr'.toL a w->Q .normal a w) :
  ∀ (l:List Oper) (k:Nat),(∀ j,l[j]? =all[k+j]?)->∀ (ρ:List Value) (H:PH) (E:Env) (n:Tr FV) (arr:Arr) (a:Act) (w:World),qv E=xE n->Sat bs X.N ρ H (qv E) arr.toL a w->aS X false false 0 all l n arr=some (tr',arr') ->
   wpOps X.P all.toArray Q (List.range' k l.length) a w
 | [],k,_,ρ,H,E,n,arr,a,w,hE,s,h=>by
  simp only[List.length_nil,List.range'_zero,wpOps];cases h;exact r ρ H E a w hE s
 | o::l,k,hl,ρ,H,E,n,arr,a,w,hE,s,h=>by
  rw[List.length_cons,List.range'_succ,wpOps_cons];have D:all[k]? =some o:=by have:=hl 0; simpa using this.symm
  have q:∀ j,l[j]? =all[k+1+j]?:=fun j=>by have:=hl (j+1); simpa[Nat.add_assoc,Nat.add_comm 1 j]using this
  simp only[aS,ir]at h;rw[← hE]at h;obtain⟨g,h,t,u,x⟩:=Pc h;have run:gOn g->qec X false false 0 o g n arr (fun n arr=>aS X false false 0 all l n arr)=some (tr',arr')->wpOp X.P all.toArray Q k (fun a w=>wpOps X.P all.toArray Q (List.range' (k+1) l.length) a w) a w:=by
   intro y h;obtain⟨f,i,h,z⟩:=qk5 ok hE y u x h;refine BB (R:=fun E' lo'=>qv E'=xE f/\lo'=i.toL) (by simpa using D) s (z _ fun E' e=>⟨e,rfl⟩) fun E' lo' ρ' H' A w' z B=>?_
   obtain⟨C,rfl⟩:=z;exact NY ok r l (k+1) q ρ' H' E' f i A w' C B h
  split at h
  ·exact run trivial h
  rename_i b;split at h
  ·exact run rfl h
  obtain⟨he,h⟩:=uw h;simp only[Bool.not_eq_true']at he;rw[← VD]at he;obtain⟨f,h,C,F,_⟩:=Qp hE h;have st:tO X.P [] [] false 0 X.N all.toArray o (qv E) arr.toL (qv (match o.dst with|some d=>(d,.opt false (.p (.bool false)))::E|none=>E)) arr.toL:=by
   have:=tO.skip (P:=X.P) (inl:=[]) (sl:=[]) (m:=false) (n0:=0) (N:=X.N) (lo:=arr.toL) (v:=.p (.bool false)) t he F;cases c:o.dst with
   | none=>rw[c]at this; exact this
   | some d=>rw[c]at this; simp only[bo]; exact this
  refine st.wp (by simpa using D) s fun ρ' H' A w' B=>?_;refine NY ok r l (k+1) q ρ' H' _ f arr A w' ?_ B h;rw[C,← hE];cases c:o.dst with
  | none=>rfl
  | some d=>simp only[bo]
theorem aT (ok:X.Ok) {m:Bool} {n0:Nat} (n:m=false->n0=0) {all:List Oper} {tr':Tr FV} {arr':Arr} :
  ∀ (l:List Oper) (k:Nat) (listed:Array Bool) (E:Env) (i:Tr FV) (arr:Arr),(∀ j,l[j]? =all[k+j]?)->Mb all.toArray listed->(m=true->n0<=arr.toL.length) ->
  Region.lexFrom .any all.toArray l.length k listed=true->Region.effFrom X.inl m all.toArray l.length k listed=true->qv E=xE i->aS X true m n0 all l i arr=some (tr',arr') ->
  qlh X.P X.inl m n0 X.N all.toArray (fun e lo=>e=xE tr'/\lo=arr'.toL) l.length listed (qv E) arr.toL
 | [],_,_,E,i,arr,_,_,_,hB,_,hE,h=>by
  cases h;exact⟨by simpa[Region.lexFrom]using hB,hE,rfl⟩
 | o::l,k,listed,E,i,arr,hl,hcl,hn,hB,hF,hE,h=>by
  have t:all.toArray[k]? =some o:=by have:=hl 0; simpa using this.symm
  have u:∀ j,l[j]? =all[k+1+j]?:=fun j=>by have:=hl (j+1); simpa[Nat.add_assoc,Nat.add_comm 1 j]using this
  simp only[List.length_cons,Region.lexFrom,Region.effFrom,ji]at hB hF;obtain⟨⟨F,H⟩,w⟩:=hB;simp only[aS,ir]at h;rw[← hE]at h;obtain⟨g,h,x,y,z⟩:=Pc h;have fin:∀ {E':Env} {c:Tr FV} {a:Arr},tO X.P X.inl X.inl m n0 X.N all.toArray o (qv E) arr.toL (qv E') a.toL->qv E'=xE c->aS X true m n0 all l c a=some (tr',arr') ->
    qlh X.P X.inl m n0 X.N all.toArray (fun e lo=>e=xE tr'/\lo=arr'.toL) (l.length+1) listed (qv E) arr.toL:=by
   intro E' c a st q h;refine Rw t l.length listed (qv E) (qv E') arr.toL a.toL (fun j oj G r s A B=>⟨Region.free_spec t H j oj G r s A,Hm t hF.1 j oj G r s B⟩) hcl hn (by simpa using F) st ?_;exact aT ok n l (k+1) _ E' c a u (hcl.set (by simpa using F)) (st.grow hn) w hF.2 q h
  have run:gOn g->qec X true m n0 o g i arr (fun i arr=>aS X true m n0 all l i arr)=some (tr',arr')->qlh X.P X.inl m n0 X.N all.toArray (fun e lo=>e=xE tr'/\lo=arr'.toL) (l.length+1) listed (qv E) arr.toL:=by
   intro C h;obtain⟨c,a,h,D⟩:=qce ok hE C y z h;obtain⟨E',lo',st,q,rfl⟩:=Ha (R:=fun E' lo'=>qv E'=xE c/\lo'=a.toL) n (D _ fun E' e=>⟨e,rfl⟩)
   exact fin st q h
  split at h
  ·exact run trivial h
  rename_i b;split at h
  ·exact run rfl h
  obtain⟨he,h⟩:=uw h;simp only[Bool.not_eq_true']at he;obtain⟨c,h,q,I,_⟩:=Qp hE h;have st:tO X.P X.inl X.inl m n0 X.N all.toArray o (qv E) arr.toL (qv (match o.dst with|some d=>(d,.opt false (.p (.bool false)))::E|none=>E)) arr.toL:=by
   have:=tO.skip (P:=X.P) (inl:=X.inl) (sl:=X.inl) (m:=m) (n0:=n0) (N:=X.N) (lo:=arr.toL) (v:=.p (.bool false)) x he I;cases f:o.dst with
   | none=>rw[f]at this; exact this
   | some d=>rw[f]at this; simp only[bo]; exact this
  refine fin st ?_ h;rw[q,← hE];cases f:o.dst with
  | none=>rfl
  | some d=>simp only[bo]
end
def qkx (f:Tr FV->Arr->Option (AX×Tr FV×Arr)):Nat->Tr FV->Arr->Option (AX×Tr FV×Arr)
 | 0,_,_=>none
 | n+1,tr,arr=>match f tr arr with
  | some (x,tr,arr)=>(match x with
   | .normal=>qkx f n tr arr
   | .exit i=>some (.exit i,tr,arr)
   | .ret=>some (.ret,tr,arr))
  | none=>none
def Co (X:XP) (lf:Nat):Code->Tr FV->Arr->Option (AX×Tr FV×Arr)
 | .skip,f,arr=>some (.normal,f,arr)
 | .seq a b,f,arr=>match Co X lf a f arr with
  | some (x,f,arr)=>(match x with
   | .normal=>Co X lf b f arr
   | .exit i=>some (.exit i,f,arr)
   | .ret=>some (.ret,f,arr))
  | none=>none
 | .cond c t e,f,arr=>match evF (xE f) c with
  | .p (.bool b)=>(match b with
   | true=>Co X lf t f arr
   | false=>Co X lf e f arr)
  | _=>none
 | .block id c,f,arr=>match Co X lf c f arr with
  | some (x,f,arr)=>(match x with
   | .normal=>some (.normal,f,arr)
   | .exit i=>(match Nat.beq i id with|true=>some (.normal,f,arr)|false=>some (.exit i,f,arr))
   | .ret=>some (.ret,f,arr))
  | none=>none
 | .exit id,f,arr=>some (.exit id,f,arr)
 | .ret,f,arr=>some (.ret,f,arr)
 | .region id ⟨ops⟩ d,f,arr=>match d with
  | false=>(match aS X false false 0 ops ops f arr with
   | some (f,arr)=>some (.normal,f,arr)
   | none=>none)
  | true=>match DS X.inl (90000000+id)with
   | true=>none
   | false=>match lQ X.inl id with
    | false=>(match aS X true false 0 ops ops f arr with
     | some (f,arr)=>some (.normal,f,arr)
     | none=>none)
    | true=>match aS X true true arr.size ops ops f arr with
     | some (f,arr)=>some (.normal,f,arr)
     | none=>none
 | .loop body,f,arr=>qkx (fun f arr=>Co X lf body f arr) lf f arr
 | _,_,_=>none
def KX (x:AX) (a:Tr FV) (arr:Arr):KA:=fun b E' lo'=>b=x/\qv E'=xE a/\lo'=arr.toL
theorem HH {X:XP} (ok:X.Ok) (hm:X.P.follows .mixedOrders=true) {i:Bool} {n0:Nat} {bs:Base} {ρ:List Value} {H:PH} {E:Env} {c tr':Tr FV} {arr arr':Arr} {a:Act} {w:World} {Q:Exit->Act->World->Prop} {id:Nat} {l:List Oper} (t:i=false->n0=0) (J:i=true->n0<=arr.toL.length)
  (x:Nf X.inl i l.toArray=true) (F:∀ ρ H E a w,qv E=xE tr'->Sat bs X.N ρ H (qv E) arr'.toL a w->Q .normal a w) (f:qv E=xE c) (s:Sat bs X.N ρ H (qv E) arr.toL a w) (h:aS X true i n0 l l c arr=some (tr',arr')):(Code.region id l.toArray true).wp X.P Q a w:=by
 simp only[Nf,Go.Region.lexB,ji]at x;have s':Sat bs X.N ρ H (qv E) arr.toL a { w with drawn:=w.drawn+1 }:=by
  refine{ (s.toSatW.calm (H':=H) (w':={ w with drawn:=w.drawn+1 }) ⟨PH.le.refl H,⟨s.sath.cell,s.sath.root⟩,⟨rfl,rfl,rfl,jw _,fun _ _ _=>rfl⟩,fun b o v h=>.inl ⟨v,h⟩⟩)with slots:=s.slots,width:=s.width,defers:=s.defers }
 have G:=aT (X:=X) ok (m:=i) (n0:=n0) t (all:=l) (tr':=tr') (arr':=arr') l 0 (Array.replicate l.toArray.size false) E c arr (by simp) (fun k ok O r=>by simp only[jX,Array.getElem?_replicate]at r; split at r<;>cases r) J (by simpa using x.1.2) (by simpa using x.2) f h
 cases r:l with
 | nil=>
  subst r;cases h;refine wp_region_any hm (ZC (inl:=X.inl) (m:=i) (n0:=n0) (K:=fun e lo=>∃ E,qv E=e/\qv E=xE c/\lo=arr.toL) (fun ρ H e lo a w s ⟨E,f,q,y⟩=>F ρ H E a w q (by rw[f]; subst y; exact s)) _ _ ρ H (qv E) arr.toL a _ s' ?_)
  have:=G;simp only[List.length_nil]at this ⊢;exact⟨this.1,E,rfl,f,rfl⟩
 | cons o0 l0=>
 subst r;have z:∃ E',qv E'=xE tr':=by
  have:∀ (l':List Oper) (E:Env) (c:Tr FV) (arr:Arr),qv E=xE c->aS X true i n0 (o0::l0) l' c arr=some (tr',arr')->∃ E',qv E'=xE tr':=by
   intro l'
   induction l' with
   | nil=>intro E c arr f h; cases h; exact⟨E,f⟩
   | cons o l' ih=>
    intro E c arr f h;simp only[aS,ir]at h;rw[← f]at h;obtain⟨g,h,L,A,B⟩:=Pc h;have run:gOn g->qec X true i n0 o g c arr (fun c arr=>aS X true i n0 (o0::l0) l' c arr)=some (tr',arr')->∃ E',qv E'=xE tr':=by
     intro C h;obtain⟨j,n,h,D⟩:=qce ok f C A B h;obtain⟨E',lo',st,q,rfl⟩:=Ha (R:=fun E' lo'=>qv E'=xE j/\lo'=n.toL) t (D _ fun E' e=>⟨e,rfl⟩)
     exact ih E' j n q h
    split at h
    ·exact run trivial h
    split at h
    ·exact run rfl h
    obtain⟨he,h⟩:=uw h;obtain⟨j,h,q,S,_⟩:=Qp f h;refine ih (match o.dst with|some d=>(d,.opt false (.p (.bool false)))::E|none=>E) j arr ?_ h
    rw[q,← f];cases I:o.dst with
    | none=>rfl
    | some d=>simp only[bo]
  exact this _ E c arr f h
 obtain⟨M,u⟩:=z;refine wp_region_any hm (ZC (inl:=X.inl) (m:=i) (n0:=n0) (K:=fun e lo=>e=xE tr'/\lo=arr'.toL) (fun ρ H e lo a w s ⟨q,y⟩=>F ρ H M a w u (by rw[u,← q]; subst y; exact s)) _ _ ρ H (qv E) arr.toL a _ s' ?_)
 simpa using G
theorem XZ {X:XP} (ok:X.Ok) (hm:X.P.follows .mixedOrders=true) {lf nb:Nat}:∀ (c:Code) (E:Env) (g:Tr FV) (arr:Arr) (x:AX) (tr':Tr FV) (arr':Arr),dx X.inl c=true->qv E=xE g->Co X lf c g arr=some (x,tr',arr')->WpA X.P X.N nb c (KX x tr' arr') E arr.toL
 | .skip,E,g,arr,x,tr',arr',_,k,h=>fun bs ρ H a w o s=>by
  cases h;exact wp_skip ⟨.normal,ρ,H,E,_,trivial,s,rfl,k,rfl⟩
 | .seq c1 c2,E,g,arr,x,tr',arr',hd,k,h=>fun bs ρ H a w o s=>by
  simp only[dx,ji]at hd;simp only[Co]at h;split at h
  ·rename_i x1 l f h1
   refine wp_seq (wp_mono (XZ ok hm c1 E g arr x1 l f hd.1 k h1 bs ρ H a w o s) fun e a w p=>?_);obtain⟨J,ρ',H',E',lo',m,u,z,q,rfl⟩:=p;subst z;split at h
   ·cases e<;>simp only[Pg]at m
    exact XZ ok hm c2 E' l f x tr' arr' hd.2 q h bs ρ' H' a w o u
   ·cases h
    cases e<;>simp only[Pg]at m;exact⟨.exit _,ρ',H',E',_,m,u,rfl,q,rfl⟩
   cases h;cases e<;>simp only[Pg]at m;exact⟨.ret,ρ',H',E',_,trivial,u,rfl,q,rfl⟩
  cases h
 | .cond c t e,E,g,arr,x,tr',arr',hd,k,h=>fun bs ρ H a w o s=>by
  simp only[dx,ji]at hd;simp only[Co]at h;have A:=Ui s.slots c;rw[← k]at h;split at h
  ·rename_i b C
   rw[C]at A;split at h
   ·exact wp_cond_split (rG A) (fun _=>XZ ok hm t E g arr x tr' arr' hd.1 k h bs ρ H a w o s) (fun e=>by cases e)
   exact wp_cond_split (rG A) (fun e=>by cases e) (fun _=>XZ ok hm e E g arr x tr' arr' hd.2 k h bs ρ H a w o s)
  cases h
 | .block id c,E,g,arr,x,tr',arr',hd,k,h=>fun bs ρ H a w o s=>by
  simp only[Co]at h;split at h
  ·rename_i x1 l f h1
   refine wp_block (wp_mono (XZ ok hm c E g arr x1 l f hd k h1 bs ρ H a w o s) fun e a w p=>?_);obtain⟨J,ρ',H',E',lo',m,u,z,q,rfl⟩:=p;subst z;split at h
   ·cases h
    cases e<;>simp only[Pg]at m;exact⟨.normal,ρ',H',E',_,trivial,u,rfl,q,rfl⟩
   ·rename_i i
    cases e<;>simp only[Pg]at m;rename_i j;subst m;simp only[Exit.inBlock];split at h
    ·rename_i y
     have:=jm y;subst this;cases h;simp only[if_true];exact⟨.normal,ρ',H',E',_,trivial,u,rfl,q,rfl⟩
    rename_i y;have:=Nat.ne_of_beq_eq_false y;cases h;simp only[this,if_false];exact⟨.exit i,ρ',H',E',_,rfl,u,rfl,q,rfl⟩
   cases h;cases e<;>simp only[Pg]at m;exact⟨.ret,ρ',H',E',_,trivial,u,rfl,q,rfl⟩
  cases h
 | .exit id,E,g,arr,x,tr',arr',_,k,h=>fun bs ρ H a w o s=>by
  cases h;exact wp_exit ⟨.exit id,ρ,H,E,_,rfl,s,rfl,k,rfl⟩
 | .ret,E,g,arr,x,tr',arr',_,k,h=>fun bs ρ H a w o s=>by
  cases h;exact wp_ret ⟨.ret,ρ,H,E,_,trivial,s,rfl,k,rfl⟩
 | .region id ⟨ops⟩ d,E,g,arr,x,tr',arr',hd,k,h=>fun bs ρ H a w o s=>by
  cases d with
  | false=>
   simp only[Co]at h;split at h<;>try (cases h; done)
   rename_i l f h1;cases h;refine wp_region ?_;have:=NY (Q:=qcn bs X.N (KX .normal tr' arr')) ok (fun ρ H E a w e s=>⟨.normal,ρ,H,E,_,trivial,s,rfl,e,rfl⟩) ops 0 (by simp) ρ H E g arr a w k s h1;simpa[List.range_eq_range']using this
  | true=>
   simp only[Co]at h;split at h
   ·cases h
   rename_i A;have B:Nf X.inl (lQ X.inl id) ops.toArray=true:=by simpa[dx,A]using hd
   split at h
   ·rename_i D
    rw[D]at B;split at h<;>try (cases h; done)
    rename_i l f h1;cases h;exact HH ok hm (fun _=>rfl) (fun h=>by cases h) B (fun ρ H E a w e s=>⟨.normal,ρ,H,E,_,trivial,s,rfl,e,rfl⟩) k s h1
   rename_i D;rw[D]at B;split at h<;>try (cases h; done)
   rename_i l f h1;cases h;exact HH ok hm (fun h=>by cases h) (fun _=>by rw[Arr.len]; exact jw _) B (fun ρ H E a w e s=>⟨.normal,ρ,H,E,_,trivial,s,rfl,e,rfl⟩) k s h1
 | .loop body,E,g,arr,x,tr',arr',hd,k,h=>fun bs ρ H a w o s=>by
  simp only[Co]at h;refine wp_loop_ghost (I:=fun n a w=>∃ ρ H E g arr,qv E=xE g/\qkx (fun g arr=>Co X lf body g arr) n g arr=some (x,tr',arr')/\Sat bs X.N ρ H (qv E) arr.toL a w) lf ⟨ρ,H,E,g,arr,k,h,s⟩ fun n a w ⟨ρ,H,E,g,arr,k,v,sat⟩=>?_
  cases n with
  | zero=>cases v
  | succ n=>
   simp only[qkx]at v;split at v
   ·rename_i x1 l f h1
    refine wp_mono (XZ ok hm body E g arr x1 l f hd k h1 bs ρ H a w o sat) fun e a w p=>?_;obtain⟨J,ρ2,F,G,K,m,r,z,q,rfl⟩:=p;subst z;split at v
    ·cases e<;>simp only[Pg]at m
     exact⟨n,Nat.lt_succ_self _,ρ2,F,G,l,f,q,v,r⟩
    ·cases v
     cases e<;>simp only[Pg]at m;exact⟨.exit _,ρ2,F,G,_,m,r,rfl,q,rfl⟩
    cases v;cases e<;>simp only[Pg]at m;exact⟨.ret,ρ2,F,G,_,trivial,r,rfl,q,rfl⟩
   cases v
 | .rangeFunc ..,E,g,arr,x,tr',arr',_,k,h=>by cases h
 | .scope _,E,g,arr,x,tr',arr',_,k,h=>by cases h
 | .label _,E,g,arr,x,tr',arr',_,k,h=>by cases h
 | .goto _,E,g,arr,x,tr',arr',_,k,h=>by cases h
 | .refuse _,E,g,arr,x,tr',arr',_,k,h=>by cases h
end Ax
end
section
namespace Ax
open Go
section
variable {β:Type} {P:Program}
def qd1 (P:Program) (b:Tr FV) (arr:Arr) (r:ResultVar) (K:FV->Option β):Option β:=match r with
 | .tmp t=>K (xE b t)
 | .cell a t=>qia P t arr (xE b a) K
theorem LV {a:Tr FV} {arr:Arr} {E:Env} (b:qv E=xE a) {r:ResultVar}:Ok1 (β:=β) (qd1 P a arr r) (iD P E arr.toL r):=by
 intro K z h;unfold qd1 at h;split at h
 ·exact⟨_,h,fun R r=>by simp only[iD,sR,b]; exact r⟩
 obtain⟨v,h,c⟩:=iq _ _ h;exact⟨_,h,fun R r=>by simp only[iD,sR,b]; exact(c _ r).1⟩
def two (v1 v2:FV):FV:=
 match v1 with
 | .p p1=>(match v2 with
  | .p p2=>.p (.tup [p1,p2])
  | .tsl _ rows=>.p (.tup [p1,.sl rows])
  | v2=>.pair (.p p1) v2)
 | .tsl _ rows1=>(match v2 with
  | .p p2=>.p (.tup [.sl rows1,p2])
  | .tsl _ rows=>.p (.tup [.sl rows1,.sl rows])
  | v2=>.pair (.p (.sl rows1)) v2)
 | v1=>match v2 with
  | .tsl _ rows=>.pair v1 (.p (.sl rows))
  | v2=>.pair v1 v2
theorem qpv {v1 v2:FV} {R:FV->Prop} (h:R (two v1 v2)):qom v1 v2 R:=by
 cases v1<;>cases v2<;>exact h
def qn3 (P:Program) (fn:Func) (a:Tr FV) (arr:Arr):Option (FV×Arr):=
 match fn.results.toList with
 | [r]=>qd1 P a arr r fun v=>Sh v fun v=>some (v,arr)
 | []=>some (.p (.tup []),arr)
 | [r1,r2]=>qd1 P a arr r1 fun v1=>qd1 P a arr r2 fun v2=>some (two v1 v2,arr)
 | _=>none
theorem qk2 {fn:Func} {e:Tr FV} {arr arr':Arr} {v:FV} {E:Env} (c:qv E=xE e) {x:AX} (d:∀ i,x≠.exit i) (h:qn3 P fn e arr=some (v,arr')):qnl P fn (fun a b=>a=v/\b=arr'.toL) x E arr.toL:=by
 have key:∀ {x:AX},(∀ i,x≠.exit i)->(match fn.results.toList with
  | [r]=>iD P E arr.toL r fun u=>u=v/\arr.toL=arr'.toL
  | []=>FV.p (.tup [])=v/\arr.toL=arr'.toL
  | [f,g]=>iD P E arr.toL f fun v1=>iD P E arr.toL g fun v2=>qom v1 v2 fun u=>u=v/\arr.toL=arr'.toL
  | r::rs=>frL P E arr.toL (r::rs) fun vs=>FV.p (.tup vs)=v/\arr.toL=arr'.toL)->qnl P fn (fun a b=>a=v/\b=arr'.toL) x E arr.toL:=by
  intro x d h;cases x with
  | exit i=>exact absurd rfl (d i)
  | normal=>exact h
  | ret=>exact h
 refine key d ?_;unfold qn3 at h;generalize fn.results.toList=j at *;rcases j with _|⟨f,_|⟨g,_|⟨k,j⟩⟩⟩
 ·cases h
  exact⟨rfl,rfl⟩
 ·obtain⟨u,h,hu⟩:=LV c _ _ h
  have h:=DR h;cases h;exact hu _ ⟨rfl,rfl⟩
 ·obtain⟨l,h,h1⟩:=LV c _ _ h
  obtain⟨m,h,h2⟩:=LV c _ _ h;cases h;exact h1 _ (h2 _ (qpv ⟨rfl,rfl⟩))
 cases h
def qoa (P:Program) (a:Tr FV) (arr:Arr):List ResultVar->(List PV->Option β)->Option β
 | [],K=>K []
 | r::rs,K=>qd1 P a arr r fun v=>qmi v fun v=>qoa P a arr rs fun l=>K (v::l)
theorem qlc {v:FV} {K:PV->Option β} {z:β} {lo:List AObj} (h:qmi v K=some z):∃ p,K p=some z/\∀ R:PV->List AObj->Prop,R p lo->qqb lo v fun v lo=>ee v fun p=>R p lo:=by
 cases v<;>simp only[qmi]at h<;>first|exact⟨_,h,fun R r=>r⟩|cases h
theorem qck {a:Tr FV} {arr:Arr} {E:Env} (b:qv E=xE a):∀ {l:List ResultVar},Ok1 (β:=β) (qoa P a arr l) (qnk P E arr.toL l)
 | []=>fun K z h=>⟨_,h,fun R r=>r⟩
 | r::rs=>fun K z h=>by
  obtain⟨v,h,c⟩:=LV b _ _ h;obtain⟨p,h,hp⟩:=qlc (lo:=arr.toL) h;obtain⟨l,h,d⟩:=qck b (l:=rs) _ _ h;exact⟨_,h,fun R r=>c _ (hp (fun p lo=>qnk P E lo rs fun l=>R (p::l)) (d _ r))⟩
def qn4 (P:Program) (fn:Func) (a:Tr FV) (arr:Arr):Option (FV×Arr):=
 qoa P a arr fn.results.toList fun vs=>match vs with
  | [v]=>Sh (.p v) fun v=>some (v,⟨0,.nil⟩)
  | vs=>some (.p (.tup vs),⟨0,.nil⟩)
def qnd (r:PV) (vs:List PV):Prop:=match vs with
 | [v]=>v=r
 | vs=>PV.tup vs=r
theorem qk3 {fn:Func} {d:Tr FV} {arr arr':Arr} {v:FV} {E:Env} (e:qv E=xE d) {x:AX} (b:∀ i,x≠.exit i) (h:qn4 P fn d arr=some (v,arr')):∃ r,v=.p r/\qps P fn (fun a=>a=r) x E arr.toL:=by
 unfold qn4 at h;obtain⟨vs,h,c⟩:=qck e _ _ h;have key:∀ {x:AX} {r:PV},(∀ i,x≠.exit i)->qnd r vs->qps P fn (fun a=>a=r) x E arr.toL:=by
  intro x r b f;have:=c (qnd r) f;cases x with
  | exit i=>exact absurd rfl (b i)
  | normal=>exact this
  | ret=>exact this
 split at h
 ·rename_i p
  have h:=DR h;cases h;exact⟨_,rfl,key b rfl⟩
 rename_i g;cases h;refine⟨_,rfl,key b ?_⟩;unfold qnd;split
 ·exact(g _ rfl).elim
 rfl
def qn1:Nat->List FV->(Tr FV->Option β)->Option β
 | _,[],K=>K .nil
 | n,v::vs,K=>qn1 (n+1) vs fun a=>Sh v fun v=>Tr.putK 40 a n v K
theorem im:∀ {n:Nat} {vs:List FV} {K:Tr FV->Option β} {z:β},qn1 n vs K=some z->∃ a,K a=some z/\qv (tR n vs)=xE a
 | n,[],K,z,h=>⟨_,h,qp2.symm⟩
 | n,v::vs,K,z,h=>by
  obtain⟨a,h,he⟩:=im (n:=n+1) (vs:=vs) h;have h:=DR h;obtain⟨tr',h,b⟩:=Tr.putK_ok h;exact⟨_,h,by rw[qh7 b,← he]; exact bo n v _⟩
end
theorem fb.of_wpa {P:Program} {f:FuncId} {fn:Func} {c:Code} {args:List FV} {lo:List AObj} {R:FV->List AObj->Prop} (he:Enters P f) (o:P.funcs[f]? =some fn) (q:fn.body=some c) (B:args.length<=fn.ntmps)
  (h:∀ nb,WpA P fn.ntmps nb c (qnl P fn R) (tR 0 args) lo):fb P f args lo R:=by
 intro bs ρ H w vs s n;rw[he];refine⟨rfl,?_⟩;refine calls_of_wp o q ?_;have C:=n.length;have sat:Sat { S:=qd8 ρ lo,w0:=w,H0:=H,r0:=ρ } fn.ntmps ρ H (qv (tR 0 args)) lo { tmps:=vs.toArray++Array.replicate (fn.ntmps - vs.toArray.size) undef,defers:=[] } w:=by
  refine{ s.lend with slots:=fun t=>?_,width:=by simp; omega,defers:=rfl }
  rw[VC];simp only[jS,if_true,Nat.sub_zero];cases u:args[t]? with
  | none=>trivial
  | some p=>
   obtain⟨v,g,i⟩:=n.get u;have j:=(jG.1 g).1;have:(vs.toArray++Array.replicate (fn.ntmps - vs.toArray.size) undef).getD t undef=v:=by
    rw[jX,Array.getElem?_append_left (by simpa using j)];simp[g]
   rw[this];exact i
 refine wp_mono (h _ _ ρ H _ w rfl sat) fun e a w' p=>?_;obtain⟨x,ρ',H',E',lo',y,b,k⟩:=p;obtain⟨p,z,l,d⟩:=DE k;obtain⟨v,g,i⟩:=d _ _ ρ' H' a w' b;have fin:∃ v,(results fn a.tmps).run P w'=.ok v w'/\(fun A m=>∃ v r lo',A=Ending.returned v/\ZN bs ρ H r lo' v m/\R r lo') (.returned v) w':=
  ⟨v,g,v,p,lo',rfl,⟨ρ',H',b.pre,b.leH,s.back b.toSatW,i⟩,z⟩
 rcases l with rfl|rfl<;>cases e<;>simp only[Pg]at y
 ·exact⟨b.defers,fin⟩
 exact⟨b.defers,fin⟩
theorem lB:∀ (n:Nat) (args:List PV),tR n (args.map toF)=Rl n args
 | _,[]=>rfl
 | n,v::vs=>by simp only[jk,tR,Rl,lB (n+1) vs]
theorem qb.of_wpa {P:Program} {f:FuncId} {fn:Func} {c:Code} {args:List PV} {r:PV} (he:Enters P f) (s:P.funcs[f]? =some fn) (u:fn.body=some c) (E:args.length<=fn.ntmps)
  (h:WpA P fn.ntmps 0 c (qps P fn (fun v=>v=r)) (Rl 0 args) []):qb P f args r:=by
 intro H w vs y q;rw[he];refine⟨rfl,?_⟩;refine calls_of_wp s u ?_;have F:=q.length;have sat:Sat { S:=iJ,w0:=w,H0:=H,r0:=[] } fn.ntmps [] H (qv (Rl 0 args)) [] { tmps:=vs.toArray++Array.replicate (fn.ntmps - vs.toArray.size) undef,defers:=[] } w:=by
  refine{ sath:=y,hlen:=rfl,pre:=jq _,objs:=fun k o v h=>by simp at h,excl:=fun k _ o _ v _ b h=>by simp at h,own:=fun k o v b h=>by simp at h,keep:=Keep.refl _ w,leH:=PH.le.refl H,newH:=fun b o v h=>.inl ⟨v,h⟩,slots:=fun t=>?_,width:=by simp; omega,defers:=rfl }
  rw[EE];simp only[jS,if_true,Nat.sub_zero];cases z:args[t]? with
  | none=>trivial
  | some p=>
   obtain⟨v,d,i⟩:=q.get z;have j:=(jG.1 d).1;have:(vs.toArray++Array.replicate (fn.ntmps - vs.toArray.size) undef).getD t undef=v:=by
    rw[jX,Array.getElem?_append_left (by simpa using j)];simp[d]
   rw[this];exact qhu i
 refine wp_mono (h _ [] H _ w rfl sat) fun e a w' p=>?_;obtain⟨x,ρ',H',E',lo',A,l,k⟩:=p;obtain⟨p,hp,m,g⟩:=qb2 k;subst hp;obtain⟨v,B,C,d,i,D,s2⟩:=g _ _ ρ' H' a w' l;have fin:∃ v,(results fn a.tmps).run P w'=.ok v w'/\(fun e n=>∃ v H',e=Ending.returned v/\Calm H w H' n/\zn H' p v) (.returned v) w':=
  ⟨v,d,v,B,rfl,⟨s2.leH,s2.sath,s2.keep,fun b o v d=>by
   rcases s2.newH b o v d with h|h|h
   ·exact .inl h
   ·exact h.elim
   exact .inr h⟩,i⟩
 rcases m with rfl|rfl<;>cases e<;>simp only[Pg]at A
 ·exact⟨l.defers,fin⟩
 exact⟨l.defers,fin⟩
structure YP where
 P:Program
 inl:FuncId->List Nat
 good:FuncId->Bool
 libP:FuncId->List PV->Option PV
 lf:Nat
structure YP.Ok (Y:YP):Prop where
 hm:Y.P.follows .mixedOrders=true
 good:∀ f,Y.good f=true->Enters Y.P f/\∀ fn c,Y.P.funcs[f]? =some fn->fn.body=some c->dx (Y.inl f) c=true
 libP:∀ f args r,Y.libP f args=some r->qb Y.P f args r
def qrk (Y:YP) (rec:FuncId->List FV->Option Arr->Option (FV×Arr)) (f:FuncId) (args:List PV):Option PV:=
 match Y.libP f args with
 | some r=>some r
 | none=>match rec f (args.map toF) none with
  | some (.p r,_)=>some r
  | _=>none
def yX (Y:YP) (f:FuncId) (N:Nat) (rec:FuncId->List FV->Option Arr->Option (FV×Arr)):XP:=
 { P:=Y.P,inl:=Y.inl f,N:=N,cal:=qrk Y rec,cali:=fun f vs arr=>rec f vs (some arr) }
def iB (Y:YP):Nat->FuncId->List FV->Option Arr->Option (FV×Arr)
 | 0,_,_,_=>none
 | n+1,f,vs,oarr=>xif (Y.good f) (match Y.P.funcs[f]? with
  | some fn=>(match fn.body with
   | some c=>xif (Nat.ble vs.length fn.ntmps) (qn1 0 vs fun a=>match oarr with
    | none=>(match Co (yX Y f fn.ntmps (iB Y n)) Y.lf c a ⟨0,.nil⟩with
     | some (.exit _,_,_)=>none
     | some (_,a,arr)=>qn4 Y.P fn a arr
     | none=>none)
    | some arr=>match Co (yX Y f fn.ntmps (iB Y n)) Y.lf c a arr with
     | some (.exit _,_,_)=>none
     | some (_,a,arr)=>qn3 Y.P fn a arr
     | none=>none)
   | none=>none)
  | none=>none)
theorem iC {Y:YP} (ok:Y.Ok):∀ (n:Nat),(∀ f args r a,iB Y n f (args.map toF) none=some (.p r,a)->qb Y.P f args r)/\(∀ f vs arr r arr',iB Y n f vs (some arr)=some (r,arr')->fb Y.P f vs arr.toL (fun a b=>a=r/\b=arr'.toL))
 | 0=>⟨(fun f args r a h=>by cases h),(fun f vs arr r arr' h=>by cases h)⟩
 | n+1=>by
  have ih:=iC ok n;have okX:∀ f N,(yX Y f N (iB Y n)).Ok:=fun f N=>by
   refine⟨fun f args r h=>?_,fun f vs arr r arr' h=>ih.2 _ _ _ _ _ h⟩
   simp only[yX,qrk]at h;split at h
   ·rename_i z j; cases h; exact ok.libP _ _ _ j
   split at h
   ·rename_i z a j; cases h; exact ih.1 _ _ _ _ j
   cases h
  constructor
  ·intro f args r a h
   simp only[iB]at h;obtain⟨o,h⟩:=uw h;obtain⟨he,q⟩:=ok.good f o;split at h<;>try (cases h; done)
   rename_i fn k;split at h<;>try (cases h; done)
   rename_i c l;obtain⟨d,h⟩:=uw h;have d:=jh d;obtain⟨A,h,s⟩:=im h;split at h<;>try (cases h; done)
   rename_i x t m g h1;have u:∀ i,x≠.exit i:=fun i e=>by subst e; exact g _ rfl
   have hw:=XZ (okX f fn.ntmps) ok.hm (nb:=0) c _ _ _ _ _ _ (q fn c k l) s h1;refine qb.of_wpa he k l (by simpa using d) ?_;rw[← lB];refine hw.mono fun B E' lo' ⟨v,w,y⟩=>?_;subst v y;obtain⟨z,e,j⟩:=qk3 w u h;cases e;exact j
  intro f vs arr r arr' h;simp only[iB]at h;obtain⟨o,h⟩:=uw h;obtain⟨he,q⟩:=ok.good f o;split at h<;>try (cases h; done)
  rename_i fn k;split at h<;>try (cases h; done)
  rename_i c l;obtain⟨d,h⟩:=uw h;have d:=jh d;obtain⟨A,h,s⟩:=im h;split at h<;>try (cases h; done)
  rename_i x t m g h1;have u:∀ i,x≠.exit i:=fun i e=>by subst e; exact g _ rfl
  refine fb.of_wpa he k l d fun nb=>?_;have hw:=XZ (okX f fn.ntmps) ok.hm (nb:=nb) c _ _ _ _ _ _ (q fn c k l) s h1;refine hw.mono fun B E' lo' ⟨v,w,y⟩=>?_;subst v y;exact qk2 w u h
def qmq (P:Program) (inl:FuncId->List Nat) (f:FuncId):Bool:=match P.funcs[f]? with
 | some fn=>match fn.body with
  | some c=>fn.name != "runtime.NumGoroutine" && dx (inl f) c
  | none=>false
 | none=>false
theorem qjd {P:Program} {inl:FuncId->List Nat} {f:FuncId} (h:qmq P inl f=true):Enters P f/\∀ fn c,P.funcs[f]? =some fn->fn.body=some c->dx (inl f) c=true:=by
 unfold qmq at h;split at h<;>try (cases h; done)
 rename_i fn hf;split at h<;>try (cases h; done)
 rename_i c hb;simp only[ji,bne_iff_ne,ne_eq]at h;refine⟨fun args w=>?_,fun fn' c' e1 e2=>?_⟩
 ·simp only[callFunc,kc,run_program,kb,hf]
  have h1:(fn.name == "runtime.NumGoroutine")=false:=by simpa using h.1
  simp[h1,hb]
 rw[hf]at e1; cases e1;rw[hb]at e2; cases e2;exact h.2
end Ax
end
section
namespace Ax
open Go
mutual
def cle:PV->PV->Bool
 | .nilsl,.sl rows=>rows.isEmpty
 | .nilsl,.nilsl=>true
 | .bool a,.bool b=>a==b
 | .int k a,.int k' b=>Ht k k'&&a==b
 | .str a,.str b=>a==b
 | .agg a,.agg b=>qd6 a b
 | .tup a,.tup b=>qd6 a b
 | .sl a,.sl b=>qet a b
 | _,_=>false
def qd6:List PV->List PV->Bool
 | [],[]=>true
 | a::l,b::m=>cle a b&&qd6 l m
 | _,_=>false
def qet:List (List PV)->List (List PV)->Bool
 | [],[]=>true
 | a::l,b::m=>qd6 a b&&qet l m
 | _,_=>false
end
theorem Nc:∀ {p q:List PV},qd6 p q=true->p.length=q.length
 | [],[],_=>rfl
 | [],_::_,h=>by simp[qd6]at h
 | _::_,[],h=>by simp[qd6]at h
 | a::l,b::m,h=>by simp only[qd6,ji]at h; simp[Nc h.2]
theorem Nd:∀ {p q:List (List PV)},qet p q=true->p.length=q.length
 | [],[],_=>rfl
 | [],_::_,h=>by simp[qet]at h
 | _::_,[],h=>by simp[qet]at h
 | a::l,b::m,h=>by simp only[qet,ji]at h; simp[Nd h.2]
mutual
theorem eP {H:PH}:∀ {p q:PV} {v:Value},cle p q=true->zn H p v->zn H q v
 | .nilsl,q,v,h,r=>by
  cases q with
  | sl rows=>
   have:rows=[]:=by simpa[cle]using h
   subst this;simp only[zn]at *;exact .inl ⟨trivial,.inl r⟩
  | nilsl=>exact r
  | _=>simp[cle]at h
 | .bool a,q,v,h,r=>by
  cases q with
  | bool b=>simp only[cle,beq_iff_eq]at h; rw[← h]; exact r
  | _=>simp[cle]at h
 | .int k a,q,v,h,r=>by
  cases q with
  | int k' b=>
   simp only[cle,ji,beq_iff_eq]at h;rw[← Qj h.1,← h.2]; exact r
  | _=>simp[cle]at h
 | .str a,q,v,h,r=>by
  cases q with
  | str b=>simp only[cle,beq_iff_eq]at h; rw[← h]; exact r
  | _=>simp[cle]at h
 | .agg a,q,v,h,r=>by
  cases q with
  | agg b=>
   simp only[cle]at h;simp only[zn]at *;obtain⟨vs,e,rr⟩:=r;exact⟨vs,e,LB h rr⟩
  | _=>simp[cle]at h
 | .tup a,q,v,h,r=>by
  cases q with
  | tup b=>
   simp only[cle]at h;simp only[zn]at *;obtain⟨vs,e,rr⟩:=r;exact⟨vs,e,LB h rr⟩
  | _=>simp[cle]at h
 | .sl a,q,v,h,r=>by
  cases q with
  | sl b=>
   simp only[cle]at h;have hl:=Nd h;simp only[zn]at *;rcases r with ⟨e,r⟩|⟨b',o,z,cap,e,l,r⟩
   ·subst e
    exact .inl ⟨by cases b with|nil=>rfl|cons _ _=>simp[qet]at h,r⟩
   exact .inr ⟨b',o,z,cap,by rw[← hl]; exact e,by rw[← hl]; exact l,qaz h r⟩
  | _=>simp[cle]at h
 | .nilp,q,v,h,r|.fn _,q,v,h,r|.nilfn,q,v,h,r|.nili,q,v,h,r|.ifc ..,q,v,h,r|.nilmap,q,v,h,r|.hp _,q,v,h,r|.clo ..,q,v,h,r|.bfn ..,q,v,h,r|.ifo ..,q,v,h,r=>by simp[cle]at h
theorem LB {H:PH}:∀ {p q:List PV} {v:List Value},qd6 p q=true->zS H p v->zS H q v
 | [],[],_,_,r=>r
 | [],_::_,_,h,_=>by simp[qd6]at h
 | _::_,[],_,h,_=>by simp[qd6]at h
 | a::l,b::m,vs,h,r=>by
  simp only[qd6,ji]at h;simp only[zS]at *;obtain⟨v,vs',e,r1,r2⟩:=r;exact⟨v,vs',e,eP h.1 r1,LB h.2 r2⟩
theorem qaz {H:PH} {b z:Nat}:∀ {o:Nat} {p q:List (List PV)},qet p q=true->Qg H b z o p->Qg H b z o q
 | _,[],[],_,_=>by simp only[Qg]
 | _,[],_::_,h,_=>by simp[qet]at h
 | _,_::_,[],h,_=>by simp[qet]at h
 | o,r::rs,s::ss,h,x=>by
  simp only[qet,ji]at h;simp only[Qg]at *;obtain⟨e,⟨vs,q,c⟩,x'⟩:=x;exact⟨by rw[← e,Nc h.1],⟨vs,LB h.1 q,c⟩,qaz h.2 x'⟩
end
theorem qb.cle {P:Program} {f:FuncId} {args:List PV} {p q:PV} (h:qb P f args p) (a:Ax.cle p q=true):qb P f args q:=by
 intro H w vs b d;have:=h H w vs b d;unfold Fc at *;generalize (callFunc f vs.toArray).run P w=x at *;cases x with
 | ok n w'=>
  cases n<;>simp only at this ⊢ <;> try exact this
  ·obtain⟨H',c,r⟩:=this; exact⟨H',c,eP a r⟩
  exact⟨this.1,this.2.mono fun i g ⟨v,H',e,c,r⟩=>⟨v,H',e,c,eP a r⟩⟩
 | halt x w'=>exact this
end Ax
end
section
set_option maxRecDepth 1000000
open Go Go.Proofs Ax
namespace W
def ql7:Nat->List Nat
 | 11=>[1000000]
 | 17=>[1000000]
 | 21=>[1000000]
 | 23=>[51,1000000,40000014,50000002,60004000]
 | 42=>[1000000]
 | 43=>[1000000]
 | 49=>[1000000]
 | 50=>[1000000]
 | 51=>[89,90,91,92,93,94,95,96,97,98,1000000]
 | 67=>[1000000]
 | 77=>[1000000]
 | 79=>[1000000]
 | 80=>[1000000]
 | 81=>[1000000]
 | 82=>[1000000]
 | 83=>[1000000]
 | 84=>[1000000]
 | 85=>[1000000]
 | 86=>[1000000]
 | 87=>[1000000]
 | 88=>[1000000]
 | 89=>[98,1000000]
 | 90=>[89,150,1000000]
 | 91=>[89,92,1000000]
 | 92=>[89,151,1000000]
 | 93=>[89,1000000]
 | 94=>[1000000,40000001]
 | 95=>[89,91,92,93,94,98,1000000]
 | 96=>[89,93,98,153,154,155,1000000]
 | 97=>[89,92,93,94,154,1000000]
 | 98=>[1000000,40000001]
 | 136=>[1000000]
 | 137=>[1000000]
 | 138=>[1000000]
 | 139=>[1000000]
 | 140=>[1000000]
 | 141=>[1000000]
 | 142=>[1000000]
 | 143=>[1000000]
 | 144=>[1000000]
 | 145=>[1000000]
 | 146=>[1000000]
 | 147=>[1000000]
 | 148=>[1000000]
 | 149=>[1000000]
 | 150=>[89,93,96,98,153,154,155,1000000]
 | 151=>[89,218,1000000]
 | 152=>[1000000]
 | 153=>[94,1000000]
 | 154=>[1000000,40000001]
 | 155=>[89,92,93,154,1000000]
 | 210=>[1000000]
 | 211=>[1000000]
 | 212=>[1000000]
 | 213=>[1000000]
 | 214=>[1000000]
 | 215=>[1000000]
 | 216=>[1000000]
 | 217=>[1000000]
 | 218=>[89,249,1000000]
 | 246=>[1000000]
 | 247=>[1000000]
 | 248=>[1000000]
 | 249=>[89,249,258,1000000]
 | 257=>[1000000]
 | 258=>[89,93,261,1000000]
 | 261=>[98,267,1000000]
 | 267=>[98,270,1000000]
 | 270=>[89,92,93,154,270,271,1000000]
 | 271=>[89,92,93,94,98,155,272,273,1000000,40000003]
 | 272=>[89,92,93,273,1000000]
 | 273=>[89,92,93,1000000]
 | _=>[]
def ql8:List Nat:=[11,17,21,23,42,43,49,50,51,67,77,79,80,81,82,83,84,85,86,87,88,89,90,91,92,93,94,95,96,97,98,136,137,138,139,140,141,142,143,144,145,146,147,148,149,150,151,152,153,154,155,210,211,212,213,214,215,216,217,218,246,247,248,249,257,258,261,267,270,271,272,273]
theorem qqz:(ql8.all fun f=>qmq Tryz.prog ql7 f)=true:=by kernel_rfl
def pY (P:Program) (lib:FuncId->List PV->Option PV):YP:={ P:=P,inl:=ql7,good:=fun f=>DS ql8 f,libP:=lib,lf:=100000 }
theorem qbj:∀ {l:List Nat} {f:Nat},DS l f=true->f∈l
 | [],f,h=>by cases h
 | a::l,f,h=>by
  simp only[DS]at h;split at h
  ·rename_i b; rw[jm b]; exact List.mem_cons_self
  exact List.mem_cons_of_mem _ (qbj h)
theorem qph {lib:FuncId->List PV->Option PV} (h:∀ f args r,lib f args=some r->qb Tryz.prog f args r):(pY Tryz.prog lib).Ok:=
 ⟨mixed,fun f a=>qjd (List.all_eq_true.1 qqz f (qbj a)),h⟩
def qgt (f:Nat) (t:List UInt8) (r:PV):FuncId->List PV->Option PV:=fun g args=>match Nat.beq g f with
 | true=>(match args with
  | [.str s]=>(match s==t with|true=>some r|false=>none)
  | _=>none)
 | false=>none
theorem qgu {P:Program} {f:Nat} {t:List UInt8} {r:PV} (h:qb P f [.str t] r):∀ g args q,qgt f t r g args=some q->qb P g args q:=by
 intro g args q e;unfold qgt at e;split at e
 ·rename_i a
  split at e
  ·split at e
   ·rename_i b
    cases e;rw[jm a,eq_of_beq b];exact h
   cases e
  ·cases e
 cases e
abbrev TU:List UInt8:=[77,65,84,67,72,32,40,110,58,65,32,123,107,58,32,49,125,41,45,91,58,84,93,45,62,40,109,58,66,41,32,82,69,84,85,82,78,32,110,46,107,32,65,83,32,120]
abbrev qnh:PV:=.tup [.sl [[.int .i64 2,.str [77,65,84,67,72],.int .i64 0,.int .i64 0],[.int .i64 5,.str [40],.int .i64 0,.int .i64 6],[.int .i64 1,.str [110],.int .i64 0,.int .i64 7],[.int .i64 5,.str [58],.int .i64 0,.int .i64 8],[.int .i64 1,.str [65],.int .i64 0,.int .i64 9],[.int .i64 5,.str [123],.int .i64 0,.int .i64 11],[.int .i64 1,.str [107],.int .i64 0,.int .i64 12],[.int .i64 5,.str [58],.int .i64 0,.int .i64 13],[.int .i64 3,.str [],.int .i64 1,.int .i64 15],[.int .i64 5,.str [125],.int .i64 0,.int .i64 16],[.int .i64 5,.str [41],.int .i64 0,.int .i64 17],[.int .i64 5,.str [45],.int .i64 0,.int .i64 18],[.int .i64 5,.str [91],.int .i64 0,.int .i64 19],[.int .i64 5,.str [58],.int .i64 0,.int .i64 20],[.int .i64 1,.str [84],.int .i64 0,.int .i64 21],[.int .i64 5,.str [93],.int .i64 0,.int .i64 22],[.int .i64 5,.str [45],.int .i64 0,.int .i64 23],[.int .i64 5,.str [62],.int .i64 0,.int .i64 24],[.int .i64 5,.str [40],.int .i64 0,.int .i64 25],[.int .i64 1,.str [109],.int .i64 0,.int .i64 26],[.int .i64 5,.str [58],.int .i64 0,.int .i64 27],[.int .i64 1,.str [66],.int .i64 0,.int .i64 28],[.int .i64 5,.str [41],.int .i64 0,.int .i64 29],[.int .i64 2,.str [82,69,84,85,82,78],.int .i64 0,.int .i64 31],[.int .i64 1,.str [110],.int .i64 0,.int .i64 38],[.int .i64 5,.str [46],.int .i64 0,.int .i64 39],[.int .i64 1,.str [107],.int .i64 0,.int .i64 40],[.int .i64 2,.str [65,83],.int .i64 0,.int .i64 42],[.int .i64 1,.str [120],.int .i64 0,.int .i64 45],[.int .i64 6,.str [],.int .i64 0,.int .i64 46]],.int .i64 0,.int .i64 0]
theorem qdg:iB (pY Tryz.prog fun _ _=>none) 1000 50 [.p (.str TU)] none=some (.p qnh,⟨0,.nil⟩):=by kernel_rfl
theorem qpl:qb Tryz.prog 50 [.str TU] qnh:=(iC (qph fun _ _ _ e=>(by cases e)) 1000).1 50 [.str TU] _ _ qdg
abbrev qpj:PV:=.tup [.agg [.sl [[.int .i64 1,.sl [[.sl [[.str [110],.sl [[.str [65]]],.sl [[.str [107]]],.sl [[.int .i64 1,.str [],.int .i64 2,.bool false,.int .i64 1,.str [],.nilsl,.nilsl,.nilsl,.nilsl]]],[.str [109],.sl [[.str [66]]],.nilsl,.nilsl]],.sl [[.str [],.str [84],.int .i64 0,.nilsl,.nilsl]]]],.nilsl,.int .i64 0,.str [],.int .i64 0,.bool false,.int .i64 0,.str [],.nilsl,.nilsl,.nilsl,.nilsl,.str [],.nilsl,.bool false,.nilsl,.nilsl,.nilsl,.nilsl,.nilsl,.bool false],[.int .i64 9,.nilsl,.nilsl,.int .i64 0,.str [],.int .i64 0,.bool false,.int .i64 0,.str [],.nilsl,.nilsl,.nilsl,.nilsl,.str [],.sl [[.int .i64 4,.str [107],.int .i64 0,.bool false,.int .i64 0,.str [],.nilsl,.nilsl,.nilsl,.sl [[.int .i64 2,.str [110],.int .i64 0,.bool false,.int .i64 0,.str [],.nilsl,.nilsl,.nilsl,.nilsl]],.str [120]]],.bool false,.nilsl,.nilsl,.nilsl,.nilsl,.nilsl,.bool false]]],.int .i64 0,.int .i64 0]
theorem oT:iB (pY Tryz.prog (qgt 50 TU qnh)) 1000 23 [.p (.str TU)] none=some (.p qpj,⟨0,.nil⟩):=by kernel_rfl
theorem qnf:qb Tryz.prog 23 [.str TU] qpj:=(iC (qph (qgu qpl)) 1000).1 23 [.str TU] _ _ oT
def qpm:bu:=(bu.mk ([(qd.mk (1:Int) ([(zx.mk ([(qt.mk ([110]:List UInt8) ([([65]:List UInt8)]:List (List UInt8)) ([([107]:List UInt8)]:List (List UInt8)) ([(qe.mk (1:Int) ([]:List UInt8) (Val.mk (2:Int) false (1:Int) ([]:List UInt8) ([]:List Val) ([]:List (List UInt8))) ([]:List (List UInt8)) ([]:List qe))]:List qe)),(qt.mk ([109]:List UInt8) ([([66]:List UInt8)]:List (List UInt8)) ([]:List (List UInt8)) ([]:List qe))]:List qt) ([(qy.mk ([]:List UInt8) ([84]:List UInt8) (0:Int) ([]:List (List UInt8)) ([]:List qe))]:List qy))]:List zx) ([]:List qe) (qe.mk (0:Int) ([]:List UInt8) (Val.mk (0:Int) false (0:Int) ([]:List UInt8) ([]:List Val) ([]:List (List UInt8))) ([]:List (List UInt8)) ([]:List qe)) ([]:List UInt8) ([]:List xM) false ([]:List qS) ([]:List qe) ([]:List qe) ([]:List qj) ([]:List (List UInt8)) false),(qd.mk (9:Int) ([]:List zx) ([]:List qe) (qe.mk (0:Int) ([]:List UInt8) (Val.mk (0:Int) false (0:Int) ([]:List UInt8) ([]:List Val) ([]:List (List UInt8))) ([]:List (List UInt8)) ([]:List qe)) ([]:List UInt8) ([(xM.mk (qe.mk (4:Int) ([107]:List UInt8) (Val.mk (0:Int) false (0:Int) ([]:List UInt8) ([]:List Val) ([]:List (List UInt8))) ([]:List (List UInt8)) ([(qe.mk (2:Int) ([110]:List UInt8) (Val.mk (0:Int) false (0:Int) ([]:List UInt8) ([]:List Val) ([]:List (List UInt8))) ([]:List (List UInt8)) ([]:List qe))]:List qe)) ([120]:List UInt8))]:List xM) false ([]:List qS) ([]:List qe) ([]:List qe) ([]:List qj) ([]:List (List UInt8)) false)]:List qd))
def CH (_:Nat) (s:List UInt8):Option (bu×Int×Int):=bif s==TU then some (qpm,(0:Int),(0:Int))else none
abbrev SV (r:bu×Int×Int):PV:=.tup [PV.agg (Cn.cells r.1),.int .i64 r.2.1,.int .i64 r.2.2]
theorem PA (n:Nat):∀ (s:List UInt8) (r:bu×Int×Int),CH n s=some r->qb Tryz.prog 23 [.str s] (SV r):=by
 intro s r h;unfold CH at h;cases a:(s==TU)with
 | true=>
  rw[a]at h;obtain rfl:=eq_of_beq a;obtain rfl:=Option.some.inj h;exact qnf.cle (by kernel_rfl)
 | false=>
 rw[a]at h;replace h:(none:Option (bu×Int×Int))=some r:=h;cases h
end W
end
