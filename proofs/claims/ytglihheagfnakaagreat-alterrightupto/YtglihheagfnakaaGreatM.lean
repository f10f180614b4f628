/- A part of the proof: the plain law. -/
import Derived.Test.YtglihheagfnakaaGreatB
import Derived.Test.YtglihheagfnakaaGreatJ
import Derived.Test.YtglihheagfnakaaGreatL
set_option linter.unusedVariables false
set_option linter.unusedSimpArgs false
set_option linter.unnecessarySimpa false
set_option linter.deprecated false
set_option linter.unusedSectionVars false
set_option linter.constructorNameAsVariable false
open List renaming getElem?_eq_getElem->jf,prefix_refl->jq,getElem?_take->jE,eq_nil_of_length_eq_zero->jI
section
open Go Go.Proofs Ax Go.RowKit
namespace W
section
variable {Lw:Nat}
theorem oa:BP Tryz.prog 109:=⟨fun blk off cap ss w h1 h2 h3=>Tryz.slices_Sort_string blk off cap ss w h1 h2 h3,fun p cap w=>Any.slices_Sort_string_none Tryz.lays190 p cap w⟩
set_option maxRecDepth 100000 in
theorem lu {bs:Base Lw} {ρ:List Value} {H:PH Lw} {lo:List AObj} {w:World} (s:SatW bs ρ H lo w) {k:Nat} {e:TypeId} {ss:List (List UInt8)} {v:Value} (ho:lo[k]? =some (.vec e 1 (qv ss))) (hρ:ρ[k]? =some v) :
  (v=.slice none 0 0/\ss=[])\/∃ g cap,v=.slice (some ⟨g,0,none⟩) ss.length cap/\ss.length<=cap/\ss.length<=maxLen/\Go.Sort.Holds encStr w g 0 ss.toArray/\g<w.heap.size /\
   ∀(ss':List (List UInt8)) (n:Nat),ss'.length=ss.length->SatW bs ρ H (lo.set k (.vec e 1 (qv ss'))) (Go.Sort.putRow encStr (Go.Sort.ahead w n) g 0 ss'.toArray):=by
 have hl:(qv ss).length=ss.length:=by simp[qv]
 obtain⟨xs,hown,hr,h1,hh⟩:=s.objs k _ _ ho hρ
 rcases hown.2 with ⟨rfl,h0⟩|⟨g,cap,cur,rfl,_,hg,hnc,hm,hsz,ht⟩
 ·exact .inl ⟨rfl,jI (by rw[← hl]; exact h0)⟩
 ·have hcur:∀ j,j<ss.length->cur[j]? =some (Value.string ⟨(ss.getD j []).toArray⟩):=by
   intro j hj
   have hx:=MC hr
   have:(cur.toList.take ((qv ss).length * 1))[j]? =xs[j]?:=by rw[ht]
   rw[jE,hx,List.getElem?_map]at this
   rw[if_pos (by rw[hl]; omega)]at this
   rw[← Array.getElem?_toList,this]
   simp[jf hj,List.getD_eq_getElem?_getD]
  refine .inr ⟨g,cap,by rw[hl],by rw[← hl]; exact hnc,by rw[hl]at hnc; omega,?_,xn hg,fun ss' n hn=>?_⟩
  ·intro j hj
   have hj:j<ss.length:=by simpa using hj
   refine⟨?_,frozen_of_row w g _ cur e hg⟩
   rw[cell_of_row w g _ _ e _ hg]
   rw[Nat.zero_add,hcur j hj]
   simp[encStr,List.getD_eq_getElem?_getD,jf hj,hj]
  ·have hw':(Go.Sort.putRow encStr (Go.Sort.ahead w n) g 0 ss'.toArray).heap[g]? =some (.cells (Go.Sort.putCells encStr 0 ss'.toArray cur) e (0,0)):=by
    simp only[Go.Sort.putRow,Go.Sort.mapBlock,Go.Sort.ahead]
    rw[Array.getElem?_modify,if_pos rfl,hg]
    rfl
   have hkeep:Keep (fun b=>b=g) w (Go.Sort.putRow encStr (Go.Sort.ahead w n) g 0 ss'.toArray):=by
    refine⟨rfl,rfl,rfl,?_,fun b hb hne=>?_⟩
    ·simp[Go.Sort.putRow,Go.Sort.mapBlock,Go.Sort.ahead]
    ·simp only[Go.Sort.putRow,Go.Sort.mapBlock,Go.Sort.ahead]
     rw[Array.getElem?_modify,if_neg (fun e=>hne e.symm)]
   refine s.upd (k:=k) (b:=g) ho hρ rfl rfl (hh g rfl) hkeep ?_
   have hl2:(qv ss').length=ss.length:=by simp[qv,hn]
   refine⟨ss'.map fun s=>Value.string ⟨s.toArray⟩,⟨by simp[hl2,hn],.inr ⟨g,cap,_,by rw[hl2,hl],Nat.zero_le _,hw',by rw[hl2,← hl]; exact hnc,hm,by rw[← hsz]; simp[Go.Sort.putCells],?_⟩⟩,Uu _,?_,fun b hb o'=>hh b hb o'⟩
   ·refine List.ext_getElem? fun j=>?_
    rw[jE,hl2]
    split
    ·rename_i hj
     have hj:j<ss.length:=by omega
     have hj2:j<ss'.length:=by rw[hn]; exact hj
     have hjc:j<cur.size:=(Array.getElem?_eq_some_iff.1 (hcur j hj)).1
     simp only[Go.Sort.putCells,Array.toList_mapIdx,List.getElem?_mapIdx,Array.getElem?_toList,hcur j hj,Option.map_some,List.getElem?_map]
     rw[jf hj2]
     simp[hn,hj,encStr,hj2]
    ·rename_i hj
     rw[List.getElem?_eq_none (by simp[hn]; omega)]
   ·intro u hu
    obtain⟨x,_,rfl⟩:=List.mem_map.1 hu
    rfl
set_option maxRecDepth 100000 in
theorem BU (l:List (List UInt8)):(Lib.compact l).length<=l.length:=by
 unfold Lib.compact Lib.compactUpTo
 rw[List.length_map]
 exact Nat.le_trans (List.length_filter_le _ _) (by simp)
set_option maxRecDepth 100000 in
theorem qb1 {lo lo':List AObj} {k:Nat} {ss:List (List UInt8)} {R:FV->List AObj->Prop} (ho:lo[k]? =some (.vec 9 1 (qv ss))) (hlen:ss.length<4611686018427387904) (hl:lo.set k (.vec 9 1 (qv (VD ss)))=lo') (hR:R (.p (.tup [])) lo') :
  zh Tryz.prog 109 [.vsl k ss.length] lo R:=
 (zh.sort_vec (fun _ _=>Tryz.call109 _ _) oa ho hlen).mono fun r lo1 ⟨h1,h2⟩=>by subst h1 h2 hl; exact hR
set_option maxRecDepth 100000 in
theorem qdd {lo lo':List AObj} {k n:Nat} {ss:List (List UInt8)} {R:FV->List AObj->Prop} (ho:lo[k]? =some (.vec 9 1 (qv ss))) (hn:n=ss.length) (hl:lo.set k .dead=lo') (hR:R (.p (.sl (qv (Lib.compact ss)))) lo') :
  zh Tryz.prog 111 [.vsl k n] lo R:=by
 subst hn
 intro Lw bs ρ H w vs s rl
 obtain⟨v,_,rfl,hv,rfl⟩:=rl
 obtain⟨hρ,hv⟩:=hv
 rw[show(callFunc 111 _).run Tryz.prog w=_ from Tryz.call111 _ _]
 refine⟨rfl,?_⟩
 subst hl
 rcases lu s ho hρ with ⟨rfl,rfl⟩|⟨g,cap,rfl,hc,hm,hH,hgw,put⟩
 ·refine(Any.slices_Compact_string_empty Tryz.lays194 none 0 w).mono fun en w' p=>?_
  obtain⟨rfl,rfl⟩:=p
  exact⟨_,.p (.sl (qv (Lib.compact []))),_,rfl,⟨ρ,H,jq _,PH.le.refl H,s.kill k,(show qO H (.sl (qv (Lib.compact []))) (.slice none 0 0)from .inl ⟨rfl,.inl rfl⟩)⟩,hR⟩
 ·have hf:=BU ss
  refine(Any.slices_Compact_string Tryz.lays194 g 0 cap ss w hH (by unfold maxLen at hm; omega) hc).mono fun en w' p=>?_
  obtain⟨rfl,q,rfl⟩:=p
  have s1:=put (Lib.compact ss++List.replicate (ss.length - (Lib.compact ss).length) []) q (by simp; omega)
  have hk:k<lo.length:=(List.getElem?_eq_some_iff.1 ho).1
  obtain⟨H',hle,s2,hr⟩:=s1.publish (by rw[List.getElem?_set_self hk]) hρ
  rw[List.set_set]at s2
  refine⟨_,_,_,rfl,⟨ρ,H',jq _,hle,s2,?_⟩,hR⟩
  show qO H' (.sl (qv (Lib.compact ss))) _
  have hsl:∀ l:List (List UInt8),(qv l).length=l.length:=fun l=>by simp[qv]
  rcases hr with ⟨h0,_⟩|⟨b,o,z,cap',e,_,rr⟩
  ·have:Lib.compact ss=[]:=by
    have:=congrArg List.length h0
    rw[hsl]at this
    exact jI (by simp at this; exact this.1 ▸ rfl)
   rw[this]
   exact .inl ⟨rfl,.inr ⟨_,_,rfl⟩⟩
  ·simp only[Value.slice.injEq,Option.some.injEq,Addr.mk.injEq]at e
   obtain⟨⟨rfl,rfl,_⟩,_,rfl⟩:=e
   have hr:=rr.take (Lib.compact ss).length
   have e:(qv (Lib.compact ss++List.replicate (ss.length - (Lib.compact ss).length) [])).take (Lib.compact ss).length=qv (Lib.compact ss):=by
    simp[qv]
   rw[e]at hr
   exact .inr ⟨_,_,z,_,by rw[hsl],by rw[hsl]; omega,hr⟩
set_option maxRecDepth 100000 in
theorem RS (x:List (List UInt8)) (hbig:(qv x).length * 16<=140737488355328):zw Tryz.prog 56 [.p (.sl (qv x))] [] 0 (fun v lo=>v=.vsl 0 x.length/\lo=[.vec 9 1 (qv x)]):=by
 intro Lw bs ρ H w vs hr0 s rl
 have hlo:ρ=[]:=jI s.hlen
 subst hlo
 obtain⟨v,vs',rfl,rv,hvs⟩:=rl
 obtain rfl:vs'=[]:=hvs
 have rv:qO H (.sl (qv x)) v:=rv
 rw[show(callFunc 56 _).run Tryz.prog w=_ from Tryz.call56 _ _]
 refine⟨rfl,?_⟩
 have hl:(qv x).length=x.length:=by simp[qv]
 obtain⟨p,c,rfl⟩:=VB rv
 rw[hl]at rv hbig ⊢
 refine(Pc hbig w s.sath rv).mono fun e w' ⟨p',c',e1,ho,hb⟩=>?_
 refine⟨_,_,[.vec 9 1 (qv x)],[_],H,e1,⟨rfl,rfl⟩,PH.le.refl H,?_,rfl,?_⟩
 ·have hc:=UT s.sath hb
  have s':=s.calm hc
  have hge:∀ b,(Value.slice p' x.length c').ownBlock=some b->w.heap.size<=b:=fun b hb=>(ho.lt b hb).1
  have hbl:=Ev ho
  have hone:∀ u∈x.map fun s=>Value.string ⟨s.toArray⟩,u.oneCell'=true:=fun u hu=>by obtain⟨_,_,rfl⟩:=List.mem_map.1 hu; rfl
  have hok:Zp ([]++[Value.slice p' x.length c']) H w' (.slice p' x.length c') (.vec 9 1 (qv x)):=by
   refine⟨_,by rw[hl]; exact⟨ho.1,ho.2.imp id fun⟨g,cap,cur,a,h,r⟩=>⟨g,cap,cur,a,Nat.zero_le _,r⟩⟩,Uu x,hone,fun b hb' o=>?_⟩
   rw[hbl]at hb'
   have h1:=hge b hb'
   cases e:H b o with
   | none=>rfl
   | some u=>have:=s.sath.lt e; omega
  have hs0:=s.keep.size
  refine s'.push (g:=(match (Value.slice p' x.length c').ownBlock with|some b=>b|none=>w'.heap.size)) ?_ (fun k o' v' h=>by simp at h) (.inr ?_) (PH.le.refl H) s'.sath (fun b o v h=>.inl ⟨v,h⟩) (Keep.refl _ _) hok
  ·rw[hbl]
   cases(Value.slice p' x.length c').ownBlock with
   | none=>exact .inr rfl
   | some b=>exact .inl rfl
  ·cases e:(Value.slice p' x.length c').ownBlock with
   | none=>exact Nat.le_trans hs0 hb.size
   | some b=>exact Nat.le_trans hs0 (hge b e)
 ·rcases ho.2 with ⟨e,h0⟩|⟨g,cap,cur,e,_⟩
  ·simp only[Value.slice.injEq]at e
   obtain⟨rfl,_,rfl⟩:=e
   exact .inl ⟨h0,by rw[h0]⟩
  ·simp only[Value.slice.injEq]at e
   obtain⟨rfl,_,rfl⟩:=e
   exact .inr ⟨_,_,rfl⟩
def FW (_n:Nat) (l:List (List UInt8)):Option Unit:=bif Nat.ble l.length 1048576 then some ()else none
def BO (_n:Nat) (l:List (List UInt8)):Option (List (List UInt8)):=bif Nat.ble l.length 1 then some l else some (Lib.compact (VD l))
theorem iV {n:Nat} {l:List (List UInt8)} {r:Unit} (h:FW n l=some r):l.length<4611686018427387904:=by
 unfold FW at h
 cases e:Nat.ble l.length 1048576 with
 | true=>have:=Nat.le_of_ble_eq_true e; omega
 | false=>rw[e]at h; cases h
theorem oF {n:Nat} {l r:List (List UInt8)} (h:BO n l=some r):Lib.compact (VD l)=r:=by
 unfold BO at h
 cases e:Nat.ble l.length 1 with
 | false=>rw[e]at h; exact Option.some.inj h
 | true=>
  rw[e]at h
  obtain rfl:=Option.some.inj h
  have:=Nat.le_of_ble_eq_true e
  match l,this with
  | [],_=>simp[VD,Lib.compact,Lib.compactUpTo]
  | [x],_=>simp[VD,Lib.compact,Lib.compactUpTo,Lib.keeps,List.range_succ]
end
end W
end
