/- A part of the proof: the abstract execution. -/
import Derived.Shelf.Sort.Plain
import Derived.Test.YtglihheagfnakaaGreatB
set_option linter.unusedVariables false
set_option linter.unusedSimpArgs false
set_option linter.unnecessarySimpa false
set_option linter.deprecated false
set_option linter.unusedSectionVars false
set_option linter.constructorNameAsVariable false
open List renaming getElem?_eq_getElem->jf,prefix_refl->jq,getElem?_take->jE
section
open Go Go.Proofs Go.RowKit
namespace Ax
variable {Lw:Nat}
def VD (ss:List (List UInt8)):List (List UInt8):=ss.mergeSort fun x y=>decide (x<=y)
def BP (P:Program) (f:FuncId):Prop:=
 (∀(blk off cap:Nat) (ss:List (List UInt8)) (w:World),Go.Sort.Holds encStr w blk off ss.toArray->blk<w.heap.size->ss.length<4611686018427387904 ->
  Calls P f #[.slice (some ⟨blk,off,none⟩) ss.length cap] w fun e w'=>e=.returned (.tuple #[])/\∃ n os,w'=Go.Sort.grow (Go.Sort.putRow encStr (Go.Sort.ahead w n) blk off (VD ss).toArray) os) /\
 ∀(p:Option Addr) (cap:Nat) (w:World),Calls P f #[.slice p 0 cap] w fun e w'=>e=.returned (.tuple #[])/\w'=w
theorem MC {H:(PH Lw)}:∀{ss:List (List UInt8)} {xs:List Value},gk H 1 (qv ss) xs->xs=ss.map fun s=>Value.string ⟨s.toArray⟩
 | [],xs,h=>by simpa[qv,gk]using h
 | s::ss,xs,h=>by
  simp only[qv,List.map_cons,gk]at h;obtain⟨_,a,b,rfl,c,d⟩:=h;have e:=MC (ss:=ss) (xs:=b) d;simp only[zC,qO]at c;obtain⟨_,_,rfl,rfl,rfl⟩:=c;rw[e];rfl
theorem Uu {H:(PH Lw)}:∀(ss:List (List UInt8)),gk H 1 (qv ss) (ss.map fun s=>Value.string ⟨s.toArray⟩)
 | []=>by simp[qv,gk]
 | s::ss=>⟨rfl,[_],_,rfl,by simp only[zC,qO]; exact⟨_,_,rfl,rfl,rfl⟩,Uu ss⟩
theorem cX (ss:List (List UInt8)):(VD ss).length=ss.length:=List.length_mergeSort _
theorem zh.sort_vec {P:Program} {f:FuncId} (he:Enters P f) (D:BP P f) {lo:List AObj} {k:Nat} {e:TypeId} {ss:List (List UInt8)} (o:lo[k]? =some (.vec e 1 (qv ss))) (hlen:ss.length<4611686018427387904) :
  zh P f [.vsl k ss.length] lo (fun r lo'=>r=.p (.tup [])/\lo'=lo.set k (.vec e 1 (qv (VD ss)))):=by
 intro Lw bs ρ H w vs s G;obtain⟨v,_,rfl,q,rfl⟩:=G;rw[he];refine⟨rfl,?_⟩;obtain⟨E,q⟩:=q;have h:(qv ss).length=ss.length:=by simp[qv]
 obtain⟨xs,i,I,h1,F⟩:=s.objs k _ _ o E;rcases i.2 with ⟨rfl,J⟩|⟨g,cap,cur,rfl,_,l,t,hm,y,K⟩
 ·have e0:ss=[]:=List.eq_nil_of_length_eq_zero (by rw[← h]; exact J)
  subst e0;refine(D.2 none 0 w).mono fun L w' p=>?_;obtain⟨rfl,rfl⟩:=p;refine⟨_,_,_,rfl,⟨ρ,H,jq _,PH.le.refl H,?_,by simp only[qY,qO]; exact⟨[],rfl,rfl⟩⟩,rfl,rfl⟩;exact s.view o rfl rfl fun v q ok=>by simpa[VD]using ok
 have c:∀ j,j<ss.length->cur[j]? =some (Value.string ⟨(ss.getD j []).toArray⟩):=by
  intro j a;have M:=MC I;have:(cur.toList.take ((qv ss).length * 1))[j]? =xs[j]?:=by rw[K]
  rw[jE,M,List.getElem?_map]at this;rw[if_pos (by rw[h]; omega)]at this;rw[← Array.getElem?_toList,this];simp[jf a,List.getD_eq_getElem?_getD]
 have N:Go.Sort.Holds encStr w g 0 ss.toArray:=by
  intro j a;have a:j<ss.length:=by simpa using a
  refine⟨?_,frozen_of_row w g _ cur e l⟩;rw[cell_of_row w g _ _ e _ l];rw[Nat.zero_add,c j a];simp[encStr,List.getD_eq_getElem?_getD,jf a,a]
 rw[h];refine(D.1 g 0 cap ss w N (xn l) hlen).mono fun L w' p=>?_;obtain⟨rfl,n,os,rfl⟩:=p;have z:(Go.Sort.grow (Go.Sort.putRow encStr (Go.Sort.ahead w n) g 0 (VD ss).toArray) os).heap[g]? =some (.cells (Go.Sort.putCells encStr 0 (VD ss).toArray cur) e (0,0)):=by
  have A:=xn l;simp only[Go.Sort.grow,Go.Sort.putRow,Go.Sort.mapBlock,Go.Sort.ahead];rw[Array.getElem?_append_left (by simpa using A),Array.getElem?_modify,if_pos rfl,l];rfl
 have hkeep:Keep (fun b=>b=g) w (Go.Sort.grow (Go.Sort.putRow encStr (Go.Sort.ahead w n) g 0 (VD ss).toArray) os):=by
  refine⟨rfl,rfl,rfl,?_,fun b B C=>?_⟩
  ·simp[Go.Sort.grow,Go.Sort.putRow,Go.Sort.mapBlock,Go.Sort.ahead]
  simp only[Go.Sort.grow,Go.Sort.putRow,Go.Sort.mapBlock,Go.Sort.ahead];rw[Array.getElem?_append_left (by simpa using B),Array.getElem?_modify,if_neg (fun e=>C e.symm)]
 refine⟨_,_,_,rfl,⟨ρ,H,jq _,PH.le.refl H,?_,by simp only[qY,qO]; exact⟨[],rfl,rfl⟩⟩,rfl,rfl⟩;refine s.upd (k:=k) (b:=g) o E rfl rfl (F g rfl) hkeep ?_;have d:(qv (VD ss)).length=ss.length:=by simp[qv,cX]
 refine⟨(VD ss).map fun s=>Value.string ⟨s.toArray⟩,⟨by simp[d,cX],.inr ⟨g,cap,_,by rw[d,h],Nat.zero_le _,z,by rw[d,← h]; exact t,hm,by rw[← y]; simp[Go.Sort.putCells],?_⟩⟩,Uu _,?_,fun b B o'=>F b B o'⟩
 ·refine List.ext_getElem? fun j=>?_
  rw[jE,d];split
  ·rename_i a
   have a:j<ss.length:=by omega
   have m:j<(VD ss).length:=by rw[cX]; exact a
   have O:j<cur.size:=(Array.getElem?_eq_some_iff.1 (c j a)).1;simp only[Go.Sort.putCells,Array.toList_mapIdx,List.getElem?_mapIdx,Array.getElem?_toList,c j a,Option.map_some,List.getElem?_map];rw[jf m];simp[cX,a,encStr,m]
  rename_i a;rw[List.getElem?_eq_none (by simp[cX]; omega)]
 intro u hu;obtain⟨x,_,rfl⟩:=List.mem_map.1 hu;rfl
end Ax
end
