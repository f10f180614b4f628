/- A part of the proof: the abstract execution. -/
import Derived.Still
import Derived.Below
import Derived.Laws.AppendOwnNone
import Derived.MapKept
import Derived.WalkKit
import Derived.Laws.StructEq
import Derived.Laws.IdiomStrings
import Derived.Laws.BytesArg
import Derived.Lib.Builder
import Derived.Carry
set_option linter.unusedVariables false
set_option linter.unusedSimpArgs false
set_option linter.unnecessarySimpa false
set_option linter.deprecated false
set_option linter.unusedSectionVars false
set_option linter.constructorNameAsVariable false
open Go renaming run_underlying->kru
open List renaming length_cons->ja,length_append->jb,getElem?_eq_getElem->jf,mem_cons->jg,map_cons->jl,prefix_refl->jr,append_assoc->jt,length_take->ju,nil_append->jv,getElem?_append_left->jC,getElem?_append_right->jD,getElem?_drop->jE,getElem?_take->jF,getElem?_set->jG,getElem?_eq_some_iff->jH,length_drop->jN,map_nil->jO,map_toArray->kf
open Nat renaming le_of_ble_eq_true->jh,eq_of_beq_eq_true->jn,le_refl->jx,zero_add->jy,lt_irrefl->jS,zero_le->jT
open BitVec renaming ofInt->js
open Array renaming getElem?_eq_some_iff->jI,length_toList->jL
open Go.Result renaming andThen_ok->kg
open Go.Sem renaming run_bind->kh,run_pure->ki
open Go.Op renaming operands->kj
open Go.Call renaming operands->kl
namespace Ax
theorem kbf {A : Type _} [BEq A] [LawfulBEq A] {a b : A} : (a == b) = false ↔ a ≠ b := beq_eq_false_iff_ne
theorem kod {p : Prop} [i : Decidable p] : decide p = true -> p := of_decide_eq_true
theorem kcf {A : Sort _} (a b : A) : (bif false then a else b) = b := rfl
theorem kct {A : Sort _} (a b : A) : (bif true then a else b) = a := rfl
theorem kdt {p : Prop} [i : Decidable p] : p -> decide p = true := decide_eq_true
theorem kdf {p : Prop} [i : Decidable p] : ¬p -> decide p = false := decide_eq_false
theorem kde {p : Prop} [i : Decidable p] : (decide p = true) = p := decide_eq_true_eq
theorem kbs {A : Type _} [BEq A] [ReflBEq A] (a : A) : (a == a) = true := beq_self_eq_true a
end Ax
section
namespace Ax
open Go
inductive PV where
 | bool (b:Bool)|int (k:IntKind) (n:Int)|str (l:List UInt8)
 | agg (cs:List PV)|tup (vs:List PV)|nilsl|sl (rows:List (List PV))
 | nilp|fn (f:FuncId)|nilfn|nili|ifc (t:TypeId) (v:PV)|nilmap
inductive FV where
 | top
 | p (v:PV)
 | opt (g:Bool) (v:FV)
 | tsl (k:Nat) (rows:List (List PV))
 | ptr (k off:Nat)
 | hptr (row:List PV)
 | bself (k:Nat)
 | bsl (k off len cap:Nat)
 | vsl (k n:Nat)
 | eptr (k z i off:Nat)
 | mref (k:Nat)
 | pair (a b:FV)
 | stmp (k:Nat)
 | clo (f:FuncId) (c:FV)
 | cap0
 | cap (a b:FV)
 | fagg (c:FV)
 | nxt (ok:Bool) (a b:PV)
 | asl (k off n:Nat)
inductive AObj where
 | dead
 | box (t:TypeId) (cells:List FV)
 | tail (e:TypeId) (z n:Nat)
 | vec (e:TypeId) (z:Nat) (rows:List (List PV))
 | mp (d:TypeDesc) (es:List (PV×PV)) (mk:Option (PV×Nat))
 | sit (l:List UInt8) (pos:Nat)
 | bv (l:List UInt8)
 | vl (e:TypeId) (z:Nat) (rows:List (List PV)) (j k:Nat)
def AObj.live:AObj->Bool
 | .dead=>false
 | _=>true
abbrev PH:=Nat->Nat->Option Value
def PH.le (H H':PH):Prop:=∀ b o v,H b o=some v->H' b o=some v
theorem PH.le.refl (H:PH):PH.le H H:=fun _ _ _ h=>h
theorem PH.le.trans {a b c:PH} (h:PH.le a b) (h':PH.le b c):PH.le a c:=fun _ _ _ x=>h' _ _ _ (h _ _ _ x)
mutual
def qco (H:PH):PV->Value->Prop
 | .bool b,v=>v=.bool b
 | .int k n,v=>v=.int k n
 | .str l,v=>v=.string ⟨l.toArray⟩
 | .agg cs,v=>∃ vs:List Value,v=.agg vs.toArray/\qdi H cs vs
 | .tup cs,v=>∃ vs:List Value,v=.tuple vs.toArray/\qdi H cs vs
 | .nilsl,v=>v=.slice none 0 0
 | .sl rows,v=>(rows=[]/\(v=.slice none 0 0\/∃ a cap,v=.slice (some a) 0 cap)) \/
   ∃ b o z cap,v=.slice (some ⟨b,o,none⟩) rows.length cap/\rows.length<=cap/\qs3 H b z o rows
 | .nilp,v=>v=.pointer none
 | .fn f,v=>v=.func (.func f) #[] #[]
 | .nilfn,v=>v=.nilFunc
 | .nili,v=>v=.nilIface
 | .ifc t p,v=>∃ u,v=.iface t u/\qco H p u
 | .nilmap,v=>v=.map none
def qdi (H:PH):List PV->List Value->Prop
 | [],vs=>vs=[]
 | c::cs,vs=>∃ v vs',vs=v::vs'/\qco H c v/\qdi H cs vs'
def qs3 (H:PH) (b z:Nat):Nat->List (List PV)->Prop
 | _,[]=>True
 | o,r::rs=>r.length=z/\(∃ vs,qdi H r vs/\∀ j v,vs[j]? =some v->H b (o+j)=some v)/\qs3 H b z (o+z) rs
end
mutual
theorem qco.mono {H H':PH} (h:PH.le H H'):∀ {p:PV} {v:Value},qco H p v->qco H' p v
 | .bool _,_,x|.int ..,_,x|.str _,_,x|.nilsl,_,x|.nilp,_,x|.fn _,_,x|.nilfn,_,x|.nili,_,x|.nilmap,_,x=>by
  simp only[qco]at *; exact x
 | .agg cs,v,x=>by
  simp only[qco]at *;obtain⟨vs,e,r⟩:=x;exact⟨vs,e,qdi.mono h r⟩
 | .tup cs,v,x=>by
  simp only[qco]at *;obtain⟨vs,e,r⟩:=x;exact⟨vs,e,qdi.mono h r⟩
 | .sl rows,v,x=>by
  simp only[qco]at *;rcases x with x|⟨b,o,z,cap,e,l,r⟩
  ·exact .inl x
  exact .inr ⟨b,o,z,cap,e,l,qs3.mono h r⟩
 | .ifc t p,v,x=>by
  simp only[qco]at *;obtain⟨u,e,r⟩:=x;exact⟨u,e,qco.mono h r⟩
theorem qdi.mono {H H':PH} (h:PH.le H H'):∀ {cs:List PV} {vs:List Value},qdi H cs vs->qdi H' cs vs
 | [],_,x=>by simp only[qdi]at *; exact x
 | c::cs,vs,x=>by
  simp only[qdi]at *;obtain⟨v,vs',e,r,rs⟩:=x;exact⟨v,vs',e,qco.mono h r,qdi.mono h rs⟩
theorem qs3.mono {H H':PH} (h:PH.le H H') {b z:Nat}:∀ {o:Nat} {rows:List (List PV)},qs3 H b z o rows->qs3 H' b z o rows
 | _,[],_=>by simp only[qs3]
 | o,r::rs,x=>by
  simp only[qs3]at *;obtain⟨e,⟨vs,q,c⟩,x'⟩:=x;exact⟨e,⟨vs,qdi.mono h q,fun j v hv=>h _ _ _ (c j v hv)⟩,qs3.mono h x'⟩
end
theorem qdi.length {H:PH}:∀ {cs:List PV} {vs:List Value},qdi H cs vs->vs.length=cs.length
 | [],vs,x=>by simp only[qdi]at x; simp[x]
 | c::cs,vs,x=>by
  simp only[qdi]at x;obtain⟨v,vs',e,_,rs⟩:=x;simp[e,qdi.length rs]
theorem qdi.get {H:PH}:∀ {cs:List PV} {vs:List Value} {i:Nat} {c:PV},qdi H cs vs->cs[i]? =some c->∃ v,vs[i]? =some v/\qco H c v
 | [],_,_,_,_,h=>by simp at h
 | c::cs,vs,i,c',x,h=>by
  simp only[qdi]at x;obtain⟨v,vs',e,r,rs⟩:=x;subst e;cases i with
  | zero=>simp at h; subst h; exact⟨v,by simp,r⟩
  | succ i=>simp at h; obtain⟨u,hu,ru⟩:=rs.get h; exact⟨u,by simpa using hu,ru⟩
theorem qdi.drop {H:PH}:∀ {cs:List PV} {vs:List Value} (n:Nat),qdi H cs vs->qdi H (cs.drop n) (vs.drop n)
 | _,_,0,x=>by simpa using x
 | [],vs,n+1,x=>by simp only[qdi]at x; simp[x,qdi]
 | c::cs,vs,n+1,x=>by
  simp only[qdi]at x;obtain⟨v,vs',e,r,rs⟩:=x;subst e;simpa using rs.drop n
theorem qdi.take {H:PH}:∀ {cs:List PV} {vs:List Value} (n:Nat),qdi H cs vs->qdi H (cs.take n) (vs.take n)
 | _,_,0,x=>by simp[qdi]
 | [],vs,n+1,x=>by simp only[qdi]at x; simp[x,qdi]
 | c::cs,vs,n+1,x=>by
  simp only[qdi]at x;obtain⟨v,vs',e,r,rs⟩:=x;subst e;simp only[List.take_succ_cons,qdi];exact⟨v,_,rfl,r,rs.take n⟩
theorem qdi.append {H:PH}:∀ {cs ds:List PV} {vs us:List Value},qdi H cs vs->qdi H ds us->qdi H (cs++ds) (vs++us)
 | [],_,vs,_,x,y=>by simp only[qdi]at x; simpa[x]using y
 | c::cs,ds,vs,us,x,y=>by
  simp only[qdi]at x;obtain⟨v,vs',e,r,rs⟩:=x;subst e;simp only[List.cons_append,qdi];exact⟨v,_,rfl,r,rs.append y⟩
theorem qs3.get {H:PH} {b z:Nat}:∀ {o:Nat} {rows:List (List PV)} {i:Nat} {r:List PV},qs3 H b z o rows->rows[i]? =some r ->
  r.length=z/\∃ vs,qdi H r vs/\∀ j v,vs[j]? =some v->H b (o+i * z+j)=some v
 | _,[],_,_,_,h=>by simp at h
 | o,q::rs,i,r,x,h=>by
  simp only[qs3]at x;obtain⟨e,c,x'⟩:=x;cases i with
  | zero=>simp at h; subst h; simpa using⟨e,c⟩
  | succ i=>
   simp at h;have:=x'.get h;have e2:o+z+i * z=o+(i+1) * z:=by rw[Nat.add_mul]; omega
   rwa [e2]at this
theorem qs3.drop {H:PH} {b z:Nat}:∀ {o:Nat} {rows:List (List PV)} (i:Nat),qs3 H b z o rows->qs3 H b z (o+i * z) (rows.drop i)
 | _,_,0,x=>by simpa using x
 | _,[],_+1,_=>by simp[qs3]
 | o,q::rs,i+1,x=>by
  simp only[qs3]at x;have:=x.2.2.drop i;have e2:o+z+i * z=o+(i+1) * z:=by rw[Nat.add_mul]; omega
  rw[e2]at this;simpa using this
theorem qs3.take {H:PH} {b z:Nat}:∀ {o:Nat} {rows:List (List PV)} (i:Nat),qs3 H b z o rows->qs3 H b z o (rows.take i)
 | _,_,0,_=>by simp[qs3]
 | _,[],_+1,_=>by simp[qs3]
 | o,q::rs,i+1,x=>by
  simp only[qs3,List.take_succ_cons]at x ⊢;exact⟨x.1,x.2.1,x.2.2.take i⟩
mutual
def nle:PV->PV->Prop
 | .nilsl,.sl rows=>rows=[]
 | .agg a,.agg b=>zj9 a b
 | .tup a,.tup b=>zj9 a b
 | a,b=>a=b
def zj9:List PV->List PV->Prop
 | [],[]=>True
 | a::l,b::m=>nle a b/\zj9 l m
 | _,_=>False
end
mutual
theorem zak {H:PH}:∀ {p q:PV} {v:Value},nle p q->qco H p v->qco H q v
 | .nilsl,q,v,h,r=>by
  cases q<;>simp only[nle]at h<;>first|(subst h; simp only[qco]at *; exact .inl ⟨trivial,.inl r⟩)|exact r|cases h
 | .agg a,q,v,h,r=>by
  cases q<;>simp only[nle]at h<;>try cases h
  simp only[qco]at *;obtain⟨vs,e,rr⟩:=r;exact⟨vs,e,q0m h rr⟩
 | .tup a,q,v,h,r=>by
  cases q<;>simp only[nle]at h<;>try cases h
  simp only[qco]at *;obtain⟨vs,e,rr⟩:=r;exact⟨vs,e,q0m h rr⟩
 | .bool _,q,v,h,r|.int ..,q,v,h,r|.str _,q,v,h,r|.sl _,q,v,h,r|.nilp,q,v,h,r|.fn _,q,v,h,r|.nilfn,q,v,h,r|.nili,q,v,h,r|.ifc ..,q,v,h,r|.nilmap,q,v,h,r=>by
  cases q<;>simp only[nle]at h<;>cases h<;>exact r
theorem q0m {H:PH}:∀ {p q:List PV} {v:List Value},zj9 p q->qdi H p v->qdi H q v
 | [],[],_,_,r=>r
 | [],_::_,_,h,_=>by simp[zj9]at h
 | _::_,[],_,h,_=>by simp[zj9]at h
 | a::l,b::m,vs,h,r=>by
  simp only[zj9]at h;simp only[qdi]at *;obtain⟨v,vs',e,r1,r2⟩:=r;exact⟨v,vs',e,zak h.1 r1,q0m h.2 r2⟩
end
def zaw:List (List PV)->List (List PV)->Prop
 | [],[]=>True
 | a::l,b::m=>zj9 a b/\zaw l m
 | _,_=>False
theorem q25:∀ {p q:List PV},zj9 p q->p.length=q.length
 | [],[],_=>rfl
 | [],_::_,h=>by simp[zj9]at h
 | _::_,[],h=>by simp[zj9]at h
 | a::l,b::m,h=>by simp only[zj9]at h; simp[q25 h.2]
theorem qx2:∀ {p q:List (List PV)},zaw p q->p.length=q.length
 | [],[],_=>rfl
 | [],_::_,h=>by simp[zaw]at h
 | _::_,[],h=>by simp[zaw]at h
 | a::l,b::m,h=>by simp only[zaw]at h; simp[qx2 h.2]
theorem zlo {H:PH} {b z:Nat}:∀ {o:Nat} {p q:List (List PV)},zaw p q->qs3 H b z o p->qs3 H b z o q
 | _,[],[],_,_=>by simp only[qs3]
 | _,[],_::_,h,_=>by simp[zaw]at h
 | _,_::_,[],h,_=>by simp[zaw]at h
 | o,r::rs,s::ss,h,x=>by
  simp only[zaw]at h;simp only[qs3]at *;obtain⟨e,⟨vs,q,c⟩,x'⟩:=x;exact⟨by rw[← e,q25 h.1],⟨vs,q0m h.1 q,c⟩,zlo h.2 x'⟩
theorem zx3 {H:PH} {p q:List (List PV)} {v:Value} (h:p=q\/zaw p q) (r:qco H (.sl p) v):qco H (.sl q) v:=by
 rcases h with rfl|h
 ·exact r
 simp only[qco]at *;rcases r with ⟨rfl,r⟩|⟨b,o,z,cap,e,l,r⟩
 ·cases q with
  | nil=>exact .inl ⟨rfl,r⟩
  | cons _ _=>simp[zaw]at h
 ·have e2:=qx2 h
  exact .inr ⟨b,o,z,cap,by rw[← e2]; exact e,by rw[← e2]; exact l,zlo h r⟩
def qch (ρ:List Value) (H:PH):FV->Value->Prop
 | .top,_=>True
 | .p p,x=>qco H p x
 | .opt g v,x=>if g=true then qch ρ H v x else x=undef
 | .tsl k rows,x=>ρ[k]? =some x/\qco H (.sl rows) x
 | .ptr k off,x=>∃ b,ρ[k]? =some (.pointer (some ⟨b,0,none⟩))/\x=.pointer (some ⟨b,off,none⟩)
 | .hptr row,x=>∃ b o vs,x=.pointer (some ⟨b,o,none⟩)/\qdi H row vs/\∀ j v,vs[j]? =some v->H b (o+j)=some v
 | .bself k,x=>∃ b,ρ[k]? =some (.pointer (some ⟨b,0,none⟩))/\(x=.pointer none\/x=.pointer (some ⟨b,0,none⟩))
 | .bsl k off len cap,x=>∃ b,ρ[k]? =some (.pointer (some ⟨b,0,none⟩))/\x=.slice (some ⟨b,off,none⟩) len cap
 | .vsl k n,x=>ρ[k]? =some x/\((n=0/\x=.slice none 0 0)\/∃ b cap,x=.slice (some ⟨b,0,none⟩) n cap)
 | .eptr k z i off,x=>∃ b n cap,ρ[k]? =some (.slice (some ⟨b,0,none⟩) n cap)/\x=.pointer (some ⟨b,i * z+off,none⟩)
 | .mref k,x=>∃ b,ρ[k]? =some (.map (some b))/\x=.map (some b)
 | .pair a b,x=>∃ u v,x=.tuple #[u,v]/\qch ρ H a u/\qch ρ H b v
 | .stmp k,x=>ρ[k]? =some x
 | .clo f c,x=>∃ vs:List Value,x=.func (.func f) #[] vs.toArray/\qch ρ H c (.tuple vs.toArray)
 | .cap0,x=>x=.tuple #[]
 | .cap a b,x=>∃ (u:Value) (vs:List Value),x=.tuple (u::vs).toArray/\qch ρ H a u/\qch ρ H b (.tuple vs.toArray)
 | .fagg c,x=>∃ vs:List Value,x=.agg vs.toArray/\qch ρ H c (.tuple vs.toArray)
 | .nxt ok a b,x=>if ok=true then ∃ u v,x=.tuple #[.bool true,u,v]/\qco H a u/\qco H b v else x=.tuple #[.bool false]
 | .asl k off n,x=>∃ b n' cap' c,ρ[k]? =some (.slice (some ⟨b,0,none⟩) n' cap')/\x=.slice (some ⟨b,off,none⟩) n c
theorem qch.mono {ρ ρ':List Value} {H H':PH} (hr:ρ <+: ρ') (h:PH.le H H'):∀ {f:FV} {x:Value},qch ρ H f x->qch ρ' H' f x
 | .top,_,_=>trivial
 | .p p,x,r=>qco.mono h (p:=p) r
 | .opt g v,x,r=>by
  simp only[qch]at *;split
  ·rename_i hg; simp only[hg,if_true]at r; exact qch.mono hr h r
  rename_i hg; simpa[hg]using r
 | .tsl k rows,x,r=>by
  obtain⟨l,rfl⟩:=hr;refine⟨?_,qco.mono h r.2⟩;rw[jC (jH.1 r.1).1]; exact r.1
 | .ptr k off,x,r=>by
  obtain⟨l,rfl⟩:=hr;obtain⟨b,e,e'⟩:=r;refine⟨b,?_,e'⟩;rw[jC (jH.1 e).1]; exact e
 | .hptr row,x,r=>by
  obtain⟨b,o,vs,e,q,c⟩:=r;exact⟨b,o,vs,e,qdi.mono h q,fun j v hv=>h _ _ _ (c j v hv)⟩
 | .bself k,x,r=>by
  obtain⟨l,rfl⟩:=hr;obtain⟨b,e,e'⟩:=r;refine⟨b,?_,e'⟩;rw[jC (jH.1 e).1]; exact e
 | .bsl k off len cap,x,r=>by
  obtain⟨l,rfl⟩:=hr;obtain⟨b,e,e'⟩:=r;refine⟨b,?_,e'⟩;rw[jC (jH.1 e).1]; exact e
 | .vsl k n,x,r=>by
  obtain⟨l,rfl⟩:=hr;refine⟨?_,r.2⟩;rw[jC (jH.1 r.1).1]; exact r.1
 | .eptr k z i off,x,r=>by
  obtain⟨l,rfl⟩:=hr;obtain⟨b,n,cap,e,e'⟩:=r;refine⟨b,n,cap,?_,e'⟩;rw[jC (jH.1 e).1]; exact e
 | .mref k,x,r=>by
  obtain⟨l,rfl⟩:=hr;obtain⟨b,e,e'⟩:=r;refine⟨b,?_,e'⟩;rw[jC (jH.1 e).1]; exact e
 | .pair a b,x,r=>by
  obtain⟨u,v,e,ra,rb⟩:=r;exact⟨u,v,e,ra.mono hr h,rb.mono hr h⟩
 | .stmp k,x,r=>by
  obtain⟨l,rfl⟩:=hr;simp only[qch]at *;rw[jC (jH.1 r).1]; exact r
 | .clo f c,x,r=>by
  obtain⟨vs,e,rc⟩:=r;exact⟨vs,e,rc.mono hr h⟩
 | .cap0,x,r=>r
 | .cap a b,x,r=>by
  obtain⟨u,vs,e,ra,rb⟩:=r;exact⟨u,vs,e,ra.mono hr h,rb.mono hr h⟩
 | .fagg c,x,r=>by
  obtain⟨vs,e,rc⟩:=r;exact⟨vs,e,rc.mono hr h⟩
 | .nxt ok a b,x,r=>by
  simp only[qch]at *;split
  ·rename_i hok
   simp only[hok,if_true]at r;obtain⟨u,v,e,ra,rb⟩:=r;exact⟨u,v,e,ra.mono h,rb.mono h⟩
  rename_i hok; simpa[hok]using r
 | .asl k off n,x,r=>by
  obtain⟨l,rfl⟩:=hr;obtain⟨b,n',cap',c,e,e'⟩:=r;refine⟨b,n',cap',c,?_,e'⟩;rw[jC (jH.1 e).1]; exact e
def qd7 (ρ:List Value) (H:PH):List FV->List Value->Prop
 | [],vs=>vs=[]
 | c::cs,vs=>∃ v vs',vs=v::vs'/\qch ρ H c v/\qd7 ρ H cs vs'
theorem qd7.mono {ρ ρ':List Value} {H H':PH} (hr:ρ <+: ρ') (h:PH.le H H'):∀ {cs:List FV} {vs:List Value},qd7 ρ H cs vs->qd7 ρ' H' cs vs
 | [],_,x=>x
 | c::cs,vs,x=>by
  obtain⟨v,vs',e,r,rs⟩:=x;exact⟨v,vs',e,r.mono hr h,rs.mono hr h⟩
theorem qd7.length {ρ:List Value} {H:PH}:∀ {cs:List FV} {vs:List Value},qd7 ρ H cs vs->vs.length=cs.length
 | [],vs,x=>by simp only[qd7]at x; simp[x]
 | c::cs,vs,x=>by
  obtain⟨v,vs',e,_,rs⟩:=x;simp[e,qd7.length rs]
theorem qd7.drop {ρ:List Value} {H:PH}:∀ {cs:List FV} {vs:List Value} (n:Nat),qd7 ρ H cs vs->qd7 ρ H (cs.drop n) (vs.drop n)
 | _,_,0,x=>by simpa using x
 | [],vs,n+1,x=>by simp only[qd7]at x; simp[x,qd7]
 | c::cs,vs,n+1,x=>by
  obtain⟨v,vs',e,r,rs⟩:=x;subst e;simpa using rs.drop n
theorem qd7.take {ρ:List Value} {H:PH}:∀ {cs:List FV} {vs:List Value} (n:Nat),qd7 ρ H cs vs->qd7 ρ H (cs.take n) (vs.take n)
 | _,_,0,x=>by simp[qd7]
 | [],vs,n+1,x=>by simp only[qd7]at x; simp[x,qd7]
 | c::cs,vs,n+1,x=>by
  obtain⟨v,vs',e,r,rs⟩:=x;subst e;simp only[List.take_succ_cons,qd7];exact⟨v,_,rfl,r,rs.take n⟩
theorem qd7.of_RepL {ρ:List Value} {H:PH}:∀ {cs:List PV} {vs:List Value},qdi H cs vs->qd7 ρ H (cs.map .p) vs
 | [],_,x=>by simp only[qdi]at x; simpa[qd7]using x
 | c::cs,vs,x=>by
  simp only[qdi]at x;obtain⟨v,vs',e,r,rs⟩:=x;exact⟨v,vs',e,r,qd7.of_RepL rs⟩
def zkv (H:PH):Prop:=∃ m,H 0 0=some (.int .i64 m)
structure SatH (H:PH) (w:World):Prop where
 cell:∀ b o v,H b o=some v->w.cell? ⟨b,o,none⟩=some v/\v.oneCell'=true
 root:zkv H
instance {H:PH} {w:World}:CoeFun (SatH H w) (fun _=>∀ b o v,H b o=some v->w.cell? ⟨b,o,none⟩=some v/\v.oneCell'=true):=⟨SatH.cell⟩
theorem zkv.mono {H H':PH} (h:zkv H) (hle:∀ b o v,H b o=some v->H' b o=some v):zkv H':=let ⟨m,hm⟩:=h; ⟨m,hle _ _ _ hm⟩
structure Keep (S:Nat->Prop) (w0 w:World):Prop where
 os:w.os=w0.os
 tape:w.tape=w0.tape
 output:w.output=w0.output
 size:w0.heap.size<=w.heap.size
 block:∀ k,k<w0.heap.size->¬ S k->w.heap[k]? =w0.heap[k]?
theorem Keep.refl (S:Nat->Prop) (w:World):Keep S w w:=⟨rfl,rfl,rfl,jx _,fun _ _ _=>rfl⟩
theorem Keep.trans {S:Nat->Prop} {a b c:World} (h:Keep S a b) (k:Keep S b c):Keep S a c:=
 ⟨k.os.trans h.os,k.tape.trans h.tape,k.output.trans h.output,Nat.le_trans h.size k.size,
  fun i hi hs=>(k.block i (Nat.lt_of_lt_of_le hi h.size) hs).trans (h.block i hi hs)⟩
theorem Keep.step {S S':Nat->Prop} {a b c:World} (h:Keep S a b) (k:Keep S' b c) (hs:∀ i,S' i->S i\/a.heap.size<=i):Keep S a c:=
 ⟨k.os.trans h.os,k.tape.trans h.tape,k.output.trans h.output,Nat.le_trans h.size k.size,
  fun i hi hn=>(k.block i (Nat.lt_of_lt_of_le hi h.size) (fun x=>(hs i x).elim hn (by omega))).trans (h.block i hi hn)⟩
abbrev zku:Nat->Prop:=fun _=>False
structure Base where
 S:Nat->Prop
 w0:World
 H0:PH
 r0:List Value
def qcj:Value->Option Nat
 | .pointer (some a)=>some a.block
 | .slice (some a) _ _=>some a.block
 | .map r=>r
 | _=>none
def qre (H:PH) (z:Nat):List (List PV)->List Value->Prop
 | [],vs=>vs=[]
 | r::rs,vs=>r.length=z/\∃ a b,vs=a++b/\qdi H r a/\qre H z rs b
theorem qre.mono {H H':PH} (h:PH.le H H') {z:Nat}:∀ {rows:List (List PV)} {vs:List Value},qre H z rows vs->qre H' z rows vs
 | [],_,x=>x
 | r::rs,vs,x=>by
  obtain⟨hz,a,b,e,q,y⟩:=x;exact⟨hz,a,b,e,qdi.mono h q,y.mono h⟩
def ze7 (H:PH):List (PV×PV)->List MapEntry->Prop
 | [],l=>l=[]
 | (k,p)::es,l=>∃ e l',l=e::l'/\qco H k e.key/\qco H p e.val/\ze7 H es l'
theorem ze7.mono {H H':PH} (h:PH.le H H'):∀ {es:List (PV×PV)} {l:List MapEntry},ze7 H es l->ze7 H' es l
 | [],_,x=>x
 | (k,p)::es,l,x=>by
  obtain⟨e,l',e1,rk,rp,rr⟩:=x;exact⟨e,l',e1,qco.mono h rk,qco.mono h rp,rr.mono h⟩
def zks (ρ:List Value) (H:PH) (ents:Array MapEntry) (mk:Option (PV×Nat)):Prop:=
 ∀ key s,mk=some (key,s)->∃ (j:Nat) (e:MapEntry),ents[j]? =some e/\qco H key e.key/\ρ[s]? =some (.int .i64 e.born)
theorem zks.mono {ρ ρ':List Value} {H H':PH} {ents:Array MapEntry} {mk:Option (PV×Nat)} (hr:ρ <+: ρ') (h:PH.le H H') (m:zks ρ H ents mk):zks ρ' H' ents mk:=fun key s e=>by
 obtain⟨j,x,hj,hk,hs⟩:=m key s e;obtain⟨l,rfl⟩:=hr;exact⟨j,x,hj,qco.mono h hk,by rw[jC (jH.1 hs).1]; exact hs⟩
def qys (ρ:List Value) (H:PH) (w:World) (v:Value):AObj->Prop
 | .dead=>True
 | .box t cells=>∃ b vs,v=.pointer (some ⟨b,0,none⟩)/\w.heap[b]? =some (.cells vs.toArray t (0,0))/\qd7 ρ H cells vs/\∀ o,H b o=none
 | .tail e z n=>∃ xs,w.ownsRow 0 e z v n xs/\∀ b,qcj v=some b->(∀ j u,xs[j]? =some u->H b j=some u)/\∀ o,n * z<=o->H b o=none
 | .vec e z rows=>∃ xs,w.ownsRow 0 e z v rows.length xs/\qre H z rows xs/\(∀ u∈xs,u.oneCell'=true)/\∀ b,qcj v=some b->∀ o,H b o=none
 | .mp d es mk=>∃ b ents clock,v=.map (some b)/\w.heap[b]? =some (.map ents clock)/\ze7 H es ents.toList/\(MapKept.Stamped ents clock/\(∀ x∈ents.toList,MapKept.IsKey d x.key)/\zks ρ H ents mk)/\∀ o,H b o=none
 | .sit l pos=>∃ b,v=.pointer (some ⟨b,0,none⟩)/\w.heap[b]? =some (.stringIter ⟨l.toArray⟩ pos)/\∀ o,H b o=none
 | .bv l=>∃ b cs e cap lo hi,v=.slice (some ⟨b,0,none⟩) l.length cap/\w.heap[b]? =some (.cells cs e (lo,hi))/\(l.length<=lo\/hi<=lo)/\(∀ (j:Nat) (c:UInt8),l[j]? =some c->cs[j]? =some (.int .u8 c.toNat))/\∀ o,H b o=none
 | .vl e z rows j k=>∃ xs,w.ownsRow 0 e z v rows.length xs/\qre H z rows xs/\(∀ u∈xs,u.oneCell'=true)/\(∀ b,qcj v=some b->∀ o,H b o=none)/\∀ u,xs[(rows.length - 1) * z+j]? =some u->ρ[k]? =some u
structure SatW (bs:Base) (ρ:List Value) (H:PH) (lo:List AObj) (w:World):Prop where
 sath:SatH H w
 hlen:ρ.length=lo.length
 pre:bs.r0 <+: ρ
 objs:∀ (k:Nat) (o:AObj) (v:Value),lo[k]? =some o->ρ[k]? =some v->qys ρ H w v o
 excl:∀ (k k':Nat) (o o':AObj) (v v':Value) (b:Nat),lo[k]? =some o->lo[k']? =some o'->ρ[k]? =some v->ρ[k']? =some v'->k≠k' ->
  o.live=true->o'.live=true->qcj v=some b->qcj v'≠some b
 own:∀ (k:Nat) (o:AObj) (v:Value) (b:Nat),lo[k]? =some o->ρ[k]? =some v->o.live=true->qcj v=some b->bs.S b\/bs.w0.heap.size<=b
 keep:Keep bs.S bs.w0 w
 leH:PH.le bs.H0 H
 newH:∀ b o v,H b o=some v->(∃ v,bs.H0 b o=some v)\/bs.S b\/bs.w0.heap.size<=b
structure Sat (bs:Base) (N:Nat) (ρ:List Value) (H:PH) (e:Nat->FV) (lo:List AObj) (a:Act) (w:World):Prop extends SatW bs ρ H lo w where
 slots:∀ t,qch ρ H (e t) (a.tmps.getD t undef)
 width:a.tmps.size=N
 defers:a.defers=[]
structure Calm (H:PH) (w:World) (H':PH) (w':World):Prop where
 le:PH.le H H'
 sat:SatH H' w'
 keep:Keep zku w w'
 new:∀ b o v,H' b o=some v->(∃ v,H b o=some v)\/w.heap.size<=b
theorem Calm.refl {H:PH} {w:World} (h:SatH H w):Calm H w H w:=⟨PH.le.refl H,h,Keep.refl _ w,fun _ _ v h=>.inl ⟨v,h⟩⟩
theorem Calm.trans {H H' H'':PH} {w w' w'':World} (h:Calm H w H' w') (k:Calm H' w' H'' w''):Calm H w H'' w'':=
 ⟨h.le.trans k.le,k.sat,h.keep.trans k.keep,fun b o v hv=>by
  rcases k.new b o v hv with ⟨v',hv'⟩|hb
  ·exact h.new b o v' hv'
  exact .inr (Nat.le_trans h.keep.size hb)⟩
theorem SatH.block {H:PH} {w w':World} (h:SatH H w) (e:∀ b o v,H b o=some v->w'.heap[b]? =w.heap[b]?):SatH H w':=⟨fun b o v hv=>by
 rw[World.cell?_of_block (w:=w) (a:=⟨b,o,none⟩) (e b o v hv)]; exact h.cell b o v hv,h.root⟩
theorem SatH.lt {H:PH} {w:World} (h:SatH H w) {b o:Nat} {v:Value} (hv:H b o=some v):b<w.heap.size:=
 World.block_lt_of_cell? w ⟨b,o,none⟩ (h.cell b o v hv).1
theorem qil {w:World} {b:Nat} {o:Obj} (h:w.heap[b]? =some o):b<w.heap.size:=(jI.1 h).1
theorem qx3 {w w':World} {e:TypeId} {z n:Nat} {v:Value} {xs:List Value} (h:w.ownsRow 0 e z v n xs)
  (hb:∀ b,qcj v=some b->b<w.heap.size->w'.heap[b]? =w.heap[b]?):w'.ownsRow 0 e z v n xs:=by
 refine⟨h.1,?_⟩;rcases h.2 with h2|⟨g,cap,cur,hv,h0,hg,r⟩
 ·exact .inl h2
 refine .inr ⟨g,cap,cur,hv,h0,?_,r⟩;rw[hb g (by simp[hv,qcj]) (qil hg)]; exact hg
theorem qys.keep {ρ ρ':List Value} {H H':PH} {w w':World} {v:Value} {o:AObj} (h:qys ρ H w v o) (hr:ρ <+: ρ') (hH:PH.le H H')
  (hb:∀ b,qcj v=some b->b<w.heap.size->w'.heap[b]? =w.heap[b]?) (hn:∀ b o',qcj v=some b->b<w.heap.size->H b o'=none->H' b o'=none) :
  qys ρ' H' w' v o:=by
 cases o with
 | dead=>trivial
 | box t cells=>
  obtain⟨b,vs,rfl,hg,hc,hh⟩:=h;have hlt:=qil hg;exact⟨b,vs,rfl,by rw[hb b (by simp[qcj]) hlt]; exact hg,hc.mono hr hH,fun o=>hn b o (by simp[qcj]) hlt (hh o)⟩
 | tail e z n=>
  obtain⟨xs,ho,hh⟩:=h;refine⟨xs,qx3 ho hb,fun b hv=>⟨fun j u hu=>hH _ _ _ ((hh b hv).1 j u hu),fun o hno=>?_⟩⟩
  have hlt:b<w.heap.size:=by
   rcases ho.2 with ⟨rfl,_⟩|⟨g,cap,cur,rfl,_,hg,_⟩
   ·simp[qcj]at hv
   simp[qcj]at hv; subst hv; exact qil hg
  exact hn b o hv hlt ((hh b hv).2 o hno)
 | vec e z rows=>
  obtain⟨xs,ho,hr',h1,hh⟩:=h;refine⟨xs,qx3 ho hb,hr'.mono hH,h1,fun b hv o=>?_⟩;have hlt:b<w.heap.size:=by
   rcases ho.2 with ⟨rfl,_⟩|⟨g,cap,cur,rfl,_,hg,_⟩
   ·simp[qcj]at hv
   simp[qcj]at hv; subst hv; exact qil hg
  exact hn b o hv hlt (hh b hv o)
 | mp d es mk=>
  obtain⟨b,ents,clock,rfl,hg,hr',⟨h1,h2,h3⟩,hh⟩:=h;have hlt:=qil hg;exact⟨b,ents,clock,rfl,by rw[hb b (by simp[qcj]) hlt]; exact hg,hr'.mono hH,⟨h1,h2,h3.mono hr hH⟩,fun o=>hn b o (by simp[qcj]) hlt (hh o)⟩
 | sit l pos=>
  obtain⟨b,rfl,hg,hh⟩:=h;have hlt:=qil hg;exact⟨b,rfl,by rw[hb b (by simp[qcj]) hlt]; exact hg,fun o=>hn b o (by simp[qcj]) hlt (hh o)⟩
 | bv l=>
  obtain⟨b,cs,e,cap,lo,hi,rfl,hg,h1,h2,hh⟩:=h;have hlt:=qil hg;exact⟨b,cs,e,cap,lo,hi,rfl,by rw[hb b (by simp[qcj]) hlt]; exact hg,h1,h2,fun o=>hn b o (by simp[qcj]) hlt (hh o)⟩
 | vl e z rows j k=>
  obtain⟨xs,ho,hr',h1,hh,hk⟩:=h;refine⟨xs,qx3 ho hb,hr'.mono hH,h1,fun b hv o=>?_,fun u hu=>?_⟩
  ·have hlt:b<w.heap.size:=by
    rcases ho.2 with ⟨rfl,_⟩|⟨g,cap,cur,rfl,_,hg,_⟩
    ·simp[qcj]at hv
    simp[qcj]at hv; subst hv; exact qil hg
   exact hn b o hv hlt (hh b hv o)
  have hu:=hk u hu;obtain⟨l,rfl⟩:=hr;rw[jC (jH.1 hu).1]; exact hu
theorem SatW.calm {bs:Base} {ρ:List Value} {H H':PH} {lo:List AObj} {w w':World} (s:SatW bs ρ H lo w) (c:Calm H w H' w'):SatW bs ρ H' lo w' where
 sath:=c.sat
 hlen:=s.hlen
 pre:=s.pre
 objs:=fun k o v hk hv=>(s.objs k o v hk hv).keep (jr _) c.le (fun b _ hb=>c.keep.block b hb id) (fun b o' _ hb hn=>by
  cases hx:H' b o' with
  | none=>rfl
  | some x=>
   rcases c.new b o' x hx with ⟨y,hy⟩|hge
   ·rw[hn]at hy; cases hy
   omega)
 excl:=s.excl
 own:=s.own
 keep:=s.keep.step c.keep (fun _ h=>h.elim)
 leH:=s.leH.trans c.le
 newH:=fun b o v hv=>by
  rcases c.new b o v hv with ⟨y,hy⟩|hge
  ·exact s.newH b o y hy
  exact .inr (.inr (Nat.le_trans s.keep.size hge))
theorem SatW.view {bs:Base} {ρ:List Value} {H:PH} {lo:List AObj} {w:World} (s:SatW bs ρ H lo w) {k:Nat} {o o':AObj} (hk:lo[k]? =some o) (hl:o.live=true) (_:o'.live=true) (h:∀ v,ρ[k]? =some v->qys ρ H w v o->qys ρ H w v o') :
  SatW bs ρ H (lo.set k o') w:=by
 have old:∀ {x:Nat} {ob:AObj},(lo.set k o')[x]? =some ob->ob.live=true->∃ ob',lo[x]? =some ob'/\ob'.live=true:=by
  intro x ob hx hl';rw[jG]at hx;split at hx
  ·rename_i e; subst e; exact⟨o,hk,hl⟩
  exact⟨ob,hx,hl'⟩
 refine{ s with hlen:=by simpa using s.hlen,objs:=fun i ob v hi hv=>?_,excl:=fun i j oi oj vi vj b hi hj hvi hvj hne hli hlj hb=>?_,own:=fun i ob v b hi hv hl' hb=>?_ }
 ·rw[jG]at hi
  split at hi
  ·rename_i e
   subst e;split at hi
   ·cases hi
    exact h v hv (s.objs k o v hk hv)
   cases hi
  ·exact s.objs i ob v hi hv
 ·obtain⟨o1,h1,l1⟩:=old hi hli
  obtain⟨o2,h2,l2⟩:=old hj hlj;exact s.excl i j o1 o2 vi vj b h1 h2 hvi hvj hne l1 l2 hb
 obtain⟨o1,h1,l1⟩:=old hi hl';exact s.own i o1 v b h1 hv l1 hb
theorem zuj {ρ:List Value} {H:PH} {w:World} {v:Value} {e:TypeId} {z j k:Nat} {rows:List (List PV)} (h:qys ρ H w v (.vl e z rows j k)):qys ρ H w v (.vec e z rows):=
 let ⟨xs,h1,h2,h3,h4,_⟩:=h
 ⟨xs,h1,h2,h3,h4⟩
end Ax
end
section
namespace Ax
open Go
abbrev Env:=List (Nat×FV)
def qcc:Env->Nat->FV
 | [],_=>.top
 | (t',v)::E,t=>match Nat.beq t t' with|true=>v|false=>qcc E t
def zt9:Env->Nat->(FV->Prop)->Prop
 | [],_,R=>R .top
 | (t',v)::E,t,R=>match Nat.beq t t' with|true=>R v|false=>zt9 E t R
def ztx (v:PV) (R:PV->Prop):Prop:=
 match v with
 | .bool b=>R (.bool b)|.int k n=>R (.int k n)|.str l=>R (.str l)
 | .agg cs=>R (.agg cs)|.tup vs=>R (.tup vs)|.nilsl=>R .nilsl|.sl rows=>R (.sl rows)
 | .nilp=>R .nilp|.fn f=>R (.fn f)|.nilfn=>R .nilfn|.nili=>R .nili|.ifc t v=>R (.ifc t v)|.nilmap=>R .nilmap
def zol (v:FV) (R:FV->Prop):Prop:=
 match v with
 | .top=>R .top
 | .p v=>ztx v fun v=>R (.p v)
 | .opt g v=>R (.opt g v)
 | .tsl k rows=>R (.tsl k rows)
 | .ptr k off=>R (.ptr k off)
 | .hptr row=>R (.hptr row)
 | .bself k=>R (.bself k)
 | .bsl k off len cap=>R (.bsl k off len cap)
 | .vsl k n=>R (.vsl k n)
 | .eptr k z i off=>R (.eptr k z i off)
 | .mref k=>R (.mref k)
 | .pair a b=>R (.pair a b)
 | .stmp k=>R (.stmp k)
 | .clo f c=>R (.clo f c)
 | .cap0=>R .cap0
 | .cap a b=>R (.cap a b)
 | .fagg c=>R (.fagg c)
 | .nxt ok a b=>R (.nxt ok a b)
 | .asl k off n=>R (.asl k off n)
theorem zom (v:PV) (R:PV->Prop):ztx v R=R v:=by cases v<;>rfl
theorem zhc (v:FV) (R:FV->Prop):zol v R=R v:=by cases v<;>first|rfl|exact zom _ (fun v=>R (.p v))
def zws:Value->Option PV
 | .bool b=>some (.bool b)
 | .int k n=>some (.int k n)
 | .string ⟨⟨l⟩⟩=>some (.str l)
 | .slice none 0 0=>some .nilsl
 | .pointer none=>some .nilp
 | .nilIface=>some .nili
 | .nilFunc=>some .nilfn
 | .map none=>some .nilmap
 | _=>none
def znl:List Value->(List PV->Prop)->Prop
 | [],R=>R []
 | v::vs,R=>match zws v with|some p=>znl vs fun l=>R (p::l)|none=>False
def zxl:Value->FV
 | .tuple ⟨[]⟩=>.p (.tup [])
 | v=>match zws v with|some p=>.p p|none=>.top
def evF (e:Nat->FV):Operand->FV
 | .tmp t=>e t
 | .const v=>zxl v
 | .func f=>.p (.fn f)
 | .global _=>.top
def ev (E:Env) (x:Operand) (R:FV->Prop):Prop:=
 match x with
 | .tmp t=>zt9 E t R
 | .const v=>zol (zxl v) R
 | .func f=>R (.p (.fn f))
 | .global _=>R .top
abbrev G:=Option Bool
def gOn (g:G):Prop:=match g with|none=>True|some b=>b=true
def gI (g:G) (p:Prop):Prop:=match g with|none=>p|some b=>b=true->p
def evS (E:Env) (g:G) (x:Operand) (R:FV->Prop):Prop:=
 ev E x fun v=>match v with
 | .opt g' v'=>gI g (g'=true)/\R v'
 | v=>R v
def zw8:List FV->FV
 | []=>.cap0
 | v::l=>.cap v (zw8 l)
def q3y:FV->(List FV->Prop)->Prop
 | .cap0,R=>R []
 | .cap a b,R=>q3y b fun l=>R (a::l)
 | _,_=>False
def q4o {α:Type}:Nat->List α->(List α->Prop)->Prop
 | 0,_,R=>R []
 | n+1,l,R=>match l with|[]=>False|a::l=>q4o n l fun l=>R (a::l)
def qyu {α:Type}:Nat->List α->(List α->Prop)->Prop
 | 0,l,R=>R l
 | n+1,l,R=>match l with|[]=>False|_::l=>qyu n l R
def qyn {α:Type}:Nat->List α->(α->Prop)->Prop
 | 0,l,R=>match l with|[]=>False|a::_=>R a
 | n+1,l,R=>match l with|[]=>False|_::l=>qyn n l R
def q4x {α:Type}:Nat->α->List α->(List α->Prop)->Prop
 | 0,x,l,R=>match l with|[]=>False|_::l=>R (x::l)
 | n+1,x,l,R=>match l with|[]=>False|a::l=>q4x n x l fun l=>R (a::l)
def qyz {α:Type}:List α->α->(List α->Prop)->Prop
 | [],x,R=>R [x]
 | a::l,x,R=>qyz l x fun l=>R (a::l)
def q5w {α:Type}:List α->Nat->(Nat->Prop)->Prop
 | [],n,R=>R n
 | _::l,n,R=>q5w l (n+1) R
def zm0 (P:Program) (t:TypeId):Nat:=match P.info? t with|some i=>i.size|none=>0
def zts:TypeDesc->Bool
 | .struct _|.array _ _=>true
 | _=>false
def qs6 (P:Program) (t:TypeId) (R:Bool->Nat->Prop):Prop:=
 match P.underlying t with
 | some d=>match P.info? t with
  | some i=>R (zts d) i.size
  | none=>False
 | none=>False
def zcw (P:Program) (t:TypeId) (f:Nat) (R:Nat->TypeId->Prop):Prop:=
 match P.underlying t with
 | some (.struct ⟨fs⟩)=>qyn f fs fun x=>match P.info? x.type with
  | some i=>match Nat.beq i.size 0 with|true=>False|false=>R x.offset x.type
  | none=>False
 | _=>False
def zoo (v:FV) (R:PV->Prop):Prop:=
 match v with
 | .p v=>R v
 | .tsl _ rows=>R (.sl rows)
 | _=>False
def znj:List FV->(List PV->Prop)->Prop
 | [],R=>R []
 | v::l,R=>zoo v fun v=>znj l fun l=>R (v::l)
def evL (E:Env) (g:G):List Operand->(List FV->Prop)->Prop
 | [],R=>R []
 | x::l,R=>evS E g x fun v=>evL E g l fun l=>R (v::l)
def qhj:Int:=9223372036854775807
def zx7 (op:BinOp) (k:IntKind) (a b:Int) (R:PV->Prop):Prop:=
 match op with
 | .add=>R (.int k (k.wrap (a+b)))
 | .sub=>R (.int k (k.wrap (a - b)))
 | .mul=>R (.int k (k.wrap (a * b)))
 | .eql=>R (.bool (a==b))
 | .neq=>R (.bool (a != b))
 | .lss=>R (.bool (decide (a<b)))
 | .leq=>R (.bool (decide (a<=b)))
 | .gtr=>R (.bool (decide (a>b)))
 | .geq=>R (.bool (decide (a≥b)))
 | .and=>R (.int k (k.wrap (js k.bits a &&& js k.bits b).toNat))
 | .or=>R (.int k (k.wrap (js k.bits a ||| js k.bits b).toNat))
 | .xor=>R (.int k (k.wrap (js k.bits a ^^^ js k.bits b).toNat))
 | _=>False
def zx8 (g:G) (op:BinOp) (a b:List UInt8) (R:PV->Prop):Prop:=
 match op with
 | .add=>gI g (((a.length+b.length:Nat):Int)<=qhj)/\R (.str (a++b))
 | .eql=>R (.bool (a==b))
 | .neq=>R (.bool (!(a==b)))
 | .lss=>R (.bool (Op.bytesLess a b))
 | .leq=>R (.bool (Op.bytesLess a b||a==b))
 | .gtr=>R (.bool (!(Op.bytesLess a b||a==b)))
 | .geq=>R (.bool (!(Op.bytesLess a b)))
 | _=>False
def zx6 (op:BinOp) (a b:Bool) (R:PV->Prop):Prop:=
 match op with
 | .eql=>R (.bool (a==b))
 | .neq=>R (.bool (!(a==b)))
 | _=>False
def zo4 (P:Program) (t:TypeId) (R:Prop):Prop:=
 match P.underlying t with
 | some .bool=>R
 | _=>False
def q6j:IntKind->IntKind->Bool
 | .i8,.i8|.i16,.i16|.i32,.i32|.i64,.i64|.u8,.u8|.u16,.u16|.u32,.u32|.u64,.u64=>true
 | _,_=>false
theorem qrv {k k':IntKind} (h:q6j k k'=true):k=k':=by cases k<;>cases k'<;>first|rfl|cases h
def zmb (P:Program):List Field->Nat->List PV->Bool
 | [],_,[]=>true
 | f::fs,o,c::cs=>(f.name != "_")&&Nat.beq f.offset o&&(match P.underlying f.type,c with
  | some (.int _),.int _ _=>true
  | some .string,.str _=>true
  | some .bool,.bool _=>true
  | _,_=>false)&&zmb P fs (o+1) cs
 | _,_,_=>false
def zsa (P:Program) (t:TypeId) (cs:List PV):Bool:=
 match P.underlying t with
 | some (.struct ⟨fs⟩)=>!P.stoodInHeld t&&!P.eqGuardType P.depth t&&zmb P fs 0 cs
 | _=>false
def zog:List PV->List PV->(Bool->Prop)->Prop
 | [],[],R=>R true
 | .int k a::as,.int k' b::bs,R=>match q6j k k' with
  | true=>zog as bs fun c=>R (bif a==b then c else false)
  | false=>False
 | .str a::as,.str b::bs,R=>zog as bs fun c=>R (bif a==b then c else false)
 | .bool a::as,.bool b::bs,R=>zog as bs fun c=>R (bif a==b then c else false)
 | _,_,_=>False
def zxw (P:Program) (g:G) (op:BinOp) (t:TypeId) (x y:FV) (R:FV->Prop):Prop:=
 match x with
 | .p (.int k a)=>match y with
  | .p (.int k' b)=>match op with
   | .shl=>gI g (0<=b)/\R (.p (.int k (k.wrap (a * 2 ^ (min b.toNat k.bits)))))
   | .shr=>gI g (0<=b)/\R (.p (.int k (a.fdiv (2 ^ (min b.toNat k.bits)))))
   | .quo=>match q6j k k' with|true=>gI g (b≠0)/\R (.p (.int k (k.wrap (a.tdiv b))))|false=>False
   | .rem=>match q6j k k' with|true=>gI g (b≠0)/\R (.p (.int k (a.tmod b)))|false=>False
   | op=>match q6j k k' with|true=>zx7 op k a b fun v=>R (.p v)|false=>False
  | _=>False
 | .p (.str a)=>match y with
  | .p (.str b)=>zx8 g op a b fun v=>R (.p v)
  | _=>False
 | .p (.bool a)=>match y with
  | .p (.bool b)=>zo4 P t (zx6 op a b fun v=>R (.p v))
  | _=>False
 | .p (.agg as)=>match y with
  | .p (.agg bs)=>match op with
   | .eql=>zsa P t as=true/\zog as bs fun c=>R (.p (.bool c))
   | .neq=>zsa P t as=true/\zog as bs fun c=>R (.p (.bool (!c)))
   | _=>False
  | _=>False
 | _=>False
def zpa (P:Program) (t:TypeId) (x:FV) (f:Nat) (R:FV->Prop):Prop:=
 match x with
 | .ptr k off=>zcw P t f fun o _=>R (.ptr k (off+o))
 | .hptr row=>zcw P t f fun o _=>qyu o row fun r=>R (.hptr r)
 | .eptr k z i off=>zcw P t f fun o _=>R (.eptr k z i (off+o))
 | _=>False
def zu0 (P:Program) (t:TypeId) (x:FV) (f:Nat) (R:FV->Prop):Prop:=
 match x with
 | .p (.agg cs)=>zcw P t f fun o u=>qyu o cs fun r=>qs6 P u fun agg n=>match agg with
  | true=>q4o n r fun r=>R (.p (.agg r))
  | false=>match r with|c::_=>R (.p c)|[]=>False
 | _=>False
def q91 (P:Program) (t:TypeId) (R:TypeId->Nat->Prop):Prop:=
 match P.underlying t with
 | some (.slice e)=>match P.info? e with|some i=>R e i.size|none=>False
 | _=>False
def q5q (P:Program) (g:G) (t:TypeId) (x i:FV) (R:FV->Prop):Prop:=
 match x,i with
 | .p (.sl rows),.p (.int _ i)=>q91 P t fun _ z=>∃ row,gI g (0<=i/\rows[i.toNat]? =some row/\row.length=z)/\R (.hptr row)
 | .tsl _ rows,.p (.int _ i)=>q91 P t fun _ z=>∃ row,gI g (0<=i/\rows[i.toNat]? =some row/\row.length=z)/\R (.hptr row)
 | .ptr k off,.p (.int _ i)=>match P.underlying t with
  | some (.array n e)=>match P.info? e with
   | some ti=>gI g (0<=i/\i<n)/\R (.ptr k (off+i.toNat * ti.size))
   | none=>False
  | _=>False
 | .vsl k n,.p (.int _ i)=>q91 P t fun _ z=>∃ j:Nat,gI g (i=j/\j<n)/\R (.eptr k z j 0)
 | .eptr k z 0 0,.p (.int _ i)=>match P.underlying t with
  | some (.array n e)=>match P.info? e with
   | some ti=>match Nat.beq ti.size 1 with
    | true=>∃ j:Nat,gI g (z=1/\i=j/\j<n)/\R (.eptr k 1 j 0)
    | false=>False
   | none=>False
  | _=>False
 | _,_=>False
def zpb (P:Program) (g:G) (t:TypeId) (x i:FV) (R:FV->Prop):Prop:=
 match x,i with
 | .p (.str l),.p (.int _ i)=>match P.underlying t with
  | some .string=>∃ b,gI g (0<=i/\l[i.toNat]? =some b)/\R (.p (.int .u8 b.toNat))
  | _=>False
 | .p (.agg cs),.p (.int _ i)=>match P.underlying t with
  | some (.array n e)=>qs6 P e fun agg z=>match agg with
   | false=>match Nat.beq z 1 with
    | true=>∃ c,gI g (0<=i/\i<n/\cs[i.toNat]? =some c)/\R (.p c)
    | false=>False
   | true=>∃ c,gI g (0<=i/\i<n/\(cs.drop (i.toNat * z)).take z=c)/\R (.p (.agg c))
  | _=>False
 | _,_=>False
def qyl (E:Env) (g:G) (x:Option Operand) (d:Nat) (R:Nat->Prop):Prop:=
 match x with
 | none=>R d
 | some x=>evS E g x fun v=>match v with
  | .p (.int _ i)=>∃ n:Nat,gI g (i=n)/\R n
  | _=>False
def zpf (P:Program) (E:Env) (g:G) (t:TypeId) (x:FV) (lo hi mx:Option Operand) (R:FV->Prop):Prop:=
 match mx with
 | some _=>False
 | none=>match x with
  | .p (.str l)=>match P.underlying t with
   | some .string=>qyl E g hi l.length fun h=>qyl E g lo 0 fun a=>gI g (a<=h/\h<=l.length)/\R (.p (.str ((l.take h).drop a)))
   | _=>False
  | .p (.sl rows)=>match P.underlying t with
   | some (.slice e)=>match P.info? e with
    | some i=>qyl E g hi rows.length fun h=>qyl E g lo 0 fun a=>gI g (a<=h/\h<=rows.length/\∀ r∈rows,r.length=i.size)/\R (.p (.sl ((rows.take h).drop a)))
    | none=>False
   | _=>False
  | .tsl _ rows=>match P.underlying t with
   | some (.slice e)=>match P.info? e with
    | some i=>qyl E g hi rows.length fun h=>qyl E g lo 0 fun a=>gI g (a<=h/\h<=rows.length/\∀ r∈rows,r.length=i.size)/\R (.p (.sl ((rows.take h).drop a)))
    | none=>False
   | _=>False
  | .ptr k off=>match P.underlying t with
   | some (.array n e)=>match P.info? e with
    | some i=>match Nat.beq i.size 1 with
     | true=>qyl E g hi n fun h=>qyl E g lo 0 fun a=>gI g (a<=h/\h<=n/\a<n)/\R (.bsl k (off+a) (h - a) (n - a))
     | false=>False
    | none=>False
   | _=>False
  | .eptr k z 0 0=>match P.underlying t with
   | some (.array n e)=>match P.info? e with
    | some i=>match Nat.beq i.size 1 with
     | true=>qyl E g hi n fun h=>qyl E g lo 0 fun a=>gI g (z=1/\a<=h/\h<=n/\a<n)/\R (.asl k a (h - a))
     | false=>False
    | none=>False
   | _=>False
  | _=>False
def zxx (P:Program) (t:TypeId) (x:FV) (R:FV->Prop):Prop:=
 match x with
 | .p (.str l)=>match P.underlying t with|some .string=>R (.p (.int .i64 l.length))|_=>False
 | .p (.sl rows)=>match P.underlying t with|some (.slice _)=>R (.p (.int .i64 rows.length))|_=>False
 | .tsl _ rows=>match P.underlying t with|some (.slice _)=>R (.p (.int .i64 rows.length))|_=>False
 | .bsl _ _ n _=>match P.underlying t with|some (.slice _)=>R (.p (.int .i64 n))|_=>False
 | .vsl _ n=>match P.underlying t with|some (.slice _)=>R (.p (.int .i64 n))|_=>False
 | .p .nilsl=>match P.underlying t with|some (.slice _)=>R (.p (.int .i64 0))|_=>False
 | _=>False
def zfk (P:Program) (src dst:TypeId) (x:FV) (R:FV->Prop):Prop:=
 match x with
 | .p (.int _ n)=>match P.underlying src with
  | some (.int _)=>match P.underlying dst with
   | some (.int k)=>R (.p (.int k (k.wrap n)))
   | _=>False
  | _=>False
 | .p (.str l)=>match P.underlying src with
  | some .string=>match P.underlying dst with
   | some .string=>R (.p (.str l))
   | _=>False
  | _=>False
 | _=>False
def qau (l:List UInt8):List (List PV):=l.map fun b=>[.int .u8 b.toNat]
def u8T (P:Program) (src dst:TypeId) (R:Prop):Prop:=
 match P.underlying src with
 | some (.slice e)=>match P.underlying e with
  | some (.int .u8)=>match P.underlying dst with
   | some .string=>R
   | _=>False
  | _=>False
 | _=>False
def zx4 (P:Program) (src dst:TypeId) (n:Nat) (t:TypeId) (R:Prop):Prop:=
 match P.underlying src with
 | some (.pointer u)=>match P.underlying dst with
  | some .unsafePointer=>match P.info? u with
   | some i=>(i.size≠0/\0<n)/\R
   | none=>False
  | _=>False
 | some .unsafePointer=>match P.underlying dst with
  | some (.pointer u)=>match P.info? u with
   | some _=>liesAt P P.depth t (n / P.cellsOf t) 0 u 1=true/\R
   | none=>False
  | _=>False
 | _=>False
def q97 (P:Program) (g:G) (src dst:TypeId) (lo:List AObj) (x:FV) (R:FV->Prop):Prop:=
 match x with
 | .p (.sl rows)=>u8T P src dst (∃ l,gI g (rows=qau l)/\R (.p (.str l)))
 | .tsl _ rows=>u8T P src dst (∃ l,gI g (rows=qau l)/\R (.p (.str l)))
 | .p .nilsl=>u8T P src dst (R (.p (.str [])))
 | .bsl k off n _=>u8T P src dst (qyn k lo fun o=>match o with
   | .box _ cells=>qyu off cells fun cs=>q4o n cs fun cs=>znj cs fun ps=>∃ l:List UInt8,gI g (ps=l.map fun b=>PV.int .u8 b.toNat)/\R (.p (.str l))
   | _=>False)
 | .ptr k off=>match Nat.beq off 0 with
  | true=>qyn k lo fun o=>match o with
   | .box t cells=>zx4 P src dst cells.length t (R (.ptr k 0))
   | _=>False
  | false=>False
 | .vsl k n=>u8T P src dst (qyn k lo fun o=>match o with
   | .bv l=>gI g (n=l.length)/\R (.p (.str l))
   | _=>False)
 | .asl k off n=>u8T P src dst (qyn k lo fun o=>match o with
   | .bv l=>gI g (off+n<=l.length)/\R (.p (.str ((l.drop off).take n)))
   | _=>False)
 | x=>zfk P src dst x R
def q3a (P:Program) (H:PH) (w:World) (r:PV):Result Next->Prop
 | .ok (.value v) w'=>∃ H',Calm H w H' w'/\qco H' r v
 | .ok (.enter f args) w'=>w'=w/\Calls P f args w fun e w''=>∃ v H',e=.returned v/\Calm H w H' w''/\qco H' r v
 | _=>False
def qai (P:Program) (f:FuncId) (args:List PV) (r:PV):Prop:=
 ∀ (H:PH) (w:World) (vs:List Value),SatH H w->qdi H args vs->q3a P H w r ((callFunc f vs.toArray).run P w)
def zh2 (E:Env) (g:G):Nat->List (Nat×Operand)->(List PV->Prop)->Prop
 | _,[],R=>R []
 | k,(i,x)::l,R=>match Nat.beq i k with
  | true=>evS E g x fun v=>zoo v fun p=>zh2 E g (k+1) l fun ps=>R (p::ps)
  | false=>False
def zg1 (p:PV) (R:List PV->Prop):Prop:=
 match p with
 | .agg cs=>R cs
 | .tup _=>False
 | p=>R [p]
def zs6:List PV->(List (List PV)->Prop)->Prop
 | [],R=>R []
 | p::ps,R=>zg1 p fun c=>zs6 ps fun rs=>R (c::rs)
def zkb:PV->Bool
 | .agg _|.tup _=>false
 | _=>true
def qp0 (P:Program) (E:Env) (g:G) (t:TypeId) (n:Nat) (parts:List (Nat×Operand)) (R:FV->Prop):Prop:=
 q91 P t fun e z=>match Nat.beq parts.length n with
  | true=>match Nat.ble 1 n with
   | true=>match Nat.ble 1 z with
    | true=>match Nat.ble (n * z) 16777216 with
     | true=>match P.info? e with
      | some i=>match i.zero with
       | some _=>zh2 E g 0 parts fun ps=>zs6 ps fun rows=>(∀ r∈rows,r.length=z/\r.all zkb=true)/\∃ rows',(rows=rows'\/zaw rows rows')/\R (.p (.sl rows'))
       | none=>False
      | none=>False
     | false=>False
    | false=>False
   | false=>False
  | false=>False
def q7w:Nat->List PV->List PV->(List PV->Prop)->Prop
 | 0,[],old,R=>R old
 | 0,v::vs,old,R=>match old with|[]=>False|_::old=>q7w 0 vs old fun l=>R (v::l)
 | n+1,vs,old,R=>match old with|[]=>False|a::old=>q7w n vs old fun l=>R (a::l)
def zr9 (P:Program) (E:Env) (g:G) (fs:List Field):List (Nat×Operand)->List PV->(List PV->Prop)->Prop
 | [],cs,R=>R cs
 | (i,x)::l,cs,R=>qyn i fs fun f=>match P.info? f.type with
  | some ti=>evS E g x fun v=>zoo v fun p=>zg1 p fun c=>match Nat.beq c.length ti.size with
   | true=>q7w f.offset c cs fun cs=>zr9 P E g fs l cs R
   | false=>False
  | none=>False
def zhg (P:Program):List Field->Bool
 | []=>true
 | f::fs=>match P.info? f.type with|some _=>zhg P fs|none=>false
def zo7 (P:Program) (E:Env) (g:G) (t:TypeId) (parts:List (Nat×Operand)) (R:FV->Prop):Prop:=
 match P.info? t with
 | some i=>match i.zero with
  | some (.agg ⟨vs⟩)=>znl vs fun zs=>match P.underlying t with
   | some (.struct ⟨fs⟩)=>match zhg P fs with
    | true=>zr9 P E g fs parts zs fun cs=>R (.p (.agg cs))
    | false=>False
   | some (.array _ e)=>match P.info? e with
    | some ei=>match Nat.beq ei.size 1 with
     | true=>zh2 E g 0 parts fun ps=>ps.length=vs.length/\(∀ c∈ps,zkb c=true)/\R (.p (.agg ps))
     | false=>False
    | none=>False
   | _=>False
  | _=>False
 | none=>False
def zwq (P:Program) (op:BinOp) (t:TypeId) (x y:FV) (R:FV->Prop):Prop:=
 match P.underlying t with
 | some (.pointer e)=>match P.info? e with
  | some _=>match op with
   | .eql=>match x,y with
    | .p .nilp,.p .nilp=>R (.p (.bool true))
    | .ptr _ _,.p .nilp=>R (.p (.bool false))
    | .hptr _,.p .nilp=>R (.p (.bool false))
    | _,_=>False
   | .neq=>match x,y with
    | .p .nilp,.p .nilp=>R (.p (.bool false))
    | .ptr _ _,.p .nilp=>R (.p (.bool true))
    | .hptr _,.p .nilp=>R (.p (.bool true))
    | .ptr k off,.ptr k' off'=>match Nat.beq k k' with
     | true=>match Nat.beq off off' with
      | true=>R (.p (.bool false))
      | false=>False
     | false=>False
    | _,_=>False
   | _=>False
  | none=>False
 | _=>False
def ze9 (E:Env):List (Nat×Operand)->Prop->Prop->Prop
 | [],_,no=>no
 | (_,x)::l,yes,no=>ev E x fun v=>match v with
  | .mref _=>yes
  | .ptr _ _=>yes
  | .clo _ _=>yes
  | _=>ze9 E l yes no
def zub:List PV->(List FV->Prop)->Prop
 | [],R=>R []
 | c::cs,R=>zub cs fun l=>R (.p c::l)
def qz6:Nat->List FV->List FV->(List FV->Prop)->Prop
 | 0,[],old,R=>R old
 | 0,v::vs,old,R=>match old with|[]=>False|_::old=>qz6 0 vs old fun l=>R (v::l)
 | n+1,vs,old,R=>match old with|[]=>False|a::old=>qz6 n vs old fun l=>R (a::l)
def zuo (v:FV) (R:List FV->Prop):Prop:=
 match v with
 | .p p=>zg1 p fun cs=>zub cs R
 | .tsl k rows=>R [.tsl k rows]
 | .mref k=>R [.mref k]
 | .ptr k o=>R [.ptr k o]
 | .clo f c=>R [.clo f c]
 | _=>False
def zr8 (P:Program) (E:Env) (g:G) (fs:List Field):List (Nat×Operand)->List FV->(List FV->Prop)->Prop
 | [],cs,R=>R cs
 | (i,x)::l,cs,R=>qyn i fs fun f=>match P.info? f.type with
  | some ti=>evS E g x fun v=>zuo v fun c=>match Nat.beq c.length ti.size with
   | true=>qz6 f.offset c cs fun cs=>zr8 P E g fs l cs R
   | false=>False
  | none=>False
def zfi (P:Program) (E:Env) (g:G) (t:TypeId) (parts:List (Nat×Operand)) (R:FV->Prop):Prop:=
 match P.info? t with
 | some i=>match i.zero with
  | some (.agg ⟨vs⟩)=>znl vs fun zs=>zub zs fun zs=>match P.underlying t with
   | some (.struct ⟨fs⟩)=>match zhg P fs with
    | true=>zr8 P E g fs parts zs fun cs=>R (.fagg (zw8 cs))
    | false=>False
   | _=>False
  | _=>False
 | none=>False
def zn3:FV->(List PV->Prop)->Prop
 | .cap0,R=>R []
 | .cap a b,R=>zoo a fun p=>zn3 b fun l=>R (p::l)
 | _,_=>False
def zkt (P:Program) (t:TypeId) (m:String) (f:FuncId):Prop:=∀ v w,(method (P.types.size+Made.depth) t v m).run P w=.ok (f,v) w
def zpe (P:Program) (op:Op) (E:Env) (g:G) (R:FV->Prop):Prop:=
 match op with
 | .makeFunc (.func f) ⟨[]⟩ ⟨xs⟩=>match xs with
  | []=>R (.p (.fn f))
  | x::xs=>evL E g (x::xs) fun vs=>R (.clo f (zw8 vs))
 | .call { callee:=.value (.tmp t),args:=⟨xs⟩,argTypes:=_ }=>evS E g (.tmp t) fun fv=>evL E g xs fun vs=>znj vs fun args=>match fv with
  | .p (.fn f)=>∃ r,gI g (qai P f args r)/\R (.p r)
  | .clo f c=>zn3 c fun cs=>∃ r,gI g (qai P f (args++cs) r)/\R (.p r)
  | _=>False
 | .call { callee:=.invoke r m,args:=⟨xs⟩,argTypes:=_ }=>evS E g r fun rv=>evL E g xs fun vs=>znj vs fun args=>match rv with
  | .p (.ifc t v)=>∃ f r,gI g (zkt P t m f/\qai P f (v::args) r)/\R (.p r)
  | _=>False
 | _=>False
def zsd (P:Program) (op:Op) (E:Env) (g:G) (R:FV->Prop):Prop:=
 match op with
 | .move x=>match g with|none=>ev E x R|some g=>evS E (some g) x R
 | .assign x=>match g with|none=>ev E x R|some g=>evS E (some g) x R
 | .pick c a b=>evS E g c fun c=>match c with
  | .p (.bool c)=>match g with
   | none=>evS E (some c) a fun a=>evS E (some (!c)) b fun b=>match a,b with
    | .p (.bool a),.p (.bool b)=>R (.p (.bool (bif c then a else b)))
    | _,_=>False
   | some g=>evS E (some (g&&c)) a fun a=>evS E (some (g&&!c)) b fun b=>match a,b with
    | .p (.bool a),.p (.bool b)=>R (.p (.bool (bif c then a else b)))
    | _,_=>False
  | _=>False
 | .fieldAddr t x f=>evS E g x fun x=>zpa P t x f R
 | .field t x f=>evS E g x fun x=>zu0 P t x f R
 | .indexAddr t x i=>evS E g x fun x=>evS E g i fun i=>q5q P g t x i R
 | .index t x i=>evS E g x fun x=>evS E g i fun i=>zpb P g t x i R
 | .binOp op t x y _=>evS E g x fun x=>evS E g y fun y=>match x with
  | .ptr k off=>zwq P op t (.ptr k off) y R
  | .hptr row=>zwq P op t (.hptr row) y R
  | .p .nilp=>zwq P op t (.p .nilp) y R
  | x=>zxw P g op t x y R
 | .unOp .not _ x=>evS E g x fun x=>match x with|.p (.bool b)=>R (.p (.bool (!b)))|_=>False
 | .unOp .neg _ x=>evS E g x fun x=>match x with|.p (.int k n)=>R (.p (.int k (k.wrap (0 - n))))|_=>False
 | .nilCheck x=>evS E g x fun x=>match x with
  | .ptr k off=>R (.ptr k off)
  | .hptr row=>R (.hptr row)
  | .eptr k z i off=>R (.eptr k z i off)
  | _=>False
 | .slice t x lo hi mx=>evS E g x fun x=>zpf P E g t x lo hi mx R
 | .buildSlice t n ⟨parts⟩=>qp0 P E g t n parts R
 | .build t ⟨parts⟩=>ze9 E parts (zfi P E g t parts R) (zo7 P E g t parts R)
 | .extract x i=>evS E g x fun x=>match x with
  | .p (.tup vs)=>qyn i vs fun v=>R (.p v)
  | .pair a b=>match i with|0=>R a|1=>R b|_=>False
  | .nxt ok a b=>match i with|0=>R (.p (.bool ok))|1=>gI g (ok=true)/\R (.p a)|2=>gI g (ok=true)/\R (.p b)|_=>False
  | _=>False
 | .makeInterface t x=>evS E g x fun x=>zoo x fun v=>match P.underlying t with
  | some (.interface _)=>False
  | some _=>R (.p (.ifc t v))
  | none=>False
 | .call { callee:=.builtin .len,args:=⟨[x]⟩,argTypes:=⟨[t]⟩ }=>evS E g x fun x=>zxx P t x R
 | .call { callee:=.value (.func f),args:=⟨xs⟩,argTypes:=_ }=>
   evL E g xs fun vs=>znj vs fun args=>∃ r,gI g (qai P f args r)/\R (.p r)
 | op=>zpe P op E g R
def qz0 (P:Program) (t:TypeId) (lo:List AObj) (x:FV) (R:FV->Prop):Prop:=
 match x with
 | .ptr k off=>qyn k lo fun o=>match o with
  | .box _ cells=>qyu off cells fun cs=>qs6 P t fun agg n=>match agg with
   | true=>q4o n cs fun cs=>znj cs fun l=>R (.p (.agg l))
   | false=>match cs with|c::_=>R c|[]=>False
  | _=>False
 | .hptr row=>qs6 P t fun agg n=>match agg with
  | true=>q4o n row fun r=>R (.p (.agg r))
  | false=>match row with|c::_=>R (.p c)|[]=>False
 | _=>False
def q35:Op->Bool
 | .load _ _=>true
 | .convert _ _ _=>true
 | .lookup _ _ _ _=>true
 | _=>false
def qwu:Op->Bool
 | .box _ _|.alloc _|.store _ _ _|.makeMap _ _|.mapUpdate _ _ _ _|.insert _ _ _ _|.range _ _|.next _ _=>true
 | .call { callee:=.builtin .append,.. }=>true
 | .call { callee:=.builtin .clear,.. }=>true
 | _=>false
def znm:FV->Bool
 | .p (.agg _)|.p (.tup _)|.top|.opt _ _|.pair _ _|.stmp _|.cap0|.cap _ _|.fagg _|.nxt _ _ _=>false
 | _=>true
def zto (P:Program) (t:TypeId) (R:List PV->Prop):Prop:=
 match P.info? t with
 | some i=>match i.zero with
  | some (.agg ⟨vs⟩)=>znl vs R
  | some v=>znl [v] R
  | none=>False
 | none=>False
def q1y (v:FV) (R:List FV->Prop):Prop:=
 match v with
 | .p (.agg cs)=>zub cs R
 | .fagg c=>q3y c R
 | v=>match znm v with|true=>R [v]|false=>False
def q6d:List FV->Bool
 | []=>true
 | v::l=>match znm v with|true=>q6d l|false=>false
def zqn (x:FV) (R:List (List PV)->Prop):Prop:=
 match x with
 | .p (.sl rows)=>R rows
 | .tsl _ rows=>R rows
 | .p .nilsl=>R []
 | _=>False
def zrr:PV->PV->Bool
 | .str a,.str b=>a==b
 | .int _ a,.int _ b=>a==b
 | .bool a,.bool b=>a==b
 | _,_=>false
def q7u (k:PV):List (PV×PV)->Option PV
 | []=>none
 | (k',v)::es=>bif zrr k k' then some v else q7u k es
def zrs (k v:PV):List (PV×PV)->List (PV×PV)
 | []=>[(k,v)]
 | (k',v')::es=>bif zrr k k' then(k,v)::es else(k',v')::zrs k v es
def zj2 (d' d:TypeDesc) (kp:PV) (R:Prop):Prop:=
 match d',d,kp with
 | .string,.string,.str _=>R
 | .bool,.bool,.bool _=>R
 | .int k,.int k',.int k'' _=>match q6j k k' with
  | true=>match q6j k k'' with
   | true=>R
   | false=>False
  | false=>False
 | _,_,_=>False
def zxy (d:TypeDesc) (R:Prop):Prop:=
 match d with
 | .string=>R
 | .bool=>R
 | .int _=>R
 | _=>False
def zua (P:Program) (t:TypeId) (d:TypeDesc) (kp:PV) (R:TypeId->Prop):Prop:=
 match P.underlying t with
 | some (.map kt et)=>match P.underlying kt with
  | some d'=>zj2 d' d kp (R et)
  | none=>False
 | _=>False
def ziv (P:Program) (t:TypeId) (R:PV->Prop):Prop:=
 match P.info? t with
 | some i=>match i.zero with
  | some (.agg ⟨vs⟩)=>znl vs fun l=>R (.agg l)
  | some v=>match zws v with|some p=>R p|none=>False
  | none=>False
 | none=>False
def qxx (P:Program) (g:G) (t:TypeId) (lo:List AObj) (x key:FV) (ok:Bool) (R:FV->Prop):Prop:=
 match x,key with
 | .mref k,.p kp=>qyn k lo fun o=>match o with
  | .mp d es _=>zua P t d kp fun et=>ziv P et fun z=>∃ v b,gI g ((q7u kp es).getD z=v/\(q7u kp es).isSome=b)/\R (match ok with|false=>.p v|true=>.p (.tup [v,.bool b]))
  | _=>False
 | _,_=>False
def zuz (P:Program) (t:TypeId) (lo:List AObj) (x:FV) (R:FV->Prop):Prop:=
 match x with
 | .mref k=>qyn k lo fun o=>match o with
  | .mp _ es _=>match P.underlying t with
   | some (.map _ _)=>∃ n:Nat,es.length=n/\R (.p (.int .i64 n))
   | _=>False
  | _=>False
 | _=>False
def zfn (P:Program) (E:Env) (lo:List AObj) (t:TypeId) (m k x:Operand) (R:FV->List AObj->Prop):Prop:=
 evS E none m fun m=>evS E none k fun k=>evS E none x fun x=>zoo x fun vp=>match m,k with
  | .mref j,.p kp=>qyn j lo fun o=>match o with
   | .mp d es _=>zua P t d kp fun _=>∃ es',zrs kp vp es=es'/\q4x j (.mp d es' none) lo fun lo=>R (.p (.tup [])) lo
   | _=>False
  | _,_=>False
def qa7 (l:List UInt8) (i:Nat):Nat:=(Utf8.decode ⟨l.toArray⟩ i).1
def qdz (l:List UInt8) (i:Nat):Nat:=i+(Utf8.decode ⟨l.toArray⟩ i).2
def zuy (P:Program) (op:Op) (E:Env) (lo:List AObj) (R:FV->List AObj->Prop):Prop:=
 match op with
 | .range t x=>evS E none x fun x=>match x with
  | .p (.str l)=>match P.underlying t with
   | some .string=>q5w lo 0 fun n=>qyz lo (.sit l 0) fun lo=>R (.ptr n 0) lo
   | _=>False
  | _=>False
 | .next x true=>evS E none x fun x=>match x with
  | .ptr k 0=>qyn k lo fun o=>match o with
   | .sit l pos=>∃ ok p',(decide (pos<l.length)=ok/\(bif ok then qdz l pos else pos)=p')/\q4x k (.sit l p') lo fun lo=>R (.nxt ok (.int .i64 pos) (.int .i32 (qa7 l pos))) lo
   | _=>False
  | _=>False
 | .makeMap t none=>match P.underlying t with
  | some (.map kt _)=>match P.underlying kt with
   | some d=>zxy d (q5w lo 0 fun n=>qyz lo (.mp d [] none) fun lo=>R (.mref n) lo)
   | none=>False
  | _=>False
 | .mapUpdate t m k x=>zfn P E lo t m k x R
 | .insert t m k x=>zfn P E lo t m k x R
 | .call { callee:=.builtin .clear,args:=⟨[x]⟩,argTypes:=⟨[t]⟩ }=>evS E none x fun x=>match x with
  | .mref k=>qyn k lo fun o=>match o with
   | .mp d _ _=>match P.underlying t with
    | some (.map _ _)=>q4x k (.mp d [] none) lo fun lo=>R (.p (.tup [])) lo
    | _=>False
   | _=>False
  | _=>False
 | _=>False
def zj1 (P:Program) (t:TypeId) (lo:List AObj) (k z i off:Nat) (x:FV) (R:FV->List AObj->Prop):Prop:=
 q1y x fun vs=>znj vs fun ps=>q5w ps 0 fun n=>qs6 P t fun _ m=>match Nat.beq n m with
  | true=>qyn k lo fun o=>match o with
   | .vec e z' rows=>∃ row,(z'=z/\rows[i]? =some row/\ps.all zkb=true)/\q7w off ps row fun row'=>∃ rows',rows.set i row'=rows'/\q4x k (.vec e z' rows') lo fun lo=>R (.p (.tup [])) lo
   | .vl e z' rows j kt=>∃ row kt',(z'=z/\rows[i]? =some row/\ps.all zkb=true/\(j<z/\(off+ps.length<=j\/j<off)/\kt'=kt\/off=j/\i+1=rows.length/\∃ rows3,x=.tsl kt' rows3)) /\
     q7w off ps row fun row'=>∃ rows',rows.set i row'=rows'/\q4x k (.vl e z' rows' j kt') lo fun lo=>R (.p (.tup [])) lo
   | .bv l=>match ps with
    | [.int .u8 n]=>∃ (c:UInt8) (l':List UInt8),(z=1/\off=0/\i<l.length/\n=(c.toNat:Int)/\l.set i c=l')/\q4x k (.bv l') lo fun lo=>R (.p (.tup [])) lo
    | ps=>∃ l':List UInt8,(z=1/\off=0/\i=0/\l'.length=l.length/\ps=l'.map fun b=>PV.int .u8 b.toNat)/\q4x k (.bv l') lo fun lo=>R (.p (.tup [])) lo
   | _=>False
  | false=>False
def zc3 (P:Program) (t:TypeId) (lo:List AObj) (k z i off:Nat) (R:FV->Prop):Prop:=
 qyn k lo fun o=>match o with
  | .vec _ z' rows=>∃ row,(z'=z/\rows[i]? =some row)/\qyu off row fun cs=>qs6 P t fun agg n=>match agg with
   | true=>q4o n cs fun l=>R (.p (.agg l))
   | false=>match cs with|c::_=>R (.p c)|[]=>False
  | .vl _ z' rows j kt=>∃ row,(z'=z/\rows[i]? =some row)/\qyu off row fun cs=>qs6 P t fun agg n=>match agg with
   | true=>q4o n cs fun l=>R (.p (.agg l))
   | false=>match cs with
    | c::_=>match Nat.beq off j with
     | true=>i+1=rows.length/\∃ rs,c=.sl rs/\R (.tsl kt rs)
     | false=>R (.p c)
    | []=>False
  | .bv l=>qs6 P t fun agg _=>match agg with
   | true=>False
   | false=>∃ c:UInt8,(z=1/\off=0/\l[i]? =some c)/\R (.p (.int .u8 c.toNat))
  | _=>False
def zfm (P:Program) (g:Bool) (t:TypeId) (lo:List AObj) (k z i off:Nat) (R:FV->Prop):Prop:=
 qyn k lo fun o=>match o with
  | .vec _ z' rows=>∃ row,(g=true->z'=z/\rows[i]? =some row)/\qyu off row fun cs=>qs6 P t fun agg _=>match agg with
   | true=>False
   | false=>match cs with|c::_=>R (.p c)|[]=>False
  | .vl _ z' rows j _=>∃ row,(g=true->z'=z/\rows[i]? =some row)/\qyu off row fun cs=>qs6 P t fun agg _=>match agg with
   | true=>False
   | false=>match cs with
    | c::_=>match Nat.beq off j with
     | true=>False
     | false=>R (.p c)
    | []=>False
  | _=>False
def zo8 (P:Program) (src dst:TypeId) (lo:List AObj) (x:FV) (R:FV->List AObj->Prop):Prop:=
 match x with
 | .p (.str l)=>match P.underlying src with
  | some _=>match P.underlying dst with
   | some (.slice e)=>match P.underlying e with
    | some (.int .u8)=>q5w lo 0 fun n=>qyz lo (.bv l) fun lo=>R (.vsl n l.length) lo
    | _=>False
   | _=>False
  | none=>False
 | _=>False
def zlg (P:Program) (t:TypeId) (lo:List AObj) (k0:Nat) (news:List (List PV)) (R:FV->List AObj->Prop):Prop:=
 q91 P t fun e z=>match Nat.beq z 0 with
 | true=>False
 | false=>match P.info? e with
  | some i=>match i.zero with
   | some zv=>match Nat.beq zv.cells.size z with
    | true=>qyn k0 lo fun o=>match o with
     | .vec e' z' rows=>∃ rows',(rows++news=rows'/\e'=e/\z'=z/\(∀ r∈news,r.length=z)/\rows'.length * i.bytes<=140737488355328/\rows'.length<=9223372036854775807) /\
       q4x k0 .dead lo fun lo=>q5w lo 0 fun k=>qyz lo (.vec e z rows') fun lo=>R (.vsl k rows'.length) lo
     | .vl e' z' rows j _=>∃ rows' r e2 z2,((rows++news=rows'\/zaw (rows++news) rows')/\(news=[r]/\r[j]? =some .nilsl)/\e'=e/\z'=z/\(∀ r∈news,r.length=z)/\rows'.length * i.bytes<=140737488355328/\rows'.length<=9223372036854775807) /\
       q4x k0 .dead lo fun lo=>q5w lo 0 fun kt=>qyz lo (.tail e2 z2 0) fun lo=>q5w lo 0 fun k=>qyz lo (.vl e z rows' j kt) fun lo=>R (.vsl k rows'.length) lo
     | _=>False
    | false=>False
   | none=>False
  | none=>False
def zfh (P:Program) (t:TypeId) (lo:List AObj) (R:FV->List AObj->Prop):Prop:=
 zto P t fun z=>∃ l:List UInt8,z=l.map (fun b=>PV.int .u8 b.toNat)/\q5w lo 0 fun k=>qyz lo (.bv l) fun lo=>R (.eptr k 1 0 0) lo
def zjq (P:Program) (E:Env) (lo:List AObj) (t:TypeId) (n:Nat) (parts:List (Nat×Operand)) (R:FV->List AObj->Prop):Prop:=
 q91 P t fun e z=>qp0 P E none t n parts fun v=>match v with
  | .p (.sl rows)=>q5w lo 0 fun k=>qyz lo (.vec e z rows) fun lo=>R (.vsl k rows.length) lo
  | _=>False
def zc6:List Nat->Nat->Bool
 | [],_=>false
 | a::l,f=>match Nat.beq f a with|true=>true|false=>zc6 l f
def zjp (P:Program) (E:Env) (lo:List AObj) (t:TypeId) (n:Nat) (parts:List (Nat×Operand)) (R:FV->List AObj->Prop):Prop:=
 q91 P t fun e z=>qp0 P E none t n parts fun v=>match v with
  | .p (.sl rows)=>q5w lo 0 fun k=>qyz lo (.tail e z rows.length) fun lo=>R (.tsl k rows) lo
  | _=>False
def zut (inl:List Nat) (d:Option Tmp):Bool:=match d with
 | some d=>zc6 inl (30000000+d)
 | none=>false
def zfj (P:Program) (g:Bool) (E:Env) (lo:List AObj) (t:TypeId) (n:Nat) (parts:List (Nat×Operand)) (R:FV->List AObj->Prop):Prop:=
 match g with
 | true=>zjp P E lo t n parts R
 | false=>zjq P E lo t n parts R
def zt5 (P:Program) (op:Op) (E:Env) (lo:List AObj) (R:FV->List AObj->Prop):Prop:=
 match op with
 | .box t x=>evS E none x fun x=>q1y x fun cs=>match q6d cs with
  | true=>q5w lo 0 fun n=>qyz lo (.box t cs) fun lo=>R (.ptr n 0) lo
  | false=>False
 | .alloc t=>zto P t fun z=>zub z fun cs=>match q6d cs with
  | true=>q5w lo 0 fun n=>qyz lo (.box t cs) fun lo=>R (.ptr n 0) lo
  | false=>False
 | .store t a x=>evS E none a fun a=>evS E none x fun x=>match a with
  | .ptr k off=>q1y x fun vs=>match q6d vs with
   | true=>q5w vs 0 fun n=>qs6 P t fun _ m=>match Nat.beq n m with
    | true=>qyn k lo fun o=>match o with
     | .box bt cells=>qz6 off vs cells fun cells=>q4x k (.box bt cells) lo fun lo=>R (.p (.tup [])) lo
     | _=>False
    | false=>False
   | false=>False
  | .eptr k z i off=>zj1 P t lo k z i off x R
  | _=>False
 | .call { callee:=.builtin .append,args:=⟨[s,x]⟩,argTypes:=⟨[t,t']⟩ }=>match Nat.beq t t' with
  | true=>evS E none s fun s=>evS E none x fun x=>zqn x fun news=>match s with
   | .vsl k0 _=>zlg P t lo k0 news R
   | s=>q91 P t fun e z=>match Nat.beq z 0 with
   | true=>False
   | false=>match P.info? e with
    | some i=>match i.zero with
     | some zv=>match Nat.beq zv.cells.size z with
      | true=>match s with
       | .p .nilsl=>((∀ r∈news,r.length=z)/\news.length * i.bytes<=140737488355328/\news.length<=9223372036854775807) /\
         q5w lo 0 fun k=>qyz lo (.tail e z news.length) fun lo=>R (.tsl k news) lo
       | .tsl k0 rows=>((∀ r∈rows++news,r.length=z)/\(rows++news).length * i.bytes<=140737488355328/\(rows++news).length<=9223372036854775807) /\
         qyn k0 lo fun o=>match o with
         | .tail e' z' n=>(e'=e/\z'=z/\n=rows.length) /\
           q4x k0 .dead lo fun lo=>q5w lo 0 fun k=>qyz lo (.tail e z (rows++news).length) fun lo=>R (.tsl k (rows++news)) lo
         | _=>False
       | _=>False
      | false=>False
     | none=>False
    | none=>False
  | false=>evS E none s fun s=>evS E none x fun x=>match x with
   | .p (.str str)=>match P.underlying t' with
    | some .string=>q91 P t fun e z=>match Nat.beq z 1 with
     | true=>match P.info? e with
      | some i=>match i.zero with
       | some (.int .u8 0)=>match s with
        | .p .nilsl=>((qau str).length * i.bytes<=140737488355328/\(qau str).length<=9223372036854775807) /\
          q5w lo 0 fun k=>qyz lo (.tail e z (qau str).length) fun lo=>R (.tsl k (qau str)) lo
        | .tsl k0 rows=>((∀ r∈rows,r.length=1)/\(rows++qau str).length * i.bytes<=140737488355328/\(rows++qau str).length<=9223372036854775807) /\
          qyn k0 lo fun o=>match o with
          | .tail e' z' n=>(e'=e/\z'=1/\n=rows.length) /\
            q4x k0 .dead lo fun lo=>q5w lo 0 fun k=>qyz lo (.tail e z (rows++qau str).length) fun lo=>R (.tsl k (rows++qau str)) lo
          | _=>False
        | _=>False
       | _=>False
      | none=>False
     | false=>False
    | _=>False
   | _=>False
 | op=>zuy P op E lo R
def zc0 (ops:List Oper) (o:Oper) (E:Env) (R:G->Prop):Prop:=
 match o.guard with
 | none=>R none
 | some (j,want)=>qyn j ops fun oj=>match oj.dst with
   | some d=>zt9 E d fun v=>match v with
    | .p (.bool b)=>match want with|true=>R (some b)|false=>R (some (!b))
    | .opt g' (.p (.bool b))=>match want with|true=>R (some (g'&&b))|false=>R (some (g'&&!b))
    | _=>False
   | none=>False
def qy1 (N:Nat) (d:Option Tmp) (v:FV) (E:Env) (R:Env->Prop):Prop:=
 match d with
 | some d=>match Nat.blt d N with
  | true=>zol v fun v=>R ((d,v)::E)
  | false=>False
 | none=>R E
def qwd (g:G) (v:FV):FV:=match g with|none=>v|some g=>.opt g v
def zl0 (P:Program) (N:Nat) (all:List Oper) (o:Oper) (E:Env) (lo:List AObj) (R:Env->List AObj->Prop):Prop:=
 zc0 all o E fun g=>
  match q35 o.op with
  | true=>match o.op with
   | .load t x=>evS E g x fun x=>qz0 P t lo x fun v=>qy1 N o.dst (qwd g v) E fun E=>R E lo
   | .convert s d x=>evS E g x fun x=>q97 P g s d lo x fun v=>qy1 N o.dst (qwd g v) E fun E=>R E lo
   | .lookup t x i ok=>evS E g x fun x=>evS E g i fun i=>qxx P g t lo x i ok fun v=>qy1 N o.dst (qwd g v) E fun E=>R E lo
   | _=>False
  | false=>match qwu o.op with
   | true=>match g with
    | none=>zt5 P o.op E lo fun v lo=>qy1 N o.dst v E fun E=>R E lo
    | some _=>False
   | false=>zsd P o.op E g fun v=>qy1 N o.dst (qwd g v) E fun E=>R E lo
inductive AX where
 | normal|exit (id:Nat)|ret
def zrt (inl:List Nat) (d:Option Tmp):Bool:=match d with|some d=>zc6 inl (10000000+d)|none=>false
def zxk (inl:List Nat) (t:Tmp):Bool:=zc6 inl (20000000+t)
def zpw (inl:List Nat) (id:Nat):Bool:=zc6 inl (40000000+id)
def qom (inl:List Nat) (o:Oper):Bool:=
 match o.op with
 | .call { callee:=.value (.func f),args:=_,argTypes:=_ }=>zc6 inl f
 | .call { callee:=.value (.tmp t),args:=_,argTypes:=_ }=>zxk inl t
 | .buildSlice _ _ _=>zrt inl o.dst
 | .convert _ _ _=>zrt inl o.dst
 | o=>qwu o
def zfs:Op->Bool
 | .box _ _|.alloc _|.makeMap _ _|.buildSlice _ _ _=>true
 | .call { callee:=.builtin .append,.. }=>true
 | _=>false
def qu0 (inl:List Nat) (o:Oper):Bool:=match o.op with
 | .store _ (.tmp t) _=>zc6 inl (50000000+t)
 | _=>false
def zhw (inl:List Nat) (o:Oper):Bool:=zfs o.op||qu0 inl o
def zv6 (sl:List Nat) (n0 k:Nat):Bool:=match Nat.blt k n0 with
 | true=>(match zc6 sl (60000000+1000 * n0+k)with|true=>false|false=>true)
 | false=>false
def q0b (inl:List Nat) (o:Oper):Bool:=match o.dst with
 | some d=>zc6 inl (70000000+d)
 | none=>false
def zn4 (inl:List Nat) (m:Bool) (oi oj:Oper):Bool:=qom inl oi&&(qom inl oj||q35 oj.op&&!(m&&zhw inl oi&&!q0b inl oj))
def qz8 (ops:Array Oper) (i:Nat):Nat->Nat->Bool
 | 0,_=>false
 | f+1,j=>match ops[j]? with
  | some oj=>oj.after.any (fun e=>Region.binds .any e&&e.on==i)||oj.after.any (fun e=>Region.binds .any e&&qz8 ops i f e.on)
  | none=>false
def Region.effFree (inl:List Nat) (m:Bool) (ops:Array Oper) (listed:Array Bool) (i:Nat):Bool:=
 match ops[i]? with
 | none=>false
 | some oi=>(List.range ops.size).all fun j=>j==i||listed.getD j true||match ops[j]? with
   | some oj=>(!zn4 inl m oi oj&&!zn4 inl m oj oi)||qz8 ops i ops.size j
   | none=>true
def Region.effFrom (inl:List Nat) (m:Bool) (ops:Array Oper):Nat->Nat->Array Bool->Bool
 | 0,_,_=>true
 | fuel+1,k,listed=>Region.effFree inl m ops listed k&&Region.effFrom inl m ops fuel (k+1) (listed.setIfInBounds k true)
def zk3 (inl:List Nat) (m:Bool) (ops:Array Oper):Bool:=Go.Region.lexB .any ops&&Region.effFrom inl m ops ops.size 0 (Array.replicate ops.size false)
end Ax
end
section
namespace Ax
open Go
def qu1 (bs:Base) (ρ:List Value) (H:PH) (fv:FV) (lo':List AObj) (v:Value) (w':World):Prop:=
 ∃ ρ' H',ρ <+: ρ'/\PH.le H H'/\SatW bs ρ' H' lo' w'/\qch ρ' H' fv v
def zjc (P:Program) (bs:Base) (ρ:List Value) (H:PH) (fv:FV) (lo':List AObj):Result Next->Prop
 | .ok (.value v) w'=>qu1 bs ρ H fv lo' v w'
 | .ok .skip w'=>qu1 bs ρ H fv lo' undef w'
 | .ok (.enter f args) w'=>Calls P f args w' fun en w''=>∃ v,en=.returned v/\qu1 bs ρ H fv lo' v w''
 | _=>False
def qlf (P:Program) (o:Oper) (e:Nat->FV) (lo:List AObj) (g:G) (fv:FV) (lo':List AObj):Prop:=
 gOn g->∀ (bs:Base) (ρ:List Value) (H:PH) (w:World) (eval:Operand->Value),SatW bs ρ H lo w ->
  (∀ x∈o.op.operands,qch ρ H (evF e x) (eval x))->zjc P bs ρ H fv lo' ((execOp eval o).run P w)
theorem qh9 {bs:Base} {ρ:List Value} {H:PH} {fv:FV} {lo:List AObj} {v:Value} {w:World} (s:SatW bs ρ H lo w) (r:qch ρ H fv v) :
  qu1 bs ρ H fv lo v w:=⟨ρ,H,jr _,PH.le.refl H,s,r⟩
theorem qo5 {g:G} {p:Prop} (h:gI g p) (hg:gOn g):p:=by
 cases g with
 | none=>exact h
 | some b=>exact h hg
theorem qz1:∀ (E:Env) (t:Nat) (R:FV->Prop),zt9 E t R=R (qcc E t)
 | [],_,_=>rfl
 | (t',v)::E,t,R=>by
  simp only[zt9,qcc];cases Nat.beq t t' with
  | true=>rfl
  | false=>exact qz1 E t R
theorem zci (E:Env) (x:Operand) (R:FV->Prop):ev E x R=R (evF (qcc E) x):=by
 cases x with
 | tmp t=>exact qz1 E t R
 | const v=>exact zhc _ _
 | global g=>rfl
 | func f=>rfl
def Str (g:G) (f v:FV):Prop:=∀ ρ H x,gOn g->qch ρ H f x->qch ρ H v x
theorem qbr {E:Env} {g:G} {x:Operand} {R:FV->Prop} (h:evS E g x R):∃ v,R v/\Str g (evF (qcc E) x) v:=by
 unfold evS at h;rw[zci]at h;generalize evF (qcc E) x=f at *;cases f<;>simp only at h
 case opt g' v'=>
  refine⟨v',h.2,fun ρ H y hg hy=>?_⟩;have:=qo5 h.1 hg;simpa[qch,this]using hy
 all_goals exact⟨_,h,fun _ _ _ _ hy=>hy⟩
theorem zam {v:Value} {p:PV} (h:zws v=some p) (H:PH):qco H p v:=by
 unfold zws at h;split at h<;>(cases h)<;>simp[qco]
theorem zp4 (v:Value) (ρ:List Value) (H:PH):qch ρ H (zxl v) v:=by
 unfold zxl;split
 ·simp[qch,qco,qdi]
 split
 ·rename_i h; exact zam h H
 trivial
theorem qut {ρ:List Value} {H:PH} {e:Nat->FV} {a:Act} (h:∀ t,qch ρ H (e t) (a.tmps.getD t undef)) (x:Operand):qch ρ H (evF e x) (a.eval x):=by
 cases x with
 | tmp t=>exact h t
 | const v=>exact zp4 v ρ H
 | func f=>simp[evF,qch,qco,Act.eval]
 | global g=>trivial
theorem qtr {ρ:List Value} {H:PH} {b:Bool} {x:Value} (h:qch ρ H (.p (.bool b)) x):x=.bool b:=by simpa[qch,qco]using h
theorem qj5 {ρ:List Value} {H:PH} {k:IntKind} {n:Int} {x:Value} (h:qch ρ H (.p (.int k n)) x):x=.int k n:=by simpa[qch,qco]using h
theorem qs4 {ρ:List Value} {H:PH} {l:List UInt8} {x:Value} (h:qch ρ H (.p (.str l)) x):x=.string ⟨l.toArray⟩:=by simpa[qch,qco]using h
theorem qr7 {ρ:List Value} {H:PH} {b:Bool}:qch ρ H (.p (.bool b)) (.bool b):=by simp[qch,qco]
theorem qq8 {ρ:List Value} {H:PH} {k:IntKind} {n:Int}:qch ρ H (.p (.int k n)) (.int k n):=by simp[qch,qco]
theorem qya {ρ:List Value} {H:PH} {l:List UInt8}:qch ρ H (.p (.str l)) (.string ⟨l.toArray⟩):=by simp[qch,qco]
theorem qol {α:Type}:∀ {n:Nat} {l:List α} {R:List α->Prop},q4o n l R->R (l.take n)/\n<=l.length
 | 0,l,R,h=>by simpa[q4o]using h
 | n+1,[],R,h=>by simp[q4o]at h
 | n+1,a::l,R,h=>by
  have:=qol (n:=n) (l:=l) (R:=fun l=>R (a::l)) h
  simpa using this
theorem qkz {α:Type}:∀ {n:Nat} {l:List α} {R:List α->Prop},qyu n l R->R (l.drop n)/\n<=l.length
 | 0,l,R,h=>by simpa[qyu]using h
 | n+1,[],R,h=>by simp[qyu]at h
 | n+1,a::l,R,h=>by simpa using qkz (n:=n) (l:=l) (R:=R) h
theorem qdk {α:Type}:∀ {n:Nat} {l:List α} {R:α->Prop},qyn n l R->∃ a,l[n]? =some a/\R a
 | 0,[],R,h=>by simp[qyn]at h
 | 0,a::l,R,h=>⟨a,by simp,h⟩
 | n+1,[],R,h=>by simp[qyn]at h
 | n+1,a::l,R,h=>by simpa using qdk (n:=n) (l:=l) (R:=R) h
theorem qgv {α:Type}:∀ {n:Nat} {x:α} {l:List α} {R:List α->Prop},q4x n x l R->R (l.set n x)/\n<l.length
 | 0,x,[],R,h=>by simp[q4x]at h
 | 0,x,a::l,R,h=>by simpa[q4x]using h
 | n+1,x,[],R,h=>by simp[q4x]at h
 | n+1,x,a::l,R,h=>by simpa using qgv (n:=n) (x:=x) (l:=l) (R:=fun l=>R (a::l)) h
theorem qfy {α:Type}:∀ {l:List α} {x:α} {R:List α->Prop},qyz l x R->R (l++[x])
 | [],x,R,h=>by simpa[qyz]using h
 | a::l,x,R,h=>qfy (l:=l) (x:=x) (R:=fun l=>R (a::l)) h
theorem qe0 {α:Type}:∀ {l:List α} {n:Nat} {R:Nat->Prop},q5w l n R->R (n+l.length)
 | [],n,R,h=>by simpa[q5w]using h
 | a::l,n,R,h=>by
  have:=qe0 (l:=l) (n:=n+1) (R:=R) h;simpa[Nat.add_comm,Nat.add_left_comm,Nat.add_assoc]using this
theorem qxt {P:Program} {t f:Nat} {R:Nat->TypeId->Prop} (h:zcw P t f R) :
  ∃ fs x i,P.underlying t=some (.struct fs)/\fs[f]? =some x/\P.info? x.type=some i/\i.size≠0/\R x.offset x.type:=by
 unfold zcw at h;split at h
 ·rename_i fs hu
  obtain⟨x,hx,hr⟩:=qdk h;split at hr
  ·rename_i i hi
   split at hr
   ·exact hr.elim
   rename_i hz;exact⟨_,x,i,hu,by simpa using hx,hi,fun e=>by simp[e]at hz,hr⟩
  exact hr.elim
 exact h.elim
theorem qib {P:Program} {t:TypeId} {R:Bool->Nat->Prop} (h:qs6 P t R) :
  ∃ d i,P.underlying t=some d/\P.info? t=some i/\R (zts d) i.size:=by
 unfold qs6 at h;split at h
 ·rename_i d hd
  split at h
  ·rename_i i hi; exact⟨d,i,hd,hi,h⟩
  exact h.elim
 exact h.elim
theorem qme {P:Program} {t:TypeId} {R:TypeId->Nat->Prop} (h:q91 P t R) :
  ∃ e i,P.underlying t=some (.slice e)/\P.info? e=some i/\R e i.size:=by
 unfold q91 at h;split at h
 ·rename_i e he
  split at h
  ·rename_i i hi; exact⟨e,i,he,hi,h⟩
  exact h.elim
 exact h.elim
theorem qss {v:FV} {R:PV->Prop} (h:zoo v R):∃ p,R p/\∀ ρ H x,qch ρ H v x->qco H p x:=by
 cases v<;>simp only[zoo]at h
 case p p=>exact⟨p,h,fun _ _ _ r=>r⟩
 case tsl k rows=>exact⟨_,h,fun _ _ _ r=>r.2⟩
theorem quu:∀ {l:List FV} {R:List PV->Prop},znj l R->∃ ps,R ps/\∀ ρ H vs,qd7 ρ H l vs->qdi H ps vs
 | [],R,h=>⟨[],h,fun _ _ vs r=>by simpa[qdi,qd7]using r⟩
 | v::l,R,h=>by
  simp only[znj]at h;obtain⟨p,h1,h2⟩:=qss h;obtain⟨ps,h3,h4⟩:=quu h1;refine⟨_,h3,fun ρ H vs r=>?_⟩;obtain⟨x,vs',e,r1,r2⟩:=r;simp only[qdi];exact⟨x,vs',e,h2 _ _ _ r1,h4 _ _ _ r2⟩
theorem qtm {E:Env} {g:G}:∀ {l:List Operand} {R:List FV->Prop},evL E g l R ->
  ∃ vs,R vs/\∀ ρ H (eval:Operand->Value),gOn g->(∀ x∈l,qch ρ H (evF (qcc E) x) (eval x))->qd7 ρ H vs (l.map eval)
 | [],R,h=>⟨[],h,fun _ _ _ _ _=>by simp[qd7]⟩
 | x::l,R,h=>by
  simp only[evL]at h;obtain⟨v,h1,h2⟩:=qbr h;obtain⟨vs,h3,h4⟩:=qtm h1;refine⟨_,h3,fun ρ H eval hg hx=>?_⟩;simp only[jl,qd7];exact⟨_,_,rfl,h2 _ _ _ hg (hx x (by simp)),h4 _ _ _ hg (fun y hy=>hx y (by simp[hy]))⟩
theorem qvn (l:List UInt8):(⟨l.toArray⟩:ByteArray).size=l.length:=ByteArray.size_mk_toArray l
section
variable {P:Program} {bs:Base} {ρ:List Value} {H:PH} {lo:List AObj} {w:World}
theorem q7y {t:TypeId} (hu:P.underlying t=some .bool) (n:Nat) (a b:Bool):(Op.equalIn (n+1) t (.bool a) (.bool b)).run P w=.ok (a==b) w:=by
 simp[Op.equalIn,kru hu]
theorem zcm {t:TypeId} (hu:P.underlying t=some .bool) (a b:Bool):(Op.equal t (.bool a) (.bool b)).run P w=.ok (a==b) w:=
 q7y hu 9999 a b
theorem quy {t:TypeId} {d:TypeDesc} (hu:P.underlying t=some d):(isAgg t).run P w=.ok (zts d) w:=by
 simp only[isAgg,kh,kru hu,kg];cases d<;>rfl
def eqV:List PV->List PV->Option Bool
 | [],[]=>some true
 | .int k a::as,.int k' b::bs=>match q6j k k' with
  | true=>(eqV as bs).map fun c=>bif a==b then c else false
  | false=>none
 | .str a::as,.str b::bs=>(eqV as bs).map fun c=>bif a==b then c else false
 | .bool a::as,.bool b::bs=>(eqV as bs).map fun c=>bif a==b then c else false
 | _,_=>none
theorem zg9:∀ {as bs:List PV} {R:Bool->Prop},zog as bs R->∃ c,R c/\eqV as bs=some c:=by
 intro as
 induction as with
 | nil=>intro bs R h; cases bs with
  | nil=>exact⟨true,h,rfl⟩
  | cons b bs=>simp[zog]at h
 | cons a as ih=>
  intro bs R h;cases bs with
  | nil=>cases a<;>simp[zog]at h
  | cons b bs=>
   cases a<;>cases b<;>first
    | (simp[zog]at h; done)
    | (simp only[zog]at h; obtain⟨c,hc,e⟩:=ih h; exact⟨_,hc,by simp[eqV,e]⟩)
    | skip
   simp only[zog]at h;split at h
   ·rename_i hk
    obtain⟨c,hc,e⟩:=ih h;exact⟨_,hc,by simp[eqV,hk,e]⟩
   exact h.elim
theorem zn1 (a b:List UInt8):((⟨a.toArray⟩:ByteArray).toList==(⟨b.toArray⟩:ByteArray).toList)=(a==b):=by
 rw[ByteArray.toList_eq,ByteArray.toList_eq]
theorem zif {H:PH} {xs ys:Array Value}:∀ {fs:List Field} {o:Nat} {as bs:List PV} {va vb:List Value} {c:Bool},zmb P fs o as=true->qdi H as va->qdi H bs vb ->
  (∀ j v,va[j]? =some v->xs[o+j]? =some v)->(∀ j v,vb[j]? =some v->ys[o+j]? =some v)->eqV as bs=some c->(Op.eqFields 9999 xs ys fs).run P w=.ok c w:=by
 intro fs
 induction fs with
 | nil=>
  intro o as bs va vb c hf ra rb hx hy he;cases as with
  | nil=>cases bs with
   | nil=>simp[eqV]at he; subst he; simp[Op.eqFields]
   | cons b bs=>simp[eqV]at he
  | cons a as=>simp[zmb]at hf
 | cons f fs ih=>
  intro o as bs va vb c hf ra rb hx hy he;cases as with
  | nil=>simp[zmb]at hf
  | cons a as=>
   cases bs with
   | nil=>cases a<;>simp[eqV]at he
   | cons b bs=>
    simp only[zmb,Bool.and_eq_true]at hf;obtain⟨⟨⟨hn,ho⟩,hk⟩,hf⟩:=hf;have hn:f.name ≠ "_" :=by simpa using hn
    have ho:f.offset=o:=jn ho;simp only[qdi]at ra rb;obtain⟨v,va',rfl,rv,ra'⟩:=ra;obtain⟨u,vb',rfl,ru,rb'⟩:=rb;have hxv:=hx 0 v rfl;have hyu:=hy 0 u rfl;simp only[Nat.add_zero]at hxv hyu;have step:∀ {x y:Bool},eqV as bs=some y->(Op.eqFields 9999 xs ys fs).run P w=.ok y w:=fun{x y} hxy=>
     ih hf ra' rb' (fun j v hv=>by rw[Nat.add_assoc,Nat.add_comm 1 j]; exact hx (j+1) v hv) (fun j v hv=>by rw[Nat.add_assoc,Nat.add_comm 1 j]; exact hy (j+1) v hv) hxy
    have fin:∀ {d:TypeDesc} {q:Bool},P.underlying f.type=some d->zts d=false->(Op.equalIn 9999 f.type v u).run P w=.ok q w->((eqV as bs).map fun c=>bif q then c else false)=some c ->
      (Op.eqFields 9999 xs ys (f::fs)).run P w=.ok c w:=by
     intro d q hu ha hq hc;cases he2:eqV as bs with
     | none=>rw[he2]at hc; cases hc
     | some y=>
      rw[he2]at hc;have hc:(bif q then y else false)=c:=by simpa using hc
      simp only[Op.eqFields,if_pos hn,kh,part,ho,quy hu,ha,kg,hxv,hyu];simp[hq];cases q with
      | true=>simp at hc; subst hc; simpa using step (x:=true) he2
      | false=>simp at hc; subst hc; simp
    cases a<;>cases b<;>simp only[eqV]at he<;>first|(cases he; done)|skip
    ·split at hk
     all_goals first
      | (cases hk; done)
      | (rename_i hu hq; cases hq; done)
      | (rename_i hu hq; simp only[qco]at rv ru; subst rv ru; exact fin hu rfl (run_equalIn_bool' w _ _ _ _ hu) he)
    ·split at he
     ·rename_i hkk
      have hkk:=qrv hkk;subst hkk;split at hk
      all_goals first
       | (cases hk; done)
       | (rename_i hu hq; cases hq; done)
       | (rename_i hu hq; simp only[qco]at rv ru; subst rv ru; exact fin hu rfl (run_equalIn_int w _ _ _ _ _ _ hu) he)
     ·cases he
    split at hk
    all_goals first
     | (cases hk; done)
     | (rename_i hu hq; cases hq; done)
     | (rename_i hu hq; simp only[qco]at rv ru; subst rv ru; exact fin hu rfl (run_equalIn_string w _ _ _ _ hu) (by rw[zn1]; exact he))
theorem zie {H:PH} {t:TypeId} {as bs:List PV} {va vb:List Value} {c:Bool} (hf:zsa P t as=true) (ra:qdi H as va) (rb:qdi H bs vb) (he:eqV as bs=some c) :
  P.eqGuardType P.depth t=false/\(Op.equalIn 10000 t (.agg va.toArray) (.agg vb.toArray)).run P w=.ok c w:=by
 unfold zsa at hf;split at hf
 ·rename_i fs hu
  simp only[Bool.and_eq_true,Bool.not_eq_true']at hf;obtain⟨⟨h1,h2⟩,h3⟩:=hf;refine⟨h2,?_⟩;have hfs:P.fieldsOf t=⟨fs⟩:=by simp[Program.fieldsOf,hu]
  rw[run_equalIn_agg w 9999 t _ _ (by rw[hfs]; exact hu) h1,hfs];exact zif (o:=0) h3 ra rb (fun j v hv=>by simpa using hv) (fun j v hv=>by simpa using hv) he
 cases hf
theorem zo6 {g:G} {op:BinOp} {t:TypeId} {x y:FV} {R:FV->Prop} (h:zxw P g op t x y R) :
  ∃ fv,R fv/\(gOn g->∀ (ρ:List Value) (H:PH) (w:World) (xo yo:Operand) (a b:Value),qch ρ H x a->qch ρ H y b ->
   ∃ v,(do eqGuard op t xo yo a b; binOp op t a b:Sem Value).run P w=.ok v w/\qch ρ H fv v):=by
 unfold zxw at h;split at h
 ·rename_i k n
  split at h
  ·rename_i k' m
   split at h
   ·refine⟨_,h.2,fun hg ρ H w xo yo a b ra rb=>?_⟩
    rw[qj5 ra,qj5 rb];have h0:=qo5 h.1 hg;exact⟨_,by simp[eqGuard,binOp,Op.shift,show ¬ m<0 by omega],qq8⟩
   ·refine⟨_,h.2,fun hg ρ H w xo yo a b ra rb=>?_⟩
    rw[qj5 ra,qj5 rb];have h0:=qo5 h.1 hg;exact⟨_,by simp[eqGuard,binOp,Op.shift,show ¬ m<0 by omega],qq8⟩
   ·split at h
    case h_2=>exact h.elim
    rename_i hk;have hk:=qrv hk;obtain⟨h0,h⟩:=h;refine⟨_,h,fun hg ρ H w xo yo a b ra rb=>?_⟩;rw[qj5 ra,qj5 rb];have h0:=qo5 h0 hg;exact⟨_,by simp[eqGuard,binOp,Op.intDiv,hk,h0],qq8⟩
   ·split at h
    case h_2=>exact h.elim
    rename_i hk;have hk:=qrv hk;obtain⟨h0,h⟩:=h;refine⟨_,h,fun hg ρ H w xo yo a b ra rb=>?_⟩;rw[qj5 ra,qj5 rb];have h0:=qo5 h0 hg;exact⟨_,by simp[eqGuard,binOp,Op.intDiv,hk,h0],qq8⟩
   split at h
   case h_2=>exact h.elim
   rename_i hk;have hk:=qrv hk;subst hk;unfold zx7 at h;split at h<;>first
    | exact h.elim
    | (refine⟨_,h,fun hg ρ H w xo yo a b ra rb=>?_⟩; rw[qj5 ra,qj5 rb]; exact⟨_,by simp[eqGuard,binOp,Op.intArith,Op.intBits,Op.intCmp]<;>rfl,by simp[qch,qco]⟩)
  ·exact h.elim
 ·rename_i l
  split at h
  ·rename_i m
   unfold zx8 at h;split at h
   ·obtain⟨hs,h⟩:=h
    refine⟨_,h,fun hg ρ H w xo yo a b ra rb=>?_⟩;rw[qs4 ra,qs4 rb];have hs:=qo5 hs hg;refine⟨.string ⟨(l++m).toArray⟩,?_,qya⟩;have:=run_string_add_sum (P:=P) w ⟨l.toArray⟩ ⟨m.toArray⟩ (by rw[qvn,qvn]; unfold qhj at hs; omega);simp[eqGuard,binOp,this,ByteArray.mk_append_mk]
   all_goals first
    | exact h.elim
    | (refine⟨_,h,fun hg ρ H w xo yo a b ra rb=>?_⟩; rw[qs4 ra,qs4 rb]; exact⟨_,by simp[eqGuard,binOp,Op.stringOp]<;>rfl,by simp[qch,qco]⟩)
  ·exact h.elim
 ·rename_i a'
  split at h
  ·rename_i b'
   unfold zo4 at h;split at h
   ·rename_i hu
    unfold zx6 at h;split at h<;>first
     | exact h.elim
     | (refine⟨_,h,fun hg ρ H w xo yo a b ra rb=>?_⟩; rw[qtr ra,qtr rb]; exact⟨_,by simp only[eqGuard,binOp,kh,zcm hu]; rfl,by simp[qch,qco]⟩)
   ·exact h.elim
  exact h.elim
 ·rename_i as
  split at h
  ·rename_i bs
   split at h
   ·obtain⟨hf,h⟩:=h
    obtain⟨c,hR,he⟩:=zg9 h;refine⟨_,hR,fun hg ρ H w xo yo a b ra rb=>?_⟩;simp only[qch,qco]at ra rb;obtain⟨va,rfl,ra⟩:=ra;obtain⟨vb,rfl,rb⟩:=rb;obtain⟨h1,h2⟩:=zie (w:=w) hf ra rb he;exact⟨.bool c,by rw[kh,run_eqGuard_agg w _ t xo yo _ _ h1,kg,run_eql_struct,h2]; rfl,by simp[qch,qco]⟩
   ·obtain⟨hf,h⟩:=h
    obtain⟨c,hR,he⟩:=zg9 h;refine⟨_,hR,fun hg ρ H w xo yo a b ra rb=>?_⟩;simp only[qch,qco]at ra rb;obtain⟨va,rfl,ra⟩:=ra;obtain⟨vb,rfl,rb⟩:=rb;obtain⟨h1,h2⟩:=zie (w:=w) hf ra rb he;exact⟨.bool (!c),by rw[kh,run_eqGuard_agg w _ t xo yo _ _ h1,kg,run_neq_struct,h2]; rfl,by simp[qch,qco]⟩
   exact h.elim
  exact h.elim
 exact h.elim
theorem zjv {t:TypeId} {x:FV} {f:Nat} {R:FV->Prop} (h:zpa P t x f R) :
  ∃ fv,R fv/\∀ (ρ:List Value) (H:PH) (w:World) (a:Value),qch ρ H x a->∃ v,(Instr.fieldAt t a f).run P w=.ok v w/\qch ρ H fv v:=by
 unfold zpa at h;split at h
 ·rename_i k off
  obtain⟨fs,y,i,hu,hf,hi,hz,hr⟩:=qxt h;refine⟨_,hr,fun ρ H w a ra=>?_⟩;obtain⟨b,hb,rfl⟩:=ra;exact⟨.pointer (some ⟨b,off+y.offset,none⟩),by simp[Instr.fieldAt,kru hu,hf,Instr.sureAddr,fieldPlace,Go.sizeOf,typeInfo,hi,hz,Addr.add_lit],b,hb,rfl⟩
 ·rename_i row
  obtain⟨fs,y,i,hu,hf,hi,hz,hr⟩:=qxt h;obtain⟨hr,hlen⟩:=qkz hr;refine⟨_,hr,fun ρ H w a ra=>?_⟩;obtain⟨b,o,vs,rfl,q,c⟩:=ra;refine⟨.pointer (some ⟨b,o+y.offset,none⟩),by simp[Instr.fieldAt,kru hu,hf,Instr.sureAddr,fieldPlace,Go.sizeOf,typeInfo,hi,hz,Addr.add_lit],b,o+y.offset,vs.drop y.offset,rfl,q.drop _,fun j v hv=>?_⟩;rw[jE]at hv;have:=c _ _ hv
  rwa [← Nat.add_assoc]at this
 ·rename_i k z i' off
  obtain⟨fs,y,i,hu,hf,hi,hz,hr⟩:=qxt h;refine⟨_,hr,fun ρ H w a ra=>?_⟩;obtain⟨b,n,cap,hb,rfl⟩:=ra;exact⟨.pointer (some ⟨b,i' * z+off+y.offset,none⟩),by simp[Instr.fieldAt,kru hu,hf,Instr.sureAddr,fieldPlace,Go.sizeOf,typeInfo,hi,hz,Addr.add_lit],b,n,cap,hb,by rw[Nat.add_assoc]⟩
 exact h.elim
theorem zme {t:TypeId} {x:FV} {f:Nat} {R:FV->Prop} (h:zu0 P t x f R) :
  ∃ fv,R fv/\∀ (ρ:List Value) (H:PH) (w:World) (a:Value),qch ρ H x a->∃ v,(Instr.field t a f).run P w=.ok v w/\qch ρ H fv v:=by
 unfold zu0 at h;split at h
 ·rename_i cs
  obtain⟨fs,y,i,hu,hf,hi,hz,hr⟩:=qxt h;obtain⟨hr,hlen⟩:=qkz hr;obtain⟨d,i',hd,hi',hr⟩:=qib hr;have hii:i'=i:=Option.some.inj (hi'.symm.trans hi);subst hii;split at hr
  ·rename_i hagg
   obtain⟨hr,hl⟩:=qol hr;refine⟨_,hr,fun ρ H w a ra=>?_⟩;simp only[qch,qco]at ra;obtain⟨vs,rfl,q⟩:=ra;refine⟨.agg ((vs.drop y.offset).take i'.size).toArray,?_,?_⟩
   ·simp[Instr.field,kru hu,hf,asAgg,part,quy hd,hagg,Go.sizeOf,typeInfo,hi',List.extract_toArray,List.extract_eq_take_drop]
   simp only[qch,qco]; exact⟨_,rfl,(q.drop _).take _⟩
  rename_i hagg;split at hr
  ·rename_i c r hc
   refine⟨_,hr,fun ρ H w a ra=>?_⟩;simp only[qch,qco]at ra;obtain⟨vs,rfl,q⟩:=ra;have hg:cs[y.offset]? =some c:=by
    have:=congrArg (fun l=>l[0]?) hc
    simpa[jE]using this
   obtain⟨v,hv,rv⟩:=q.get hg;exact⟨v,by simp[Instr.field,kru hu,hf,asAgg,part,quy hd,hagg,hv],rv⟩
  exact hr.elim
 exact h.elim
theorem q6g {ρ:List Value} {H:PH} {w:World} {t e:TypeId} {ti:TypeInfo} (hu:P.underlying t=some (.slice e)) (hi:P.info? e=some ti) {rows:List (List PV)} {a:Value} (ra:qco H (.sl rows) a)
  {k:IntKind} {i:Int} {row:List PV} (h0:0<=i) (hrow:rows[i.toNat]? =some row) (hlen:row.length=ti.size) :
  ∃ v,(Instr.indexAt t a (.int k i)).run P w=.ok v w/\qch ρ H (.hptr row) v:=by
 simp only[qco]at ra;rcases ra with ⟨rfl,_⟩|⟨b,o,z,cap,rfl,hc,rr⟩
 ·simp at hrow
 obtain⟨hz,vs,q,c⟩:=rr.get hrow;have hlt:i<rows.length:=by have:=(jH.1 hrow).1; omega
 refine⟨.pointer (some ⟨b,o+i.toNat * ti.size,none⟩),?_,b,_,vs,rfl,q,?_⟩
 ·simp[Instr.indexAt,kru hu,asIntOf,h0,hlt,Go.sizeOf,typeInfo,hi,Addr.add_lit]
 rw[← hlen,hz]; exact c
theorem q98 {g:G} {t:TypeId} {x i:FV} {R:FV->Prop} (h:q5q P g t x i R) :
  ∃ fv,R fv/\(gOn g->∀ (ρ:List Value) (H:PH) (w:World) (a b:Value),qch ρ H x a->qch ρ H i b->∃ v,(Instr.indexAt t a b).run P w=.ok v w/\qch ρ H fv v):=by
 unfold q5q at h;split at h
 ·obtain⟨e,ti,hu,hi,row,hr,hR⟩:=qme h
  refine⟨_,hR,fun hg ρ H w a b ra rb=>?_⟩;obtain⟨h0,h1,h2⟩:=qo5 hr hg;rw[qj5 rb];exact q6g hu hi ra h0 h1 h2
 ·obtain⟨e,ti,hu,hi,row,hr,hR⟩:=qme h
  refine⟨_,hR,fun hg ρ H w a b ra rb=>?_⟩;obtain⟨h0,h1,h2⟩:=qo5 hr hg;rw[qj5 rb];exact q6g hu hi ra.2 h0 h1 h2
 ·rename_i k off kk n
  split at h
  ·rename_i len e hu
   split at h
   ·rename_i ti hi
    obtain⟨hb,hR⟩:=h;refine⟨_,hR,fun hg ρ H w a b ra rb=>?_⟩;obtain⟨h0,h1⟩:=qo5 hb hg;obtain⟨bl,hr,rfl⟩:=ra;rw[qj5 rb];refine⟨.pointer (some ⟨bl,off+n.toNat * ti.size,none⟩),?_,bl,hr,rfl⟩;simp[Instr.indexAt,kru hu,asIntOf,Instr.sureAddr,h0,h1,Go.sizeOf,typeInfo,hi,Addr.add_lit]
   exact h.elim
  exact h.elim
 ·rename_i k n kk i0
  obtain⟨e,ti,hu,hi,j,hb,hR⟩:=qme h;refine⟨_,hR,fun hg ρ H w a b ra rb=>?_⟩;obtain⟨rfl,hj⟩:=qo5 hb hg;obtain⟨hr,⟨h0,_⟩|⟨bl,cap,rfl⟩⟩:=ra
  ·omega
  rw[qj5 rb];refine⟨.pointer (some ⟨bl,j * ti.size,none⟩),?_,bl,n,cap,hr,by rw[Nat.add_zero]⟩;simp[Instr.indexAt,kru hu,asIntOf,hj,Go.sizeOf,typeInfo,hi,Addr.add_lit]
 ·rename_i k z kk i0
  split at h
  ·rename_i len e hu
   split at h
   ·rename_i ti hi
    split at h
    ·rename_i hz
     have hz:ti.size=1:=jn hz;obtain⟨j,hb,hR⟩:=h;refine⟨_,hR,fun hg ρ H w a b ra rb=>?_⟩;obtain⟨rfl,rfl,hj⟩:=qo5 hb hg;obtain⟨bl,n,cap,hr,rfl⟩:=ra;rw[qj5 rb];refine⟨.pointer (some ⟨bl,j,none⟩),?_,bl,n,cap,hr,by simp⟩;simp[Instr.indexAt,kru hu,asIntOf,Instr.sureAddr,hj,Go.sizeOf,typeInfo,hi,hz,Addr.add_lit]
    exact h.elim
   exact h.elim
  exact h.elim
 exact h.elim
theorem zjw {g:G} {t:TypeId} {x i:FV} {R:FV->Prop} (h:zpb P g t x i R) :
  ∃ fv,R fv/\(gOn g->∀ (ρ:List Value) (H:PH) (w:World) (a b:Value),qch ρ H x a->qch ρ H i b->∃ v,(Instr.index t a b).run P w=.ok v w/\qch ρ H fv v):=by
 unfold zpb at h;split at h
 ·rename_i l k n
  split at h
  ·rename_i hu
   obtain⟨b,hb,hR⟩:=h;refine⟨_,hR,fun hg ρ H w x y ra rb=>?_⟩;obtain⟨h0,h1⟩:=qo5 hb hg;rw[qs4 ra,qj5 rb];refine⟨_,?_,qq8⟩;have hlt:=(jH.1 h1).1;have hs:(⟨l.toArray⟩:ByteArray)[n.toNat]? =some b:=by
    rw[ByteArray.getElem?_lt' _ _ (by rw[qvn]; exact hlt)];have:=(jH.1 h1).2;rw[← this];rfl
   simp[Instr.index,asIntOf,kru hu,h0,hs]
  exact h.elim
 ·rename_i cs k n
  split at h
  ·rename_i len e hu
   obtain⟨d,ti,hd,hi,h⟩:=qib h;split at h
   ·rename_i hagg
    split at h
    ·rename_i hz
     have hz:ti.size=1:=jn hz;obtain⟨c,hb,hR⟩:=h;refine⟨_,hR,fun hg ρ H w x y ra rb=>?_⟩;obtain⟨h0,h1,h2⟩:=qo5 hb hg;simp only[qch,qco]at ra;obtain⟨vs,rfl,q⟩:=ra;obtain⟨v,hv,rv⟩:=q.get h2;rw[qj5 rb];refine⟨v,?_,rv⟩;simp[Instr.index,asIntOf,kru hu,h0,h1,Go.sizeOf,typeInfo,hi,hz,part,quy hd,hagg,hv]
    exact h.elim
   rename_i hagg;obtain⟨c,hb,hR⟩:=h;refine⟨_,hR,fun hg ρ H w x y ra rb=>?_⟩;obtain⟨h0,h1,h2⟩:=qo5 hb hg;simp only[qch,qco]at ra;obtain⟨vs,rfl,q⟩:=ra;rw[qj5 rb];refine⟨.agg ((vs.drop (n.toNat * ti.size)).take ti.size).toArray,?_,?_⟩
   ·simp[Instr.index,asIntOf,kru hu,h0,h1,Go.sizeOf,typeInfo,hi,part,quy hd,hagg,List.extract_toArray,List.extract_eq_take_drop]
   simp only[qch,qco];exact⟨_,rfl,by rw[← h2]; exact(q.drop _).take _⟩
  exact h.elim
 exact h.elim
theorem zpc {t:TypeId} {x:FV} {R:FV->Prop} (h:zxx P t x R) :
  ∃ fv,R fv/\∀ (ρ:List Value) (H:PH) (w:World) (ty:TypeId) (a:Value),qch ρ H x a->∃ v,(Builtin.len_ #[t] ty #[a]).run P w=.ok v w/\qch ρ H fv v:=by
 have slice:∀ (e:TypeId),P.underlying t=some (.slice e)->∀ (rows:List (List PV)) (H:PH) (w:World) (ty:TypeId) (a:Value),qco H (.sl rows) a->(Builtin.len_ #[t] ty #[a]).run P w=.ok (.int .i64 rows.length) w:=by
  intro e hu rows H w ty a ra;simp only[qco]at ra;rcases ra with ⟨rfl,rfl|⟨a',cap',rfl⟩⟩|⟨b,o,z,cap,rfl,_,_⟩
  ·simp[Builtin.len_,kru hu,goInt]
  ·simp[Builtin.len_,kru hu,goInt]
  simp[Builtin.len_,kru hu,goInt]
 unfold zxx at h;split at h
 ·rename_i l
  split at h
  ·rename_i hu
   refine⟨_,h,fun ρ H w ty a ra=>⟨.int .i64 l.length,?_,qq8⟩⟩;rw[qs4 ra];simp[Builtin.len_,kru hu,goInt,qvn]
  exact h.elim
 ·rename_i rows
  split at h
  ·rename_i e hu
   exact⟨_,h,fun ρ H w ty a ra=>⟨_,slice e hu rows H w ty a ra,qq8⟩⟩
  exact h.elim
 ·rename_i k rows
  split at h
  ·rename_i e hu
   exact⟨_,h,fun ρ H w ty a ra=>⟨_,slice e hu rows H w ty a ra.2,qq8⟩⟩
  exact h.elim
 ·rename_i k off n cap
  split at h
  ·rename_i e hu
   refine⟨_,h,fun ρ H w ty a ra=>⟨.int .i64 n,?_,qq8⟩⟩;obtain⟨b,_,rfl⟩:=ra;simp[Builtin.len_,kru hu,goInt]
  exact h.elim
 ·rename_i k n
  split at h
  ·rename_i e hu
   refine⟨_,h,fun ρ H w ty a ra=>⟨.int .i64 n,?_,qq8⟩⟩;obtain⟨_,⟨rfl,rfl⟩|⟨b,cap,rfl⟩⟩:=ra<;>simp[Builtin.len_,kru hu,goInt]
  exact h.elim
 ·split at h
  ·rename_i e hu
   refine⟨_,h,fun ρ H w ty a ra=>⟨.int .i64 0,?_,qq8⟩⟩;simp only[qch,qco]at ra;subst ra;simp[Builtin.len_,kru hu,goInt]
  exact h.elim
 exact h.elim
theorem zfl {s d:TypeId} {x:FV} {R:FV->Prop} (h:zfk P s d x R) :
  ∃ fv,R fv/\∀ (ρ:List Value) (H:PH) (w:World) (a:Value),qch ρ H x a->∃ v,(convert s d a).run P w=.ok v w/\qch ρ H fv v:=by
 unfold zfk at h;split at h
 ·split at h
  ·rename_i hu
   split at h
   ·rename_i k hv
    refine⟨_,h,fun ρ H w a ra=>⟨_,?_,qq8⟩⟩;rw[qj5 ra];simp[convert,kru hu,kru hv,Conv.intToInt]
   exact h.elim
  exact h.elim
 ·split at h
  ·rename_i hu
   split at h
   ·rename_i hv
    refine⟨_,h,fun ρ H w a ra=>⟨_,?_,qya⟩⟩;rw[qs4 ra];simp[convert,kru hu,kru hv]
   exact h.elim
  exact h.elim
 exact h.elim
theorem qj3 {E:Env} {g:G} {x:Option Operand} {d:Nat} {R:Nat->Prop} (h:qyl E g x d R) :
  ∃ n,R n/\(∀ (ρ:List Value) (H:PH) (eval:Operand->Value),gOn g->(∀ y∈x.toArray,qch ρ H (evF (qcc E) y) (eval y))->(x=none/\n=d)\/∃ y k,x=some y/\eval y=.int k n):=by
 unfold qyl at h;split at h
 ·exact⟨d,h,fun _ _ _ _ _=>.inl ⟨rfl,rfl⟩⟩
 rename_i y;obtain⟨v,h,hs⟩:=qbr h;split at h
 ·rename_i k i
  obtain⟨n,hn,hR⟩:=h;refine⟨n,hR,fun ρ H eval hg hy=>.inr ⟨y,k,rfl,?_⟩⟩;rw[qj5 (hs ρ H _ hg (hy y (by simp))),qo5 hn hg]
 exact h.elim
theorem qt0 {isSlice:Bool} {len cap:Nat} {lo hi:Option Operand} {eval:Operand->Value} {a h:Nat} (hlo:(lo=none/\a=0)\/∃ y k,lo=some y/\eval y=.int k a)
  (hhi:(hi=none/\h=len)\/∃ y k,hi=some y/\eval y=.int k h) (h1:a<=h) (h2:h<=cap) :
  (Instr.sliceBounds isSlice len cap (lo.map eval) (hi.map eval) none).run P w=.ok (a,h,cap) w:=by
 rcases hlo with ⟨rfl,rfl⟩|⟨y,k,rfl,hy⟩<;>rcases hhi with ⟨rfl,rfl⟩|⟨y',k',rfl,hy'⟩ <;>
  simp[Instr.sliceBounds,Instr.sliceBound,asIntOf, *,Int.toNat_natCast]
theorem zjz {E:Env} {g:G} {t:TypeId} {x:FV} {lo hi mx:Option Operand} {R:FV->Prop} (h:zpf P E g t x lo hi mx R) :
  ∃ fv,R fv/\(∀ (ρ:List Value) (H:PH) (w:World) (eval:Operand->Value) (v:Value),gOn g->qch ρ H x v->(∀ y∈lo.toArray,qch ρ H (evF (qcc E) y) (eval y))->(∀ y∈hi.toArray,qch ρ H (evF (qcc E) y) (eval y)) ->
   mx=none/\∃ u,(Instr.sliceAt t v (lo.map eval) (hi.map eval) none).run P w=.ok u w/\qch ρ H fv u):=by
 have rowsCase:∀ (e:TypeId) (i:TypeInfo) (rows:List (List PV)) (a h:Nat),P.underlying t=some (.slice e)->P.info? e=some i->(a<=h/\h<=rows.length/\∀ r∈rows,r.length=i.size) ->
   ∀ (H:PH) (w:World) (eval:Operand->Value) (v:Value),qco H (.sl rows) v->((lo=none/\a=0)\/∃ y k,lo=some y/\eval y=.int k a)->((hi=none/\h=rows.length)\/∃ y k,hi=some y/\eval y=.int k h) ->
   ∃ u,(Instr.sliceAt t v (lo.map eval) (hi.map eval) none).run P w=.ok u w/\qco H (.sl ((rows.take h).drop a)) u:=by
  intro e i rows a h hu hi hah H w eval v rv hlo hhi;obtain⟨h1,h2,h3⟩:=hah;simp only[qco]at rv ⊢;rcases rv with ⟨rfl,rfl|⟨a',cap',rfl⟩⟩|⟨b,o,z,cap,rfl,hc,rr⟩
  rotate_left
  ·have h0:h=0:=by simpa using h2
   subst h0;have ha:a=0:=by omega
   subst ha;have:=qt0 (P:=P) (w:=w) (isSlice:=true) (len:=0) (cap:=cap') hlo (by simpa using hhi) (jx 0) (jT _);by_cases hcap:cap'=0
   ·subst hcap
    refine⟨.slice (some a') 0 0,?_,.inl ⟨by simp,.inr ⟨_,_,rfl⟩⟩⟩;simp[Instr.sliceAt,Instr.slice,kru hu,this,Go.sizeOf,typeInfo,hi]
   refine⟨.slice (some (a'.add 0)) 0 cap',?_,.inl ⟨by simp,.inr ⟨_,_,rfl⟩⟩⟩;simp[Instr.sliceAt,Instr.slice,kru hu,this,Go.sizeOf,typeInfo,hi,hcap]
  rotate_right
  ·have h0:h=0:=by simpa using h2
   subst h0;have ha:a=0:=by omega
   subst ha;have:=qt0 (P:=P) (w:=w) (isSlice:=true) (len:=0) (cap:=0) hlo (by simpa using hhi) (jx 0) (jx 0);refine⟨.slice none 0 0,?_,.inl ⟨by simp,.inl rfl⟩⟩;simp[Instr.sliceAt,Instr.slice,kru hu,this,Go.sizeOf,typeInfo,hi]
  have:=qt0 (P:=P) (w:=w) (isSlice:=true) (len:=rows.length) (cap:=cap) hlo hhi h1 (by omega);have hlen:((rows.take h).drop a).length=h - a:=by simp; omega
  by_cases hcap:cap=a
  ·have hha:h=a:=by omega
   subst hha;refine⟨.slice (some ⟨b,o,none⟩) 0 0,?_,.inr ⟨b,o,z,0,?_,?_,?_⟩⟩
   ·subst hcap
    simp[Instr.sliceAt,Instr.slice,kru hu,this,Go.sizeOf,typeInfo,hi]
   ·rw[hlen]; simp
   ·rw[hlen]; simp
   have e0:(rows.take h).drop h=[]:=by
    apply List.eq_nil_of_length_eq_zero;rw[hlen];omega
   rw[e0];simp[qs3]
  refine⟨.slice (some ⟨b,o+a * i.size,none⟩) (h - a) (cap - a),?_,.inr ⟨b,o+a * i.size,z,cap - a,by rw[hlen],by rw[hlen]; omega,?_⟩⟩
  ·simp[Instr.sliceAt,Instr.slice,kru hu,this,Go.sizeOf,typeInfo,hi,hcap,Addr.add_lit]
  have hz:rows=[]\/z=i.size:=by
   cases rows with
   | nil=>exact .inl rfl
   | cons r rs=>
    simp only[qs3]at rr;exact .inr (by rw[← rr.1]; exact h3 r (by simp))
  rcases hz with hz|hz
  ·subst hz; simp[qs3]
  rw[← hz]; exact(rr.take h).drop a
 unfold zpf at h;split at h
 ·exact h.elim
 split at h
 ·rename_i l
  split at h
  ·rename_i hu
   obtain⟨hh,h,hb1⟩:=qj3 h;obtain⟨aa,h,hb2⟩:=qj3 h;refine⟨_,h.2,fun ρ H w eval v hg rv hlo hhi=>⟨rfl,?_⟩⟩;obtain⟨h1,h2⟩:=qo5 h.1 hg;rw[qs4 rv];have:=qt0 (P:=P) (w:=w) (isSlice:=false) (len:=l.length) (cap:=l.length) (hb2 ρ H eval hg hlo) (hb1 ρ H eval hg hhi) h1 h2;refine⟨.string ⟨((l.take hh).drop aa).toArray⟩,?_,qya⟩;simp[Instr.sliceAt,Instr.slice,kru hu,qvn,this,ByteArray.extract_mk,List.drop_take]
  exact h.elim
 ·rename_i rows
  split at h
  ·rename_i e hu
   split at h
   ·rename_i i hi
    obtain⟨hh,h,hb1⟩:=qj3 h;obtain⟨aa,h,hb2⟩:=qj3 h;refine⟨_,h.2,fun ρ H w eval v hg rv hlo hhi=>⟨rfl,?_⟩⟩;exact rowsCase e i rows aa hh hu hi (qo5 h.1 hg) H w eval v rv (hb2 ρ H eval hg hlo) (hb1 ρ H eval hg hhi)
   exact h.elim
  exact h.elim
 ·rename_i k rows
  split at h
  ·rename_i e hu
   split at h
   ·rename_i i hi
    obtain⟨hh,h,hb1⟩:=qj3 h;obtain⟨aa,h,hb2⟩:=qj3 h;refine⟨_,h.2,fun ρ H w eval v hg rv hlo hhi=>⟨rfl,?_⟩⟩;exact rowsCase e i rows aa hh hu hi (qo5 h.1 hg) H w eval v rv.2 (hb2 ρ H eval hg hlo) (hb1 ρ H eval hg hhi)
   exact h.elim
  exact h.elim
 ·rename_i k off
  split at h
  ·rename_i n e hu
   split at h
   ·rename_i i hi
    split at h
    ·rename_i hz
     have hz:i.size=1:=jn hz;obtain⟨hh,h,hb1⟩:=qj3 h;obtain⟨aa,h,hb2⟩:=qj3 h;refine⟨_,h.2,fun ρ H w eval v hg rv hlo hhi=>⟨rfl,?_⟩⟩;obtain⟨h1,h2,h3⟩:=qo5 h.1 hg;obtain⟨b,hr,rfl⟩:=rv;have:=qt0 (P:=P) (w:=w) (isSlice:=false) (len:=n) (cap:=n) (hb2 ρ H eval hg hlo) (hb1 ρ H eval hg hhi) h1 h2;have hcap:¬ n=aa:=by omega
     refine⟨.slice (some ⟨b,off+aa,none⟩) (hh - aa) (n - aa),?_,b,hr,rfl⟩;simp[Instr.sliceAt,Instr.sureAddr,kru hu,this,Go.sizeOf,typeInfo,hi,hz,hcap,Addr.add_lit]
    exact h.elim
   exact h.elim
  exact h.elim
 ·rename_i k z
  split at h
  ·rename_i n e hu
   split at h
   ·rename_i i hi
    split at h
    ·rename_i hz
     have hz:i.size=1:=jn hz;obtain⟨hh,h,hb1⟩:=qj3 h;obtain⟨aa,h,hb2⟩:=qj3 h;refine⟨_,h.2,fun ρ H w eval v hg rv hlo hhi=>⟨rfl,?_⟩⟩;obtain⟨rfl,h1,h2,h3⟩:=qo5 h.1 hg;obtain⟨b,n',cap',hr,rfl⟩:=rv;have:=qt0 (P:=P) (w:=w) (isSlice:=false) (len:=n) (cap:=n) (hb2 ρ H eval hg hlo) (hb1 ρ H eval hg hhi) h1 h2;have hcap:¬ n=aa:=by omega
     refine⟨.slice (some ⟨b,aa,none⟩) (hh - aa) (n - aa),?_,b,n',cap',_,hr,rfl⟩;simp[Instr.sliceAt,Instr.sureAddr,kru hu,this,Go.sizeOf,typeInfo,hi,hz,hcap,Addr.add_lit]
    exact h.elim
   exact h.elim
  exact h.elim
 exact h.elim
theorem qzy {w:World} {b:Nat} {vs:List Value} {t:TypeId} {fr:Nat×Nat} (hg:w.heap[b]? =some (.cells vs.toArray t fr)) (off:Nat) :
  ∀ j v,(vs.drop off)[j]? =some v->w.cell? ⟨b,off+j,none⟩=some v:=fun j v hv=>by
 rw[cell_of_row w b (off+j) _ t fr hg];rw[jE]at hv;simpa using hv
end
end Ax
end
section
namespace Ax
open Go
section
variable {P:Program}
theorem zk7 (off:Nat):∀ (l:List Value) (k:Nat) (cs:Array Value),off+k+l.length<=cs.size ->
  ((l.zipIdx k).foldl (fun(cs:Array Value) (x:Value×Nat)=>cs.setIfInBounds (off+x.2) x.1) cs).toList=cs.toList.take (off+k)++l++cs.toList.drop (off+k+l.length)
 | [],k,cs,_=>by simp
 | c::l,k,cs,h=>by
  simp only[ja]at h;rw[List.zipIdx_cons,List.foldl_cons,zk7 off l (k+1) _ (by simp; omega)];simp only[Array.toList_setIfInBounds,ja];have e:off+(k+1)=off+k+1:=by omega
  rw[e,List.take_add_one,List.getElem?_set_self (by simpa using(by omega:off+k<cs.size)),List.take_set_of_le (jx _),List.drop_set_of_lt (by omega)];have e2:off+k+1+l.length=off+k+(l.length+1):=by omega
  rw[e2];simp
theorem zfe (off:Nat) (v:Value) (cs:Array Value) (h:off+v.cells.size<=cs.size) :
  (v.cells.zipIdx.foldl (fun(cs:Array Value) (x:Value×Nat)=>cs.setIfInBounds (off+x.2) x.1) cs).toList=cs.toList.take off++v.cells.toList++cs.toList.drop (off+v.cells.size):=by
 rw[← Array.foldl_toList,Array.toList_zipIdx];have:=zk7 off v.cells.toList 0 cs (by simpa using h);simpa using this
theorem qrw {ρ:List Value} {H:PH} {f:FV} {x:Value} (h:znm f=true) (r:qch ρ H f x):x.cells = #[x]/\x.oneCell'=true:=by
 cases f with
 | p p=>
  cases p<;>simp[znm]at h<;>simp only[qch,qco]at r
  case sl rows=>
   rcases r with ⟨_,rfl|⟨_,_,rfl⟩⟩|⟨b,o,z,cap,rfl,_⟩<;>exact⟨rfl,rfl⟩
  case ifc t p=>
   obtain⟨u,rfl,_⟩:=r;exact⟨rfl,rfl⟩
  all_goals (subst r; exact⟨rfl,rfl⟩)
 | top=>simp[znm]at h
 | opt g v=>simp[znm]at h
 | tsl k rows=>
  have:=r.2;simp only[qco]at this;rcases this with ⟨_,rfl|⟨_,_,rfl⟩⟩|⟨b,o,z,cap,rfl,_⟩<;>exact⟨rfl,rfl⟩
 | ptr k off=>
  obtain⟨b,_,rfl⟩:=r;exact⟨rfl,rfl⟩
 | hptr row=>
  obtain⟨b,o,vs,rfl,_⟩:=r;exact⟨rfl,rfl⟩
 | bself k=>
  obtain⟨b,_,rfl|rfl⟩:=r<;>exact⟨rfl,rfl⟩
 | bsl k off len cap=>
  obtain⟨b,_,rfl⟩:=r;exact⟨rfl,rfl⟩
 | vsl k n=>
  obtain⟨_,⟨_,rfl⟩|⟨b,cap,rfl⟩⟩:=r<;>exact⟨rfl,rfl⟩
 | eptr k z i off=>
  obtain⟨b,n,cap,_,rfl⟩:=r;exact⟨rfl,rfl⟩
 | mref k=>
  obtain⟨b,_,rfl⟩:=r;exact⟨rfl,rfl⟩
 | pair a b=>simp[znm]at h
 | stmp k=>simp[znm]at h
 | cap0=>simp[znm]at h
 | cap a b=>simp[znm]at h
 | fagg c=>simp[znm]at h
 | nxt ok a b=>simp[znm]at h
 | asl k off n=>
  obtain⟨b,_,_,_,_,rfl⟩:=r;exact⟨rfl,rfl⟩
 | clo f c=>
  obtain⟨vs,rfl,_⟩:=r;exact⟨rfl,rfl⟩
theorem qz2:∀ {cs:List PV} {R:List FV->Prop},zub cs R->R (cs.map .p)
 | [],R,h=>h
 | c::cs,R,h=>by simpa using qz2 (cs:=cs) (R:=fun l=>R (.p c::l)) h
theorem qty:∀ {off:Nat} {vs old:List FV} {R:List FV->Prop},qz6 off vs old R->R (old.take off++vs++old.drop (off+vs.length))/\off+vs.length<=old.length
 | 0,[],old,R,h=>by simpa[qz6]using h
 | 0,v::vs,[],R,h=>by simp[qz6]at h
 | 0,v::vs,a::old,R,h=>by
  simp only[qz6]at h;have:=qty (off:=0) h;simpa using this
 | off+1,vs,[],R,h=>by cases vs<;>simp[qz6]at h
 | off+1,vs,a::old,R,h=>by
  have h':qz6 off vs old fun l=>R (a::l):=by cases vs<;>simpa[qz6]using h
  have:=qty h';have e:off+1+vs.length=(off+vs.length)+1:=by omega
  rw[e];simpa using this
theorem qd7.append {ρ:List Value} {H:PH}:∀ {cs ds:List FV} {vs us:List Value},qd7 ρ H cs vs->qd7 ρ H ds us->qd7 ρ H (cs++ds) (vs++us)
 | [],_,vs,_,x,y=>by simp only[qd7]at x; simpa[x]using y
 | c::cs,ds,vs,us,x,y=>by
  obtain⟨v,vs',rfl,r,rs⟩:=x;exact⟨v,_,rfl,r,rs.append y⟩
theorem qwz:∀ {off:Nat} {vs old:List PV} {R:List PV->Prop},q7w off vs old R->R (old.take off++vs++old.drop (off+vs.length))/\off+vs.length<=old.length
 | 0,[],old,R,h=>by simpa[q7w]using h
 | 0,v::vs,[],R,h=>by simp[q7w]at h
 | 0,v::vs,a::old,R,h=>by
  simp only[q7w]at h;have:=qwz (off:=0) h;simpa using this
 | off+1,vs,[],R,h=>by cases vs<;>simp[q7w]at h
 | off+1,vs,a::old,R,h=>by
  have h':q7w off vs old fun l=>R (a::l):=by cases vs<;>simpa[q7w]using h
  have:=qwz h';have e:off+1+vs.length=(off+vs.length)+1:=by omega
  rw[e];simpa using this
theorem q2w {p:PV} {R:List PV->Prop} (h:zg1 p R):∃ c,R c/\∀ (H:PH) (x:Value),qco H p x->qdi H c x.cells.toList:=by
 unfold zg1 at h;split at h
 ·rename_i cs
  refine⟨cs,h,fun H x r=>?_⟩;simp only[qco]at r;obtain⟨vs,rfl,q⟩:=r;simpa[Value.cells]using q
 ·exact h.elim
 rename_i h1 h2;refine⟨[p],h,fun H x r=>?_⟩;have hc:x.cells = #[x]:=by
  cases p<;>simp only[qco]at r
  case agg cs=>exact absurd rfl (h1 cs)
  case tup cs=>exact absurd rfl (h2 cs)
  case sl rows=>rcases r with ⟨_,rfl|⟨_,_,rfl⟩⟩|⟨_,_,_,_,rfl,_⟩<;>rfl
  case ifc t p=>obtain⟨_,rfl,_⟩:=r; rfl
  all_goals (subst r; rfl)
 rw[hc];simp only[qdi];exact⟨x,[],rfl,r,rfl⟩
theorem zao {H:PH} {p:PV} {x:Value} (h:zkb p=true) (r:qco H p x):x.oneCell'=true/\x.cells = #[x]:=by
 cases p<;>simp only[qco]at r
 case agg cs=>simp[zkb]at h
 case tup cs=>simp[zkb]at h
 case sl rows=>rcases r with ⟨_,rfl|⟨_,_,rfl⟩⟩|⟨_,_,_,_,rfl,_⟩<;>exact⟨rfl,rfl⟩
 case ifc t p=>obtain⟨_,rfl,_⟩:=r; exact⟨rfl,rfl⟩
 all_goals (subst r; exact⟨rfl,rfl⟩)
theorem qdi.one {H:PH}:∀ {cs:List PV} {vs:List Value},(∀ c∈cs,zkb c=true)->qdi H cs vs->∀ u∈vs,u.oneCell'=true
 | [],vs,_,r,u,hu=>by simp only[qdi]at r; simp[r]at hu
 | c::cs,vs,h,r,u,hu=>by
  simp only[qdi]at r;obtain⟨v,vs',rfl,r1,rs⟩:=r;rcases jg.1 hu with rfl|hu
  ·exact(zao (h c (by simp)) r1).1
  exact qdi.one (fun c hc=>h c (by simp[hc])) rs u hu
theorem qwy:∀ {vs:List Value} {R:List PV->Prop},znl vs R->∃ ps,R ps/\∀ H,qdi H ps vs
 | [],R,h=>⟨[],h,fun H=>by simp[qdi]⟩
 | v::vs,R,h=>by
  simp only[znl]at h;split at h
  ·rename_i p hp
   obtain⟨ps,hr,hs⟩:=qwy h;refine⟨p::ps,hr,fun H=>?_⟩;simp only[qdi];exact⟨v,vs,rfl,zam hp H,hs H⟩
  exact h.elim
theorem zcy {E:Env} {g:G} {fs:List Field}:∀ {parts:List (Nat×Operand)} {cs:List PV} {R:List PV->Prop},zr9 P E g fs parts cs R ->
  ∃ cs',R cs'/\(gOn g->∀ (ρ:List Value) (H:PH) (w:World) (eval:Operand->Value) (places:Array (Nat×Nat)) (cells:Array Value),(∀ x∈parts.map (·.2),qch ρ H (evF (qcc E) x) (eval x)) ->
   (∀ (i:Nat) (f:Field),fs[i]? =some f->∀ ti,P.info? f.type=some ti->places[i]? =some (f.offset,ti.size))->qdi H cs cells.toList ->
   ∃ cells',Instr.fill (places[·]?) cells (parts.map fun(i,x)=>(i,eval x))=some cells'/\qdi H cs' cells'.toList)
 | [],cs,R,h=>⟨cs,h,fun _ ρ H w eval places cells _ _ r=>⟨cells,rfl,r⟩⟩
 | (i,x)::l,cs,R,h=>by
  simp only[zr9]at h;obtain⟨f,hf,h⟩:=qdk h;split at h
  ·rename_i ti hti
   obtain⟨v,h,hv⟩:=qbr h;obtain⟨p,h,hp⟩:=qss h;obtain⟨c,h,hc⟩:=q2w h;split at h
   ·rename_i hsz
    have hsz:c.length=ti.size:=jn hsz;obtain⟨h,hlen⟩:=qwz h;obtain⟨cs',h,hs⟩:=zcy h;refine⟨cs',h,fun hg ρ H w eval places cells hx hpl r=>?_⟩;have rc:=hc H _ (hp _ _ _ (hv ρ H _ hg (hx x (by simp))));have hvs:(eval x).cells.size=ti.size:=by have:=rc.length; simp at this; omega
    have hcl:=r.length;simp at hcl;have hle:f.offset+(eval x).cells.size<=cells.size:=by omega
    have h1:=zfe f.offset (eval x) cells hle;obtain⟨cells',e',r'⟩:=hs hg ρ H w eval places ((eval x).cells.zipIdx.foldl (fun(cs:Array Value) (x:Value×Nat)=>cs.setIfInBounds (f.offset+x.2) x.1) cells) (fun y hy=>hx y (by simp at hy ⊢; exact .inr hy)) hpl (by
     rw[h1,hvs,← hsz];exact((r.take _).append rc).append (r.drop _))
    refine⟨cells',?_,r'⟩;simp only[jl,Instr.fill,hpl i f hf ti hti];rw[if_neg (by simp[hvs]; omega)];exact e'
   exact h.elim
  exact h.elim
theorem qx4 {E:Env} {g:G}:∀ {parts:List (Nat×Operand)} {k:Nat} {R:List PV->Prop},zh2 E g k parts R ->
  ∃ ps,R ps/\ps.length=parts.length/\(gOn g->∀ (ρ:List Value) (H:PH) (eval:Operand->Value),(∀ x∈parts.map (·.2),qch ρ H (evF (qcc E) x) (eval x)) ->
   ∃ vals,(parts.map fun(i,x)=>(i,eval x))=(vals.zipIdx k).map (fun(v,i)=>(i,v))/\qdi H ps vals)
 | [],k,R,h=>⟨[],h,rfl,fun _ ρ H eval _=>⟨[],rfl,by simp[qdi]⟩⟩
 | (i,x)::l,k,R,h=>by
  simp only[zh2]at h;split at h
  ·rename_i hi
   have hi:i=k:=jn hi;subst hi;obtain⟨v,h,hv⟩:=qbr h;obtain⟨p,h,hp⟩:=qss h;obtain⟨ps,h,hl,hs⟩:=qx4 h;refine⟨p::ps,h,by simp[hl],fun hg ρ H eval hx=>?_⟩;obtain⟨vals,e,r⟩:=hs hg ρ H eval (fun y hy=>hx y (by simp at hy ⊢; exact .inr hy))
   refine⟨eval x::vals,?_,?_⟩
   ·simp only[jl,List.zipIdx_cons,e]
   simp only[qdi];exact⟨_,_,rfl,hp _ _ _ (hv ρ H _ hg (hx x (by simp))),r⟩
  exact h.elim
theorem q32 (size:Nat) (n:Nat) (pl:Nat->Option (Nat×Nat)) (hpl:∀ i,i<n->pl i=some (i * size,size)):∀ (vals:List Value) (k:Nat) (cells:Array Value),(∀ v∈vals,v.cells.size=size)->k+vals.length=n->n * size=cells.size ->
  ∃ cells',Instr.fill pl cells ((vals.zipIdx k).map fun(v,i)=>(i,v))=some cells'/\cells'.toList=cells.toList.take (k * size)++vals.flatMap (·.cells.toList)
 | [],k,cells,_,hn,hc=>by
  refine⟨cells,rfl,?_⟩;simp at hn;subst hn;rw[List.take_of_length_le (by simp; omega)];simp
 | v::vals,k,cells,hv,hn,hc=>by
  have h1:=hv v (by simp);simp only[ja]at hn;have hkn:(k+1) * size<=n * size:=Nat.mul_le_mul_right _ (by omega);have hle:k * size+v.cells.size<=cells.size:=by rw[h1,← hc]; rw[Nat.add_mul,Nat.one_mul]at hkn; exact hkn
  have hf:=zfe (k * size) v cells hle;have hsz:(v.cells.zipIdx.foldl (fun(cs:Array Value) (x:Value×Nat)=>cs.setIfInBounds (k * size+x.2) x.1) cells).size=cells.size:=by
   rw[← jL,hf];simp;omega
  obtain⟨cells',e,h⟩:=q32 size n pl hpl vals (k+1) _ (fun u hu=>hv u (by simp[hu])) (by omega) (by rw[hsz]; exact hc)
  refine⟨cells',?_,?_⟩
  ·simp only[List.zipIdx_cons,jl,Instr.fill,hpl k (by omega)]
   rw[if_neg (by simp[h1]; omega)];exact e
  rw[h,hf];have e1:(k+1) * size=k * size+v.cells.size:=by rw[h1,Nat.add_mul,Nat.one_mul]
  rw[e1,List.flatMap_cons,← jt];congr 1;rw[jt,List.take_append,List.take_append];simp only[ju,jL];have:min (k * size) cells.size=k * size:=Nat.min_eq_left (by omega);rw[this,List.take_of_length_le (l:=List.take (k * size) cells.toList) (by simp; omega)];simp;exact List.take_of_length_le (by simp)
theorem q53:∀ {ps:List PV} {R:List (List PV)->Prop},zs6 ps R->∃ rows,R rows/\rows.length=ps.length/\∀ (H:PH) (vals:List Value),qdi H ps vals ->
  (∀ (i:Nat) (r:List PV) (v:Value),rows[i]? =some r->vals[i]? =some v->qdi H r v.cells.toList)
 | [],R,h=>⟨[],h,rfl,fun H vals r i r' v hr=>by simp at hr⟩
 | p::ps,R,h=>by
  simp only[zs6]at h;obtain⟨c,h,hc⟩:=q2w h;obtain⟨rows,h,hl,hs⟩:=q53 h;refine⟨c::rows,h,by simp[hl],fun H vals r i r' v hr hv=>?_⟩;simp only[qdi]at r;obtain⟨x,vs',rfl,rx,rs⟩:=r;cases i with
  | zero=>simp at hr hv; subst hr; subst hv; exact hc H x rx
  | succ i=>exact hs H vs' rs i r' v (by simpa using hr) (by simpa using hv)
theorem zr2 {H:PH} {w:World} (s:SatH H w) (e:TypeId) (ys:List Value) (h1:∀ u∈ys,u.oneCell'=true) :
  Calm H w (fun b o=>if b=w.heap.size then ys[o]? else H b o) (w.alloc (.cells ys.toArray e)):=by
 have hlt:∀ b o v,H b o=some v->b≠w.heap.size:=fun b o v hv e=>by
  have:=s.lt hv; omega
 refine⟨fun b o v hv=>?_,⟨fun b o v hv=>?_,s.root.mono fun b o v hv=>by rw[if_neg (hlt b o v hv)]; exact hv⟩,⟨rfl,rfl,rfl,by simp,fun k hk _=>Go.RowKit.Below.heap_alloc w _ k hk⟩,fun b o v hv=>?_⟩
 ·rw[if_neg (hlt b o v hv)]; exact hv
 ·split at hv
  ·rename_i hb
   subst hb;refine⟨?_,h1 v (List.mem_of_getElem? hv)⟩;rw[World.cell?_alloc_new];simpa using hv
  obtain⟨c,o1⟩:=s.cell b o v hv;exact⟨by rw[World.cell?_alloc_lt (h:=s.lt hv)]; exact c,o1⟩
 split at hv
 ·rename_i hb; exact .inr (by omega)
 exact .inl ⟨v,hv⟩
theorem zw5 {H:PH} {z:Nat}:∀ {rows:List (List PV)} {vals:List Value},rows.length=vals.length->(∀ r∈rows,r.length=z) ->
  (∀ (i:Nat) (r:List PV) (v:Value),rows[i]? =some r->vals[i]? =some v->qdi H r v.cells.toList)->∀ {b o:Nat} {H':PH},PH.le H H' ->
  (∀ (j:Nat) (u:Value),(vals.flatMap (·.cells.toList))[j]? =some u->H' b (o+j)=some u)->qs3 H' b z o rows
 | [],_,_,_,_,_,_,_,_,_=>by simp[qs3]
 | r::rs,[],hl,_,_,_,_,_,_,_=>by simp at hl
 | r::rs,v::vals,hl,hz,hr,b,o,H',hle,hc=>by
  have h0:=hr 0 r v rfl rfl;have hlen:=h0.length;have hrz:=hz r (by simp);simp only[qs3];refine⟨hrz,⟨v.cells.toList,qdi.mono hle h0,fun j u hu=>hc j u ?_⟩,zw5 (by simpa using hl) (fun r hr=>hz r (by simp[hr])) (fun i r' v' h1 h2=>hr (i+1) r' v' (by simpa using h1) (by simpa using h2)) hle (fun j u hu=>?_)⟩
  ·rw[List.flatMap_cons,jC (jH.1 hu).1]; exact hu
  have:=hc (z+j) u (by rw[List.flatMap_cons,jD (by rw[hlen,hrz]; omega),hlen,hrz,Nat.add_sub_cancel_left]; exact hu)
  rwa [← Nat.add_assoc]at this
theorem q7t {E:Env} {g:G} {t:TypeId} {n:Nat} {parts:List (Nat×Operand)} {R:FV->Prop} (h:qp0 P E g t n parts R) :
  ∃ fv,R fv/\(gOn g->∀ (ρ:List Value) (H:PH) (w:World) (eval:Operand->Value),SatH H w->(∀ x∈parts.map (·.2),qch ρ H (evF (qcc E) x) (eval x)) ->
   ∃ v w' H',(Instr.buildSlice t n (parts.map fun(i,x)=>(i,eval x)).toArray).run P w=.ok v w'/\Calm H w H' w'/\qch ρ H' fv v):=by
 unfold qp0 at h;obtain⟨e,i,hu,hi,h⟩:=qme h;split at h
 ·rename_i hn
  have hn:parts.length=n:=jn hn;split at h
  ·rename_i h1n
   split at h
   ·rename_i h1z
    split at h
    case h_2=>exact h.elim
    rename_i hbig;split at h
    case h_2=>exact h.elim
    rename_i i' hi';have:i'=i:=Option.some.inj (hi'.symm.trans hi);subst this;split at h
    case h_2=>exact h.elim
    rename_i zv hzv;obtain⟨ps,h,hpl,hps⟩:=qx4 h;obtain⟨rows,h,hrl,hrows⟩:=q53 h;obtain⟨hok,rows',hle,h⟩:=h;refine⟨_,h,fun hg ρ H w eval s hx=>?_⟩;obtain⟨vals,ev,rv⟩:=hps hg ρ H eval hx;have hcells:=hrows H vals rv;have hvl:vals.length=n:=by rw[rv.length,hpl,hn]
    have hsz:∀ v∈vals,v.cells.size=i'.size:=by
     intro v hv;obtain⟨j,hj⟩:=List.getElem?_of_mem hv;have hjl:=(jH.1 hj).1;have hrj:j<rows.length:=by rw[hrl,hpl,hn,← hvl]; exact hjl
     have:=(hcells j _ v (jf hrj) hj).length;rw[(hok _ (List.getElem_mem hrj)).1]at this;simpa using this
    obtain⟨cells',ef,hc'⟩:=q32 i'.size n (fun i_1=>some (i_1 * i'.size,i'.size)) (fun j _=>rfl) vals 0 ((Array.range (n * i'.size)).map (zv.cells[· % zv.cells.size]!)) hsz (by omega) (by simp)
    simp only[Nat.zero_mul,List.take_zero,jv]at hc';have hone:∀ u∈cells'.toList,u.oneCell'=true:=by
     rw[hc'];intro u hu';obtain⟨v,hv,huv⟩:=List.mem_flatMap.1 hu';obtain⟨j,hj⟩:=List.getElem?_of_mem hv;have hjl:=(jH.1 hj).1;have hrj:j<rows.length:=by rw[hrl,hpl,hn,← hvl]; exact hjl
     have h1:=hcells j _ v (jf hrj) hj;have h2:=(hok _ (List.getElem_mem hrj)).2;exact qdi.one (fun c hc=>(List.all_eq_true.1 h2) c hc) h1 u huv
    have hcalm:=zr2 s e cells'.toList hone;refine⟨.slice (some ⟨w.heap.size,0,none⟩) n n,_,_,?_,hcalm,?_⟩
    ·have h0:n * i'.size≠0:=by
      have a1:1<=n:=jh h1n;have a2:1<=i'.size:=jh h1z;exact Nat.mul_ne_zero (by omega) (by omega)
     have hb:¬ 16777216<n * i'.size:=by
      have:=jh hbig;omega
     simp only[Instr.buildSlice,kh,kru hu,kg,Go.sizeOf,typeInfo,run_program,hi,ki];rw[show(2:Nat) ^ 24=16777216 from rfl];simp only[hb,if_false,gt_iff_lt,h0,kh,zeroValue,typeInfo,run_program,hi,hzv,kg,ki];rw[ev,ef];simp[newRow]
    simp only[qch];refine zx3 hle ?_;simp only[qco];refine .inr ⟨w.heap.size,0,i'.size,n,by rw[hrl,hpl,hn],by rw[hrl,hpl,hn]; exact jx _,?_⟩;refine zw5 (by rw[hrl,hpl,hn,hvl]) (fun r hr=>(hok r hr).1) hcells hcalm.le (fun j u hu'=>?_);rw[jy,if_pos rfl,hc'];exact hu'
   exact h.elim
  exact h.elim
 exact h.elim
theorem q55 {w:World}:∀ {fs:List Field},zhg P fs=true ->
  (fs.mapM (m:=Sem) fun f=>do pure (f.offset,← Go.sizeOf f.type)).run P w=.ok (fs.map fun f=>(f.offset,zm0 P f.type)) w
 | [],_=>by simp
 | f::fs,h=>by
  simp only[zhg]at h;split at h
  ·rename_i i hi
   have:=q55 (w:=w) h;have hsz:(Go.sizeOf f.type).run P w=.ok i.size w:=by simp[Go.sizeOf,typeInfo,hi]
   simp only[List.mapM_cons,kh,hsz,kg,ki,jl,zm0,hi];rw[this];rfl
  cases h
theorem zjr {E:Env} {g:G} {t:TypeId} {parts:List (Nat×Operand)} {R:FV->Prop} (h:zo7 P E g t parts R) :
  ∃ fv,R fv/\(gOn g->∀ (ρ:List Value) (H:PH) (w:World) (eval:Operand->Value),(∀ x∈parts.map (·.2),qch ρ H (evF (qcc E) x) (eval x)) ->
   ∃ v,(Instr.build t (parts.map fun(i,x)=>(i,eval x)).toArray).run P w=.ok v w/\qch ρ H fv v):=by
 unfold zo7 at h;split at h
 ·rename_i i hi
  split at h
  ·rename_i vs hz
   obtain⟨zs,h,hzs⟩:=qwy h;split at h
   ·rename_i fs hu
    split at h
    case h_2=>exact h.elim
    rename_i hinf;obtain⟨cs,h,hs⟩:=zcy h;refine⟨_,h,fun hg ρ H w eval hx=>?_⟩;obtain⟨cells',ef,rc⟩:=hs hg ρ H w eval (fs.map fun f=>(f.offset,zm0 P f.type)).toArray vs.toArray hx (fun i f hf ti hti=>by simp[hf,zm0,hti]) (by simpa[Value.cells]using hzs H)
    refine⟨.agg cells',?_,by simp only[qch,qco]; exact⟨cells'.toList,by simp,rc⟩⟩;simp only[Instr.build,kh,zeroValue,typeInfo,run_program,hi,hz,kg,ki,kru hu,Value.cells];rw[Array.mapM_eq_mapM_toList];simp only[Sem.run_map];rw[q55 hinf];simp only[kg];rw[ef];rfl
   ·rename_i n e hu
    split at h
    ·rename_i ei hei
     split at h
     ·rename_i hsz
      have hsz:ei.size=1:=jn hsz;obtain⟨ps,h,hpl,hps⟩:=qx4 h;obtain⟨hlen,hone,h⟩:=h;refine⟨_,h,fun hg ρ H w eval hx=>?_⟩;obtain⟨vals,ev,rv⟩:=hps hg ρ H eval hx;have hsz':∀ v∈vals,v.cells.size=1:=by
       intro v hv;obtain⟨j,hj⟩:=List.getElem?_of_mem hv;have hjl:=(jH.1 hj).1;have hpj:j<ps.length:=by rw[← rv.length]; exact hjl
       obtain⟨v',hv',r'⟩:=rv.get (jf hpj);rw[hj]at hv';cases hv';rw[(zao (hone _ (List.getElem_mem hpj)) r').2];rfl
      have hvl:=rv.length;obtain⟨cells',ef,hc'⟩:=q32 1 vals.length (fun i_1=>some (i_1 * 1,1)) (fun j _=>rfl) vals 0 ⟨vs⟩ hsz' (by omega) (by simp; omega)
      refine⟨.agg cells',?_,?_⟩
      ·simp only[Instr.build,kh,zeroValue,typeInfo,run_program,hi,hz,kg,ki,kru hu,Go.sizeOf,hei,hsz,ev,Value.cells]
       simp only[Nat.mul_one]at ef ⊢;rw[ef];rfl
      simp only[qch,qco];refine⟨cells'.toList,by simp,?_⟩;have e1:cells'.toList=vals:=by
       rw[hc'];simp only[Nat.zero_mul,List.take_zero,jv];have:∀ (l:List Value),(∀ v∈l,v∈vals)->l.flatMap (·.cells.toList)=l:=by
        intro l
        induction l with
        | nil=>intro _; rfl
        | cons a l ih=>
         intro hl;rw[List.flatMap_cons,ih (fun v hv=>hl v (by simp[hv]))]
         obtain⟨j,hj⟩:=List.getElem?_of_mem (hl a (by simp));have hjl:=(jH.1 hj).1;have hpj:j<ps.length:=by rw[← rv.length]; exact hjl
         obtain⟨v',hv',r'⟩:=rv.get (jf hpj);rw[hj]at hv';cases hv';rw[(zao (hone _ (List.getElem_mem hpj)) r').2];rfl
       exact this vals (fun v hv=>hv)
      rw[e1];exact rv
     exact h.elim
    exact h.elim
   exact h.elim
  exact h.elim
 exact h.elim
theorem q6e {E:Env} {yes no:Prop}:∀ {parts:List (Nat×Operand)},ze9 E parts yes no->yes\/no
 | [],h=>.inr h
 | (_,x)::l,h=>by
  simp only[ze9,zci]at h;split at h
  ·exact .inl h
  ·exact .inl h
  ·exact .inl h
  exact q6e h
theorem zl5 {v:FV} {R:List FV->Prop} (h:zuo v R):∃ c,R c/\∀ (ρ:List Value) (H:PH) (x:Value),qch ρ H v x->qd7 ρ H c x.cells.toList:=by
 unfold zuo at h;split at h
 ·obtain⟨c,h,hc⟩:=q2w h
  have h:=qz2 h;exact⟨_,h,fun ρ H x r=>qd7.of_RepL (hc H x r)⟩
 ·rename_i k rows
  refine⟨_,h,fun ρ H x r=>?_⟩;have e:=(qrw (f:=.tsl k rows) rfl r).1;rw[e];exact⟨x,[],rfl,r,rfl⟩
 ·rename_i k
  refine⟨_,h,fun ρ H x r=>?_⟩;have e:=(qrw (f:=.mref k) rfl r).1;rw[e];exact⟨x,[],rfl,r,rfl⟩
 ·rename_i k o
  refine⟨_,h,fun ρ H x r=>?_⟩;have e:=(qrw (f:=.ptr k o) rfl r).1;rw[e];exact⟨x,[],rfl,r,rfl⟩
 ·rename_i f c
  refine⟨_,h,fun ρ H x r=>?_⟩;have e:=(qrw (f:=.clo f c) rfl r).1;rw[e];exact⟨x,[],rfl,r,rfl⟩
 exact h.elim
theorem zcx {E:Env} {g:G} {fs:List Field}:∀ {parts:List (Nat×Operand)} {cs:List FV} {R:List FV->Prop},zr8 P E g fs parts cs R ->
  ∃ cs',R cs'/\(gOn g->∀ (ρ:List Value) (H:PH) (w:World) (eval:Operand->Value) (places:Array (Nat×Nat)) (cells:Array Value),(∀ x∈parts.map (·.2),qch ρ H (evF (qcc E) x) (eval x)) ->
   (∀ (i:Nat) (f:Field),fs[i]? =some f->∀ ti,P.info? f.type=some ti->places[i]? =some (f.offset,ti.size))->qd7 ρ H cs cells.toList ->
   ∃ cells',Instr.fill (places[·]?) cells (parts.map fun(i,x)=>(i,eval x))=some cells'/\qd7 ρ H cs' cells'.toList)
 | [],cs,R,h=>⟨cs,h,fun _ ρ H w eval places cells _ _ r=>⟨cells,rfl,r⟩⟩
 | (i,x)::l,cs,R,h=>by
  simp only[zr8]at h;obtain⟨f,hf,h⟩:=qdk h;split at h
  ·rename_i ti hti
   obtain⟨v,h,hv⟩:=qbr h;obtain⟨c,h,hc⟩:=zl5 h;split at h
   ·rename_i hsz
    have hsz:c.length=ti.size:=jn hsz;obtain⟨h,hlen⟩:=qty h;obtain⟨cs',h,hs⟩:=zcx h;refine⟨cs',h,fun hg ρ H w eval places cells hx hpl r=>?_⟩;have rc:=hc ρ H _ (hv ρ H _ hg (hx x (by simp)));have hvs:(eval x).cells.size=ti.size:=by have:=rc.length; simp at this; omega
    have hcl:=r.length;simp at hcl;have hle:f.offset+(eval x).cells.size<=cells.size:=by omega
    have h1:=zfe f.offset (eval x) cells hle;obtain⟨cells',e',r'⟩:=hs hg ρ H w eval places ((eval x).cells.zipIdx.foldl (fun(cs:Array Value) (x:Value×Nat)=>cs.setIfInBounds (f.offset+x.2) x.1) cells) (fun y hy=>hx y (by simp at hy ⊢; exact .inr hy)) hpl (by
     rw[h1,hvs,← hsz];exact((r.take _).append rc).append (r.drop _))
    refine⟨cells',?_,r'⟩;simp only[jl,Instr.fill,hpl i f hf ti hti];rw[if_neg (by simp[hvs]; omega)];exact e'
   exact h.elim
  exact h.elim
theorem zf2 {ρ:List Value} {H:PH}:∀ {cs:List FV} {vs:List Value},qd7 ρ H cs vs->qch ρ H (zw8 cs) (.tuple vs.toArray)
 | [],vs,r=>by
  simp only[qd7]at r;subst r;simp[zw8,qch]
 | c::cs,vs,r=>by
  obtain⟨u,us,rfl,r1,rs⟩:=r;exact⟨u,us,rfl,r1,zf2 rs⟩
theorem q6i {E:Env} {g:G} {t:TypeId} {parts:List (Nat×Operand)} {R:FV->Prop} (h:zfi P E g t parts R) :
  ∃ fv,R fv/\(gOn g->∀ (ρ:List Value) (H:PH) (w:World) (eval:Operand->Value),(∀ x∈parts.map (·.2),qch ρ H (evF (qcc E) x) (eval x)) ->
   ∃ v,(Instr.build t (parts.map fun(i,x)=>(i,eval x)).toArray).run P w=.ok v w/\qch ρ H fv v):=by
 unfold zfi at h;split at h
 ·rename_i i hi
  split at h
  ·rename_i vs hz
   obtain⟨zs,h,hzs⟩:=qwy h;have h:=qz2 h;split at h
   ·rename_i fs hu
    split at h
    case h_2=>exact h.elim
    rename_i hinf;obtain⟨cs,h,hs⟩:=zcx h;refine⟨_,h,fun hg ρ H w eval hx=>?_⟩;obtain⟨cells',ef,rc⟩:=hs hg ρ H w eval (fs.map fun f=>(f.offset,zm0 P f.type)).toArray vs.toArray hx (fun i f hf ti hti=>by simp[hf,zm0,hti]) (by simpa[Value.cells]using qd7.of_RepL (hzs H))
    refine⟨.agg cells',?_,⟨cells'.toList,by simp,zf2 rc⟩⟩;simp only[Instr.build,kh,zeroValue,typeInfo,run_program,hi,hz,kg,ki,kru hu,Value.cells];rw[Array.mapM_eq_mapM_toList];simp only[Sem.run_map];rw[q55 hinf];simp only[kg];rw[ef];rfl
   exact h.elim
  exact h.elim
 exact h.elim
theorem zaa {op:BinOp} {t:TypeId} {x y:FV} {R:FV->Prop} (h:zwq P op t x y R) :
  ∃ fv,R fv/\∀ (ρ:List Value) (H:PH) (w:World) (xo yo:Operand) (a b:Value),qch ρ H x a->qch ρ H y b ->
   ∃ v,(do eqGuard op t xo yo a b; binOp op t a b:Sem Value).run P w=.ok v w/\qch ρ H fv v:=by
 unfold zwq at h;split at h
 ·rename_i e hu
  split at h
  ·rename_i i hi
   have eqN:∀ (w:World) (p:Option Addr),(Op.equal t (.pointer p) (.pointer none)).run P w=.ok p.isNone w:=by
    intro w p;have:∀ n,(Op.equalIn (n+1) t (.pointer p) (.pointer none)).run P w=.ok p.isNone w:=by
     intro n;cases p<;>simp[Op.equalIn,kru hu]
    exact this 9999
   have fin:∀ (b:Bool) (w:World) (xo yo:Operand) (p:Option Addr),(do eqGuard .eql t xo yo (.pointer p) (.pointer none); binOp .eql t (.pointer p) (.pointer none):Sem Value).run P w=.ok (.bool p.isNone) w /\
     (do eqGuard .neq t xo yo (.pointer p) (.pointer none); binOp .neq t (.pointer p) (.pointer none):Sem Value).run P w=.ok (.bool (!p.isNone)) w:=by
    intro b w xo yo p
    constructor
    ·simp only[eqGuard,binOp,kh,eqN]; rfl
    simp only[eqGuard,binOp,kh,eqN]; rfl
   split at h
   ·split at h
    ·refine⟨_,h,fun ρ H w xo yo a b ra rb=>?_⟩
     simp only[qch,qco]at ra rb;subst ra; subst rb;exact⟨_,(fin true w xo yo none).1,qr7⟩
    ·refine⟨_,h,fun ρ H w xo yo a b ra rb=>?_⟩
     obtain⟨bl,_,rfl⟩:=ra;simp only[qch,qco]at rb;subst rb;exact⟨_,(fin true w xo yo _).1,qr7⟩
    ·refine⟨_,h,fun ρ H w xo yo a b ra rb=>?_⟩
     obtain⟨bl,o,vs,rfl,_⟩:=ra;simp only[qch,qco]at rb;subst rb;exact⟨_,(fin true w xo yo _).1,qr7⟩
    exact h.elim
   ·split at h
    ·refine⟨_,h,fun ρ H w xo yo a b ra rb=>?_⟩
     simp only[qch,qco]at ra rb;subst ra; subst rb;exact⟨_,(fin true w xo yo none).2,qr7⟩
    ·refine⟨_,h,fun ρ H w xo yo a b ra rb=>?_⟩
     obtain⟨bl,_,rfl⟩:=ra;simp only[qch,qco]at rb;subst rb;exact⟨_,(fin true w xo yo _).2,qr7⟩
    ·refine⟨_,h,fun ρ H w xo yo a b ra rb=>?_⟩
     obtain⟨bl,o,vs,rfl,_⟩:=ra;simp only[qch,qco]at rb;subst rb;exact⟨_,(fin true w xo yo _).2,qr7⟩
    ·rename_i k off k' off'
     split at h
     ·rename_i hk
      have hk:=jn hk;split at h
      ·rename_i ho
       have ho:=jn ho;subst hk; subst ho;refine⟨_,h,fun ρ H w xo yo a b ra rb=>?_⟩;obtain⟨b1,e1,rfl⟩:=ra;obtain⟨b2,e2,rfl⟩:=rb;rw[e1]at e2;cases e2;refine⟨.bool false,?_,qr7⟩;simp only[eqGuard,kh];exact Lib.run_neq_ptr_same w _ hu hi
      exact h.elim
     exact h.elim
    exact h.elim
   exact h.elim
  exact h.elim
 exact h.elim
theorem q0r {src dst:TypeId} {R:Prop} (h:u8T P src dst R):∃ e,P.underlying src=some (.slice e)/\P.underlying e=some (.int .u8)/\P.underlying dst=some .string/\R:=by
 unfold u8T at h;split at h
 ·rename_i e he
  split at h
  ·rename_i h8
   split at h
   ·rename_i hs; exact⟨e,he,h8,hs,h⟩
   exact h.elim
  exact h.elim
 exact h.elim
theorem znw {l:List UInt8} {j:Nat} {x:UInt8} (h:l[j]? =some x):(qau l)[j]? =some [.int .u8 x.toNat]:=by simp[qau,h]
theorem zdh {H:PH} {w:World} (s:SatH H w) {b z o:Nat} {l:List UInt8} (r:qs3 H b z o (qau l)):∀ j (hj:j<l.length),w.cell? ((⟨b,o,none⟩:Addr).add j)=some (.int .u8 (l[j].toNat:Int)):=by
 intro j hj;obtain⟨hz,vs,q,c⟩:=r.get (znw (jf hj));simp at hz;subst hz;simp only[qdi,qco]at q;obtain⟨v,_,rfl,rfl,rfl⟩:=q;have:=c 0 _ rfl;rw[Addr.add_lit];simpa using(s _ _ _ this).1
theorem zrj {src dst:TypeId} {n:Nat} {t:TypeId} {R:Prop} (h:zx4 P src dst n t R) :
  R/\∀ (w:World) (b:Nat),w.shape? b=some (t,n)->(convert src dst (.pointer (some ⟨b,0,none⟩))).run P w=.ok (.pointer (some ⟨b,0,none⟩)) w:=by
 unfold zx4 at h;split at h
 ·rename_i u hsrc
  split at h
  ·rename_i hdst
   split at h
   ·rename_i i hi
    exact⟨h.2,fun w b hsh=>Lib.run_to_unsafe w ⟨b,0,none⟩ hsrc hdst hi h.1.1 hsh h.1.2⟩
   exact h.elim
  exact h.elim
 ·rename_i hsrc
  split at h
  ·rename_i u hdst
   split at h
   ·rename_i i hi
    exact⟨h.2,fun w b hsh=>Lib.run_from_unsafe w ⟨b,0,none⟩ hsrc hdst hi hsh h.1⟩
   exact h.elim
  exact h.elim
 exact h.elim
theorem q20 {g:G} {src dst:TypeId} {lo:List AObj} {x:FV} {R:FV->Prop} (h:q97 P g src dst lo x R) :
  ∃ fv,R fv/\(gOn g->∀ (bs:Base) (ρ:List Value) (H:PH) (w:World) (v:Value),SatW bs ρ H lo w->qch ρ H x v->∃ u,(convert src dst v).run P w=.ok u w/\qch ρ H fv u):=by
 have rowsCase:∀ (e:TypeId) (l:List UInt8),P.underlying src=some (.slice e)->P.underlying e=some (.int .u8)->P.underlying dst=some .string->∀ (H:PH) (w:World) (v:Value),SatH H w->qco H (.sl (qau l)) v ->
   (convert src dst v).run P w=.ok (.string ⟨l.toArray⟩) w:=by
  intro e l hs he hd H w v s rv;simp only[qco]at rv;rcases rv with ⟨h0,rfl|⟨a',cap',rfl⟩⟩|⟨b,o,z,cap,rfl,hc,rr⟩
  ·have:l=[]:=by simpa[qau]using h0
   subst this;exact run_convert_bytes_nil w src e hs he 0 0 dst hd
  ·have:l=[]:=by simpa[qau]using h0
   subst this;exact run_convert_bytes_back (P:=P) w src dst e a' cap' [] hs he hd (fun j hj=>absurd hj (Nat.not_lt_zero _))
  have:=run_convert_bytes_back (P:=P) w src dst e ⟨b,o,none⟩ cap l hs he hd (zdh s rr);simpa[qau]using this
 unfold q97 at h;split at h
 ·rename_i rows
  obtain⟨e,hs,he,hd,l,hl,h⟩:=q0r h;refine⟨_,h,fun hg bs ρ H w v s rv=>⟨_,rowsCase e l hs he hd H w v s.sath ?_,qya⟩⟩;rw[← qo5 hl hg]; exact rv
 ·rename_i k rows
  obtain⟨e,hs,he,hd,l,hl,h⟩:=q0r h;refine⟨_,h,fun hg bs ρ H w v s rv=>⟨_,rowsCase e l hs he hd H w v s.sath ?_,qya⟩⟩;rw[← qo5 hl hg]; exact rv.2
 ·obtain⟨e,hs,he,hd,h⟩:=q0r h
  refine⟨_,h,fun hg bs ρ H w v s rv=>⟨_,rowsCase e [] hs he hd H w v s.sath ?_,qya⟩⟩;simp only[qch,qco]at rv;simp only[qco];exact .inl ⟨rfl,.inl rv⟩
 ·rename_i k off n cap
  obtain⟨e,hs,he,hd,h⟩:=q0r h;obtain⟨ob,hob,h⟩:=qdk h;split at h
  ·rename_i bt cells
   obtain⟨h,hoff⟩:=qkz h;obtain⟨h,hn⟩:=qol h;obtain⟨ps,h,hps⟩:=quu h;obtain⟨l,hl,h⟩:=h;refine⟨_,h,fun hg bs ρ H w v s rv=>?_⟩;obtain⟨b,hb,rfl⟩:=rv;obtain⟨b',vs,e',hg',hcs,_⟩:=s.objs k _ _ hob hb;cases e';have hl:=qo5 hl hg;have rl:=hps _ _ _ ((hcs.drop off).take n);rw[hl]at rl;have hlen:=rl.length;have hvl:=hcs.length;simp at hlen hn;have hnl:n=l.length:=by omega
   subst hnl;refine⟨_,run_convert_bytes_back (P:=P) w src dst e ⟨b,off,none⟩ cap l hs he hd (fun j hj=>?_),qya⟩;obtain⟨u,hu,ru⟩:=rl.get (i:=j) (c:=.int .u8 (l[j].toNat:Int)) (by simp[hj]);simp only[qco]at ru;subst ru;rw[Addr.add_lit];rw[jF,if_pos hj]at hu;exact qzy hg' off j _ hu
  exact h.elim
 ·rename_i k off
  split at h
  ·rename_i h0
   have h0:=jn h0;subst h0;obtain⟨ob,hob,h⟩:=qdk h;split at h
   ·rename_i bt cells
    obtain⟨h,hs⟩:=zrj h;refine⟨_,h,fun hg bs ρ H w v s rv=>?_⟩;obtain⟨b,hb,rfl⟩:=rv;obtain⟨b',vs,e',hg',hcs,_⟩:=s.objs k _ _ hob hb;cases e';have hvl:=hcs.length;have hsh:w.shape? b=some (bt,cells.length):=by simp[World.shape?,hg',hvl]
    exact⟨_,hs w b hsh,b,hb,rfl⟩
   exact h.elim
  exact h.elim
 ·rename_i k n
  obtain⟨e,hs,he,hd,h⟩:=q0r h;obtain⟨ob,hob,h⟩:=qdk h;split at h
  ·rename_i l
   refine⟨_,h.2,fun hg bs ρ H w v s rv=>?_⟩;have hn:=qo5 h.1 hg;obtain⟨b,cs,e',cap,lo',hi,rfl,hg',_,h2,_⟩:=s.objs k _ _ hob rv.1;refine⟨_,run_convert_bytes_back (P:=P) w src dst e ⟨b,0,none⟩ cap l hs he hd (fun j hj=>?_),qya⟩;rw[Addr.add_lit];simp only[World.cell?,hg',jy];exact h2 j _ (jf hj)
  exact h.elim
 ·rename_i k off n
  obtain⟨e,hs,he,hd,h⟩:=q0r h;obtain⟨ob,hob,h⟩:=qdk h;split at h
  ·rename_i l
   refine⟨_,h.2,fun hg bs ρ H w v s rv=>?_⟩;have hn:=qo5 h.1 hg;obtain⟨b0,n',cap',c,hr,rfl⟩:=rv;obtain⟨b,cs,e',cap,lo',hi,e1,hg',_,h2,_⟩:=s.objs k _ _ hob hr;obtain rfl:b0=b:=by simpa[qcj]using congrArg qcj e1
   have hl:n=((l.drop off).take n).length:=by simp; omega
   have hrun:=run_convert_bytes_back (P:=P) w src dst e ⟨b0,off,none⟩ c ((l.drop off).take n) hs he hd (fun j hj=>by
    rw[Addr.add_lit];simp only[World.cell?,hg'];have hjn:j<n:=by omega
    have:l[off+j]? =some ((l.drop off).take n)[j]:=by
     have h3:=jf hj;rw[← h3,jF,if_pos hjn,jE]
    exact h2 _ _ this)
   rw[← hl]at hrun;exact⟨_,hrun,qya⟩
  exact h.elim
 obtain⟨fv,h,hs⟩:=zfl h;exact⟨fv,h,fun hg bs ρ H w v s rv=>hs ρ H w v rv⟩
end
end Ax
end
section
namespace Ax
open Go
section
variable {P:Program}
theorem q5i {bs:Base} {ρ:List Value} {H H':PH} {fv:FV} {lo:List AObj} {v:Value} {w w':World} (s:SatW bs ρ H lo w) (c:Calm H w H' w') (r:qch ρ H' fv v) :
  qu1 bs ρ H fv lo v w':=⟨ρ,H',jr _,c.le,s.calm c,r⟩
theorem qc1 {bs:Base} {ρ:List Value} {H:PH} {fv:FV} {lo:List AObj} {v:Value} {w:World} {x:Sem Value} (s:SatW bs ρ H lo w) (hr:x.run P w=.ok v w) (r:qch ρ H fv v) :
  zjc P bs ρ H fv lo ((do pure (.value (← x)):Sem Next).run P w):=by
 simp only[kh,hr,kg,ki];exact qh9 s r
theorem q0s {bs:Base} {ρ:List Value} {H:PH} {lo:List AObj} {r:PV} {w:World} {x:Result Next} (s:SatW bs ρ H lo w) (h:q3a P H w r x):zjc P bs ρ H (.p r) lo x:=by
 unfold q3a at h;split at h
 ·obtain⟨H',c,rv⟩:=h
  exact q5i s c rv
 ·obtain⟨rfl,hcall⟩:=h
  exact hcall.mono fun en w'' ⟨v,H',e,c,rv⟩=>⟨v,e,q5i s c rv⟩
 exact h.elim
theorem zcu:∀ {c:FV} {R:List PV->Prop},zn3 c R->∃ ps,R ps/\∀ (ρ:List Value) (H:PH) (vs:List Value),qch ρ H c (.tuple vs.toArray)->qdi H ps vs
 | .cap0,R,h=>⟨[],h,fun ρ H vs r=>by
   simp only[qch,Value.tuple.injEq]at r;simpa[qdi]using r⟩
 | .cap a b,R,h=>by
  simp only[zn3]at h;obtain⟨p,h,hp⟩:=qss h;obtain⟨ps,h,hps⟩:=zcu h;refine⟨_,h,fun ρ H vs r=>?_⟩;obtain⟨u,us,e,ra,rb⟩:=r;have e:vs=u::us:=by simpa using e
  subst e;simp only[qdi];exact⟨u,us,rfl,hp _ _ _ ra,hps _ _ _ rb⟩
 | .top,_,h|.p _,_,h|.opt _ _,_,h|.tsl _ _,_,h|.ptr _ _,_,h|.hptr _,_,h|.bself _,_,h|.bsl _ _ _ _,_,h|.vsl _ _,_,h|.eptr _ _ _ _,_,h|.mref _,_,h|.pair _ _,_,h|.stmp _,_,h|.clo _ _,_,h|.fagg _,_,h|.nxt _ _ _,_,h=>by
  simp[zn3]at h
theorem zhm {dst:Option Tmp} {op:Op} {ty:TypeId} {pos:String} {after:Array Edge} {guard:Option (Nat×Bool)} {E:Env} {g:G} {R:FV->Prop} (h:zpe P op E g R):∃ fv,R fv/\∀ lo,qlf P ⟨dst,op,ty,pos,after,guard⟩ (qcc E) lo g fv lo:=by
 unfold zpe at h;split at h
 ·rename_i f xs
  split at h
  ·refine⟨_,h,fun lo hg bs ρ H w eval s hx=>?_⟩
   exact qc1 s (v:=.func (.func f) #[] #[]) (by simp[Instr.makeFunc]) (by simp[qch,qco])
  rename_i x xs;have h0:=qtm h; clear h; obtain⟨vs,h,hvs⟩:=h0;refine⟨_,h,fun lo hg bs ρ H w eval s hx=>?_⟩;have rl:=hvs ρ H eval hg (fun y hy=>hx y (by simpa[kj]using hy))
  exact qc1 s (v:=.func (.func f) #[] ((x::xs).map eval).toArray) (by simp[Instr.makeFunc]) ⟨_,rfl,zf2 rl⟩
 ·rename_i t xs ts
  have h0:=qbr h; clear h; obtain⟨fv,h,hfv⟩:=h0;have h0:=qtm h; clear h; obtain⟨vs,h,hvs⟩:=h0;have h0:=quu h; clear h; obtain⟨ps,h,hps⟩:=h0;split at h
  ·rename_i f
   obtain⟨r,hc,h⟩:=h;refine⟨_,h,fun lo hg bs ρ H w eval s hx=>?_⟩;have hc:=qo5 hc hg;have rl:=hps ρ H _ (hvs ρ H eval hg (fun y hy=>hx y (by simp[kj,kl,hy])))
   have:=hc H w _ s.sath rl;have hf:(eval (.tmp t))=.func (.func f) #[] #[]:=by
    have:=hfv ρ H _ hg (hx (.tmp t) (by simp[kj,kl]));simpa[qch,qco]using this
   simp only[execOp,resolve,Deferred.ofValue,invoke,hf,kh,ki,kg,kf,Array.empty_append,Array.append_empty];exact q0s s this
  ·rename_i f c
   have h0:=zcu h; clear h; obtain⟨cs,h,hcs⟩:=h0;obtain⟨r,hc,h⟩:=h;refine⟨_,h,fun lo hg bs ρ H w eval s hx=>?_⟩;have hc:=qo5 hc hg;have rl:=hps ρ H _ (hvs ρ H eval hg (fun y hy=>hx y (by simp[kj,kl,hy])))
   obtain⟨us,hf,rc⟩:=hfv ρ H _ hg (hx (.tmp t) (by simp[kj,kl]));have:=hc H w _ s.sath (rl.append (hcs _ _ _ rc));simp only[execOp,resolve,Deferred.ofValue,invoke,hf,kh,ki,kg,kf,List.append_toArray];exact q0s s this
  exact h.elim
 ·rename_i rv m xs ts
  have h0:=qbr h; clear h; obtain⟨fv,h,hfv⟩:=h0;have h0:=qtm h; clear h; obtain⟨vs,h,hvs⟩:=h0;have h0:=quu h; clear h; obtain⟨ps,h,hps⟩:=h0;split at h
  ·rename_i t v
   obtain⟨f,r,hc,h⟩:=h;refine⟨_,h,fun lo hg bs ρ H w eval s hx=>?_⟩;obtain⟨hmt,hc⟩:=qo5 hc hg;have rl:=hps ρ H _ (hvs ρ H eval hg (fun y hy=>hx y (by simp[kj,kl,hy])))
   have rr:=hfv ρ H _ hg (hx rv (by simp[kj,kl]));simp only[qch,qco]at rr;obtain⟨u,hu,ru⟩:=rr;have:=hc H w (u::xs.map eval) s.sath (by simp only[qdi]; exact⟨u,_,rfl,ru,rl⟩);have hme:=hmt u w;simp only[execOp,resolve,invoke,hu,kh,ki,kg,kf,callMethod];have e:List.take xs.length (xs.map eval)=xs.map eval:=List.take_of_length_le (by simp);simp[hme,e];exact q0s s this
  exact h.elim
 exact h.elim
theorem zab {o:Oper} {E:Env} {g:G} {R:FV->Prop} (h:zsd P o.op E g R):∃ fv,R fv/\∀ lo,qlf P o (qcc E) lo g fv lo:=by
 obtain⟨dst,op,ty,pos,after,guard⟩:=o;simp only at h;unfold zsd at h;split at h
 ·
  rename_i x;cases g with
  | none=>
   simp only[zci]at h;exact⟨_,h,fun lo hg bs ρ H w eval s hx=>qh9 s (hx x (by simp[kj]))⟩
  | some g=>
   obtain⟨x',h,hx'⟩:=qbr h;exact⟨_,h,fun lo hg bs ρ H w eval s hx=>qh9 s (hx' ρ H _ hg (hx x (by simp[kj])))⟩
 ·rename_i x
  cases g with
  | none=>
   simp only[zci]at h;exact⟨_,h,fun lo hg bs ρ H w eval s hx=>qh9 s (hx x (by simp[kj]))⟩
  | some g=>
   obtain⟨x',h,hx'⟩:=qbr h;exact⟨_,h,fun lo hg bs ρ H w eval s hx=>qh9 s (hx' ρ H _ hg (hx x (by simp[kj])))⟩
 ·
  rename_i c a b;obtain⟨c',h,hc⟩:=qbr h;split at h
  ·rename_i cb
   have key:∃ fv,R fv/\(gOn g->∀ (ρ:List Value) (H:PH) (va vb:Value),qch ρ H (evF (qcc E) a) va->qch ρ H (evF (qcc E) b) vb->qch ρ H fv (if cb then va else vb)):=by
    have fin:∀ (ga gb:Bool) (a' b':FV),Str (some ga) (evF (qcc E) a) a'->Str (some gb) (evF (qcc E) b) b'->(gOn g->cb=true->ga=true)->(gOn g->cb=false->gb=true) ->
      (match a',b' with
       | .p (.bool a),.p (.bool b)=>R (.p (.bool (bif cb then a else b)))
       | _,_=>False)->∃ fv,R fv/\(gOn g->∀ (ρ:List Value) (H:PH) (va vb:Value),qch ρ H (evF (qcc E) a) va->qch ρ H (evF (qcc E) b) vb->qch ρ H fv (if cb then va else vb)):=by
     intro ga gb a' b' ha hb h1 h2 h;split at h
     ·rename_i ab bb
      refine⟨_,h,fun hg ρ H va vb ra rb=>?_⟩;cases cb with
      | true=>
       have:=qtr (ha ρ H _ (h1 hg rfl) ra);simp[this,qch,qco]
      | false=>
       have:=qtr (hb ρ H _ (h2 hg rfl) rb);simp[this,qch,qco]
     exact h.elim
    split at h
    ·obtain⟨a',h,ha⟩:=qbr h
     obtain⟨b',h,hb⟩:=qbr h;exact fin _ _ a' b' ha hb (fun _ h=>h) (fun _ h=>by simp[h]) h
    obtain⟨a',h,ha⟩:=qbr h;obtain⟨b',h,hb⟩:=qbr h;exact fin _ _ a' b' ha hb (fun hg h=>by simp only[gOn]at hg; simp[hg,h]) (fun hg h=>by simp only[gOn]at hg; simp[hg,h]) h
   obtain⟨fv,h,hs⟩:=key;refine⟨_,h,fun lo hg bs ρ H w eval s hx=>?_⟩;have rc:=qtr (hc ρ H _ hg (hx c (by simp[kj])));simp only[execOp,rc,asBool,kh,ki,kg];exact qh9 s (hs hg ρ H _ _ (hx a (by simp[kj])) (hx b (by simp[kj])))
  exact h.elim
 ·rename_i t x f
  obtain⟨x',h,hx'⟩:=qbr h;obtain⟨fv,h,hs⟩:=zjv h;refine⟨_,h,fun lo hg bs ρ H w eval s hx=>?_⟩;obtain⟨v,hr,rv⟩:=hs ρ H w _ (hx' ρ H _ hg (hx x (by simp[kj])));exact qc1 s hr rv
 ·rename_i t x f
  obtain⟨x',h,hx'⟩:=qbr h;obtain⟨fv,h,hs⟩:=zme h;refine⟨_,h,fun lo hg bs ρ H w eval s hx=>?_⟩;obtain⟨v,hr,rv⟩:=hs ρ H w _ (hx' ρ H _ hg (hx x (by simp[kj])));exact qc1 s hr rv
 ·rename_i t x i
  obtain⟨x',h,hx'⟩:=qbr h;obtain⟨i',h,hi'⟩:=qbr h;obtain⟨fv,h,hs⟩:=q98 h;refine⟨_,h,fun lo hg bs ρ H w eval s hx=>?_⟩;obtain⟨v,hr,rv⟩:=hs hg ρ H w _ _ (hx' ρ H _ hg (hx x (by simp[kj]))) (hi' ρ H _ hg (hx i (by simp[kj])));exact qc1 s hr rv
 ·rename_i t x i
  obtain⟨x',h,hx'⟩:=qbr h;obtain⟨i',h,hi'⟩:=qbr h;obtain⟨fv,h,hs⟩:=zjw h;refine⟨_,h,fun lo hg bs ρ H w eval s hx=>?_⟩;obtain⟨v,hr,rv⟩:=hs hg ρ H w _ _ (hx' ρ H _ hg (hx x (by simp[kj]))) (hi' ρ H _ hg (hx i (by simp[kj])));exact qc1 s hr rv
 ·rename_i op t x y t'
  obtain⟨x',h,hx'⟩:=qbr h;obtain⟨y',h,hy'⟩:=qbr h;have key:∃ fv,R fv/\(gOn g->∀ (ρ:List Value) (H:PH) (w:World) (xo yo:Operand) (a b:Value),qch ρ H x' a->qch ρ H y' b ->
    ∃ v,(do eqGuard op t xo yo a b; binOp op t a b:Sem Value).run P w=.ok v w/\qch ρ H fv v):=by
   split at h
   ·obtain⟨fv,h,hs⟩:=zaa h; exact⟨fv,h,fun _=>hs⟩
   ·obtain⟨fv,h,hs⟩:=zaa h; exact⟨fv,h,fun _=>hs⟩
   ·obtain⟨fv,h,hs⟩:=zaa h; exact⟨fv,h,fun _=>hs⟩
   exact zo6 h
  obtain⟨fv,h,hs⟩:=key;refine⟨_,h,fun lo hg bs ρ H w eval s hx=>?_⟩;obtain⟨v,hr,rv⟩:=hs hg ρ H w x y _ _ (hx' ρ H _ hg (hx x (by simp[kj]))) (hy' ρ H _ hg (hx y (by simp[kj])));exact qc1 s hr rv
 ·rename_i t x
  obtain⟨x',h,hx'⟩:=qbr h;split at h
  ·rename_i b
   refine⟨_,h,fun lo hg bs ρ H w eval s hx=>?_⟩;have rx:=qtr (hx' ρ H _ hg (hx x (by simp[kj])));exact qc1 s (v:=.bool !b) (by simp[rx,Op.unary]) qr7
  exact h.elim
 ·rename_i t x
  obtain⟨x',h,hx'⟩:=qbr h;split at h
  ·rename_i k n
   refine⟨_,h,fun lo hg bs ρ H w eval s hx=>?_⟩;have rx:=qj5 (hx' ρ H _ hg (hx x (by simp[kj])));exact qc1 s (v:=.int k (k.wrap (0 - n))) (by simp[rx,Op.unary,Op.intArith]) qq8
  exact h.elim
 ·rename_i x
  obtain⟨x',h,hx'⟩:=qbr h;split at h
  ·rename_i k off
   refine⟨_,h,fun lo hg bs ρ H w eval s hx=>?_⟩;have rx:=hx' ρ H _ hg (hx x (by simp[kj]));obtain⟨b,hb,e⟩:=rx;simp only[execOp,e];exact qh9 s ⟨b,hb,rfl⟩
  ·rename_i row
   refine⟨_,h,fun lo hg bs ρ H w eval s hx=>?_⟩;have rx:=hx' ρ H _ hg (hx x (by simp[kj]));obtain⟨b,o,vs,e,q,c⟩:=rx;simp only[execOp,e];exact qh9 s ⟨b,o,vs,rfl,q,c⟩
  ·rename_i k z i off
   refine⟨_,h,fun lo hg bs ρ H w eval s hx=>?_⟩;have rx:=hx' ρ H _ hg (hx x (by simp[kj]));obtain⟨b,n,cap,hb,e⟩:=rx;simp only[execOp,e];exact qh9 s ⟨b,n,cap,hb,rfl⟩
  exact h.elim
 ·rename_i t x lo hi mx
  obtain⟨x',h,hx'⟩:=qbr h;obtain⟨fv,h,hs⟩:=zjz h;refine⟨_,h,fun lo' hg bs ρ H w eval s hx=>?_⟩;obtain⟨hmx,u,hr,ru⟩:=hs ρ H w eval _ hg (hx' ρ H _ hg (hx x (by simp[kj]))) (fun y hy=>hx y (by simp only[kj]; simp only[Array.mem_append]; exact .inl (.inl (.inr hy)))) (fun y hy=>hx y (by simp only[kj]; simp only[Array.mem_append]; exact .inl (.inr hy)))
  subst hmx;exact qc1 s hr ru
 ·rename_i t n parts
  obtain⟨fv,h,hs⟩:=q7t h;refine⟨_,h,fun lo' hg bs ρ H w eval s hx=>?_⟩;obtain⟨v,w',H',hr,c,rv⟩:=hs hg ρ H w eval s.sath (fun x hx'=>hx x (by simpa[kj]using hx'))
  simp only[execOp,kf,kh,hr,kg,ki];exact q5i s c rv
 ·rename_i t parts
  have key:∃ fv,R fv/\(gOn g->∀ (ρ:List Value) (H:PH) (w:World) (eval:Operand->Value),(∀ x∈parts.map (·.2),qch ρ H (evF (qcc E) x) (eval x)) ->
   ∃ v,(Instr.build t (parts.map fun(i,x)=>(i,eval x)).toArray).run P w=.ok v w/\qch ρ H fv v):=by
   rcases q6e h with h|h
   ·exact q6i h
   exact zjr h
  clear h;obtain⟨fv,h,hs⟩:=key;refine⟨_,h,fun lo' hg bs ρ H w eval s hx=>?_⟩;obtain⟨v,hr,rv⟩:=hs hg ρ H w eval (fun x hx'=>hx x (by simpa[kj]using hx'))
  simp only[execOp,kf];exact qc1 s hr rv
 ·rename_i x i
  obtain⟨x',h,hx'⟩:=qbr h;split at h
  ·rename_i vs
   obtain⟨c,hc,h⟩:=qdk h;refine⟨_,h,fun lo hg bs ρ H w eval s hx=>?_⟩;have rx:=hx' ρ H _ hg (hx x (by simp[kj]));simp only[qch,qco]at rx;obtain⟨us,e,q⟩:=rx;obtain⟨v,hv,rv⟩:=q.get hc;exact qc1 s (v:=v) (by simp[e,Instr.extract,hv]) rv
  ·rename_i a b
   split at h
   ·refine⟨_,h,fun lo hg bs ρ H w eval s hx=>?_⟩
    obtain⟨u,v,e,ru,rv⟩:=hx' ρ H _ hg (hx x (by simp[kj]));exact qc1 s (v:=u) (by simp[e,Instr.extract]) ru
   ·refine⟨_,h,fun lo hg bs ρ H w eval s hx=>?_⟩
    obtain⟨u,v,e,ru,rv⟩:=hx' ρ H _ hg (hx x (by simp[kj]));exact qc1 s (v:=v) (by simp[e,Instr.extract]) rv
   exact h.elim
  ·rename_i ok a b
   have cut:∀ {ρ:List Value} {H:PH} {u:Value},ok=true->qch ρ H (.nxt ok a b) u->∃ y z,u=.tuple #[.bool true,y,z]/\qco H a y/\qco H b z:=by
    intro ρ H u hok r;simp only[qch,hok,if_true]at r;exact r
   split at h
   ·refine⟨_,h,fun lo hg bs ρ H w eval s hx=>?_⟩
    have r:=hx' ρ H _ hg (hx x (by simp[kj]));cases ok with
    | true=>
     obtain⟨u,v,e,_,_⟩:=cut rfl r;exact qc1 s (v:=.bool true) (by simp[e,Instr.extract]) qr7
    | false=>
     simp only[qch,Bool.false_eq_true,if_false]at r;exact qc1 s (v:=.bool false) (by simp[r,Instr.extract]) qr7
   ·refine⟨_,h.2,fun lo hg bs ρ H w eval s hx=>?_⟩
    obtain⟨u,v,e,ru,rv⟩:=cut (qo5 h.1 hg) (hx' ρ H _ hg (hx x (by simp[kj])));exact qc1 s (v:=u) (by simp[e,Instr.extract]) ru
   ·refine⟨_,h.2,fun lo hg bs ρ H w eval s hx=>?_⟩
    obtain⟨u,v,e,ru,rv⟩:=cut (qo5 h.1 hg) (hx' ρ H _ hg (hx x (by simp[kj])));exact qc1 s (v:=v) (by simp[e,Instr.extract]) rv
   exact h.elim
  exact h.elim
 ·rename_i t x
  obtain⟨x',h,hx'⟩:=qbr h;obtain⟨p,h,hp⟩:=qss h;split at h
  ·exact h.elim
  ·rename_i d hd hu
   refine⟨_,h,fun lo hg bs ρ H w eval s hx=>?_⟩;have rx:=hp ρ H _ (hx' ρ H _ hg (hx x (by simp[kj])));refine qc1 s (v:=.iface t (eval x)) ?_ (by simp only[qch,qco]; exact⟨_,rfl,rx⟩);simp only[Instr.makeInterface,kh,kru hu,kg];rfl
  exact h.elim
 ·rename_i x t
  obtain⟨x',h,hx'⟩:=qbr h;obtain⟨fv,h,hs⟩:=zpc h;refine⟨_,h,fun lo hg bs ρ H w eval s hx=>?_⟩;obtain⟨v,hr,rv⟩:=hs ρ H w ty _ (hx' ρ H _ hg (hx x (by simp[kj,kl])));simp only[execOp,resolve,invoke,builtin,kh,ki,kg,kf,jl,jO,hr];exact qh9 s rv
 ·rename_i f xs ts
  obtain⟨vs,h,hvs⟩:=qtm h;obtain⟨ps,h,hps⟩:=quu h;obtain⟨r,hc,h⟩:=h;refine⟨_,h,fun lo hg bs ρ H w eval s hx=>?_⟩;have hc:=qo5 hc hg;have rl:=hps ρ H _ (hvs ρ H eval hg (fun y hy=>hx y (by simp[kj,kl,hy])))
  have:=hc H w _ s.sath rl;have hf:(eval (.func f))=.func (.func f) #[] #[]:=by
   have:=hx (.func f) (by simp[kj,kl]);simpa[evF,qch,qco]using this
  simp only[execOp,resolve,Deferred.ofValue,invoke,hf,kh,ki,kg,kf,Array.empty_append,Array.append_empty];exact q0s s this
 obtain⟨fv,h,hs⟩:=zhm (dst:=dst) (ty:=ty) (pos:=pos) (after:=after) (guard:=guard) h;exact⟨fv,h,hs⟩
theorem zg0 {H:PH} {w:World} (s:SatH H w) {b o:Nat} {v:Value} (h:H b o=some v):w.cell? ⟨b,o,none⟩=some v:=(s.cell b o v h).1
theorem qpq {w:World} {t:TypeId} {d:TypeDesc} {i:TypeInfo} (hd:P.underlying t=some d) (hi:P.info? t=some i) {b o:Nat} {vs:List Value}
  (hc:∀ j v,vs[j]? =some v->w.cell? ⟨b,o+j,none⟩=some v) (hn:i.size<=vs.length) (hagg:zts d=true) :
  (Instr.loadAt t (.pointer (some ⟨b,o,none⟩))).run P w=.ok (.agg (vs.take i.size).toArray) w:=by
 have hl:(loadCells ⟨b,o,none⟩ (vs.take i.size).length).run P w=.ok (vs.take i.size).toArray w:=
  run_loadCells_list (P:=P) w ⟨b,o,none⟩ (vs.take i.size) (fun j v hv=>by
   rw[Addr.add_lit];rw[jF]at hv;split at hv
   ·exact hc j v hv
   cases hv)
 rw[ju,Nat.min_eq_left hn]at hl;simp[Instr.loadAt,Instr.sureAddr,loadVar,quy hd,hagg,Go.sizeOf,typeInfo,hi,hl]
theorem qk0 {w:World} {t:TypeId} {d:TypeDesc} (hd:P.underlying t=some d) {b o:Nat} {v:Value}
  (hc:w.cell? ⟨b,o,none⟩=some v) (hagg:zts d=false):(Instr.loadAt t (.pointer (some ⟨b,o,none⟩))).run P w=.ok v w:=by
 simp[Instr.loadAt,Instr.sureAddr,loadVar,quy hd,hagg,hc]
theorem q5r {t:TypeId} {lo:List AObj} {x':FV} {R:FV->Prop} (h:qz0 P t lo x' R) :
  ∃ fv,R fv/\∀ (bs:Base) (ρ:List Value) (H:PH) (w:World) (v:Value),SatW bs ρ H lo w->qch ρ H x' v->∃ a u,v=.pointer (some a)/\(Instr.loadAt t v).run P w=.ok u w/\qch ρ H fv u:=by
 unfold qz0 at h;split at h
 ·rename_i k off
  obtain⟨ob,hob,h⟩:=qdk h;split at h
  ·rename_i bt cells
   obtain⟨h,hoff⟩:=qkz h;obtain⟨d,i,hd,hi,h⟩:=qib h;split at h
   ·rename_i hagg
    obtain⟨h,hn⟩:=qol h;obtain⟨ps,h,hps⟩:=quu h;refine⟨_,h,fun bs ρ H w v s hx=>?_⟩;obtain⟨b,hb,rfl⟩:=hx;obtain⟨b',vs,e',hg',hcs,_⟩:=s.objs k _ _ hob hb;cases e';refine⟨_,_,rfl,qpq hd hi (qzy hg' off) (by rw[jN]at hn ⊢; rw[hcs.length]; exact hn) hagg,?_⟩;simp only[qch,qco];exact⟨_,rfl,hps _ _ _ ((hcs.drop off).take _)⟩
   rename_i hagg;split at h
   ·rename_i c r hc
    refine⟨_,h,fun bs ρ H w v s hx=>?_⟩;obtain⟨b,hb,rfl⟩:=hx;obtain⟨b',vs,e',hg',hcs,_⟩:=s.objs k _ _ hob hb;cases e';have hd2:=hcs.drop off;rw[hc]at hd2;obtain⟨v,vs',e2,rv,_⟩:=hd2;have:=qzy hg' off 0 v (by rw[e2]; simp);exact⟨_,_,rfl,qk0 hd (by simpa using this) hagg,rv⟩
   exact h.elim
  exact h.elim
 ·rename_i row
  obtain⟨d,i,hd,hi,h⟩:=qib h;split at h
  ·rename_i hagg
   obtain⟨h,hn⟩:=qol h;refine⟨_,h,fun bs ρ H w v s hx=>?_⟩;obtain⟨b,o',vs,rfl,q,c⟩:=hx;refine⟨_,_,rfl,qpq hd hi (fun j v hv=>zg0 s.sath (c j v hv)) (by rw[q.length]; exact hn) hagg,?_⟩
   simp only[qch,qco];exact⟨_,rfl,q.take _⟩
  rename_i hagg;split at h
  ·rename_i c0 r hc
   refine⟨_,h,fun bs ρ H w v s hx=>?_⟩;obtain⟨b,o',vs,rfl,q,c⟩:=hx;simp only[qdi]at q;obtain⟨u,vs',e2,rv,_⟩:=q;have:=zg0 s.sath (c 0 u (by rw[e2]; simp));exact⟨_,_,rfl,qk0 hd (by simpa using this) hagg,rv⟩
  exact h.elim
 exact h.elim
theorem zjx {o:Oper} {t:TypeId} {x:Operand} (ho:o.op=.load t x) {E:Env} {g:G} {lo:List AObj} {R:FV->Prop} (h:evS E g x fun x=>qz0 P t lo x R) :
  ∃ fv,R fv/\qlf P o (qcc E) lo g fv lo:=by
 obtain⟨x',h,hx'⟩:=qbr h;obtain⟨fv,h,hs⟩:=q5r h;refine⟨_,h,fun hg bs ρ H w eval s hx=>?_⟩;obtain⟨a,u,_,hr,ru⟩:=hs bs ρ H w _ s (hx' ρ H _ hg (hx x (by simp[ho,kj])));simp only[execOp,ho];exact qc1 s hr ru
theorem zjt {o:Oper} {sr d:TypeId} {x:Operand} (ho:o.op=.convert sr d x) {E:Env} {g:G} {lo:List AObj} {R:FV->Prop} (h:evS E g x fun x=>q97 P g sr d lo x R) :
  ∃ fv,R fv/\qlf P o (qcc E) lo g fv lo:=by
 obtain⟨x',h,hx'⟩:=qbr h;obtain⟨fv,h,hs⟩:=q20 h;refine⟨_,h,fun hg bs ρ H w eval s hx=>?_⟩;obtain⟨u,hr,ru⟩:=hs hg bs ρ H w _ s (hx' ρ H _ hg (hx x (by simp[ho,kj])));simp only[execOp,ho];exact qc1 s hr ru
end
end Ax
end
section
namespace Ax
open Go
theorem qre.length {H:PH} {z:Nat}:∀ {rows:List (List PV)} {vs:List Value},qre H z rows vs->vs.length=rows.length * z
 | [],_,x=>by simp only[qre]at x; simp[x]
 | r::rs,vs,x=>by
  simp only[qre]at x;obtain⟨hz,a,b,rfl,q,y⟩:=x;rw[jb,q.length,hz,y.length,ja,Nat.add_mul,Nat.one_mul,Nat.add_comm]
theorem qre.append {H:PH} {z:Nat}:∀ {rows rows':List (List PV)} {vs us:List Value},qre H z rows vs->qre H z rows' us->qre H z (rows++rows') (vs++us)
 | [],_,vs,us,x,y=>by simp only[qre]at x; simpa[x]using y
 | r::rs,_,vs,us,x,y=>by
  obtain⟨hz,a,b,e,q,x'⟩:=x;exact⟨hz,a,b++us,by rw[e,jt],q,x'.append y⟩
theorem qs3.flat {H:PH} {b z:Nat}:∀ {o:Nat} {rows:List (List PV)},qs3 H b z o rows->∃ vs,qre H z rows vs/\∀ j v,vs[j]? =some v->H b (o+j)=some v
 | o,[],_=>⟨[],rfl,fun j v h=>by simp at h⟩
 | o,r::rs,x=>by
  simp only[qs3]at x;obtain⟨hz,⟨vs,q,c⟩,x'⟩:=x;obtain⟨us,y,c'⟩:=x'.flat;refine⟨vs++us,⟨hz,vs,us,rfl,q,y⟩,fun j v hv=>?_⟩;have hl:vs.length=z:=by rw[q.length,hz]
  rcases Nat.lt_or_ge j vs.length with hj|hj
  ·rw[jC hj]at hv; exact c j v hv
  rw[jD hj]at hv;have:=c' _ _ hv;have e:o+z+(j - vs.length)=o+j:=by omega
  rwa [e]at this
theorem qre.unflat {H:PH} {b z:Nat}:∀ {o:Nat} {rows:List (List PV)} {vs:List Value},qre H z rows vs->(∀ j v,vs[j]? =some v->H b (o+j)=some v)->qs3 H b z o rows
 | _,[],_,_,_=>by simp[qs3]
 | o,r::rs,vs,x,c=>by
  obtain⟨hz,a,b',rfl,q,y⟩:=x;have hl:a.length=z:=by rw[q.length,hz]
  simp only[qs3];refine⟨hz,⟨a,q,fun j v hv=>c j v ?_⟩,y.unflat fun j v hv=>?_⟩
  ·have:=(jH.1 hv).1
   rw[jC this]; exact hv
  have:=c (z+j) v (by rw[jD (by omega)]; rw[hl,Nat.add_sub_cancel_left]; exact hv)
  rwa [← Nat.add_assoc]at this
theorem zaq {H:PH} {rows:List (List PV)} {v:Value} {z:Nat} (h:qco H (.sl rows) v) (hz:∀ r∈rows,r.length=z) :
  (rows=[]/\(v=.slice none 0 0\/∃ a cap,v=.slice (some a) 0 cap))\/∃ b o cap vs,v=.slice (some ⟨b,o,none⟩) rows.length cap/\rows.length<=cap/\qre H z rows vs/\∀ j u,vs[j]? =some u->H b (o+j)=some u:=by
 simp only[qco]at h;rcases h with h|⟨b,o,z',cap,e,hc,r⟩
 ·exact .inl h
 refine .inr ⟨b,o,cap,?_⟩;cases rows with
 | nil=>exact⟨[],e,hc,rfl,fun j u h=>by simp at h⟩
 | cons r0 rs=>
  have:z'=z:=by
   simp only[qs3]at r;rw[← r.1]; exact hz r0 (by simp)
  subst this;obtain⟨vs,y,c⟩:=r.flat;exact⟨vs,e,hc,y,c⟩
theorem SatW.kill {bs:Base} {ρ:List Value} {H:PH} {lo:List AObj} {w:World} (s:SatW bs ρ H lo w) (k:Nat):SatW bs ρ H (lo.set k .dead) w where
 sath:=s.sath
 hlen:=by simpa using s.hlen
 pre:=s.pre
 objs:=fun i o v hi hv=>by
  rw[jG]at hi;split at hi
  ·split at hi
   ·cases hi; trivial
   cases hi
  ·exact s.objs i o v hi hv
 excl:=fun i j o o' v v' b hi hj hv hv' hne hl hl' hb=>by
  rw[jG]at hi hj;split at hi
  ·split at hi
   ·cases hi; simp[AObj.live]at hl
   cases hi
  ·split at hj
   ·split at hj
    ·cases hj; simp[AObj.live]at hl'
    cases hj
   ·exact s.excl i j o o' v v' b hi hj hv hv' hne hl hl' hb
 own:=fun i o v b hi hv hl hb=>by
  rw[jG]at hi;split at hi
  ·split at hi
   ·cases hi; simp[AObj.live]at hl
   cases hi
  ·exact s.own i o v b hi hv hl hb
 keep:=s.keep
 leH:=s.leH
 newH:=s.newH
theorem SatW.push {bs:Base} {ρ:List Value} {H H':PH} {lo:List AObj} {w w':World} (s:SatW bs ρ H lo w) {v:Value} {o:AObj} {g:Nat}
  (hv:qcj v=some g\/qcj v=none)
  (hfree:∀ (k:Nat) (o':AObj) (v':Value),lo[k]? =some o'->ρ[k]? =some v'->o'.live=true->qcj v'≠some g)
  (hown:bs.S g\/bs.w0.heap.size<=g) (hle:PH.le H H') (hsat:SatH H' w')
  (hnew:∀ b o v,H' b o=some v->(∃ v,H b o=some v)\/b=g) (hkeep:Keep (fun b=>b=g) w w')
  (hok:qys (ρ++[v]) H' w' v o):SatW bs (ρ++[v]) H' (lo++[o]) w' where
 sath:=hsat
 hlen:=by simp[s.hlen]
 pre:=s.pre.trans (List.prefix_append _ _)
 objs:=fun i ob u hi hu=>by
  rw[List.getElem?_append]at hi hu;rw[s.hlen]at hu;split at hi
  ·rename_i hlt
   simp only[hlt,if_true]at hu;cases hl:ob.live with
   | false=>cases ob<;>simp[AObj.live]at hl; trivial
   | true=>
    refine(s.objs i ob u hi hu).keep (List.prefix_append _ _) hle (fun b hb hlt'=>hkeep.block b hlt' (fun e=>hfree i ob u hi hu hl (by rw[hb,e]))) (fun b o' hb _ hn=>?_)
    cases hx:H' b o' with
    | none=>rfl
    | some x=>
     rcases hnew b o' x hx with ⟨y,hy⟩|e
     ·rw[hn]at hy; cases hy
     exact absurd (by rw[hb,e]) (hfree i ob u hi hu hl)
  rename_i hlt;simp only[hlt,if_false]at hu;have h1:=(jH.1 hi).1;simp at h1;have h0:i - lo.length=0:=by omega
  rw[h0]at hi hu;simp at hi hu;subst hi; subst hu;exact hok
 excl:=fun i j oi oj vi vj b hi hj hvi hvj hne hli hlj hb=>by
  rw[List.getElem?_append]at hi hj hvi hvj;rw[s.hlen]at hvi hvj;have last:∀ {x:Nat} {ob:AObj} {u:Value},¬ x<lo.length->[o][x - lo.length]? =some ob->[v][x - lo.length]? =some u->x=lo.length/\u=v:=by
   intro x ob u hx h1 h2;have:=(jH.1 h1).1;simp at this;have h0:x - lo.length=0:=by omega
   rw[h0]at h2;simp at h2;exact⟨by omega,h2.symm⟩
  by_cases h1:i<lo.length<;>by_cases h2:j<lo.length<;>simp only[h1,h2,if_true,if_false]at hi hj hvi hvj
  ·exact s.excl i j oi oj vi vj b hi hj hvi hvj hne hli hlj hb
  ·obtain⟨_,rfl⟩:=last h2 hj hvj
   intro hb';rcases hv with hv|hv
   ·rw[hv]at hb'; cases hb'; exact hfree i oi vi hi hvi hli hb
   rw[hv]at hb'; cases hb'
  ·obtain⟨_,rfl⟩:=last h1 hi hvi
   intro hb';rcases hv with hv|hv
   ·rw[hv]at hb; cases hb; exact hfree j oj vj hj hvj hlj hb'
   rw[hv]at hb; cases hb
  obtain⟨e1,_⟩:=last h1 hi hvi;obtain⟨e2,_⟩:=last h2 hj hvj;omega
 own:=fun i ob u b hi hu hl hb=>by
  rw[List.getElem?_append]at hi hu;rw[s.hlen]at hu;split at hi
  ·rename_i hlt
   simp only[hlt,if_true]at hu;exact s.own i ob u b hi hu hl hb
  rename_i hlt;simp only[hlt,if_false]at hu;have h1:=(jH.1 hi).1;simp at h1;have h0:i - lo.length=0:=by omega
  rw[h0]at hu;simp at hu;subst hu;rcases hv with hv|hv
  ·rw[hv]at hb; cases hb; exact hown
  rw[hv]at hb; cases hb
 keep:=s.keep.step hkeep (fun i hi=>by
  subst hi;rcases hown with h|h
  ·exact .inl h
  exact .inr h)
 leH:=s.leH.trans hle
 newH:=fun b o v hb=>by
  rcases hnew b o v hb with ⟨y,hy⟩|e
  ·exact s.newH b o y hy
  subst e; exact .inr hown
theorem SatW.fresh {bs:Base} {ρ:List Value} {H:PH} {lo:List AObj} {w:World} (s:SatW bs ρ H lo w) {g:Nat} (hg:w.heap.size<=g) :
  ∀ (k:Nat) (o':AObj) (v':Value),lo[k]? =some o'->ρ[k]? =some v'->o'.live=true->qcj v'≠some g:=fun k o v hk hv hl hb=>by
 have:=s.objs k o v hk hv;cases o with
 | dead=>simp[AObj.live]at hl
 | box t cells=>
  obtain⟨b,vs,rfl,hgt,_⟩:=this;simp[qcj]at hb;have:=qil hgt;omega
 | tail e z n=>
  obtain⟨xs,ho,_⟩:=this;rcases ho.2 with ⟨rfl,_⟩|⟨g',cap,cur,rfl,_,hgt,_⟩
  ·simp[qcj]at hb
  simp[qcj]at hb;have:=qil hgt;omega
 | vec e z n=>
  obtain⟨xs,ho,_⟩:=this;rcases ho.2 with ⟨rfl,_⟩|⟨g',cap,cur,rfl,_,hgt,_⟩
  ·simp[qcj]at hb
  simp[qcj]at hb;have:=qil hgt;omega
 | mp d es mk=>
  obtain⟨b,ents,clock,rfl,hgt,_⟩:=this;simp[qcj]at hb;have:=qil hgt;omega
 | sit l pos=>
  obtain⟨b,rfl,hgt,_⟩:=this;simp[qcj]at hb;have:=qil hgt;omega
 | bv l=>
  obtain⟨b,cs,e,cap,lo,hi,rfl,hgt,_⟩:=this;simp[qcj]at hb;have:=qil hgt;omega
 | vl e z rows j k=>
  obtain⟨xs,ho,_⟩:=this;rcases ho.2 with ⟨rfl,_⟩|⟨g',cap,cur,rfl,_,hgt,_⟩
  ·simp[qcj]at hb
  simp[qcj]at hb;have:=qil hgt;omega
theorem qtx (w:World) (o:Obj) (g:Nat):Keep (fun b=>b=g) w (w.alloc o):=
 ⟨rfl,rfl,rfl,by simp,fun k hk _=>heap_alloc_old w o hk⟩
theorem qra (w:World) (o:Obj) (g:Nat):Keep (fun b=>b=g) w (w.drew.alloc o):=
 ⟨rfl,rfl,rfl,by simp,fun k hk _=>heap_alloc_old w.drew o hk⟩
theorem qw1 {H:PH} {w:World} (s:SatH H w) (o:Obj):SatH H (w.alloc o):=⟨fun b p v hv=>by
 refine⟨?_,(s.cell b p v hv).2⟩;rw[World.cell?_alloc_lt (h:=s.lt hv)];exact(s.cell b p v hv).1,s.root⟩
theorem SatW.pushBox {bs:Base} {ρ:List Value} {H:PH} {lo:List AObj} {w:World} (s:SatW bs ρ H lo w) {t:TypeId} {cells:List FV} {vs:List Value} (hc:qd7 ρ H cells vs) :
  SatW bs (ρ++[.pointer (some ⟨w.heap.size,0,none⟩)]) H (lo++[.box t cells]) (w.alloc (.cells vs.toArray t)):=by
 refine s.push (g:=w.heap.size) (.inl rfl) (s.fresh (jx _)) (.inr s.keep.size) (PH.le.refl H) (qw1 s.sath _) (fun b o v h=>.inl ⟨v,h⟩) (qtx w _ _) ?_;refine⟨w.heap.size,vs,rfl,heap_alloc_new w _,hc.mono (List.prefix_append _ _) (PH.le.refl H),fun o=>?_⟩;cases hx:H w.heap.size o with
 | none=>rfl
 | some x=>exact absurd (s.sath.lt hx) (jS _)
theorem q9v {ρ:List Value} {H:PH}:∀ {fs:List FV} {vs:List Value},q6d fs=true->qd7 ρ H fs vs->∀ u∈vs,u.oneCell'=true
 | [],vs,_,r,u,hu=>by simp only[qd7]at r; simp[r]at hu
 | f::fs,vs,h,r,u,hu=>by
  simp only[q6d]at h;split at h
  ·rename_i h1
   obtain⟨v,vs',rfl,r1,rs⟩:=r;rcases jg.1 hu with rfl|hu
   ·exact(qrw h1 r1).2
   exact q9v h rs u hu
  cases h
theorem q2x:∀ {c:FV} {R:List FV->Prop},q3y c R->∃ cs,R cs/\∀ (ρ:List Value) (H:PH) (vs:List Value),qch ρ H c (.tuple vs.toArray)->qd7 ρ H cs vs
 | .cap0,R,h=>⟨[],h,fun ρ H vs r=>by
   simp only[qch,Value.tuple.injEq]at r;simpa[qd7]using r⟩
 | .cap a b,R,h=>by
  simp only[q3y]at h;obtain⟨ps,h,hps⟩:=q2x h;refine⟨_,h,fun ρ H vs r=>?_⟩;obtain⟨u,us,e,ra,rb⟩:=r;have e:vs=u::us:=by simpa using e
  subst e;exact⟨u,us,rfl,ra,hps _ _ _ rb⟩
 | .top,_,h|.p _,_,h|.opt _ _,_,h|.tsl _ _,_,h|.ptr _ _,_,h|.hptr _,_,h|.bself _,_,h|.bsl _ _ _ _,_,h|.vsl _ _,_,h|.eptr _ _ _ _,_,h|.mref _,_,h|.pair _ _,_,h|.stmp _,_,h|.clo _ _,_,h|.fagg _,_,h|.nxt _ _ _,_,h|.asl _ _ _,_,h=>by
  simp[q3y]at h
theorem q2v {f:FV} {R:List FV->Prop} (h:q1y f R):∃ cs,R cs/\∀ (ρ:List Value) (H:PH) (x:Value),qch ρ H f x->qd7 ρ H cs x.cells.toList:=by
 unfold q1y at h;split at h
 ·rename_i cs
  refine⟨_,qz2 h,fun ρ H x r=>?_⟩;simp only[qch,qco]at r;obtain⟨vs,rfl,q⟩:=r;simpa[Value.cells]using qd7.of_RepL q
 ·rename_i c
  obtain⟨cs,h,hcs⟩:=q2x h;refine⟨_,h,fun ρ H x r=>?_⟩;obtain⟨vs,rfl,rc⟩:=r;simpa[Value.cells]using hcs ρ H vs rc
 split at h
 ·rename_i h1
  refine⟨_,h,fun ρ H x r=>?_⟩;rw[(qrw h1 r).1];exact⟨x,[],rfl,r,rfl⟩
 exact h.elim
theorem zdl {P:Program} {t:TypeId} {R:List PV->Prop} (h:zto P t R):∃ i z ps,P.info? t=some i/\i.zero=some z/\R ps/\∀ H,qdi H ps z.cells.toList:=by
 unfold zto at h;split at h
 ·rename_i i hi
  split at h
  ·rename_i vs hz
   obtain⟨ps,hr,hs⟩:=qwy h;exact⟨i,_,ps,hi,hz,hr,fun H=>by simpa[Value.cells]using hs H⟩
  ·rename_i v hne hz
   obtain⟨ps,hr,hs⟩:=qwy h;refine⟨i,v,ps,hi,hz,hr,fun H=>?_⟩;have:v.cells = #[v]:=by
    cases v<;>first|rfl|skip
    rename_i cs;exact absurd rfl (hne cs.toList)
   rw[this];simpa using hs H
  exact h.elim
 exact h.elim
theorem SatW.setBox {bs:Base} {ρ:List Value} {H:PH} {lo:List AObj} {w:World} (s:SatW bs ρ H lo w) {k b:Nat} {t:TypeId} {old cells:List FV} {vs0 vs:List Value}
  (hk:lo[k]? =some (.box t old)) (hv:ρ[k]? =some (.pointer (some ⟨b,0,none⟩))) (hg:w.heap[b]? =some (.cells vs0.toArray t (0,0))) (hH:∀ o,H b o=none)
  (hc:qd7 ρ H cells vs):SatW bs ρ H (lo.set k (.box t cells)) (w.setRow b vs.toArray) where
 sath:=s.sath.block fun b' o v hb=>setRow_other w b b' _ (fun e=>by subst e; rw[hH o]at hb; cases hb)
 hlen:=by simpa using s.hlen
 pre:=s.pre
 objs:=fun i o v hi hv'=>by
  rw[jG]at hi;split at hi
  ·rename_i e
   subst e;split at hi
   ·cases hi
    rw[hv]at hv';cases hv';exact⟨b,vs,rfl,setRow_heap w b _ _ t _ hg,hc,hH⟩
   cases hi
  ·rename_i hne
   cases hl:o.live with
   | false=>cases o<;>simp[AObj.live]at hl; trivial
   | true=>
    have hex:=s.excl k i _ o _ v b hk hi hv hv' hne rfl hl rfl;exact(s.objs i o v hi hv').keep (jr _) (PH.le.refl H) (fun b' hb' _=>setRow_other w b b' _ (fun e=>hex (by rw[hb',e]))) (fun b' o' _ _ hn=>hn)
 excl:=fun i j oi oj vi vj b' hi hj hvi hvj hne hli hlj hb=>by
  rw[jG]at hi hj;have live:∀ {x:Nat} {ob:AObj},(if k=x then if k<lo.length then some (AObj.box t cells)else none else lo[x]?)=some ob->ob.live=true->∃ o',lo[x]? =some o'/\o'.live=true:=by
   intro x ob h hl;split at h
   ·rename_i e; subst e; exact⟨_,hk,rfl⟩
   exact⟨ob,h,hl⟩
  obtain⟨o1,h1,l1⟩:=live hi hli;obtain⟨o2,h2,l2⟩:=live hj hlj;exact s.excl i j o1 o2 vi vj b' h1 h2 hvi hvj hne l1 l2 hb
 own:=fun i o v b' hi hv' hl hb=>by
  rw[jG]at hi;split at hi
  ·rename_i e; subst e; exact s.own k _ v b' hk hv' rfl hb
  exact s.own i o v b' hi hv' hl hb
 keep:=s.keep.step (S':=fun x=>x=b) ⟨rfl,rfl,rfl,by simp,fun x _ hx=>setRow_other w b x _ hx⟩ (fun i hi=>by
  subst hi;exact s.own k _ _ i hk hv rfl rfl)
 leH:=s.leH
 newH:=s.newH
end Ax
end
section
namespace Ax
open Go
theorem SatW.upd {bs:Base} {ρ:List Value} {H:PH} {lo:List AObj} {w w':World} (s:SatW bs ρ H lo w) {k b:Nat} {o o':AObj} {v:Value}
  (hk:lo[k]? =some o) (hv:ρ[k]? =some v) (hl:o.live=true) (hb:qcj v=some b) (hH:∀ i,H b i=none) (hkeep:Keep (fun x=>x=b) w w') (hob:qys ρ H w' v o'):SatW bs ρ H (lo.set k o') w' where
 sath:=s.sath.block fun b' i u hu=>hkeep.block b' (s.sath.lt hu) (fun e=>by subst e; rw[hH i]at hu; cases hu)
 hlen:=by simpa using s.hlen
 pre:=s.pre
 objs:=fun i oi vi hi hvi=>by
  rw[jG]at hi;split at hi
  ·rename_i e
   subst e;split at hi
   ·cases hi
    rw[hv]at hvi;cases hvi;exact hob
   cases hi
  ·rename_i hne
   cases hli:oi.live with
   | false=>cases oi<;>simp[AObj.live]at hli; trivial
   | true=>
    have hex:=s.excl k i _ oi _ vi b hk hi hv hvi hne hl hli hb;exact(s.objs i oi vi hi hvi).keep (jr _) (PH.le.refl H) (fun b' hb' hlt=>hkeep.block b' hlt (fun e=>hex (by rw[hb',e]))) (fun b' i' _ _ hn=>hn)
 excl:=fun i j oi oj vi vj b' hi hj hvi hvj hne hli hlj hbi=>by
  rw[jG]at hi hj;have live:∀ {x:Nat} {ob:AObj},(if k=x then if k<lo.length then some o' else none else lo[x]?)=some ob->ob.live=true->∃ o2,lo[x]? =some o2/\o2.live=true:=by
   intro x ob h hl';split at h
   ·rename_i e; subst e; exact⟨_,hk,hl⟩
   exact⟨ob,h,hl'⟩
  obtain⟨o1,h1,l1⟩:=live hi hli;obtain⟨o2,h2,l2⟩:=live hj hlj;exact s.excl i j o1 o2 vi vj b' h1 h2 hvi hvj hne l1 l2 hbi
 own:=fun i oi vi b' hi hvi hli hbi=>by
  rw[jG]at hi;split at hi
  ·rename_i e; subst e; exact s.own k _ vi b' hk hvi hl hbi
  exact s.own i oi vi b' hi hvi hli hbi
 keep:=s.keep.step hkeep (fun i hi=>by
  subst hi;exact s.own k _ _ i hk hv hl hb)
 leH:=s.leH
 newH:=s.newH
def AObj.boxy:AObj->Bool
 | .box _ _=>true
 | .mp _ _ _=>true
 | _=>false
def qex (b:Bool) (lo lo':List AObj):Prop:=lo.length<=lo'.length/\(b=true->∀ k ob,k<lo.length->ob.boxy=true->(lo[k]? =some ob↔lo'[k]? =some ob))
theorem qex.push {b:Bool} {lo:List AObj} (o:AObj):qex b lo (lo++[o]):=⟨by simp,fun _ k ob hk _=>by rw[jC hk]⟩
theorem qex.set {lo:List AObj} (k:Nat) (o:AObj):qex false lo (lo.set k o):=⟨by simp,fun h=>by cases h⟩
theorem qex.len {lo lo':List AObj} (h:lo'.length=lo.length):qex false lo lo':=⟨by omega,fun h=>by cases h⟩
theorem qex.kill {b:Bool} {lo:List AObj} {k0:Nat} {o0:AObj} (o:AObj) (h:lo[k0]? =some o0) (h0:o0.boxy=false):qex b lo (lo.set k0 .dead++[o]):=⟨by simp,fun _ k ob hk hb=>by
 rw[jC (by simpa using hk),jG];split
 ·rename_i e
  subst e;rw[if_pos hk,h]
  constructor
  ·intro e; cases e; rw[h0]at hb; cases hb
  intro e; cases e; cases hb
 exact Iff.rfl⟩
theorem qex.trans {b:Bool} {l1 l2 l3:List AObj} (h:qex b l1 l2) (k:qex b l2 l3):qex b l1 l3:=
 ⟨Nat.le_trans h.1 k.1,fun hb i ob hi hy=>(h.2 hb i ob hi hy).trans (k.2 hb i ob (Nat.lt_of_lt_of_le hi h.1) hy)⟩
section
variable {P:Program} {w:World}
theorem zmf {d' d:TypeDesc} {kp:PV} {R:Prop} (h:zj2 d' d kp R):R/\d'=d/\∀ (H:PH) (v:Value),qco H kp v->MapKept.IsKey d v:=by
 unfold zj2 at h;split at h
 ·exact⟨h,rfl,fun H v r=>by simp only[qco]at r; subst r; trivial⟩
 ·exact⟨h,rfl,fun H v r=>by simp only[qco]at r; subst r; trivial⟩
 ·split at h
  ·rename_i h1
   split at h
   ·rename_i h2
    have h1:=qrv h1;have h2:=qrv h2;subst h1; subst h2;exact⟨h,rfl,fun H v r=>by simp only[qco]at r; subst r; rfl⟩
   exact h.elim
  exact h.elim
 exact h.elim
theorem zhs {t:TypeId} {d:TypeDesc} {kp:PV} {R:TypeId->Prop} (h:zua P t d kp R):∃ kt et,R et/\P.underlying t=some (.map kt et)/\P.underlying kt=some d/\∀ (H:PH) (v:Value),qco H kp v->MapKept.IsKey d v:=by
 unfold zua at h;split at h
 ·rename_i kt et ht
  split at h
  ·rename_i d' hd
   obtain⟨h2,rfl,hk⟩:=zmf h;exact⟨kt,et,h2,ht,hd,hk⟩
  exact h.elim
 exact h.elim
theorem zn2 {a b:List UInt8}:(Value.string ⟨a.toArray⟩=Value.string ⟨b.toArray⟩)↔a=b:=by
 constructor
 ·intro h
  injection h with h
  injection h with h
  simpa using h
 rintro rfl; rfl
theorem zo9 {H:PH} {d:TypeDesc} {p q:PV} {x y:Value} (hp:qco H p x) (hq:qco H q y) (hx:MapKept.IsKey d x) (hy:MapKept.IsKey d y):zrr p q=true↔y=x:=by
 have b1:∀ {p:PV} {b:Bool},qco H p (.bool b)->p=.bool b:=by
  intro p b h;cases p<;>simp only[qco]at h<;>(try (obtain⟨_,h,_⟩:=h; cases h))<;>(try (rcases h with ⟨_,h|⟨_,_,h⟩⟩|⟨_,_,_,_,h,_⟩<;>cases h))<;>try cases h
  rfl
 have b2:∀ {p:PV} {k:IntKind} {n:Int},qco H p (.int k n)->p=.int k n:=by
  intro p k n h;cases p<;>simp only[qco]at h<;>(try (obtain⟨_,h,_⟩:=h; cases h))<;>(try (rcases h with ⟨_,h|⟨_,_,h⟩⟩|⟨_,_,_,_,h,_⟩<;>cases h))<;>try cases h
  rfl
 have b3:∀ {p:PV} {b:ByteArray},qco H p (.string b)->∃ l:List UInt8,p=.str l/\b=⟨l.toArray⟩:=by
  intro p b h;cases p<;>simp only[qco]at h<;>(try (obtain⟨_,h,_⟩:=h; cases h))<;>(try (rcases h with ⟨_,h|⟨_,_,h⟩⟩|⟨_,_,_,_,h,_⟩<;>cases h))<;>try cases h
  exact⟨_,rfl,rfl⟩
 cases d<;>cases x<;>cases y<;>simp only[MapKept.IsKey]at hx hy
 ·rw[b1 hp,b1 hq]
  simp only[zrr,beq_iff_eq];exact⟨fun h=>by rw[h],fun h=>by injection h with h; exact h.symm⟩
 ·subst hx; subst hy
  rw[b2 hp,b2 hq];simp only[zrr,beq_iff_eq];exact⟨fun h=>by rw[h],fun h=>by injection h with _ h; exact h.symm⟩
 obtain⟨l,rfl,rfl⟩:=b3 hp;obtain⟨m,rfl,rfl⟩:=b3 hq;simp only[zrr,beq_iff_eq,zn2];exact eq_comm
theorem q95 {H:PH} {d:TypeDesc} {kp:PV} {k:Value} (hkp:qco H kp k) (hk:MapKept.IsKey d k):∀ (es:List (PV×PV)) (l:List MapEntry) (i:Nat),ze7 H es l->(∀ x∈l,MapKept.IsKey d x.key) ->
  (q7u kp es=none/\Instr.findNow d k l i=some none/\(∀ x∈l,x.key≠k)/\∀ vp,zrs kp vp es=es++[(kp,vp)]) \/
  ∃ j e p,q7u kp es=some p/\Instr.findNow d k l i=some (some (i+j,e.val))/\l[j]? =some e/\e.key=k/\qco H p e.val/\∀ vp,zrs kp vp es=es.set j (kp,vp)
 | [],l,i,r,_=>by
  simp only[ze7]at r;subst r;exact .inl ⟨rfl,rfl,by simp,fun _=>rfl⟩
 | (p,q)::es,l,i,r,h=>by
  obtain⟨e,l',rfl,rk,rv,rr⟩:=r;have he:=h e (.head _);obtain⟨b,hb,hiff⟩:=MapKept.sameNow_of_keys hk he;have hke:=zo9 hkp rk hk he;cases b with
  | true=>
   have heq:=hiff.1 rfl;have hkk:zrr kp p=true:=hke.2 heq.symm;exact .inr ⟨0,e,q,by simp[q7u,hkk],by simp[Instr.findNow,hb],rfl,heq.symm,rv,fun vp=>by simp[zrs,hkk]⟩
  | false=>
   have hne:e.key≠k:=fun q=>by have:=hiff.2 q.symm; cases this
   have hkk:zrr kp p=false:=by
    cases hx:zrr kp p with
    | false=>rfl
    | true=>exact absurd (hke.1 hx) hne
   rcases q95 hkp hk es l' (i+1) rr (fun x hx=>h x (.tail _ hx))with ⟨h1,h2,h3,h4⟩|⟨j,e',p',h1,h2,h3,h4,h5,h6⟩
   ·refine .inl ⟨by simp[q7u,hkk,h1],by simp[Instr.findNow,hb,h2],fun x hx=>?_,fun vp=>by simp[zrs,hkk,h4]⟩
    cases hx with
    | head=>exact hne
    | tail _ hx=>exact h3 x hx
   ·exact .inr ⟨j+1,e',p',by simp[q7u,hkk,h1],by simp[Instr.findNow,hb,h2]; omega,by simpa using h3,h4,h5,fun vp=>by simp[zrs,hkk,h6]⟩
theorem ze7.length {H:PH}:∀ {es:List (PV×PV)} {l:List MapEntry},ze7 H es l->l.length=es.length
 | [],l,r=>by simp only[ze7]at r; simp[r]
 | (_,_)::es,l,r=>by
  obtain⟨e,l',rfl,_,_,rr⟩:=r;simp[rr.length]
theorem ze7.push {H:PH}:∀ {es:List (PV×PV)} {l:List MapEntry} {k v:PV} {e:MapEntry},ze7 H es l->qco H k e.key->qco H v e.val->ze7 H (es++[(k,v)]) (l++[e])
 | [],l,k,v,e,r,rk,rv=>by
  simp only[ze7]at r;subst r;exact⟨e,[],rfl,rk,rv,rfl⟩
 | (_,_)::es,l,k,v,e,r,rk,rv=>by
  obtain⟨e',l',rfl,r1,r2,rr⟩:=r;exact⟨e',l'++[e],rfl,r1,r2,rr.push rk rv⟩
theorem ze7.set {H:PH}:∀ {es:List (PV×PV)} {l:List MapEntry} {j:Nat} {k v:PV} {e:MapEntry},ze7 H es l->qco H k e.key->qco H v e.val->ze7 H (es.set j (k,v)) (l.set j e)
 | [],l,j,k,v,e,r,rk,rv=>by
  simp only[ze7]at r;subst r;simp[ze7]
 | (_,_)::es,l,j,k,v,e,r,rk,rv=>by
  obtain⟨e',l',rfl,r1,r2,rr⟩:=r;cases j with
  | zero=>exact⟨e,l',rfl,rk,rv,rr⟩
  | succ j=>exact⟨e',l'.set j e,rfl,r1,r2,rr.set rk rv⟩
theorem zm8 {t:TypeId} {R:PV->Prop} (h:ziv P t R):∃ p z,R p/\(∀ w,(zeroValue t).run P w=.ok z w)/\∀ H,qco H p z:=by
 unfold ziv at h;split at h
 ·rename_i i hi
  split at h
  ·rename_i vs hz
   obtain⟨ps,h,hps⟩:=qwy h;exact⟨.agg ps,.agg ⟨vs⟩,h,fun w=>by simp[zeroValue,typeInfo,hi,hz],fun H=>by simp only[qco]; exact⟨vs,rfl,hps H⟩⟩
  ·rename_i v hne hz
   split at h
   ·rename_i p hp
    exact⟨p,v,h,fun w=>by simp[zeroValue,typeInfo,hi,hz],fun H=>zam hp H⟩
   exact h.elim
  exact h.elim
 exact h.elim
theorem zhl {g:G} {t:TypeId} {lo:List AObj} {x key:FV} {ok:Bool} {R:FV->Prop} (h:qxx P g t lo x key ok R) :
  ∃ fv,R fv/\((∃ k o,x=.mref k/\lo[k]? =some o/\o.live=true)/\(gOn g->∀ (bs:Base) (ρ:List Value) (H:PH) (w:World) (a b:Value),SatW bs ρ H lo w->qch ρ H x a->qch ρ H key b ->
   ∃ v,(Instr.lookup t a b ok).run P w=.ok v w/\qch ρ H fv v)):=by
 unfold qxx at h;split at h
 ·rename_i k kp
  have h0:=qdk h; clear h; obtain⟨o,ho,h⟩:=h0;split at h
  ·rename_i d es mk
   have h0:=zhs h; clear h; obtain⟨kt,et,h,ht,hd,hkey⟩:=h0;have h0:=zm8 h; clear h; obtain⟨z,zv,h,hz,rz⟩:=h0;obtain⟨v,b,hvb,h⟩:=h;refine⟨_,h,⟨k,_,rfl,ho,rfl⟩,fun hg bs ρ H w a kv s ra rk=>?_⟩;obtain⟨hv,hb⟩:=qo5 hvb hg;obtain⟨bl,hρ,rfl⟩:=ra;obtain⟨bl',ents,clock,e,hheap,rm,⟨hst,hks,_⟩,_⟩:=s.objs k _ _ ho hρ;cases e;have hik:=hkey H kv rk;rcases q95 rk hik es ents.toList 0 rm hks with ⟨h1,h2,_,_⟩|⟨j,e,p,h1,h2,_,_,h5,_⟩
   ·rw[h1]at hv hb
    simp only[Option.getD_none,Option.isSome_none]at hv hb;subst hv; subst hb;cases ok
    ·exact⟨zv,by simp[Instr.lookup,kru ht,MapKept.run_getObj_map hheap,MapKept.run_checkKey hd hik,MapKept.run_findKey hd h2,hz],rz H⟩
    exact⟨.tuple #[zv,.bool false],by simp[Instr.lookup,kru ht,MapKept.run_getObj_map hheap,MapKept.run_checkKey hd hik,MapKept.run_findKey hd h2,hz],by
     simp only[qch,qco];exact⟨[zv,.bool false],rfl,by simp only[qdi]; exact⟨zv,_,rfl,rz H,.bool false,[],rfl,by simp[qco],rfl⟩⟩⟩
   rw[h1]at hv hb;simp only[Option.getD_some,Option.isSome_some]at hv hb;subst hv; subst hb;cases ok
   ·exact⟨e.val,by simp[Instr.lookup,kru ht,MapKept.run_getObj_map hheap,MapKept.run_checkKey hd hik,MapKept.run_findKey hd h2],h5⟩
   exact⟨.tuple #[e.val,.bool true],by simp[Instr.lookup,kru ht,MapKept.run_getObj_map hheap,MapKept.run_checkKey hd hik,MapKept.run_findKey hd h2],by
    simp only[qch,qco];exact⟨[e.val,.bool true],rfl,by simp only[qdi]; exact⟨e.val,_,rfl,h5,.bool true,[],rfl,by simp[qco],rfl⟩⟩⟩
  exact h.elim
 exact h.elim
theorem zmd {t:TypeId} {lo:List AObj} {x:FV} {R:FV->Prop} (h:zuz P t lo x R) :
  ∃ fv,R fv/\∀ (bs:Base) (ρ:List Value) (H:PH) (w:World) (ty:TypeId) (a:Value),SatW bs ρ H lo w->qch ρ H x a->∃ v,(Builtin.len_ #[t] ty #[a]).run P w=.ok v w/\qch ρ H fv v:=by
 unfold zuz at h;split at h
 ·rename_i k
  have h0:=qdk h; clear h; obtain⟨o,ho,h⟩:=h0;split at h
  ·rename_i d es mk
   split at h
   ·rename_i kt et ht
    obtain⟨n,hn,h⟩:=h;refine⟨_,h,fun bs ρ H w ty a s ra=>⟨.int .i64 n,?_,qq8⟩⟩;obtain⟨bl,hρ,rfl⟩:=ra;obtain⟨bl',ents,clock,e,hheap,rm,_⟩:=s.objs k _ _ ho hρ;cases e;have:=rm.length;simp at this;simp[Builtin.len_,kru ht,MapKept.run_getObj_map hheap,goInt,this,hn]
   exact h.elim
  exact h.elim
 exact h.elim
theorem q71 (w:World) (b:Nat) (o:Obj):Keep (fun x=>x=b) w { w with heap:=w.heap.setIfInBounds b o }:=
 ⟨rfl,rfl,rfl,by simp,fun k _ hk=>by simp[Ne.symm hk]⟩
theorem q7s {es:Array MapEntry} {j:Nat} {f:MapEntry->MapEntry} {e:MapEntry} (h:es[j]? =some e):(es.modify j f).toList=es.toList.set j (f e):=by
 apply List.ext_getElem?;intro i;simp only[Array.getElem?_toList,Array.getElem?_modify,jG];by_cases hij:j=i
 ·subst hij
  obtain⟨h1,h2⟩:=jI.1 h;simp[h1,h2]
 simp[hij]
theorem zj7 {bs:Base} {ρ:List Value} {H:PH} {lo:List AObj} (s:SatW bs ρ H lo w) {t kt et:TypeId} {d:TypeDesc} (ht:P.underlying t=some (.map kt et)) (hd:P.underlying kt=some d)
  {j:Nat} {es:List (PV×PV)} {mk:Option (PV×Nat)} (ho:lo[j]? =some (.mp d es mk)) {m k x:Value} (rm:qch ρ H (.mref j) m) {kp vp:PV} (rk:qco H kp k) (rx:qco H vp x) (hk:MapKept.IsKey d k) :
  ∃ w',(Instr.mapUpdate t m k x).run P w=.ok () w'/\SatW bs ρ H (lo.set j (.mp d (zrs kp vp es) none)) w':=by
 obtain⟨bl,hρ,rfl⟩:=rm;obtain⟨bl',ents,clock,e,hheap,rmm,⟨hst,hks,_⟩,hH⟩:=s.objs j _ _ ho hρ;cases e;rcases q95 rk hk es ents.toList 0 rmm hks with ⟨_,h2,h3,h4⟩|⟨i,e,p,_,h2,h3,h5,_,h6⟩
 ·refine⟨{ w with heap:=w.heap.setIfInBounds bl (.map (ents.push { key:=k,val:=x,born:=clock }) (clock+1)) },?_,s.upd ho hρ rfl rfl hH (q71 w bl _) ?_⟩
  ·simp[Instr.mapUpdate,kru ht,MapKept.run_getObj_map hheap,MapKept.run_checkKey hd hk,MapKept.run_findKey hd h2,MapKept.run_setObj_map _ hheap]
  refine⟨bl,_,_,rfl,(MapKept.heap_set hheap).1,?_,⟨MapKept.stamped_push hst h3,?_,fun _ _ h=>by cases h⟩,hH⟩
  ·rw[h4,Array.toList_push]
   exact rmm.push rk rx
  intro y hy;simp only[Array.toList_push,List.mem_append,List.mem_singleton]at hy;rcases hy with hy|rfl
  ·exact hks y hy
  exact hk
 have hi:ents[i]? =some e:=by simpa using h3
 refine⟨{ w with heap:=w.heap.setIfInBounds bl (.map (ents.modify i fun e=>{ e with key:=k,val:=x }) clock) },?_,s.upd ho hρ rfl rfl hH (q71 w bl _) ?_⟩
 ·simp[Instr.mapUpdate,kru ht,MapKept.run_getObj_map hheap,MapKept.run_checkKey hd hk,MapKept.run_findKey hd h2,hi,h5,MapKept.run_keyThatStays hk,MapKept.run_setObj_map _ hheap]
 have hkey:∀ e',ents[i]? =some e'->({ e' with key:=k,val:=x }:MapEntry).key=e'.key:=fun e' he'=>by rw[hi]at he'; cases he'; exact h5.symm
 refine⟨bl,_,_,rfl,(MapKept.heap_set hheap).1,?_,⟨MapKept.stamped_modify hst _ _ (fun _ _=>rfl) (fun e' _ he'=>hkey e' he'),MapKept.isKey_modify hks _ _ hkey,fun _ _ h=>by cases h⟩,hH⟩
 rw[h6,q7s hi];exact rmm.set rk rx
theorem SatW.pushMap {bs:Base} {ρ:List Value} {H:PH} {lo:List AObj} (s:SatW bs ρ H lo w) {d:TypeDesc} :
  SatW bs (ρ++[.map (some w.heap.size)]) H (lo++[.mp d [] none]) (w.alloc (.map #[] 0)):=by
 refine s.push (g:=w.heap.size) (.inl rfl) (s.fresh (jx _)) (.inr s.keep.size) (PH.le.refl H) (qw1 s.sath _) (fun b o v h=>.inl ⟨v,h⟩) (qtx w _ _) ?_;refine⟨w.heap.size,#[],0,rfl,heap_alloc_new w _,rfl,⟨MapKept.stamped_empty 0,by simp,fun _ _ h=>by cases h⟩,fun o=>?_⟩
 cases hx:H w.heap.size o with
 | none=>rfl
 | some x=>exact absurd (s.sath.lt hx) (jS _)
theorem q11 {b:Nat} {l:ByteArray} {p:Nat} (h:w.heap[b]? =some (.stringIter l p)):(getObj b).run P w=.ok (.stringIter l p) w:=by
 simp[getObj,Sem.run,h]
theorem zcn {b:Nat} {l:ByteArray} {p:Nat} (o':Obj) (h:w.heap[b]? =some (.stringIter l p)):(setObj b o').run P w=.ok () { w with heap:=w.heap.setIfInBounds b o' }:=by
 simp[setObj,Sem.run,h]
theorem zhf {b:Nat} {o o':Obj} (h:w.heap[b]? =some o):(w.heap.setIfInBounds b o')[b]? =some o':=by
 have:=(jI.1 h).1;simp[this]
theorem zfp {α:Type} {l:List α} {k:Nat} {a:α} (h:l[k]? =some a):l.set k a=l:=by
 apply List.ext_getElem?;intro i;rw[jG];split
 ·rename_i e
  subst e;split
  ·exact h.symm
  rename_i hn;simp[List.getElem?_eq_none (Nat.le_of_not_lt hn)]
 rfl
theorem SatW.pushSit {bs:Base} {ρ:List Value} {H:PH} {lo:List AObj} (s:SatW bs ρ H lo w) {l:List UInt8} :
  SatW bs (ρ++[.pointer (some ⟨w.heap.size,0,none⟩)]) H (lo++[.sit l 0]) (w.alloc (.stringIter ⟨l.toArray⟩ 0)):=by
 refine s.push (g:=w.heap.size) (.inl rfl) (s.fresh (jx _)) (.inr s.keep.size) (PH.le.refl H) (qw1 s.sath _) (fun b o v h=>.inl ⟨v,h⟩) (qtx w _ _) ?_;refine⟨w.heap.size,rfl,heap_alloc_new w _,fun o=>?_⟩;cases hx:H w.heap.size o with
 | none=>rfl
 | some x=>exact absurd (s.sath.lt hx) (jS _)
theorem q38 {E:Env} {lo:List AObj} {t:TypeId} {m k x:Operand} {R:FV->List AObj->Prop} (h:zfn P E lo t m k x R) :
  ∃ fv lo',R fv lo'/\lo'.length=lo.length/\∀ (bs:Base) (ρ:List Value) (H:PH) (w:World) (eval:Operand->Value),SatW bs ρ H lo w->qch ρ H (evF (qcc E) m) (eval m)->qch ρ H (evF (qcc E) k) (eval k)->qch ρ H (evF (qcc E) x) (eval x) ->
   ∃ w',(Instr.mapUpdate t (eval m) (eval k) (eval x)).run P w=.ok () w'/\qu1 bs ρ H fv lo' undef w':=by
 unfold zfn at h;have h0:=qbr h; clear h; obtain⟨m',h,hm'⟩:=h0;have h0:=qbr h; clear h; obtain⟨k',h,hk'⟩:=h0;have h0:=qbr h; clear h; obtain⟨x',h,hx'⟩:=h0;have h0:=qss h; clear h; obtain⟨vp,h,hvp⟩:=h0;split at h
 ·rename_i j kp
  have h0:=qdk h; clear h; obtain⟨o,ho,h⟩:=h0;split at h
  ·rename_i d es mk
   have h0:=zhs h; clear h; obtain⟨kt,et,h,ht,hd,hkey⟩:=h0;obtain⟨es',hes,h⟩:=h;obtain⟨h,hlt⟩:=qgv h;refine⟨_,_,h,by simp,fun bs ρ H w eval s rm rk rx=>?_⟩;have rk:=hk' ρ H _ trivial rk;obtain⟨w',hr,s'⟩:=zj7 s ht hd ho (hm' ρ H _ trivial rm) rk (hvp ρ H _ (hx' ρ H _ trivial rx)) (hkey H _ rk);rw[hes]at s';exact⟨w',hr,ρ,H,jr _,PH.le.refl H,s',by simp[qch,qco,qdi,undef]⟩
  exact h.elim
 exact h.elim
theorem zpg {d:TypeDesc} {R:Prop} (h:zxy d R):R:=by
 unfold zxy at h;split at h<;>first|exact h|exact h.elim
theorem zju {o:Oper} {E:Env} {lo:List AObj} {R:FV->List AObj->Prop} (h:zuy P o.op E lo R):∃ fv lo',R fv lo'/\qex (zfs o.op) lo lo'/\qlf P o (qcc E) lo none fv lo':=by
 obtain⟨dst,op,ty,pos,after,guard⟩:=o;simp only at h;unfold zuy at h;split at h
 ·rename_i t x
  have h0:=qbr h; clear h; obtain⟨x',h,hx'⟩:=h0;split at h
  ·rename_i l
   split at h
   ·rename_i ht
    have h:=qe0 h;have h:=qfy h;refine⟨_,_,h,qex.push _,fun hg bs ρ H w eval s hx=>?_⟩;have e:=qs4 (hx' ρ H _ hg (hx x (by simp[kj])));have hr:(Instr.range t (eval x)).run P w=.ok (.pointer (some ⟨w.heap.size,0,none⟩)) (w.alloc (.stringIter ⟨l.toArray⟩ 0)):=by
     simp[Instr.range,e,kru ht]
    simp only[execOp,kh,hr,kg,ki];refine⟨_,H,List.prefix_append _ _,PH.le.refl H,s.pushSit,w.heap.size,by simp[← s.hlen],rfl⟩
   exact h.elim
  exact h.elim
 ·rename_i x
  have h0:=qbr h; clear h; obtain⟨x',h,hx'⟩:=h0;split at h
  ·rename_i k
   have h0:=qdk h; clear h; obtain⟨o,ho,h⟩:=h0;split at h
   ·rename_i l pos
    obtain⟨ok,p',⟨hok,hp⟩,h⟩:=h;obtain⟨h,hlt⟩:=qgv h;refine⟨_,_,h,qex.set _ _,fun hg bs ρ H w eval s hx=>?_⟩;obtain⟨bl,hρ,ex⟩:=hx' ρ H _ hg (hx x (by simp[kj]));obtain⟨bl',e,hheap,hH⟩:=s.objs k _ _ ho hρ;cases e;simp only[execOp,kh,ex];by_cases hlt:pos<l.length
    ·have hok:ok=true:=by rw[← hok]; simpa using hlt
     subst hok;have hr:(Instr.next (.pointer (some ⟨bl,0,none⟩)) true ty).run P w=.ok (.tuple #[.bool true,.int .i64 pos,.int .i32 (qa7 l pos)]) { w with heap:=w.heap.setIfInBounds bl (.stringIter ⟨l.toArray⟩ (qdz l pos)) }:=by
      have hsz:pos<(⟨l.toArray⟩:ByteArray).size:=by rw[ByteArray.size_mk_toArray]; exact hlt
      simp only[Instr.next,kh,q11 hheap,kg];simp only[hsz,if_true,kh,zcn _ hheap,kg,ki];rfl
     simp only[hr,kg,ki];refine⟨ρ,H,jr _,PH.le.refl H,?_,?_⟩
     ·refine s.upd ho hρ rfl rfl hH (q71 w bl _) ⟨bl,rfl,?_,hH⟩
      rw[← hp];exact zhf hheap
     simp only[qch,if_true];exact⟨_,_,rfl,by simp[qco],by simp[qco]⟩
    have hok:ok=false:=by rw[← hok]; simpa using hlt
    subst hok;have hr:(Instr.next (.pointer (some ⟨bl,0,none⟩)) true ty).run P w=.ok (.tuple #[.bool false]) w:=by
     have hsz:¬ pos<(⟨l.toArray⟩:ByteArray).size:=by rw[ByteArray.size_mk_toArray]; exact hlt
     simp only[Instr.next,kh,q11 hheap,kg];simp only[hsz,if_false,ki]
    simp only[hr,kg,ki];refine⟨ρ,H,jr _,PH.le.refl H,?_,by simp[qch]⟩;have hpp:p'=pos:=by rw[← hp]; rfl
    subst hpp;rw[show lo.set k (.sit l p')=lo from zfp ho];exact s
   exact h.elim
  exact h.elim
 ·rename_i t
  split at h
  ·rename_i kt et ht
   split at h
   ·rename_i d hd
    have h:=zpg h;have h:=qe0 h;have h:=qfy h;refine⟨_,_,h,qex.push _,fun hg bs ρ H w eval s hx=>?_⟩;have hr:(Instr.makeMap t none).run P w=.ok (.map (some w.heap.size)) (w.alloc (.map #[] 0)):=rfl;simp only[execOp,Option.map_none,kh,hr,kg,ki];exact⟨_,H,List.prefix_append _ _,PH.le.refl H,s.pushMap,w.heap.size,by simp[← s.hlen],rfl⟩
   exact h.elim
  exact h.elim
 ·rename_i t m k x
  obtain⟨fv,lo',h,hl,hs⟩:=q38 h;refine⟨fv,lo',h,qex.len hl,fun hg bs ρ H w eval s hx=>?_⟩;obtain⟨w',hr,af⟩:=hs bs ρ H w eval s (hx m (by simp[kj])) (hx k (by simp[kj])) (hx x (by simp[kj]));simp only[execOp,kh,hr,kg,ki];exact af
 ·rename_i t m k x
  obtain⟨fv,lo',h,hl,hs⟩:=q38 h;refine⟨fv,lo',h,qex.len hl,fun hg bs ρ H w eval s hx=>?_⟩;obtain⟨w',hr,af⟩:=hs bs ρ H w eval s (hx m (by simp[kj])) (hx k (by simp[kj])) (hx x (by simp[kj]));simp only[execOp,kh,hr,kg,ki];exact af
 ·rename_i x t
  have h0:=qbr h; clear h; obtain⟨x',h,hx'⟩:=h0;split at h
  ·rename_i k
   have h0:=qdk h; clear h; obtain⟨o,ho,h⟩:=h0;split at h
   ·rename_i d es mk
    split at h
    ·rename_i kt et ht
     obtain⟨h,hlt⟩:=qgv h;refine⟨_,_,h,qex.set _ _,fun hg bs ρ H w eval s hx=>?_⟩;obtain⟨bl,hρ,ex⟩:=hx' ρ H _ hg (hx x (by simp[kj,kl]));obtain⟨bl',ents,clock,e,hheap,rmm,_,hH⟩:=s.objs k _ _ ho hρ;cases e;simp only[execOp,resolve,invoke,builtin,kh,ki,kg,kf,jl,jO,ex];have hr:(Builtin.clear_ #[t] ty #[.map (some bl)]).run P w=.ok (.tuple #[]) { w with heap:=w.heap.setIfInBounds bl (.map #[] clock) }:=by
      simp[Builtin.clear_,kru ht,MapKept.run_getObj_map hheap,MapKept.run_setObj_map _ hheap]
     simp only[hr,kg];refine⟨ρ,H,jr _,PH.le.refl H,?_,by simp[qch,qco,qdi]⟩;refine s.upd ho hρ rfl rfl hH (q71 w bl (.map #[] clock)) ?_;exact⟨bl,#[],clock,rfl,(MapKept.heap_set hheap).1,rfl,⟨MapKept.stamped_empty clock,by simp,fun _ _ h=>by cases h⟩,hH⟩
    exact h.elim
   exact h.elim
  exact h.elim
 exact h.elim
end
end Ax
end
section
namespace Ax
open Go
theorem qre.get {H:PH} {z:Nat}:∀ {rows:List (List PV)} {vs:List Value} {i:Nat} {r:List PV},qre H z rows vs->rows[i]? =some r ->
  ∃ a,qdi H r a/\∀ j u,a[j]? =some u->vs[i * z+j]? =some u
 | [],_,_,_,_,h=>by simp at h
 | q::rs,vs,i,r,x,h=>by
  obtain⟨hz,a,b,rfl,ra,rb⟩:=x;have hl:a.length=z:=by rw[ra.length,hz]
  cases i with
  | zero=>
   simp at h;subst h;refine⟨a,ra,fun j u hu=>?_⟩;rw[Nat.zero_mul,jy,jC (jH.1 hu).1];exact hu
  | succ i=>
   obtain⟨c,rc,hc⟩:=rb.get (i:=i) (by simpa using h);refine⟨c,rc,fun j u hu=>?_⟩;have:=hc j u hu;rw[jD (by rw[hl,Nat.add_mul]; omega)];have e:(i+1) * z+j - a.length=i * z+j:=by rw[hl,Nat.add_mul]; omega
   rw[e];exact this
theorem qre.over {H:PH} {z:Nat}:∀ {rows:List (List PV)} {vs:List Value} {i off:Nat} {r ps:List PV} {c:List Value},qre H z rows vs->rows[i]? =some r->qdi H ps c->off+ps.length<=r.length ->
  qre H z (rows.set i (r.take off++ps++r.drop (off+ps.length))) (vs.take (i * z+off)++c++vs.drop (i * z+off+c.length))
 | [],_,_,_,_,_,_,_,h,_,_=>by simp at h
 | q::rs,vs,i,off,r,ps,c,x,h,rp,hle=>by
  obtain⟨hz,a,b,rfl,ra,rb⟩:=x;have hl:a.length=z:=by rw[ra.length,hz]
  have hc:=rp.length;cases i with
  | zero=>
   simp at h;subst h;have hoff:off<=a.length:=by rw[ra.length]; omega
   have hoff2:off+c.length<=a.length:=by rw[ra.length,hc]; omega
   refine⟨?_,a.take off++c++a.drop (off+c.length),b,?_,?_,rb⟩
   ·simp only[jb,ju,jN]; omega
   ·rw[Nat.zero_mul,jy,List.take_append_of_le_length hoff,List.drop_append_of_le_length hoff2]
    simp
   rw[hc];exact((ra.take off).append rp).append (ra.drop _)
  | succ i=>
   refine⟨hz,a,b.take (i * z+off)++c++b.drop (i * z+off+c.length),?_,ra,rb.over (by simpa using h) rp hle⟩;have e1:(i+1) * z+off=a.length+(i * z+off):=by rw[hl,Nat.add_mul]; omega
   rw[e1,List.take_length_add_append,Nat.add_assoc a.length,List.drop_length_add_append];simp
theorem zrg {α:Type} {cur c:List α} {p m N:Nat} (hp:p+m<=N) (hm:c.length=m) (hN:N<=cur.length):(cur.take p++c++cur.drop (p+m)).take N=(cur.take N).take p++c++(cur.take N).drop (p+m):=by
 have h1:(cur.take p++c).length=p+m:=by simp[ju,hm]; omega
 rw[List.take_append,h1,List.take_of_length_le (by omega),List.take_take,Nat.min_eq_left (by omega),List.drop_take]
section
variable {P:Program} {w:World}
theorem zit {ρ:List Value} {H:PH} {e:TypeId} {z:Nat} {rows:List (List PV)} {b n cap:Nat} (h:qys ρ H w (.slice (some ⟨b,0,none⟩) n cap) (.vec e z rows)) :
  ∃ (cap':Nat) (cur:Array Value) (xs:List Value),n=rows.length/\w.heap[b]? =some (.cells cur e (0,0))/\rows.length<=cap'/\cap'<=maxLen/\cur.size=cap' * z/\cap=cap'/\cur.toList.take (rows.length * z)=xs/\qre H z rows xs/\(∀ u∈xs,u.oneCell'=true)/\∀ o,H b o=none:=by
 obtain⟨xs,ho,hr,h1,hh⟩:=h;rcases ho.2 with ⟨e,_⟩|⟨g,cap',cur,e,_,hg,hn,hm,hs,ht⟩
 ·cases e
 cases e;exact⟨cap,cur,xs,rfl,hg,hn,hm,hs,rfl,ht,hr,h1,hh b rfl⟩
theorem q21 {t:TypeId} {lo:List AObj} {k i off z:Nat} {R:FV->Prop} (h:zc3 P t lo k z i off R) :
  ∃ fv,R fv/\∀ (bs:Base) (ρ:List Value) (H:PH) (w:World) (v:Value),SatW bs ρ H lo w->qch ρ H (.eptr k z i off) v->∃ u,(Instr.loadAt t v).run P w=.ok u w/\qch ρ H fv u:=by
 unfold zc3 at h;have h0:=qdk h; clear h; obtain⟨o,ho,h⟩:=h0;split at h
 ·rename_i e z' rows
  obtain⟨row,⟨rfl,hrow⟩,h⟩:=h;obtain⟨h,hoff⟩:=qkz h;obtain⟨d,ti,hd,hi,h⟩:=qib h;have cells:∀ (bs:Base) (ρ:List Value) (H:PH) (w:World) (v:Value),SatW bs ρ H lo w->qch ρ H (.eptr k z' i off) v ->
    ∃ (b:Nat) (a:List Value),v=.pointer (some ⟨b,i * z'+off,none⟩)/\qdi H row a/\∀ j u,(a.drop off)[j]? =some u->w.cell? ⟨b,i * z'+off+j,none⟩=some u:=by
   intro bs ρ H w v s hx;obtain⟨b,n,cap,hρ,rfl⟩:=hx;obtain⟨cap',cur,xs,rfl,hg,hn,hm,hs,rfl,ht,hr,h1,hh⟩:=zit (s.objs k _ _ ho hρ);obtain⟨a,ra,hc⟩:=hr.get hrow;refine⟨b,a,rfl,ra,fun j u hu=>?_⟩;rw[jE]at hu;have:=hc _ _ hu;rw[← ht,jF]at this;split at this
   ·rw[Nat.add_assoc]
    rw[cell_of_row w b _ _ e _ hg];simpa using this
   cases this
  split at h
  ·rename_i hagg
   obtain⟨h,hn⟩:=qol h;refine⟨_,h,fun bs ρ H w v s hx=>?_⟩;obtain⟨b,a,rfl,ra,hc⟩:=cells bs ρ H w v s hx;refine⟨_,qpq hd hi hc (by have:=ra.length; simp at hn ⊢; omega) hagg,?_⟩;simp only[qch,qco];exact⟨_,rfl,(ra.drop off).take _⟩
  rename_i hagg;split at h
  ·rename_i c r hcr
   refine⟨_,h,fun bs ρ H w v s hx=>?_⟩;obtain⟨b,a,rfl,ra,hc⟩:=cells bs ρ H w v s hx;have rd:=ra.drop off;rw[hcr]at rd;simp only[qdi]at rd;obtain⟨u,us,e,ru,_⟩:=rd;exact⟨u,qk0 hd (by simpa using hc 0 u (by rw[e]; rfl)) hagg,ru⟩
  exact h.elim
 ·rename_i e z' rows j kt
  obtain⟨row,⟨rfl,hrow⟩,h⟩:=h;obtain⟨h,hoff⟩:=qkz h;obtain⟨d,ti,hd,hi,h⟩:=qib h;have cells:∀ (bs:Base) (ρ:List Value) (H:PH) (w:World) (v:Value),SatW bs ρ H lo w->qch ρ H (.eptr k z' i off) v ->
    ∃ (b:Nat) (a:List Value),v=.pointer (some ⟨b,i * z'+off,none⟩)/\qdi H row a/\(∀ j u,(a.drop off)[j]? =some u->w.cell? ⟨b,i * z'+off+j,none⟩=some u)/\(i+1=rows.length->off=j->∀ u,(a.drop off)[0]? =some u->ρ[kt]? =some u):=by
   intro bs ρ H w v s hx;obtain⟨b,n,cap,hρ,rfl⟩:=hx;obtain⟨xs0,hown,hr0,h10,hh0,hl⟩:=s.objs k _ _ ho hρ;obtain⟨cap',cur,xs,rfl,hg,hn,hm,hs,rfl,ht,hr,h1,hh⟩:=zit (ρ:=ρ) (H:=H) ⟨xs0,hown,hr0,h10,hh0⟩;obtain⟨a,ra,hc⟩:=hr.get hrow;have hxx:xs0=xs:=by
    rcases hown.2 with ⟨e',_⟩|⟨g,cap',cur',e',_,hg',_,_,_,ht'⟩
    ·cases e'
    cases e';rw[hg]at hg';cases hg';rw[← ht',← ht]
   subst hxx;refine⟨b,a,rfl,ra,fun j u hu=>?_,fun hi1 hj u hu=>hl u ?_⟩
   ·rw[jE]at hu
    have:=hc _ _ hu;rw[← ht,jF]at this;split at this
    ·rw[Nat.add_assoc]
     rw[cell_of_row w b _ _ e _ hg];simpa using this
    cases this
   ·rw[jE]at hu
    have:=hc _ _ hu;rw[← hj,show rows.length - 1=i by omega];simpa using this
  split at h
  ·rename_i hagg
   obtain⟨h,hn⟩:=qol h;refine⟨_,h,fun bs ρ H w v s hx=>?_⟩;obtain⟨b,a,rfl,ra,hc,_⟩:=cells bs ρ H w v s hx;refine⟨_,qpq hd hi hc (by have:=ra.length; simp at hn ⊢; omega) hagg,?_⟩;simp only[qch,qco];exact⟨_,rfl,(ra.drop off).take _⟩
  rename_i hagg;split at h
  ·rename_i c r hcr
   split at h
   ·rename_i hj
    have hj:=jn hj;obtain⟨hi1,rs,rfl,h⟩:=h;refine⟨_,h,fun bs ρ H w v s hx=>?_⟩;obtain⟨b,a,rfl,ra,hc,hl⟩:=cells bs ρ H w v s hx;have rd:=ra.drop off;rw[hcr]at rd;simp only[qdi]at rd;obtain⟨u,us,e,ru,_⟩:=rd;exact⟨u,qk0 hd (by simpa using hc 0 u (by rw[e]; rfl)) hagg,hl hi1 hj u (by rw[e]; rfl),ru⟩
   refine⟨_,h,fun bs ρ H w v s hx=>?_⟩;obtain⟨b,a,rfl,ra,hc,_⟩:=cells bs ρ H w v s hx;have rd:=ra.drop off;rw[hcr]at rd;simp only[qdi]at rd;obtain⟨u,us,e,ru,_⟩:=rd;exact⟨u,qk0 hd (by simpa using hc 0 u (by rw[e]; rfl)) hagg,ru⟩
  exact h.elim
 ·rename_i l
  have h0:=qib h; clear h; obtain⟨d,ti,hd,hi,h⟩:=h0;split at h
  ·exact h.elim
  rename_i hagg;have h0:=h; clear h; obtain⟨c,⟨rfl,rfl,hc⟩,h⟩:=h0;refine⟨_,h,fun bs ρ H w v s hx=>?_⟩;obtain⟨b,n,cap,hρ,rfl⟩:=hx;obtain⟨b',cs,e',cap',lo',hi',e1,hg,_,h2,_⟩:=s.objs k _ _ ho hρ;cases e1;refine⟨.int .u8 c.toNat,qk0 hd ?_ hagg,by simp[qch,qco]⟩;simp only[World.cell?,hg,Nat.mul_one,Nat.add_zero];exact h2 i c hc
 exact h.elim
theorem zuf {H:PH} {z:Nat}:∀ {rows:List (List PV)} {vals:List Value},rows.length=vals.length->(∀ r∈rows,r.length=z) ->
  (∀ (i:Nat) (r:List PV) (v:Value),rows[i]? =some r->vals[i]? =some v->qdi H r v.cells.toList)->qre H z rows (vals.flatMap (·.cells.toList))
 | [],[],_,_,_=>rfl
 | [],_::_,hl,_,_=>by simp at hl
 | r::rs,[],hl,_,_=>by simp at hl
 | r::rs,v::vals,hl,hz,hr=>⟨hz r (by simp),v.cells.toList,vals.flatMap (·.cells.toList),by rw[List.flatMap_cons],hr 0 r v rfl rfl,
   zuf (by simpa using hl) (fun r hr=>hz r (by simp[hr])) (fun i r' v' h1 h2=>hr (i+1) r' v' (by simpa using h1) (by simpa using h2))⟩
theorem qre.le {H:PH} {z:Nat} {p q:List (List PV)} {vs:List Value} (h:p=q\/zaw p q) (r:qre H z p vs):qre H z q vs:=by
 rcases h with rfl|h
 ·exact r
 have go:∀ {p q:List (List PV)} {vs:List Value},zaw p q->qre H z p vs->qre H z q vs:=by
  intro p
  induction p with
  | nil=>intro q vs h r; cases q with
   | nil=>exact r
   | cons _ _=>simp[zaw]at h
  | cons a l ih=>intro q vs h r; cases q with
   | nil=>simp[zaw]at h
   | cons b m=>
    simp only[zaw]at h;obtain⟨e,x,y,e1,q1,q2⟩:=r;exact⟨by rw[← e,q25 h.1],x,y,e1,q0m h.1 q1,ih h.2 q2⟩
 exact go h r
theorem qym {E:Env} {g:G} {t:TypeId} {n:Nat} {parts:List (Nat×Operand)} {R:FV->Prop} (h:qp0 P E g t n parts R) :
  ∃ e i rows,P.underlying t=some (.slice e)/\P.info? e=some i/\R (.p (.sl rows))/\rows.length=n/\n<=maxLen/\(gOn g->∀ (ρ:List Value) (H:PH) (w:World) (eval:Operand->Value),(∀ x∈parts.map (·.2),qch ρ H (evF (qcc E) x) (eval x)) ->
   ∃ xs:List Value,(Instr.buildSlice t n (parts.map fun(i,x)=>(i,eval x)).toArray).run P w=.ok (.slice (some ⟨w.heap.size,0,none⟩) n n) (w.alloc (.cells xs.toArray e))/\qre H i.size rows xs/\∀ u∈xs,u.oneCell'=true):=by
 unfold qp0 at h;obtain⟨e,i,hu,hi,h⟩:=qme h;split at h
 ·rename_i hn
  have hn:parts.length=n:=jn hn;split at h
  ·rename_i h1n
   split at h
   ·rename_i h1z
    split at h
    case h_2=>exact h.elim
    rename_i hbig;split at h
    case h_2=>exact h.elim
    rename_i i' hi';have:i'=i:=Option.some.inj (hi'.symm.trans hi);subst this;split at h
    case h_2=>exact h.elim
    rename_i zv hzv;obtain⟨ps,h,hpl,hps⟩:=qx4 h;obtain⟨rows,h,hrl,hrows⟩:=q53 h;obtain⟨hok,rows',hle,h⟩:=h;have hrl2:rows'.length=rows.length:=by
     rcases hle with rfl|hle
     ·rfl
     exact(qx2 hle).symm
    have hn24:n<=maxLen:=by
     have a1:=jh hbig;have a2:1<=i'.size:=jh h1z;have a3:n * 1<=n * i'.size:=Nat.mul_le_mul_left n a2;unfold maxLen;omega
    refine⟨e,i',rows',hu,hi,h,by rw[hrl2,hrl,hpl,hn],hn24,fun hg ρ H w eval hx=>?_⟩;obtain⟨vals,ev,rv⟩:=hps hg ρ H eval hx;have hcells:=hrows H vals rv;have hvl:vals.length=n:=by rw[rv.length,hpl,hn]
    have hsz:∀ v∈vals,v.cells.size=i'.size:=by
     intro v hv;obtain⟨j,hj⟩:=List.getElem?_of_mem hv;have hjl:=(jH.1 hj).1;have hrj:j<rows.length:=by rw[hrl,hpl,hn,← hvl]; exact hjl
     have:=(hcells j _ v (jf hrj) hj).length;rw[(hok _ (List.getElem_mem hrj)).1]at this;simpa using this
    obtain⟨cells',ef,hc'⟩:=q32 i'.size n (fun i_1=>some (i_1 * i'.size,i'.size)) (fun j _=>rfl) vals 0 ((Array.range (n * i'.size)).map (zv.cells[· % zv.cells.size]!)) hsz (by omega) (by simp)
    simp only[Nat.zero_mul,List.take_zero,jv]at hc';have hone:∀ u∈cells'.toList,u.oneCell'=true:=by
     rw[hc'];intro u hu';obtain⟨v,hv,huv⟩:=List.mem_flatMap.1 hu';obtain⟨j,hj⟩:=List.getElem?_of_mem hv;have hjl:=(jH.1 hj).1;have hrj:j<rows.length:=by rw[hrl,hpl,hn,← hvl]; exact hjl
     have h1:=hcells j _ v (jf hrj) hj;have h2:=(hok _ (List.getElem_mem hrj)).2;exact qdi.one (fun c hc=>(List.all_eq_true.1 h2) c hc) h1 u huv
    refine⟨cells'.toList,?_,?_,hone⟩
    ·have h0:n * i'.size≠0:=by
      have a1:1<=n:=jh h1n;have a2:1<=i'.size:=jh h1z;exact Nat.mul_ne_zero (by omega) (by omega)
     have hb:¬ 16777216<n * i'.size:=by
      have:=jh hbig;omega
     simp only[Instr.buildSlice,kh,kru hu,kg,Go.sizeOf,typeInfo,run_program,hi,ki];rw[show(2:Nat) ^ 24=16777216 from rfl];simp only[hb,if_false,gt_iff_lt,h0,kh,zeroValue,typeInfo,run_program,hi,hzv,kg,ki];rw[ev,ef];simp[newRow]
    rw[hc'];refine qre.le hle ?_;exact zuf (by rw[hrl,hpl,hn,hvl]) (fun r hr=>(hok r hr).1) hcells
   exact h.elim
  exact h.elim
 exact h.elim
theorem zhj {E:Env} {lo:List AObj} {t:TypeId} {n:Nat} {parts:List (Nat×Operand)} {R:FV->List AObj->Prop} (h:zjq P E lo t n parts R) :
  ∃ fv lo',R fv lo'/\qex true lo lo'/\∀ (bs:Base) (ρ:List Value) (H:PH) (w:World) (eval:Operand->Value),SatW bs ρ H lo w->(∀ x∈parts.map (·.2),qch ρ H (evF (qcc E) x) (eval x)) ->
   ∃ v w',(Instr.buildSlice t n (parts.map fun(i,x)=>(i,eval x)).toArray).run P w=.ok v w'/\qu1 bs ρ H fv lo' v w':=by
 unfold zjq at h;have h0:=qme h; clear h; obtain⟨e,i,hu,hi,h⟩:=h0;have h0:=qym h; clear h; obtain⟨e',i',rows,hu',hi',h,hn,hmax,hs⟩:=h0;have e1:e'=e:=by rw[hu]at hu'; cases hu'; rfl
 subst e1;have e2:i'=i:=Option.some.inj (hi'.symm.trans hi);subst e2;simp only at h;have h:=qe0 h;have h:=qfy h;refine⟨_,_,h,qex.push _,fun bs ρ H w eval s hx=>?_⟩;obtain⟨xs,hr,hv,hone⟩:=hs trivial ρ H w eval hx;refine⟨_,_,hr,ρ++[.slice (some ⟨w.heap.size,0,none⟩) n n],H,List.prefix_append _ _,PH.le.refl H,?_,?_⟩
 ·have hnew:∀ o,H w.heap.size o=none:=fun o=>by
   cases hx:H w.heap.size o with
   | none=>rfl
   | some u=>exact absurd (s.sath.lt hx) (jS _)
  refine s.push (g:=w.heap.size) (.inl rfl) (s.fresh (jx _)) (.inr s.keep.size) (PH.le.refl H) (qw1 s.sath _) (fun b o v h=>.inl ⟨v,h⟩) (qtx w _ _) ?_;refine⟨xs,⟨hv.length,.inr ⟨w.heap.size,n,xs.toArray,by rw[hn],jT _,heap_alloc_new w _,by rw[hn]; exact jx _,hmax,by simp[hv.length,hn],?_⟩⟩,hv,hone,fun b hb=>?_⟩
  ·rw[← hv.length]
   exact List.take_length
  simp[qcj]at hb;subst hb;exact hnew
 exact⟨by simp[← s.hlen],.inr ⟨w.heap.size,n,by rw[hn]⟩⟩
end
theorem zlr {α:Type} {R R':α->Prop} (hr:∀ a,R a->R' a):∀ {n:Nat} {l:List α},qyn n l R->qyn n l R'
 | 0,[],h=>by simp[qyn]at h
 | 0,a::l,h=>hr a h
 | n+1,[],h=>by simp[qyn]at h
 | n+1,a::l,h=>zlr hr (n:=n) (l:=l) h
theorem q9z {α:Type} {R R':List α->Prop} (hr:∀ a,R a->R' a):∀ {n:Nat} {l:List α},qyu n l R->qyu n l R'
 | 0,l,h=>hr l h
 | n+1,[],h=>by simp[qyu]at h
 | n+1,a::l,h=>q9z hr (n:=n) (l:=l) h
theorem ziq {P:Program} {t:TypeId} {R R':Bool->Nat->Prop} (hr:∀ a n,R a n->R' a n) (h:qs6 P t R):qs6 P t R':=by
 unfold qs6 at *;split at h
 ·split at h
  ·exact hr _ _ h
  exact h.elim
 exact h.elim
theorem zhk {P:Program} {g:Bool} {t:TypeId} {lo:List AObj} {k i off z:Nat} {R:FV->Prop} (h:zfm P g t lo k z i off R) :
  ∃ fv,R fv/\(g=true->∀ (bs:Base) (ρ:List Value) (H:PH) (w:World) (v:Value),SatW bs ρ H lo w->qch ρ H (.eptr k z i off) v->∃ u,(Instr.loadAt t v).run P w=.ok u w/\qch ρ H fv u):=by
 cases g with
 | true=>
  have h1:zc3 P t lo k z i off R:=by
   unfold zfm at h;unfold zc3;refine zlr (fun o ho=>?_) h;cases o<;>first|exact False.elim ho|skip
   ·obtain⟨row,hr,hd⟩:=ho
    refine⟨row,hr rfl,q9z (fun cs hc=>ziq (fun a n ha=>?_) hc) hd⟩
    cases a
    ·exact ha
    exact ha.elim
   obtain⟨row,hr,hd⟩:=ho;refine⟨row,hr rfl,q9z (fun cs hc=>ziq (fun a n ha=>?_) hc) hd⟩
   cases a
   ·cases cs with
    | nil=>exact ha
    | cons c cs=>
     cases hb:Nat.beq off _<;>rw[hb]at ha
     ·exact ha
     exact False.elim ha
   exact ha.elim
  obtain⟨fv,hR,hs⟩:=q21 h1;exact⟨fv,hR,fun _=>hs⟩
 | false=>
  suffices hh:∃ fv,R fv by
   obtain⟨fv,hR⟩:=hh;exact⟨fv,hR,fun hg=>by cases hg⟩
  unfold zfm at h;obtain⟨o,_,h⟩:=qdk h;cases o<;>first|exact False.elim h|skip
  ·obtain⟨row,_,hd⟩:=h
   obtain⟨h,_⟩:=qkz hd;obtain⟨d,ti,_,_,h⟩:=qib h;split at h
   ·exact h.elim
   split at h
   ·exact⟨_,h⟩
   exact h.elim
  obtain⟨row,_,hd⟩:=h;obtain⟨h,_⟩:=qkz hd;obtain⟨d,ti,_,_,h⟩:=qib h;split at h
  ·exact h.elim
  split at h
  ·split at h
   ·exact h.elim
   exact⟨_,h⟩
  exact h.elim
end Ax
end
