/- A part of the proof: the abstract execution. -/
import Derived.Still
import Derived.Below
import Derived.Laws.AppendOwnNone
import Derived.MapKept
import Derived.WalkKit
import Derived.Laws.StructEq
import Derived.Laws.IdiomStrings
import Derived.Laws.BytesArg
import Derived.Lib.Builder
import Derived.Carry
set_option linter.unusedVariables false
set_option linter.unusedSimpArgs false
set_option linter.unnecessarySimpa false
set_option linter.deprecated false
set_option linter.unusedSectionVars false
set_option linter.constructorNameAsVariable false
open Go renaming run_underlying->kru
open List renaming length_cons->ja,length_append->jb,getElem?_eq_getElem->jf,mem_cons->jg,map_cons->jk,prefix_refl->jq,append_assoc->js,length_take->jt,nil_append->ju,getElem?_append_left->jB,getElem?_append_right->jC,getElem?_drop->jD,getElem?_take->jE,getElem?_set->jF,getElem?_eq_some_iff->jG,length_drop->jM,map_nil->jN,map_toArray->kb
open Nat renaming le_of_ble_eq_true->jh,eq_of_beq_eq_true->jm,le_refl->jw,zero_add->jx,lt_irrefl->jR,zero_le->jS
open BitVec renaming ofInt->jr
open Array renaming getElem?_eq_some_iff->jH,length_toList->jK
open Go.Result renaming andThen_ok->kc
open Go.Sem renaming run_bind->ke,run_pure->kf
open Go.Op renaming operands->kg
open Go.Call renaming operands->kh
namespace Ax
theorem kbf {A : Type _} [BEq A] [LawfulBEq A] {a b : A} : (a == b) = false ↔ a ≠ b := beq_eq_false_iff_ne
theorem kod {p : Prop} [i : Decidable p] : decide p = true -> p := of_decide_eq_true
theorem kcf {A : Sort _} (a b : A) : (bif false then a else b) = b := rfl
theorem kct {A : Sort _} (a b : A) : (bif true then a else b) = a := rfl
theorem kdt {p : Prop} [i : Decidable p] : p -> decide p = true := decide_eq_true
theorem kdf {p : Prop} [i : Decidable p] : ¬p -> decide p = false := decide_eq_false
theorem kde {p : Prop} [i : Decidable p] : (decide p = true) = p := decide_eq_true_eq
theorem kbs {A : Type _} [BEq A] [ReflBEq A] (a : A) : (a == a) = true := beq_self_eq_true a
end Ax
section
namespace Ax
open Go
inductive PV where
 | bool (b:Bool)|int (k:IntKind) (n:Int)|str (l:List UInt8)
 | agg (cs:List PV)|tup (vs:List PV)|nilsl|sl (rows:List (List PV))
 | nilp|fn (f:FuncId)|nilfn|nili|ifc (t:TypeId) (v:PV)|nilmap|hp (row:List PV)|clo (f:FuncId) (caps:List PV)|bfn (f:FuncId) (bound:List PV)|ifo (n:Bool) (t:TypeId) (v:PV)
inductive FV where
 | top
 | p (v:PV)
 | opt (g:Bool) (v:FV)
 | tsl (k:Nat) (rows:List (List PV))
 | ptr (k off:Nat)
 | hptr (row:List PV)
 | bself (k:Nat)
 | bsl (k off len cap:Nat)
 | vsl (k n:Nat)
 | eptr (k z i off:Nat)
 | mref (k:Nat)
 | pair (a b:FV)
 | stmp (k:Nat)
 | clo (f:FuncId) (c:FV)
 | cap0
 | cap (a b:FV)
 | fagg (c:FV)
 | nxt (ok:Bool) (a b:PV)
 | asl (k off n:Nat)
 | ifs (t:TypeId) (c:FV)
inductive AObj where
 | dead
 | box (t:TypeId) (cells:List FV)
 | tail (e:TypeId) (z n:Nat)
 | vec (e:TypeId) (z:Nat) (rows:List (List PV))
 | mp (d:TypeDesc) (es:List (PV×PV)) (mk:Option (PV×Nat))
 | sit (l:List UInt8) (pos:Nat)
 | bv (l:List UInt8)
 | vl (e:TypeId) (z:Nat) (rows:List (List PV)) (j k:Nat)
 | pbx (t:TypeId) (c:FV)
def AObj.live:AObj->Bool
 | .dead=>false
 | _=>true
abbrev PH:=Nat->Nat->Option Value
def PH.le (H H':PH):Prop:=∀ b o v,H b o=some v->H' b o=some v
theorem PH.le.refl (H:PH):PH.le H H:=fun _ _ _ h=>h
theorem PH.le.trans {a b c:PH} (h:PH.le a b) (d:PH.le b c):PH.le a c:=fun _ _ _ x=>d _ _ _ (h _ _ _ x)
mutual
def qP (H:PH):PV->Value->Prop
 | .bool b,v=>v=.bool b
 | .int k n,v=>v=.int k n
 | .str l,v=>v=.string ⟨l.toArray⟩
 | .agg cs,v=>∃ vs:List Value,v=.agg vs.toArray/\zz H cs vs
 | .tup cs,v=>∃ vs:List Value,v=.tuple vs.toArray/\zz H cs vs
 | .nilsl,v=>v=.slice none 0 0
 | .sl rows,v=>(rows=[]/\(v=.slice none 0 0\/∃ a cap,v=.slice (some a) 0 cap)) \/
   ∃ b o z cap,v=.slice (some ⟨b,o,none⟩) rows.length cap/\rows.length<=cap/\nS H b z o rows
 | .nilp,v=>v=.pointer none
 | .fn f,v=>v=.func (.func f) #[] #[]
 | .nilfn,v=>v=.nilFunc
 | .nili,v=>v=.nilIface
 | .ifc t p,v=>∃ u,v=.iface t u/\qP H p u
 | .nilmap,v=>v=.map none
 | .hp row,v=>∃ b o vs,v=.pointer (some ⟨b,o,none⟩)/\zz H row vs/\∀ j u,vs[j]? =some u->H b (o+j)=some u
 | .clo f cs,v=>∃ vs:List Value,v=.func (.func f) #[] vs.toArray/\zz H cs vs
 | .bfn f cs,v=>∃ vs:List Value,v=.func (.func f) vs.toArray #[]/\zz H cs vs
 | .ifo n t p,v=>(n=true/\v=.nilIface)\/(n=false/\∃ u,v=.iface t u/\qP H p u)
def zz (H:PH):List PV->List Value->Prop
 | [],vs=>vs=[]
 | c::cs,vs=>∃ v vs',vs=v::vs'/\qP H c v/\zz H cs vs'
def nS (H:PH) (b z:Nat):Nat->List (List PV)->Prop
 | _,[]=>True
 | o,r::rs=>r.length=z/\(∃ vs,zz H r vs/\∀ j v,vs[j]? =some v->H b (o+j)=some v)/\nS H b z (o+z) rs
end
mutual
theorem qP.mono {H H':PH} (h:PH.le H H'):∀ {p:PV} {v:Value},qP H p v->qP H' p v
 | .bool _,_,x|.int ..,_,x|.str _,_,x|.nilsl,_,x|.nilp,_,x|.fn _,_,x|.nilfn,_,x|.nili,_,x|.nilmap,_,x=>by
  simp only[qP]at *; exact x
 | .agg cs,v,x=>by
  simp only[qP]at *;obtain⟨vs,e,r⟩:=x;exact⟨vs,e,zz.mono h r⟩
 | .tup cs,v,x=>by
  simp only[qP]at *;obtain⟨vs,e,r⟩:=x;exact⟨vs,e,zz.mono h r⟩
 | .sl rows,v,x=>by
  simp only[qP]at *;rcases x with x|⟨b,o,z,cap,e,l,r⟩
  ·exact .inl x
  exact .inr ⟨b,o,z,cap,e,l,nS.mono h r⟩
 | .ifc t p,v,x=>by
  simp only[qP]at *;obtain⟨u,e,r⟩:=x;exact⟨u,e,qP.mono h r⟩
 | .hp row,v,x=>by
  simp only[qP]at *;obtain⟨b,o,vs,e,r,c⟩:=x;exact⟨b,o,vs,e,zz.mono h r,fun j u hu=>h _ _ _ (c j u hu)⟩
 | .clo f cs,v,x=>by
  simp only[qP]at *;obtain⟨vs,e,r⟩:=x;exact⟨vs,e,zz.mono h r⟩
 | .bfn f cs,v,x=>by
  simp only[qP]at *;obtain⟨vs,e,r⟩:=x;exact⟨vs,e,zz.mono h r⟩
 | .ifo n t p,v,x=>by
  simp only[qP]at *;rcases x with x|⟨e,u,e',r⟩
  ·exact .inl x
  exact .inr ⟨e,u,e',qP.mono h r⟩
theorem zz.mono {H H':PH} (h:PH.le H H'):∀ {cs:List PV} {vs:List Value},zz H cs vs->zz H' cs vs
 | [],_,x=>by simp only[zz]at *; exact x
 | c::cs,vs,x=>by
  simp only[zz]at *;obtain⟨v,vs',e,r,rs⟩:=x;exact⟨v,vs',e,qP.mono h r,zz.mono h rs⟩
theorem nS.mono {H H':PH} (h:PH.le H H') {b z:Nat}:∀ {o:Nat} {rows:List (List PV)},nS H b z o rows->nS H' b z o rows
 | _,[],_=>by simp only[nS]
 | o,r::rs,x=>by
  simp only[nS]at *;obtain⟨e,⟨vs,q,c⟩,x'⟩:=x;exact⟨e,⟨vs,zz.mono h q,fun j v hv=>h _ _ _ (c j v hv)⟩,nS.mono h x'⟩
end
theorem zz.length {H:PH}:∀ {cs:List PV} {vs:List Value},zz H cs vs->vs.length=cs.length
 | [],vs,x=>by simp only[zz]at x; simp[x]
 | c::cs,vs,x=>by
  simp only[zz]at x;obtain⟨v,a,e,_,rs⟩:=x;simp[e,zz.length rs]
theorem zz.get {H:PH}:∀ {cs:List PV} {vs:List Value} {i:Nat} {c:PV},zz H cs vs->cs[i]? =some c->∃ v,vs[i]? =some v/\qP H c v
 | [],_,_,_,_,h=>by simp at h
 | c::cs,vs,i,c',x,h=>by
  simp only[zz]at x;obtain⟨v,a,e,r,rs⟩:=x;subst e;cases i with
  | zero=>simp at h; subst h; exact⟨v,by simp,r⟩
  | succ i=>simp at h; obtain⟨u,hu,b⟩:=rs.get h; exact⟨u,by simpa using hu,b⟩
theorem zz.drop {H:PH}:∀ {cs:List PV} {vs:List Value} (n:Nat),zz H cs vs->zz H (cs.drop n) (vs.drop n)
 | _,_,0,x=>by simpa using x
 | [],vs,n+1,x=>by simp only[zz]at x; simp[x,zz]
 | c::cs,vs,n+1,x=>by
  simp only[zz]at x;obtain⟨v,a,e,r,rs⟩:=x;subst e;simpa using rs.drop n
theorem zz.take {H:PH}:∀ {cs:List PV} {vs:List Value} (n:Nat),zz H cs vs->zz H (cs.take n) (vs.take n)
 | _,_,0,x=>by simp[zz]
 | [],vs,n+1,x=>by simp only[zz]at x; simp[x,zz]
 | c::cs,vs,n+1,x=>by
  simp only[zz]at x;obtain⟨v,a,e,r,rs⟩:=x;subst e;simp only[List.take_succ_cons,zz];exact⟨v,_,rfl,r,rs.take n⟩
theorem zz.append {H:PH}:∀ {cs a:List PV} {vs us:List Value},zz H cs vs->zz H a us->zz H (cs++a) (vs++us)
 | [],_,vs,_,x,y=>by simp only[zz]at x; simpa[x]using y
 | c::cs,a,vs,us,x,y=>by
  simp only[zz]at x;obtain⟨v,b,e,r,rs⟩:=x;subst e;simp only[List.cons_append,zz];exact⟨v,_,rfl,r,rs.append y⟩
theorem nS.get {H:PH} {b z:Nat}:∀ {o:Nat} {rows:List (List PV)} {i:Nat} {r:List PV},nS H b z o rows->rows[i]? =some r ->
  r.length=z/\∃ vs,zz H r vs/\∀ j v,vs[j]? =some v->H b (o+i * z+j)=some v
 | _,[],_,_,_,h=>by simp at h
 | o,q::rs,i,r,x,h=>by
  simp only[nS]at x;obtain⟨e,c,x'⟩:=x;cases i with
  | zero=>simp at h; subst h; simpa using⟨e,c⟩
  | succ i=>
   simp at h;have:=x'.get h;have e2:o+z+i * z=o+(i+1) * z:=by rw[Nat.add_mul]; omega
   rwa [e2]at this
theorem nS.drop {H:PH} {b z:Nat}:∀ {o:Nat} {rows:List (List PV)} (i:Nat),nS H b z o rows->nS H b z (o+i * z) (rows.drop i)
 | _,_,0,x=>by simpa using x
 | _,[],_+1,_=>by simp[nS]
 | o,q::rs,i+1,x=>by
  simp only[nS]at x;have:=x.2.2.drop i;have e2:o+z+i * z=o+(i+1) * z:=by rw[Nat.add_mul]; omega
  rw[e2]at this;simpa using this
theorem nS.take {H:PH} {b z:Nat}:∀ {o:Nat} {rows:List (List PV)} (i:Nat),nS H b z o rows->nS H b z o (rows.take i)
 | _,_,0,_=>by simp[nS]
 | _,[],_+1,_=>by simp[nS]
 | o,q::rs,i+1,x=>by
  simp only[nS,List.take_succ_cons]at x ⊢;exact⟨x.1,x.2.1,x.2.2.take i⟩
mutual
def nle:PV->PV->Prop
 | .nilsl,.sl rows=>rows=[]
 | .agg a,.agg b=>Pe a b
 | .tup a,.tup b=>Pe a b
 | .hp a,.hp b=>Pe a b
 | .clo f a,.clo g b=>f=g/\Pe a b
 | .fn f,.clo g b=>f=g/\b=[]
 | .nili,.ifo n _ _=>n=true
 | .ifc t p,.ifo n t' q=>n=false/\t=t'/\nle p q
 | a,b=>a=b
def Pe:List PV->List PV->Prop
 | [],[]=>True
 | a::l,b::m=>nle a b/\Pe l m
 | _,_=>False
end
mutual
theorem GM {H:PH}:∀ {p q:PV} {v:Value},nle p q->qP H p v->qP H q v
 | .nilsl,q,v,h,r=>by
  cases q<;>simp only[nle]at h<;>first|(subst h; simp only[qP]at *; exact .inl ⟨trivial,.inl r⟩)|exact r|cases h
 | .agg a,q,v,h,r=>by
  cases q<;>simp only[nle]at h<;>try cases h
  simp only[qP]at *;obtain⟨vs,e,rr⟩:=r;exact⟨vs,e,tp h rr⟩
 | .tup a,q,v,h,r=>by
  cases q<;>simp only[nle]at h<;>try cases h
  simp only[qP]at *;obtain⟨vs,e,rr⟩:=r;exact⟨vs,e,tp h rr⟩
 | .hp a,q,v,h,r=>by
  cases q with
  | hp b'=>
   simp only[nle]at h;simp only[qP]at *;obtain⟨b,o,vs,e,rr,c⟩:=r;exact⟨b,o,vs,e,tp h rr,c⟩
  | _=>simp only[nle]at h; cases h
 | .clo f a,q,v,h,r=>by
  cases q with
  | clo g b=>
   simp only[nle]at h;obtain⟨rfl,h⟩:=h;simp only[qP]at *;obtain⟨vs,e,rr⟩:=r;exact⟨vs,e,tp h rr⟩
  | _=>simp only[nle]at h; cases h
 | .fn f,q,v,h,r=>by
  cases q with
  | clo g b=>
   simp only[nle]at h;obtain⟨rfl,rfl⟩:=h;simp only[qP]at *;exact⟨[],r,by simp only[zz]⟩
  | fn g=>simp only[nle]at h; cases h; exact r
  | _=>simp only[nle]at h; cases h
 | .bool _,q,v,h,r|.int ..,q,v,h,r|.str _,q,v,h,r|.sl _,q,v,h,r|.nilp,q,v,h,r|.nilfn,q,v,h,r|.nilmap,q,v,h,r|.bfn ..,q,v,h,r|.ifo ..,q,v,h,r=>by
  cases q<;>simp only[nle]at h<;>cases h<;>exact r
 | .nili,q,v,h,r=>by
  cases q with
  | ifo n t q=>
   simp only[nle]at h;simp only[qP]at *;exact .inl ⟨h,r⟩
  | nili=>exact r
  | _=>simp only[nle]at h; cases h
 | .ifc t p,q,v,h,r=>by
  cases q with
  | ifo n t' q=>
   simp only[nle]at h;obtain⟨h1,rfl,h3⟩:=h;simp only[qP]at *;obtain⟨u,e,ru⟩:=r;exact .inr ⟨h1,u,e,GM h3 ru⟩
  | ifc t' q=>simp only[nle]at h; cases h; exact r
  | _=>simp only[nle]at h; cases h
theorem tp {H:PH}:∀ {p q:List PV} {v:List Value},Pe p q->zz H p v->zz H q v
 | [],[],_,_,r=>r
 | [],_::_,_,h,_=>by simp[Pe]at h
 | _::_,[],_,h,_=>by simp[Pe]at h
 | a::l,b::m,vs,h,r=>by
  simp only[Pe]at h;simp only[zz]at *;obtain⟨v,vs',e,r1,r2⟩:=r;exact⟨v,vs',e,GM h.1 r1,tp h.2 r2⟩
end
def Cn:List (List PV)->List (List PV)->Prop
 | [],[]=>True
 | a::l,b::m=>Pe a b/\Cn l m
 | _,_=>False
theorem Ud:∀ {p q:List PV},Pe p q->p.length=q.length
 | [],[],_=>rfl
 | [],_::_,h=>by simp[Pe]at h
 | _::_,[],h=>by simp[Pe]at h
 | a::l,b::m,h=>by simp only[Pe]at h; simp[Ud h.2]
theorem mR:∀ {p q:List (List PV)},Cn p q->p.length=q.length
 | [],[],_=>rfl
 | [],_::_,h=>by simp[Cn]at h
 | _::_,[],h=>by simp[Cn]at h
 | a::l,b::m,h=>by simp only[Cn]at h; simp[mR h.2]
theorem Sk {H:PH} {b z:Nat}:∀ {o:Nat} {p q:List (List PV)},Cn p q->nS H b z o p->nS H b z o q
 | _,[],[],_,_=>by simp only[nS]
 | _,[],_::_,h,_=>by simp[Cn]at h
 | _,_::_,[],h,_=>by simp[Cn]at h
 | o,r::rs,s::ss,h,x=>by
  simp only[Cn]at h;simp only[nS]at *;obtain⟨e,⟨vs,q,c⟩,x'⟩:=x;exact⟨by rw[← e,Ud h.1],⟨vs,tp h.1 q,c⟩,Sk h.2 x'⟩
theorem qf0 {H:PH} {p q:List (List PV)} {v:Value} (h:p=q\/Cn p q) (r:qP H (.sl p) v):qP H (.sl q) v:=by
 rcases h with rfl|h
 ·exact r
 simp only[qP]at *;rcases r with ⟨rfl,r⟩|⟨b,o,z,cap,e,l,r⟩
 ·cases q with
  | nil=>exact .inl ⟨rfl,r⟩
  | cons _ _=>simp[Cn]at h
 ·have e2:=mR h
  exact .inr ⟨b,o,z,cap,by rw[← e2]; exact e,by rw[← e2]; exact l,Sk h r⟩
def qR (ρ:List Value) (H:PH):FV->Value->Prop
 | .top,_=>True
 | .p p,x=>qP H p x
 | .opt g v,x=>if g=true then qR ρ H v x else x=undef
 | .tsl k rows,x=>ρ[k]? =some x/\qP H (.sl rows) x
 | .ptr k off,x=>∃ b,ρ[k]? =some (.pointer (some ⟨b,0,none⟩))/\x=.pointer (some ⟨b,off,none⟩)
 | .hptr row,x=>∃ b o vs,x=.pointer (some ⟨b,o,none⟩)/\zz H row vs/\∀ j v,vs[j]? =some v->H b (o+j)=some v
 | .bself k,x=>∃ b,ρ[k]? =some (.pointer (some ⟨b,0,none⟩))/\(x=.pointer none\/x=.pointer (some ⟨b,0,none⟩))
 | .bsl k off len cap,x=>∃ b,ρ[k]? =some (.pointer (some ⟨b,0,none⟩))/\∃ c,x=.slice (some ⟨b,off,none⟩) len c/\(cap=0\/c=cap)
 | .vsl k n,x=>ρ[k]? =some x/\((n=0/\x=.slice none 0 0)\/∃ b cap,x=.slice (some ⟨b,0,none⟩) n cap)
 | .eptr k z i off,x=>∃ b n cap,ρ[k]? =some (.slice (some ⟨b,0,none⟩) n cap)/\x=.pointer (some ⟨b,i * z+off,none⟩)
 | .mref k,x=>∃ b,ρ[k]? =some (.map (some b))/\x=.map (some b)
 | .pair a b,x=>∃ u v,x=.tuple #[u,v]/\qR ρ H a u/\qR ρ H b v
 | .stmp k,x=>ρ[k]? =some x
 | .clo f c,x=>∃ vs:List Value,x=.func (.func f) #[] vs.toArray/\qR ρ H c (.tuple vs.toArray)
 | .cap0,x=>x=.tuple #[]
 | .cap a b,x=>∃ (u:Value) (vs:List Value),x=.tuple (u::vs).toArray/\qR ρ H a u/\qR ρ H b (.tuple vs.toArray)
 | .fagg c,x=>∃ vs:List Value,x=.agg vs.toArray/\qR ρ H c (.tuple vs.toArray)
 | .nxt ok a b,x=>if ok=true then ∃ u v,x=.tuple #[.bool true,u,v]/\qP H a u/\qP H b v else x=.tuple #[.bool false]
 | .asl k off n,x=>∃ b e d c,ρ[k]? =some (.slice (some ⟨b,0,none⟩) e d)/\x=.slice (some ⟨b,off,none⟩) n c
 | .ifs t c,x=>∃ u,x=.iface t u/\qR ρ H c u
theorem qR.mono {ρ ρ':List Value} {H H':PH} (d:ρ <+: ρ') (h:PH.le H H'):∀ {f:FV} {x:Value},qR ρ H f x->qR ρ' H' f x
 | .top,_,_=>trivial
 | .p p,x,r=>qP.mono h (p:=p) r
 | .opt g v,x,r=>by
  simp only[qR]at *;split
  ·rename_i B; simp only[B,if_true]at r; exact qR.mono d h r
  rename_i B; simpa[B]using r
 | .tsl k rows,x,r=>by
  obtain⟨l,rfl⟩:=d;refine⟨?_,qP.mono h r.2⟩;rw[jB (jG.1 r.1).1]; exact r.1
 | .ptr k off,x,r=>by
  obtain⟨l,rfl⟩:=d;obtain⟨b,e,m⟩:=r;refine⟨b,?_,m⟩;rw[jB (jG.1 e).1]; exact e
 | .hptr row,x,r=>by
  obtain⟨b,o,vs,e,q,c⟩:=r;exact⟨b,o,vs,e,zz.mono h q,fun j v C=>h _ _ _ (c j v C)⟩
 | .bself k,x,r=>by
  obtain⟨l,rfl⟩:=d;obtain⟨b,e,m⟩:=r;refine⟨b,?_,m⟩;rw[jB (jG.1 e).1]; exact e
 | .bsl k off len cap,x,r=>by
  obtain⟨l,rfl⟩:=d;obtain⟨b,e,m⟩:=r;refine⟨b,?_,m⟩;rw[jB (jG.1 e).1]; exact e
 | .vsl k n,x,r=>by
  obtain⟨l,rfl⟩:=d;refine⟨?_,r.2⟩;rw[jB (jG.1 r.1).1]; exact r.1
 | .eptr k z i off,x,r=>by
  obtain⟨l,rfl⟩:=d;obtain⟨b,n,cap,e,m⟩:=r;refine⟨b,n,cap,?_,m⟩;rw[jB (jG.1 e).1]; exact e
 | .mref k,x,r=>by
  obtain⟨l,rfl⟩:=d;obtain⟨b,e,m⟩:=r;refine⟨b,?_,m⟩;rw[jB (jG.1 e).1]; exact e
 | .pair a b,x,r=>by
  obtain⟨u,v,e,w,y⟩:=r;exact⟨u,v,e,w.mono d h,y.mono d h⟩
 | .stmp k,x,r=>by
  obtain⟨l,rfl⟩:=d;simp only[qR]at *;rw[jB (jG.1 r).1]; exact r
 | .clo f c,x,r=>by
  obtain⟨vs,e,rc⟩:=r;exact⟨vs,e,rc.mono d h⟩
 | .cap0,x,r=>r
 | .cap a b,x,r=>by
  obtain⟨u,vs,e,w,y⟩:=r;exact⟨u,vs,e,w.mono d h,y.mono d h⟩
 | .fagg c,x,r=>by
  obtain⟨vs,e,rc⟩:=r;exact⟨vs,e,rc.mono d h⟩
 | .nxt ok a b,x,r=>by
  simp only[qR]at *;split
  ·rename_i s
   simp only[s,if_true]at r;obtain⟨u,v,e,w,y⟩:=r;exact⟨u,v,e,w.mono h,y.mono h⟩
  rename_i s; simpa[s]using r
 | .asl k off n,x,r=>by
  obtain⟨l,rfl⟩:=d;obtain⟨b,D,A,c,e,m⟩:=r;refine⟨b,D,A,c,?_,m⟩;rw[jB (jG.1 e).1]; exact e
 | .ifs t c,x,r=>by
  obtain⟨u,e,rc⟩:=r;exact⟨u,e,rc.mono d h⟩
def zZ (ρ:List Value) (H:PH):List FV->List Value->Prop
 | [],vs=>vs=[]
 | c::cs,vs=>∃ v a,vs=v::a/\qR ρ H c v/\zZ ρ H cs a
theorem zZ.mono {ρ ρ':List Value} {H H':PH} (b:ρ <+: ρ') (h:PH.le H H'):∀ {cs:List FV} {vs:List Value},zZ ρ H cs vs->zZ ρ' H' cs vs
 | [],_,x=>x
 | c::cs,vs,x=>by
  obtain⟨v,a,e,r,rs⟩:=x;exact⟨v,a,e,r.mono b h,rs.mono b h⟩
theorem zZ.length {ρ:List Value} {H:PH}:∀ {cs:List FV} {vs:List Value},zZ ρ H cs vs->vs.length=cs.length
 | [],vs,x=>by simp only[zZ]at x; simp[x]
 | c::cs,vs,x=>by
  obtain⟨v,a,e,_,rs⟩:=x;simp[e,zZ.length rs]
theorem zZ.drop {ρ:List Value} {H:PH}:∀ {cs:List FV} {vs:List Value} (n:Nat),zZ ρ H cs vs->zZ ρ H (cs.drop n) (vs.drop n)
 | _,_,0,x=>by simpa using x
 | [],vs,n+1,x=>by simp only[zZ]at x; simp[x,zZ]
 | c::cs,vs,n+1,x=>by
  obtain⟨v,a,e,r,rs⟩:=x;subst e;simpa using rs.drop n
theorem zZ.take {ρ:List Value} {H:PH}:∀ {cs:List FV} {vs:List Value} (n:Nat),zZ ρ H cs vs->zZ ρ H (cs.take n) (vs.take n)
 | _,_,0,x=>by simp[zZ]
 | [],vs,n+1,x=>by simp only[zZ]at x; simp[x,zZ]
 | c::cs,vs,n+1,x=>by
  obtain⟨v,a,e,r,rs⟩:=x;subst e;simp only[List.take_succ_cons,zZ];exact⟨v,_,rfl,r,rs.take n⟩
theorem zZ.of_RepL {ρ:List Value} {H:PH}:∀ {cs:List PV} {vs:List Value},zz H cs vs->zZ ρ H (cs.map .p) vs
 | [],_,x=>by simp only[zz]at x; simpa[zZ]using x
 | c::cs,vs,x=>by
  simp only[zz]at x;obtain⟨v,a,e,r,rs⟩:=x;exact⟨v,a,e,r,zZ.of_RepL rs⟩
def RG (H:PH):Prop:=∃ m,H 0 0=some (.int .i64 m)
structure SatH (H:PH) (w:World):Prop where
 cell:∀ b o v,H b o=some v->w.cell? ⟨b,o,none⟩=some v/\v.oneCell'=true
 root:RG H
instance {H:PH} {w:World}:CoeFun (SatH H w) (fun _=>∀ b o v,H b o=some v->w.cell? ⟨b,o,none⟩=some v/\v.oneCell'=true):=⟨SatH.cell⟩
theorem RG.mono {H H':PH} (h:RG H) (a:∀ b o v,H b o=some v->H' b o=some v):RG H':=let ⟨m,hm⟩:=h; ⟨m,a _ _ _ hm⟩
structure Keep (S:Nat->Prop) (w0 w:World):Prop where
 os:w.os=w0.os
 tape:w.tape=w0.tape
 output:w.output=w0.output
 size:w0.heap.size<=w.heap.size
 block:∀ k,k<w0.heap.size->¬ S k->w.heap[k]? =w0.heap[k]?
theorem Keep.refl (S:Nat->Prop) (w:World):Keep S w w:=⟨rfl,rfl,rfl,jw _,fun _ _ _=>rfl⟩
theorem Keep.trans {S:Nat->Prop} {a b c:World} (h:Keep S a b) (k:Keep S b c):Keep S a c:=
 ⟨k.os.trans h.os,k.tape.trans h.tape,k.output.trans h.output,Nat.le_trans h.size k.size,
  fun i d e=>(k.block i (Nat.lt_of_lt_of_le d h.size) e).trans (h.block i d e)⟩
theorem Keep.step {S S':Nat->Prop} {a b c:World} (h:Keep S a b) (k:Keep S' b c) (f:∀ i,S' i->S i\/a.heap.size<=i):Keep S a c:=
 ⟨k.os.trans h.os,k.tape.trans h.tape,k.output.trans h.output,Nat.le_trans h.size k.size,
  fun i d e=>(k.block i (Nat.lt_of_lt_of_le d h.size) (fun x=>(f i x).elim e (by omega))).trans (h.block i d e)⟩
abbrev RF:Nat->Prop:=fun _=>False
structure Base where
 S:Nat->Prop
 w0:World
 H0:PH
 r0:List Value
def qZ:Value->Option Nat
 | .pointer (some a)=>some a.block
 | .slice (some a) _ _=>some a.block
 | .map r=>r
 | _=>none
def cP (H:PH) (z:Nat):List (List PV)->List Value->Prop
 | [],vs=>vs=[]
 | r::rs,vs=>r.length=z/\∃ a b,vs=a++b/\zz H r a/\cP H z rs b
theorem cP.mono {H H':PH} (h:PH.le H H') {z:Nat}:∀ {rows:List (List PV)} {vs:List Value},cP H z rows vs->cP H' z rows vs
 | [],_,x=>x
 | r::rs,vs,x=>by
  obtain⟨hz,a,b,e,q,y⟩:=x;exact⟨hz,a,b,e,zz.mono h q,y.mono h⟩
def Lj (H:PH):List (PV×PV)->List MapEntry->Prop
 | [],l=>l=[]
 | (k,p)::es,l=>∃ e a,l=e::a/\qP H k e.key/\qP H p e.val/\Lj H es a
theorem Lj.mono {H H':PH} (h:PH.le H H'):∀ {es:List (PV×PV)} {l:List MapEntry},Lj H es l->Lj H' es l
 | [],_,x=>x
 | (k,p)::es,l,x=>by
  obtain⟨e,a,b,c,d,f⟩:=x;exact⟨e,a,b,qP.mono h c,qP.mono h d,f.mono h⟩
def RE (ρ:List Value) (H:PH) (ents:Array MapEntry) (mk:Option (PV×Nat)):Prop:=
 ∀ key s,mk=some (key,s)->∃ (j:Nat) (e:MapEntry),ents[j]? =some e/\qP H key e.key/\ρ[s]? =some (.int .i64 e.born)
theorem RE.mono {ρ ρ':List Value} {H H':PH} {ents:Array MapEntry} {mk:Option (PV×Nat)} (b:ρ <+: ρ') (h:PH.le H H') (m:RE ρ H ents mk):RE ρ' H' ents mk:=fun key s e=>by
 obtain⟨j,x,c,d,a⟩:=m key s e;obtain⟨l,rfl⟩:=b;exact⟨j,x,c,qP.mono h d,by rw[jB (jG.1 a).1]; exact a⟩
def ZK (ρ:List Value) (H:PH) (w:World) (v:Value):AObj->Prop
 | .dead=>True
 | .box t cells=>∃ b vs,v=.pointer (some ⟨b,0,none⟩)/\w.heap[b]? =some (.cells vs.toArray t (0,0))/\zZ ρ H cells vs/\∀ o,H b o=none
 | .tail e z n=>∃ xs,w.ownsRow 0 e z v n xs/\∀ b,qZ v=some b->(∀ j u,xs[j]? =some u->H b j=some u)/\∀ o,n * z<=o->H b o=none
 | .vec e z rows=>∃ xs,w.ownsRow 0 e z v rows.length xs/\cP H z rows xs/\(∀ u∈xs,u.oneCell'=true)/\∀ b,qZ v=some b->∀ o,H b o=none
 | .mp d es mk=>∃ b ents clock,v=.map (some b)/\w.heap[b]? =some (.map ents clock)/\Lj H es ents.toList/\(MapKept.Stamped ents clock/\(∀ x∈ents.toList,MapKept.IsKey d x.key)/\RE ρ H ents mk)/\∀ o,H b o=none
 | .sit l pos=>∃ b,v=.pointer (some ⟨b,0,none⟩)/\w.heap[b]? =some (.stringIter ⟨l.toArray⟩ pos)/\∀ o,H b o=none
 | .bv l=>∃ b cs e cap lo a,v=.slice (some ⟨b,0,none⟩) l.length cap/\w.heap[b]? =some (.cells cs e (lo,a))/\(l.length<=lo\/a<=lo)/\(∀ (j:Nat) (c:UInt8),l[j]? =some c->cs[j]? =some (.int .u8 c.toNat))/\∀ o,H b o=none
 | .vl e z rows j k=>∃ xs,w.ownsRow 0 e z v rows.length xs/\cP H z rows xs/\(∀ u∈xs,u.oneCell'=true)/\(∀ b,qZ v=some b->∀ o,H b o=none)/\∀ u,xs[(rows.length - 1) * z+j]? =some u->ρ[k]? =some u
 | .pbx t c=>∃ b u us,v=.pointer (some ⟨b,0,none⟩)/\w.heap[b]? =some (.cells (u::us).toArray t (0,0))/\qR ρ H c u/\∀ o,H b o=none
structure SatW (bs:Base) (ρ:List Value) (H:PH) (lo:List AObj) (w:World):Prop where
 sath:SatH H w
 hlen:ρ.length=lo.length
 pre:bs.r0 <+: ρ
 objs:∀ (k:Nat) (o:AObj) (v:Value),lo[k]? =some o->ρ[k]? =some v->ZK ρ H w v o
 excl:∀ (k k':Nat) (o o':AObj) (v v':Value) (b:Nat),lo[k]? =some o->lo[k']? =some o'->ρ[k]? =some v->ρ[k']? =some v'->k≠k' ->
  o.live=true->o'.live=true->qZ v=some b->qZ v'≠some b
 own:∀ (k:Nat) (o:AObj) (v:Value) (b:Nat),lo[k]? =some o->ρ[k]? =some v->o.live=true->qZ v=some b->bs.S b\/bs.w0.heap.size<=b
 keep:Keep bs.S bs.w0 w
 leH:PH.le bs.H0 H
 newH:∀ b o v,H b o=some v->(∃ v,bs.H0 b o=some v)\/bs.S b\/bs.w0.heap.size<=b
structure Sat (bs:Base) (N:Nat) (ρ:List Value) (H:PH) (e:Nat->FV) (lo:List AObj) (a:Act) (w:World):Prop extends SatW bs ρ H lo w where
 slots:∀ t,qR ρ H (e t) (a.tmps.getD t undef)
 width:a.tmps.size=N
 defers:a.defers=[]
structure Calm (H:PH) (w:World) (H':PH) (w':World):Prop where
 le:PH.le H H'
 sat:SatH H' w'
 keep:Keep RF w w'
 new:∀ b o v,H' b o=some v->(∃ v,H b o=some v)\/w.heap.size<=b
theorem Calm.refl {H:PH} {w:World} (h:SatH H w):Calm H w H w:=⟨PH.le.refl H,h,Keep.refl _ w,fun _ _ v h=>.inl ⟨v,h⟩⟩
theorem Calm.trans {H H' a:PH} {w w' c:World} (h:Calm H w H' w') (k:Calm H' w' a c):Calm H w a c:=
 ⟨h.le.trans k.le,k.sat,h.keep.trans k.keep,fun b o v e=>by
  rcases k.new b o v e with ⟨v',d⟩|f
  ·exact h.new b o v' d
  exact .inr (Nat.le_trans h.keep.size f)⟩
theorem SatH.block {H:PH} {w w':World} (h:SatH H w) (e:∀ b o v,H b o=some v->w'.heap[b]? =w.heap[b]?):SatH H w':=⟨fun b o v c=>by
 rw[World.cell?_of_block (w:=w) (a:=⟨b,o,none⟩) (e b o v c)]; exact h.cell b o v c,h.root⟩
theorem SatH.lt {H:PH} {w:World} (h:SatH H w) {b o:Nat} {v:Value} (a:H b o=some v):b<w.heap.size:=
 World.block_lt_of_cell? w ⟨b,o,none⟩ (h.cell b o v a).1
theorem xU {w:World} {b:Nat} {o:Obj} (h:w.heap[b]? =some o):b<w.heap.size:=(jH.1 h).1
theorem Zu {w w':World} {e:TypeId} {z n:Nat} {v:Value} {xs:List Value} (h:w.ownsRow 0 e z v n xs)
  (d:∀ b,qZ v=some b->b<w.heap.size->w'.heap[b]? =w.heap[b]?):w'.ownsRow 0 e z v n xs:=by
 refine⟨h.1,?_⟩;rcases h.2 with h2|⟨g,cap,cur,a,f,c,r⟩
 ·exact .inl h2
 refine .inr ⟨g,cap,cur,a,f,?_,r⟩;rw[d g (by simp[a,qZ]) (xU c)]; exact c
theorem ZK.keep {ρ ρ':List Value} {H H':PH} {w w':World} {v:Value} {o:AObj} (h:ZK ρ H w v o) (y:ρ <+: ρ') (x:PH.le H H')
  (q:∀ b,qZ v=some b->b<w.heap.size->w'.heap[b]? =w.heap[b]?) (r:∀ b o',qZ v=some b->b<w.heap.size->H b o'=none->H' b o'=none) :
  ZK ρ' H' w' v o:=by
 cases o with
 | dead=>trivial
 | box t cells=>
  obtain⟨b,vs,rfl,f,A,m⟩:=h;have a:=xU f;exact⟨b,vs,rfl,by rw[q b (by simp[qZ]) a]; exact f,A.mono y x,fun o=>r b o (by simp[qZ]) a (m o)⟩
 | tail e z n=>
  obtain⟨xs,s,m⟩:=h;refine⟨xs,Zu s q,fun b i=>⟨fun j u hu=>x _ _ _ ((m b i).1 j u hu),fun o B=>?_⟩⟩
  have a:b<w.heap.size:=by
   rcases s.2 with ⟨rfl,_⟩|⟨g,cap,cur,rfl,_,f,_⟩
   ·simp[qZ]at i
   simp[qZ]at i; subst i; exact xU f
  exact r b o i a ((m b i).2 o B)
 | vec e z rows=>
  obtain⟨xs,s,p,h1,m⟩:=h;refine⟨xs,Zu s q,p.mono x,h1,fun b i o=>?_⟩;have a:b<w.heap.size:=by
   rcases s.2 with ⟨rfl,_⟩|⟨g,cap,cur,rfl,_,f,_⟩
   ·simp[qZ]at i
   simp[qZ]at i; subst i; exact xU f
  exact r b o i a (m b i o)
 | mp d es mk=>
  obtain⟨b,ents,clock,rfl,f,p,⟨h1,h2,h3⟩,m⟩:=h;have a:=xU f;exact⟨b,ents,clock,rfl,by rw[q b (by simp[qZ]) a]; exact f,p.mono x,⟨h1,h2,h3.mono y x⟩,fun o=>r b o (by simp[qZ]) a (m o)⟩
 | sit l pos=>
  obtain⟨b,rfl,f,m⟩:=h;have a:=xU f;exact⟨b,rfl,by rw[q b (by simp[qZ]) a]; exact f,fun o=>r b o (by simp[qZ]) a (m o)⟩
 | bv l=>
  obtain⟨b,cs,e,cap,lo,C,rfl,f,h1,h2,m⟩:=h;have a:=xU f;exact⟨b,cs,e,cap,lo,C,rfl,by rw[q b (by simp[qZ]) a]; exact f,h1,h2,fun o=>r b o (by simp[qZ]) a (m o)⟩
 | pbx t c=>
  obtain⟨b,u,us,rfl,f,A,m⟩:=h;have a:=xU f;exact⟨b,u,us,rfl,by rw[q b (by simp[qZ]) a]; exact f,A.mono y x,fun o=>r b o (by simp[qZ]) a (m o)⟩
 | vl e z rows j k=>
  obtain⟨xs,s,p,h1,m,D⟩:=h;refine⟨xs,Zu s q,p.mono x,h1,fun b i o=>?_,fun u hu=>?_⟩
  ·have a:b<w.heap.size:=by
    rcases s.2 with ⟨rfl,_⟩|⟨g,cap,cur,rfl,_,f,_⟩
    ·simp[qZ]at i
    simp[qZ]at i; subst i; exact xU f
   exact r b o i a (m b i o)
  have hu:=D u hu;obtain⟨l,rfl⟩:=y;rw[jB (jG.1 hu).1]; exact hu
theorem SatW.calm {bs:Base} {ρ:List Value} {H H':PH} {lo:List AObj} {w w':World} (s:SatW bs ρ H lo w) (c:Calm H w H' w'):SatW bs ρ H' lo w' where
 sath:=c.sat
 hlen:=s.hlen
 pre:=s.pre
 objs:=fun k o v g e=>(s.objs k o v g e).keep (jq _) c.le (fun b _ f=>c.keep.block b f id) (fun b o' _ f i=>by
  cases j:H' b o' with
  | none=>rfl
  | some x=>
   rcases c.new b o' x j with ⟨y,d⟩|a
   ·rw[i]at d; cases d
   omega)
 excl:=s.excl
 own:=s.own
 keep:=s.keep.step c.keep (fun _ h=>h.elim)
 leH:=s.leH.trans c.le
 newH:=fun b o v e=>by
  rcases c.new b o v e with ⟨y,d⟩|a
  ·exact s.newH b o y d
  exact .inr (.inr (Nat.le_trans s.keep.size a))
theorem SatW.view {bs:Base} {ρ:List Value} {H:PH} {lo:List AObj} {w:World} (s:SatW bs ρ H lo w) {k:Nat} {o o':AObj} (z:lo[k]? =some o) (hl:o.live=true) (_:o'.live=true) (h:∀ v,ρ[k]? =some v->ZK ρ H w v o->ZK ρ H w v o') :
  SatW bs ρ H (lo.set k o') w:=by
 have old:∀ {x:Nat} {c:AObj},(lo.set k o')[x]? =some c->c.live=true->∃ f,lo[x]? =some f/\f.live=true:=by
  intro x c l d;rw[jF]at l;split at l
  ·rename_i e; subst e; exact⟨o,z,hl⟩
  exact⟨c,l,d⟩
 refine{ s with hlen:=by simpa using s.hlen,objs:=fun i c v a g=>?_,excl:=fun i j oi oj A B b a C m n p q r t=>?_,own:=fun i c v b a g d t=>?_ }
 ·rw[jF]at a
  split at a
  ·rename_i e
   subst e;split at a
   ·cases a
    exact h v g (s.objs k o v z g)
   cases a
  ·exact s.objs i c v a g
 ·obtain⟨u,h1,y⟩:=old a q
  obtain⟨D,h2,E⟩:=old C r;exact s.excl i j u D A B b h1 h2 m n p y E t
 obtain⟨u,h1,y⟩:=old a d;exact s.own i u v b h1 g y t
theorem qaz {ρ:List Value} {H:PH} {w:World} {v:Value} {e:TypeId} {z j k:Nat} {rows:List (List PV)} (h:ZK ρ H w v (.vl e z rows j k)):ZK ρ H w v (.vec e z rows):=
 let ⟨xs,h1,h2,h3,h4,_⟩:=h
 ⟨xs,h1,h2,h3,h4⟩
end Ax
end
section
namespace Ax
open Go
abbrev Env:=List (Nat×FV)
def qT:Env->Nat->FV
 | [],_=>.top
 | (t',v)::E,t=>match Nat.beq t t' with|true=>v|false=>qT E t
def qam:Env->Nat->(FV->Prop)->Prop
 | [],_,R=>R .top
 | (t',v)::E,t,R=>match Nat.beq t t' with|true=>R v|false=>qam E t R
def qaf (v:PV) (R:PV->Prop):Prop:=
 match v with
 | .bool b=>R (.bool b)|.int k n=>R (.int k n)|.str l=>R (.str l)
 | .agg cs=>R (.agg cs)|.tup vs=>R (.tup vs)|.nilsl=>R .nilsl|.sl rows=>R (.sl rows)
 | .nilp=>R .nilp|.fn f=>R (.fn f)|.nilfn=>R .nilfn|.nili=>R .nili|.ifc t v=>R (.ifc t v)|.nilmap=>R .nilmap|.hp row=>R (.hp row)|.clo f cs=>R (.clo f cs)|.bfn f cs=>R (.bfn f cs)|.ifo n t v=>R (.ifo n t v)
def iO (v:FV) (R:FV->Prop):Prop:=
 match v with
 | .top=>R .top
 | .p v=>qaf v fun v=>R (.p v)
 | .opt g v=>R (.opt g v)
 | .tsl k rows=>R (.tsl k rows)
 | .ptr k off=>R (.ptr k off)
 | .hptr row=>R (.hptr row)
 | .bself k=>R (.bself k)
 | .bsl k off len cap=>R (.bsl k off len cap)
 | .vsl k n=>R (.vsl k n)
 | .eptr k z i off=>R (.eptr k z i off)
 | .mref k=>R (.mref k)
 | .pair a b=>R (.pair a b)
 | .stmp k=>R (.stmp k)
 | .clo f c=>R (.clo f c)
 | .cap0=>R .cap0
 | .cap a b=>R (.cap a b)
 | .fagg c=>R (.fagg c)
 | .nxt ok a b=>R (.nxt ok a b)
 | .asl k off n=>R (.asl k off n)
 | .ifs t c=>R (.ifs t c)
theorem iP (v:PV) (R:PV->Prop):qaf v R=R v:=by cases v<;>rfl
theorem Na (v:FV) (R:FV->Prop):iO v R=R v:=by cases v<;>first|rfl|exact iP _ (fun v=>R (.p v))
def qda:Value->Option PV
 | .bool b=>some (.bool b)
 | .int k n=>some (.int k n)
 | .string ⟨⟨l⟩⟩=>some (.str l)
 | .slice none 0 0=>some .nilsl
 | .pointer none=>some .nilp
 | .nilIface=>some .nili
 | .nilFunc=>some .nilfn
 | .map none=>some .nilmap
 | _=>none
def TR:List Value->(List PV->Prop)->Prop
 | [],R=>R []
 | v::vs,R=>match qda v with|some p=>TR vs fun l=>R (p::l)|none=>False
def qeg:List Value->Option (List PV)
 | []=>some []
 | v::vs=>match qda v with
  | some p=>(match qeg vs with|some l=>some (p::l)|none=>none)
  | none=>none
def qe9:Value->FV
 | .tuple ⟨[]⟩=>.p (.tup [])
 | .agg ⟨vs⟩=>match qeg vs with|some ps=>.p (.agg ps)|none=>.top
 | v=>match qda v with|some p=>.p p|none=>.top
def evF (e:Nat->FV):Operand->FV
 | .tmp t=>e t
 | .const v=>qe9 v
 | .func f=>.p (.fn f)
 | .global _=>.top
def ev (E:Env) (x:Operand) (R:FV->Prop):Prop:=
 match x with
 | .tmp t=>qam E t R
 | .const v=>iO (qe9 v) R
 | .func f=>R (.p (.fn f))
 | .global _=>R .top
abbrev G:=Option Bool
def gOn (g:G):Prop:=match g with|none=>True|some b=>b=true
def gI (g:G) (p:Prop):Prop:=match g with|none=>p|some b=>b=true->p
def evS (E:Env) (g:G) (x:Operand) (R:FV->Prop):Prop:=
 ev E x fun v=>match v with
 | .opt g' v'=>gI g (g'=true)/\R v'
 | v=>R v
def qdf:List FV->FV
 | []=>.cap0
 | v::l=>.cap v (qdf l)
def XE:FV->(List FV->Prop)->Prop
 | .cap0,R=>R []
 | .cap a b,R=>XE b fun l=>R (a::l)
 | _,_=>False
def UT {α:Type}:Nat->List α->(List α->Prop)->Prop
 | 0,_,R=>R []
 | n+1,l,R=>match l with|[]=>False|a::l=>UT n l fun l=>R (a::l)
def ZT {α:Type}:Nat->List α->(List α->Prop)->Prop
 | 0,l,R=>R l
 | n+1,l,R=>match l with|[]=>False|_::l=>ZT n l R
def Qr {α:Type}:Nat->List α->(α->Prop)->Prop
 | 0,l,R=>match l with|[]=>False|a::_=>R a
 | n+1,l,R=>match l with|[]=>False|_::l=>Qr n l R
def Ue {α:Type}:Nat->α->List α->(List α->Prop)->Prop
 | 0,x,l,R=>match l with|[]=>False|_::l=>R (x::l)
 | n+1,x,l,R=>match l with|[]=>False|a::l=>Ue n x l fun l=>R (a::l)
def rj {α:Type}:List α->α->(List α->Prop)->Prop
 | [],x,R=>R [x]
 | a::l,x,R=>rj l x fun l=>R (a::l)
def VB {α:Type}:List α->Nat->(Nat->Prop)->Prop
 | [],n,R=>R n
 | _::l,n,R=>VB l (n+1) R
def Tz (P:Program) (t:TypeId):Nat:=match P.info? t with|some i=>i.size|none=>0
def oY:TypeDesc->Bool
 | .struct _|.array _ _=>true
 | _=>false
def mT (P:Program) (t:TypeId) (R:Bool->Nat->Prop):Prop:=
 match P.underlying t with
 | some d=>match P.info? t with
  | some i=>R (oY d) i.size
  | none=>False
 | none=>False
def EE (P:Program) (t:TypeId) (f:Nat) (R:Nat->TypeId->Prop):Prop:=
 match P.underlying t with
 | some (.struct ⟨fs⟩)=>Qr f fs fun x=>match P.info? x.type with
  | some i=>match Nat.beq i.size 0 with|true=>False|false=>R x.offset x.type
  | none=>False
 | _=>False
def qc7 (v:FV) (R:PV->Prop):Prop:=
 match v with
 | .p v=>R v
 | .tsl _ rows=>R (.sl rows)
 | .hptr row=>R (.hp row)
 | _=>False
def Bq:FV->(List PV->Prop)->Prop
 | .cap0,R=>R []
 | .cap a b,R=>qc7 a fun p=>Bq b fun l=>R (p::l)
 | _,_=>False
def PR (v:FV) (R:PV->Prop):Prop:=
 match v with
 | .p v=>R v
 | .tsl _ rows=>R (.sl rows)
 | .hptr row=>R (.hp row)
 | .clo f c=>Bq c fun cs=>R (.clo f cs)
 | _=>False
def Pd:List FV->(List PV->Prop)->Prop
 | [],R=>R []
 | v::l,R=>PR v fun v=>Pd l fun l=>R (v::l)
def evL (E:Env) (g:G):List Operand->(List FV->Prop)->Prop
 | [],R=>R []
 | x::l,R=>evS E g x fun v=>evL E g l fun l=>R (v::l)
def Vr:Int:=9223372036854775807
def qf7 (op:BinOp) (k:IntKind) (a b:Int) (R:PV->Prop):Prop:=
 match op with
 | .add=>R (.int k (k.wrap (a+b)))
 | .sub=>R (.int k (k.wrap (a - b)))
 | .mul=>R (.int k (k.wrap (a * b)))
 | .eql=>R (.bool (a==b))
 | .neq=>R (.bool (a != b))
 | .lss=>R (.bool (decide (a<b)))
 | .leq=>R (.bool (decide (a<=b)))
 | .gtr=>R (.bool (decide (a>b)))
 | .geq=>R (.bool (decide (a≥b)))
 | .and=>R (.int k (k.wrap (jr k.bits a &&& jr k.bits b).toNat))
 | .or=>R (.int k (k.wrap (jr k.bits a ||| jr k.bits b).toNat))
 | .xor=>R (.int k (k.wrap (jr k.bits a ^^^ jr k.bits b).toNat))
 | _=>False
def qf8 (g:G) (op:BinOp) (a b:List UInt8) (R:PV->Prop):Prop:=
 match op with
 | .add=>gI g (((a.length+b.length:Nat):Int)<=Vr)/\R (.str (a++b))
 | .eql=>R (.bool (a==b))
 | .neq=>R (.bool (!(a==b)))
 | .lss=>R (.bool (Op.bytesLess a b))
 | .leq=>R (.bool (Op.bytesLess a b||a==b))
 | .gtr=>R (.bool (!(Op.bytesLess a b||a==b)))
 | .geq=>R (.bool (!(Op.bytesLess a b)))
 | _=>False
def qf6 (op:BinOp) (a b:Bool) (R:PV->Prop):Prop:=
 match op with
 | .eql=>R (.bool (a==b))
 | .neq=>R (.bool (!(a==b)))
 | _=>False
def iY (P:Program) (t:TypeId) (R:Prop):Prop:=
 match P.underlying t with
 | some .bool=>R
 | _=>False
def Fc:IntKind->IntKind->Bool
 | .i8,.i8|.i16,.i16|.i32,.i32|.i64,.i64|.u8,.u8|.u16,.u16|.u32,.u32|.u64,.u64=>true
 | _,_=>false
theorem mQ {k k':IntKind} (h:Fc k k'=true):k=k':=by cases k<;>cases k'<;>first|rfl|cases h
def Ta (P:Program):List Field->Nat->List PV->Bool
 | [],_,[]=>true
 | f::fs,o,c::cs=>(f.name != "_")&&Nat.beq f.offset o&&(match P.underlying f.type,c with
  | some (.int _),.int _ _=>true
  | some .string,.str _=>true
  | some .bool,.bool _=>true
  | _,_=>false)&&Ta P fs (o+1) cs
 | _,_,_=>false
def eG (P:Program) (t:TypeId) (cs:List PV):Bool:=
 match P.underlying t with
 | some (.struct ⟨fs⟩)=>!P.stoodInHeld t&&!P.eqGuardType P.depth t&&Ta P fs 0 cs
 | _=>false
def iH:List PV->List PV->(Bool->Prop)->Prop
 | [],[],R=>R true
 | .int k a::az,.int k' b::bs,R=>match Fc k k' with
  | true=>iH az bs fun c=>R (bif a==b then c else false)
  | false=>False
 | .str a::az,.str b::bs,R=>iH az bs fun c=>R (bif a==b then c else false)
 | .bool a::az,.bool b::bs,R=>iH az bs fun c=>R (bif a==b then c else false)
 | _,_,_=>False
def qfr (P:Program) (g:G) (op:BinOp) (t:TypeId) (x y:FV) (R:FV->Prop):Prop:=
 match x with
 | .p (.int k a)=>match y with
  | .p (.int k' b)=>match op with
   | .shl=>gI g (0<=b)/\R (.p (.int k (k.wrap (a * 2 ^ (min b.toNat k.bits)))))
   | .shr=>gI g (0<=b)/\R (.p (.int k (a.fdiv (2 ^ (min b.toNat k.bits)))))
   | .quo=>match Fc k k' with|true=>gI g (b≠0)/\R (.p (.int k (k.wrap (a.tdiv b))))|false=>False
   | .rem=>match Fc k k' with|true=>gI g (b≠0)/\R (.p (.int k (a.tmod b)))|false=>False
   | op=>match Fc k k' with|true=>qf7 op k a b fun v=>R (.p v)|false=>False
  | _=>False
 | .p (.str a)=>match y with
  | .p (.str b)=>qf8 g op a b fun v=>R (.p v)
  | _=>False
 | .p (.bool a)=>match y with
  | .p (.bool b)=>iY P t (qf6 op a b fun v=>R (.p v))
  | _=>False
 | .p (.agg az)=>match y with
  | .p (.agg bs)=>match op with
   | .eql=>eG P t az=true/\iH az bs fun c=>R (.p (.bool c))
   | .neq=>eG P t az=true/\iH az bs fun c=>R (.p (.bool (!c)))
   | _=>False
  | _=>False
 | _=>False
def lj (P:Program) (t:TypeId) (x:FV) (f:Nat) (R:FV->Prop):Prop:=
 match x with
 | .ptr k off=>EE P t f fun o _=>R (.ptr k (off+o))
 | .hptr row=>EE P t f fun o _=>ZT o row fun r=>R (.hptr r)
 | .eptr k z i off=>EE P t f fun o _=>R (.eptr k z i (off+o))
 | _=>False
def qbv (P:Program) (t:TypeId) (x:FV) (f:Nat) (R:FV->Prop):Prop:=
 match x with
 | .p (.agg cs)=>EE P t f fun o u=>ZT o cs fun r=>mT P u fun agg n=>match agg with
  | true=>UT n r fun r=>R (.p (.agg r))
  | false=>match r with|c::_=>R (.p c)|[]=>False
 | _=>False
def Vq (P:Program) (t:TypeId) (R:TypeId->Nat->Prop):Prop:=
 match P.underlying t with
 | some (.slice e)=>match P.info? e with|some i=>R e i.size|none=>False
 | _=>False
def GH (P:Program) (g:G) (t:TypeId) (x i:FV) (R:FV->Prop):Prop:=
 match x,i with
 | .p (.sl rows),.p (.int _ i)=>Vq P t fun _ z=>∃ row,gI g (0<=i/\rows[i.toNat]? =some row/\row.length=z)/\R (.hptr row)
 | .tsl _ rows,.p (.int _ i)=>Vq P t fun _ z=>∃ row,gI g (0<=i/\rows[i.toNat]? =some row/\row.length=z)/\R (.hptr row)
 | .ptr k off,.p (.int _ i)=>match P.underlying t with
  | some (.array n e)=>match P.info? e with
   | some ti=>gI g (0<=i/\i<n)/\R (.ptr k (off+i.toNat * ti.size))
   | none=>False
  | _=>False
 | .vsl k n,.p (.int _ i)=>Vq P t fun _ z=>∃ j:Nat,gI g (i=j/\j<n)/\R (.eptr k z j 0)
 | .hptr row,.p (.int _ i)=>match P.underlying t with
  | some (.array n e)=>match P.info? e with
   | some ti=>gI g (0<=i/\i<n)/\R (.hptr ((row.drop (i.toNat * ti.size)).take ti.size))
   | none=>False
  | _=>False
 | .bsl k off n _,.p (.int _ i)=>Vq P t fun _ _=>gI g (i=0/\0<n)/\R (.ptr k off)
 | .eptr k z 0 0,.p (.int _ i)=>match P.underlying t with
  | some (.array n e)=>match P.info? e with
   | some ti=>match Nat.beq ti.size 1 with
    | true=>∃ j:Nat,gI g (z=1/\i=j/\j<n)/\R (.eptr k 1 j 0)
    | false=>False
   | none=>False
  | _=>False
 | _,_=>False
def lk (P:Program) (g:G) (t:TypeId) (x i:FV) (R:FV->Prop):Prop:=
 match x,i with
 | .p (.str l),.p (.int _ i)=>match P.underlying t with
  | some .string=>∃ b,gI g (0<=i/\l[i.toNat]? =some b)/\R (.p (.int .u8 b.toNat))
  | _=>False
 | .p (.agg cs),.p (.int _ i)=>match P.underlying t with
  | some (.array n e)=>mT P e fun agg z=>match agg with
   | false=>match Nat.beq z 1 with
    | true=>∃ c,gI g (0<=i/\i<n/\cs[i.toNat]? =some c)/\R (.p c)
    | false=>False
   | true=>∃ c,gI g (0<=i/\i<n/\(cs.drop (i.toNat * z)).take z=c)/\R (.p (.agg c))
  | _=>False
 | _,_=>False
def ZE (E:Env) (g:G) (x:Option Operand) (d:Nat) (R:Nat->Prop):Prop:=
 match x with
 | none=>R d
 | some x=>evS E g x fun v=>match v with
  | .p (.int _ i)=>∃ n:Nat,gI g (i=n)/\R n
  | _=>False
def lr (P:Program) (E:Env) (g:G) (t:TypeId) (x:FV) (lo b c:Option Operand) (R:FV->Prop):Prop:=
 match c with
 | some _=>False
 | none=>match x with
  | .p (.str l)=>match P.underlying t with
   | some .string=>ZE E g b l.length fun h=>ZE E g lo 0 fun a=>gI g (a<=h/\h<=l.length)/\R (.p (.str ((l.take h).drop a)))
   | _=>False
  | .p (.sl rows)=>match P.underlying t with
   | some (.slice e)=>match P.info? e with
    | some i=>ZE E g b rows.length fun h=>ZE E g lo 0 fun a=>gI g (a<=h/\h<=rows.length/\∀ r∈rows,r.length=i.size)/\R (.p (.sl ((rows.take h).drop a)))
    | none=>False
   | _=>False
  | .tsl _ rows=>match P.underlying t with
   | some (.slice e)=>match P.info? e with
    | some i=>ZE E g b rows.length fun h=>ZE E g lo 0 fun a=>gI g (a<=h/\h<=rows.length/\∀ r∈rows,r.length=i.size)/\R (.p (.sl ((rows.take h).drop a)))
    | none=>False
   | _=>False
  | .ptr k off=>match P.underlying t with
   | some (.array n e)=>match P.info? e with
    | some i=>match Nat.beq i.size 1 with
     | true=>ZE E g b n fun h=>ZE E g lo 0 fun a=>gI g (a<=h/\h<=n/\a<n)/\R (.bsl k (off+a) (h - a) (n - a))
     | false=>False
    | none=>False
   | _=>False
  | .eptr k z 0 0=>match P.underlying t with
   | some (.array n e)=>match P.info? e with
    | some i=>match Nat.beq i.size 1 with
     | true=>ZE E g b n fun h=>ZE E g lo 0 fun a=>gI g (z=1/\a<=h/\h<=n/\a<n)/\R (.asl k a (h - a))
     | false=>False
    | none=>False
   | _=>False
  | _=>False
def qfs (P:Program) (t:TypeId) (x:FV) (R:FV->Prop):Prop:=
 match x with
 | .p (.str l)=>match P.underlying t with|some .string=>R (.p (.int .i64 l.length))|_=>False
 | .p (.sl rows)=>match P.underlying t with|some (.slice _)=>R (.p (.int .i64 rows.length))|_=>False
 | .tsl _ rows=>match P.underlying t with|some (.slice _)=>R (.p (.int .i64 rows.length))|_=>False
 | .bsl _ _ n _=>match P.underlying t with|some (.slice _)=>R (.p (.int .i64 n))|_=>False
 | .vsl _ n=>match P.underlying t with|some (.slice _)=>R (.p (.int .i64 n))|_=>False
 | .p .nilsl=>match P.underlying t with|some (.slice _)=>R (.p (.int .i64 0))|_=>False
 | _=>False
def LC (P:Program) (src dst:TypeId) (x:FV) (R:FV->Prop):Prop:=
 match x with
 | .p (.int _ n)=>match P.underlying src with
  | some (.int _)=>match P.underlying dst with
   | some (.int k)=>R (.p (.int k (k.wrap n)))
   | _=>False
  | _=>False
 | .p (.str l)=>match P.underlying src with
  | some .string=>match P.underlying dst with
   | some .string=>R (.p (.str l))
   | _=>False
  | _=>False
 | _=>False
def qx (l:List UInt8):List (List PV):=l.map fun b=>[.int .u8 b.toNat]
def u8T (P:Program) (src dst:TypeId) (R:Prop):Prop:=
 match P.underlying src with
 | some (.slice e)=>match P.underlying e with
  | some (.int .u8)=>match P.underlying dst with
   | some .string=>R
   | _=>False
  | _=>False
 | _=>False
def qf4 (P:Program) (src dst:TypeId) (n:Nat) (t:TypeId) (R:Prop):Prop:=
 match P.underlying src with
 | some (.pointer u)=>match P.underlying dst with
  | some .unsafePointer=>match P.info? u with
   | some i=>(i.size≠0/\0<n)/\R
   | none=>False
  | _=>False
 | some .unsafePointer=>match P.underlying dst with
  | some (.pointer u)=>match P.info? u with
   | some _=>liesAt P P.depth t (n / P.cellsOf t) 0 u 1=true/\R
   | none=>False
  | _=>False
 | _=>False
def BD (P:Program) (g:G) (src dst:TypeId) (lo:List AObj) (x:FV) (R:FV->Prop):Prop:=
 match x with
 | .p (.sl rows)=>u8T P src dst (∃ l,gI g (rows=qx l)/\R (.p (.str l)))
 | .tsl _ rows=>u8T P src dst (∃ l,gI g (rows=qx l)/\R (.p (.str l)))
 | .p .nilsl=>u8T P src dst (R (.p (.str [])))
 | .bsl k off n _=>u8T P src dst (Qr k lo fun o=>match o with
   | .box _ cells=>ZT off cells fun cs=>UT n cs fun cs=>Pd cs fun a=>∃ l:List UInt8,gI g (a=l.map fun b=>PV.int .u8 b.toNat)/\R (.p (.str l))
   | _=>False)
 | .ptr k off=>match Nat.beq off 0 with
  | true=>Qr k lo fun o=>match o with
   | .box t cells=>qf4 P src dst cells.length t (R (.ptr k 0))
   | _=>False
  | false=>False
 | .vsl k n=>u8T P src dst (Qr k lo fun o=>match o with
   | .bv l=>gI g (n=l.length)/\R (.p (.str l))
   | _=>False)
 | .asl k off n=>u8T P src dst (Qr k lo fun o=>match o with
   | .bv l=>gI g (off+n<=l.length)/\R (.p (.str ((l.drop off).take n)))
   | _=>False)
 | x=>LC P src dst x R
def XR (P:Program) (H:PH) (w:World) (r:PV):Result Next->Prop
 | .ok (.value v) w'=>∃ H',Calm H w H' w'/\qP H' r v
 | .ok (.enter f args) w'=>w'=w/\Calls P f args w fun e a=>∃ v H',e=.returned v/\Calm H w H' a/\qP H' r v
 | _=>False
def qc (P:Program) (f:FuncId) (args:List PV) (r:PV):Prop:=
 ∀ (H:PH) (w:World) (vs:List Value),SatH H w->zz H args vs->XR P H w r ((callFunc f vs.toArray).run P w)
def EX (E:Env) (g:G):Nat->List (Nat×Operand)->(List PV->Prop)->Prop
 | _,[],R=>R []
 | k,(i,x)::l,R=>match Nat.beq i k with
  | true=>evS E g x fun v=>PR v fun p=>EX E g (k+1) l fun a=>R (p::a)
  | false=>False
def MT (p:PV) (R:List PV->Prop):Prop:=
 match p with
 | .agg cs=>R cs
 | .tup _=>False
 | p=>R [p]
def al:List PV->(List (List PV)->Prop)->Prop
 | [],R=>R []
 | p::ps,R=>MT p fun c=>al ps fun rs=>R (c::rs)
def EW:PV->Bool
 | .agg _|.tup _=>false
 | _=>true
def bd (P:Program) (E:Env) (g:G) (t:TypeId) (n:Nat) (zi:List (Nat×Operand)) (R:FV->Prop):Prop:=
 Vq P t fun e z=>match Nat.beq zi.length n with
  | true=>match Nat.ble 1 n with
   | true=>match Nat.ble 1 z with
    | true=>match Nat.ble (n * z) 16777216 with
     | true=>match P.info? e with
      | some i=>match i.zero with
       | some _=>EX E g 0 zi fun b=>al b fun rows=>(∀ r∈rows,r.length=z/\r.all EW=true)/\∃ a,(rows=a\/Cn rows a)/\R (.p (.sl a))
       | none=>False
      | none=>False
     | false=>False
    | false=>False
   | false=>False
  | false=>False
def Cc:Nat->List PV->List PV->(List PV->Prop)->Prop
 | 0,[],old,R=>R old
 | 0,v::vs,old,R=>match old with|[]=>False|_::old=>Cc 0 vs old fun l=>R (v::l)
 | n+1,vs,old,R=>match old with|[]=>False|a::old=>Cc n vs old fun l=>R (a::l)
def eF (P:Program) (E:Env) (g:G) (a:List Field):List (Nat×Operand)->List PV->(List PV->Prop)->Prop
 | [],cs,R=>R cs
 | (i,x)::l,cs,R=>Qr i a fun f=>match P.info? f.type with
  | some ti=>evS E g x fun v=>PR v fun p=>MT p fun c=>match Nat.beq c.length ti.size with
   | true=>Cc f.offset c cs fun cs=>eF P E g a l cs R
   | false=>False
  | none=>False
def Nh (P:Program):List Field->Bool
 | []=>true
 | f::fs=>match P.info? f.type with|some _=>Nh P fs|none=>false
def ld (P:Program) (E:Env) (g:G) (t:TypeId) (zi:List (Nat×Operand)) (R:FV->Prop):Prop:=
 match P.info? t with
 | some i=>match i.zero with
  | some (.agg ⟨vs⟩)=>TR vs fun b=>match P.underlying t with
   | some (.struct ⟨fs⟩)=>match Nh P fs with
    | true=>eF P E g fs zi b fun cs=>R (.p (.agg cs))
    | false=>False
   | some (.array _ e)=>match P.info? e with
    | some ei=>match Nat.beq ei.size 1 with
     | true=>EX E g 0 zi fun a=>a.length=vs.length/\(∀ c∈a,EW c=true)/\R (.p (.agg a))
     | false=>EX E g 0 zi fun a=>al a fun rows=>(∀ r∈rows,r.length=ei.size)/\rows.flatten.length=vs.length/\R (.p (.agg rows.flatten))
    | none=>False
   | _=>False
  | _=>False
 | none=>False
def EM (P:Program) (op:BinOp) (t:TypeId) (a:Bool) (y:FV) (R:FV->Prop):Prop:=
 match P.underlying t with
 | some (.func _ _ _)=>match y with
  | .p .nilfn=>match op with
   | .eql=>R (.p (.bool a))
   | .neq=>R (.p (.bool (!a)))
   | _=>False
  | _=>False
 | _=>False
def qec (P:Program) (op:BinOp) (t:TypeId) (x y:FV) (R:FV->Prop):Prop:=
 match P.underlying t with
 | some (.pointer e)=>match P.info? e with
  | some _=>match op with
   | .eql=>match x,y with
    | .p .nilp,.p .nilp=>R (.p (.bool true))
    | .ptr _ _,.p .nilp=>R (.p (.bool false))
    | .hptr _,.p .nilp=>R (.p (.bool false))
    | _,_=>False
   | .neq=>match x,y with
    | .p .nilp,.p .nilp=>R (.p (.bool false))
    | .ptr _ _,.p .nilp=>R (.p (.bool true))
    | .hptr _,.p .nilp=>R (.p (.bool true))
    | .ptr k off,.ptr k' off'=>match Nat.beq k k' with
     | true=>match Nat.beq off off' with
      | true=>R (.p (.bool false))
      | false=>False
     | false=>False
    | _,_=>False
   | _=>False
  | none=>False
 | _=>False
def Lm (E:Env):List (Nat×Operand)->Prop->Prop->Prop
 | [],_,no=>no
 | (_,x)::l,yes,no=>ev E x fun v=>match v with
  | .mref _=>yes
  | .ptr _ _=>yes
  | .clo _ _=>yes
  | .bsl _ _ _ _=>yes
  | _=>Lm E l yes no
def eU:List PV->(List FV->Prop)->Prop
 | [],R=>R []
 | c::cs,R=>eU cs fun l=>R (.p c::l)
def XJ:Nat->List FV->List FV->(List FV->Prop)->Prop
 | 0,[],old,R=>R old
 | 0,v::vs,old,R=>match old with|[]=>False|_::old=>XJ 0 vs old fun l=>R (v::l)
 | n+1,vs,old,R=>match old with|[]=>False|a::old=>XJ n vs old fun l=>R (a::l)
def qbg (v:FV) (R:List FV->Prop):Prop:=
 match v with
 | .p p=>MT p fun cs=>eU cs R
 | .tsl k rows=>R [.tsl k rows]
 | .mref k=>R [.mref k]
 | .ptr k o=>R [.ptr k o]
 | .clo f c=>R [.clo f c]
 | .bsl k o n c=>R [.bsl k o n c]
 | _=>False
def eE (P:Program) (E:Env) (g:G) (a:List Field):List (Nat×Operand)->List FV->(List FV->Prop)->Prop
 | [],cs,R=>R cs
 | (i,x)::l,cs,R=>Qr i a fun f=>match P.info? f.type with
  | some ti=>evS E g x fun v=>qbg v fun c=>match Nat.beq c.length ti.size with
   | true=>XJ f.offset c cs fun cs=>eE P E g a l cs R
   | false=>False
  | none=>False
def Lz (P:Program) (E:Env) (g:G) (t:TypeId) (zi:List (Nat×Operand)) (R:FV->Prop):Prop:=
 match P.info? t with
 | some i=>match i.zero with
  | some (.agg ⟨vs⟩)=>TR vs fun a=>eU a fun a=>match P.underlying t with
   | some (.struct ⟨fs⟩)=>match Nh P fs with
    | true=>eE P E g fs zi a fun cs=>R (.fagg (qdf cs))
    | false=>False
   | _=>False
  | _=>False
 | none=>False
def iu:FV->(List PV->Prop)->Prop
 | .cap0,R=>R []
 | .cap a b,R=>PR a fun p=>iu b fun l=>R (p::l)
 | _,_=>False
def ef (P:Program) (t:TypeId) (m:String) (f:FuncId):Prop:=∀ v w,(method (P.types.size+Made.depth) t v m).run P w=.ok (f,v) w
def bB (P:Program) (p:PV) (b a:TypeId) (r:PV):Prop:=∀ (H:PH) (v:Value) (w:World),qP H p v->∃ u,(Instr.typeAssert v b a true).run P w=.ok u w/\qP H r u
def lq (P:Program) (op:Op) (E:Env) (g:G) (R:FV->Prop):Prop:=
 match op with
 | .makeFunc (.func f) ⟨b::bs⟩ ⟨[]⟩=>evL E g (b::bs) fun vs=>Pd vs fun d=>R (.p (.bfn f d))
 | .typeAssert x xt a true=>evS E g x fun x=>PR x fun p=>∃ r,gI g (bB P p xt a r)/\R (.p r)
 | .makeFunc (.func f) ⟨[]⟩ ⟨xs⟩=>match xs with
  | []=>R (.p (.fn f))
  | x::xs=>evL E g (x::xs) fun vs=>R (.clo f (qdf vs))
 | .call { callee:=.value (.tmp t),args:=⟨xs⟩,argTypes:=_ }=>evS E g (.tmp t) fun e=>evL E g xs fun vs=>Pd vs fun args=>match e with
  | .p (.fn f)=>∃ r,gI g (qc P f args r)/\R (.p r)
  | .clo f c=>iu c fun cs=>∃ r,gI g (qc P f (args++cs) r)/\R (.p r)
  | .p (.clo f cs)=>∃ r,gI g (qc P f (args++cs) r)/\R (.p r)
  | .p (.bfn f bs)=>∃ r,gI g (qc P f (bs++args) r)/\R (.p r)
  | _=>False
 | .call { callee:=.invoke r m,args:=⟨xs⟩,argTypes:=_ }=>evS E g r fun h=>evL E g xs fun vs=>Pd vs fun args=>match h with
  | .p (.ifc t v)=>∃ f r,gI g (ef P t m f/\qc P f (v::args) r)/\R (.p r)
  | _=>False
 | .call { callee:=.builtin .max,args:=⟨[x,y]⟩,argTypes:=_ }=>evS E g x fun x=>evS E g y fun y=>match x with
  | .p (.int k a)=>match y with
   | .p (.int _ b)=>R (.p (.int k (bif decide (b>a)then b else a)))
   | _=>False
  | _=>False
 | .call { callee:=.builtin .min,args:=⟨[x,y]⟩,argTypes:=_ }=>evS E g x fun x=>evS E g y fun y=>match x with
  | .p (.int k a)=>match y with
   | .p (.int _ b)=>R (.p (.int k (bif decide (b<a)then b else a)))
   | _=>False
  | _=>False
 | _=>False
def eN (P:Program) (op:Op) (E:Env) (g:G) (R:FV->Prop):Prop:=
 match op with
 | .move x=>match g with|none=>ev E x R|some g=>evS E (some g) x R
 | .assign x=>match g with|none=>ev E x R|some g=>evS E (some g) x R
 | .pick c a b=>evS E g c fun c=>match c with
  | .p (.bool c)=>match g with
   | none=>evS E (some c) a fun a=>evS E (some (!c)) b fun b=>match a,b with
    | .p (.bool a),.p (.bool b)=>R (.p (.bool (bif c then a else b)))
    | _,_=>False
   | some g=>evS E (some (g&&c)) a fun a=>evS E (some (g&&!c)) b fun b=>match a,b with
    | .p (.bool a),.p (.bool b)=>R (.p (.bool (bif c then a else b)))
    | _,_=>False
  | _=>False
 | .fieldAddr t x f=>evS E g x fun x=>lj P t x f R
 | .field t x f=>evS E g x fun x=>qbv P t x f R
 | .indexAddr t x i=>evS E g x fun x=>evS E g i fun i=>GH P g t x i R
 | .index t x i=>evS E g x fun x=>evS E g i fun i=>lk P g t x i R
 | .binOp op t x y _=>evS E g x fun x=>evS E g y fun y=>match x with
  | .ptr k off=>qec P op t (.ptr k off) y R
  | .hptr row=>qec P op t (.hptr row) y R
  | .p .nilp=>qec P op t (.p .nilp) y R
  | .p .nilfn=>EM P op t true y R
  | .p (.fn _)=>EM P op t false y R
  | .p (.clo _ _)=>EM P op t false y R
  | .p (.bfn _ _)=>EM P op t false y R
  | x=>qfr P g op t x y R
 | .unOp .not _ x=>evS E g x fun x=>match x with|.p (.bool b)=>R (.p (.bool (!b)))|_=>False
 | .unOp .neg _ x=>evS E g x fun x=>match x with|.p (.int k n)=>R (.p (.int k (k.wrap (0 - n))))|_=>False
 | .nilCheck x=>evS E g x fun x=>match x with
  | .ptr k off=>R (.ptr k off)
  | .hptr row=>R (.hptr row)
  | .eptr k z i off=>R (.eptr k z i off)
  | _=>False
 | .slice t x lo hi mx=>evS E g x fun x=>lr P E g t x lo hi mx R
 | .buildSlice t n ⟨zi⟩=>bd P E g t n zi R
 | .build t ⟨zi⟩=>Lm E zi (Lz P E g t zi R) (ld P E g t zi R)
 | .extract x i=>evS E g x fun x=>match x with
  | .p (.tup vs)=>Qr i vs fun v=>R (.p v)
  | .pair a b=>match i with|0=>R a|1=>R b|_=>False
  | .nxt ok a b=>match i with|0=>R (.p (.bool ok))|1=>gI g (ok=true)/\R (.p a)|2=>gI g (ok=true)/\R (.p b)|_=>False
  | _=>False
 | .makeInterface t x=>evS E g x fun x=>match P.underlying t with
  | some (.interface _)=>False
  | some _=>match x with
   | .vsl k n=>R (.ifs t (.vsl k n))
   | x=>PR x fun v=>R (.p (.ifc t v))
  | none=>False
 | .call { callee:=.builtin .len,args:=⟨[x]⟩,argTypes:=⟨[t]⟩ }=>evS E g x fun x=>qfs P t x R
 | .call { callee:=.value (.func f),args:=⟨xs⟩,argTypes:=_ }=>
   evL E g xs fun vs=>Pd vs fun args=>∃ r,gI g (qc P f args r)/\R (.p r)
 | op=>lq P op E g R
def qgh:List FV->Bool
 | []=>false
 | .vsl _ _::_=>true
 | _::l=>qgh l
def Zo (P:Program) (t:TypeId) (lo:List AObj) (x:FV) (R:FV->Prop):Prop:=
 match x with
 | .ptr k off=>Qr k lo fun o=>match o with
  | .box _ cells=>ZT off cells fun cs=>mT P t fun agg n=>match agg with
   | true=>UT n cs fun cs=>match qgh cs with
    | true=>R (.fagg (qdf cs))
    | false=>Pd cs fun l=>R (.p (.agg l))
   | false=>match cs with|c::_=>R c|[]=>False
  | .pbx _ c=>match Nat.beq off 0 with
   | true=>mT P t fun agg _=>match agg with|true=>False|false=>R c
   | false=>False
  | _=>False
 | .hptr row=>mT P t fun agg n=>match agg with
  | true=>UT n row fun r=>R (.p (.agg r))
  | false=>match row with|c::_=>R (.p c)|[]=>False
 | _=>False
def Vz:Op->Bool
 | .load _ _=>true
 | .convert _ _ _=>true
 | .lookup _ _ _ _=>true
 | _=>false
def nV:Op->Bool
 | .box _ _|.alloc _|.store _ _ _|.makeMap _ _|.mapUpdate _ _ _ _|.insert _ _ _ _|.range _ _|.next _ _=>true
 | .call { callee:=.builtin .append,.. }=>true
 | .call { callee:=.builtin .clear,.. }=>true
 | .call { callee:=.builtin .copy,.. }=>true
 | .makeSlice _ _ _=>true
 | _=>false
def TS:FV->Bool
 | .p (.agg _)|.p (.tup _)|.top|.opt _ _|.pair _ _|.stmp _|.cap0|.cap _ _|.fagg _|.nxt _ _ _=>false
 | _=>true
def aS (P:Program) (t:TypeId) (R:List PV->Prop):Prop:=
 match P.info? t with
 | some i=>match i.zero with
  | some (.agg ⟨vs⟩)=>TR vs R
  | some v=>TR [v] R
  | none=>False
 | none=>False
def XC (v:FV) (R:List FV->Prop):Prop:=
 match v with
 | .p (.agg cs)=>eU cs R
 | .fagg c=>XE c R
 | v=>match TS v with|true=>R [v]|false=>False
def Uv:List FV->Bool
 | []=>true
 | v::l=>match TS v with|true=>Uv l|false=>false
def Sw (x:FV) (R:List (List PV)->Prop):Prop:=
 match x with
 | .p (.sl rows)=>R rows
 | .tsl _ rows=>R rows
 | .p .nilsl=>R []
 | _=>False
def aZ:PV->PV->Bool
 | .str a,.str b=>a==b
 | .int _ a,.int _ b=>a==b
 | .bool a,.bool b=>a==b
 | _,_=>false
def Cb (k:PV):List (PV×PV)->Option PV
 | []=>none
 | (k',v)::es=>bif aZ k k' then some v else Cb k es
def ec (k v:PV):List (PV×PV)->List (PV×PV)
 | []=>[(k,v)]
 | (k',v')::es=>bif aZ k k' then(k,v)::es else(k',v')::ec k v es
def Rm (a d:TypeDesc) (b:PV) (R:Prop):Prop:=
 match a,d,b with
 | .string,.string,.str _=>R
 | .bool,.bool,.bool _=>R
 | .int k,.int k',.int k'' _=>match Fc k k' with
  | true=>match Fc k k'' with
   | true=>R
   | false=>False
  | false=>False
 | _,_,_=>False
def qft (d:TypeDesc) (R:Prop):Prop:=
 match d with
 | .string=>R
 | .bool=>R
 | .int _=>R
 | _=>False
def qan (P:Program) (t:TypeId) (d:TypeDesc) (a:PV) (R:TypeId->Prop):Prop:=
 match P.underlying t with
 | some (.map kt et)=>match P.underlying kt with
  | some d'=>Rm d' d a (R et)
  | none=>False
 | _=>False
def Pa (P:Program) (t:TypeId) (R:PV->Prop):Prop:=
 match P.info? t with
 | some i=>match i.zero with
  | some (.agg ⟨vs⟩)=>TR vs fun l=>R (.agg l)
  | some v=>match qda v with|some p=>R p|none=>False
  | none=>False
 | none=>False
def Zp (P:Program) (g:G) (t:TypeId) (lo:List AObj) (x key:FV) (ok:Bool) (R:FV->Prop):Prop:=
 match x,key with
 | .mref k,.p kp=>Qr k lo fun o=>match o with
  | .mp d es _=>qan P t d kp fun a=>Pa P a fun z=>∃ v b,gI g ((Cb kp es).getD z=v/\(Cb kp es).isSome=b)/\R (match ok with|false=>.p v|true=>.p (.tup [v,.bool b]))
  | _=>False
 | _,_=>False
def qbu (P:Program) (t:TypeId) (lo:List AObj) (x:FV) (R:FV->Prop):Prop:=
 match x with
 | .mref k=>Qr k lo fun o=>match o with
  | .mp _ es _=>match P.underlying t with
   | some (.map _ _)=>∃ n:Nat,es.length=n/\R (.p (.int .i64 n))
   | _=>False
  | _=>False
 | _=>False
def LF (P:Program) (E:Env) (lo:List AObj) (t:TypeId) (m k x:Operand) (R:FV->List AObj->Prop):Prop:=
 evS E none m fun m=>evS E none k fun k=>evS E none x fun x=>PR x fun b=>match m,k with
  | .mref j,.p kp=>Qr j lo fun o=>match o with
   | .mp d es _=>qan P t d kp fun _=>∃ a,ec kp b es=a/\Ue j (.mp d a none) lo fun lo=>R (.p (.tup [])) lo
   | _=>False
  | _,_=>False
def qI (l:List UInt8) (i:Nat):Nat:=(Utf8.decode ⟨l.toArray⟩ i).1
def zF (l:List UInt8) (i:Nat):Nat:=i+(Utf8.decode ⟨l.toArray⟩ i).2
def qbt (P:Program) (op:Op) (E:Env) (lo:List AObj) (R:FV->List AObj->Prop):Prop:=
 match op with
 | .range t x=>evS E none x fun x=>match x with
  | .p (.str l)=>match P.underlying t with
   | some .string=>VB lo 0 fun n=>rj lo (.sit l 0) fun lo=>R (.ptr n 0) lo
   | _=>False
  | _=>False
 | .next x true=>evS E none x fun x=>match x with
  | .ptr k 0=>Qr k lo fun o=>match o with
   | .sit l pos=>∃ ok p',(decide (pos<l.length)=ok/\(bif ok then zF l pos else pos)=p')/\Ue k (.sit l p') lo fun lo=>R (.nxt ok (.int .i64 pos) (.int .i32 (qI l pos))) lo
   | _=>False
  | _=>False
 | .makeMap t none=>match P.underlying t with
  | some (.map kt _)=>match P.underlying kt with
   | some d=>qft d (VB lo 0 fun n=>rj lo (.mp d [] none) fun lo=>R (.mref n) lo)
   | none=>False
  | _=>False
 | .mapUpdate t m k x=>LF P E lo t m k x R
 | .insert t m k x=>LF P E lo t m k x R
 | .call { callee:=.builtin .clear,args:=⟨[x]⟩,argTypes:=⟨[t]⟩ }=>evS E none x fun x=>match x with
  | .mref k=>Qr k lo fun o=>match o with
   | .mp d _ _=>match P.underlying t with
    | some (.map _ _)=>Ue k (.mp d [] none) lo fun lo=>R (.p (.tup [])) lo
    | _=>False
   | _=>False
  | _=>False
 | _=>False
def Rl (P:Program) (t:TypeId) (lo:List AObj) (k z i off:Nat) (x:FV) (R:FV->List AObj->Prop):Prop:=
 XC x fun vs=>Pd vs fun f=>VB f 0 fun n=>mT P t fun _ m=>match Nat.beq n m with
  | true=>Qr k lo fun o=>match o with
   | .vec e z' rows=>∃ row,(z'=z/\rows[i]? =some row/\f.all EW=true)/\Cc off f row fun d=>∃ a,rows.set i d=a/\Ue k (.vec e z' a) lo fun lo=>R (.p (.tup [])) lo
   | .vl e z' rows j kt=>∃ row g,(z'=z/\rows[i]? =some row/\f.all EW=true/\(j<z/\(off+f.length<=j\/j<off)/\g=kt\/off=j/\i+1=rows.length/\∃ h,x=.tsl g h)) /\
     Cc off f row fun d=>∃ a,rows.set i d=a/\Ue k (.vl e z' a j g) lo fun lo=>R (.p (.tup [])) lo
   | .bv l=>match f with
    | [.int .u8 n]=>∃ (c:UInt8) (q:List UInt8),(z=1/\off=0/\i<l.length/\n=(c.toNat:Int)/\l.set i c=q)/\Ue k (.bv q) lo fun lo=>R (.p (.tup [])) lo
    | f=>∃ q:List UInt8,(z=1/\off=0/\i=0/\q.length=l.length/\f=q.map fun b=>PV.int .u8 b.toNat)/\Ue k (.bv q) lo fun lo=>R (.p (.tup [])) lo
   | _=>False
  | false=>False
def EN (P:Program) (t:TypeId) (lo:List AObj) (k z i off:Nat) (R:FV->Prop):Prop:=
 Qr k lo fun o=>match o with
  | .vec _ z' rows=>∃ row,(z'=z/\rows[i]? =some row)/\ZT off row fun cs=>mT P t fun agg n=>match agg with
   | true=>UT n cs fun l=>R (.p (.agg l))
   | false=>match cs with|c::_=>R (.p c)|[]=>False
  | .vl _ z' rows j kt=>∃ row,(z'=z/\rows[i]? =some row)/\ZT off row fun cs=>mT P t fun agg n=>match agg with
   | true=>UT n cs fun l=>R (.p (.agg l))
   | false=>match cs with
    | c::_=>match Nat.beq off j with
     | true=>i+1=rows.length/\∃ rs,c=.sl rs/\R (.tsl kt rs)
     | false=>R (.p c)
    | []=>False
  | .bv l=>mT P t fun agg _=>match agg with
   | true=>False
   | false=>∃ c:UInt8,(z=1/\off=0/\l[i]? =some c)/\R (.p (.int .u8 c.toNat))
  | _=>False
def BF (P:Program) (g:Bool) (t:TypeId) (lo:List AObj) (k z i off:Nat) (R:FV->Prop):Prop:=
 Qr k lo fun o=>match o with
  | .vec _ z' rows=>∃ row,(g=true->z'=z/\rows[i]? =some row)/\ZT off row fun cs=>mT P t fun agg _=>match agg with
   | true=>False
   | false=>match cs with|c::_=>R (.p c)|[]=>False
  | .vl _ z' rows j _=>∃ row,(g=true->z'=z/\rows[i]? =some row)/\ZT off row fun cs=>mT P t fun agg _=>match agg with
   | true=>False
   | false=>match cs with
    | c::_=>match Nat.beq off j with
     | true=>False
     | false=>R (.p c)
    | []=>False
  | _=>False
def lf (P:Program) (src dst:TypeId) (lo:List AObj) (x:FV) (R:FV->List AObj->Prop):Prop:=
 match x with
 | .p (.str l)=>match P.underlying src with
  | some _=>match P.underlying dst with
   | some (.slice e)=>match P.underlying e with
    | some (.int .u8)=>VB lo 0 fun n=>rj lo (.bv l) fun lo=>R (.vsl n l.length) lo
    | _=>False
   | _=>False
  | none=>False
 | _=>False
def Sf (P:Program) (t:TypeId) (lo:List AObj) (b:Nat) (news:List (List PV)) (R:FV->List AObj->Prop):Prop:=
 Vq P t fun e z=>match Nat.beq z 0 with
 | true=>False
 | false=>match P.info? e with
  | some i=>match i.zero with
   | some zv=>match Nat.beq zv.cells.size z with
    | true=>Qr b lo fun o=>match o with
     | .vec e' z' rows=>∃ a,(rows++news=a/\e'=e/\z'=z/\(∀ r∈news,r.length=z)/\a.length * i.bytes<=140737488355328/\a.length<=9223372036854775807) /\
       Ue b .dead lo fun lo=>VB lo 0 fun k=>rj lo (.vec e z a) fun lo=>R (.vsl k a.length) lo
     | .vl e' z' rows j _=>∃ a r e2 z2,((rows++news=a\/Cn (rows++news) a)/\(news=[r]/\r[j]? =some .nilsl)/\e'=e/\z'=z/\(∀ r∈news,r.length=z)/\a.length * i.bytes<=140737488355328/\a.length<=9223372036854775807) /\
       Ue b .dead lo fun lo=>VB lo 0 fun c=>rj lo (.tail e2 z2 0) fun lo=>VB lo 0 fun k=>rj lo (.vl e z a j c) fun lo=>R (.vsl k a.length) lo
     | _=>False
    | false=>False
   | none=>False
  | none=>False
def Lw (P:Program) (t:TypeId) (lo:List AObj) (R:FV->List AObj->Prop):Prop:=
 aS P t fun z=>∃ l:List UInt8,z=l.map (fun b=>PV.int .u8 b.toNat)/\VB lo 0 fun k=>rj lo (.bv l) fun lo=>R (.eptr k 1 0 0) lo
def PX (P:Program) (E:Env) (lo:List AObj) (t:TypeId) (n:Nat) (zi:List (Nat×Operand)) (R:FV->List AObj->Prop):Prop:=
 Vq P t fun e z=>bd P E none t n zi fun v=>match v with
  | .p (.sl rows)=>VB lo 0 fun k=>rj lo (.vec e z rows) fun lo=>R (.vsl k rows.length) lo
  | _=>False
def UL:List Nat->Nat->Bool
 | [],_=>false
 | a::l,f=>match Nat.beq f a with|true=>true|false=>UL l f
def PW (P:Program) (E:Env) (lo:List AObj) (t:TypeId) (n:Nat) (zi:List (Nat×Operand)) (R:FV->List AObj->Prop):Prop:=
 Vq P t fun e z=>bd P E none t n zi fun v=>match v with
  | .p (.sl rows)=>VB lo 0 fun k=>rj lo (.tail e z rows.length) fun lo=>R (.tsl k rows) lo
  | _=>False
def eJ (inl:List Nat) (d:Option Tmp):Bool:=match d with
 | some d=>UL inl (30000000+d)
 | none=>false
def Sg (P:Program) (g:Bool) (E:Env) (lo:List AObj) (t:TypeId) (n:Nat) (zi:List (Nat×Operand)) (R:FV->List AObj->Prop):Prop:=
 match g with
 | true=>PW P E lo t n zi R
 | false=>PX P E lo t n zi R
def qak (P:Program) (op:Op) (E:Env) (lo:List AObj) (R:FV->List AObj->Prop):Prop:=
 match op with
 | .box t x=>evS E none x fun x=>XC x fun cs=>match Uv cs with
  | true=>VB lo 0 fun n=>rj lo (.box t cs) fun lo=>R (.ptr n 0) lo
  | false=>False
 | .alloc t=>aS P t fun z=>eU z fun cs=>match Uv cs with
  | true=>VB lo 0 fun n=>rj lo (.box t cs) fun lo=>R (.ptr n 0) lo
  | false=>False
 | .store t a x=>evS E none a fun a=>evS E none x fun x=>match a with
  | .ptr k off=>XC x fun vs=>match Uv vs with
   | true=>VB vs 0 fun n=>mT P t fun _ m=>match Nat.beq n m with
    | true=>Qr k lo fun o=>match o with
     | .box bt cells=>XJ off vs cells fun cells=>Ue k (.box bt cells) lo fun lo=>R (.p (.tup [])) lo
     | _=>False
    | false=>False
   | false=>False
  | .eptr k z i off=>Rl P t lo k z i off x R
  | _=>False
 | .call { callee:=.builtin .append,args:=⟨[s,x]⟩,argTypes:=⟨[t,t']⟩ }=>match Nat.beq t t' with
  | true=>evS E none s fun s=>evS E none x fun x=>Sw x fun news=>match s with
   | .vsl k0 _=>Sf P t lo k0 news R
   | s=>Vq P t fun e z=>match Nat.beq z 0 with
   | true=>False
   | false=>match P.info? e with
    | some i=>match i.zero with
     | some zv=>match Nat.beq zv.cells.size z with
      | true=>match s with
       | .p .nilsl=>((∀ r∈news,r.length=z)/\news.length * i.bytes<=140737488355328/\news.length<=9223372036854775807) /\
         VB lo 0 fun k=>rj lo (.tail e z news.length) fun lo=>R (.tsl k news) lo
       | .tsl k0 rows=>((∀ r∈rows++news,r.length=z)/\(rows++news).length * i.bytes<=140737488355328/\(rows++news).length<=9223372036854775807) /\
         Qr k0 lo fun o=>match o with
         | .tail e' z' n=>(e'=e/\z'=z/\n=rows.length) /\
           Ue k0 .dead lo fun lo=>VB lo 0 fun k=>rj lo (.tail e z (rows++news).length) fun lo=>R (.tsl k (rows++news)) lo
         | _=>False
       | _=>False
      | false=>False
     | none=>False
    | none=>False
  | false=>evS E none s fun s=>evS E none x fun x=>match x with
   | .p (.str str)=>match P.underlying t' with
    | some .string=>Vq P t fun e z=>match Nat.beq z 1 with
     | true=>match P.info? e with
      | some i=>match i.zero with
       | some (.int .u8 0)=>match s with
        | .p .nilsl=>((qx str).length * i.bytes<=140737488355328/\(qx str).length<=9223372036854775807) /\
          VB lo 0 fun k=>rj lo (.tail e z (qx str).length) fun lo=>R (.tsl k (qx str)) lo
        | .tsl k0 rows=>((∀ r∈rows,r.length=1)/\(rows++qx str).length * i.bytes<=140737488355328/\(rows++qx str).length<=9223372036854775807) /\
          Qr k0 lo fun o=>match o with
          | .tail e' z' n=>(e'=e/\z'=1/\n=rows.length) /\
            Ue k0 .dead lo fun lo=>VB lo 0 fun k=>rj lo (.tail e z (rows++qx str).length) fun lo=>R (.tsl k (rows++qx str)) lo
          | _=>False
        | _=>False
       | _=>False
      | none=>False
     | false=>False
    | _=>False
   | _=>False
 | op=>qbt P op E lo R
def BA (ops:List Oper) (o:Oper) (E:Env) (R:G->Prop):Prop:=
 match o.guard with
 | none=>R none
 | some (j,want)=>Qr j ops fun oj=>match oj.dst with
   | some d=>qam E d fun v=>match v with
    | .p (.bool b)=>match want with|true=>R (some b)|false=>R (some (!b))
    | .opt g' (.p (.bool b))=>match want with|true=>R (some (g'&&b))|false=>R (some (g'&&!b))
    | _=>False
   | none=>False
def tq (N:Nat) (d:Option Tmp) (v:FV) (E:Env) (R:Env->Prop):Prop:=
 match d with
 | some d=>match Nat.blt d N with
  | true=>iO v fun v=>R ((d,v)::E)
  | false=>False
 | none=>R E
def tZ (g:G) (v:FV):FV:=match g with|none=>v|some g=>.opt g v
def Rx (P:Program) (N:Nat) (all:List Oper) (o:Oper) (E:Env) (lo:List AObj) (R:Env->List AObj->Prop):Prop:=
 BA all o E fun g=>
  match Vz o.op with
  | true=>match o.op with
   | .load t x=>evS E g x fun x=>Zo P t lo x fun v=>tq N o.dst (tZ g v) E fun E=>R E lo
   | .convert s d x=>evS E g x fun x=>BD P g s d lo x fun v=>tq N o.dst (tZ g v) E fun E=>R E lo
   | .lookup t x i ok=>evS E g x fun x=>evS E g i fun i=>Zp P g t lo x i ok fun v=>tq N o.dst (tZ g v) E fun E=>R E lo
   | _=>False
  | false=>match nV o.op with
   | true=>match g with
    | none=>qak P o.op E lo fun v lo=>tq N o.dst v E fun E=>R E lo
    | some _=>False
   | false=>eN P o.op E g fun v=>tq N o.dst (tZ g v) E fun E=>R E lo
inductive AX where
 | normal|exit (id:Nat)|ret
def TT (inl:List Nat) (d:Option Tmp):Bool:=match d with|some d=>UL inl (10000000+d)|none=>false
def qgi (inl:List Nat) (d:Option Tmp):Bool:=match d with|some d=>UL inl (80000000+d)|none=>false
def qdt (inl:List Nat) (t:Tmp):Bool:=UL inl (20000000+t)
def Si (inl:List Nat) (id:Nat):Bool:=UL inl (40000000+id)
def gx (inl:List Nat) (o:Oper):Bool:=
 match o.op with
 | .call { callee:=.value (.func f),args:=_,argTypes:=_ }=>UL inl f
 | .call { callee:=.value (.tmp t),args:=_,argTypes:=_ }=>qdt inl t
 | .buildSlice _ _ _=>TT inl o.dst
 | .convert _ _ _=>TT inl o.dst
 | o=>nV o
def BK:Op->Bool
 | .box _ _|.alloc _|.makeMap _ _|.buildSlice _ _ _|.makeSlice _ _ _=>true
 | .call { callee:=.builtin .append,.. }=>true
 | _=>false
def dh (inl:List Nat) (o:Oper):Bool:=match o.op with
 | .store _ (.tmp t) _=>UL inl (50000000+t)
 | .call { callee:=.value (.tmp t),args:=_,argTypes:=_ }=>qdt inl t&&UL inl (85000000+t)
 | .call { callee:=.value (.func f),args:=_,argTypes:=_ }=>UL inl f&&UL inl (86000000+f)
 | _=>false
def LN (inl:List Nat) (o:Oper):Bool:=BK o.op||dh inl o
def qdc (sl:List Nat) (n0 k:Nat):Bool:=match Nat.blt k n0 with
 | true=>(match UL sl (60000000+1000 * n0+k)with|true=>false|false=>true)
 | false=>false
def tW (inl:List Nat) (o:Oper):Bool:=match o.dst with
 | some d=>UL inl (70000000+d)
 | none=>false
def iv (inl:List Nat) (m:Bool) (oi oj:Oper):Bool:=gx inl oi&&(gx inl oj||Vz oj.op&&!(m&&LN inl oi&&!tW inl oj))
def XK (ops:Array Oper) (i:Nat):Nat->Nat->Bool
 | 0,_=>false
 | f+1,j=>match ops[j]? with
  | some oj=>oj.after.any (fun e=>Region.binds .any e&&e.on==i)||oj.after.any (fun e=>Region.binds .any e&&XK ops i f e.on)
  | none=>false
def Region.effFree (inl:List Nat) (m:Bool) (ops:Array Oper) (listed:Array Bool) (i:Nat):Bool:=
 match ops[i]? with
 | none=>false
 | some oi=>(List.range ops.size).all fun j=>j==i||listed.getD j true||match ops[j]? with
   | some oj=>(!iv inl m oi oj&&!iv inl m oj oi)||XK ops i ops.size j
   | none=>true
def Region.effFrom (inl:List Nat) (m:Bool) (ops:Array Oper):Nat->Nat->Array Bool->Bool
 | 0,_,_=>true
 | fuel+1,k,listed=>Region.effFree inl m ops listed k&&Region.effFrom inl m ops fuel (k+1) (listed.setIfInBounds k true)
def MX (inl:List Nat) (m:Bool) (ops:Array Oper):Bool:=Go.Region.lexB .any ops&&Region.effFrom inl m ops ops.size 0 (Array.replicate ops.size false)
end Ax
end
section
namespace Ax
open Go
def dT (bs:Base) (ρ:List Value) (H:PH) (a:FV) (lo':List AObj) (v:Value) (w':World):Prop:=
 ∃ ρ' H',ρ <+: ρ'/\PH.le H H'/\SatW bs ρ' H' lo' w'/\qR ρ' H' a v
def MJ (P:Program) (bs:Base) (ρ:List Value) (H:PH) (a:FV) (lo':List AObj):Result Next->Prop
 | .ok (.value v) w'=>dT bs ρ H a lo' v w'
 | .ok .skip w'=>dT bs ρ H a lo' undef w'
 | .ok (.enter f args) w'=>Calls P f args w' fun c b=>∃ v,c=.returned v/\dT bs ρ H a lo' v b
 | _=>False
def fg (P:Program) (o:Oper) (e:Nat->FV) (lo:List AObj) (g:G) (a:FV) (lo':List AObj):Prop:=
 gOn g->∀ (bs:Base) (ρ:List Value) (H:PH) (w:World) (eval:Operand->Value),SatW bs ρ H lo w ->
  (∀ x∈o.op.operands,qR ρ H (evF e x) (eval x))->MJ P bs ρ H a lo' ((execOp eval o).run P w)
theorem uQ {bs:Base} {ρ:List Value} {H:PH} {a:FV} {lo:List AObj} {v:Value} {w:World} (s:SatW bs ρ H lo w) (r:qR ρ H a v) :
  dT bs ρ H a lo v w:=⟨ρ,H,jq _,PH.le.refl H,s,r⟩
theorem fY {g:G} {p:Prop} (h:gI g p) (a:gOn g):p:=by
 cases g with
 | none=>exact h
 | some b=>exact h a
theorem XH:∀ (E:Env) (t:Nat) (R:FV->Prop),qam E t R=R (qT E t)
 | [],_,_=>rfl
 | (t',v)::E,t,R=>by
  simp only[qam,qT];cases Nat.beq t t' with
  | true=>rfl
  | false=>exact XH E t R
theorem Bw (E:Env) (x:Operand) (R:FV->Prop):ev E x R=R (evF (qT E) x):=by
 cases x with
 | tmp t=>exact XH E t R
 | const v=>exact Na _ _
 | global g=>rfl
 | func f=>rfl
def Str (g:G) (f v:FV):Prop:=∀ ρ H x,gOn g->qR ρ H f x->qR ρ H v x
theorem qG {E:Env} {g:G} {x:Operand} {R:FV->Prop} (h:evS E g x R):∃ v,R v/\Str g (evF (qT E) x) v:=by
 unfold evS at h;rw[Bw]at h;generalize evF (qT E) x=f at *;cases f<;>simp only at h
 case opt g' v'=>
  refine⟨v',h.2,fun ρ H y b a=>?_⟩;have:=fY h.1 b;simpa[qR,this]using a
 all_goals exact⟨_,h,fun _ _ _ _ a=>a⟩
theorem UO {v:Value} {p:PV} (h:qda v=some p) (H:PH):qP H p v:=by
 unfold qda at h;split at h<;>(cases h)<;>simp[qP]
theorem Nz (H:PH):∀ {vs:List Value} {a:List PV},qeg vs=some a->zz H a vs
 | [],a,h=>by simp only[qeg]at h; cases h; simp[zz]
 | v::vs,a,h=>by
  simp only[qeg]at h;split at h
  ·rename_i p hp
   split at h
   ·rename_i l hl
    cases h;simp only[zz];exact⟨v,vs,rfl,UO hp H,Nz H hl⟩
   cases h
  ·cases h
theorem lV (v:Value) (ρ:List Value) (H:PH):qR ρ H (qe9 v) v:=by
 unfold qe9;split
 ·simp[qR,qP,zz]
 ·split
  ·rename_i h
   simp only[qR,qP];exact⟨_,rfl,Nz H h⟩
  trivial
 split
 ·rename_i h; exact UO h H
 trivial
theorem sB {ρ:List Value} {H:PH} {e:Nat->FV} {a:Act} (h:∀ t,qR ρ H (e t) (a.tmps.getD t undef)) (x:Operand):qR ρ H (evF e x) (a.eval x):=by
 cases x with
 | tmp t=>exact h t
 | const v=>exact lV v ρ H
 | func f=>simp[evF,qR,qP,Act.eval]
 | global g=>trivial
theorem rh {ρ:List Value} {H:PH} {b:Bool} {x:Value} (h:qR ρ H (.p (.bool b)) x):x=.bool b:=by simpa[qR,qP]using h
theorem xD {ρ:List Value} {H:PH} {k:IntKind} {n:Int} {x:Value} (h:qR ρ H (.p (.int k n)) x):x=.int k n:=by simpa[qR,qP]using h
theorem pt {ρ:List Value} {H:PH} {l:List UInt8} {x:Value} (h:qR ρ H (.p (.str l)) x):x=.string ⟨l.toArray⟩:=by simpa[qR,qP]using h
theorem dQ {ρ:List Value} {H:PH} {b:Bool}:qR ρ H (.p (.bool b)) (.bool b):=by simp[qR,qP]
theorem dq {ρ:List Value} {H:PH} {k:IntKind} {n:Int}:qR ρ H (.p (.int k n)) (.int k n):=by simp[qR,qP]
theorem Zx {ρ:List Value} {H:PH} {l:List UInt8}:qR ρ H (.p (.str l)) (.string ⟨l.toArray⟩):=by simp[qR,qP]
theorem df {α:Type}:∀ {n:Nat} {l:List α} {R:List α->Prop},UT n l R->R (l.take n)/\n<=l.length
 | 0,l,R,h=>by simpa[UT]using h
 | n+1,[],R,h=>by simp[UT]at h
 | n+1,a::l,R,h=>by
  have:=df (n:=n) (l:=l) (R:=fun l=>R (a::l)) h
  simpa using this
theorem fh {α:Type}:∀ {n:Nat} {l:List α} {R:List α->Prop},ZT n l R->R (l.drop n)/\n<=l.length
 | 0,l,R,h=>by simpa[ZT]using h
 | n+1,[],R,h=>by simp[ZT]at h
 | n+1,a::l,R,h=>by simpa using fh (n:=n) (l:=l) (R:=R) h
theorem zE {α:Type}:∀ {n:Nat} {l:List α} {R:α->Prop},Qr n l R->∃ a,l[n]? =some a/\R a
 | 0,[],R,h=>by simp[Qr]at h
 | 0,a::l,R,h=>⟨a,by simp,h⟩
 | n+1,[],R,h=>by simp[Qr]at h
 | n+1,a::l,R,h=>by simpa using zE (n:=n) (l:=l) (R:=R) h
theorem vB {α:Type}:∀ {n:Nat} {x:α} {l:List α} {R:List α->Prop},Ue n x l R->R (l.set n x)/\n<l.length
 | 0,x,[],R,h=>by simp[Ue]at h
 | 0,x,a::l,R,h=>by simpa[Ue]using h
 | n+1,x,[],R,h=>by simp[Ue]at h
 | n+1,x,a::l,R,h=>by simpa using vB (n:=n) (x:=x) (l:=l) (R:=fun l=>R (a::l)) h
theorem xc {α:Type}:∀ {l:List α} {x:α} {R:List α->Prop},rj l x R->R (l++[x])
 | [],x,R,h=>by simpa[rj]using h
 | a::l,x,R,h=>xc (l:=l) (x:=x) (R:=fun l=>R (a::l)) h
theorem xb {α:Type}:∀ {l:List α} {n:Nat} {R:Nat->Prop},VB l n R->R (n+l.length)
 | [],n,R,h=>by simpa[VB]using h
 | a::l,n,R,h=>by
  have:=xb (l:=l) (n:=n+1) (R:=R) h;simpa[Nat.add_comm,Nat.add_left_comm,Nat.add_assoc]using this
theorem Zk {P:Program} {t f:Nat} {R:Nat->TypeId->Prop} (h:EE P t f R) :
  ∃ b x i,P.underlying t=some (.struct b)/\b[f]? =some x/\P.info? x.type=some i/\i.size≠0/\R x.offset x.type:=by
 unfold EE at h;split at h
 ·rename_i b hu
  obtain⟨x,c,a⟩:=zE h;split at a
  ·rename_i i d
   split at a
   ·exact a.elim
   rename_i hz;exact⟨_,x,i,hu,by simpa using c,d,fun e=>by simp[e]at hz,a⟩
  exact a.elim
 exact h.elim
theorem vZ {P:Program} {t:TypeId} {R:Bool->Nat->Prop} (h:mT P t R) :
  ∃ d i,P.underlying t=some d/\P.info? t=some i/\R (oY d) i.size:=by
 unfold mT at h;split at h
 ·rename_i d a
  split at h
  ·rename_i i b; exact⟨d,i,a,b,h⟩
  exact h.elim
 exact h.elim
theorem vY {P:Program} {t:TypeId} {R:TypeId->Nat->Prop} (h:Vq P t R) :
  ∃ e i,P.underlying t=some (.slice e)/\P.info? e=some i/\R e i.size:=by
 unfold Vq at h;split at h
 ·rename_i e he
  split at h
  ·rename_i i a; exact⟨e,i,he,a,h⟩
  exact h.elim
 exact h.elim
theorem iQ {v:FV} {R:PV->Prop} (h:qc7 v R):∃ p,R p/\∀ ρ H x,qR ρ H v x->qP H p x:=by
 cases v<;>simp only[qc7]at h
 case p p=>exact⟨p,h,fun _ _ _ r=>r⟩
 case tsl k rows=>exact⟨_,h,fun _ _ _ r=>r.2⟩
 case hptr row=>exact⟨_,h,fun _ _ _ r=>by simp only[qR]at r; simp only[qP]; exact r⟩
theorem GC:∀ {c:FV} {R:List PV->Prop},Bq c R->∃ d,R d/\∀ (ρ:List Value) (H:PH) (vs:List Value),qR ρ H c (.tuple vs.toArray)->zz H d vs
 | .cap0,R,h=>⟨[],h,fun ρ H vs r=>by
   simp only[qR,Value.tuple.injEq]at r;simpa[zz]using r⟩
 | .cap a b,R,h=>by
  simp only[Bq]at h;obtain⟨p,h,hp⟩:=iQ h;obtain⟨d,h,f⟩:=GC h;refine⟨_,h,fun ρ H vs r=>?_⟩;obtain⟨u,us,e,g,i⟩:=r;have e:vs=u::us:=by simpa using e
  subst e;simp only[zz];exact⟨u,us,rfl,hp _ _ _ g,f _ _ _ i⟩
 | .top,_,h|.p _,_,h|.opt _ _,_,h|.tsl _ _,_,h|.ptr _ _,_,h|.hptr _,_,h|.bself _,_,h|.bsl _ _ _ _,_,h|.vsl _ _,_,h|.eptr _ _ _ _,_,h|.mref _,_,h|.pair _ _,_,h|.stmp _,_,h|.clo _ _,_,h|.fagg _,_,h|.nxt _ _ _,_,h|.asl _ _ _,_,h|.ifs _ _,_,h=>by
  simp[Bq]at h
theorem dB {v:FV} {R:PV->Prop} (h:PR v R):∃ p,R p/\∀ ρ H x,qR ρ H v x->qP H p x:=by
 cases v<;>simp only[PR]at h
 case p p=>exact⟨p,h,fun _ _ _ r=>r⟩
 case tsl k rows=>exact⟨_,h,fun _ _ _ r=>r.2⟩
 case hptr row=>exact⟨_,h,fun _ _ _ r=>by simp only[qR]at r; simp only[qP]; exact r⟩
 case clo f c=>
  obtain⟨b,h,a⟩:=GC h;exact⟨_,h,fun ρ H x r=>by obtain⟨vs,e,rc⟩:=r; simp only[qP]; exact⟨vs,e,a _ _ _ rc⟩⟩
theorem dC:∀ {l:List FV} {R:List PV->Prop},Pd l R->∃ a,R a/\∀ ρ H vs,zZ ρ H l vs->zz H a vs
 | [],R,h=>⟨[],h,fun _ _ vs r=>by simpa[zz,zZ]using r⟩
 | v::l,R,h=>by
  simp only[Pd]at h;obtain⟨p,h1,h2⟩:=dB h;obtain⟨a,h3,h4⟩:=dC h1;refine⟨_,h3,fun ρ H vs r=>?_⟩;obtain⟨x,b,e,c,d⟩:=r;simp only[zz];exact⟨x,b,e,h2 _ _ _ c,h4 _ _ _ d⟩
theorem mz {E:Env} {g:G}:∀ {l:List Operand} {R:List FV->Prop},evL E g l R ->
  ∃ vs,R vs/\∀ ρ H (eval:Operand->Value),gOn g->(∀ x∈l,qR ρ H (evF (qT E) x) (eval x))->zZ ρ H vs (l.map eval)
 | [],R,h=>⟨[],h,fun _ _ _ _ _=>by simp[zZ]⟩
 | x::l,R,h=>by
  simp only[evL]at h;obtain⟨v,h1,h2⟩:=qG h;obtain⟨vs,h3,h4⟩:=mz h1;refine⟨_,h3,fun ρ H eval a b=>?_⟩;simp only[jk,zZ];exact⟨_,_,rfl,h2 _ _ _ a (b x (by simp)),h4 _ _ _ a (fun y c=>b y (by simp[c]))⟩
theorem tt (l:List UInt8):(⟨l.toArray⟩:ByteArray).size=l.length:=ByteArray.size_mk_toArray l
section
variable {P:Program} {bs:Base} {ρ:List Value} {H:PH} {lo:List AObj} {w:World}
theorem Cd {t:TypeId} (hu:P.underlying t=some .bool) (n:Nat) (a b:Bool):(Op.equalIn (n+1) t (.bool a) (.bool b)).run P w=.ok (a==b) w:=by
 simp[Op.equalIn,kru hu]
theorem Ev {t:TypeId} (hu:P.underlying t=some .bool) (a b:Bool):(Op.equal t (.bool a) (.bool b)).run P w=.ok (a==b) w:=
 Cd hu 9999 a b
theorem sH {t:TypeId} {d:TypeDesc} (hu:P.underlying t=some d):(isAgg t).run P w=.ok (oY d) w:=by
 simp only[isAgg,ke,kru hu,kc];cases d<;>rfl
def eqV:List PV->List PV->Option Bool
 | [],[]=>some true
 | .int k a::az,.int k' b::bs=>match Fc k k' with
  | true=>(eqV az bs).map fun c=>bif a==b then c else false
  | false=>none
 | .str a::az,.str b::bs=>(eqV az bs).map fun c=>bif a==b then c else false
 | .bool a::az,.bool b::bs=>(eqV az bs).map fun c=>bif a==b then c else false
 | _,_=>none
theorem MZ:∀ {az bs:List PV} {R:Bool->Prop},iH az bs R->∃ c,R c/\eqV az bs=some c:=by
 intro az
 induction az with
 | nil=>intro bs R h; cases bs with
  | nil=>exact⟨true,h,rfl⟩
  | cons b bs=>simp[iH]at h
 | cons a az ih=>
  intro bs R h;cases bs with
  | nil=>cases a<;>simp[iH]at h
  | cons b bs=>
   cases a<;>cases b<;>first
    | (simp[iH]at h; done)
    | (simp only[iH]at h; obtain⟨c,d,e⟩:=ih h; exact⟨_,d,by simp[eqV,e]⟩)
    | skip
   simp only[iH]at h;split at h
   ·rename_i f
    obtain⟨c,d,e⟩:=ih h;exact⟨_,d,by simp[eqV,f,e]⟩
   exact h.elim
theorem il (a b:List UInt8):((⟨a.toArray⟩:ByteArray).toList==(⟨b.toArray⟩:ByteArray).toList)=(a==b):=by
 rw[ByteArray.toList_eq,ByteArray.toList_eq]
theorem NO {H:PH} {xs ys:Array Value}:∀ {fs:List Field} {o:Nat} {az bs:List PV} {va vb:List Value} {c:Bool},Ta P fs o az=true->zz H az va->zz H bs vb ->
  (∀ j v,va[j]? =some v->xs[o+j]? =some v)->(∀ j v,vb[j]? =some v->ys[o+j]? =some v)->eqV az bs=some c->(Op.eqFields 9999 xs ys fs).run P w=.ok c w:=by
 intro fs
 induction fs with
 | nil=>
  intro o az bs va vb c hf ra rb hx hy he;cases az with
  | nil=>cases bs with
   | nil=>simp[eqV]at he; subst he; simp[Op.eqFields]
   | cons b bs=>simp[eqV]at he
  | cons a az=>simp[Ta]at hf
 | cons f fs ih=>
  intro o az bs va vb c hf ra rb hx hy he;cases az with
  | nil=>simp[Ta]at hf
  | cons a az=>
   cases bs with
   | nil=>cases a<;>simp[eqV]at he
   | cons b bs=>
    simp only[Ta,Bool.and_eq_true]at hf;obtain⟨⟨⟨hn,ho⟩,hk⟩,hf⟩:=hf;have hn:f.name ≠ "_" :=by simpa using hn
    have ho:f.offset=o:=jm ho;simp only[zz]at ra rb;obtain⟨v,va',rfl,rv,ra'⟩:=ra;obtain⟨u,vb',rfl,ru,rb'⟩:=rb;have hxv:=hx 0 v rfl;have hyu:=hy 0 u rfl;simp only[Nat.add_zero]at hxv hyu;have step:∀ {x y:Bool},eqV az bs=some y->(Op.eqFields 9999 xs ys fs).run P w=.ok y w:=fun{x y} hxy=>
     ih hf ra' rb' (fun j v hv=>by rw[Nat.add_assoc,Nat.add_comm 1 j]; exact hx (j+1) v hv) (fun j v hv=>by rw[Nat.add_assoc,Nat.add_comm 1 j]; exact hy (j+1) v hv) hxy
    have fin:∀ {d:TypeDesc} {q:Bool},P.underlying f.type=some d->oY d=false->(Op.equalIn 9999 f.type v u).run P w=.ok q w->((eqV az bs).map fun c=>bif q then c else false)=some c ->
      (Op.eqFields 9999 xs ys (f::fs)).run P w=.ok c w:=by
     intro d q hu ha hq hc;cases he2:eqV az bs with
     | none=>rw[he2]at hc; cases hc
     | some y=>
      rw[he2]at hc;have hc:(bif q then y else false)=c:=by simpa using hc
      simp only[Op.eqFields,if_pos hn,ke,part,ho,sH hu,ha,kc,hxv,hyu];simp[hq];cases q with
      | true=>simp at hc; subst hc; simpa using step (x:=true) he2
      | false=>simp at hc; subst hc; simp
    cases a<;>cases b<;>simp only[eqV]at he<;>first|(cases he; done)|skip
    ·split at hk
     all_goals first
      | (cases hk; done)
      | (rename_i hu hq; cases hq; done)
      | (rename_i hu hq; simp only[qP]at rv ru; subst rv ru; exact fin hu rfl (run_equalIn_bool' w _ _ _ _ hu) he)
    ·split at he
     ·rename_i hkk
      have hkk:=mQ hkk;subst hkk;split at hk
      all_goals first
       | (cases hk; done)
       | (rename_i hu hq; cases hq; done)
       | (rename_i hu hq; simp only[qP]at rv ru; subst rv ru; exact fin hu rfl (run_equalIn_int w _ _ _ _ _ _ hu) he)
     ·cases he
    split at hk
    all_goals first
     | (cases hk; done)
     | (rename_i hu hq; cases hq; done)
     | (rename_i hu hq; simp only[qP]at rv ru; subst rv ru; exact fin hu rfl (run_equalIn_string w _ _ _ _ hu) (by rw[il]; exact he))
theorem NN {H:PH} {t:TypeId} {az bs:List PV} {e f:List Value} {c:Bool} (a:eG P t az=true) (g:zz H az e) (h:zz H bs f) (he:eqV az bs=some c) :
  P.eqGuardType P.depth t=false/\(Op.equalIn 10000 t (.agg e.toArray) (.agg f.toArray)).run P w=.ok c w:=by
 unfold eG at a;split at a
 ·rename_i i hu
  simp only[Bool.and_eq_true,Bool.not_eq_true']at a;obtain⟨⟨h1,h2⟩,h3⟩:=a;refine⟨h2,?_⟩;have b:P.fieldsOf t=⟨i⟩:=by simp[Program.fieldsOf,hu]
  rw[run_equalIn_agg w 9999 t _ _ (by rw[b]; exact hu) h1,b];exact NO (o:=0) h3 g h (fun j v d=>by simpa using d) (fun j v d=>by simpa using d) he
 cases a
theorem la {g:G} {op:BinOp} {t:TypeId} {x y:FV} {R:FV->Prop} (h:qfr P g op t x y R) :
  ∃ u,R u/\(gOn g->∀ (ρ:List Value) (H:PH) (w:World) (i j:Operand) (a b:Value),qR ρ H x a->qR ρ H y b ->
   ∃ v,(do eqGuard op t i j a b; binOp op t a b:Sem Value).run P w=.ok v w/\qR ρ H u v):=by
 unfold qfr at h;split at h
 ·rename_i k n
  split at h
  ·rename_i k' m
   split at h
   ·refine⟨_,h.2,fun f ρ H w i j a b d e=>?_⟩
    rw[xD d,xD e];have p:=fY h.1 f;exact⟨_,by simp[eqGuard,binOp,Op.shift,show ¬ m<0 by omega],dq⟩
   ·refine⟨_,h.2,fun f ρ H w i j a b d e=>?_⟩
    rw[xD d,xD e];have p:=fY h.1 f;exact⟨_,by simp[eqGuard,binOp,Op.shift,show ¬ m<0 by omega],dq⟩
   ·split at h
    case h_2=>exact h.elim
    rename_i o;have o:=mQ o;obtain⟨p,h⟩:=h;refine⟨_,h,fun f ρ H w i j a b d e=>?_⟩;rw[xD d,xD e];have p:=fY p f;exact⟨_,by simp[eqGuard,binOp,Op.intDiv,o,p],dq⟩
   ·split at h
    case h_2=>exact h.elim
    rename_i o;have o:=mQ o;obtain⟨p,h⟩:=h;refine⟨_,h,fun f ρ H w i j a b d e=>?_⟩;rw[xD d,xD e];have p:=fY p f;exact⟨_,by simp[eqGuard,binOp,Op.intDiv,o,p],dq⟩
   split at h
   case h_2=>exact h.elim
   rename_i o;have o:=mQ o;subst o;unfold qf7 at h;split at h<;>first
    | exact h.elim
    | (refine⟨_,h,fun f ρ H w i j a b d e=>?_⟩; rw[xD d,xD e]; exact⟨_,by simp[eqGuard,binOp,Op.intArith,Op.intBits,Op.intCmp]<;>rfl,by simp[qR,qP]⟩)
  ·exact h.elim
 ·rename_i l
  split at h
  ·rename_i m
   unfold qf8 at h;split at h
   ·obtain⟨q,h⟩:=h
    refine⟨_,h,fun f ρ H w i j a b d e=>?_⟩;rw[pt d,pt e];have q:=fY q f;refine⟨.string ⟨(l++m).toArray⟩,?_,Zx⟩;have:=run_string_add_sum (P:=P) w ⟨l.toArray⟩ ⟨m.toArray⟩ (by rw[tt,tt]; unfold Vr at q; omega);simp[eqGuard,binOp,this,ByteArray.mk_append_mk]
   all_goals first
    | exact h.elim
    | (refine⟨_,h,fun f ρ H w i j a b d e=>?_⟩; rw[pt d,pt e]; exact⟨_,by simp[eqGuard,binOp,Op.stringOp]<;>rfl,by simp[qR,qP]⟩)
  ·exact h.elim
 ·rename_i a'
  split at h
  ·rename_i B
   unfold iY at h;split at h
   ·rename_i hu
    unfold qf6 at h;split at h<;>first
     | exact h.elim
     | (refine⟨_,h,fun f ρ H w i j a b d e=>?_⟩; rw[rh d,rh e]; exact⟨_,by simp only[eqGuard,binOp,ke,Ev hu]; rfl,by simp[qR,qP]⟩)
   ·exact h.elim
  exact h.elim
 ·rename_i az
  split at h
  ·rename_i bs
   split at h
   ·obtain⟨r,h⟩:=h
    obtain⟨c,s,he⟩:=MZ h;refine⟨_,s,fun f ρ H w i j a b d e=>?_⟩;simp only[qR,qP]at d e;obtain⟨z,rfl,d⟩:=d;obtain⟨A,rfl,e⟩:=e;obtain⟨h1,h2⟩:=NN (w:=w) r d e he;exact⟨.bool c,by rw[ke,run_eqGuard_agg w _ t i j _ _ h1,kc,run_eql_struct,h2]; rfl,by simp[qR,qP]⟩
   ·obtain⟨r,h⟩:=h
    obtain⟨c,s,he⟩:=MZ h;refine⟨_,s,fun f ρ H w i j a b d e=>?_⟩;simp only[qR,qP]at d e;obtain⟨z,rfl,d⟩:=d;obtain⟨A,rfl,e⟩:=e;obtain⟨h1,h2⟩:=NN (w:=w) r d e he;exact⟨.bool (!c),by rw[ke,run_eqGuard_agg w _ t i j _ _ h1,kc,run_neq_struct,h2]; rfl,by simp[qR,qP]⟩
   exact h.elim
  exact h.elim
 exact h.elim
theorem Re {t:TypeId} {x:FV} {f:Nat} {R:FV->Prop} (h:lj P t x f R) :
  ∃ p,R p/\∀ (ρ:List Value) (H:PH) (w:World) (a:Value),qR ρ H x a->∃ v,(Instr.fieldAt t a f).run P w=.ok v w/\qR ρ H p v:=by
 unfold lj at h;split at h
 ·rename_i k off
  obtain⟨r,y,i,hu,e,g,hz,d⟩:=Zk h;refine⟨_,d,fun ρ H w a l=>?_⟩;obtain⟨b,m,rfl⟩:=l;exact⟨.pointer (some ⟨b,off+y.offset,none⟩),by simp[Instr.fieldAt,kru hu,e,Instr.sureAddr,fieldPlace,Go.sizeOf,typeInfo,g,hz,Addr.add_lit],b,m,rfl⟩
 ·rename_i row
  obtain⟨r,y,i,hu,e,g,hz,d⟩:=Zk h;obtain⟨d,hlen⟩:=fh d;refine⟨_,d,fun ρ H w a l=>?_⟩;obtain⟨b,o,vs,rfl,q,c⟩:=l;refine⟨.pointer (some ⟨b,o+y.offset,none⟩),by simp[Instr.fieldAt,kru hu,e,Instr.sureAddr,fieldPlace,Go.sizeOf,typeInfo,g,hz,Addr.add_lit],b,o+y.offset,vs.drop y.offset,rfl,q.drop _,fun j v s=>?_⟩;rw[jD]at s;have:=c _ _ s
  rwa [← Nat.add_assoc]at this
 ·rename_i k z u off
  obtain⟨r,y,i,hu,e,g,hz,d⟩:=Zk h;refine⟨_,d,fun ρ H w a l=>?_⟩;obtain⟨b,n,cap,m,rfl⟩:=l;exact⟨.pointer (some ⟨b,u * z+off+y.offset,none⟩),by simp[Instr.fieldAt,kru hu,e,Instr.sureAddr,fieldPlace,Go.sizeOf,typeInfo,g,hz,Addr.add_lit],b,n,cap,m,by rw[Nat.add_assoc]⟩
 exact h.elim
theorem Th {t:TypeId} {x:FV} {f:Nat} {R:FV->Prop} (h:qbv P t x f R) :
  ∃ m,R m/\∀ (ρ:List Value) (H:PH) (w:World) (a:Value),qR ρ H x a->∃ v,(Instr.field t a f).run P w=.ok v w/\qR ρ H m v:=by
 unfold qbv at h;split at h
 ·rename_i cs
  obtain⟨C,y,i,hu,n,s,hz,b⟩:=Zk h;obtain⟨b,hlen⟩:=fh b;obtain⟨d,o,p,g,b⟩:=vZ b;have k:o=i:=Option.some.inj (g.symm.trans s);subst k;split at b
  ·rename_i e
   obtain⟨b,hl⟩:=df b;refine⟨_,b,fun ρ H w a j=>?_⟩;simp only[qR,qP]at j;obtain⟨vs,rfl,q⟩:=j;refine⟨.agg ((vs.drop y.offset).take o.size).toArray,?_,?_⟩
   ·simp[Instr.field,kru hu,n,asAgg,part,sH p,e,Go.sizeOf,typeInfo,g,List.extract_toArray,List.extract_eq_take_drop]
   simp only[qR,qP]; exact⟨_,rfl,(q.drop _).take _⟩
  rename_i e;split at b
  ·rename_i c r u
   refine⟨_,b,fun ρ H w a j=>?_⟩;simp only[qR,qP]at j;obtain⟨vs,rfl,q⟩:=j;have z:cs[y.offset]? =some c:=by
    have:=congrArg (fun l=>l[0]?) u
    simpa[jD]using this
   obtain⟨v,A,B⟩:=q.get z;exact⟨v,by simp[Instr.field,kru hu,n,asAgg,part,sH p,e,A],B⟩
  exact b.elim
 exact h.elim
theorem GY {ρ:List Value} {H:PH} {w:World} {t e:TypeId} {f:TypeInfo} (hu:P.underlying t=some (.slice e)) (j:P.info? e=some f) {rows:List (List PV)} {a:Value} (h:qP H (.sl rows) a)
  {k:IntKind} {i:Int} {row:List PV} (l:0<=i) (d:rows[i.toNat]? =some row) (hlen:row.length=f.size) :
  ∃ v,(Instr.indexAt t a (.int k i)).run P w=.ok v w/\qR ρ H (.hptr row) v:=by
 simp only[qP]at h;rcases h with ⟨rfl,_⟩|⟨b,o,z,cap,rfl,n,m⟩
 ·simp at d
 obtain⟨hz,vs,q,c⟩:=m.get d;have g:i<rows.length:=by have:=(jG.1 d).1; omega
 refine⟨.pointer (some ⟨b,o+i.toNat * f.size,none⟩),?_,b,_,vs,rfl,q,?_⟩
 ·simp[Instr.indexAt,kru hu,asIntOf,l,g,Go.sizeOf,typeInfo,j,Addr.add_lit]
 rw[← hlen,hz]; exact c
theorem BE {g:G} {t:TypeId} {x i:FV} {R:FV->Prop} (h:GH P g t x i R) :
  ∃ D,R D/\(gOn g->∀ (ρ:List Value) (H:PH) (w:World) (a b:Value),qR ρ H x a->qR ρ H i b->∃ v,(Instr.indexAt t a b).run P w=.ok v w/\qR ρ H D v):=by
 unfold GH at h;split at h
 ·obtain⟨e,f,hu,l,row,m,p⟩:=vY h
  refine⟨_,p,fun q ρ H w a b r s=>?_⟩;obtain⟨B,h1,h2⟩:=fY m q;rw[xD s];exact GY hu l r B h1 h2
 ·obtain⟨e,f,hu,l,row,m,p⟩:=vY h
  refine⟨_,p,fun q ρ H w a b r s=>?_⟩;obtain⟨B,h1,h2⟩:=fY m q;rw[xD s];exact GY hu l r.2 B h1 h2
 ·rename_i k off C n
  split at h
  ·rename_i len e hu
   split at h
   ·rename_i f l
    obtain⟨y,p⟩:=h;refine⟨_,p,fun q ρ H w a b r s=>?_⟩;obtain⟨B,h1⟩:=fY y q;obtain⟨d,m,rfl⟩:=r;rw[xD s];refine⟨.pointer (some ⟨d,off+n.toNat * f.size,none⟩),?_,d,m,rfl⟩;simp[Instr.indexAt,kru hu,asIntOf,Instr.sureAddr,B,h1,Go.sizeOf,typeInfo,l,Addr.add_lit]
   exact h.elim
  exact h.elim
 ·rename_i k n C i0
  obtain⟨e,f,hu,l,j,y,p⟩:=vY h;refine⟨_,p,fun q ρ H w a b r s=>?_⟩;obtain⟨rfl,A⟩:=fY y q;obtain⟨m,⟨B,_⟩|⟨d,cap,rfl⟩⟩:=r
  ·omega
  rw[xD s];refine⟨.pointer (some ⟨d,j * f.size,none⟩),?_,d,n,cap,m,by rw[Nat.add_zero]⟩;simp[Instr.indexAt,kru hu,asIntOf,A,Go.sizeOf,typeInfo,l,Addr.add_lit]
 ·rename_i row C n
  split at h
  ·rename_i len e hu
   split at h
   ·rename_i f l
    obtain⟨y,p⟩:=h;refine⟨_,p,fun q ρ H w a b r s=>?_⟩;obtain⟨B,h1⟩:=fY y q;obtain⟨d,o,vs,rfl,m,E⟩:=r;rw[xD s];refine⟨.pointer (some ⟨d,o+n.toNat * f.size,none⟩),?_,d,o+n.toNat * f.size,(vs.drop (n.toNat * f.size)).take f.size,rfl,(m.drop _).take _,fun j u A=>?_⟩
    ·simp[Instr.indexAt,kru hu,asIntOf,Instr.sureAddr,B,h1,Go.sizeOf,typeInfo,l,Addr.add_lit]
    rw[jE]at A;split at A
    ·rw[jD]at A
     rw[Nat.add_assoc];exact E _ _ A
    cases A
   ·exact h.elim
  exact h.elim
 ·rename_i k off n I C i0
  obtain⟨e,f,hu,l,y,p⟩:=vY h;refine⟨_,p,fun q ρ H w a b r s=>?_⟩;obtain⟨rfl,F⟩:=fY y q;obtain⟨d,m,c,rfl,_⟩:=r;rw[xD s];refine⟨.pointer (some ⟨d,off,none⟩),?_,d,m,rfl⟩;have h1:(0:Int)<(n:Int):=by omega
  simp[Instr.indexAt,kru hu,asIntOf,h1,F,Go.sizeOf,typeInfo,l,Addr.add_lit]
 ·rename_i k z C i0
  split at h
  ·rename_i len e hu
   split at h
   ·rename_i f l
    split at h
    ·rename_i hz
     have hz:f.size=1:=jm hz;obtain⟨j,y,p⟩:=h;refine⟨_,p,fun q ρ H w a b r s=>?_⟩;obtain⟨rfl,rfl,A⟩:=fY y q;obtain⟨d,n,cap,m,rfl⟩:=r;rw[xD s];refine⟨.pointer (some ⟨d,j,none⟩),?_,d,n,cap,m,by simp⟩;simp[Instr.indexAt,kru hu,asIntOf,Instr.sureAddr,A,Go.sizeOf,typeInfo,l,hz,Addr.add_lit]
    exact h.elim
   exact h.elim
  exact h.elim
 exact h.elim
theorem Rf {g:G} {t:TypeId} {x i:FV} {R:FV->Prop} (h:lk P g t x i R) :
  ∃ A,R A/\(gOn g->∀ (ρ:List Value) (H:PH) (w:World) (a b:Value),qR ρ H x a->qR ρ H i b->∃ v,(Instr.index t a b).run P w=.ok v w/\qR ρ H A v):=by
 unfold lk at h;split at h
 ·rename_i l k n
  split at h
  ·rename_i hu
   obtain⟨b,m,o⟩:=h;refine⟨_,o,fun p ρ H w x y j r=>?_⟩;obtain⟨s,h1⟩:=fY m p;rw[pt j,xD r];refine⟨_,?_,dq⟩;have u:=(jG.1 h1).1;have D:(⟨l.toArray⟩:ByteArray)[n.toNat]? =some b:=by
    rw[ByteArray.getElem?_lt' _ _ (by rw[tt]; exact u)];have:=(jG.1 h1).2;rw[← this];rfl
   simp[Instr.index,asIntOf,kru hu,s,D]
  exact h.elim
 ·rename_i cs k n
  split at h
  ·rename_i len e hu
   obtain⟨d,z,B,C,h⟩:=vZ h;split at h
   ·rename_i f
    split at h
    ·rename_i hz
     have hz:z.size=1:=jm hz;obtain⟨c,m,o⟩:=h;refine⟨_,o,fun p ρ H w x y j r=>?_⟩;obtain⟨s,h1,h2⟩:=fY m p;simp only[qR,qP]at j;obtain⟨vs,rfl,q⟩:=j;obtain⟨v,E,F⟩:=q.get h2;rw[xD r];refine⟨v,?_,F⟩;simp[Instr.index,asIntOf,kru hu,s,h1,Go.sizeOf,typeInfo,C,hz,part,sH B,f,E]
    exact h.elim
   rename_i f;obtain⟨c,m,o⟩:=h;refine⟨_,o,fun p ρ H w x y j r=>?_⟩;obtain⟨s,h1,h2⟩:=fY m p;simp only[qR,qP]at j;obtain⟨vs,rfl,q⟩:=j;rw[xD r];refine⟨.agg ((vs.drop (n.toNat * z.size)).take z.size).toArray,?_,?_⟩
   ·simp[Instr.index,asIntOf,kru hu,s,h1,Go.sizeOf,typeInfo,C,part,sH B,f,List.extract_toArray,List.extract_eq_take_drop]
   simp only[qR,qP];exact⟨_,rfl,by rw[← h2]; exact(q.drop _).take _⟩
  exact h.elim
 exact h.elim
theorem ll {t:TypeId} {x:FV} {R:FV->Prop} (h:qfs P t x R) :
  ∃ d,R d/\∀ (ρ:List Value) (H:PH) (w:World) (ty:TypeId) (a:Value),qR ρ H x a->∃ v,(Builtin.len_ #[t] ty #[a]).run P w=.ok v w/\qR ρ H d v:=by
 have slice:∀ (e:TypeId),P.underlying t=some (.slice e)->∀ (rows:List (List PV)) (H:PH) (w:World) (ty:TypeId) (a:Value),qP H (.sl rows) a->(Builtin.len_ #[t] ty #[a]).run P w=.ok (.int .i64 rows.length) w:=by
  intro e hu rows H w ty a c;simp only[qP]at c;rcases c with ⟨rfl,rfl|⟨a',f,rfl⟩⟩|⟨b,o,z,cap,rfl,_,_⟩
  ·simp[Builtin.len_,kru hu,goInt]
  ·simp[Builtin.len_,kru hu,goInt]
  simp[Builtin.len_,kru hu,goInt]
 unfold qfs at h;split at h
 ·rename_i l
  split at h
  ·rename_i hu
   refine⟨_,h,fun ρ H w ty a c=>⟨.int .i64 l.length,?_,dq⟩⟩;rw[pt c];simp[Builtin.len_,kru hu,goInt,tt]
  exact h.elim
 ·rename_i rows
  split at h
  ·rename_i e hu
   exact⟨_,h,fun ρ H w ty a c=>⟨_,slice e hu rows H w ty a c,dq⟩⟩
  exact h.elim
 ·rename_i k rows
  split at h
  ·rename_i e hu
   exact⟨_,h,fun ρ H w ty a c=>⟨_,slice e hu rows H w ty a c.2,dq⟩⟩
  exact h.elim
 ·rename_i k off n cap
  split at h
  ·rename_i e hu
   refine⟨_,h,fun ρ H w ty a c=>⟨.int .i64 n,?_,dq⟩⟩;obtain⟨b,_,_,rfl,_⟩:=c;simp[Builtin.len_,kru hu,goInt]
  exact h.elim
 ·rename_i k n
  split at h
  ·rename_i e hu
   refine⟨_,h,fun ρ H w ty a c=>⟨.int .i64 n,?_,dq⟩⟩;obtain⟨_,⟨rfl,rfl⟩|⟨b,cap,rfl⟩⟩:=c<;>simp[Builtin.len_,kru hu,goInt]
  exact h.elim
 ·split at h
  ·rename_i e hu
   refine⟨_,h,fun ρ H w ty a c=>⟨.int .i64 0,?_,dq⟩⟩;simp only[qR,qP]at c;subst c;simp[Builtin.len_,kru hu,goInt]
  exact h.elim
 exact h.elim
theorem LD {s d:TypeId} {x:FV} {R:FV->Prop} (h:LC P s d x R) :
  ∃ e,R e/\∀ (ρ:List Value) (H:PH) (w:World) (a:Value),qR ρ H x a->∃ v,(convert s d a).run P w=.ok v w/\qR ρ H e v:=by
 unfold LC at h;split at h
 ·split at h
  ·rename_i hu
   split at h
   ·rename_i k b
    refine⟨_,h,fun ρ H w a c=>⟨_,?_,dq⟩⟩;rw[xD c];simp[convert,kru hu,kru b,Conv.intToInt]
   exact h.elim
  exact h.elim
 ·split at h
  ·rename_i hu
   split at h
   ·rename_i b
    refine⟨_,h,fun ρ H w a c=>⟨_,?_,Zx⟩⟩;rw[pt c];simp[convert,kru hu,kru b]
   exact h.elim
  exact h.elim
 exact h.elim
theorem gK {E:Env} {g:G} {x:Option Operand} {d:Nat} {R:Nat->Prop} (h:ZE E g x d R) :
  ∃ n,R n/\(∀ (ρ:List Value) (H:PH) (eval:Operand->Value),gOn g->(∀ y∈x.toArray,qR ρ H (evF (qT E) y) (eval y))->(x=none/\n=d)\/∃ y k,x=some y/\eval y=.int k n):=by
 unfold ZE at h;split at h
 ·exact⟨d,h,fun _ _ _ _ _=>.inl ⟨rfl,rfl⟩⟩
 rename_i y;obtain⟨v,h,b⟩:=qG h;split at h
 ·rename_i k i
  obtain⟨n,c,e⟩:=h;refine⟨n,e,fun ρ H eval a f=>.inr ⟨y,k,rfl,?_⟩⟩;rw[xD (b ρ H _ a (f y (by simp))),fY c a]
 exact h.elim
theorem rE {isSlice:Bool} {len cap:Nat} {lo b:Option Operand} {eval:Operand->Value} {a h:Nat} (c:(lo=none/\a=0)\/∃ y k,lo=some y/\eval y=.int k a)
  (d:(b=none/\h=len)\/∃ y k,b=some y/\eval y=.int k h) (h1:a<=h) (h2:h<=cap) :
  (Instr.sliceBounds isSlice len cap (lo.map eval) (b.map eval) none).run P w=.ok (a,h,cap) w:=by
 rcases c with ⟨rfl,rfl⟩|⟨y,k,rfl,f⟩<;>rcases d with ⟨rfl,rfl⟩|⟨g,k',rfl,e⟩ <;>
  simp[Instr.sliceBounds,Instr.sliceBound,asIntOf, *,Int.toNat_natCast]
theorem Rj {E:Env} {g:G} {t:TypeId} {x:FV} {lo j L:Option Operand} {R:FV->Prop} (h:lr P E g t x lo j L R) :
  ∃ M,R M/\(∀ (ρ:List Value) (H:PH) (w:World) (eval:Operand->Value) (v:Value),gOn g->qR ρ H x v->(∀ y∈lo.toArray,qR ρ H (evF (qT E) y) (eval y))->(∀ y∈j.toArray,qR ρ H (evF (qT E) y) (eval y)) ->
   L=none/\∃ u,(Instr.sliceAt t v (lo.map eval) (j.map eval) none).run P w=.ok u w/\qR ρ H M u):=by
 have rowsCase:∀ (e:TypeId) (i:TypeInfo) (rows:List (List PV)) (a h:Nat),P.underlying t=some (.slice e)->P.info? e=some i->(a<=h/\h<=rows.length/\∀ r∈rows,r.length=i.size) ->
   ∀ (H:PH) (w:World) (eval:Operand->Value) (v:Value),qP H (.sl rows) v->((lo=none/\a=0)\/∃ y k,lo=some y/\eval y=.int k a)->((j=none/\h=rows.length)\/∃ y k,j=some y/\eval y=.int k h) ->
   ∃ u,(Instr.sliceAt t v (lo.map eval) (j.map eval) none).run P w=.ok u w/\qP H (.sl ((rows.take h).drop a)) u:=by
  intro e i rows a h hu j D H w eval v B d f;obtain⟨h1,h2,h3⟩:=D;simp only[qP]at B ⊢;rcases B with ⟨rfl,rfl|⟨a',s,rfl⟩⟩|⟨b,o,z,cap,rfl,O,F⟩
  rotate_left
  ·have I:h=0:=by simpa using h2
   subst I;have ha:a=0:=by omega
   subst ha;have:=rE (P:=P) (w:=w) (isSlice:=true) (len:=0) (cap:=s) d (by simpa using f) (jw 0) (jS _);by_cases c:s=0
   ·subst c
    refine⟨.slice (some a') 0 0,?_,.inl ⟨by simp,.inr ⟨_,_,rfl⟩⟩⟩;simp[Instr.sliceAt,Instr.slice,kru hu,this,Go.sizeOf,typeInfo,j]
   refine⟨.slice (some (a'.add 0)) 0 s,?_,.inl ⟨by simp,.inr ⟨_,_,rfl⟩⟩⟩;simp[Instr.sliceAt,Instr.slice,kru hu,this,Go.sizeOf,typeInfo,j,c]
  rotate_right
  ·have I:h=0:=by simpa using h2
   subst I;have ha:a=0:=by omega
   subst ha;have:=rE (P:=P) (w:=w) (isSlice:=true) (len:=0) (cap:=0) d (by simpa using f) (jw 0) (jw 0);refine⟨.slice none 0 0,?_,.inl ⟨by simp,.inl rfl⟩⟩;simp[Instr.sliceAt,Instr.slice,kru hu,this,Go.sizeOf,typeInfo,j]
  have:=rE (P:=P) (w:=w) (isSlice:=true) (len:=rows.length) (cap:=cap) d f h1 (by omega);have hlen:((rows.take h).drop a).length=h - a:=by simp; omega
  by_cases c:cap=a
  ·have J:h=a:=by omega
   subst J;refine⟨.slice (some ⟨b,o,none⟩) 0 0,?_,.inr ⟨b,o,z,0,?_,?_,?_⟩⟩
   ·subst c
    simp[Instr.sliceAt,Instr.slice,kru hu,this,Go.sizeOf,typeInfo,j]
   ·rw[hlen]; simp
   ·rw[hlen]; simp
   have e0:(rows.take h).drop h=[]:=by
    apply List.eq_nil_of_length_eq_zero;rw[hlen];omega
   rw[e0];simp[nS]
  refine⟨.slice (some ⟨b,o+a * i.size,none⟩) (h - a) (cap - a),?_,.inr ⟨b,o+a * i.size,z,cap - a,by rw[hlen],by rw[hlen]; omega,?_⟩⟩
  ·simp[Instr.sliceAt,Instr.slice,kru hu,this,Go.sizeOf,typeInfo,j,c,Addr.add_lit]
  have hz:rows=[]\/z=i.size:=by
   cases rows with
   | nil=>exact .inl rfl
   | cons r rs=>
    simp only[nS]at F;exact .inr (by rw[← F.1]; exact h3 r (by simp))
  rcases hz with hz|hz
  ·subst hz; simp[nS]
  rw[← hz]; exact(F.take h).drop a
 unfold lr at h;split at h
 ·exact h.elim
 split at h
 ·rename_i l
  split at h
  ·rename_i hu
   obtain⟨C,h,m⟩:=gK h;obtain⟨A,h,p⟩:=gK h;refine⟨_,h.2,fun ρ H w eval v q B d f=>⟨rfl,?_⟩⟩;obtain⟨h1,h2⟩:=fY h.1 q;rw[pt B];have:=rE (P:=P) (w:=w) (isSlice:=false) (len:=l.length) (cap:=l.length) (p ρ H eval q d) (m ρ H eval q f) h1 h2;refine⟨.string ⟨((l.take C).drop A).toArray⟩,?_,Zx⟩;simp[Instr.sliceAt,Instr.slice,kru hu,tt,this,ByteArray.extract_mk,List.drop_take]
  exact h.elim
 ·rename_i rows
  split at h
  ·rename_i e hu
   split at h
   ·rename_i i j
    obtain⟨C,h,m⟩:=gK h;obtain⟨A,h,p⟩:=gK h;refine⟨_,h.2,fun ρ H w eval v q B d f=>⟨rfl,?_⟩⟩;exact rowsCase e i rows A C hu j (fY h.1 q) H w eval v B (p ρ H eval q d) (m ρ H eval q f)
   exact h.elim
  exact h.elim
 ·rename_i k rows
  split at h
  ·rename_i e hu
   split at h
   ·rename_i i j
    obtain⟨C,h,m⟩:=gK h;obtain⟨A,h,p⟩:=gK h;refine⟨_,h.2,fun ρ H w eval v q B d f=>⟨rfl,?_⟩⟩;exact rowsCase e i rows A C hu j (fY h.1 q) H w eval v B.2 (p ρ H eval q d) (m ρ H eval q f)
   exact h.elim
  exact h.elim
 ·rename_i k off
  split at h
  ·rename_i n e hu
   split at h
   ·rename_i i j
    split at h
    ·rename_i hz
     have hz:i.size=1:=jm hz;obtain⟨C,h,m⟩:=gK h;obtain⟨A,h,p⟩:=gK h;refine⟨_,h.2,fun ρ H w eval v q B d f=>⟨rfl,?_⟩⟩;obtain⟨h1,h2,h3⟩:=fY h.1 q;obtain⟨b,K,rfl⟩:=B;have:=rE (P:=P) (w:=w) (isSlice:=false) (len:=n) (cap:=n) (p ρ H eval q d) (m ρ H eval q f) h1 h2;have c:¬ n=A:=by omega
     refine⟨.slice (some ⟨b,off+A,none⟩) (C - A) (n - A),?_,b,K,_,rfl,.inr rfl⟩;simp[Instr.sliceAt,Instr.sureAddr,kru hu,this,Go.sizeOf,typeInfo,j,hz,c,Addr.add_lit]
    exact h.elim
   exact h.elim
  exact h.elim
 ·rename_i k z
  split at h
  ·rename_i n e hu
   split at h
   ·rename_i i j
    split at h
    ·rename_i hz
     have hz:i.size=1:=jm hz;obtain⟨C,h,m⟩:=gK h;obtain⟨A,h,p⟩:=gK h;refine⟨_,h.2,fun ρ H w eval v q B d f=>⟨rfl,?_⟩⟩;obtain⟨rfl,h1,h2,h3⟩:=fY h.1 q;obtain⟨b,N,s,K,rfl⟩:=B;have:=rE (P:=P) (w:=w) (isSlice:=false) (len:=n) (cap:=n) (p ρ H eval q d) (m ρ H eval q f) h1 h2;have c:¬ n=A:=by omega
     refine⟨.slice (some ⟨b,A,none⟩) (C - A) (n - A),?_,b,N,s,_,K,rfl⟩;simp[Instr.sliceAt,Instr.sureAddr,kru hu,this,Go.sizeOf,typeInfo,j,hz,c,Addr.add_lit]
    exact h.elim
   exact h.elim
  exact h.elim
 exact h.elim
theorem bw {w:World} {b:Nat} {vs:List Value} {t:TypeId} {a:Nat×Nat} (d:w.heap[b]? =some (.cells vs.toArray t a)) (off:Nat) :
  ∀ j v,(vs.drop off)[j]? =some v->w.cell? ⟨b,off+j,none⟩=some v:=fun j v c=>by
 rw[cell_of_row w b (off+j) _ t a d];rw[jD]at c;simpa using c
end
end Ax
end
section
namespace Ax
open Go
section
variable {P:Program}
theorem RX (off:Nat):∀ (l:List Value) (k:Nat) (cs:Array Value),off+k+l.length<=cs.size ->
  ((l.zipIdx k).foldl (fun(cs:Array Value) (x:Value×Nat)=>cs.setIfInBounds (off+x.2) x.1) cs).toList=cs.toList.take (off+k)++l++cs.toList.drop (off+k+l.length)
 | [],k,cs,_=>by simp
 | c::l,k,cs,h=>by
  simp only[ja]at h;rw[List.zipIdx_cons,List.foldl_cons,RX off l (k+1) _ (by simp; omega)];simp only[Array.toList_setIfInBounds,ja];have e:off+(k+1)=off+k+1:=by omega
  rw[e,List.take_add_one,List.getElem?_set_self (by simpa using(by omega:off+k<cs.size)),List.take_set_of_le (jw _),List.drop_set_of_lt (by omega)];have e2:off+k+1+l.length=off+k+(l.length+1):=by omega
  rw[e2];simp
theorem Lp (off:Nat) (v:Value) (cs:Array Value) (h:off+v.cells.size<=cs.size) :
  (v.cells.zipIdx.foldl (fun(cs:Array Value) (x:Value×Nat)=>cs.setIfInBounds (off+x.2) x.1) cs).toList=cs.toList.take off++v.cells.toList++cs.toList.drop (off+v.cells.size):=by
 rw[← Array.foldl_toList,Array.toList_zipIdx];have:=RX off v.cells.toList 0 cs (by simpa using h);simpa using this
theorem bx {ρ:List Value} {H:PH} {f:FV} {x:Value} (h:TS f=true) (r:qR ρ H f x):x.cells = #[x]/\x.oneCell'=true:=by
 cases f with
 | p p=>
  cases p<;>simp[TS]at h<;>simp only[qR,qP]at r
  case sl rows=>
   rcases r with ⟨_,rfl|⟨_,_,rfl⟩⟩|⟨b,o,z,cap,rfl,_⟩<;>exact⟨rfl,rfl⟩
  case ifc t p=>
   obtain⟨u,rfl,_⟩:=r;exact⟨rfl,rfl⟩
  case hp row=>obtain⟨b,o,vs,rfl,_⟩:=r; exact⟨rfl,rfl⟩
  case clo f cs=>obtain⟨vs,rfl,_⟩:=r; exact⟨rfl,rfl⟩
  case bfn f cs=>obtain⟨vs,rfl,_⟩:=r; exact⟨rfl,rfl⟩
  case ifo n t p=>rcases r with ⟨_,rfl⟩|⟨_,u,rfl,_⟩<;>exact⟨rfl,rfl⟩
  all_goals (subst r; exact⟨rfl,rfl⟩)
 | top=>simp[TS]at h
 | opt g v=>simp[TS]at h
 | tsl k rows=>
  have:=r.2;simp only[qP]at this;rcases this with ⟨_,rfl|⟨_,_,rfl⟩⟩|⟨b,o,z,cap,rfl,_⟩<;>exact⟨rfl,rfl⟩
 | ptr k off=>
  obtain⟨b,_,rfl⟩:=r;exact⟨rfl,rfl⟩
 | hptr row=>
  obtain⟨b,o,vs,rfl,_⟩:=r;exact⟨rfl,rfl⟩
 | bself k=>
  obtain⟨b,_,rfl|rfl⟩:=r<;>exact⟨rfl,rfl⟩
 | bsl k off len cap=>
  obtain⟨b,_,c,rfl,_⟩:=r;exact⟨rfl,rfl⟩
 | vsl k n=>
  obtain⟨_,⟨_,rfl⟩|⟨b,cap,rfl⟩⟩:=r<;>exact⟨rfl,rfl⟩
 | eptr k z i off=>
  obtain⟨b,n,cap,_,rfl⟩:=r;exact⟨rfl,rfl⟩
 | mref k=>
  obtain⟨b,_,rfl⟩:=r;exact⟨rfl,rfl⟩
 | pair a b=>simp[TS]at h
 | stmp k=>simp[TS]at h
 | cap0=>simp[TS]at h
 | cap a b=>simp[TS]at h
 | fagg c=>simp[TS]at h
 | nxt ok a b=>simp[TS]at h
 | ifs t c=>
  obtain⟨u,rfl,_⟩:=r;exact⟨rfl,rfl⟩
 | asl k off n=>
  obtain⟨b,_,_,_,_,rfl⟩:=r;exact⟨rfl,rfl⟩
 | clo f c=>
  obtain⟨vs,rfl,_⟩:=r;exact⟨rfl,rfl⟩
theorem Qp:∀ {cs:List PV} {R:List FV->Prop},eU cs R->R (cs.map .p)
 | [],R,h=>h
 | c::cs,R,h=>by simpa using Qp (cs:=cs) (R:=fun l=>R (.p c::l)) h
theorem rB:∀ {off:Nat} {vs old:List FV} {R:List FV->Prop},XJ off vs old R->R (old.take off++vs++old.drop (off+vs.length))/\off+vs.length<=old.length
 | 0,[],old,R,h=>by simpa[XJ]using h
 | 0,v::vs,[],R,h=>by simp[XJ]at h
 | 0,v::vs,a::old,R,h=>by
  simp only[XJ]at h;have:=rB (off:=0) h;simpa using this
 | off+1,vs,[],R,h=>by cases vs<;>simp[XJ]at h
 | off+1,vs,a::old,R,h=>by
  have b:XJ off vs old fun l=>R (a::l):=by cases vs<;>simpa[XJ]using h
  have:=rB b;have e:off+1+vs.length=(off+vs.length)+1:=by omega
  rw[e];simpa using this
theorem zZ.append {ρ:List Value} {H:PH}:∀ {cs a:List FV} {vs us:List Value},zZ ρ H cs vs->zZ ρ H a us->zZ ρ H (cs++a) (vs++us)
 | [],_,vs,_,x,y=>by simp only[zZ]at x; simpa[x]using y
 | c::cs,a,vs,us,x,y=>by
  obtain⟨v,b,rfl,r,rs⟩:=x;exact⟨v,_,rfl,r,rs.append y⟩
theorem Qt:∀ {off:Nat} {vs old:List PV} {R:List PV->Prop},Cc off vs old R->R (old.take off++vs++old.drop (off+vs.length))/\off+vs.length<=old.length
 | 0,[],old,R,h=>by simpa[Cc]using h
 | 0,v::vs,[],R,h=>by simp[Cc]at h
 | 0,v::vs,a::old,R,h=>by
  simp only[Cc]at h;have:=Qt (off:=0) h;simpa using this
 | off+1,vs,[],R,h=>by cases vs<;>simp[Cc]at h
 | off+1,vs,a::old,R,h=>by
  have b:Cc off vs old fun l=>R (a::l):=by cases vs<;>simpa[Cc]using h
  have:=Qt b;have e:off+1+vs.length=(off+vs.length)+1:=by omega
  rw[e];simpa using this
theorem VZ {p:PV} {R:List PV->Prop} (h:MT p R):∃ c,R c/\∀ (H:PH) (x:Value),qP H p x->zz H c x.cells.toList:=by
 unfold MT at h;split at h
 ·rename_i cs
  refine⟨cs,h,fun H x r=>?_⟩;simp only[qP]at r;obtain⟨vs,rfl,q⟩:=r;simpa[Value.cells]using q
 ·exact h.elim
 rename_i h1 h2;refine⟨[p],h,fun H x r=>?_⟩;have a:x.cells = #[x]:=by
  cases p<;>simp only[qP]at r
  case agg cs=>exact absurd rfl (h1 cs)
  case tup cs=>exact absurd rfl (h2 cs)
  case sl rows=>rcases r with ⟨_,rfl|⟨_,_,rfl⟩⟩|⟨_,_,_,_,rfl,_⟩<;>rfl
  case ifc t p=>obtain⟨_,rfl,_⟩:=r; rfl
  case hp row=>obtain⟨b,o,vs,rfl,_⟩:=r; rfl
  case clo f cs=>obtain⟨vs,rfl,_⟩:=r; rfl
  case bfn f cs=>obtain⟨vs,rfl,_⟩:=r; rfl
  case ifo n t p=>rcases r with ⟨_,rfl⟩|⟨_,u,rfl,_⟩<;>rfl
  all_goals (subst r; rfl)
 rw[a];simp only[zz];exact⟨x,[],rfl,r,rfl⟩
theorem BO {H:PH} {p:PV} {x:Value} (h:EW p=true) (r:qP H p x):x.oneCell'=true/\x.cells = #[x]:=by
 cases p<;>simp only[qP]at r
 case agg cs=>simp[EW]at h
 case tup cs=>simp[EW]at h
 case sl rows=>rcases r with ⟨_,rfl|⟨_,_,rfl⟩⟩|⟨_,_,_,_,rfl,_⟩<;>exact⟨rfl,rfl⟩
 case ifc t p=>obtain⟨_,rfl,_⟩:=r; exact⟨rfl,rfl⟩
 case hp row=>obtain⟨b,o,vs,rfl,_⟩:=r; exact⟨rfl,rfl⟩
 case clo f cs=>obtain⟨vs,rfl,_⟩:=r; exact⟨rfl,rfl⟩
 case bfn f cs=>obtain⟨vs,rfl,_⟩:=r; exact⟨rfl,rfl⟩
 case ifo n t p=>rcases r with ⟨_,rfl⟩|⟨_,u,rfl,_⟩<;>exact⟨rfl,rfl⟩
 all_goals (subst r; exact⟨rfl,rfl⟩)
theorem zz.one {H:PH}:∀ {cs:List PV} {vs:List Value},(∀ c∈cs,EW c=true)->zz H cs vs->∀ u∈vs,u.oneCell'=true
 | [],vs,_,r,u,hu=>by simp only[zz]at r; simp[r]at hu
 | c::cs,vs,h,r,u,hu=>by
  simp only[zz]at r;obtain⟨v,a,rfl,b,rs⟩:=r;rcases jg.1 hu with rfl|hu
  ·exact(BO (h c (by simp)) b).1
  exact zz.one (fun c d=>h c (by simp[d])) rs u hu
theorem Qs:∀ {vs:List Value} {R:List PV->Prop},TR vs R->∃ a,R a/\∀ H,zz H a vs
 | [],R,h=>⟨[],h,fun H=>by simp[zz]⟩
 | v::vs,R,h=>by
  simp only[TR]at h;split at h
  ·rename_i p hp
   obtain⟨a,b,c⟩:=Qs h;refine⟨p::a,b,fun H=>?_⟩;simp only[zz];exact⟨v,vs,rfl,UO hp H,c H⟩
  exact h.elim
theorem EG {E:Env} {g:G} {o:List Field}:∀ {zi:List (Nat×Operand)} {cs:List PV} {R:List PV->Prop},eF P E g o zi cs R ->
  ∃ a,R a/\(gOn g->∀ (ρ:List Value) (H:PH) (w:World) (eval:Operand->Value) (places:Array (Nat×Nat)) (cells:Array Value),(∀ x∈zi.map (·.2),qR ρ H (evF (qT E) x) (eval x)) ->
   (∀ (i:Nat) (f:Field),o[i]? =some f->∀ d,P.info? f.type=some d->places[i]? =some (f.offset,d.size))->zz H cs cells.toList ->
   ∃ cells',Instr.fill (places[·]?) cells (zi.map fun(i,x)=>(i,eval x))=some cells'/\zz H a cells'.toList)
 | [],cs,R,h=>⟨cs,h,fun _ ρ H w eval places cells _ _ r=>⟨cells,rfl,r⟩⟩
 | (i,x)::l,cs,R,h=>by
  simp only[eF]at h;obtain⟨f,u,h⟩:=zE h;split at h
  ·rename_i d k
   obtain⟨v,h,z⟩:=qG h;obtain⟨p,h,hp⟩:=dB h;obtain⟨c,h,A⟩:=VZ h;split at h
   ·rename_i b
    have b:c.length=d.size:=jm b;obtain⟨h,hlen⟩:=Qt h;obtain⟨a,h,B⟩:=EG h;refine⟨a,h,fun q ρ H w eval places cells s e r=>?_⟩;have rc:=A H _ (hp _ _ _ (z ρ H _ q (s x (by simp))));have j:(eval x).cells.size=d.size:=by have:=rc.length; simp at this; omega
    have m:=r.length;simp at m;have n:f.offset+(eval x).cells.size<=cells.size:=by omega
    have h1:=Lp f.offset (eval x) cells n;obtain⟨cells',C,r'⟩:=B q ρ H w eval places ((eval x).cells.zipIdx.foldl (fun(cs:Array Value) (x:Value×Nat)=>cs.setIfInBounds (f.offset+x.2) x.1) cells) (fun y t=>s y (by simp at t ⊢; exact .inr t)) e (by
     rw[h1,j,← b];exact((r.take _).append rc).append (r.drop _))
    refine⟨cells',?_,r'⟩;simp only[jk,Instr.fill,e i f u d k];rw[if_neg (by simp[j]; omega)];exact C
   exact h.elim
  exact h.elim
theorem sF {E:Env} {g:G}:∀ {zi:List (Nat×Operand)} {k:Nat} {R:List PV->Prop},EX E g k zi R ->
  ∃ a,R a/\a.length=zi.length/\(gOn g->∀ (ρ:List Value) (H:PH) (eval:Operand->Value),(∀ x∈zi.map (·.2),qR ρ H (evF (qT E) x) (eval x)) ->
   ∃ vals,(zi.map fun(i,x)=>(i,eval x))=(vals.zipIdx k).map (fun(v,i)=>(i,v))/\zz H a vals)
 | [],k,R,h=>⟨[],h,rfl,fun _ ρ H eval _=>⟨[],rfl,by simp[zz]⟩⟩
 | (i,x)::l,k,R,h=>by
  simp only[EX]at h;split at h
  ·rename_i b
   have b:i=k:=jm b;subst b;obtain⟨v,h,j⟩:=qG h;obtain⟨p,h,hp⟩:=dB h;obtain⟨a,h,hl,m⟩:=sF h;refine⟨p::a,h,by simp[hl],fun c ρ H eval d=>?_⟩;obtain⟨vals,e,r⟩:=m c ρ H eval (fun y f=>d y (by simp at f ⊢; exact .inr f))
   refine⟨eval x::vals,?_,?_⟩
   ·simp only[jk,List.zipIdx_cons,e]
   simp only[zz];exact⟨_,_,rfl,hp _ _ _ (j ρ H _ c (d x (by simp))),r⟩
  exact h.elim
theorem XG (size:Nat) (n:Nat) (pl:Nat->Option (Nat×Nat)) (a:∀ i,i<n->pl i=some (i * size,size)):∀ (vals:List Value) (k:Nat) (cells:Array Value),(∀ v∈vals,v.cells.size=size)->k+vals.length=n->n * size=cells.size ->
  ∃ cells',Instr.fill pl cells ((vals.zipIdx k).map fun(v,i)=>(i,v))=some cells'/\cells'.toList=cells.toList.take (k * size)++vals.flatMap (·.cells.toList)
 | [],k,cells,_,hn,hc=>by
  refine⟨cells,rfl,?_⟩;simp at hn;subst hn;rw[List.take_of_length_le (by simp; omega)];simp
 | v::vals,k,cells,hv,hn,hc=>by
  have h1:=hv v (by simp);simp only[ja]at hn;have b:(k+1) * size<=n * size:=Nat.mul_le_mul_right _ (by omega);have c:k * size+v.cells.size<=cells.size:=by rw[h1,← hc]; rw[Nat.add_mul,Nat.one_mul]at b; exact b
  have f:=Lp (k * size) v cells c;have d:(v.cells.zipIdx.foldl (fun(cs:Array Value) (x:Value×Nat)=>cs.setIfInBounds (k * size+x.2) x.1) cells).size=cells.size:=by
   rw[← jK,f];simp;omega
  obtain⟨cells',e,h⟩:=XG size n pl a vals (k+1) _ (fun u hu=>hv u (by simp[hu])) (by omega) (by rw[d]; exact hc)
  refine⟨cells',?_,?_⟩
  ·simp only[List.zipIdx_cons,jk,Instr.fill,a k (by omega)]
   rw[if_neg (by simp[h1]; omega)];exact e
  rw[h,f];have e1:(k+1) * size=k * size+v.cells.size:=by rw[h1,Nat.add_mul,Nat.one_mul]
  rw[e1,List.flatMap_cons,← js];congr 1;rw[js,List.take_append,List.take_append];simp only[jt,jK];have:min (k * size) cells.size=k * size:=Nat.min_eq_left (by omega);rw[this,List.take_of_length_le (l:=List.take (k * size) cells.toList) (by simp; omega)];simp;exact List.take_of_length_le (by simp)
theorem Vc:∀ {b:List PV} {R:List (List PV)->Prop},al b R->∃ rows,R rows/\rows.length=b.length/\∀ (H:PH) (vals:List Value),zz H b vals ->
  (∀ (i:Nat) (r:List PV) (v:Value),rows[i]? =some r->vals[i]? =some v->zz H r v.cells.toList)
 | [],R,h=>⟨[],h,rfl,fun H vals r i r' v a=>by simp at a⟩
 | p::b,R,h=>by
  simp only[al]at h;obtain⟨c,h,f⟩:=VZ h;obtain⟨rows,h,hl,g⟩:=Vc h;refine⟨c::rows,h,by simp[hl],fun H vals r i r' v a d=>?_⟩;simp only[zz]at r;obtain⟨x,e,rfl,rx,rs⟩:=r;cases i with
  | zero=>simp at a d; subst a; subst d; exact f H x rx
  | succ i=>exact g H e rs i r' v (by simpa using a) (by simpa using d)
theorem el {H:PH} {w:World} (s:SatH H w) (e:TypeId) (f:List Value) (h1:∀ u∈f,u.oneCell'=true) :
  Calm H w (fun b o=>if b=w.heap.size then f[o]? else H b o) (w.alloc (.cells f.toArray e)):=by
 have d:∀ b o v,H b o=some v->b≠w.heap.size:=fun b o v a e=>by
  have:=s.lt a; omega
 refine⟨fun b o v a=>?_,⟨fun b o v a=>?_,s.root.mono fun b o v a=>by rw[if_neg (d b o v a)]; exact a⟩,⟨rfl,rfl,rfl,by simp,fun k i _=>Go.RowKit.Below.heap_alloc w _ k i⟩,fun b o v a=>?_⟩
 ·rw[if_neg (d b o v a)]; exact a
 ·split at a
  ·rename_i g
   subst g;refine⟨?_,h1 v (List.mem_of_getElem? a)⟩;rw[World.cell?_alloc_new];simpa using a
  obtain⟨c,j⟩:=s.cell b o v a;exact⟨by rw[World.cell?_alloc_lt (h:=s.lt a)]; exact c,j⟩
 split at a
 ·rename_i g; exact .inr (by omega)
 exact .inl ⟨v,a⟩
theorem qes {H:PH} {z:Nat}:∀ {rows:List (List PV)} {vals:List Value},rows.length=vals.length->(∀ r∈rows,r.length=z) ->
  (∀ (i:Nat) (r:List PV) (v:Value),rows[i]? =some r->vals[i]? =some v->zz H r v.cells.toList)->∀ {b o:Nat} {H':PH},PH.le H H' ->
  (∀ (j:Nat) (u:Value),(vals.flatMap (·.cells.toList))[j]? =some u->H' b (o+j)=some u)->nS H' b z o rows
 | [],_,_,_,_,_,_,_,_,_=>by simp[nS]
 | r::rs,[],hl,_,_,_,_,_,_,_=>by simp at hl
 | r::rs,v::vals,hl,hz,c,b,o,H',hle,hc=>by
  have d:=c 0 r v rfl rfl;have hlen:=d.length;have a:=hz r (by simp);simp only[nS];refine⟨a,⟨v.cells.toList,zz.mono hle d,fun j u hu=>hc j u ?_⟩,qes (by simpa using hl) (fun r c=>hz r (by simp[c])) (fun i r' v' h1 h2=>c (i+1) r' v' (by simpa using h1) (by simpa using h2)) hle (fun j u hu=>?_)⟩
  ·rw[List.flatMap_cons,jB (jG.1 hu).1]; exact hu
  have:=hc (z+j) u (by rw[List.flatMap_cons,jC (by rw[hlen,a]; omega),hlen,a,Nat.add_sub_cancel_left]; exact hu)
  rwa [← Nat.add_assoc]at this
theorem Ca {E:Env} {g:G} {t:TypeId} {n:Nat} {zi:List (Nat×Operand)} {R:FV->Prop} (h:bd P E g t n zi R) :
  ∃ S,R S/\(gOn g->∀ (ρ:List Value) (H:PH) (w:World) (eval:Operand->Value),SatH H w->(∀ x∈zi.map (·.2),qR ρ H (evF (qT E) x) (eval x)) ->
   ∃ v w' H',(Instr.buildSlice t n (zi.map fun(i,x)=>(i,eval x)).toArray).run P w=.ok v w'/\Calm H w H' w'/\qR ρ H' S v):=by
 unfold bd at h;obtain⟨e,i,hu,B,h⟩:=vY h;split at h
 ·rename_i l
  have l:zi.length=n:=jm l;split at h
  ·rename_i C
   split at h
   ·rename_i D
    split at h
    case h_2=>exact h.elim
    rename_i z;split at h
    case h_2=>exact h.elim
    rename_i k F;have:k=i:=Option.some.inj (F.symm.trans B);subst this;split at h
    case h_2=>exact h.elim
    rename_i T I;obtain⟨ps,h,a,J⟩:=sF h;obtain⟨rows,h,b,hrows⟩:=Vc h;obtain⟨m,K,L,h⟩:=h;refine⟨_,h,fun V ρ H w eval s X=>?_⟩;obtain⟨vals,ev,U⟩:=J V ρ H eval X;have hcells:=hrows H vals U;have o:vals.length=n:=by rw[U.length,a,l]
    have M:∀ v∈vals,v.cells.size=k.size:=by
     intro v N;obtain⟨j,A⟩:=List.getElem?_of_mem N;have p:=(jG.1 A).1;have d:j<rows.length:=by rw[b,a,l,← o]; exact p
     have:=(hcells j _ v (jf d) A).length;rw[(m _ (List.getElem_mem d)).1]at this;simpa using this
    obtain⟨cells',Y,q⟩:=XG k.size n (fun O=>some (O * k.size,k.size)) (fun j _=>rfl) vals 0 ((Array.range (n * k.size)).map (T.cells[· % T.cells.size]!)) M (by omega) (by simp)
    simp only[Nat.zero_mul,List.take_zero,ju]at q;have hone:∀ u∈cells'.toList,u.oneCell'=true:=by
     rw[q];intro u y;obtain⟨v,N,Q⟩:=List.mem_flatMap.1 y;obtain⟨j,A⟩:=List.getElem?_of_mem N;have p:=(jG.1 A).1;have d:j<rows.length:=by rw[b,a,l,← o]; exact p
     have h1:=hcells j _ v (jf d) A;have h2:=(m _ (List.getElem_mem d)).2;exact zz.one (fun c Z=>(List.all_eq_true.1 h2) c Z) h1 u Q
    have f:=el s e cells'.toList hone;refine⟨.slice (some ⟨w.heap.size,0,none⟩) n n,_,_,?_,f,?_⟩
    ·have h0:n * k.size≠0:=by
      have a1:1<=n:=jh C;have a2:1<=k.size:=jh D;exact Nat.mul_ne_zero (by omega) (by omega)
     have hb:¬ 16777216<n * k.size:=by
      have:=jh z;omega
     simp only[Instr.buildSlice,ke,kru hu,kc,Go.sizeOf,typeInfo,run_program,B,kf];rw[show(2:Nat) ^ 24=16777216 from rfl];simp only[hb,if_false,gt_iff_lt,h0,ke,zeroValue,typeInfo,run_program,B,I,kc,kf];rw[ev,Y];simp[newRow]
    simp only[qR];refine qf0 L ?_;simp only[qP];refine .inr ⟨w.heap.size,0,k.size,n,by rw[b,a,l],by rw[b,a,l]; exact jw _,?_⟩;refine qes (by rw[b,a,l,o]) (fun r hr=>(m r hr).1) hcells f.le (fun j u y=>?_);rw[jx,if_pos rfl,q];exact y
   exact h.elim
  exact h.elim
 exact h.elim
theorem GN {w:World}:∀ {a:List Field},Nh P a=true ->
  (a.mapM (m:=Sem) fun f=>do pure (f.offset,← Go.sizeOf f.type)).run P w=.ok (a.map fun f=>(f.offset,Tz P f.type)) w
 | [],_=>by simp
 | f::a,h=>by
  simp only[Nh]at h;split at h
  ·rename_i i c
   have:=GN (w:=w) h;have b:(Go.sizeOf f.type).run P w=.ok i.size w:=by simp[Go.sizeOf,typeInfo,c]
   simp only[List.mapM_cons,ke,b,kc,kf,jk,Tz,c];rw[this];rfl
  cases h
theorem PY {E:Env} {g:G} {t:TypeId} {zi:List (Nat×Operand)} {R:FV->Prop} (h:ld P E g t zi R) :
  ∃ V,R V/\(gOn g->∀ (ρ:List Value) (H:PH) (w:World) (eval:Operand->Value),(∀ x∈zi.map (·.2),qR ρ H (evF (qT E) x) (eval x)) ->
   ∃ v,(Instr.build t (zi.map fun(i,x)=>(i,eval x)).toArray).run P w=.ok v w/\qR ρ H V v):=by
 unfold ld at h;split at h
 ·rename_i i M
  split at h
  ·rename_i vs hz
   obtain⟨zs,h,N⟩:=Qs h;split at h
   ·rename_i X hu
    split at h
    case h_2=>exact h.elim
    rename_i F;obtain⟨cs,h,Y⟩:=EG h;refine⟨_,h,fun I ρ H w eval J=>?_⟩;obtain⟨cells',D,rc⟩:=Y I ρ H w eval (X.map fun f=>(f.offset,Tz P f.type)).toArray vs.toArray J (fun i f Z ti O=>by simp[Z,Tz,O]) (by simpa[Value.cells]using N H)
    refine⟨.agg cells',?_,by simp only[qR,qP]; exact⟨cells'.toList,by simp,rc⟩⟩;simp only[Instr.build,ke,zeroValue,typeInfo,run_program,M,hz,kc,kf,kru hu,Value.cells];rw[Array.mapM_eq_mapM_toList];simp only[Sem.run_map];rw[GN F];simp only[kc];rw[D];rfl
   ·rename_i n e hu
    split at h
    ·rename_i q K
     split at h
     ·rename_i y
      have y:q.size=1:=jm y;obtain⟨Q,h,S,z⟩:=sF h;obtain⟨hlen,hone,h⟩:=h;refine⟨_,h,fun I ρ H w eval J=>?_⟩;obtain⟨vals,ev,m⟩:=z I ρ H eval J;have c:∀ v∈vals,v.cells.size=1:=by
       intro v o;obtain⟨j,s⟩:=List.getElem?_of_mem o;have d:=(jG.1 s).1;have b:j<Q.length:=by rw[← m.length]; exact d
       obtain⟨v',k,r'⟩:=m.get (jf b);rw[s]at k;cases k;rw[(BO (hone _ (List.getElem_mem b)) r').2];rfl
      have p:=m.length;obtain⟨cells',D,A⟩:=XG 1 vals.length (fun B=>some (B * 1,1)) (fun j _=>rfl) vals 0 ⟨vs⟩ c (by omega) (by simp; omega)
      refine⟨.agg cells',?_,?_⟩
      ·simp only[Instr.build,ke,zeroValue,typeInfo,run_program,M,hz,kc,kf,kru hu,Go.sizeOf,K,y,ev,Value.cells]
       simp only[Nat.mul_one]at D ⊢;rw[D];rfl
      simp only[qR,qP];refine⟨cells'.toList,by simp,?_⟩;have e1:cells'.toList=vals:=by
       rw[A];simp only[Nat.zero_mul,List.take_zero,ju];have:∀ (l:List Value),(∀ v∈l,v∈vals)->l.flatMap (·.cells.toList)=l:=by
        intro l
        induction l with
        | nil=>intro _; rfl
        | cons a l ih=>
         intro hl;rw[List.flatMap_cons,ih (fun v o=>hl v (by simp[o]))]
         obtain⟨j,s⟩:=List.getElem?_of_mem (hl a (by simp));have d:=(jG.1 s).1;have b:j<Q.length:=by rw[← m.length]; exact d
         obtain⟨v',k,r'⟩:=m.get (jf b);rw[s]at k;cases k;rw[(BO (hone _ (List.getElem_mem b)) r').2];rfl
       exact this vals (fun v o=>o)
      rw[e1];exact m
     obtain⟨Q,h,S,z⟩:=sF h;obtain⟨rows,h,C,hrows⟩:=Vc h;obtain⟨L,hlen,h⟩:=h;refine⟨_,h,fun I ρ H w eval J=>?_⟩;obtain⟨vals,ev,m⟩:=z I ρ H eval J;have hcell:=hrows H vals m;have p:=m.length;have c:∀ v∈vals,v.cells.size=q.size:=by
      intro v o;obtain⟨j,s⟩:=List.getElem?_of_mem o;have d:=(jG.1 s).1;have b:j<rows.length:=by rw[C,← p]; exact d
      have l:=(hcell j _ v (jf b) s).length;rw[jK]at l;rw[l];exact L _ (List.getElem_mem b)
     have T:∀ l:List (List PV),(∀ r∈l,r.length=q.size)->l.flatten.length=l.length * q.size:=by
      intro l
      induction l with
      | nil=>intro _; simp
      | cons a l ih=>
       intro hl;rw[List.flatten_cons,jb,ih (fun r U=>hl r (by simp[U])),hl a (by simp),ja,Nat.succ_mul]
       omega
     have hvs:vals.length * q.size=vs.length:=by rw[← hlen,T rows L,C,p]
     obtain⟨cells',D,A⟩:=XG q.size vals.length (fun B=>some (B * q.size,q.size)) (fun j _=>rfl) vals 0 ⟨vs⟩ c (by omega) (by simp; omega)
     have key:∀ (l:List (List PV)) (us:List Value),l.length=us.length->(∀ (i:Nat) (r:List PV) (v:Value),l[i]? =some r->us[i]? =some v->zz H r v.cells.toList)->zz H l.flatten (us.flatMap (·.cells.toList)):=by
      intro l
      induction l with
      | nil=>intro us h1 _; rw[List.length_eq_zero_iff.1 h1.symm]; simp[zz]
      | cons a l ih=>
       intro us h1 h2;cases us with
       | nil=>simp at h1
       | cons u us=>
        rw[List.flatten_cons,List.flatMap_cons];exact(h2 0 a u rfl rfl).append (ih us (by simpa using h1) fun i r v U o=>h2 (i+1) r v (by simpa using U) (by simpa using o))
     refine⟨.agg cells',?_,?_⟩
     ·simp only[Instr.build,ke,zeroValue,typeInfo,run_program,M,hz,kc,kf,kru hu,Go.sizeOf,K,ev,Value.cells]
      rw[D];rfl
     simp only[qR,qP];refine⟨cells'.toList,by simp,?_⟩;rw[A];simp only[Nat.zero_mul,List.take_zero,ju];exact key rows vals (by rw[C,p]) hcell
    exact h.elim
   exact h.elim
  exact h.elim
 exact h.elim
theorem GW {E:Env} {yes no:Prop}:∀ {zi:List (Nat×Operand)},Lm E zi yes no->yes\/no
 | [],h=>.inr h
 | (_,x)::l,h=>by
  simp only[Lm,Bw]at h;split at h
  ·exact .inl h
  ·exact .inl h
  ·exact .inl h
  ·exact .inl h
  exact GW h
theorem SR {v:FV} {R:List FV->Prop} (h:qbg v R):∃ c,R c/\∀ (ρ:List Value) (H:PH) (x:Value),qR ρ H v x->zZ ρ H c x.cells.toList:=by
 unfold qbg at h;split at h
 ·obtain⟨c,h,a⟩:=VZ h
  have h:=Qp h;exact⟨_,h,fun ρ H x r=>zZ.of_RepL (a H x r)⟩
 ·rename_i k rows
  refine⟨_,h,fun ρ H x r=>?_⟩;have e:=(bx (f:=.tsl k rows) rfl r).1;rw[e];exact⟨x,[],rfl,r,rfl⟩
 ·rename_i k
  refine⟨_,h,fun ρ H x r=>?_⟩;have e:=(bx (f:=.mref k) rfl r).1;rw[e];exact⟨x,[],rfl,r,rfl⟩
 ·rename_i k o
  refine⟨_,h,fun ρ H x r=>?_⟩;have e:=(bx (f:=.ptr k o) rfl r).1;rw[e];exact⟨x,[],rfl,r,rfl⟩
 ·rename_i f c
  refine⟨_,h,fun ρ H x r=>?_⟩;have e:=(bx (f:=.clo f c) rfl r).1;rw[e];exact⟨x,[],rfl,r,rfl⟩
 ·rename_i k o n c
  refine⟨_,h,fun ρ H x r=>?_⟩;have e:=(bx (f:=.bsl k o n c) rfl r).1;rw[e];exact⟨x,[],rfl,r,rfl⟩
 exact h.elim
theorem EF {E:Env} {g:G} {o:List Field}:∀ {zi:List (Nat×Operand)} {cs:List FV} {R:List FV->Prop},eE P E g o zi cs R ->
  ∃ a,R a/\(gOn g->∀ (ρ:List Value) (H:PH) (w:World) (eval:Operand->Value) (places:Array (Nat×Nat)) (cells:Array Value),(∀ x∈zi.map (·.2),qR ρ H (evF (qT E) x) (eval x)) ->
   (∀ (i:Nat) (f:Field),o[i]? =some f->∀ d,P.info? f.type=some d->places[i]? =some (f.offset,d.size))->zZ ρ H cs cells.toList ->
   ∃ cells',Instr.fill (places[·]?) cells (zi.map fun(i,x)=>(i,eval x))=some cells'/\zZ ρ H a cells'.toList)
 | [],cs,R,h=>⟨cs,h,fun _ ρ H w eval places cells _ _ r=>⟨cells,rfl,r⟩⟩
 | (i,x)::l,cs,R,h=>by
  simp only[eE]at h;obtain⟨f,t,h⟩:=zE h;split at h
  ·rename_i d k
   obtain⟨v,h,u⟩:=qG h;obtain⟨c,h,z⟩:=SR h;split at h
   ·rename_i b
    have b:c.length=d.size:=jm b;obtain⟨h,hlen⟩:=rB h;obtain⟨a,h,A⟩:=EF h;refine⟨a,h,fun p ρ H w eval places cells q e r=>?_⟩;have rc:=z ρ H _ (u ρ H _ p (q x (by simp)));have j:(eval x).cells.size=d.size:=by have:=rc.length; simp at this; omega
    have m:=r.length;simp at m;have n:f.offset+(eval x).cells.size<=cells.size:=by omega
    have h1:=Lp f.offset (eval x) cells n;obtain⟨cells',B,r'⟩:=A p ρ H w eval places ((eval x).cells.zipIdx.foldl (fun(cs:Array Value) (x:Value×Nat)=>cs.setIfInBounds (f.offset+x.2) x.1) cells) (fun y s=>q y (by simp at s ⊢; exact .inr s)) e (by
     rw[h1,j,← b];exact((r.take _).append rc).append (r.drop _))
    refine⟨cells',?_,r'⟩;simp only[jk,Instr.fill,e i f t d k];rw[if_neg (by simp[j]; omega)];exact B
   exact h.elim
  exact h.elim
theorem Cs {ρ:List Value} {H:PH}:∀ {cs:List FV} {vs:List Value},zZ ρ H cs vs->qR ρ H (qdf cs) (.tuple vs.toArray)
 | [],vs,r=>by
  simp only[zZ]at r;subst r;simp[qdf,qR]
 | c::cs,vs,r=>by
  obtain⟨u,us,rfl,a,rs⟩:=r;exact⟨u,us,rfl,a,Cs rs⟩
theorem Fa {E:Env} {g:G} {t:TypeId} {zi:List (Nat×Operand)} {R:FV->Prop} (h:Lz P E g t zi R) :
  ∃ d,R d/\(gOn g->∀ (ρ:List Value) (H:PH) (w:World) (eval:Operand->Value),(∀ x∈zi.map (·.2),qR ρ H (evF (qT E) x) (eval x)) ->
   ∃ v,(Instr.build t (zi.map fun(i,x)=>(i,eval x)).toArray).run P w=.ok v w/\qR ρ H d v):=by
 unfold Lz at h;split at h
 ·rename_i i e
  split at h
  ·rename_i vs hz
   obtain⟨p,h,b⟩:=Qs h;have h:=Qp h;split at h
   ·rename_i j hu
    split at h
    case h_2=>exact h.elim
    rename_i a;obtain⟨cs,h,k⟩:=EF h;refine⟨_,h,fun l ρ H w eval m=>?_⟩;obtain⟨cells',n,rc⟩:=k l ρ H w eval (j.map fun f=>(f.offset,Tz P f.type)).toArray vs.toArray m (fun i f o q c=>by simp[o,Tz,c]) (by simpa[Value.cells]using zZ.of_RepL (b H))
    refine⟨.agg cells',?_,⟨cells'.toList,by simp,Cs rc⟩⟩;simp only[Instr.build,ke,zeroValue,typeInfo,run_program,e,hz,kc,kf,kru hu,Value.cells];rw[Array.mapM_eq_mapM_toList];simp only[Sem.run_map];rw[GN a];simp only[kc];rw[n];rfl
   exact h.elim
  exact h.elim
 exact h.elim
theorem Zn {op:BinOp} {t:TypeId} {n:Bool} {y:FV} {R:FV->Prop} (h:EM P op t n y R) :
  ∃ i,R i/\∀ (ρ:List Value) (H:PH) (w:World) (d e:Operand) (a b:Value),((n=true/\a=.nilFunc)\/(n=false/\∃ f bs cs,a=.func f bs cs))->qR ρ H y b ->
   ∃ v,(do eqGuard op t d e a b; binOp op t a b:Sem Value).run P w=.ok v w/\qR ρ H i v:=by
 unfold EM at h;split at h
 ·rename_i j i2 i3 hu
  split at h
  ·have eqN:∀ (w:World) (a:Value),((n=true/\a=.nilFunc)\/(n=false/\∃ f bs cs,a=.func f bs cs))->(Op.equal t a .nilFunc).run P w=.ok n w:=by
    intro w a ha;have:∀ k,(Op.equalIn (k+1) t a .nilFunc).run P w=.ok n w:=by
     intro k;rcases ha with ⟨rfl,rfl⟩|⟨rfl,f,bs,cs,rfl⟩<;>simp[Op.equalIn,kru hu]
    exact this 9999
   split at h
   ·refine⟨_,h,fun ρ H w d e a b g c=>⟨.bool n,?_,dQ⟩⟩
    simp only[qR,qP]at c;subst c;simp[eqGuard,binOp,ke,eqN w a g]
   ·refine⟨_,h,fun ρ H w d e a b g c=>⟨.bool (!n),?_,dQ⟩⟩
    simp only[qR,qP]at c;subst c;simp[eqGuard,binOp,ke,eqN w a g]
   exact h.elim
  exact h.elim
 exact h.elim
theorem BH {op:BinOp} {t:TypeId} {x y:FV} {R:FV->Prop} (h:qec P op t x y R) :
  ∃ q,R q/\∀ (ρ:List Value) (H:PH) (w:World) (d f:Operand) (a b:Value),qR ρ H x a->qR ρ H y b ->
   ∃ v,(do eqGuard op t d f a b; binOp op t a b:Sem Value).run P w=.ok v w/\qR ρ H q v:=by
 unfold qec at h;split at h
 ·rename_i e hu
  split at h
  ·rename_i i s
   have eqN:∀ (w:World) (p:Option Addr),(Op.equal t (.pointer p) (.pointer none)).run P w=.ok p.isNone w:=by
    intro w p;have:∀ n,(Op.equalIn (n+1) t (.pointer p) (.pointer none)).run P w=.ok p.isNone w:=by
     intro n;cases p<;>simp[Op.equalIn,kru hu]
    exact this 9999
   have fin:∀ (b:Bool) (w:World) (d f:Operand) (p:Option Addr),(do eqGuard .eql t d f (.pointer p) (.pointer none); binOp .eql t (.pointer p) (.pointer none):Sem Value).run P w=.ok (.bool p.isNone) w /\
     (do eqGuard .neq t d f (.pointer p) (.pointer none); binOp .neq t (.pointer p) (.pointer none):Sem Value).run P w=.ok (.bool (!p.isNone)) w:=by
    intro b w d f p
    constructor
    ·simp only[eqGuard,binOp,ke,eqN]; rfl
    simp only[eqGuard,binOp,ke,eqN]; rfl
   split at h
   ·split at h
    ·refine⟨_,h,fun ρ H w d f a b g c=>?_⟩
     simp only[qR,qP]at g c;subst g; subst c;exact⟨_,(fin true w d f none).1,dQ⟩
    ·refine⟨_,h,fun ρ H w d f a b g c=>?_⟩
     obtain⟨j,_,rfl⟩:=g;simp only[qR,qP]at c;subst c;exact⟨_,(fin true w d f _).1,dQ⟩
    ·refine⟨_,h,fun ρ H w d f a b g c=>?_⟩
     obtain⟨j,o,vs,rfl,_⟩:=g;simp only[qR,qP]at c;subst c;exact⟨_,(fin true w d f _).1,dQ⟩
    exact h.elim
   ·split at h
    ·refine⟨_,h,fun ρ H w d f a b g c=>?_⟩
     simp only[qR,qP]at g c;subst g; subst c;exact⟨_,(fin true w d f none).2,dQ⟩
    ·refine⟨_,h,fun ρ H w d f a b g c=>?_⟩
     obtain⟨j,_,rfl⟩:=g;simp only[qR,qP]at c;subst c;exact⟨_,(fin true w d f _).2,dQ⟩
    ·refine⟨_,h,fun ρ H w d f a b g c=>?_⟩
     obtain⟨j,o,vs,rfl,_⟩:=g;simp only[qR,qP]at c;subst c;exact⟨_,(fin true w d f _).2,dQ⟩
    ·rename_i k off k' r
     split at h
     ·rename_i l
      have l:=jm l;split at h
      ·rename_i m
       have m:=jm m;subst l; subst m;refine⟨_,h,fun ρ H w d f a b g c=>?_⟩;obtain⟨z,u,rfl⟩:=g;obtain⟨A,e2,rfl⟩:=c;rw[u]at e2;cases e2;refine⟨.bool false,?_,dQ⟩;simp only[eqGuard,ke];exact Lib.run_neq_ptr_same w _ hu s
      exact h.elim
     exact h.elim
    exact h.elim
   exact h.elim
  exact h.elim
 exact h.elim
theorem Vf {src dst:TypeId} {R:Prop} (h:u8T P src dst R):∃ e,P.underlying src=some (.slice e)/\P.underlying e=some (.int .u8)/\P.underlying dst=some .string/\R:=by
 unfold u8T at h;split at h
 ·rename_i e he
  split at h
  ·rename_i a
   split at h
   ·rename_i b; exact⟨e,he,a,b,h⟩
   exact h.elim
  exact h.elim
 exact h.elim
theorem ie {l:List UInt8} {j:Nat} {x:UInt8} (h:l[j]? =some x):(qx l)[j]? =some [.int .u8 x.toNat]:=by simp[qx,h]
theorem Hh {H:PH} {w:World} (s:SatH H w) {b z o:Nat} {l:List UInt8} (r:nS H b z o (qx l)):∀ j (a:j<l.length),w.cell? ((⟨b,o,none⟩:Addr).add j)=some (.int .u8 (l[j].toNat:Int)):=by
 intro j a;obtain⟨hz,vs,q,c⟩:=r.get (ie (jf a));simp at hz;subst hz;simp only[zz,qP]at q;obtain⟨v,_,rfl,rfl,rfl⟩:=q;have:=c 0 _ rfl;rw[Addr.add_lit];simpa using(s _ _ _ this).1
theorem aH {src dst:TypeId} {n:Nat} {t:TypeId} {R:Prop} (h:qf4 P src dst n t R) :
  R/\∀ (w:World) (b:Nat),w.shape? b=some (t,n)->(convert src dst (.pointer (some ⟨b,0,none⟩))).run P w=.ok (.pointer (some ⟨b,0,none⟩)) w:=by
 unfold qf4 at h;split at h
 ·rename_i u a
  split at h
  ·rename_i c
   split at h
   ·rename_i i e
    exact⟨h.2,fun w b d=>Lib.run_to_unsafe w ⟨b,0,none⟩ a c e h.1.1 d h.1.2⟩
   exact h.elim
  exact h.elim
 ·rename_i a
  split at h
  ·rename_i u c
   split at h
   ·rename_i i e
    exact⟨h.2,fun w b d=>Lib.run_from_unsafe w ⟨b,0,none⟩ a c e d h.1⟩
   exact h.elim
  exact h.elim
 exact h.elim
theorem Ub {g:G} {src dst:TypeId} {lo:List AObj} {x:FV} {R:FV->Prop} (h:BD P g src dst lo x R) :
  ∃ E,R E/\(gOn g->∀ (bs:Base) (ρ:List Value) (H:PH) (w:World) (v:Value),SatW bs ρ H lo w->qR ρ H x v->∃ u,(convert src dst v).run P w=.ok u w/\qR ρ H E u):=by
 have rowsCase:∀ (e:TypeId) (l:List UInt8),P.underlying src=some (.slice e)->P.underlying e=some (.int .u8)->P.underlying dst=some .string->∀ (H:PH) (w:World) (v:Value),SatH H w->qP H (.sl (qx l)) v ->
   (convert src dst v).run P w=.ok (.string ⟨l.toArray⟩) w:=by
  intro e l a he f H w v s d;simp only[qP]at d;rcases d with ⟨B,rfl|⟨a',t,rfl⟩⟩|⟨b,o,z,cap,rfl,Z,T⟩
  ·have:l=[]:=by simpa[qx]using B
   subst this;exact run_convert_bytes_nil w src e a he 0 0 dst f
  ·have:l=[]:=by simpa[qx]using B
   subst this;exact run_convert_bytes_back (P:=P) w src dst e a' t [] a he f (fun j y=>absurd y (Nat.not_lt_zero _))
  have:=run_convert_bytes_back (P:=P) w src dst e ⟨b,o,none⟩ cap l a he f (Hh s T);simpa[qx]using this
 unfold BD at h;split at h
 ·rename_i rows
  obtain⟨e,a,he,f,l,hl,h⟩:=Vf h;refine⟨_,h,fun q bs ρ H w v s d=>⟨_,rowsCase e l a he f H w v s.sath ?_,Zx⟩⟩;rw[← fY hl q]; exact d
 ·rename_i k rows
  obtain⟨e,a,he,f,l,hl,h⟩:=Vf h;refine⟨_,h,fun q bs ρ H w v s d=>⟨_,rowsCase e l a he f H w v s.sath ?_,Zx⟩⟩;rw[← fY hl q]; exact d.2
 ·obtain⟨e,a,he,f,h⟩:=Vf h
  refine⟨_,h,fun q bs ρ H w v s d=>⟨_,rowsCase e [] a he f H w v s.sath ?_,Zx⟩⟩;simp only[qR,qP]at d;simp only[qP];exact .inl ⟨rfl,.inl d⟩
 ·rename_i k off n cap
  obtain⟨e,a,he,f,h⟩:=Vf h;obtain⟨I,m,h⟩:=zE h;split at h
  ·rename_i bt cells
   obtain⟨h,O⟩:=fh h;obtain⟨h,J⟩:=df h;obtain⟨ps,h,K⟩:=dC h;obtain⟨l,hl,h⟩:=h;refine⟨_,h,fun q bs ρ H w v s d=>?_⟩;obtain⟨b,F,_,rfl,_⟩:=d;obtain⟨U,vs,C,p,r,_⟩:=s.objs k _ _ m F;cases C;have hl:=fY hl q;have rl:=K _ _ _ ((r.drop off).take n);rw[hl]at rl;have hlen:=rl.length;have D:=r.length;simp at hlen J;have L:n=l.length:=by omega
   subst L;refine⟨_,run_convert_bytes_back (P:=P) w src dst e ⟨b,off,none⟩ _ l a he f (fun j y=>?_),Zx⟩;obtain⟨u,hu,Q⟩:=rl.get (i:=j) (c:=.int .u8 (l[j].toNat:Int)) (by simp[y]);simp only[qP]at Q;subst Q;rw[Addr.add_lit];rw[jE,if_pos y]at hu;exact bw p off j _ hu
  exact h.elim
 ·rename_i k off
  split at h
  ·rename_i B
   have B:=jm B;subst B;obtain⟨I,m,h⟩:=zE h;split at h
   ·rename_i bt cells
    obtain⟨h,a⟩:=aH h;refine⟨_,h,fun q bs ρ H w v s d=>?_⟩;obtain⟨b,F,rfl⟩:=d;obtain⟨U,vs,C,p,r,_⟩:=s.objs k _ _ m F;cases C;have D:=r.length;have M:w.shape? b=some (bt,cells.length):=by simp[World.shape?,p,D]
    exact⟨_,a w b M,b,F,rfl⟩
   exact h.elim
  exact h.elim
 ·rename_i k n
  obtain⟨e,a,he,f,h⟩:=Vf h;obtain⟨I,m,h⟩:=zE h;split at h
  ·rename_i l
   refine⟨_,h.2,fun q bs ρ H w v s d=>?_⟩;have J:=fY h.1 q;obtain⟨b,cs,C,cap,lo',V,rfl,p,_,h2,_⟩:=s.objs k _ _ m d.1;refine⟨_,run_convert_bytes_back (P:=P) w src dst e ⟨b,0,none⟩ cap l a he f (fun j y=>?_),Zx⟩;rw[Addr.add_lit];simp only[World.cell?,p,jx];exact h2 j _ (jf y)
  exact h.elim
 ·rename_i k off n
  obtain⟨e,a,he,f,h⟩:=Vf h;obtain⟨I,m,h⟩:=zE h;split at h
  ·rename_i l
   refine⟨_,h.2,fun q bs ρ H w v s d=>?_⟩;have J:=fY h.1 q;obtain⟨S,n',t,c,X,rfl⟩:=d;obtain⟨b,cs,C,cap,lo',V,Y,p,_,h2,_⟩:=s.objs k _ _ m X;obtain rfl:S=b:=by simpa[qZ]using congrArg qZ Y
   have hl:n=((l.drop off).take n).length:=by simp; omega
   have A:=run_convert_bytes_back (P:=P) w src dst e ⟨S,off,none⟩ c ((l.drop off).take n) a he f (fun j y=>by
    rw[Addr.add_lit];simp only[World.cell?,p];have N:j<n:=by omega
    have:l[off+j]? =some ((l.drop off).take n)[j]:=by
     have h3:=jf y;rw[← h3,jE,if_pos N,jD]
    exact h2 _ _ this)
   rw[← hl]at A;exact⟨_,A,Zx⟩
  exact h.elim
 obtain⟨E,h,a⟩:=LD h;exact⟨E,h,fun q bs ρ H w v s d=>a ρ H w v d⟩
end
end Ax
end
section
namespace Ax
open Go
section
variable {P:Program}
theorem Qm {bs:Base} {ρ:List Value} {H H':PH} {a:FV} {lo:List AObj} {v:Value} {w w':World} (s:SatW bs ρ H lo w) (c:Calm H w H' w') (r:qR ρ H' a v) :
  dT bs ρ H a lo v w':=⟨ρ,H',jq _,c.le,s.calm c,r⟩
theorem upon_value {bs:Base} {ρ:List Value} {H:PH} {a:FV} {lo:List AObj} {v:Value} {w:World} {x:Sem Value} (s:SatW bs ρ H lo w) (b:x.run P w=.ok v w) (r:qR ρ H a v) :
  MJ P bs ρ H a lo ((do pure (.value (← x)):Sem Next).run P w):=by
 simp only[ke,b,kc,kf];exact uQ s r
theorem rF {bs:Base} {ρ:List Value} {H:PH} {lo:List AObj} {r:PV} {w:World} {x:Result Next} (s:SatW bs ρ H lo w) (h:XR P H w r x):MJ P bs ρ H (.p r) lo x:=by
 unfold XR at h;split at h
 ·obtain⟨H',c,b⟩:=h
  exact Qm s c b
 ·obtain⟨rfl,a⟩:=h
  exact a.mono fun f d ⟨v,H',e,c,b⟩=>⟨v,e,Qm s c b⟩
 exact h.elim
theorem EC:∀ {c:FV} {R:List PV->Prop},iu c R->∃ d,R d/\∀ (ρ:List Value) (H:PH) (vs:List Value),qR ρ H c (.tuple vs.toArray)->zz H d vs
 | .cap0,R,h=>⟨[],h,fun ρ H vs r=>by
   simp only[qR,Value.tuple.injEq]at r;simpa[zz]using r⟩
 | .cap a b,R,h=>by
  simp only[iu]at h;obtain⟨p,h,hp⟩:=dB h;obtain⟨d,h,f⟩:=EC h;refine⟨_,h,fun ρ H vs r=>?_⟩;obtain⟨u,us,e,g,i⟩:=r;have e:vs=u::us:=by simpa using e
  subst e;simp only[zz];exact⟨u,us,rfl,hp _ _ _ g,f _ _ _ i⟩
 | .top,_,h|.p _,_,h|.opt _ _,_,h|.tsl _ _,_,h|.ptr _ _,_,h|.hptr _,_,h|.bself _,_,h|.bsl _ _ _ _,_,h|.vsl _ _,_,h|.eptr _ _ _ _,_,h|.mref _,_,h|.pair _ _,_,h|.stmp _,_,h|.clo _ _,_,h|.fagg _,_,h|.nxt _ _ _,_,h=>by
  simp[iu]at h
theorem No {dst:Option Tmp} {op:Op} {ty:TypeId} {pos:String} {after:Array Edge} {guard:Option (Nat×Bool)} {E:Env} {g:G} {R:FV->Prop} (h:lq P op E g R):∃ D,R D/\∀ lo,fg P ⟨dst,op,ty,pos,after,guard⟩ (qT E) lo g D lo:=by
 unfold lq at h;split at h
 ·rename_i f b bs
  have i:=mz h; clear h; obtain⟨vs,h,l⟩:=i;have i:=dC h; clear h; obtain⟨L,h,o⟩:=i;refine⟨_,h,fun lo d M ρ H w eval s j=>?_⟩;have rl:=o ρ H _ (l ρ H eval d (fun y q=>j y (by simpa[kg]using q)))
  exact upon_value s (v:=.func (.func f) ((b::bs).map eval).toArray #[]) (by simp[Instr.makeFunc]) (by simp only[qR,qP]; exact⟨_,rfl,rl⟩)
 ·rename_i x T a
  have i:=qG h; clear h; obtain⟨x',h,A⟩:=i;have i:=dB h; clear h; obtain⟨p,h,hp⟩:=i;obtain⟨r,n,h⟩:=h;refine⟨_,h,fun lo d bs ρ H w eval s j=>?_⟩;obtain⟨u,e,N⟩:=fY n d H _ w (hp _ _ _ (A ρ H _ d (j x (by simp[kg]))));exact upon_value s e N
 ·rename_i f xs
  split at h
  ·refine⟨_,h,fun lo d bs ρ H w eval s j=>?_⟩
   exact upon_value s (v:=.func (.func f) #[] #[]) (by simp[Instr.makeFunc]) (by simp[qR,qP])
  rename_i x xs;have i:=mz h; clear h; obtain⟨vs,h,l⟩:=i;refine⟨_,h,fun lo d bs ρ H w eval s j=>?_⟩;have rl:=l ρ H eval d (fun y q=>j y (by simpa[kg]using q))
  exact upon_value s (v:=.func (.func f) #[] ((x::xs).map eval).toArray) (by simp[Instr.makeFunc]) ⟨_,rfl,Cs rl⟩
 ·rename_i t xs F
  have i:=qG h; clear h; obtain⟨D,h,z⟩:=i;have i:=mz h; clear h; obtain⟨vs,h,l⟩:=i;have i:=dC h; clear h; obtain⟨L,h,o⟩:=i;split at h
  ·rename_i f
   obtain⟨r,n,h⟩:=h;refine⟨_,h,fun lo d bs ρ H w eval s j=>?_⟩;have n:=fY n d;have rl:=o ρ H _ (l ρ H eval d (fun y q=>j y (by simp[kg,kh,q])))
   have:=n H w _ s.sath rl;have B:(eval (.tmp t))=.func (.func f) #[] #[]:=by
    have:=z ρ H _ d (j (.tmp t) (by simp[kg,kh]));simpa[qR,qP]using this
   simp only[execOp,resolve,Deferred.ofValue,invoke,B,ke,kf,kc,kb,Array.empty_append,Array.append_empty];exact rF s this
  ·rename_i f c
   have i:=EC h; clear h; obtain⟨cs,h,I⟩:=i;obtain⟨r,n,h⟩:=h;refine⟨_,h,fun lo d bs ρ H w eval s j=>?_⟩;have n:=fY n d;have rl:=o ρ H _ (l ρ H eval d (fun y q=>j y (by simp[kg,kh,q])))
   obtain⟨us,B,rc⟩:=z ρ H _ d (j (.tmp t) (by simp[kg,kh]));have:=n H w _ s.sath (rl.append (I _ _ _ rc));simp only[execOp,resolve,Deferred.ofValue,invoke,B,ke,kf,kc,kb,List.append_toArray];exact rF s this
  ·rename_i f cs
   obtain⟨r,n,h⟩:=h;refine⟨_,h,fun lo d bs ρ H w eval s j=>?_⟩;have n:=fY n d;have rl:=o ρ H _ (l ρ H eval d (fun y q=>j y (by simp[kg,kh,q])))
   have rf:=z ρ H _ d (j (.tmp t) (by simp[kg,kh]));simp only[qR,qP]at rf;obtain⟨us,B,rc⟩:=rf;have:=n H w _ s.sath (rl.append rc);simp only[execOp,resolve,Deferred.ofValue,invoke,B,ke,kf,kc,kb,List.append_toArray];exact rF s this
  ·rename_i f bs
   obtain⟨r,n,h⟩:=h;refine⟨_,h,fun lo d bs ρ H w eval s j=>?_⟩;have n:=fY n d;have rl:=o ρ H _ (l ρ H eval d (fun y q=>j y (by simp[kg,kh,q])))
   have rf:=z ρ H _ d (j (.tmp t) (by simp[kg,kh]));simp only[qR,qP]at rf;obtain⟨us,B,rc⟩:=rf;have:=n H w _ s.sath (rc.append rl);simp only[execOp,resolve,Deferred.ofValue,invoke,B,ke,kf,kc,kb,List.append_toArray,Array.append_empty];exact rF s this
  exact h.elim
 ·rename_i O m xs F
  have i:=qG h; clear h; obtain⟨D,h,z⟩:=i;have i:=mz h; clear h; obtain⟨vs,h,l⟩:=i;have i:=dC h; clear h; obtain⟨L,h,o⟩:=i;split at h
  ·rename_i t v
   obtain⟨f,r,n,h⟩:=h;refine⟨_,h,fun lo d bs ρ H w eval s j=>?_⟩;obtain⟨J,n⟩:=fY n d;have rl:=o ρ H _ (l ρ H eval d (fun y q=>j y (by simp[kg,kh,q])))
   have rr:=z ρ H _ d (j O (by simp[kg,kh]));simp only[qR,qP]at rr;obtain⟨u,hu,Q⟩:=rr;have:=n H w (u::xs.map eval) s.sath (by simp only[zz]; exact⟨u,_,rfl,Q,rl⟩);have K:=J u w;simp only[execOp,resolve,invoke,hu,ke,kf,kc,kb,callMethod];have e:List.take xs.length (xs.map eval)=xs.map eval:=List.take_of_length_le (by simp);simp[K,e];exact rF s this
  exact h.elim
 ·rename_i x y F
  have i:=qG h; clear h; obtain⟨x',h,A⟩:=i;have i:=qG h; clear h; obtain⟨S,h,C⟩:=i;split at h
  ·rename_i k a
   split at h
   ·rename_i k' b
    refine⟨_,h,fun lo d bs ρ H w eval s j=>?_⟩;have r1:=xD (A ρ H _ d (j x (by simp[kg,kh])));have r2:=xD (C ρ H _ d (j y (by simp[kg,kh])));refine upon_value s (v:=.int k (bif decide (b>a)then b else a)) ?_ dq;simp only[execOp,resolve,invoke,builtin,ke,kf,kc,kb,jk,jN,r1,r2,Builtin.max_,List.foldlM,Builtin.max2,Bool.cond_decide]
   exact h.elim
  exact h.elim
 ·rename_i x y F
  have i:=qG h; clear h; obtain⟨x',h,A⟩:=i;have i:=qG h; clear h; obtain⟨S,h,C⟩:=i;split at h
  ·rename_i k a
   split at h
   ·rename_i k' b
    refine⟨_,h,fun lo d bs ρ H w eval s j=>?_⟩;have r1:=xD (A ρ H _ d (j x (by simp[kg,kh])));have r2:=xD (C ρ H _ d (j y (by simp[kg,kh])));refine upon_value s (v:=.int k (bif decide (b<a)then b else a)) ?_ dq;simp only[execOp,resolve,invoke,builtin,ke,kf,kc,kb,jk,jN,r1,r2,Builtin.min_,List.foldlM,Builtin.min2,Bool.cond_decide]
   exact h.elim
  exact h.elim
 exact h.elim
theorem BI {o:Oper} {E:Env} {g:G} {R:FV->Prop} (h:eN P o.op E g R):∃ A,R A/\∀ lo,fg P o (qT E) lo g A lo:=by
 obtain⟨dst,op,ty,pos,after,guard⟩:=o;simp only at h;unfold eN at h;split at h
 ·
  rename_i x;cases g with
  | none=>
   simp only[Bw]at h;exact⟨_,h,fun lo l bs ρ H w eval s m=>uQ s (m x (by simp[kg]))⟩
  | some g=>
   obtain⟨x',h,j⟩:=qG h;exact⟨_,h,fun lo l bs ρ H w eval s m=>uQ s (j ρ H _ l (m x (by simp[kg])))⟩
 ·rename_i x
  cases g with
  | none=>
   simp only[Bw]at h;exact⟨_,h,fun lo l bs ρ H w eval s m=>uQ s (m x (by simp[kg]))⟩
  | some g=>
   obtain⟨x',h,j⟩:=qG h;exact⟨_,h,fun lo l bs ρ H w eval s m=>uQ s (j ρ H _ l (m x (by simp[kg])))⟩
 ·
  rename_i c a b;obtain⟨c',h,M⟩:=qG h;split at h
  ·rename_i S
   have key:∃ A,R A/\(gOn g->∀ (ρ:List Value) (H:PH) (T U:Value),qR ρ H (evF (qT E) a) T->qR ρ H (evF (qT E) b) U->qR ρ H A (if S then T else U)):=by
    have fin:∀ (X Y:Bool) (a' N:FV),Str (some X) (evF (qT E) a) a'->Str (some Y) (evF (qT E) b) N->(gOn g->S=true->X=true)->(gOn g->S=false->Y=true) ->
      (match a',N with
       | .p (.bool a),.p (.bool b)=>R (.p (.bool (bif S then a else b)))
       | _,_=>False)->∃ A,R A/\(gOn g->∀ (ρ:List Value) (H:PH) (T U:Value),qR ρ H (evF (qT E) a) T->qR ρ H (evF (qT E) b) U->qR ρ H A (if S then T else U)):=by
     intro X Y a' N ha I h1 h2 h;split at h
     ·rename_i ab bb
      refine⟨_,h,fun l ρ H T U F J=>?_⟩;cases S with
      | true=>
       have:=rh (ha ρ H _ (h1 l rfl) F);simp[this,qR,qP]
      | false=>
       have:=rh (I ρ H _ (h2 l rfl) J);simp[this,qR,qP]
     exact h.elim
    split at h
    ·obtain⟨a',h,ha⟩:=qG h
     obtain⟨N,h,I⟩:=qG h;exact fin _ _ a' N ha I (fun _ h=>h) (fun _ h=>by simp[h]) h
    obtain⟨a',h,ha⟩:=qG h;obtain⟨N,h,I⟩:=qG h;exact fin _ _ a' N ha I (fun l h=>by simp only[gOn]at l; simp[l,h]) (fun l h=>by simp only[gOn]at l; simp[l,h]) h
   obtain⟨A,h,B⟩:=key;refine⟨_,h,fun lo l bs ρ H w eval s m=>?_⟩;have rc:=rh (M ρ H _ l (m c (by simp[kg])));simp only[execOp,rc,asBool,ke,kf,kc];exact uQ s (B l ρ H _ _ (m a (by simp[kg])) (m b (by simp[kg])))
  exact h.elim
 ·rename_i t x f
  obtain⟨x',h,j⟩:=qG h;obtain⟨A,h,B⟩:=Re h;refine⟨_,h,fun lo l bs ρ H w eval s m=>?_⟩;obtain⟨v,D,C⟩:=B ρ H w _ (j ρ H _ l (m x (by simp[kg])));exact upon_value s D C
 ·rename_i t x f
  obtain⟨x',h,j⟩:=qG h;obtain⟨A,h,B⟩:=Th h;refine⟨_,h,fun lo l bs ρ H w eval s m=>?_⟩;obtain⟨v,D,C⟩:=B ρ H w _ (j ρ H _ l (m x (by simp[kg])));exact upon_value s D C
 ·rename_i t x i
  obtain⟨x',h,j⟩:=qG h;obtain⟨i',h,O⟩:=qG h;obtain⟨A,h,B⟩:=BE h;refine⟨_,h,fun lo l bs ρ H w eval s m=>?_⟩;obtain⟨v,D,C⟩:=B l ρ H w _ _ (j ρ H _ l (m x (by simp[kg]))) (O ρ H _ l (m i (by simp[kg])));exact upon_value s D C
 ·rename_i t x i
  obtain⟨x',h,j⟩:=qG h;obtain⟨i',h,O⟩:=qG h;obtain⟨A,h,B⟩:=Rf h;refine⟨_,h,fun lo l bs ρ H w eval s m=>?_⟩;obtain⟨v,D,C⟩:=B l ρ H w _ _ (j ρ H _ l (m x (by simp[kg]))) (O ρ H _ l (m i (by simp[kg])));exact upon_value s D C
 ·rename_i op t x y t'
  obtain⟨x',h,j⟩:=qG h;obtain⟨y',h,Z⟩:=qG h;have key:∃ A,R A/\(gOn g->∀ (ρ:List Value) (H:PH) (w:World) (K L:Operand) (a b:Value),qR ρ H x' a->qR ρ H y' b ->
    ∃ v,(do eqGuard op t K L a b; binOp op t a b:Sem Value).run P w=.ok v w/\qR ρ H A v):=by
   split at h
   ·obtain⟨A,h,B⟩:=BH h; exact⟨A,h,fun _=>B⟩
   ·obtain⟨A,h,B⟩:=BH h; exact⟨A,h,fun _=>B⟩
   ·obtain⟨A,h,B⟩:=BH h; exact⟨A,h,fun _=>B⟩
   ·obtain⟨A,h,B⟩:=Zn h; exact⟨A,h,fun _ ρ H w K L a b F J=>B ρ H w K L a b (.inl ⟨rfl,by simpa only[qR,qP]using F⟩) J⟩
   ·obtain⟨A,h,B⟩:=Zn h; exact⟨A,h,fun _ ρ H w K L a b F J=>B ρ H w K L a b (.inr ⟨rfl,by simp only[qR,qP]at F; exact⟨_,_,_,F⟩⟩) J⟩
   ·obtain⟨A,h,B⟩:=Zn h; exact⟨A,h,fun _ ρ H w K L a b F J=>B ρ H w K L a b (.inr ⟨rfl,by simp only[qR,qP]at F; obtain⟨vs,e,_⟩:=F; exact⟨_,_,_,e⟩⟩) J⟩
   ·obtain⟨A,h,B⟩:=Zn h; exact⟨A,h,fun _ ρ H w K L a b F J=>B ρ H w K L a b (.inr ⟨rfl,by simp only[qR,qP]at F; obtain⟨vs,e,_⟩:=F; exact⟨_,_,_,e⟩⟩) J⟩
   exact la h
  obtain⟨A,h,B⟩:=key;refine⟨_,h,fun lo l bs ρ H w eval s m=>?_⟩;obtain⟨v,D,C⟩:=B l ρ H w x y _ _ (j ρ H _ l (m x (by simp[kg]))) (Z ρ H _ l (m y (by simp[kg])));exact upon_value s D C
 ·rename_i t x
  obtain⟨x',h,j⟩:=qG h;split at h
  ·rename_i b
   refine⟨_,h,fun lo l bs ρ H w eval s m=>?_⟩;have rx:=rh (j ρ H _ l (m x (by simp[kg])));exact upon_value s (v:=.bool !b) (by simp[rx,Op.unary]) dQ
  exact h.elim
 ·rename_i t x
  obtain⟨x',h,j⟩:=qG h;split at h
  ·rename_i k n
   refine⟨_,h,fun lo l bs ρ H w eval s m=>?_⟩;have rx:=xD (j ρ H _ l (m x (by simp[kg])));exact upon_value s (v:=.int k (k.wrap (0 - n))) (by simp[rx,Op.unary,Op.intArith]) dq
  exact h.elim
 ·rename_i x
  obtain⟨x',h,j⟩:=qG h;split at h
  ·rename_i k off
   refine⟨_,h,fun lo l bs ρ H w eval s m=>?_⟩;have rx:=j ρ H _ l (m x (by simp[kg]));obtain⟨b,I,e⟩:=rx;simp only[execOp,e];exact uQ s ⟨b,I,rfl⟩
  ·rename_i row
   refine⟨_,h,fun lo l bs ρ H w eval s m=>?_⟩;have rx:=j ρ H _ l (m x (by simp[kg]));obtain⟨b,o,vs,e,q,c⟩:=rx;simp only[execOp,e];exact uQ s ⟨b,o,vs,rfl,q,c⟩
  ·rename_i k z i off
   refine⟨_,h,fun lo l bs ρ H w eval s m=>?_⟩;have rx:=j ρ H _ l (m x (by simp[kg]));obtain⟨b,n,cap,I,e⟩:=rx;simp only[execOp,e];exact uQ s ⟨b,n,cap,I,rfl⟩
  exact h.elim
 ·rename_i t x lo hi mx
  obtain⟨x',h,j⟩:=qG h;obtain⟨A,h,B⟩:=Rj h;refine⟨_,h,fun lo' l bs ρ H w eval s m=>?_⟩;obtain⟨hmx,u,D,Q⟩:=B ρ H w eval _ l (j ρ H _ l (m x (by simp[kg]))) (fun y V=>m y (by simp only[kg]; simp only[Array.mem_append]; exact .inl (.inl (.inr V)))) (fun y V=>m y (by simp only[kg]; simp only[Array.mem_append]; exact .inl (.inr V)))
  subst hmx;exact upon_value s D Q
 ·rename_i t n zi
  obtain⟨A,h,B⟩:=Ca h;refine⟨_,h,fun lo' l bs ρ H w eval s m=>?_⟩;obtain⟨v,w',H',D,c,C⟩:=B l ρ H w eval s.sath (fun x j=>m x (by simpa[kg]using j))
  simp only[execOp,kb,ke,D,kc,kf];exact Qm s c C
 ·rename_i t zi
  have key:∃ A,R A/\(gOn g->∀ (ρ:List Value) (H:PH) (w:World) (eval:Operand->Value),(∀ x∈zi.map (·.2),qR ρ H (evF (qT E) x) (eval x)) ->
   ∃ v,(Instr.build t (zi.map fun(i,x)=>(i,eval x)).toArray).run P w=.ok v w/\qR ρ H A v):=by
   rcases GW h with h|h
   ·exact Fa h
   exact PY h
  clear h;obtain⟨A,h,B⟩:=key;refine⟨_,h,fun lo' l bs ρ H w eval s m=>?_⟩;obtain⟨v,D,C⟩:=B l ρ H w eval (fun x j=>m x (by simpa[kg]using j))
  simp only[execOp,kb];exact upon_value s D C
 ·rename_i x i
  obtain⟨x',h,j⟩:=qG h;split at h
  ·rename_i vs
   obtain⟨c,M,h⟩:=zE h;refine⟨_,h,fun lo l bs ρ H w eval s m=>?_⟩;have rx:=j ρ H _ l (m x (by simp[kg]));simp only[qR,qP]at rx;obtain⟨us,e,q⟩:=rx;obtain⟨v,hv,C⟩:=q.get M;exact upon_value s (v:=v) (by simp[e,Instr.extract,hv]) C
  ·rename_i a b
   split at h
   ·refine⟨_,h,fun lo l bs ρ H w eval s m=>?_⟩
    obtain⟨u,v,e,Q,C⟩:=j ρ H _ l (m x (by simp[kg]));exact upon_value s (v:=u) (by simp[e,Instr.extract]) Q
   ·refine⟨_,h,fun lo l bs ρ H w eval s m=>?_⟩
    obtain⟨u,v,e,Q,C⟩:=j ρ H _ l (m x (by simp[kg]));exact upon_value s (v:=v) (by simp[e,Instr.extract]) C
   exact h.elim
  ·rename_i ok a b
   have cut:∀ {ρ:List Value} {H:PH} {u:Value},ok=true->qR ρ H (.nxt ok a b) u->∃ y z,u=.tuple #[.bool true,y,z]/\qP H a y/\qP H b z:=by
    intro ρ H u hok r;simp only[qR,hok,if_true]at r;exact r
   split at h
   ·refine⟨_,h,fun lo l bs ρ H w eval s m=>?_⟩
    have r:=j ρ H _ l (m x (by simp[kg]));cases ok with
    | true=>
     obtain⟨u,v,e,_,_⟩:=cut rfl r;exact upon_value s (v:=.bool true) (by simp[e,Instr.extract]) dQ
    | false=>
     simp only[qR,Bool.false_eq_true,if_false]at r;exact upon_value s (v:=.bool false) (by simp[r,Instr.extract]) dQ
   ·refine⟨_,h.2,fun lo l bs ρ H w eval s m=>?_⟩
    obtain⟨u,v,e,Q,C⟩:=cut (fY h.1 l) (j ρ H _ l (m x (by simp[kg])));exact upon_value s (v:=u) (by simp[e,Instr.extract]) Q
   ·refine⟨_,h.2,fun lo l bs ρ H w eval s m=>?_⟩
    obtain⟨u,v,e,Q,C⟩:=cut (fY h.1 l) (j ρ H _ l (m x (by simp[kg])));exact upon_value s (v:=v) (by simp[e,Instr.extract]) C
   exact h.elim
  exact h.elim
 ·rename_i t x
  obtain⟨x',h,j⟩:=qG h;split at h
  ·exact h.elim
  ·rename_i d hd hu
   split at h
   ·refine⟨_,h,fun lo l bs ρ H w eval s m=>?_⟩
    have rx:=j ρ H _ l (m x (by simp[kg]));refine upon_value s (v:=.iface t (eval x)) ?_ (by simp only[qR]; exact⟨_,rfl,rx⟩);simp only[Instr.makeInterface,ke,kru hu,kc];rfl
   obtain⟨p,h,hp⟩:=dB h;refine⟨_,h,fun lo l bs ρ H w eval s m=>?_⟩;have rx:=hp ρ H _ (j ρ H _ l (m x (by simp[kg])));refine upon_value s (v:=.iface t (eval x)) ?_ (by simp only[qR,qP]; exact⟨_,rfl,rx⟩);simp only[Instr.makeInterface,ke,kru hu,kc];rfl
  exact h.elim
 ·rename_i x t
  obtain⟨x',h,j⟩:=qG h;obtain⟨A,h,B⟩:=ll h;refine⟨_,h,fun lo l bs ρ H w eval s m=>?_⟩;obtain⟨v,D,C⟩:=B ρ H w ty _ (j ρ H _ l (m x (by simp[kg,kh])));simp only[execOp,resolve,invoke,builtin,ke,kf,kc,kb,jk,jN,D];exact uQ s C
 ·rename_i f xs ts
  obtain⟨vs,h,hvs⟩:=mz h;obtain⟨ps,h,hps⟩:=dC h;obtain⟨r,M,h⟩:=h;refine⟨_,h,fun lo l bs ρ H w eval s m=>?_⟩;have M:=fY M l;have rl:=hps ρ H _ (hvs ρ H eval l (fun y V=>m y (by simp[kg,kh,V])))
  have:=M H w _ s.sath rl;have hf:(eval (.func f))=.func (.func f) #[] #[]:=by
   have:=m (.func f) (by simp[kg,kh]);simpa[evF,qR,qP]using this
  simp only[execOp,resolve,Deferred.ofValue,invoke,hf,ke,kf,kc,kb,Array.empty_append,Array.append_empty];exact rF s this
 obtain⟨A,h,B⟩:=No (dst:=dst) (ty:=ty) (pos:=pos) (after:=after) (guard:=guard) h;exact⟨A,h,B⟩
theorem MS {H:PH} {w:World} (s:SatH H w) {b o:Nat} {v:Value} (h:H b o=some v):w.cell? ⟨b,o,none⟩=some v:=(s.cell b o v h).1
theorem fC {w:World} {t:TypeId} {d:TypeDesc} {i:TypeInfo} (e:P.underlying t=some d) (f:P.info? t=some i) {b o:Nat} {vs:List Value}
  (g:∀ j v,vs[j]? =some v->w.cell? ⟨b,o+j,none⟩=some v) (h:i.size<=vs.length) (a:oY d=true) :
  (Instr.loadAt t (.pointer (some ⟨b,o,none⟩))).run P w=.ok (.agg (vs.take i.size).toArray) w:=by
 have hl:(loadCells ⟨b,o,none⟩ (vs.take i.size).length).run P w=.ok (vs.take i.size).toArray w:=
  run_loadCells_list (P:=P) w ⟨b,o,none⟩ (vs.take i.size) (fun j v c=>by
   rw[Addr.add_lit];rw[jE]at c;split at c
   ·exact g j v c
   cases c)
 rw[jt,Nat.min_eq_left h]at hl;simp[Instr.loadAt,Instr.sureAddr,loadVar,sH e,a,Go.sizeOf,typeInfo,f,hl]
theorem uY {w:World} {t:TypeId} {d:TypeDesc} (c:P.underlying t=some d) {b o:Nat} {v:Value}
  (e:w.cell? ⟨b,o,none⟩=some v) (a:oY d=false):(Instr.loadAt t (.pointer (some ⟨b,o,none⟩))).run P w=.ok v w:=by
 simp[Instr.loadAt,Instr.sureAddr,loadVar,sH c,a,e]
theorem GI {t:TypeId} {lo:List AObj} {x':FV} {R:FV->Prop} (h:Zo P t lo x' R) :
  ∃ F,R F/\∀ (bs:Base) (ρ:List Value) (H:PH) (w:World) (v:Value),SatW bs ρ H lo w->qR ρ H x' v->∃ a u,v=.pointer (some a)/\(Instr.loadAt t v).run P w=.ok u w/\qR ρ H F u:=by
 unfold Zo at h;split at h
 ·rename_i k off
  obtain⟨K,m,h⟩:=zE h;split at h
  ·rename_i bt cells
   obtain⟨h,G⟩:=fh h;obtain⟨d,i,n,y,h⟩:=vZ h;split at h
   ·rename_i e
    obtain⟨h,x⟩:=df h;split at h
    ·refine⟨_,h,fun bs ρ H w v s l=>?_⟩
     obtain⟨b,o,rfl⟩:=l;obtain⟨A,vs,p,g,f,_⟩:=s.objs k _ _ m o;cases p;refine⟨_,_,rfl,fC n y (bw g off) (by rw[jM]at x ⊢; rw[f.length]; exact x) e,?_⟩;exact⟨_,rfl,Cs ((f.drop off).take _)⟩
    obtain⟨L,h,B⟩:=dC h;refine⟨_,h,fun bs ρ H w v s l=>?_⟩;obtain⟨b,o,rfl⟩:=l;obtain⟨A,vs,p,g,f,_⟩:=s.objs k _ _ m o;cases p;refine⟨_,_,rfl,fC n y (bw g off) (by rw[jM]at x ⊢; rw[f.length]; exact x) e,?_⟩;simp only[qR,qP];exact⟨_,rfl,B _ _ _ ((f.drop off).take _)⟩
   rename_i e;split at h
   ·rename_i c r I
    refine⟨_,h,fun bs ρ H w v s l=>?_⟩;obtain⟨b,o,rfl⟩:=l;obtain⟨A,vs,p,g,f,_⟩:=s.objs k _ _ m o;cases p;have z:=f.drop off;rw[I]at z;obtain⟨v,C,e2,D,_⟩:=z;have:=bw g off 0 v (by rw[e2]; simp);exact⟨_,_,rfl,uY n (by simpa using this) e,D⟩
   exact h.elim
  ·rename_i bt c
   split at h
   ·rename_i E
    obtain⟨d,i,n,y,h⟩:=vZ h;split at h
    ·exact h.elim
    rename_i e;refine⟨_,h,fun bs ρ H w v s l=>?_⟩;obtain⟨b,o,rfl⟩:=l;obtain⟨A,u,us,p,g,f,_⟩:=s.objs k _ _ m o;cases p;have E:=jm E;have:=bw g 0 0 u (by simp);rw[E];exact⟨_,_,rfl,uY n (by simpa using this) e,f⟩
   exact h.elim
  exact h.elim
 ·rename_i row
  obtain⟨d,i,n,y,h⟩:=vZ h;split at h
  ·rename_i e
   obtain⟨h,x⟩:=df h;refine⟨_,h,fun bs ρ H w v s l=>?_⟩;obtain⟨b,o',vs,rfl,q,c⟩:=l;refine⟨_,_,rfl,fC n y (fun j v J=>MS s.sath (c j v J)) (by rw[q.length]; exact x) e,?_⟩
   simp only[qR,qP];exact⟨_,rfl,q.take _⟩
  rename_i e;split at h
  ·rename_i M r I
   refine⟨_,h,fun bs ρ H w v s l=>?_⟩;obtain⟨b,o',vs,rfl,q,c⟩:=l;simp only[zz]at q;obtain⟨u,C,e2,D,_⟩:=q;have:=MS s.sath (c 0 u (by rw[e2]; simp));exact⟨_,_,rfl,uY n (by simpa using this) e,D⟩
  exact h.elim
 exact h.elim
theorem Rg {o:Oper} {t:TypeId} {x:Operand} (d:o.op=.load t x) {E:Env} {g:G} {lo:List AObj} {R:FV->Prop} (h:evS E g x fun x=>Zo P t lo x R) :
  ∃ b,R b/\fg P o (qT E) lo g b lo:=by
 obtain⟨x',h,c⟩:=qG h;obtain⟨b,h,e⟩:=GI h;refine⟨_,h,fun f bs ρ H w eval s i=>?_⟩;obtain⟨a,u,_,j,k⟩:=e bs ρ H w _ s (c ρ H _ f (i x (by simp[d,kg])));simp only[execOp,d];exact upon_value s j k
theorem Ra {o:Oper} {c d:TypeId} {x:Operand} (e:o.op=.convert c d x) {E:Env} {g:G} {lo:List AObj} {R:FV->Prop} (h:evS E g x fun x=>BD P g c d lo x R) :
  ∃ a,R a/\fg P o (qT E) lo g a lo:=by
 obtain⟨x',h,b⟩:=qG h;obtain⟨a,h,i⟩:=Ub h;refine⟨_,h,fun f bs ρ H w eval s j=>?_⟩;obtain⟨u,k,l⟩:=i f bs ρ H w _ s (b ρ H _ f (j x (by simp[e,kg])));simp only[execOp,e];exact upon_value s k l
end
end Ax
end
section
namespace Ax
open Go
theorem cP.length {H:PH} {z:Nat}:∀ {rows:List (List PV)} {vs:List Value},cP H z rows vs->vs.length=rows.length * z
 | [],_,x=>by simp only[cP]at x; simp[x]
 | r::rs,vs,x=>by
  simp only[cP]at x;obtain⟨hz,a,b,rfl,q,y⟩:=x;rw[jb,q.length,hz,y.length,ja,Nat.add_mul,Nat.one_mul,Nat.add_comm]
theorem cP.append {H:PH} {z:Nat}:∀ {rows c:List (List PV)} {vs us:List Value},cP H z rows vs->cP H z c us->cP H z (rows++c) (vs++us)
 | [],_,vs,us,x,y=>by simp only[cP]at x; simpa[x]using y
 | r::rs,_,vs,us,x,y=>by
  obtain⟨hz,a,b,e,q,x'⟩:=x;exact⟨hz,a,b++us,by rw[e,js],q,x'.append y⟩
theorem nS.flat {H:PH} {b z:Nat}:∀ {o:Nat} {rows:List (List PV)},nS H b z o rows->∃ vs,cP H z rows vs/\∀ j v,vs[j]? =some v->H b (o+j)=some v
 | o,[],_=>⟨[],rfl,fun j v h=>by simp at h⟩
 | o,r::rs,x=>by
  simp only[nS]at x;obtain⟨hz,⟨vs,q,c⟩,x'⟩:=x;obtain⟨us,y,f⟩:=x'.flat;refine⟨vs++us,⟨hz,vs,us,rfl,q,y⟩,fun j v a=>?_⟩;have hl:vs.length=z:=by rw[q.length,hz]
  rcases Nat.lt_or_ge j vs.length with d|d
  ·rw[jB d]at a; exact c j v a
  rw[jC d]at a;have:=f _ _ a;have e:o+z+(j - vs.length)=o+j:=by omega
  rwa [e]at this
theorem cP.unflat {H:PH} {b z:Nat}:∀ {o:Nat} {rows:List (List PV)} {vs:List Value},cP H z rows vs->(∀ j v,vs[j]? =some v->H b (o+j)=some v)->nS H b z o rows
 | _,[],_,_,_=>by simp[nS]
 | o,r::rs,vs,x,c=>by
  obtain⟨hz,a,e,rfl,q,y⟩:=x;have hl:a.length=z:=by rw[q.length,hz]
  simp only[nS];refine⟨hz,⟨a,q,fun j v d=>c j v ?_⟩,y.unflat fun j v d=>?_⟩
  ·have:=(jG.1 d).1
   rw[jB this]; exact d
  have:=c (z+j) v (by rw[jC (by omega)]; rw[hl,Nat.add_sub_cancel_left]; exact d)
  rwa [← Nat.add_assoc]at this
theorem GP {H:PH} {rows:List (List PV)} {v:Value} {z:Nat} (h:qP H (.sl rows) v) (hz:∀ r∈rows,r.length=z) :
  (rows=[]/\(v=.slice none 0 0\/∃ a cap,v=.slice (some a) 0 cap))\/∃ b o cap vs,v=.slice (some ⟨b,o,none⟩) rows.length cap/\rows.length<=cap/\cP H z rows vs/\∀ j u,vs[j]? =some u->H b (o+j)=some u:=by
 simp only[qP]at h;rcases h with h|⟨b,o,f,cap,e,d,r⟩
 ·exact .inl h
 refine .inr ⟨b,o,cap,?_⟩;cases rows with
 | nil=>exact⟨[],e,d,rfl,fun j u h=>by simp at h⟩
 | cons r0 rs=>
  have:f=z:=by
   simp only[nS]at r;rw[← r.1]; exact hz r0 (by simp)
  subst this;obtain⟨vs,y,c⟩:=r.flat;exact⟨vs,e,d,y,c⟩
theorem SatW.kill {bs:Base} {ρ:List Value} {H:PH} {lo:List AObj} {w:World} (s:SatW bs ρ H lo w) (k:Nat):SatW bs ρ H (lo.set k .dead) w where
 sath:=s.sath
 hlen:=by simpa using s.hlen
 pre:=s.pre
 objs:=fun i o v a d=>by
  rw[jF]at a;split at a
  ·split at a
   ·cases a; trivial
   cases a
  ·exact s.objs i o v a d
 excl:=fun i j o o' v v' b a c d f g hl e h=>by
  rw[jF]at a c;split at a
  ·split at a
   ·cases a; simp[AObj.live]at hl
   cases a
  ·split at c
   ·split at c
    ·cases c; simp[AObj.live]at e
    cases c
   ·exact s.excl i j o o' v v' b a c d f g hl e h
 own:=fun i o v b a d hl h=>by
  rw[jF]at a;split at a
  ·split at a
   ·cases a; simp[AObj.live]at hl
   cases a
  ·exact s.own i o v b a d hl h
 keep:=s.keep
 leH:=s.leH
 newH:=s.newH
theorem SatW.push {bs:Base} {ρ:List Value} {H H':PH} {lo:List AObj} {w w':World} (s:SatW bs ρ H lo w) {v:Value} {o:AObj} {g:Nat}
  (d:qZ v=some g\/qZ v=none)
  (hfree:∀ (k:Nat) (o':AObj) (v':Value),lo[k]? =some o'->ρ[k]? =some v'->o'.live=true->qZ v'≠some g)
  (p:bs.S g\/bs.w0.heap.size<=g) (z:PH.le H H') (A:SatH H' w')
  (r:∀ b o v,H' b o=some v->(∃ v,H b o=some v)\/b=g) (hkeep:Keep (fun b=>b=g) w w')
  (G:ZK (ρ++[v]) H' w' v o):SatW bs (ρ++[v]) H' (lo++[o]) w' where
 sath:=A
 hlen:=by simp[s.hlen]
 pre:=s.pre.trans (List.prefix_append _ _)
 objs:=fun i q u a hu=>by
  rw[List.getElem?_append]at a hu;rw[s.hlen]at hu;split at a
  ·rename_i f
   simp only[f,if_true]at hu;cases hl:q.live with
   | false=>cases q<;>simp[AObj.live]at hl; trivial
   | true=>
    refine(s.objs i q u a hu).keep (List.prefix_append _ _) z (fun b c B=>hkeep.block b B (fun e=>hfree i q u a hu hl (by rw[c,e]))) (fun b o' c _ M=>?_)
    cases J:H' b o' with
    | none=>rfl
    | some x=>
     rcases r b o' x J with ⟨y,F⟩|e
     ·rw[M]at F; cases F
     exact absurd (by rw[c,e]) (hfree i q u a hu hl)
  rename_i f;simp only[f,if_false]at hu;have h1:=(jG.1 a).1;simp at h1;have C:i - lo.length=0:=by omega
  rw[C]at a hu;simp at a hu;subst a; subst hu;exact G
 excl:=fun i j oi oj K L b a t l m I D E c=>by
  rw[List.getElem?_append]at a t l m;rw[s.hlen]at l m;have last:∀ {x:Nat} {q:AObj} {u:Value},¬ x<lo.length->[o][x - lo.length]? =some q->[v][x - lo.length]? =some u->x=lo.length/\u=v:=by
   intro x q u J h1 h2;have:=(jG.1 h1).1;simp at this;have C:x - lo.length=0:=by omega
   rw[C]at h2;simp at h2;exact⟨by omega,h2.symm⟩
  by_cases h1:i<lo.length<;>by_cases h2:j<lo.length<;>simp only[h1,h2,if_true,if_false]at a t l m
  ·exact s.excl i j oi oj K L b a t l m I D E c
  ·obtain⟨_,rfl⟩:=last h2 t m
   intro n;rcases d with d|d
   ·rw[d]at n; cases n; exact hfree i oi K a l D c
   rw[d]at n; cases n
  ·obtain⟨_,rfl⟩:=last h1 a l
   intro n;rcases d with d|d
   ·rw[d]at c; cases c; exact hfree j oj L t m E n
   rw[d]at c; cases c
  obtain⟨N,_⟩:=last h1 a l;obtain⟨e2,_⟩:=last h2 t m;omega
 own:=fun i q u b a hu hl c=>by
  rw[List.getElem?_append]at a hu;rw[s.hlen]at hu;split at a
  ·rename_i f
   simp only[f,if_true]at hu;exact s.own i q u b a hu hl c
  rename_i f;simp only[f,if_false]at hu;have h1:=(jG.1 a).1;simp at h1;have C:i - lo.length=0:=by omega
  rw[C]at hu;simp at hu;subst hu;rcases d with d|d
  ·rw[d]at c; cases c; exact p
  rw[d]at c; cases c
 keep:=s.keep.step hkeep (fun i a=>by
  subst a;rcases p with h|h
  ·exact .inl h
  exact .inr h)
 leH:=s.leH.trans z
 newH:=fun b o v c=>by
  rcases r b o v c with ⟨y,F⟩|e
  ·exact s.newH b o y F
  subst e; exact .inr p
theorem SatW.fresh {bs:Base} {ρ:List Value} {H:PH} {lo:List AObj} {w:World} (s:SatW bs ρ H lo w) {g:Nat} (p:w.heap.size<=g) :
  ∀ (k:Nat) (o':AObj) (v':Value),lo[k]? =some o'->ρ[k]? =some v'->o'.live=true->qZ v'≠some g:=fun k o v i m hl a=>by
 have:=s.objs k o v i m;cases o with
 | dead=>simp[AObj.live]at hl
 | box t cells=>
  obtain⟨b,vs,rfl,hgt,_⟩:=this;simp[qZ]at a;have:=xU hgt;omega
 | tail e z n=>
  obtain⟨xs,f,_⟩:=this;rcases f.2 with ⟨rfl,_⟩|⟨h,cap,cur,rfl,_,hgt,_⟩
  ·simp[qZ]at a
  simp[qZ]at a;have:=xU hgt;omega
 | vec e z n=>
  obtain⟨xs,f,_⟩:=this;rcases f.2 with ⟨rfl,_⟩|⟨h,cap,cur,rfl,_,hgt,_⟩
  ·simp[qZ]at a
  simp[qZ]at a;have:=xU hgt;omega
 | mp d es mk=>
  obtain⟨b,ents,clock,rfl,hgt,_⟩:=this;simp[qZ]at a;have:=xU hgt;omega
 | sit l pos=>
  obtain⟨b,rfl,hgt,_⟩:=this;simp[qZ]at a;have:=xU hgt;omega
 | bv l=>
  obtain⟨b,cs,e,cap,lo,q,rfl,hgt,_⟩:=this;simp[qZ]at a;have:=xU hgt;omega
 | pbx t c=>
  obtain⟨b,u,us,rfl,hgt,_⟩:=this;simp[qZ]at a;have:=xU hgt;omega
 | vl e z rows j k=>
  obtain⟨xs,f,_⟩:=this;rcases f.2 with ⟨rfl,_⟩|⟨h,cap,cur,rfl,_,hgt,_⟩
  ·simp[qZ]at a
  simp[qZ]at a;have:=xU hgt;omega
theorem fU (w:World) (o:Obj) (g:Nat):Keep (fun b=>b=g) w (w.alloc o):=
 ⟨rfl,rfl,rfl,by simp,fun k a _=>heap_alloc_old w o a⟩
theorem fi (w:World) (o:Obj) (g:Nat):Keep (fun b=>b=g) w (w.drew.alloc o):=
 ⟨rfl,rfl,rfl,by simp,fun k a _=>heap_alloc_old w.drew o a⟩
theorem de {H:PH} {w:World} (s:SatH H w) (o:Obj):SatH H (w.alloc o):=⟨fun b p v a=>by
 refine⟨?_,(s.cell b p v a).2⟩;rw[World.cell?_alloc_lt (h:=s.lt a)];exact(s.cell b p v a).1,s.root⟩
theorem SatW.pushBox {bs:Base} {ρ:List Value} {H:PH} {lo:List AObj} {w:World} (s:SatW bs ρ H lo w) {t:TypeId} {cells:List FV} {vs:List Value} (a:zZ ρ H cells vs) :
  SatW bs (ρ++[.pointer (some ⟨w.heap.size,0,none⟩)]) H (lo++[.box t cells]) (w.alloc (.cells vs.toArray t)):=by
 refine s.push (g:=w.heap.size) (.inl rfl) (s.fresh (jw _)) (.inr s.keep.size) (PH.le.refl H) (de s.sath _) (fun b o v h=>.inl ⟨v,h⟩) (fU w _ _) ?_;refine⟨w.heap.size,vs,rfl,heap_alloc_new w _,a.mono (List.prefix_append _ _) (PH.le.refl H),fun o=>?_⟩;cases c:H w.heap.size o with
 | none=>rfl
 | some x=>exact absurd (s.sath.lt c) (jR _)
theorem Bo {ρ:List Value} {H:PH}:∀ {a:List FV} {vs:List Value},Uv a=true->zZ ρ H a vs->∀ u∈vs,u.oneCell'=true
 | [],vs,_,r,u,hu=>by simp only[zZ]at r; simp[r]at hu
 | f::a,vs,h,r,u,hu=>by
  simp only[Uv]at h;split at h
  ·rename_i h1
   obtain⟨v,b,rfl,c,rs⟩:=r;rcases jg.1 hu with rfl|hu
   ·exact(bx h1 c).2
   exact Bo h rs u hu
  cases h
theorem sA:∀ {c:FV} {R:List FV->Prop},XE c R->∃ cs,R cs/\∀ (ρ:List Value) (H:PH) (vs:List Value),qR ρ H c (.tuple vs.toArray)->zZ ρ H cs vs
 | .cap0,R,h=>⟨[],h,fun ρ H vs r=>by
   simp only[qR,Value.tuple.injEq]at r;simpa[zZ]using r⟩
 | .cap a b,R,h=>by
  simp only[XE]at h;obtain⟨i,h,d⟩:=sA h;refine⟨_,h,fun ρ H vs r=>?_⟩;obtain⟨u,us,e,f,g⟩:=r;have e:vs=u::us:=by simpa using e
  subst e;exact⟨u,us,rfl,f,d _ _ _ g⟩
 | .top,_,h|.p _,_,h|.opt _ _,_,h|.tsl _ _,_,h|.ptr _ _,_,h|.hptr _,_,h|.bself _,_,h|.bsl _ _ _ _,_,h|.vsl _ _,_,h|.eptr _ _ _ _,_,h|.mref _,_,h|.pair _ _,_,h|.stmp _,_,h|.clo _ _,_,h|.fagg _,_,h|.nxt _ _ _,_,h|.asl _ _ _,_,h|.ifs _ _,_,h=>by
  simp[XE]at h
theorem Zj {f:FV} {R:List FV->Prop} (h:XC f R):∃ cs,R cs/\∀ (ρ:List Value) (H:PH) (x:Value),qR ρ H f x->zZ ρ H cs x.cells.toList:=by
 unfold XC at h;split at h
 ·rename_i cs
  refine⟨_,Qp h,fun ρ H x r=>?_⟩;simp only[qR,qP]at r;obtain⟨vs,rfl,q⟩:=r;simpa[Value.cells]using zZ.of_RepL q
 ·rename_i c
  obtain⟨cs,h,a⟩:=sA h;refine⟨_,h,fun ρ H x r=>?_⟩;obtain⟨vs,rfl,rc⟩:=r;simpa[Value.cells]using a ρ H vs rc
 split at h
 ·rename_i h1
  refine⟨_,h,fun ρ H x r=>?_⟩;rw[(bx h1 r).1];exact⟨x,[],rfl,r,rfl⟩
 exact h.elim
theorem GS {P:Program} {t:TypeId} {R:List PV->Prop} (h:aS P t R):∃ i z a,P.info? t=some i/\i.zero=some z/\R a/\∀ H,zz H a z.cells.toList:=by
 unfold aS at h;split at h
 ·rename_i i e
  split at h
  ·rename_i vs hz
   obtain⟨a,b,c⟩:=Qs h;exact⟨i,_,a,e,hz,b,fun H=>by simpa[Value.cells]using c H⟩
  ·rename_i v d hz
   obtain⟨a,b,c⟩:=Qs h;refine⟨i,v,a,e,hz,b,fun H=>?_⟩;have:v.cells = #[v]:=by
    cases v<;>first|rfl|skip
    rename_i cs;exact absurd rfl (d cs.toList)
   rw[this];simpa using c H
  exact h.elim
 exact h.elim
theorem SatW.setBox {bs:Base} {ρ:List Value} {H:PH} {lo:List AObj} {w:World} (s:SatW bs ρ H lo w) {k b:Nat} {t:TypeId} {old cells:List FV} {n vs:List Value}
  (l:lo[k]? =some (.box t old)) (p:ρ[k]? =some (.pointer (some ⟨b,0,none⟩))) (D:w.heap[b]? =some (.cells n.toArray t (0,0))) (B:∀ o,H b o=none)
  (E:zZ ρ H cells vs):SatW bs ρ H (lo.set k (.box t cells)) (w.setRow b vs.toArray) where
 sath:=s.sath.block fun d o v f=>setRow_other w b d _ (fun e=>by subst e; rw[B o]at f; cases f)
 hlen:=by simpa using s.hlen
 pre:=s.pre
 objs:=fun i o v a c=>by
  rw[jF]at a;split at a
  ·rename_i e
   subst e;split at a
   ·cases a
    rw[p]at c;cases c;exact⟨b,vs,rfl,setRow_heap w b _ _ t _ D,E,B⟩
   cases a
  ·rename_i g
   cases hl:o.live with
   | false=>cases o<;>simp[AObj.live]at hl; trivial
   | true=>
    have q:=s.excl k i _ o _ v b l a p c g rfl hl rfl;exact(s.objs i o v a c).keep (jq _) (PH.le.refl H) (fun d r _=>setRow_other w b d _ (fun e=>q (by rw[r,e]))) (fun d o' _ _ F=>F)
 excl:=fun i j oi oj G I d a C u y g z A f=>by
  rw[jF]at a C;have live:∀ {x:Nat} {m:AObj},(if k=x then if k<lo.length then some (AObj.box t cells)else none else lo[x]?)=some m->m.live=true->∃ o',lo[x]? =some o'/\o'.live=true:=by
   intro x m h hl;split at h
   ·rename_i e; subst e; exact⟨_,l,rfl⟩
   exact⟨m,h,hl⟩
  obtain⟨J,h1,K⟩:=live a z;obtain⟨L,h2,M⟩:=live C A;exact s.excl i j J L G I d h1 h2 u y g K M f
 own:=fun i o v d a c hl f=>by
  rw[jF]at a;split at a
  ·rename_i e; subst e; exact s.own k _ v d l c rfl f
  exact s.own i o v d a c hl f
 keep:=s.keep.step (S':=fun x=>x=b) ⟨rfl,rfl,rfl,by simp,fun x _ N=>setRow_other w b x _ N⟩ (fun i a=>by
  subst a;exact s.own k _ _ i l p rfl rfl)
 leH:=s.leH
 newH:=s.newH
end Ax
end
section
namespace Ax
open Go
theorem SatW.upd {bs:Base} {ρ:List Value} {H:PH} {lo:List AObj} {w w':World} (s:SatW bs ρ H lo w) {k b:Nat} {o o':AObj} {v:Value}
  (n:lo[k]? =some o) (r:ρ[k]? =some v) (hl:o.live=true) (E:qZ v=some b) (G:∀ i,H b i=none) (hkeep:Keep (fun x=>x=b) w w') (t:ZK ρ H w' v o'):SatW bs ρ H (lo.set k o') w' where
 sath:=s.sath.block fun f i u hu=>hkeep.block f (s.sath.lt hu) (fun e=>by subst e; rw[G i]at hu; cases hu)
 hlen:=by simpa using s.hlen
 pre:=s.pre
 objs:=fun i oi l c a=>by
  rw[jF]at c;split at c
  ·rename_i e
   subst e;split at c
   ·cases c
    rw[r]at a;cases a;exact t
   cases c
  ·rename_i m
   cases d:oi.live with
   | false=>cases oi<;>simp[AObj.live]at d; trivial
   | true=>
    have y:=s.excl k i _ oi _ l b n c r a m hl d E;exact(s.objs i oi l c a).keep (jq _) (PH.le.refl H) (fun f z A=>hkeep.block f A (fun e=>y (by rw[z,e]))) (fun f N _ _ I=>I)
 excl:=fun i j oi oj l J f c F a B m d C g=>by
  rw[jF]at c F;have live:∀ {x:Nat} {p:AObj},(if k=x then if k<lo.length then some o' else none else lo[x]?)=some p->p.live=true->∃ q,lo[x]? =some q/\q.live=true:=by
   intro x p h D;split at h
   ·rename_i e; subst e; exact⟨_,n,hl⟩
   exact⟨p,h,D⟩
  obtain⟨K,h1,L⟩:=live c d;obtain⟨q,h2,M⟩:=live F C;exact s.excl i j K q l J f h1 h2 a B m L M g
 own:=fun i oi l f c a d g=>by
  rw[jF]at c;split at c
  ·rename_i e; subst e; exact s.own k _ l f n a hl g
  exact s.own i oi l f c a d g
 keep:=s.keep.step hkeep (fun i c=>by
  subst c;exact s.own k _ _ i n r hl E)
 leH:=s.leH
 newH:=s.newH
def AObj.boxy:AObj->Bool
 | .box _ _=>true
 | .mp _ _ _=>true
 | .pbx _ _=>true
 | _=>false
def zH (b:Bool) (lo lo':List AObj):Prop:=lo.length<=lo'.length/\(b=true->∀ k a,k<lo.length->a.boxy=true->(lo[k]? =some a↔lo'[k]? =some a))
theorem zH.refl {b:Bool} (lo:List AObj):zH b lo lo:=⟨jw _,fun _ _ _ _ _=>Iff.rfl⟩
theorem zH.push {b:Bool} {lo:List AObj} (o:AObj):zH b lo (lo++[o]):=⟨by simp,fun _ k c a _=>by rw[jB a]⟩
theorem zH.set {lo:List AObj} (k:Nat) (o:AObj):zH false lo (lo.set k o):=⟨by simp,fun h=>by cases h⟩
theorem zH.len {lo lo':List AObj} (h:lo'.length=lo.length):zH false lo lo':=⟨by omega,fun h=>by cases h⟩
theorem zH.kill {b:Bool} {lo:List AObj} {c:Nat} {d:AObj} (o:AObj) (h:lo[c]? =some d) (g:d.boxy=false):zH b lo (lo.set c .dead++[o]):=⟨by simp,fun _ k i f a=>by
 rw[jB (by simpa using f),jF];split
 ·rename_i e
  subst e;rw[if_pos f,h]
  constructor
  ·intro e; cases e; rw[g]at a; cases a
  intro e; cases e; cases a
 exact Iff.rfl⟩
theorem zH.trans {b:Bool} {a c d:List AObj} (h:zH b a c) (k:zH b c d):zH b a d:=
 ⟨Nat.le_trans h.1 k.1,fun e i f g j=>(h.2 e i f g j).trans (k.2 e i f (Nat.lt_of_lt_of_le g h.1) j)⟩
section
variable {P:Program} {w:World}
theorem Ti {a d:TypeDesc} {b:PV} {R:Prop} (h:Rm a d b R):R/\a=d/\∀ (H:PH) (v:Value),qP H b v->MapKept.IsKey d v:=by
 unfold Rm at h;split at h
 ·exact⟨h,rfl,fun H v r=>by simp only[qP]at r; subst r; trivial⟩
 ·exact⟨h,rfl,fun H v r=>by simp only[qP]at r; subst r; trivial⟩
 ·split at h
  ·rename_i h1
   split at h
   ·rename_i h2
    have h1:=mQ h1;have h2:=mQ h2;subst h1; subst h2;exact⟨h,rfl,fun H v r=>by simp only[qP]at r; subst r; rfl⟩
   exact h.elim
  exact h.elim
 exact h.elim
theorem Nu {t:TypeId} {d:TypeDesc} {c:PV} {R:TypeId->Prop} (h:qan P t d c R):∃ a b,R b/\P.underlying t=some (.map a b)/\P.underlying a=some d/\∀ (H:PH) (v:Value),qP H c v->MapKept.IsKey d v:=by
 unfold qan at h;split at h
 ·rename_i a b e
  split at h
  ·rename_i i f
   obtain⟨h2,rfl,g⟩:=Ti h;exact⟨a,b,h2,e,f,g⟩
  exact h.elim
 exact h.elim
theorem im {a b:List UInt8}:(Value.string ⟨a.toArray⟩=Value.string ⟨b.toArray⟩)↔a=b:=by
 constructor
 ·intro h
  injection h with h
  injection h with h
  simpa using h
 rintro rfl; rfl
theorem lh {H:PH} {d:TypeDesc} {p q:PV} {x y:Value} (hp:qP H p x) (a:qP H q y) (c:MapKept.IsKey d x) (e:MapKept.IsKey d y):aZ p q=true↔y=x:=by
 have b1:∀ {p:PV} {b:Bool},qP H p (.bool b)->p=.bool b:=by
  intro p b h;cases p<;>simp only[qP]at h<;>(try (obtain⟨_,_,_,h,_,_⟩:=h; cases h; done))<;>(try (obtain⟨_,h,_⟩:=h; cases h))<;>(try (rcases h with ⟨_,h|⟨_,_,h⟩⟩|⟨_,_,_,_,h,_⟩<;>cases h))<;>(try (rcases h with ⟨_,h⟩|⟨_,_,h,_⟩<;>cases h; done))<;>try cases h
  rfl
 have b2:∀ {p:PV} {k:IntKind} {n:Int},qP H p (.int k n)->p=.int k n:=by
  intro p k n h;cases p<;>simp only[qP]at h<;>(try (obtain⟨_,_,_,h,_,_⟩:=h; cases h; done))<;>(try (obtain⟨_,h,_⟩:=h; cases h))<;>(try (rcases h with ⟨_,h|⟨_,_,h⟩⟩|⟨_,_,_,_,h,_⟩<;>cases h))<;>(try (rcases h with ⟨_,h⟩|⟨_,_,h,_⟩<;>cases h; done))<;>try cases h
  rfl
 have b3:∀ {p:PV} {b:ByteArray},qP H p (.string b)->∃ l:List UInt8,p=.str l/\b=⟨l.toArray⟩:=by
  intro p b h;cases p<;>simp only[qP]at h<;>(try (obtain⟨_,_,_,h,_,_⟩:=h; cases h; done))<;>(try (obtain⟨_,h,_⟩:=h; cases h))<;>(try (rcases h with ⟨_,h|⟨_,_,h⟩⟩|⟨_,_,_,_,h,_⟩<;>cases h))<;>(try (rcases h with ⟨_,h⟩|⟨_,_,h,_⟩<;>cases h; done))<;>try cases h
  exact⟨_,rfl,rfl⟩
 cases d<;>cases x<;>cases y<;>simp only[MapKept.IsKey]at c e
 ·rw[b1 hp,b1 a]
  simp only[aZ,beq_iff_eq];exact⟨fun h=>by rw[h],fun h=>by injection h with h; exact h.symm⟩
 ·subst c; subst e
  rw[b2 hp,b2 a];simp only[aZ,beq_iff_eq];exact⟨fun h=>by rw[h],fun h=>by injection h with _ h; exact h.symm⟩
 obtain⟨l,rfl,rfl⟩:=b3 hp;obtain⟨m,rfl,rfl⟩:=b3 a;simp only[aZ,beq_iff_eq,im];exact eq_comm
theorem By {H:PH} {d:TypeDesc} {c:PV} {k:Value} (n:qP H c k) (u:MapKept.IsKey d k):∀ (es:List (PV×PV)) (l:List MapEntry) (i:Nat),Lj H es l->(∀ x∈l,MapKept.IsKey d x.key) ->
  (Cb c es=none/\Instr.findNow d k l i=some none/\(∀ x∈l,x.key≠k)/\∀ f,ec c f es=es++[(c,f)]) \/
  ∃ j e p,Cb c es=some p/\Instr.findNow d k l i=some (some (i+j,e.val))/\l[j]? =some e/\e.key=k/\qP H p e.val/\∀ f,ec c f es=es.set j (c,f)
 | [],l,i,r,_=>by
  simp only[Lj]at r;subst r;exact .inl ⟨rfl,rfl,by simp,fun _=>rfl⟩
 | (p,q)::es,l,i,r,h=>by
  obtain⟨e,y,rfl,z,A,B⟩:=r;have he:=h e (.head _);obtain⟨b,v,g⟩:=MapKept.sameNow_of_keys u he;have o:=lh n z u he;cases b with
  | true=>
   have s:=g.1 rfl;have a:aZ c p=true:=o.2 s.symm;exact .inr ⟨0,e,q,by simp[Cb,a],by simp[Instr.findNow,v],rfl,s.symm,A,fun f=>by simp[ec,a]⟩
  | false=>
   have t:e.key≠k:=fun q=>by have:=g.2 q.symm; cases this
   have a:aZ c p=false:=by
    cases m:aZ c p with
    | false=>rfl
    | true=>exact absurd (o.1 m) t
   rcases By n u es y (i+1) B (fun x m=>h x (.tail _ m))with ⟨h1,h2,h3,h4⟩|⟨j,C,p',h1,h2,h3,h4,h5,D⟩
   ·refine .inl ⟨by simp[Cb,a,h1],by simp[Instr.findNow,v,h2],fun x m=>?_,fun f=>by simp[ec,a,h4]⟩
    cases m with
    | head=>exact t
    | tail _ m=>exact h3 x m
   ·exact .inr ⟨j+1,C,p',by simp[Cb,a,h1],by simp[Instr.findNow,v,h2]; omega,by simpa using h3,h4,h5,fun f=>by simp[ec,a,D]⟩
theorem Lj.length {H:PH}:∀ {es:List (PV×PV)} {l:List MapEntry},Lj H es l->l.length=es.length
 | [],l,r=>by simp only[Lj]at r; simp[r]
 | (_,_)::es,l,r=>by
  obtain⟨e,b,rfl,_,_,a⟩:=r;simp[a.length]
theorem Lj.push {H:PH}:∀ {es:List (PV×PV)} {l:List MapEntry} {k v:PV} {e:MapEntry},Lj H es l->qP H k e.key->qP H v e.val->Lj H (es++[(k,v)]) (l++[e])
 | [],l,k,v,e,r,rk,rv=>by
  simp only[Lj]at r;subst r;exact⟨e,[],rfl,rk,rv,rfl⟩
 | (_,_)::es,l,k,v,e,r,rk,rv=>by
  obtain⟨a,b,rfl,c,d,f⟩:=r;exact⟨a,b++[e],rfl,c,d,f.push rk rv⟩
theorem Lj.set {H:PH}:∀ {es:List (PV×PV)} {l:List MapEntry} {j:Nat} {k v:PV} {e:MapEntry},Lj H es l->qP H k e.key->qP H v e.val->Lj H (es.set j (k,v)) (l.set j e)
 | [],l,j,k,v,e,r,rk,rv=>by
  simp only[Lj]at r;subst r;simp[Lj]
 | (_,_)::es,l,j,k,v,e,r,rk,rv=>by
  obtain⟨c,a,rfl,d,f,b⟩:=r;cases j with
  | zero=>exact⟨e,a,rfl,rk,rv,b⟩
  | succ j=>exact⟨c,a.set j e,rfl,d,f,b.set rk rv⟩
theorem TD {t:TypeId} {R:PV->Prop} (h:Pa P t R):∃ p z,R p/\(∀ w,(zeroValue t).run P w=.ok z w)/\∀ H,qP H p z:=by
 unfold Pa at h;split at h
 ·rename_i i b
  split at h
  ·rename_i vs hz
   obtain⟨c,h,a⟩:=Qs h;exact⟨.agg c,.agg ⟨vs⟩,h,fun w=>by simp[zeroValue,typeInfo,b,hz],fun H=>by simp only[qP]; exact⟨vs,rfl,a H⟩⟩
  ·rename_i v d hz
   split at h
   ·rename_i p hp
    exact⟨p,v,h,fun w=>by simp[zeroValue,typeInfo,b,hz],fun H=>UO hp H⟩
   exact h.elim
  exact h.elim
 exact h.elim
theorem Nn {g:G} {t:TypeId} {lo:List AObj} {x key:FV} {ok:Bool} {R:FV->Prop} (h:Zp P g t lo x key ok R) :
  ∃ B,R B/\((∃ k o,x=.mref k/\lo[k]? =some o/\o.live=true)/\(gOn g->∀ (bs:Base) (ρ:List Value) (H:PH) (w:World) (a b:Value),SatW bs ρ H lo w->qR ρ H x a->qR ρ H key b ->
   ∃ v,(Instr.lookup t a b ok).run P w=.ok v w/\qR ρ H B v)):=by
 unfold Zp at h;split at h
 ·rename_i k O
  have n:=zE h; clear h; obtain⟨o,C,h⟩:=n;split at h
  ·rename_i d es mk
   have n:=Nu h; clear h; obtain⟨Q,S,h,r,i,q⟩:=n;have n:=TD h; clear h; obtain⟨z,u,h,hz,D⟩:=n;obtain⟨v,b,y,h⟩:=h;refine⟨_,h,⟨k,_,rfl,C,rfl⟩,fun F bs ρ H w a I s J E=>?_⟩;obtain⟨l,m⟩:=fY y F;obtain⟨T,K,rfl⟩:=J;obtain⟨L,ents,clock,e,c,M,⟨N,A,_⟩,_⟩:=s.objs k _ _ C K;cases e;have f:=q H I E;rcases By E f es ents.toList 0 M A with ⟨h1,h2,_,_⟩|⟨j,e,p,h1,h2,_,_,h5,_⟩
   ·rw[h1]at l m
    simp only[Option.getD_none,Option.isSome_none]at l m;subst l; subst m;cases ok
    ·exact⟨u,by simp[Instr.lookup,kru r,MapKept.run_getObj_map c,MapKept.run_checkKey i f,MapKept.run_findKey i h2,hz],D H⟩
    exact⟨.tuple #[u,.bool false],by simp[Instr.lookup,kru r,MapKept.run_getObj_map c,MapKept.run_checkKey i f,MapKept.run_findKey i h2,hz],by
     simp only[qR,qP];exact⟨[u,.bool false],rfl,by simp only[zz]; exact⟨u,_,rfl,D H,.bool false,[],rfl,by simp[qP],rfl⟩⟩⟩
   rw[h1]at l m;simp only[Option.getD_some,Option.isSome_some]at l m;subst l; subst m;cases ok
   ·exact⟨e.val,by simp[Instr.lookup,kru r,MapKept.run_getObj_map c,MapKept.run_checkKey i f,MapKept.run_findKey i h2],h5⟩
   exact⟨.tuple #[e.val,.bool true],by simp[Instr.lookup,kru r,MapKept.run_getObj_map c,MapKept.run_checkKey i f,MapKept.run_findKey i h2],by
    simp only[qR,qP];exact⟨[e.val,.bool true],rfl,by simp only[zz]; exact⟨e.val,_,rfl,h5,.bool true,[],rfl,by simp[qP],rfl⟩⟩⟩
  exact h.elim
 exact h.elim
theorem Tg {t:TypeId} {lo:List AObj} {x:FV} {R:FV->Prop} (h:qbu P t lo x R) :
  ∃ c,R c/\∀ (bs:Base) (ρ:List Value) (H:PH) (w:World) (ty:TypeId) (a:Value),SatW bs ρ H lo w->qR ρ H x a->∃ v,(Builtin.len_ #[t] ty #[a]).run P w=.ok v w/\qR ρ H c v:=by
 unfold qbu at h;split at h
 ·rename_i k
  have f:=zE h; clear h; obtain⟨o,g,h⟩:=f;split at h
  ·rename_i d es mk
   split at h
   ·rename_i r u i
    obtain⟨n,j,h⟩:=h;refine⟨_,h,fun bs ρ H w ty a s l=>⟨.int .i64 n,?_,dq⟩⟩;obtain⟨y,m,rfl⟩:=l;obtain⟨p,ents,clock,e,b,q,_⟩:=s.objs k _ _ g m;cases e;have:=q.length;simp at this;simp[Builtin.len_,kru i,MapKept.run_getObj_map b,goInt,this,j]
   exact h.elim
  exact h.elim
 exact h.elim
theorem Cj (w:World) (b:Nat) (o:Obj):Keep (fun x=>x=b) w { w with heap:=w.heap.setIfInBounds b o }:=
 ⟨rfl,rfl,rfl,by simp,fun k _ a=>by simp[Ne.symm a]⟩
theorem FZ {es:Array MapEntry} {j:Nat} {f:MapEntry->MapEntry} {e:MapEntry} (h:es[j]? =some e):(es.modify j f).toList=es.toList.set j (f e):=by
 apply List.ext_getElem?;intro i;simp only[Array.getElem?_toList,Array.getElem?_modify,jF];by_cases a:j=i
 ·subst a
  obtain⟨h1,h2⟩:=jH.1 h;simp[h1,h2]
 simp[a]
theorem Rq {bs:Base} {ρ:List Value} {H:PH} {lo:List AObj} (s:SatW bs ρ H lo w) {t D I:TypeId} {d:TypeDesc} (E:P.underlying t=some (.map D I)) (r:P.underlying D=some d)
  {j:Nat} {es:List (PV×PV)} {mk:Option (PV×Nat)} (z:lo[j]? =some (.mp d es mk)) {m k x:Value} (J:qR ρ H (.mref j) m) {F G:PV} (A:qP H F k) (rx:qP H G x) (o:MapKept.IsKey d k) :
  ∃ w',(Instr.mapUpdate t m k x).run P w=.ok () w'/\SatW bs ρ H (lo.set j (.mp d (ec F G es) none)) w':=by
 obtain⟨l,B,rfl⟩:=J;obtain⟨K,ents,clock,e,a,f,⟨q,g,_⟩,u⟩:=s.objs j _ _ z B;cases e;rcases By A o es ents.toList 0 f g with ⟨_,h2,h3,h4⟩|⟨i,e,p,_,h2,h3,h5,_,L⟩
 ·refine⟨{ w with heap:=w.heap.setIfInBounds l (.map (ents.push { key:=k,val:=x,born:=clock }) (clock+1)) },?_,s.upd z B rfl rfl u (Cj w l _) ?_⟩
  ·simp[Instr.mapUpdate,kru E,MapKept.run_getObj_map a,MapKept.run_checkKey r o,MapKept.run_findKey r h2,MapKept.run_setObj_map _ a]
  refine⟨l,_,_,rfl,(MapKept.heap_set a).1,?_,⟨MapKept.stamped_push q h3,?_,fun _ _ h=>by cases h⟩,u⟩
  ·rw[h4,Array.toList_push]
   exact f.push A rx
  intro y v;simp only[Array.toList_push,List.mem_append,List.mem_singleton]at v;rcases v with v|rfl
  ·exact g y v
  exact o
 have C:ents[i]? =some e:=by simpa using h3
 refine⟨{ w with heap:=w.heap.setIfInBounds l (.map (ents.modify i fun e=>{ e with key:=k,val:=x }) clock) },?_,s.upd z B rfl rfl u (Cj w l _) ?_⟩
 ·simp[Instr.mapUpdate,kru E,MapKept.run_getObj_map a,MapKept.run_checkKey r o,MapKept.run_findKey r h2,C,h5,MapKept.run_keyThatStays o,MapKept.run_setObj_map _ a]
 have c:∀ n,ents[i]? =some n->({ n with key:=k,val:=x }:MapEntry).key=n.key:=fun n b=>by rw[C]at b; cases b; exact h5.symm
 refine⟨l,_,_,rfl,(MapKept.heap_set a).1,?_,⟨MapKept.stamped_modify q _ _ (fun _ _=>rfl) (fun n _ b=>c n b),MapKept.isKey_modify g _ _ c,fun _ _ h=>by cases h⟩,u⟩
 rw[L,FZ C];exact f.set A rx
theorem SatW.pushMap {bs:Base} {ρ:List Value} {H:PH} {lo:List AObj} (s:SatW bs ρ H lo w) {d:TypeDesc} :
  SatW bs (ρ++[.map (some w.heap.size)]) H (lo++[.mp d [] none]) (w.alloc (.map #[] 0)):=by
 refine s.push (g:=w.heap.size) (.inl rfl) (s.fresh (jw _)) (.inr s.keep.size) (PH.le.refl H) (de s.sath _) (fun b o v h=>.inl ⟨v,h⟩) (fU w _ _) ?_;refine⟨w.heap.size,#[],0,rfl,heap_alloc_new w _,rfl,⟨MapKept.stamped_empty 0,by simp,fun _ _ h=>by cases h⟩,fun o=>?_⟩
 cases a:H w.heap.size o with
 | none=>rfl
 | some x=>exact absurd (s.sath.lt a) (jR _)
theorem VC {b:Nat} {l:ByteArray} {p:Nat} (h:w.heap[b]? =some (.stringIter l p)):(getObj b).run P w=.ok (.stringIter l p) w:=by
 simp[getObj,Sem.run,h]
theorem Ew {b:Nat} {l:ByteArray} {p:Nat} (o':Obj) (h:w.heap[b]? =some (.stringIter l p)):(setObj b o').run P w=.ok () { w with heap:=w.heap.setIfInBounds b o' }:=by
 simp[setObj,Sem.run,h]
theorem Nf {b:Nat} {o o':Obj} (h:w.heap[b]? =some o):(w.heap.setIfInBounds b o')[b]? =some o':=by
 have:=(jH.1 h).1;simp[this]
theorem LM {α:Type} {l:List α} {k:Nat} {a:α} (h:l[k]? =some a):l.set k a=l:=by
 apply List.ext_getElem?;intro i;rw[jF];split
 ·rename_i e
  subst e;split
  ·exact h.symm
  rename_i b;simp[List.getElem?_eq_none (Nat.le_of_not_lt b)]
 rfl
theorem SatW.pushSit {bs:Base} {ρ:List Value} {H:PH} {lo:List AObj} (s:SatW bs ρ H lo w) {l:List UInt8} :
  SatW bs (ρ++[.pointer (some ⟨w.heap.size,0,none⟩)]) H (lo++[.sit l 0]) (w.alloc (.stringIter ⟨l.toArray⟩ 0)):=by
 refine s.push (g:=w.heap.size) (.inl rfl) (s.fresh (jw _)) (.inr s.keep.size) (PH.le.refl H) (de s.sath _) (fun b o v h=>.inl ⟨v,h⟩) (fU w _ _) ?_;refine⟨w.heap.size,rfl,heap_alloc_new w _,fun o=>?_⟩;cases a:H w.heap.size o with
 | none=>rfl
 | some x=>exact absurd (s.sath.lt a) (jR _)
theorem UH {E:Env} {lo:List AObj} {t:TypeId} {m k x:Operand} {R:FV->List AObj->Prop} (h:LF P E lo t m k x R) :
  ∃ n lo',R n lo'/\lo'.length=lo.length/\∀ (bs:Base) (ρ:List Value) (H:PH) (w:World) (eval:Operand->Value),SatW bs ρ H lo w->qR ρ H (evF (qT E) m) (eval m)->qR ρ H (evF (qT E) k) (eval k)->qR ρ H (evF (qT E) x) (eval x) ->
   ∃ w',(Instr.mapUpdate t (eval m) (eval k) (eval x)).run P w=.ok () w'/\dT bs ρ H n lo' undef w':=by
 unfold LF at h;have a:=qG h; clear h; obtain⟨B,h,e⟩:=a;have a:=qG h; clear h; obtain⟨k',h,f⟩:=a;have a:=qG h; clear h; obtain⟨x',h,g⟩:=a;have a:=dB h; clear h; obtain⟨C,h,i⟩:=a;split at h
 ·rename_i j D
  have a:=zE h; clear h; obtain⟨o,q,h⟩:=a;split at h
  ·rename_i d es mk
   have a:=Nu h; clear h; obtain⟨F,G,h,r,u,b⟩:=a;obtain⟨v,l,h⟩:=h;obtain⟨h,y⟩:=vB h;refine⟨_,_,h,by simp,fun bs ρ H w eval s z c rx=>?_⟩;have c:=f ρ H _ trivial c;obtain⟨w',A,p⟩:=Rq s r u q (e ρ H _ trivial z) c (i ρ H _ (g ρ H _ trivial rx)) (b H _ c);rw[l]at p;exact⟨w',A,ρ,H,jq _,PH.le.refl H,p,by simp[qR,qP,zz,undef]⟩
  exact h.elim
 exact h.elim
theorem lu {d:TypeDesc} {R:Prop} (h:qft d R):R:=by
 unfold qft at h;split at h<;>first|exact h|exact h.elim
theorem Rc {o:Oper} {E:Env} {lo:List AObj} {R:FV->List AObj->Prop} (h:qbt P o.op E lo R):∃ r lo',R r lo'/\zH (BK o.op) lo lo'/\fg P o (qT E) lo none r lo':=by
 obtain⟨dst,op,ty,pos,after,guard⟩:=o;simp only at h;unfold qbt at h;split at h
 ·rename_i t x
  have n:=qG h; clear h; obtain⟨x',h,i⟩:=n;split at h
  ·rename_i l
   split at h
   ·rename_i z
    have h:=xb h;have h:=xc h;refine⟨_,_,h,zH.push _,fun p bs ρ H w eval s b=>?_⟩;have e:=pt (i ρ H _ p (b x (by simp[kg])));have c:(Instr.range t (eval x)).run P w=.ok (.pointer (some ⟨w.heap.size,0,none⟩)) (w.alloc (.stringIter ⟨l.toArray⟩ 0)):=by
     simp[Instr.range,e,kru z]
    simp only[execOp,ke,c,kc,kf];refine⟨_,H,List.prefix_append _ _,PH.le.refl H,s.pushSit,w.heap.size,by simp[← s.hlen],rfl⟩
   exact h.elim
  exact h.elim
 ·rename_i x
  have n:=qG h; clear h; obtain⟨x',h,i⟩:=n;split at h
  ·rename_i k
   have n:=zE h; clear h; obtain⟨o,u,h⟩:=n;split at h
   ·rename_i l pos
    obtain⟨ok,p',⟨f,hp⟩,h⟩:=h;obtain⟨h,g⟩:=vB h;refine⟨_,_,h,zH.set _ _,fun p bs ρ H w eval s b=>?_⟩;obtain⟨j,v,ex⟩:=i ρ H _ p (b x (by simp[kg]));obtain⟨A,e,a,y⟩:=s.objs k _ _ u v;cases e;simp only[execOp,ke,ex];by_cases g:pos<l.length
    ·have f:ok=true:=by rw[← f]; simpa using g
     subst f;have c:(Instr.next (.pointer (some ⟨j,0,none⟩)) true ty).run P w=.ok (.tuple #[.bool true,.int .i64 pos,.int .i32 (qI l pos)]) { w with heap:=w.heap.setIfInBounds j (.stringIter ⟨l.toArray⟩ (zF l pos)) }:=by
      have q:pos<(⟨l.toArray⟩:ByteArray).size:=by rw[ByteArray.size_mk_toArray]; exact g
      simp only[Instr.next,ke,VC a,kc];simp only[q,if_true,ke,Ew _ a,kc,kf];rfl
     simp only[c,kc,kf];refine⟨ρ,H,jq _,PH.le.refl H,?_,?_⟩
     ·refine s.upd u v rfl rfl y (Cj w j _) ⟨j,rfl,?_,y⟩
      rw[← hp];exact Nf a
     simp only[qR,if_true];exact⟨_,_,rfl,by simp[qP],by simp[qP]⟩
    have f:ok=false:=by rw[← f]; simpa using g
    subst f;have c:(Instr.next (.pointer (some ⟨j,0,none⟩)) true ty).run P w=.ok (.tuple #[.bool false]) w:=by
     have q:¬ pos<(⟨l.toArray⟩:ByteArray).size:=by rw[ByteArray.size_mk_toArray]; exact g
     simp only[Instr.next,ke,VC a,kc];simp only[q,if_false,kf]
    simp only[c,kc,kf];refine⟨ρ,H,jq _,PH.le.refl H,?_,by simp[qR]⟩;have B:p'=pos:=by rw[← hp]; rfl
    subst B;rw[show lo.set k (.sit l p')=lo from LM u];exact s
   exact h.elim
  exact h.elim
 ·rename_i t
  split at h
  ·rename_i F G z
   split at h
   ·rename_i d J
    have h:=lu h;have h:=xb h;have h:=xc h;refine⟨_,_,h,zH.push _,fun p bs ρ H w eval s b=>?_⟩;have c:(Instr.makeMap t none).run P w=.ok (.map (some w.heap.size)) (w.alloc (.map #[] 0)):=rfl;simp only[execOp,Option.map_none,ke,c,kc,kf];exact⟨_,H,List.prefix_append _ _,PH.le.refl H,s.pushMap,w.heap.size,by simp[← s.hlen],rfl⟩
   exact h.elim
  exact h.elim
 ·rename_i t m k x
  obtain⟨r,lo',h,hl,C⟩:=UH h;refine⟨r,lo',h,zH.len hl,fun p bs ρ H w eval s b=>?_⟩;obtain⟨w',c,D⟩:=C bs ρ H w eval s (b m (by simp[kg])) (b k (by simp[kg])) (b x (by simp[kg]));simp only[execOp,ke,c,kc,kf];exact D
 ·rename_i t m k x
  obtain⟨r,lo',h,hl,C⟩:=UH h;refine⟨r,lo',h,zH.len hl,fun p bs ρ H w eval s b=>?_⟩;obtain⟨w',c,D⟩:=C bs ρ H w eval s (b m (by simp[kg])) (b k (by simp[kg])) (b x (by simp[kg]));simp only[execOp,ke,c,kc,kf];exact D
 ·rename_i x t
  have n:=qG h; clear h; obtain⟨x',h,i⟩:=n;split at h
  ·rename_i k
   have n:=zE h; clear h; obtain⟨o,u,h⟩:=n;split at h
   ·rename_i d es mk
    split at h
    ·rename_i F G z
     obtain⟨h,g⟩:=vB h;refine⟨_,_,h,zH.set _ _,fun p bs ρ H w eval s b=>?_⟩;obtain⟨j,v,ex⟩:=i ρ H _ p (b x (by simp[kg,kh]));obtain⟨A,ents,clock,e,a,I,_,y⟩:=s.objs k _ _ u v;cases e;simp only[execOp,resolve,invoke,builtin,ke,kf,kc,kb,jk,jN,ex];have c:(Builtin.clear_ #[t] ty #[.map (some j)]).run P w=.ok (.tuple #[]) { w with heap:=w.heap.setIfInBounds j (.map #[] clock) }:=by
      simp[Builtin.clear_,kru z,MapKept.run_getObj_map a,MapKept.run_setObj_map _ a]
     simp only[c,kc];refine⟨ρ,H,jq _,PH.le.refl H,?_,by simp[qR,qP,zz]⟩;refine s.upd u v rfl rfl y (Cj w j (.map #[] clock)) ?_;exact⟨j,#[],clock,rfl,(MapKept.heap_set a).1,rfl,⟨MapKept.stamped_empty clock,by simp,fun _ _ h=>by cases h⟩,y⟩
    exact h.elim
   exact h.elim
  exact h.elim
 exact h.elim
end
end Ax
end
section
namespace Ax
open Go
theorem cP.get {H:PH} {z:Nat}:∀ {rows:List (List PV)} {vs:List Value} {i:Nat} {r:List PV},cP H z rows vs->rows[i]? =some r ->
  ∃ a,zz H r a/\∀ j u,a[j]? =some u->vs[i * z+j]? =some u
 | [],_,_,_,_,h=>by simp at h
 | q::rs,vs,i,r,x,h=>by
  obtain⟨hz,a,b,rfl,d,f⟩:=x;have hl:a.length=z:=by rw[d.length,hz]
  cases i with
  | zero=>
   simp at h;subst h;refine⟨a,d,fun j u hu=>?_⟩;rw[Nat.zero_mul,jx,jB (jG.1 hu).1];exact hu
  | succ i=>
   obtain⟨c,rc,g⟩:=f.get (i:=i) (by simpa using h);refine⟨c,rc,fun j u hu=>?_⟩;have:=g j u hu;rw[jC (by rw[hl,Nat.add_mul]; omega)];have e:(i+1) * z+j - a.length=i * z+j:=by rw[hl,Nat.add_mul]; omega
   rw[e];exact this
theorem cP.over {H:PH} {z:Nat}:∀ {rows:List (List PV)} {vs:List Value} {i off:Nat} {r f:List PV} {c:List Value},cP H z rows vs->rows[i]? =some r->zz H f c->off+f.length<=r.length ->
  cP H z (rows.set i (r.take off++f++r.drop (off+f.length))) (vs.take (i * z+off)++c++vs.drop (i * z+off+c.length))
 | [],_,_,_,_,_,_,_,h,_,_=>by simp at h
 | q::rs,vs,i,off,r,f,c,x,h,rp,hle=>by
  obtain⟨hz,a,b,rfl,e,j⟩:=x;have hl:a.length=z:=by rw[e.length,hz]
  have k:=rp.length;cases i with
  | zero=>
   simp at h;subst h;have g:off<=a.length:=by rw[e.length]; omega
   have d:off+c.length<=a.length:=by rw[e.length,k]; omega
   refine⟨?_,a.take off++c++a.drop (off+c.length),b,?_,?_,j⟩
   ·simp only[jb,jt,jM]; omega
   ·rw[Nat.zero_mul,jx,List.take_append_of_le_length g,List.drop_append_of_le_length d]
    simp
   rw[k];exact((e.take off).append rp).append (e.drop _)
  | succ i=>
   refine⟨hz,a,b.take (i * z+off)++c++b.drop (i * z+off+c.length),?_,e,j.over (by simpa using h) rp hle⟩;have e1:(i+1) * z+off=a.length+(i * z+off):=by rw[hl,Nat.add_mul]; omega
   rw[e1,List.take_length_add_append,Nat.add_assoc a.length,List.drop_length_add_append];simp
theorem aF {α:Type} {cur c:List α} {p m N:Nat} (hp:p+m<=N) (hm:c.length=m) (a:N<=cur.length):(cur.take p++c++cur.drop (p+m)).take N=(cur.take N).take p++c++(cur.take N).drop (p+m):=by
 have h1:(cur.take p++c).length=p+m:=by simp[jt,hm]; omega
 rw[List.take_append,h1,List.take_of_length_le (by omega),List.take_take,Nat.min_eq_left (by omega),List.drop_take]
section
variable {P:Program} {w:World}
theorem NX {ρ:List Value} {H:PH} {e:TypeId} {z:Nat} {rows:List (List PV)} {b n cap:Nat} (h:ZK ρ H w (.slice (some ⟨b,0,none⟩) n cap) (.vec e z rows)) :
  ∃ (a:Nat) (cur:Array Value) (xs:List Value),n=rows.length/\w.heap[b]? =some (.cells cur e (0,0))/\rows.length<=a/\a<=maxLen/\cur.size=a * z/\cap=a/\cur.toList.take (rows.length * z)=xs/\cP H z rows xs/\(∀ u∈xs,u.oneCell'=true)/\∀ o,H b o=none:=by
 obtain⟨xs,c,d,h1,f⟩:=h;rcases c.2 with ⟨e,_⟩|⟨g,a,cur,e,_,i,j,hm,k,l⟩
 ·cases e
 cases e;exact⟨cap,cur,xs,rfl,i,j,hm,k,rfl,l,d,h1,f b rfl⟩
theorem Uc {t:TypeId} {lo:List AObj} {k i off z:Nat} {R:FV->Prop} (h:EN P t lo k z i off R) :
  ∃ fv,R fv/\∀ (bs:Base) (ρ:List Value) (H:PH) (w:World) (v:Value),SatW bs ρ H lo w->qR ρ H (.eptr k z i off) v->∃ u,(Instr.loadAt t v).run P w=.ok u w/\qR ρ H fv u:=by
 unfold EN at h;have F:=zE h; clear h; obtain⟨o,U,h⟩:=F;split at h
 ·rename_i e D rows
  obtain⟨row,⟨rfl,x⟩,h⟩:=h;obtain⟨h,G⟩:=fh h;obtain⟨d,ti,B,Q,h⟩:=vZ h;have cells:∀ (bs:Base) (ρ:List Value) (H:PH) (w:World) (v:Value),SatW bs ρ H lo w->qR ρ H (.eptr k D i off) v ->
    ∃ (b:Nat) (a:List Value),v=.pointer (some ⟨b,i * D+off,none⟩)/\zz H row a/\∀ j u,(a.drop off)[j]? =some u->w.cell? ⟨b,i * D+off+j,none⟩=some u:=by
   intro bs ρ H w v s p;obtain⟨b,n,cap,I,rfl⟩:=p;obtain⟨y,cur,xs,rfl,E,J,hm,hs,rfl,S,V,h1,hh⟩:=NX (s.objs k _ _ U I);obtain⟨a,q,m⟩:=V.get x;refine⟨b,a,rfl,q,fun j u hu=>?_⟩;rw[jD]at hu;have:=m _ _ hu;rw[← S,jE]at this;split at this
   ·rw[Nat.add_assoc]
    rw[cell_of_row w b _ _ e _ E];simpa using this
   cases this
  split at h
  ·rename_i f
   obtain⟨h,J⟩:=df h;refine⟨_,h,fun bs ρ H w v s p=>?_⟩;obtain⟨b,a,rfl,q,m⟩:=cells bs ρ H w v s p;refine⟨_,fC B Q m (by have:=q.length; simp at J ⊢; omega) f,?_⟩;simp only[qR,qP];exact⟨_,rfl,(q.drop off).take _⟩
  rename_i f;split at h
  ·rename_i c r A
   refine⟨_,h,fun bs ρ H w v s p=>?_⟩;obtain⟨b,a,rfl,q,m⟩:=cells bs ρ H w v s p;have rd:=q.drop off;rw[A]at rd;simp only[zz]at rd;obtain⟨u,us,e,K,_⟩:=rd;exact⟨u,uY B (by simpa using m 0 u (by rw[e]; rfl)) f,K⟩
  exact h.elim
 ·rename_i e D rows j kt
  obtain⟨row,⟨rfl,x⟩,h⟩:=h;obtain⟨h,G⟩:=fh h;obtain⟨d,ti,B,Q,h⟩:=vZ h;have cells:∀ (bs:Base) (ρ:List Value) (H:PH) (w:World) (v:Value),SatW bs ρ H lo w->qR ρ H (.eptr k D i off) v ->
    ∃ (b:Nat) (a:List Value),v=.pointer (some ⟨b,i * D+off,none⟩)/\zz H row a/\(∀ j u,(a.drop off)[j]? =some u->w.cell? ⟨b,i * D+off+j,none⟩=some u)/\(i+1=rows.length->off=j->∀ u,(a.drop off)[0]? =some u->ρ[kt]? =some u):=by
   intro bs ρ H w v s p;obtain⟨b,n,cap,I,rfl⟩:=p;obtain⟨L,C,X,Y,Z,hl⟩:=s.objs k _ _ U I;obtain⟨y,cur,xs,rfl,E,J,hm,hs,rfl,S,V,h1,hh⟩:=NX (ρ:=ρ) (H:=H) ⟨L,C,X,Y,Z⟩;obtain⟨a,q,m⟩:=V.get x;have hxx:L=xs:=by
    rcases C.2 with ⟨T,_⟩|⟨g,y,cur',T,_,M,_,_,_,ht'⟩
    ·cases T
    cases T;rw[E]at M;cases M;rw[← ht',← S]
   subst hxx;refine⟨b,a,rfl,q,fun j u hu=>?_,fun N O u hu=>hl u ?_⟩
   ·rw[jD]at hu
    have:=m _ _ hu;rw[← S,jE]at this;split at this
    ·rw[Nat.add_assoc]
     rw[cell_of_row w b _ _ e _ E];simpa using this
    cases this
   ·rw[jD]at hu
    have:=m _ _ hu;rw[← O,show rows.length - 1=i by omega];simpa using this
  split at h
  ·rename_i f
   obtain⟨h,J⟩:=df h;refine⟨_,h,fun bs ρ H w v s p=>?_⟩;obtain⟨b,a,rfl,q,m,_⟩:=cells bs ρ H w v s p;refine⟨_,fC B Q m (by have:=q.length; simp at J ⊢; omega) f,?_⟩;simp only[qR,qP];exact⟨_,rfl,(q.drop off).take _⟩
  rename_i f;split at h
  ·rename_i c r A
   split at h
   ·rename_i O
    have O:=jm O;obtain⟨N,rs,rfl,h⟩:=h;refine⟨_,h,fun bs ρ H w v s p=>?_⟩;obtain⟨b,a,rfl,q,m,hl⟩:=cells bs ρ H w v s p;have rd:=q.drop off;rw[A]at rd;simp only[zz]at rd;obtain⟨u,us,e,K,_⟩:=rd;exact⟨u,uY B (by simpa using m 0 u (by rw[e]; rfl)) f,hl N O u (by rw[e]; rfl),K⟩
   refine⟨_,h,fun bs ρ H w v s p=>?_⟩;obtain⟨b,a,rfl,q,m,_⟩:=cells bs ρ H w v s p;have rd:=q.drop off;rw[A]at rd;simp only[zz]at rd;obtain⟨u,us,e,K,_⟩:=rd;exact⟨u,uY B (by simpa using m 0 u (by rw[e]; rfl)) f,K⟩
  exact h.elim
 ·rename_i l
  have F:=vZ h; clear h; obtain⟨d,ti,B,Q,h⟩:=F;split at h
  ·exact h.elim
  rename_i f;have F:=h; clear h; obtain⟨c,⟨rfl,rfl,m⟩,h⟩:=F;refine⟨_,h,fun bs ρ H w v s p=>?_⟩;obtain⟨b,n,cap,I,rfl⟩:=p;obtain⟨b',cs,T,y,lo',hi',e1,E,_,h2,_⟩:=s.objs k _ _ U I;cases e1;refine⟨.int .u8 c.toNat,uY B ?_ f,by simp[qR,qP]⟩;simp only[World.cell?,E,Nat.mul_one,Nat.add_zero];exact h2 i c m
 exact h.elim
theorem qat {H:PH} {z:Nat}:∀ {rows:List (List PV)} {vals:List Value},rows.length=vals.length->(∀ r∈rows,r.length=z) ->
  (∀ (i:Nat) (r:List PV) (v:Value),rows[i]? =some r->vals[i]? =some v->zz H r v.cells.toList)->cP H z rows (vals.flatMap (·.cells.toList))
 | [],[],_,_,_=>rfl
 | [],_::_,hl,_,_=>by simp at hl
 | r::rs,[],hl,_,_=>by simp at hl
 | r::rs,v::vals,hl,hz,a=>⟨hz r (by simp),v.cells.toList,vals.flatMap (·.cells.toList),by rw[List.flatMap_cons],a 0 r v rfl rfl,
   qat (by simpa using hl) (fun r a=>hz r (by simp[a])) (fun i r' v' h1 h2=>a (i+1) r' v' (by simpa using h1) (by simpa using h2))⟩
theorem cP.le {H:PH} {z:Nat} {p q:List (List PV)} {vs:List Value} (h:p=q\/Cn p q) (r:cP H z p vs):cP H z q vs:=by
 rcases h with rfl|h
 ·exact r
 have go:∀ {p q:List (List PV)} {vs:List Value},Cn p q->cP H z p vs->cP H z q vs:=by
  intro p
  induction p with
  | nil=>intro q vs h r; cases q with
   | nil=>exact r
   | cons _ _=>simp[Cn]at h
  | cons a l ih=>intro q vs h r; cases q with
   | nil=>simp[Cn]at h
   | cons b m=>
    simp only[Cn]at h;obtain⟨e,x,y,c,d,f⟩:=r;exact⟨by rw[← e,Ud h.1],x,y,c,tp h.1 d,ih h.2 f⟩
 exact go h r
theorem ZF {E:Env} {g:G} {t:TypeId} {n:Nat} {zi:List (Nat×Operand)} {R:FV->Prop} (h:bd P E g t n zi R) :
  ∃ e i rows,P.underlying t=some (.slice e)/\P.info? e=some i/\R (.p (.sl rows))/\rows.length=n/\n<=maxLen/\(gOn g->∀ (ρ:List Value) (H:PH) (w:World) (eval:Operand->Value),(∀ x∈zi.map (·.2),qR ρ H (evF (qT E) x) (eval x)) ->
   ∃ xs:List Value,(Instr.buildSlice t n (zi.map fun(i,x)=>(i,eval x)).toArray).run P w=.ok (.slice (some ⟨w.heap.size,0,none⟩) n n) (w.alloc (.cells xs.toArray e))/\cP H i.size rows xs/\∀ u∈xs,u.oneCell'=true):=by
 unfold bd at h;obtain⟨e,i,hu,F,h⟩:=vY h;split at h
 ·rename_i o
  have o:zi.length=n:=jm o;split at h
  ·rename_i I
   split at h
   ·rename_i A
    split at h
    case h_2=>exact h.elim
    rename_i m;split at h
    case h_2=>exact h.elim
    rename_i a J;have:a=i:=Option.some.inj (J.symm.trans F);subst this;split at h
    case h_2=>exact h.elim
    rename_i T K;obtain⟨ps,h,b,L⟩:=sF h;obtain⟨rows,h,k,hrows⟩:=Vc h;obtain⟨q,d,l,h⟩:=h;have B:d.length=rows.length:=by
     rcases l with rfl|l
     ·rfl
     exact(mR l).symm
    have C:n<=maxLen:=by
     have a1:=jh m;have a2:1<=a.size:=jh A;have a3:n * 1<=n * a.size:=Nat.mul_le_mul_left n a2;unfold maxLen;omega
    refine⟨e,a,d,hu,F,h,by rw[B,k,b,o],C,fun V ρ H w eval X=>?_⟩;obtain⟨vals,ev,U⟩:=L V ρ H eval X;have hcells:=hrows H vals U;have s:vals.length=n:=by rw[U.length,b,o]
    have M:∀ v∈vals,v.cells.size=a.size:=by
     intro v N;obtain⟨j,D⟩:=List.getElem?_of_mem N;have y:=(jG.1 D).1;have f:j<rows.length:=by rw[k,b,o,← s]; exact y
     have:=(hcells j _ v (jf f) D).length;rw[(q _ (List.getElem_mem f)).1]at this;simpa using this
    obtain⟨cells',Y,z⟩:=XG a.size n (fun O=>some (O * a.size,a.size)) (fun j _=>rfl) vals 0 ((Array.range (n * a.size)).map (T.cells[· % T.cells.size]!)) M (by omega) (by simp)
    simp only[Nat.zero_mul,List.take_zero,ju]at z;have hone:∀ u∈cells'.toList,u.oneCell'=true:=by
     rw[z];intro u Q;obtain⟨v,N,S⟩:=List.mem_flatMap.1 Q;obtain⟨j,D⟩:=List.getElem?_of_mem N;have y:=(jG.1 D).1;have f:j<rows.length:=by rw[k,b,o,← s]; exact y
     have h1:=hcells j _ v (jf f) D;have h2:=(q _ (List.getElem_mem f)).2;exact zz.one (fun c Z=>(List.all_eq_true.1 h2) c Z) h1 u S
    refine⟨cells'.toList,?_,?_,hone⟩
    ·have h0:n * a.size≠0:=by
      have a1:1<=n:=jh I;have a2:1<=a.size:=jh A;exact Nat.mul_ne_zero (by omega) (by omega)
     have hb:¬ 16777216<n * a.size:=by
      have:=jh m;omega
     simp only[Instr.buildSlice,ke,kru hu,kc,Go.sizeOf,typeInfo,run_program,F,kf];rw[show(2:Nat) ^ 24=16777216 from rfl];simp only[hb,if_false,gt_iff_lt,h0,ke,zeroValue,typeInfo,run_program,F,K,kc,kf];rw[ev,Y];simp[newRow]
    rw[z];refine cP.le l ?_;exact qat (by rw[k,b,o,s]) (fun r hr=>(q r hr).1) hcells
   exact h.elim
  exact h.elim
 exact h.elim
theorem Nl {E:Env} {lo:List AObj} {t:TypeId} {n:Nat} {zi:List (Nat×Operand)} {R:FV->List AObj->Prop} (h:PX P E lo t n zi R) :
  ∃ p lo',R p lo'/\zH true lo lo'/\∀ (bs:Base) (ρ:List Value) (H:PH) (w:World) (eval:Operand->Value),SatW bs ρ H lo w->(∀ x∈zi.map (·.2),qR ρ H (evF (qT E) x) (eval x)) ->
   ∃ v w',(Instr.buildSlice t n (zi.map fun(i,x)=>(i,eval x)).toArray).run P w=.ok v w'/\dT bs ρ H p lo' v w':=by
 unfold PX at h;have k:=vY h; clear h; obtain⟨e,i,hu,r,h⟩:=k;have k:=ZF h; clear h; obtain⟨y,z,rows,a,l,h,f,c,A⟩:=k;have e1:y=e:=by rw[hu]at a; cases a; rfl
 subst e1;have e2:z=i:=Option.some.inj (l.symm.trans r);subst e2;simp only at h;have h:=xb h;have h:=xc h;refine⟨_,_,h,zH.push _,fun bs ρ H w eval s m=>?_⟩;obtain⟨xs,B,j,hone⟩:=A trivial ρ H w eval m;refine⟨_,_,B,ρ++[.slice (some ⟨w.heap.size,0,none⟩) n n],H,List.prefix_append _ _,PH.le.refl H,?_,?_⟩
 ·have d:∀ o,H w.heap.size o=none:=fun o=>by
   cases m:H w.heap.size o with
   | none=>rfl
   | some u=>exact absurd (s.sath.lt m) (jR _)
  refine s.push (g:=w.heap.size) (.inl rfl) (s.fresh (jw _)) (.inr s.keep.size) (PH.le.refl H) (de s.sath _) (fun b o v h=>.inl ⟨v,h⟩) (fU w _ _) ?_;refine⟨xs,⟨j.length,.inr ⟨w.heap.size,n,xs.toArray,by rw[f],jS _,heap_alloc_new w _,by rw[f]; exact jw _,c,by simp[j.length,f],?_⟩⟩,j,hone,fun b q=>?_⟩
  ·rw[← j.length]
   exact List.take_length
  simp[qZ]at q;subst q;exact d
 exact⟨by simp[← s.hlen],.inr ⟨w.heap.size,n,by rw[f]⟩⟩
end
theorem Sm {α:Type} {R R':α->Prop} (b:∀ a,R a->R' a):∀ {n:Nat} {l:List α},Qr n l R->Qr n l R'
 | 0,[],h=>by simp[Qr]at h
 | 0,a::l,h=>b a h
 | n+1,[],h=>by simp[Qr]at h
 | n+1,a::l,h=>Sm b (n:=n) (l:=l) h
theorem Bv {α:Type} {R R':List α->Prop} (b:∀ a,R a->R' a):∀ {n:Nat} {l:List α},ZT n l R->ZT n l R'
 | 0,l,h=>b l h
 | n+1,[],h=>by simp[ZT]at h
 | n+1,a::l,h=>Bv b (n:=n) (l:=l) h
theorem NU {P:Program} {t:TypeId} {R R':Bool->Nat->Prop} (b:∀ a n,R a n->R' a n) (h:mT P t R):mT P t R':=by
 unfold mT at *;split at h
 ·split at h
  ·exact b _ _ h
  exact h.elim
 exact h.elim
theorem Fb {P:Program} {g:Bool} {t:TypeId} {lo:List AObj} {k i off z:Nat} {R:FV->Prop} (h:BF P g t lo k z i off R) :
  ∃ b,R b/\(g=true->∀ (bs:Base) (ρ:List Value) (H:PH) (w:World) (v:Value),SatW bs ρ H lo w->qR ρ H (.eptr k z i off) v->∃ u,(Instr.loadAt t v).run P w=.ok u w/\qR ρ H b u):=by
 cases g with
 | true=>
  have h1:EN P t lo k z i off R:=by
   unfold BF at h;unfold EN;refine Sm (fun o f=>?_) h;cases o<;>first|exact False.elim f|skip
   ·obtain⟨row,j,e⟩:=f
    refine⟨row,j rfl,Bv (fun cs l=>NU (fun a n ha=>?_) l) e⟩
    cases a
    ·exact ha
    exact ha.elim
   obtain⟨row,j,e⟩:=f;refine⟨row,j rfl,Bv (fun cs l=>NU (fun a n ha=>?_) l) e⟩
   cases a
   ·cases cs with
    | nil=>exact ha
    | cons c cs=>
     cases p:Nat.beq off _<;>rw[p]at ha
     ·exact ha
     exact False.elim ha
   exact ha.elim
  obtain⟨b,m,q⟩:=Uc h1;exact⟨b,m,fun _=>q⟩
 | false=>
  suffices hh:∃ b,R b by
   obtain⟨b,m⟩:=hh;exact⟨b,m,fun r=>by cases r⟩
  unfold BF at h;obtain⟨o,_,h⟩:=zE h;cases o<;>first|exact False.elim h|skip
  ·obtain⟨row,_,e⟩:=h
   obtain⟨h,_⟩:=fh e;obtain⟨d,s,_,_,h⟩:=vZ h;split at h
   ·exact h.elim
   split at h
   ·exact⟨_,h⟩
   exact h.elim
  obtain⟨row,_,e⟩:=h;obtain⟨h,_⟩:=fh e;obtain⟨d,s,_,_,h⟩:=vZ h;split at h
  ·exact h.elim
  split at h
  ·split at h
   ·exact h.elim
   exact⟨_,h⟩
  exact h.elim
end Ax
end
