/- A part of the proof: the abstract execution. -/
import Derived.Still
import Derived.Below
import Derived.Laws.AppendOwnNone
import Derived.MapKept
import Derived.WalkKit
import Derived.Laws.StructEq
import Derived.Laws.IdiomStrings
import Derived.Laws.BytesArg
import Derived.Lib.Builder
import Derived.Carry
import Derived.Lib.AppendStr
import Derived.Laws.IdiomCopy
import Derived.Lib.ConvBytes
import Derived.Laws.OwnMore
set_option linter.unusedVariables false
set_option linter.unusedSimpArgs false
set_option linter.unnecessarySimpa false
set_option linter.deprecated false
set_option linter.unusedSectionVars false
set_option linter.constructorNameAsVariable false
open Go renaming run_underlying->kru
open List renaming length_cons->ja,length_append->jb,getElem?_eq_getElem->jf,mem_cons->jg,map_cons->jk,length_map->jl,prefix_refl->jq,append_assoc->js,length_take->jt,nil_append->ju,mem_append->jy,getElem?_append_left->jB,getElem?_append_right->jC,getElem?_drop->jD,getElem?_take->jE,getElem?_set->jF,getElem?_eq_some_iff->jG,eq_nil_of_length_eq_zero->jI,take_left->jJ,size_toArray->jL,length_drop->jM,map_nil->jN,map_toArray->ka
open Nat renaming le_of_ble_eq_true->jh,eq_of_beq_eq_true->jm,le_refl->jw,zero_add->jx,lt_irrefl->jR,zero_le->jS
open BitVec renaming ofInt->jr
open Array renaming getElem?_eq_some_iff->jH,length_toList->jK
open Int renaming toNat_natCast->jU
open Go.Result renaming andThen_ok->kb
open Go.Sem renaming run_bind->kc,run_pure->kd
open Go.Op renaming operands->ke
open Go.Call renaming operands->kf
namespace Ax
theorem kbf {A : Type _} [BEq A] [LawfulBEq A] {a b : A} : (a == b) = false ↔ a ≠ b := beq_eq_false_iff_ne
theorem kod {p : Prop} [i : Decidable p] : decide p = true -> p := of_decide_eq_true
theorem kcf {A : Sort _} (a b : A) : (bif false then a else b) = b := rfl
theorem kct {A : Sort _} (a b : A) : (bif true then a else b) = a := rfl
theorem kdt {p : Prop} [i : Decidable p] : p -> decide p = true := decide_eq_true
theorem kdf {p : Prop} [i : Decidable p] : ¬p -> decide p = false := decide_eq_false
theorem kde {p : Prop} [i : Decidable p] : (decide p = true) = p := decide_eq_true_eq
theorem kbs {A : Type _} [BEq A] [ReflBEq A] (a : A) : (a == a) = true := beq_self_eq_true a
end Ax
section
namespace Ax
open Go
inductive PV where
 | bool (b:Bool)|int (k:IntKind) (n:Int)|str (l:List UInt8)
 | agg (cs:List PV)|tup (vs:List PV)|nilsl|sl (rows:List (List PV))
 | nilp|fn (f:FuncId)|nilfn|nili|ifc (t:TypeId) (v:PV)|nilmap|hp (row:List PV)|clo (f:FuncId) (caps:List PV)|bfn (f:FuncId) (bound:List PV)|ifo (n:Bool) (t:TypeId) (v:PV)
inductive FV where
 | top
 | p (v:PV)
 | opt (g:Bool) (v:FV)
 | tsl (k:Nat) (rows:List (List PV))
 | ptr (k off:Nat)
 | hptr (row:List PV)
 | bself (k:Nat)
 | bsl (k off len cap:Nat)
 | vsl (k n:Nat)
 | eptr (k z i off:Nat)
 | mref (k:Nat)
 | pair (a b:FV)
 | stmp (k:Nat)
 | clo (f:FuncId) (c:FV)
 | cap0
 | cap (a b:FV)
 | fagg (c:FV)
 | nxt (ok:Bool) (a b:PV)
 | asl (k off n:Nat)
inductive AObj where
 | dead
 | box (t:TypeId) (cells:List FV)
 | tail (e:TypeId) (z n:Nat)
 | vec (e:TypeId) (z:Nat) (rows:List (List PV))
 | mp (d:TypeDesc) (es:List (PV×PV)) (mk:Option (PV×Nat))
 | sit (l:List UInt8) (pos:Nat)
 | bv (l:List UInt8)
 | vl (e:TypeId) (z:Nat) (rows:List (List PV)) (j k:Nat)
 | pbx (t:TypeId) (c:FV)
def AObj.live:AObj->Bool
 | .dead=>false
 | _=>true
abbrev PH:=Nat->Nat->Option Value
def PH.le (H H':PH):Prop:=∀ b o v,H b o=some v->H' b o=some v
theorem PH.le.refl (H:PH):PH.le H H:=fun _ _ _ h=>h
theorem PH.le.trans {a b c:PH} (h:PH.le a b) (d:PH.le b c):PH.le a c:=fun _ _ _ x=>d _ _ _ (h _ _ _ x)
mutual
def zn (H:PH):PV->Value->Prop
 | .bool b,v=>v=.bool b
 | .int k n,v=>v=.int k n
 | .str l,v=>v=.string ⟨l.toArray⟩
 | .agg cs,v=>∃ vs:List Value,v=.agg vs.toArray/\zS H cs vs
 | .tup cs,v=>∃ vs:List Value,v=.tuple vs.toArray/\zS H cs vs
 | .nilsl,v=>v=.slice none 0 0
 | .sl rows,v=>(rows=[]/\(v=.slice none 0 0\/∃ a cap,v=.slice (some a) 0 cap)) \/
   ∃ b o z cap,v=.slice (some ⟨b,o,none⟩) rows.length cap/\rows.length<=cap/\Qg H b z o rows
 | .nilp,v=>v=.pointer none
 | .fn f,v=>v=.func (.func f) #[] #[]
 | .nilfn,v=>v=.nilFunc
 | .nili,v=>v=.nilIface
 | .ifc t p,v=>∃ u,v=.iface t u/\zn H p u
 | .nilmap,v=>v=.map none
 | .hp row,v=>∃ b o vs,v=.pointer (some ⟨b,o,none⟩)/\zS H row vs/\∀ j u,vs[j]? =some u->H b (o+j)=some u
 | .clo f cs,v=>∃ vs:List Value,v=.func (.func f) #[] vs.toArray/\zS H cs vs
 | .bfn f cs,v=>∃ vs:List Value,v=.func (.func f) vs.toArray #[]/\zS H cs vs
 | .ifo n t p,v=>(n=true/\v=.nilIface)\/(n=false/\∃ u,v=.iface t u/\zn H p u)
def zS (H:PH):List PV->List Value->Prop
 | [],vs=>vs=[]
 | c::cs,vs=>∃ v vs',vs=v::vs'/\zn H c v/\zS H cs vs'
def Qg (H:PH) (b z:Nat):Nat->List (List PV)->Prop
 | _,[]=>True
 | o,r::rs=>r.length=z/\(∃ vs,zS H r vs/\∀ j v,vs[j]? =some v->H b (o+j)=some v)/\Qg H b z (o+z) rs
end
mutual
theorem zn.mono {H H':PH} (h:PH.le H H'):∀ {p:PV} {v:Value},zn H p v->zn H' p v
 | .bool _,_,x|.int ..,_,x|.str _,_,x|.nilsl,_,x|.nilp,_,x|.fn _,_,x|.nilfn,_,x|.nili,_,x|.nilmap,_,x=>by
  simp only[zn]at *; exact x
 | .agg cs,v,x=>by
  simp only[zn]at *;obtain⟨vs,e,r⟩:=x;exact⟨vs,e,zS.mono h r⟩
 | .tup cs,v,x=>by
  simp only[zn]at *;obtain⟨vs,e,r⟩:=x;exact⟨vs,e,zS.mono h r⟩
 | .sl rows,v,x=>by
  simp only[zn]at *;rcases x with x|⟨b,o,z,cap,e,l,r⟩
  ·exact .inl x
  exact .inr ⟨b,o,z,cap,e,l,Qg.mono h r⟩
 | .ifc t p,v,x=>by
  simp only[zn]at *;obtain⟨u,e,r⟩:=x;exact⟨u,e,zn.mono h r⟩
 | .hp row,v,x=>by
  simp only[zn]at *;obtain⟨b,o,vs,e,r,c⟩:=x;exact⟨b,o,vs,e,zS.mono h r,fun j u hu=>h _ _ _ (c j u hu)⟩
 | .clo f cs,v,x=>by
  simp only[zn]at *;obtain⟨vs,e,r⟩:=x;exact⟨vs,e,zS.mono h r⟩
 | .bfn f cs,v,x=>by
  simp only[zn]at *;obtain⟨vs,e,r⟩:=x;exact⟨vs,e,zS.mono h r⟩
 | .ifo n t p,v,x=>by
  simp only[zn]at *;rcases x with x|⟨e,u,e',r⟩
  ·exact .inl x
  exact .inr ⟨e,u,e',zn.mono h r⟩
theorem zS.mono {H H':PH} (h:PH.le H H'):∀ {cs:List PV} {vs:List Value},zS H cs vs->zS H' cs vs
 | [],_,x=>by simp only[zS]at *; exact x
 | c::cs,vs,x=>by
  simp only[zS]at *;obtain⟨v,vs',e,r,rs⟩:=x;exact⟨v,vs',e,zn.mono h r,zS.mono h rs⟩
theorem Qg.mono {H H':PH} (h:PH.le H H') {b z:Nat}:∀ {o:Nat} {rows:List (List PV)},Qg H b z o rows->Qg H' b z o rows
 | _,[],_=>by simp only[Qg]
 | o,r::rs,x=>by
  simp only[Qg]at *;obtain⟨e,⟨vs,q,c⟩,x'⟩:=x;exact⟨e,⟨vs,zS.mono h q,fun j v hv=>h _ _ _ (c j v hv)⟩,Qg.mono h x'⟩
end
theorem zS.length {H:PH}:∀ {cs:List PV} {vs:List Value},zS H cs vs->vs.length=cs.length
 | [],vs,x=>by simp only[zS]at x; simp[x]
 | c::cs,vs,x=>by
  simp only[zS]at x;obtain⟨v,a,e,_,rs⟩:=x;simp[e,zS.length rs]
theorem zS.get {H:PH}:∀ {cs:List PV} {vs:List Value} {i:Nat} {c:PV},zS H cs vs->cs[i]? =some c->∃ v,vs[i]? =some v/\zn H c v
 | [],_,_,_,_,h=>by simp at h
 | c::cs,vs,i,c',x,h=>by
  simp only[zS]at x;obtain⟨v,a,e,r,rs⟩:=x;subst e;cases i with
  | zero=>simp at h; subst h; exact⟨v,by simp,r⟩
  | succ i=>simp at h; obtain⟨u,hu,b⟩:=rs.get h; exact⟨u,by simpa using hu,b⟩
theorem zS.drop {H:PH}:∀ {cs:List PV} {vs:List Value} (n:Nat),zS H cs vs->zS H (cs.drop n) (vs.drop n)
 | _,_,0,x=>by simpa using x
 | [],vs,n+1,x=>by simp only[zS]at x; simp[x,zS]
 | c::cs,vs,n+1,x=>by
  simp only[zS]at x;obtain⟨v,a,e,r,rs⟩:=x;subst e;simpa using rs.drop n
theorem zS.take {H:PH}:∀ {cs:List PV} {vs:List Value} (n:Nat),zS H cs vs->zS H (cs.take n) (vs.take n)
 | _,_,0,x=>by simp[zS]
 | [],vs,n+1,x=>by simp only[zS]at x; simp[x,zS]
 | c::cs,vs,n+1,x=>by
  simp only[zS]at x;obtain⟨v,a,e,r,rs⟩:=x;subst e;simp only[List.take_succ_cons,zS];exact⟨v,_,rfl,r,rs.take n⟩
theorem zS.append {H:PH}:∀ {cs a:List PV} {vs us:List Value},zS H cs vs->zS H a us->zS H (cs++a) (vs++us)
 | [],_,vs,_,x,y=>by simp only[zS]at x; simpa[x]using y
 | c::cs,a,vs,us,x,y=>by
  simp only[zS]at x;obtain⟨v,b,e,r,rs⟩:=x;subst e;simp only[List.cons_append,zS];exact⟨v,_,rfl,r,rs.append y⟩
theorem Qg.get {H:PH} {b z:Nat}:∀ {o:Nat} {rows:List (List PV)} {i:Nat} {r:List PV},Qg H b z o rows->rows[i]? =some r ->
  r.length=z/\∃ vs,zS H r vs/\∀ j v,vs[j]? =some v->H b (o+i * z+j)=some v
 | _,[],_,_,_,h=>by simp at h
 | o,q::rs,i,r,x,h=>by
  simp only[Qg]at x;obtain⟨e,c,a⟩:=x;cases i with
  | zero=>simp at h; subst h; simpa using⟨e,c⟩
  | succ i=>
   simp at h;have:=a.get h;have e2:o+z+i * z=o+(i+1) * z:=by rw[Nat.add_mul]; omega
   rwa [e2]at this
theorem Qg.drop {H:PH} {b z:Nat}:∀ {o:Nat} {rows:List (List PV)} (i:Nat),Qg H b z o rows->Qg H b z (o+i * z) (rows.drop i)
 | _,_,0,x=>by simpa using x
 | _,[],_+1,_=>by simp[Qg]
 | o,q::rs,i+1,x=>by
  simp only[Qg]at x;have:=x.2.2.drop i;have e2:o+z+i * z=o+(i+1) * z:=by rw[Nat.add_mul]; omega
  rw[e2]at this;simpa using this
theorem Qg.take {H:PH} {b z:Nat}:∀ {o:Nat} {rows:List (List PV)} (i:Nat),Qg H b z o rows->Qg H b z o (rows.take i)
 | _,_,0,_=>by simp[Qg]
 | _,[],_+1,_=>by simp[Qg]
 | o,q::rs,i+1,x=>by
  simp only[Qg,List.take_succ_cons]at x ⊢;exact⟨x.1,x.2.1,x.2.2.take i⟩
mutual
def nle:PV->PV->Prop
 | .nilsl,.sl rows=>rows=[]
 | .agg a,.agg b=>ef a b
 | .tup a,.tup b=>ef a b
 | .hp a,.hp b=>ef a b
 | .clo f a,.clo g b=>f=g/\ef a b
 | .fn f,.clo g b=>f=g/\b=[]
 | .nili,.ifo n _ _=>n=true
 | .ifc t p,.ifo n t' q=>n=false/\t=t'/\nle p q
 | a,b=>a=b
def ef:List PV->List PV->Prop
 | [],[]=>True
 | a::l,b::m=>nle a b/\ef l m
 | _,_=>False
end
mutual
theorem EM {H:PH}:∀ {p q:PV} {v:Value},nle p q->zn H p v->zn H q v
 | .nilsl,q,v,h,r=>by
  cases q<;>simp only[nle]at h<;>first|(subst h; simp only[zn]at *; exact .inl ⟨trivial,.inl r⟩)|exact r|cases h
 | .agg a,q,v,h,r=>by
  cases q<;>simp only[nle]at h<;>try cases h
  simp only[zn]at *;obtain⟨vs,e,rr⟩:=r;exact⟨vs,e,XT h rr⟩
 | .tup a,q,v,h,r=>by
  cases q<;>simp only[nle]at h<;>try cases h
  simp only[zn]at *;obtain⟨vs,e,rr⟩:=r;exact⟨vs,e,XT h rr⟩
 | .hp a,q,v,h,r=>by
  cases q with
  | hp b'=>
   simp only[nle]at h;simp only[zn]at *;obtain⟨b,o,vs,e,rr,c⟩:=r;exact⟨b,o,vs,e,XT h rr,c⟩
  | _=>simp only[nle]at h; cases h
 | .clo f a,q,v,h,r=>by
  cases q with
  | clo g b=>
   simp only[nle]at h;obtain⟨rfl,h⟩:=h;simp only[zn]at *;obtain⟨vs,e,rr⟩:=r;exact⟨vs,e,XT h rr⟩
  | _=>simp only[nle]at h; cases h
 | .fn f,q,v,h,r=>by
  cases q with
  | clo g b=>
   simp only[nle]at h;obtain⟨rfl,rfl⟩:=h;simp only[zn]at *;exact⟨[],r,by simp only[zS]⟩
  | fn g=>simp only[nle]at h; cases h; exact r
  | _=>simp only[nle]at h; cases h
 | .bool _,q,v,h,r|.int ..,q,v,h,r|.str _,q,v,h,r|.sl _,q,v,h,r|.nilp,q,v,h,r|.nilfn,q,v,h,r|.nilmap,q,v,h,r|.bfn ..,q,v,h,r|.ifo ..,q,v,h,r=>by
  cases q<;>simp only[nle]at h<;>cases h<;>exact r
 | .nili,q,v,h,r=>by
  cases q with
  | ifo n t q=>
   simp only[nle]at h;simp only[zn]at *;exact .inl ⟨h,r⟩
  | nili=>exact r
  | _=>simp only[nle]at h; cases h
 | .ifc t p,q,v,h,r=>by
  cases q with
  | ifo n t' q=>
   simp only[nle]at h;obtain⟨h1,rfl,h3⟩:=h;simp only[zn]at *;obtain⟨u,e,ru⟩:=r;exact .inr ⟨h1,u,e,EM h3 ru⟩
  | ifc t' q=>simp only[nle]at h; cases h; exact r
  | _=>simp only[nle]at h; cases h
theorem XT {H:PH}:∀ {p q:List PV} {v:List Value},ef p q->zS H p v->zS H q v
 | [],[],_,_,r=>r
 | [],_::_,_,h,_=>by simp[ef]at h
 | _::_,[],_,h,_=>by simp[ef]at h
 | a::l,b::m,vs,h,r=>by
  simp only[ef]at h;simp only[zS]at *;obtain⟨v,vs',e,r1,r2⟩:=r;exact⟨v,vs',e,EM h.1 r1,XT h.2 r2⟩
end
def Rq:List (List PV)->List (List PV)->Prop
 | [],[]=>True
 | a::l,b::m=>ef a b/\Rq l m
 | _,_=>False
theorem Bx:∀ {p q:List PV},ef p q->p.length=q.length
 | [],[],_=>rfl
 | [],_::_,h=>by simp[ef]at h
 | _::_,[],h=>by simp[ef]at h
 | a::l,b::m,h=>by simp only[ef]at h; simp[Bx h.2]
theorem Ut:∀ {p q:List (List PV)},Rq p q->p.length=q.length
 | [],[],_=>rfl
 | [],_::_,h=>by simp[Rq]at h
 | _::_,[],h=>by simp[Rq]at h
 | a::l,b::m,h=>by simp only[Rq]at h; simp[Ut h.2]
theorem qbo {H:PH} {b z:Nat}:∀ {o:Nat} {p q:List (List PV)},Rq p q->Qg H b z o p->Qg H b z o q
 | _,[],[],_,_=>by simp only[Qg]
 | _,[],_::_,h,_=>by simp[Rq]at h
 | _,_::_,[],h,_=>by simp[Rq]at h
 | o,r::rs,s::ss,h,x=>by
  simp only[Rq]at h;simp only[Qg]at *;obtain⟨e,⟨vs,q,c⟩,a⟩:=x;exact⟨by rw[← e,Bx h.1],⟨vs,XT h.1 q,c⟩,qbo h.2 a⟩
theorem qq1 {H:PH} {p q:List (List PV)} {v:Value} (h:p=q\/Rq p q) (r:zn H (.sl p) v):zn H (.sl q) v:=by
 rcases h with rfl|h
 ·exact r
 simp only[zn]at *;rcases r with ⟨rfl,r⟩|⟨b,o,z,cap,e,l,r⟩
 ·cases q with
  | nil=>exact .inl ⟨rfl,r⟩
  | cons _ _=>simp[Rq]at h
 ·have e2:=Ut h
  exact .inr ⟨b,o,z,cap,by rw[← e2]; exact e,by rw[← e2]; exact l,qbo h r⟩
def zo (ρ:List Value) (H:PH):FV->Value->Prop
 | .top,_=>True
 | .p p,x=>zn H p x
 | .opt g v,x=>if g=true then zo ρ H v x else x=undef
 | .tsl k rows,x=>ρ[k]? =some x/\zn H (.sl rows) x
 | .ptr k off,x=>∃ b,ρ[k]? =some (.pointer (some ⟨b,0,none⟩))/\x=.pointer (some ⟨b,off,none⟩)
 | .hptr row,x=>∃ b o vs,x=.pointer (some ⟨b,o,none⟩)/\zS H row vs/\∀ j v,vs[j]? =some v->H b (o+j)=some v
 | .bself k,x=>∃ b,ρ[k]? =some (.pointer (some ⟨b,0,none⟩))/\(x=.pointer none\/x=.pointer (some ⟨b,0,none⟩))
 | .bsl k off len cap,x=>∃ b,ρ[k]? =some (.pointer (some ⟨b,0,none⟩))/\∃ c,x=.slice (some ⟨b,off,none⟩) len c/\(cap=0\/c=cap)
 | .vsl k n,x=>ρ[k]? =some x/\((n=0/\x=.slice none 0 0)\/∃ b cap,x=.slice (some ⟨b,0,none⟩) n cap)
 | .eptr k z i off,x=>∃ b n cap,ρ[k]? =some (.slice (some ⟨b,0,none⟩) n cap)/\x=.pointer (some ⟨b,i * z+off,none⟩)
 | .mref k,x=>∃ b,ρ[k]? =some (.map (some b))/\x=.map (some b)
 | .pair a b,x=>∃ u v,x=.tuple #[u,v]/\zo ρ H a u/\zo ρ H b v
 | .stmp k,x=>ρ[k]? =some x
 | .clo f c,x=>∃ vs:List Value,x=.func (.func f) #[] vs.toArray/\zo ρ H c (.tuple vs.toArray)
 | .cap0,x=>x=.tuple #[]
 | .cap a b,x=>∃ (u:Value) (vs:List Value),x=.tuple (u::vs).toArray/\zo ρ H a u/\zo ρ H b (.tuple vs.toArray)
 | .fagg c,x=>∃ vs:List Value,x=.agg vs.toArray/\zo ρ H c (.tuple vs.toArray)
 | .nxt ok a b,x=>if ok=true then ∃ u v,x=.tuple #[.bool true,u,v]/\zn H a u/\zn H b v else x=.tuple #[.bool false]
 | .asl k off n,x=>∃ b e d c,ρ[k]? =some (.slice (some ⟨b,0,none⟩) e d)/\x=.slice (some ⟨b,off,none⟩) n c
theorem zo.mono {ρ ρ':List Value} {H H':PH} (d:ρ <+: ρ') (h:PH.le H H'):∀ {f:FV} {x:Value},zo ρ H f x->zo ρ' H' f x
 | .top,_,_=>trivial
 | .p p,x,r=>zn.mono h (p:=p) r
 | .opt g v,x,r=>by
  simp only[zo]at *;split
  ·rename_i A; simp only[A,if_true]at r; exact zo.mono d h r
  rename_i A; simpa[A]using r
 | .tsl k rows,x,r=>by
  obtain⟨l,rfl⟩:=d;refine⟨?_,zn.mono h r.2⟩;rw[jB (jG.1 r.1).1]; exact r.1
 | .ptr k off,x,r=>by
  obtain⟨l,rfl⟩:=d;obtain⟨b,e,m⟩:=r;refine⟨b,?_,m⟩;rw[jB (jG.1 e).1]; exact e
 | .hptr row,x,r=>by
  obtain⟨b,o,vs,e,q,c⟩:=r;exact⟨b,o,vs,e,zS.mono h q,fun j v B=>h _ _ _ (c j v B)⟩
 | .bself k,x,r=>by
  obtain⟨l,rfl⟩:=d;obtain⟨b,e,m⟩:=r;refine⟨b,?_,m⟩;rw[jB (jG.1 e).1]; exact e
 | .bsl k off len cap,x,r=>by
  obtain⟨l,rfl⟩:=d;obtain⟨b,e,m⟩:=r;refine⟨b,?_,m⟩;rw[jB (jG.1 e).1]; exact e
 | .vsl k n,x,r=>by
  obtain⟨l,rfl⟩:=d;refine⟨?_,r.2⟩;rw[jB (jG.1 r.1).1]; exact r.1
 | .eptr k z i off,x,r=>by
  obtain⟨l,rfl⟩:=d;obtain⟨b,n,cap,e,m⟩:=r;refine⟨b,n,cap,?_,m⟩;rw[jB (jG.1 e).1]; exact e
 | .mref k,x,r=>by
  obtain⟨l,rfl⟩:=d;obtain⟨b,e,m⟩:=r;refine⟨b,?_,m⟩;rw[jB (jG.1 e).1]; exact e
 | .pair a b,x,r=>by
  obtain⟨u,v,e,t,w⟩:=r;exact⟨u,v,e,t.mono d h,w.mono d h⟩
 | .stmp k,x,r=>by
  obtain⟨l,rfl⟩:=d;simp only[zo]at *;rw[jB (jG.1 r).1]; exact r
 | .clo f c,x,r=>by
  obtain⟨vs,e,rc⟩:=r;exact⟨vs,e,rc.mono d h⟩
 | .cap0,x,r=>r
 | .cap a b,x,r=>by
  obtain⟨u,vs,e,t,w⟩:=r;exact⟨u,vs,e,t.mono d h,w.mono d h⟩
 | .fagg c,x,r=>by
  obtain⟨vs,e,rc⟩:=r;exact⟨vs,e,rc.mono d h⟩
 | .nxt ok a b,x,r=>by
  simp only[zo]at *;split
  ·rename_i s
   simp only[s,if_true]at r;obtain⟨u,v,e,t,w⟩:=r;exact⟨u,v,e,t.mono h,w.mono h⟩
  rename_i s; simpa[s]using r
 | .asl k off n,x,r=>by
  obtain⟨l,rfl⟩:=d;obtain⟨b,C,y,c,e,m⟩:=r;refine⟨b,C,y,c,?_,m⟩;rw[jB (jG.1 e).1]; exact e
def xL (ρ:List Value) (H:PH):List FV->List Value->Prop
 | [],vs=>vs=[]
 | c::cs,vs=>∃ v a,vs=v::a/\zo ρ H c v/\xL ρ H cs a
theorem xL.mono {ρ ρ':List Value} {H H':PH} (b:ρ <+: ρ') (h:PH.le H H'):∀ {cs:List FV} {vs:List Value},xL ρ H cs vs->xL ρ' H' cs vs
 | [],_,x=>x
 | c::cs,vs,x=>by
  obtain⟨v,a,e,r,rs⟩:=x;exact⟨v,a,e,r.mono b h,rs.mono b h⟩
theorem xL.length {ρ:List Value} {H:PH}:∀ {cs:List FV} {vs:List Value},xL ρ H cs vs->vs.length=cs.length
 | [],vs,x=>by simp only[xL]at x; simp[x]
 | c::cs,vs,x=>by
  obtain⟨v,a,e,_,rs⟩:=x;simp[e,xL.length rs]
theorem xL.drop {ρ:List Value} {H:PH}:∀ {cs:List FV} {vs:List Value} (n:Nat),xL ρ H cs vs->xL ρ H (cs.drop n) (vs.drop n)
 | _,_,0,x=>by simpa using x
 | [],vs,n+1,x=>by simp only[xL]at x; simp[x,xL]
 | c::cs,vs,n+1,x=>by
  obtain⟨v,a,e,r,rs⟩:=x;subst e;simpa using rs.drop n
theorem xL.take {ρ:List Value} {H:PH}:∀ {cs:List FV} {vs:List Value} (n:Nat),xL ρ H cs vs->xL ρ H (cs.take n) (vs.take n)
 | _,_,0,x=>by simp[xL]
 | [],vs,n+1,x=>by simp only[xL]at x; simp[x,xL]
 | c::cs,vs,n+1,x=>by
  obtain⟨v,a,e,r,rs⟩:=x;subst e;simp only[List.take_succ_cons,xL];exact⟨v,_,rfl,r,rs.take n⟩
theorem xL.of_RepL {ρ:List Value} {H:PH}:∀ {cs:List PV} {vs:List Value},zS H cs vs->xL ρ H (cs.map .p) vs
 | [],_,x=>by simp only[zS]at x; simpa[xL]using x
 | c::cs,vs,x=>by
  simp only[zS]at x;obtain⟨v,a,e,r,rs⟩:=x;exact⟨v,a,e,r,xL.of_RepL rs⟩
def qay (H:PH):Prop:=∃ m,H 0 0=some (.int .i64 m)
structure SatH (H:PH) (w:World):Prop where
 cell:∀ b o v,H b o=some v->w.cell? ⟨b,o,none⟩=some v/\v.oneCell'=true
 root:qay H
instance {H:PH} {w:World}:CoeFun (SatH H w) (fun _=>∀ b o v,H b o=some v->w.cell? ⟨b,o,none⟩=some v/\v.oneCell'=true):=⟨SatH.cell⟩
theorem qay.mono {H H':PH} (h:qay H) (a:∀ b o v,H b o=some v->H' b o=some v):qay H':=let ⟨m,hm⟩:=h; ⟨m,a _ _ _ hm⟩
structure Keep (S:Nat->Prop) (w0 w:World):Prop where
 os:w.os=w0.os
 tape:w.tape=w0.tape
 output:w.output=w0.output
 size:w0.heap.size<=w.heap.size
 block:∀ k,k<w0.heap.size->¬ S k->w.heap[k]? =w0.heap[k]?
theorem Keep.refl (S:Nat->Prop) (w:World):Keep S w w:=⟨rfl,rfl,rfl,jw _,fun _ _ _=>rfl⟩
theorem Keep.trans {S:Nat->Prop} {a b c:World} (h:Keep S a b) (k:Keep S b c):Keep S a c:=
 ⟨k.os.trans h.os,k.tape.trans h.tape,k.output.trans h.output,Nat.le_trans h.size k.size,
  fun i d e=>(k.block i (Nat.lt_of_lt_of_le d h.size) e).trans (h.block i d e)⟩
theorem Keep.step {S S':Nat->Prop} {a b c:World} (h:Keep S a b) (k:Keep S' b c) (f:∀ i,S' i->S i\/a.heap.size<=i):Keep S a c:=
 ⟨k.os.trans h.os,k.tape.trans h.tape,k.output.trans h.output,Nat.le_trans h.size k.size,
  fun i d e=>(k.block i (Nat.lt_of_lt_of_le d h.size) (fun x=>(f i x).elim e (by omega))).trans (h.block i d e)⟩
abbrev iJ:Nat->Prop:=fun _=>False
structure Base where
 S:Nat->Prop
 w0:World
 H0:PH
 r0:List Value
def zy:Value->Option Nat
 | .pointer (some a)=>some a.block
 | .slice (some a) _ _=>some a.block
 | .map r=>r
 | _=>none
def rJ (H:PH) (z:Nat):List (List PV)->List Value->Prop
 | [],vs=>vs=[]
 | r::rs,vs=>r.length=z/\∃ a b,vs=a++b/\zS H r a/\rJ H z rs b
theorem rJ.mono {H H':PH} (h:PH.le H H') {z:Nat}:∀ {rows:List (List PV)} {vs:List Value},rJ H z rows vs->rJ H' z rows vs
 | [],_,x=>x
 | r::rs,vs,x=>by
  obtain⟨hz,a,b,e,q,y⟩:=x;exact⟨hz,a,b,e,zS.mono h q,y.mono h⟩
def Lr (H:PH):List (PV×PV)->List MapEntry->Prop
 | [],l=>l=[]
 | (k,p)::es,l=>∃ e l',l=e::l'/\zn H k e.key/\zn H p e.val/\Lr H es l'
theorem Lr.mono {H H':PH} (h:PH.le H H'):∀ {es:List (PV×PV)} {l:List MapEntry},Lr H es l->Lr H' es l
 | [],_,x=>x
 | (k,p)::es,l,x=>by
  obtain⟨e,l',a,b,c,rr⟩:=x;exact⟨e,l',a,zn.mono h b,zn.mono h c,rr.mono h⟩
def qav (ρ:List Value) (H:PH) (ents:Array MapEntry) (mk:Option (PV×Nat)):Prop:=
 ∀ key s,mk=some (key,s)->∃ (j:Nat) (e:MapEntry),ents[j]? =some e/\zn H key e.key/\ρ[s]? =some (.int .i64 e.born)
theorem qav.mono {ρ ρ':List Value} {H H':PH} {ents:Array MapEntry} {mk:Option (PV×Nat)} (b:ρ <+: ρ') (h:PH.le H H') (m:qav ρ H ents mk):qav ρ' H' ents mk:=fun key s e=>by
 obtain⟨j,x,c,d,a⟩:=m key s e;obtain⟨l,rfl⟩:=b;exact⟨j,x,c,zn.mono h d,by rw[jB (jG.1 a).1]; exact a⟩
def UQ (ρ:List Value) (H:PH) (w:World) (v:Value):AObj->Prop
 | .dead=>True
 | .box t cells=>∃ b vs,v=.pointer (some ⟨b,0,none⟩)/\w.heap[b]? =some (.cells vs.toArray t (0,0))/\xL ρ H cells vs/\∀ o,H b o=none
 | .tail e z n=>∃ xs,w.ownsRow 0 e z v n xs/\∀ b,zy v=some b->(∀ j u,xs[j]? =some u->H b j=some u)/\∀ o,n * z<=o->H b o=none
 | .vec e z rows=>∃ xs,w.ownsRow 0 e z v rows.length xs/\rJ H z rows xs/\(∀ u∈xs,u.oneCell'=true)/\∀ b,zy v=some b->∀ o,H b o=none
 | .mp d es mk=>∃ b ents clock,v=.map (some b)/\w.heap[b]? =some (.map ents clock)/\Lr H es ents.toList/\(MapKept.Stamped ents clock/\(∀ x∈ents.toList,MapKept.IsKey d x.key)/\qav ρ H ents mk)/\∀ o,H b o=none
 | .sit l pos=>∃ b,v=.pointer (some ⟨b,0,none⟩)/\w.heap[b]? =some (.stringIter ⟨l.toArray⟩ pos)/\∀ o,H b o=none
 | .bv l=>∃ b cs e cap lo a,v=.slice (some ⟨b,0,none⟩) l.length cap/\w.heap[b]? =some (.cells cs e (lo,a))/\(l.length<=lo\/a<=lo)/\(∀ (j:Nat) (c:UInt8),l[j]? =some c->cs[j]? =some (.int .u8 c.toNat))/\∀ o,H b o=none
 | .vl e z rows j k=>∃ xs,w.ownsRow 0 e z v rows.length xs/\rJ H z rows xs/\(∀ u∈xs,u.oneCell'=true)/\(∀ b,zy v=some b->∀ o,H b o=none)/\∀ u,xs[(rows.length - 1) * z+j]? =some u->ρ[k]? =some u
 | .pbx t c=>∃ b u us,v=.pointer (some ⟨b,0,none⟩)/\w.heap[b]? =some (.cells (u::us).toArray t (0,0))/\zo ρ H c u/\∀ o,H b o=none
structure SatW (bs:Base) (ρ:List Value) (H:PH) (lo:List AObj) (w:World):Prop where
 sath:SatH H w
 hlen:ρ.length=lo.length
 pre:bs.r0 <+: ρ
 objs:∀ (k:Nat) (o:AObj) (v:Value),lo[k]? =some o->ρ[k]? =some v->UQ ρ H w v o
 excl:∀ (k k':Nat) (o o':AObj) (v v':Value) (b:Nat),lo[k]? =some o->lo[k']? =some o'->ρ[k]? =some v->ρ[k']? =some v'->k≠k' ->
  o.live=true->o'.live=true->zy v=some b->zy v'≠some b
 own:∀ (k:Nat) (o:AObj) (v:Value) (b:Nat),lo[k]? =some o->ρ[k]? =some v->o.live=true->zy v=some b->bs.S b\/bs.w0.heap.size<=b
 keep:Keep bs.S bs.w0 w
 leH:PH.le bs.H0 H
 newH:∀ b o v,H b o=some v->(∃ v,bs.H0 b o=some v)\/bs.S b\/bs.w0.heap.size<=b
structure Sat (bs:Base) (N:Nat) (ρ:List Value) (H:PH) (e:Nat->FV) (lo:List AObj) (a:Act) (w:World):Prop extends SatW bs ρ H lo w where
 slots:∀ t,zo ρ H (e t) (a.tmps.getD t undef)
 width:a.tmps.size=N
 defers:a.defers=[]
structure Calm (H:PH) (w:World) (H':PH) (w':World):Prop where
 le:PH.le H H'
 sat:SatH H' w'
 keep:Keep iJ w w'
 new:∀ b o v,H' b o=some v->(∃ v,H b o=some v)\/w.heap.size<=b
theorem Calm.refl {H:PH} {w:World} (h:SatH H w):Calm H w H w:=⟨PH.le.refl H,h,Keep.refl _ w,fun _ _ v h=>.inl ⟨v,h⟩⟩
theorem Calm.trans {H H' a:PH} {w w' c:World} (h:Calm H w H' w') (k:Calm H' w' a c):Calm H w a c:=
 ⟨h.le.trans k.le,k.sat,h.keep.trans k.keep,fun b o v e=>by
  rcases k.new b o v e with ⟨v',d⟩|f
  ·exact h.new b o v' d
  exact .inr (Nat.le_trans h.keep.size f)⟩
theorem SatH.block {H:PH} {w w':World} (h:SatH H w) (e:∀ b o v,H b o=some v->w'.heap[b]? =w.heap[b]?):SatH H w':=⟨fun b o v c=>by
 rw[World.cell?_of_block (w:=w) (a:=⟨b,o,none⟩) (e b o v c)]; exact h.cell b o v c,h.root⟩
theorem SatH.lt {H:PH} {w:World} (h:SatH H w) {b o:Nat} {v:Value} (a:H b o=some v):b<w.heap.size:=
 World.block_lt_of_cell? w ⟨b,o,none⟩ (h.cell b o v a).1
theorem vo {w:World} {b:Nat} {o:Obj} (h:w.heap[b]? =some o):b<w.heap.size:=(jH.1 h).1
theorem Uu {w w':World} {e:TypeId} {z n:Nat} {v:Value} {xs:List Value} (h:w.ownsRow 0 e z v n xs)
  (d:∀ b,zy v=some b->b<w.heap.size->w'.heap[b]? =w.heap[b]?):w'.ownsRow 0 e z v n xs:=by
 refine⟨h.1,?_⟩;rcases h.2 with h2|⟨g,cap,cur,a,f,c,r⟩
 ·exact .inl h2
 refine .inr ⟨g,cap,cur,a,f,?_,r⟩;rw[d g (by simp[a,zy]) (vo c)]; exact c
theorem UQ.keep {ρ ρ':List Value} {H H':PH} {w w':World} {v:Value} {o:AObj} (h:UQ ρ H w v o) (y:ρ <+: ρ') (x:PH.le H H')
  (q:∀ b,zy v=some b->b<w.heap.size->w'.heap[b]? =w.heap[b]?) (r:∀ b o',zy v=some b->b<w.heap.size->H b o'=none->H' b o'=none) :
  UQ ρ' H' w' v o:=by
 cases o with
 | dead=>trivial
 | box t cells=>
  obtain⟨b,vs,rfl,f,A,m⟩:=h;have a:=vo f;exact⟨b,vs,rfl,by rw[q b (by simp[zy]) a]; exact f,A.mono y x,fun o=>r b o (by simp[zy]) a (m o)⟩
 | tail e z n=>
  obtain⟨xs,s,m⟩:=h;refine⟨xs,Uu s q,fun b i=>⟨fun j u hu=>x _ _ _ ((m b i).1 j u hu),fun o B=>?_⟩⟩
  have a:b<w.heap.size:=by
   rcases s.2 with ⟨rfl,_⟩|⟨g,cap,cur,rfl,_,f,_⟩
   ·simp[zy]at i
   simp[zy]at i; subst i; exact vo f
  exact r b o i a ((m b i).2 o B)
 | vec e z rows=>
  obtain⟨xs,s,p,h1,m⟩:=h;refine⟨xs,Uu s q,p.mono x,h1,fun b i o=>?_⟩;have a:b<w.heap.size:=by
   rcases s.2 with ⟨rfl,_⟩|⟨g,cap,cur,rfl,_,f,_⟩
   ·simp[zy]at i
   simp[zy]at i; subst i; exact vo f
  exact r b o i a (m b i o)
 | mp d es mk=>
  obtain⟨b,ents,clock,rfl,f,p,⟨h1,h2,h3⟩,m⟩:=h;have a:=vo f;exact⟨b,ents,clock,rfl,by rw[q b (by simp[zy]) a]; exact f,p.mono x,⟨h1,h2,h3.mono y x⟩,fun o=>r b o (by simp[zy]) a (m o)⟩
 | sit l pos=>
  obtain⟨b,rfl,f,m⟩:=h;have a:=vo f;exact⟨b,rfl,by rw[q b (by simp[zy]) a]; exact f,fun o=>r b o (by simp[zy]) a (m o)⟩
 | bv l=>
  obtain⟨b,cs,e,cap,lo,C,rfl,f,h1,h2,m⟩:=h;have a:=vo f;exact⟨b,cs,e,cap,lo,C,rfl,by rw[q b (by simp[zy]) a]; exact f,h1,h2,fun o=>r b o (by simp[zy]) a (m o)⟩
 | pbx t c=>
  obtain⟨b,u,us,rfl,f,A,m⟩:=h;have a:=vo f;exact⟨b,u,us,rfl,by rw[q b (by simp[zy]) a]; exact f,A.mono y x,fun o=>r b o (by simp[zy]) a (m o)⟩
 | vl e z rows j k=>
  obtain⟨xs,s,p,h1,m,D⟩:=h;refine⟨xs,Uu s q,p.mono x,h1,fun b i o=>?_,fun u hu=>?_⟩
  ·have a:b<w.heap.size:=by
    rcases s.2 with ⟨rfl,_⟩|⟨g,cap,cur,rfl,_,f,_⟩
    ·simp[zy]at i
    simp[zy]at i; subst i; exact vo f
   exact r b o i a (m b i o)
  have hu:=D u hu;obtain⟨l,rfl⟩:=y;rw[jB (jG.1 hu).1]; exact hu
theorem SatW.calm {bs:Base} {ρ:List Value} {H H':PH} {lo:List AObj} {w w':World} (s:SatW bs ρ H lo w) (c:Calm H w H' w'):SatW bs ρ H' lo w' where
 sath:=c.sat
 hlen:=s.hlen
 pre:=s.pre
 objs:=fun k o v g e=>(s.objs k o v g e).keep (jq _) c.le (fun b _ f=>c.keep.block b f id) (fun b o' _ f i=>by
  cases j:H' b o' with
  | none=>rfl
  | some x=>
   rcases c.new b o' x j with ⟨y,d⟩|a
   ·rw[i]at d; cases d
   omega)
 excl:=s.excl
 own:=s.own
 keep:=s.keep.step c.keep (fun _ h=>h.elim)
 leH:=s.leH.trans c.le
 newH:=fun b o v e=>by
  rcases c.new b o v e with ⟨y,d⟩|a
  ·exact s.newH b o y d
  exact .inr (.inr (Nat.le_trans s.keep.size a))
theorem SatW.view {bs:Base} {ρ:List Value} {H:PH} {lo:List AObj} {w:World} (s:SatW bs ρ H lo w) {k:Nat} {o o':AObj} (u:lo[k]? =some o) (y:o.live=true) (_:o'.live=true) (h:∀ v,ρ[k]? =some v->UQ ρ H w v o->UQ ρ H w v o') :
  SatW bs ρ H (lo.set k o') w:=by
 have old:∀ {x:Nat} {ob:AObj},(lo.set k o')[x]? =some ob->ob.live=true->∃ d,lo[x]? =some d/\d.live=true:=by
  intro x ob g c;rw[jF]at g;split at g
  ·rename_i e; subst e; exact⟨o,u,y⟩
  exact⟨ob,g,c⟩
 refine{ s with hlen:=by simpa using s.hlen,objs:=fun i ob v a f=>?_,excl:=fun i j oi oj z A b a B l m n p q r=>?_,own:=fun i ob v b a f c r=>?_ }
 ·rw[jF]at a
  split at a
  ·rename_i e
   subst e;split at a
   ·cases a
    exact h v f (s.objs k o v u f)
   cases a
  ·exact s.objs i ob v a f
 ·obtain⟨o1,h1,t⟩:=old a p
  obtain⟨o2,h2,C⟩:=old B q;exact s.excl i j o1 o2 z A b h1 h2 l m n t C r
 obtain⟨o1,h1,t⟩:=old a c;exact s.own i o1 v b h1 f t r
theorem qp0 {ρ:List Value} {H:PH} {w:World} {v:Value} {e:TypeId} {z j k:Nat} {rows:List (List PV)} (h:UQ ρ H w v (.vl e z rows j k)):UQ ρ H w v (.vec e z rows):=
 let ⟨xs,h1,h2,h3,h4,_⟩:=h
 ⟨xs,h1,h2,h3,h4⟩
end Ax
end
section
namespace Ax
open Go
abbrev Env:=List (Nat×FV)
def qv:Env->Nat->FV
 | [],_=>.top
 | (t',v)::E,t=>match Nat.beq t t' with|true=>v|false=>qv E t
def ql2:Env->Nat->(FV->Prop)->Prop
 | [],_,R=>R .top
 | (t',v)::E,t,R=>match Nat.beq t t' with|true=>R v|false=>ql2 E t R
def qls (v:PV) (R:PV->Prop):Prop:=
 match v with
 | .bool b=>R (.bool b)|.int k n=>R (.int k n)|.str l=>R (.str l)
 | .agg cs=>R (.agg cs)|.tup vs=>R (.tup vs)|.nilsl=>R .nilsl|.sl rows=>R (.sl rows)
 | .nilp=>R .nilp|.fn f=>R (.fn f)|.nilfn=>R .nilfn|.nili=>R .nili|.ifc t v=>R (.ifc t v)|.nilmap=>R .nilmap|.hp row=>R (.hp row)|.clo f cs=>R (.clo f cs)|.bfn f cs=>R (.bfn f cs)|.ifo n t v=>R (.ifo n t v)
def qfb (v:FV) (R:FV->Prop):Prop:=
 match v with
 | .top=>R .top
 | .p v=>qls v fun v=>R (.p v)
 | .opt g v=>R (.opt g v)
 | .tsl k rows=>R (.tsl k rows)
 | .ptr k off=>R (.ptr k off)
 | .hptr row=>R (.hptr row)
 | .bself k=>R (.bself k)
 | .bsl k off len cap=>R (.bsl k off len cap)
 | .vsl k n=>R (.vsl k n)
 | .eptr k z i off=>R (.eptr k z i off)
 | .mref k=>R (.mref k)
 | .pair a b=>R (.pair a b)
 | .stmp k=>R (.stmp k)
 | .clo f c=>R (.clo f c)
 | .cap0=>R .cap0
 | .cap a b=>R (.cap a b)
 | .fagg c=>R (.fagg c)
 | .nxt ok a b=>R (.nxt ok a b)
 | .asl k off n=>R (.asl k off n)
theorem qfc (v:PV) (R:PV->Prop):qls v R=R v:=by cases v<;>rfl
theorem Dm (v:FV) (R:FV->Prop):qfb v R=R v:=by cases v<;>first|rfl|exact qfc _ (fun v=>R (.p v))
def qnc:Value->Option PV
 | .bool b=>some (.bool b)
 | .int k n=>some (.int k n)
 | .string ⟨⟨l⟩⟩=>some (.str l)
 | .slice none 0 0=>some .nilsl
 | .pointer none=>some .nilp
 | .nilIface=>some .nili
 | .nilFunc=>some .nilfn
 | .map none=>some .nilmap
 | _=>none
def qbu:List Value->(List PV->Prop)->Prop
 | [],R=>R []
 | v::vs,R=>match qnc v with|some p=>qbu vs fun l=>R (p::l)|none=>False
def qpf:List Value->Option (List PV)
 | []=>some []
 | v::vs=>match qnc v with
  | some p=>(match qpf vs with|some l=>some (p::l)|none=>none)
  | none=>none
def qp9:Value->FV
 | .tuple ⟨[]⟩=>.p (.tup [])
 | .agg ⟨vs⟩=>match qpf vs with|some ps=>.p (.agg ps)|none=>.top
 | v=>match qnc v with|some p=>.p p|none=>.top
def evF (e:Nat->FV):Operand->FV
 | .tmp t=>e t
 | .const v=>qp9 v
 | .func f=>.p (.fn f)
 | .global _=>.top
def ev (E:Env) (x:Operand) (R:FV->Prop):Prop:=
 match x with
 | .tmp t=>ql2 E t R
 | .const v=>qfb (qp9 v) R
 | .func f=>R (.p (.fn f))
 | .global _=>R .top
abbrev G:=Option Bool
def gOn (g:G):Prop:=match g with|none=>True|some b=>b=true
def gI (g:G) (p:Prop):Prop:=match g with|none=>p|some b=>b=true->p
def evS (E:Env) (g:G) (x:Operand) (R:FV->Prop):Prop:=
 ev E x fun v=>match v with
 | .opt g' v'=>gI g (g'=true)/\R v'
 | v=>R v
def qol:List FV->FV
 | []=>.cap0
 | v::l=>.cap v (qol l)
def Df:FV->(List FV->Prop)->Prop
 | .cap0,R=>R []
 | .cap a b,R=>Df b fun l=>R (a::l)
 | _,_=>False
def Lz {α:Type}:Nat->List α->(List α->Prop)->Prop
 | 0,_,R=>R []
 | n+1,l,R=>match l with|[]=>False|a::l=>Lz n l fun l=>R (a::l)
def Ng {α:Type}:Nat->List α->(List α->Prop)->Prop
 | 0,l,R=>R l
 | n+1,l,R=>match l with|[]=>False|_::l=>Ng n l R
def UK {α:Type}:Nat->List α->(α->Prop)->Prop
 | 0,l,R=>match l with|[]=>False|a::_=>R a
 | n+1,l,R=>match l with|[]=>False|_::l=>UK n l R
def Bz {α:Type}:Nat->α->List α->(List α->Prop)->Prop
 | 0,x,l,R=>match l with|[]=>False|_::l=>R (x::l)
 | n+1,x,l,R=>match l with|[]=>False|a::l=>Bz n x l fun l=>R (a::l)
def Xr {α:Type}:List α->α->(List α->Prop)->Prop
 | [],x,R=>R [x]
 | a::l,x,R=>Xr l x fun l=>R (a::l)
def CA {α:Type}:List α->Nat->(Nat->Prop)->Prop
 | [],n,R=>R n
 | _::l,n,R=>CA l (n+1) R
def qdp (P:Program) (t:TypeId):Nat:=match P.info? t with|some i=>i.size|none=>0
def qll:TypeDesc->Bool
 | .struct _|.array _ _=>true
 | _=>false
def VQ (P:Program) (t:TypeId) (R:Bool->Nat->Prop):Prop:=
 match P.underlying t with
 | some d=>match P.info? t with
  | some i=>R (qll d) i.size
  | none=>False
 | none=>False
def Nl (P:Program) (t:TypeId) (f:Nat) (R:Nat->TypeId->Prop):Prop:=
 match P.underlying t with
 | some (.struct ⟨fs⟩)=>UK f fs fun x=>match P.info? x.type with
  | some i=>match Nat.beq i.size 0 with|true=>False|false=>R x.offset x.type
  | none=>False
 | _=>False
def qoi (v:FV) (R:PV->Prop):Prop:=
 match v with
 | .p v=>R v
 | .tsl _ rows=>R (.sl rows)
 | .hptr row=>R (.hp row)
 | _=>False
def MY:FV->(List PV->Prop)->Prop
 | .cap0,R=>R []
 | .cap a b,R=>qoi a fun p=>MY b fun l=>R (p::l)
 | _,_=>False
def ee (v:FV) (R:PV->Prop):Prop:=
 match v with
 | .p v=>R v
 | .tsl _ rows=>R (.sl rows)
 | .hptr row=>R (.hp row)
 | .clo f c=>MY c fun cs=>R (.clo f cs)
 | _=>False
def qa6:List FV->(List PV->Prop)->Prop
 | [],R=>R []
 | v::l,R=>ee v fun v=>qa6 l fun l=>R (v::l)
def evL (E:Env) (g:G):List Operand->(List FV->Prop)->Prop
 | [],R=>R []
 | x::l,R=>evS E g x fun v=>evL E g l fun l=>R (v::l)
def xr:Int:=9223372036854775807
def qqq (op:BinOp) (k:IntKind) (a b:Int) (R:PV->Prop):Prop:=
 match op with
 | .add=>R (.int k (k.wrap (a+b)))
 | .sub=>R (.int k (k.wrap (a - b)))
 | .eql=>R (.bool (a==b))
 | .neq=>R (.bool (a != b))
 | .lss=>R (.bool (decide (a<b)))
 | .leq=>R (.bool (decide (a<=b)))
 | .gtr=>R (.bool (decide (a>b)))
 | .geq=>R (.bool (decide (a≥b)))
 | .and=>R (.int k (k.wrap (jr k.bits a &&& jr k.bits b).toNat))
 | .or=>R (.int k (k.wrap (jr k.bits a ||| jr k.bits b).toNat))
 | _=>False
def qqr (g:G) (op:BinOp) (a b:List UInt8) (R:PV->Prop):Prop:=
 match op with
 | .add=>gI g (((a.length+b.length:Nat):Int)<=xr)/\R (.str (a++b))
 | .eql=>R (.bool (a==b))
 | .neq=>R (.bool (!(a==b)))
 | .lss=>R (.bool (Op.bytesLess a b))
 | .leq=>R (.bool (Op.bytesLess a b||a==b))
 | .geq=>R (.bool (!(Op.bytesLess a b)))
 | _=>False
def qqp (op:BinOp) (a b:Bool) (R:PV->Prop):Prop:=
 match op with
 | .eql=>R (.bool (a==b))
 | .neq=>R (.bool (!(a==b)))
 | _=>False
def om (P:Program) (t:TypeId) (R:Prop):Prop:=
 match P.underlying t with
 | some .bool=>R
 | _=>False
def Ht:IntKind->IntKind->Bool
 | .i8,.i8|.i16,.i16|.i32,.i32|.i64,.i64|.u8,.u8|.u16,.u16|.u32,.u32|.u64,.u64=>true
 | _,_=>false
theorem Qj {k k':IntKind} (h:Ht k k'=true):k=k':=by cases k<;>cases k'<;>first|rfl|cases h
def qmu (P:Program) (g:G) (op:BinOp) (t:TypeId) (x y:FV) (R:FV->Prop):Prop:=
 match x with
 | .p (.int k a)=>match y with
  | .p (.int k' b)=>match op with
   | .shr=>gI g (0<=b)/\R (.p (.int k (a.fdiv (2 ^ (min b.toNat k.bits)))))
   | .quo=>match Ht k k' with|true=>gI g (b≠0)/\R (.p (.int k (k.wrap (a.tdiv b))))|false=>False
   | .rem=>match Ht k k' with|true=>gI g (b≠0)/\R (.p (.int k (a.tmod b)))|false=>False
   | op=>match Ht k k' with|true=>qqq op k a b fun v=>R (.p v)|false=>False
  | _=>False
 | .p (.str a)=>match y with
  | .p (.str b)=>qqr g op a b fun v=>R (.p v)
  | _=>False
 | .p (.bool a)=>match y with
  | .p (.bool b)=>om P t (qqp op a b fun v=>R (.p v))
  | _=>False
 | _=>False
def RI (P:Program) (t:TypeId) (x:FV) (f:Nat) (R:FV->Prop):Prop:=
 match x with
 | .ptr k off=>Nl P t f fun o _=>R (.ptr k (off+o))
 | .hptr row=>Nl P t f fun o _=>Ng o row fun r=>R (.hptr r)
 | .eptr k z i off=>Nl P t f fun o _=>R (.eptr k z i (off+o))
 | _=>False
def GK (P:Program) (t:TypeId) (R:TypeId->Nat->Prop):Prop:=
 match P.underlying t with
 | some (.slice e)=>match P.info? e with|some i=>R e i.size|none=>False
 | _=>False
def VF (P:Program) (g:G) (t:TypeId) (x i:FV) (R:FV->Prop):Prop:=
 match x,i with
 | .p (.sl rows),.p (.int _ i)=>GK P t fun _ z=>∃ row,gI g (0<=i/\rows[i.toNat]? =some row/\row.length=z)/\R (.hptr row)
 | .tsl _ rows,.p (.int _ i)=>GK P t fun _ z=>∃ row,gI g (0<=i/\rows[i.toNat]? =some row/\row.length=z)/\R (.hptr row)
 | .vsl k n,.p (.int _ i)=>GK P t fun _ z=>∃ j:Nat,gI g (i=j/\j<n)/\R (.eptr k z j 0)
 | .eptr k z 0 0,.p (.int _ i)=>match P.underlying t with
  | some (.array n e)=>match P.info? e with
   | some ti=>match Nat.beq ti.size 1 with
    | true=>∃ j:Nat,gI g (z=1/\i=j/\j<n)/\R (.eptr k 1 j 0)
    | false=>False
   | none=>False
  | _=>False
 | _,_=>False
def lH (P:Program) (g:G) (t:TypeId) (x i:FV) (R:FV->Prop):Prop:=
 match x,i with
 | .p (.str l),.p (.int _ i)=>match P.underlying t with
  | some .string=>∃ b,gI g (0<=i/\l[i.toNat]? =some b)/\R (.p (.int .u8 b.toNat))
  | _=>False
 | _,_=>False
def GG (E:Env) (g:G) (x:Option Operand) (d:Nat) (R:Nat->Prop):Prop:=
 match x with
 | none=>R d
 | some x=>evS E g x fun v=>match v with
  | .p (.int _ i)=>∃ n:Nat,gI g (i=n)/\R n
  | _=>False
def lK (P:Program) (E:Env) (g:G) (t:TypeId) (x:FV) (lo b c:Option Operand) (R:FV->Prop):Prop:=
 match c with
 | some _=>False
 | none=>match x with
  | .p (.str l)=>match P.underlying t with
   | some .string=>GG E g b l.length fun h=>GG E g lo 0 fun a=>gI g (a<=h/\h<=l.length)/\R (.p (.str ((l.take h).drop a)))
   | _=>False
  | .p (.sl rows)=>match P.underlying t with
   | some (.slice e)=>match P.info? e with
    | some i=>GG E g b rows.length fun h=>GG E g lo 0 fun a=>gI g (a<=h/\h<=rows.length/\∀ r∈rows,r.length=i.size)/\R (.p (.sl ((rows.take h).drop a)))
    | none=>False
   | _=>False
  | .tsl _ rows=>match P.underlying t with
   | some (.slice e)=>match P.info? e with
    | some i=>GG E g b rows.length fun h=>GG E g lo 0 fun a=>gI g (a<=h/\h<=rows.length/\∀ r∈rows,r.length=i.size)/\R (.p (.sl ((rows.take h).drop a)))
    | none=>False
   | _=>False
  | .eptr k z 0 0=>match P.underlying t with
   | some (.array n e)=>match P.info? e with
    | some i=>match Nat.beq i.size 1 with
     | true=>GG E g b n fun h=>GG E g lo 0 fun a=>gI g (z=1/\a<=h/\h<=n/\a<n)/\R (.asl k a (h - a))
     | false=>False
    | none=>False
   | _=>False
  | _=>False
def qpc (P:Program) (t:TypeId) (x:FV) (R:FV->Prop):Prop:=
 match x with
 | .p (.str l)=>match P.underlying t with|some .string=>R (.p (.int .i64 l.length))|_=>False
 | .p (.sl rows)=>match P.underlying t with|some (.slice _)=>R (.p (.int .i64 rows.length))|_=>False
 | .tsl _ rows=>match P.underlying t with|some (.slice _)=>R (.p (.int .i64 rows.length))|_=>False
 | .vsl _ n=>match P.underlying t with|some (.slice _)=>R (.p (.int .i64 n))|_=>False
 | .p .nilsl=>match P.underlying t with|some (.slice _)=>R (.p (.int .i64 0))|_=>False
 | _=>False
def Dq (P:Program) (src dst:TypeId) (x:FV) (R:FV->Prop):Prop:=
 match x with
 | .p (.int _ n)=>match P.underlying src with
  | some (.int _)=>match P.underlying dst with
   | some (.int k)=>R (.p (.int k (k.wrap n)))
   | _=>False
  | _=>False
 | _=>False
def qT (l:List UInt8):List (List PV):=l.map fun b=>[.int .u8 b.toNat]
def u8T (P:Program) (src dst:TypeId) (R:Prop):Prop:=
 match P.underlying src with
 | some (.slice e)=>match P.underlying e with
  | some (.int .u8)=>match P.underlying dst with
   | some .string=>R
   | _=>False
  | _=>False
 | _=>False
def qq3 (P:Program) (src dst:TypeId) (n:Nat) (t:TypeId) (R:Prop):Prop:=
 match P.underlying src with
 | some (.pointer u)=>match P.underlying dst with
  | some .unsafePointer=>match P.info? u with
   | some i=>(i.size≠0/\0<n)/\R
   | none=>False
  | _=>False
 | some .unsafePointer=>match P.underlying dst with
  | some (.pointer u)=>match P.info? u with
   | some _=>liesAt P P.depth t (n / P.cellsOf t) 0 u 1=true/\R
   | none=>False
  | _=>False
 | _=>False
def Hs (P:Program) (g:G) (src dst:TypeId) (lo:List AObj) (x:FV) (R:FV->Prop):Prop:=
 match x with
 | .p (.sl rows)=>u8T P src dst (∃ l,gI g (rows=qT l)/\R (.p (.str l)))
 | .tsl _ rows=>u8T P src dst (∃ l,gI g (rows=qT l)/\R (.p (.str l)))
 | .p .nilsl=>u8T P src dst (R (.p (.str [])))
 | .ptr k off=>match Nat.beq off 0 with
  | true=>UK k lo fun o=>match o with
   | .box t cells=>qq3 P src dst cells.length t (R (.ptr k 0))
   | _=>False
  | false=>False
 | .vsl k n=>u8T P src dst (UK k lo fun o=>match o with
   | .bv l=>gI g (n=l.length)/\R (.p (.str l))
   | _=>False)
 | .asl k off n=>u8T P src dst (UK k lo fun o=>match o with
   | .bv l=>gI g (off+n<=l.length)/\R (.p (.str ((l.drop off).take n)))
   | _=>False)
 | x=>Dq P src dst x R
def Fc (P:Program) (H:PH) (w:World) (r:PV):Result Next->Prop
 | .ok (.value v) w'=>∃ H',Calm H w H' w'/\zn H' r v
 | .ok (.enter f args) w'=>w'=w/\Calls P f args w fun e a=>∃ v H',e=.returned v/\Calm H w H' a/\zn H' r v
 | _=>False
def qb (P:Program) (f:FuncId) (args:List PV) (r:PV):Prop:=
 ∀ (H:PH) (w:World) (vs:List Value),SatH H w->zS H args vs->Fc P H w r ((callFunc f vs.toArray).run P w)
def NI (E:Env) (g:G):Nat->List (Nat×Operand)->(List PV->Prop)->Prop
 | _,[],R=>R []
 | k,(i,x)::l,R=>match Nat.beq i k with
  | true=>evS E g x fun v=>ee v fun p=>NI E g (k+1) l fun a=>R (p::a)
  | false=>False
def MZ (p:PV) (R:List PV->Prop):Prop:=
 match p with
 | .agg cs=>R cs
 | .tup _=>False
 | p=>R [p]
def qdn:List PV->(List (List PV)->Prop)->Prop
 | [],R=>R []
 | p::ps,R=>MZ p fun c=>qdn ps fun rs=>R (c::rs)
def ah:PV->Bool
 | .agg _|.tup _=>false
 | _=>true
def pa (P:Program) (E:Env) (g:G) (t:TypeId) (n:Nat) (parts:List (Nat×Operand)) (R:FV->Prop):Prop:=
 GK P t fun e z=>match Nat.beq parts.length n with
  | true=>match Nat.ble 1 n with
   | true=>match Nat.ble 1 z with
    | true=>match Nat.ble (n * z) 16777216 with
     | true=>match P.info? e with
      | some i=>match i.zero with
       | some _=>NI E g 0 parts fun b=>qdn b fun rows=>(∀ r∈rows,r.length=z/\r.all ah=true)/\∃ a,(rows=a\/Rq rows a)/\R (.p (.sl a))
       | none=>False
      | none=>False
     | false=>False
    | false=>False
   | false=>False
  | false=>False
def EN:Nat->List PV->List PV->(List PV->Prop)->Prop
 | 0,[],old,R=>R old
 | 0,v::vs,old,R=>match old with|[]=>False|_::old=>EN 0 vs old fun l=>R (v::l)
 | n+1,vs,old,R=>match old with|[]=>False|a::old=>EN n vs old fun l=>R (a::l)
def qe8 (P:Program) (E:Env) (g:G) (a:List Field):List (Nat×Operand)->List PV->(List PV->Prop)->Prop
 | [],cs,R=>R cs
 | (i,x)::l,cs,R=>UK i a fun f=>match P.info? f.type with
  | some ti=>evS E g x fun v=>ee v fun p=>MZ p fun c=>match Nat.beq c.length ti.size with
   | true=>EN f.offset c cs fun cs=>qe8 P E g a l cs R
   | false=>False
  | none=>False
def RH (P:Program):List Field->Bool
 | []=>true
 | f::fs=>match P.info? f.type with|some _=>RH P fs|none=>false
def lF (P:Program) (E:Env) (g:G) (t:TypeId) (parts:List (Nat×Operand)) (R:FV->Prop):Prop:=
 match P.info? t with
 | some i=>match i.zero with
  | some (.agg ⟨vs⟩)=>qbu vs fun b=>match P.underlying t with
   | some (.struct ⟨fs⟩)=>match RH P fs with
    | true=>qe8 P E g fs parts b fun cs=>R (.p (.agg cs))
    | false=>False
   | some (.array _ e)=>match P.info? e with
    | some ei=>match Nat.beq ei.size 1 with
     | true=>NI E g 0 parts fun a=>a.length=vs.length/\(∀ c∈a,ah c=true)/\R (.p (.agg a))
     | false=>False
    | none=>False
   | _=>False
  | _=>False
 | none=>False
def qpd (P:Program) (op:BinOp) (t:TypeId) (x y:FV) (R:FV->Prop):Prop:=
 match P.underlying t with
 | some (.pointer e)=>match P.info? e with
  | some _=>match op with
   | .eql=>match x,y with
    | .p .nilp,.p .nilp=>R (.p (.bool true))
    | .ptr _ _,.p .nilp=>R (.p (.bool false))
    | .hptr _,.p .nilp=>R (.p (.bool false))
    | _,_=>False
   | .neq=>match x,y with
    | .p .nilp,.p .nilp=>R (.p (.bool false))
    | .ptr _ _,.p .nilp=>R (.p (.bool true))
    | .hptr _,.p .nilp=>R (.p (.bool true))
    | .ptr k off,.ptr k' off'=>match Nat.beq k k' with
     | true=>match Nat.beq off off' with
      | true=>R (.p (.bool false))
      | false=>False
     | false=>False
    | _,_=>False
   | _=>False
  | none=>False
 | _=>False
def Eu (E:Env):List (Nat×Operand)->Prop->Prop->Prop
 | [],_,no=>no
 | (_,x)::l,yes,no=>ev E x fun v=>match v with
  | .mref _=>yes
  | .ptr _ _=>yes
  | .clo _ _=>yes
  | .bsl _ _ _ _=>yes
  | _=>Eu E l yes no
def qjk:List PV->(List FV->Prop)->Prop
 | [],R=>R []
 | c::cs,R=>qjk cs fun l=>R (.p c::l)
def VJ:Nat->List FV->List FV->(List FV->Prop)->Prop
 | 0,[],old,R=>R old
 | 0,v::vs,old,R=>match old with|[]=>False|_::old=>VJ 0 vs old fun l=>R (v::l)
 | n+1,vs,old,R=>match old with|[]=>False|a::old=>VJ n vs old fun l=>R (a::l)
def qml (v:FV) (R:List FV->Prop):Prop:=
 match v with
 | .p p=>MZ p fun cs=>qjk cs R
 | .tsl k rows=>R [.tsl k rows]
 | .mref k=>R [.mref k]
 | .ptr k o=>R [.ptr k o]
 | .clo f c=>R [.clo f c]
 | .bsl k o n c=>R [.bsl k o n c]
 | _=>False
def qi8 (P:Program) (E:Env) (g:G) (a:List Field):List (Nat×Operand)->List FV->(List FV->Prop)->Prop
 | [],cs,R=>R cs
 | (i,x)::l,cs,R=>UK i a fun f=>match P.info? f.type with
  | some ti=>evS E g x fun v=>qml v fun c=>match Nat.beq c.length ti.size with
   | true=>VJ f.offset c cs fun cs=>qi8 P E g a l cs R
   | false=>False
  | none=>False
def oo (P:Program) (E:Env) (g:G) (t:TypeId) (parts:List (Nat×Operand)) (R:FV->Prop):Prop:=
 match P.info? t with
 | some i=>match i.zero with
  | some (.agg ⟨vs⟩)=>qbu vs fun a=>qjk a fun a=>match P.underlying t with
   | some (.struct ⟨fs⟩)=>match RH P fs with
    | true=>qi8 P E g fs parts a fun cs=>R (.fagg (qol cs))
    | false=>False
   | _=>False
  | _=>False
 | none=>False
def qer:FV->(List PV->Prop)->Prop
 | .cap0,R=>R []
 | .cap a b,R=>ee a fun p=>qer b fun l=>R (p::l)
 | _,_=>False
def qaw (P:Program) (t:TypeId) (m:String) (f:FuncId):Prop:=∀ v w,(method (P.types.size+Made.depth) t v m).run P w=.ok (f,v) w
def qf2 (P:Program) (op:Op) (E:Env) (g:G) (R:FV->Prop):Prop:=
 match op with
 | .makeFunc (.func f) ⟨[]⟩ ⟨xs⟩=>match xs with
  | []=>R (.p (.fn f))
  | x::xs=>evL E g (x::xs) fun vs=>R (.clo f (qol vs))
 | .call { callee:=.value (.tmp t),args:=⟨xs⟩,argTypes:=_ }=>evS E g (.tmp t) fun a=>evL E g xs fun vs=>qa6 vs fun args=>match a with
  | .p (.fn f)=>∃ r,gI g (qb P f args r)/\R (.p r)
  | .clo f c=>qer c fun cs=>∃ r,gI g (qb P f (args++cs) r)/\R (.p r)
  | .p (.clo f cs)=>∃ r,gI g (qb P f (args++cs) r)/\R (.p r)
  | _=>False
 | .call { callee:=.invoke r m,args:=⟨xs⟩,argTypes:=_ }=>evS E g r fun b=>evL E g xs fun vs=>qa6 vs fun args=>match b with
  | .p (.ifc t v)=>∃ f r,gI g (qaw P t m f/\qb P f (v::args) r)/\R (.p r)
  | _=>False
 | _=>False
def Xo (P:Program) (op:Op) (E:Env) (g:G) (R:FV->Prop):Prop:=
 match op with
 | .move x=>match g with|none=>ev E x R|some g=>evS E (some g) x R
 | .assign x=>match g with|none=>ev E x R|some g=>evS E (some g) x R
 | .pick c a b=>evS E g c fun c=>match c with
  | .p (.bool c)=>match g with
   | none=>evS E (some c) a fun a=>evS E (some (!c)) b fun b=>match a,b with
    | .p (.bool a),.p (.bool b)=>R (.p (.bool (bif c then a else b)))
    | _,_=>False
   | some g=>evS E (some (g&&c)) a fun a=>evS E (some (g&&!c)) b fun b=>match a,b with
    | .p (.bool a),.p (.bool b)=>R (.p (.bool (bif c then a else b)))
    | _,_=>False
  | _=>False
 | .fieldAddr t x f=>evS E g x fun x=>RI P t x f R
 | .indexAddr t x i=>evS E g x fun x=>evS E g i fun i=>VF P g t x i R
 | .index t x i=>evS E g x fun x=>evS E g i fun i=>lH P g t x i R
 | .binOp op t x y _=>evS E g x fun x=>evS E g y fun y=>match x with
  | .ptr k off=>qpd P op t (.ptr k off) y R
  | .hptr row=>qpd P op t (.hptr row) y R
  | .p .nilp=>qpd P op t (.p .nilp) y R
  | x=>qmu P g op t x y R
 | .unOp .not _ x=>evS E g x fun x=>match x with|.p (.bool b)=>R (.p (.bool (!b)))|_=>False
 | .unOp .neg _ x=>evS E g x fun x=>match x with|.p (.int k n)=>R (.p (.int k (k.wrap (0 - n))))|_=>False
 | .nilCheck x=>evS E g x fun x=>match x with
  | .ptr k off=>R (.ptr k off)
  | .hptr row=>R (.hptr row)
  | .eptr k z i off=>R (.eptr k z i off)
  | _=>False
 | .slice t x lo hi mx=>evS E g x fun x=>lK P E g t x lo hi mx R
 | .buildSlice t n ⟨parts⟩=>pa P E g t n parts R
 | .build t ⟨parts⟩=>Eu E parts (oo P E g t parts R) (lF P E g t parts R)
 | .extract x i=>evS E g x fun x=>match x with
  | .p (.tup vs)=>UK i vs fun v=>R (.p v)
  | .pair a b=>match i with|0=>R a|1=>R b|_=>False
  | .nxt ok a b=>match i with|0=>R (.p (.bool ok))|1=>gI g (ok=true)/\R (.p a)|2=>gI g (ok=true)/\R (.p b)|_=>False
  | _=>False
 | .makeInterface t x=>evS E g x fun x=>ee x fun v=>match P.underlying t with
  | some (.interface _)=>False
  | some _=>R (.p (.ifc t v))
  | none=>False
 | .call { callee:=.builtin .len,args:=⟨[x]⟩,argTypes:=⟨[t]⟩ }=>evS E g x fun x=>qpc P t x R
 | .call { callee:=.value (.func f),args:=⟨xs⟩,argTypes:=_ }=>
   evL E g xs fun vs=>qa6 vs fun args=>∃ r,gI g (qb P f args r)/\R (.p r)
 | op=>qf2 P op E g R
def qqy:List FV->Bool
 | []=>false
 | .vsl _ _::_=>true
 | _::l=>qqy l
def Vh (P:Program) (t:TypeId) (lo:List AObj) (x:FV) (R:FV->Prop):Prop:=
 match x with
 | .ptr k off=>UK k lo fun o=>match o with
  | .box _ cells=>Ng off cells fun cs=>VQ P t fun agg n=>match agg with
   | true=>Lz n cs fun cs=>match qqy cs with
    | true=>R (.fagg (qol cs))
    | false=>qa6 cs fun l=>R (.p (.agg l))
   | false=>match cs with|c::_=>R c|[]=>False
  | _=>False
 | .hptr row=>VQ P t fun agg n=>match agg with
  | true=>Lz n row fun r=>R (.p (.agg r))
  | false=>match row with|c::_=>R (.p c)|[]=>False
 | _=>False
def XM:Op->Bool
 | .load _ _=>true
 | .convert _ _ _=>true
 | .lookup _ _ _ _=>true
 | _=>false
def QY:Op->Bool
 | .box _ _|.alloc _|.store _ _ _|.makeMap _ _|.mapUpdate _ _ _ _|.insert _ _ _ _|.range _ _|.next _ _=>true
 | .call { callee:=.builtin .append,.. }=>true
 | .call { callee:=.builtin .clear,.. }=>true
 | .call { callee:=.builtin .copy,.. }=>true
 | .makeSlice _ _ _=>true
 | _=>false
def qdb:FV->Bool
 | .p (.agg _)|.p (.tup _)|.top|.opt _ _|.pair _ _|.stmp _|.cap0|.cap _ _|.fagg _|.nxt _ _ _=>false
 | _=>true
def qar (P:Program) (t:TypeId) (R:List PV->Prop):Prop:=
 match P.info? t with
 | some i=>match i.zero with
  | some (.agg ⟨vs⟩)=>qbu vs R
  | some v=>qbu [v] R
  | none=>False
 | none=>False
def XI (v:FV) (R:List FV->Prop):Prop:=
 match v with
 | .p (.agg cs)=>qjk cs R
 | .fagg c=>Df c R
 | v=>match qdb v with|true=>R [v]|false=>False
def UJ:List FV->Bool
 | []=>true
 | v::l=>match qdb v with|true=>UJ l|false=>false
def RZ (x:FV) (R:List (List PV)->Prop):Prop:=
 match x with
 | .p (.sl rows)=>R rows
 | .tsl _ rows=>R rows
 | .p .nilsl=>R []
 | _=>False
def qiq:PV->PV->Bool
 | .str a,.str b=>a==b
 | .int _ a,.int _ b=>a==b
 | .bool a,.bool b=>a==b
 | _,_=>false
def Lw (k:PV):List (PV×PV)->Option PV
 | []=>none
 | (k',v)::es=>bif qiq k k' then some v else Lw k es
def qis (k v:PV):List (PV×PV)->List (PV×PV)
 | []=>[(k,v)]
 | (k',v')::es=>bif qiq k k' then(k,v)::es else(k',v')::qis k v es
def oG (a d:TypeDesc) (b:PV) (R:Prop):Prop:=
 match a,d,b with
 | .string,.string,.str _=>R
 | .bool,.bool,.bool _=>R
 | .int k,.int k',.int k'' _=>match Ht k k' with
  | true=>match Ht k k'' with
   | true=>R
   | false=>False
  | false=>False
 | _,_,_=>False
def qqw (d:TypeDesc) (R:Prop):Prop:=
 match d with
 | .string=>R
 | .bool=>R
 | .int _=>R
 | _=>False
def ql3 (P:Program) (t:TypeId) (d:TypeDesc) (a:PV) (R:TypeId->Prop):Prop:=
 match P.underlying t with
 | some (.map kt et)=>match P.underlying kt with
  | some d'=>oG d' d a (R et)
  | none=>False
 | _=>False
def ea (P:Program) (t:TypeId) (R:PV->Prop):Prop:=
 match P.info? t with
 | some i=>match i.zero with
  | some (.agg ⟨vs⟩)=>qbu vs fun l=>R (.agg l)
  | some v=>match qnc v with|some p=>R p|none=>False
  | none=>False
 | none=>False
def Um (P:Program) (g:G) (t:TypeId) (lo:List AObj) (x key:FV) (ok:Bool) (R:FV->Prop):Prop:=
 match x,key with
 | .mref k,.p kp=>UK k lo fun o=>match o with
  | .mp d es _=>ql3 P t d kp fun et=>ea P et fun z=>∃ v b,gI g ((Lw kp es).getD z=v/\(Lw kp es).isSome=b)/\R (match ok with|false=>.p v|true=>.p (.tup [v,.bool b]))
  | _=>False
 | _,_=>False
def qmx (P:Program) (t:TypeId) (lo:List AObj) (x:FV) (R:FV->Prop):Prop:=
 match x with
 | .mref k=>UK k lo fun o=>match o with
  | .mp _ es _=>match P.underlying t with
   | some (.map _ _)=>∃ n:Nat,es.length=n/\R (.p (.int .i64 n))
   | _=>False
  | _=>False
 | _=>False
def TC (P:Program) (E:Env) (lo:List AObj) (t:TypeId) (m k x:Operand) (R:FV->List AObj->Prop):Prop:=
 evS E none m fun m=>evS E none k fun k=>evS E none x fun x=>ee x fun b=>match m,k with
  | .mref j,.p kp=>UK j lo fun o=>match o with
   | .mp d es _=>ql3 P t d kp fun _=>∃ a,qis kp b es=a/\Bz j (.mp d a none) lo fun lo=>R (.p (.tup [])) lo
   | _=>False
  | _,_=>False
def qP (l:List UInt8) (i:Nat):Nat:=(Utf8.decode ⟨l.toArray⟩ i).1
def xG (l:List UInt8) (i:Nat):Nat:=i+(Utf8.decode ⟨l.toArray⟩ i).2
def qmw (P:Program) (op:Op) (E:Env) (lo:List AObj) (R:FV->List AObj->Prop):Prop:=
 match op with
 | .range t x=>evS E none x fun x=>match x with
  | .p (.str l)=>match P.underlying t with
   | some .string=>CA lo 0 fun n=>Xr lo (.sit l 0) fun lo=>R (.ptr n 0) lo
   | _=>False
  | _=>False
 | .next x true=>evS E none x fun x=>match x with
  | .ptr k 0=>UK k lo fun o=>match o with
   | .sit l pos=>∃ ok a,(decide (pos<l.length)=ok/\(bif ok then xG l pos else pos)=a)/\Bz k (.sit l a) lo fun lo=>R (.nxt ok (.int .i64 pos) (.int .i32 (qP l pos))) lo
   | _=>False
  | _=>False
 | .makeMap t none=>match P.underlying t with
  | some (.map kt _)=>match P.underlying kt with
   | some d=>qqw d (CA lo 0 fun n=>Xr lo (.mp d [] none) fun lo=>R (.mref n) lo)
   | none=>False
  | _=>False
 | .mapUpdate t m k x=>TC P E lo t m k x R
 | .insert t m k x=>TC P E lo t m k x R
 | _=>False
def TD (P:Program) (t:TypeId) (lo:List AObj) (k z i off:Nat) (x:FV) (R:FV->List AObj->Prop):Prop:=
 XI x fun vs=>qa6 vs fun d=>CA d 0 fun n=>VQ P t fun _ m=>match Nat.beq n m with
  | true=>UK k lo fun o=>match o with
   | .vec e z' rows=>∃ row,(z'=z/\rows[i]? =some row/\d.all ah=true)/\EN off d row fun f=>∃ a,rows.set i f=a/\Bz k (.vec e z' a) lo fun lo=>R (.p (.tup [])) lo
   | .bv l=>match d with
    | [.int .u8 n]=>∃ (c:UInt8) (l':List UInt8),(z=1/\off=0/\i<l.length/\n=(c.toNat:Int)/\l.set i c=l')/\Bz k (.bv l') lo fun lo=>R (.p (.tup [])) lo
    | d=>∃ l':List UInt8,(z=1/\off=0/\i=0/\l'.length=l.length/\d=l'.map fun b=>PV.int .u8 b.toNat)/\Bz k (.bv l') lo fun lo=>R (.p (.tup [])) lo
   | _=>False
  | false=>False
def qbe (P:Program) (t:TypeId) (lo:List AObj) (k z i off:Nat) (R:FV->Prop):Prop:=
 UK k lo fun o=>match o with
  | .vec _ z' rows=>∃ row,(z'=z/\rows[i]? =some row)/\Ng off row fun cs=>VQ P t fun agg n=>match agg with
   | true=>Lz n cs fun l=>R (.p (.agg l))
   | false=>match cs with|c::_=>R (.p c)|[]=>False
  | .bv l=>VQ P t fun agg _=>match agg with
   | true=>False
   | false=>∃ c:UInt8,(z=1/\off=0/\l[i]? =some c)/\R (.p (.int .u8 c.toNat))
  | _=>False
def qfv (P:Program) (src dst:TypeId) (lo:List AObj) (x:FV) (R:FV->List AObj->Prop):Prop:=
 match x with
 | .p (.str l)=>match P.underlying src with
  | some _=>match P.underlying dst with
   | some (.slice e)=>match P.underlying e with
    | some (.int .u8)=>CA lo 0 fun n=>Xr lo (.bv l) fun lo=>R (.vsl n l.length) lo
    | _=>False
   | _=>False
  | none=>False
 | _=>False
def LG (P:Program) (t:TypeId) (lo:List AObj) (b:Nat) (news:List (List PV)) (R:FV->List AObj->Prop):Prop:=
 GK P t fun e z=>match Nat.beq z 0 with
 | true=>False
 | false=>match P.info? e with
  | some i=>match i.zero with
   | some zv=>match Nat.beq zv.cells.size z with
    | true=>UK b lo fun o=>match o with
     | .vec e' z' rows=>∃ a,(rows++news=a/\e'=e/\z'=z/\(∀ r∈news,r.length=z)/\a.length * i.bytes<=140737488355328/\a.length<=9223372036854775807) /\
       Bz b .dead lo fun lo=>CA lo 0 fun k=>Xr lo (.vec e z a) fun lo=>R (.vsl k a.length) lo
     | _=>False
    | false=>False
   | none=>False
  | none=>False
def Ty (P:Program) (t:TypeId) (lo:List AObj) (R:FV->List AObj->Prop):Prop:=
 qar P t fun z=>∃ l:List UInt8,z=l.map (fun b=>PV.int .u8 b.toNat)/\CA lo 0 fun k=>Xr lo (.bv l) fun lo=>R (.eptr k 1 0 0) lo
def TA (P:Program) (E:Env) (lo:List AObj) (t:TypeId) (n:Nat) (parts:List (Nat×Operand)) (R:FV->List AObj->Prop):Prop:=
 GK P t fun e z=>pa P E none t n parts fun v=>match v with
  | .p (.sl rows)=>CA lo 0 fun k=>Xr lo (.vec e z rows) fun lo=>R (.vsl k rows.length) lo
  | _=>False
def DS:List Nat->Nat->Bool
 | [],_=>false
 | a::l,f=>match Nat.beq f a with|true=>true|false=>DS l f
def ow (P:Program) (op:Op) (E:Env) (lo:List AObj) (R:FV->List AObj->Prop):Prop:=
 match op with
 | .box t x=>evS E none x fun x=>XI x fun cs=>match UJ cs with
  | true=>CA lo 0 fun n=>Xr lo (.box t cs) fun lo=>R (.ptr n 0) lo
  | false=>False
 | .alloc t=>qar P t fun z=>qjk z fun cs=>match UJ cs with
  | true=>CA lo 0 fun n=>Xr lo (.box t cs) fun lo=>R (.ptr n 0) lo
  | false=>False
 | .store t a x=>evS E none a fun a=>evS E none x fun x=>match a with
  | .ptr k off=>XI x fun vs=>match UJ vs with
   | true=>CA vs 0 fun n=>VQ P t fun _ m=>match Nat.beq n m with
    | true=>UK k lo fun o=>match o with
     | .box bt cells=>VJ off vs cells fun cells=>Bz k (.box bt cells) lo fun lo=>R (.p (.tup [])) lo
     | _=>False
    | false=>False
   | false=>False
  | .eptr k z i off=>TD P t lo k z i off x R
  | _=>False
 | .call { callee:=.builtin .append,args:=⟨[s,x]⟩,argTypes:=⟨[t,t']⟩ }=>match Nat.beq t t' with
  | true=>evS E none s fun s=>evS E none x fun x=>RZ x fun news=>match s with
   | .vsl k0 _=>LG P t lo k0 news R
   | s=>GK P t fun e z=>match Nat.beq z 0 with
   | true=>False
   | false=>match P.info? e with
    | some i=>match i.zero with
     | some zv=>match Nat.beq zv.cells.size z with
      | true=>match s with
       | .p .nilsl=>((∀ r∈news,r.length=z)/\news.length * i.bytes<=140737488355328/\news.length<=9223372036854775807) /\
         CA lo 0 fun k=>Xr lo (.tail e z news.length) fun lo=>R (.tsl k news) lo
       | .tsl k0 rows=>((∀ r∈rows++news,r.length=z)/\(rows++news).length * i.bytes<=140737488355328/\(rows++news).length<=9223372036854775807) /\
         UK k0 lo fun o=>match o with
         | .tail e' z' n=>(e'=e/\z'=z/\n=rows.length) /\
           Bz k0 .dead lo fun lo=>CA lo 0 fun k=>Xr lo (.tail e z (rows++news).length) fun lo=>R (.tsl k (rows++news)) lo
         | _=>False
       | _=>False
      | false=>False
     | none=>False
    | none=>False
  | false=>evS E none s fun s=>evS E none x fun x=>match x with
   | .p (.str str)=>match P.underlying t' with
    | some .string=>GK P t fun e z=>match Nat.beq z 1 with
     | true=>match P.info? e with
      | some i=>match i.zero with
       | some (.int .u8 0)=>match s with
        | .p .nilsl=>((qT str).length * i.bytes<=140737488355328/\(qT str).length<=9223372036854775807) /\
          CA lo 0 fun k=>Xr lo (.tail e z (qT str).length) fun lo=>R (.tsl k (qT str)) lo
        | .tsl k0 rows=>((∀ r∈rows,r.length=1)/\(rows++qT str).length * i.bytes<=140737488355328/\(rows++qT str).length<=9223372036854775807) /\
          UK k0 lo fun o=>match o with
          | .tail e' z' n=>(e'=e/\z'=1/\n=rows.length) /\
            Bz k0 .dead lo fun lo=>CA lo 0 fun k=>Xr lo (.tail e z (rows++qT str).length) fun lo=>R (.tsl k (rows++qT str)) lo
          | _=>False
        | _=>False
       | _=>False
      | none=>False
     | false=>False
    | _=>False
   | _=>False
 | op=>qmw P op E lo R
def QX (ops:List Oper) (o:Oper) (E:Env) (R:G->Prop):Prop:=
 match o.guard with
 | none=>R none
 | some (j,want)=>UK j ops fun oj=>match oj.dst with
   | some d=>ql2 E d fun v=>match v with
    | .p (.bool b)=>match want with|true=>R (some b)|false=>R (some (!b))
    | .opt g' (.p (.bool b))=>match want with|true=>R (some (g'&&b))|false=>R (some (g'&&!b))
    | _=>False
   | none=>False
def putK (N:Nat) (d:Option Tmp) (v:FV) (E:Env) (R:Env->Prop):Prop:=
 match d with
 | some d=>match Nat.blt d N with
  | true=>qfb v fun v=>R ((d,v)::E)
  | false=>False
 | none=>R E
def mj (g:G) (v:FV):FV:=match g with|none=>v|some g=>.opt g v
def BC (P:Program) (N:Nat) (all:List Oper) (o:Oper) (E:Env) (lo:List AObj) (R:Env->List AObj->Prop):Prop:=
 QX all o E fun g=>
  match XM o.op with
  | true=>match o.op with
   | .load t x=>evS E g x fun x=>Vh P t lo x fun v=>putK N o.dst (mj g v) E fun E=>R E lo
   | .convert s d x=>evS E g x fun x=>Hs P g s d lo x fun v=>putK N o.dst (mj g v) E fun E=>R E lo
   | .lookup t x i ok=>evS E g x fun x=>evS E g i fun i=>Um P g t lo x i ok fun v=>putK N o.dst (mj g v) E fun E=>R E lo
   | _=>False
  | false=>match QY o.op with
   | true=>match g with
    | none=>ow P o.op E lo fun v lo=>putK N o.dst v E fun E=>R E lo
    | some _=>False
   | false=>Xo P o.op E g fun v=>putK N o.dst (mj g v) E fun E=>R E lo
inductive AX where
 | normal|exit (id:Nat)|ret
def eh (inl:List Nat) (d:Option Tmp):Bool:=match d with|some d=>DS inl (10000000+d)|none=>false
def lQ (inl:List Nat) (id:Nat):Bool:=DS inl (40000000+id)
def bn (inl:List Nat) (o:Oper):Bool:=
 match o.op with
 | .call { callee:=.value (.func f),args:=_,argTypes:=_ }=>DS inl f
 | .buildSlice _ _ _=>eh inl o.dst
 | .convert _ _ _=>eh inl o.dst
 | o=>QY o
def Ro:Op->Bool
 | .box _ _|.alloc _|.makeMap _ _|.buildSlice _ _ _|.makeSlice _ _ _=>true
 | .call { callee:=.builtin .append,.. }=>true
 | _=>false
def tM (inl:List Nat) (o:Oper):Bool:=match o.op with
 | .store _ (.tmp t) _=>DS inl (50000000+t)
 | .call { callee:=.value (.func f),args:=_,argTypes:=_ }=>DS inl f&&DS inl (86000000+f)
 | _=>false
def lW (inl:List Nat) (o:Oper):Bool:=Ro o.op||tM inl o
def qng (sl:List Nat) (n0 k:Nat):Bool:=match Nat.blt k n0 with
 | true=>(match DS sl (60000000+1000 * n0+k)with|true=>false|false=>true)
 | false=>false
def GW (inl:List Nat) (o:Oper):Bool:=match o.dst with
 | some d=>DS inl (70000000+d)
 | none=>false
def qes (inl:List Nat) (m:Bool) (oi oj:Oper):Bool:=bn inl oi&&(bn inl oj||XM oj.op&&!(m&&lW inl oi&&!GW inl oj))
def GR (ops:Array Oper) (i:Nat):Nat->Nat->Bool
 | 0,_=>false
 | f+1,j=>match ops[j]? with
  | some oj=>oj.after.any (fun e=>Region.binds .any e&&e.on==i)||oj.after.any (fun e=>Region.binds .any e&&GR ops i f e.on)
  | none=>false
def Region.effFree (inl:List Nat) (m:Bool) (ops:Array Oper) (listed:Array Bool) (i:Nat):Bool:=
 match ops[i]? with
 | none=>false
 | some oi=>(List.range ops.size).all fun j=>j==i||listed.getD j true||match ops[j]? with
   | some oj=>(!qes inl m oi oj&&!qes inl m oj oi)||GR ops i ops.size j
   | none=>true
def Region.effFrom (inl:List Nat) (m:Bool) (ops:Array Oper):Nat->Nat->Array Bool->Bool
 | 0,_,_=>true
 | fuel+1,k,listed=>Region.effFree inl m ops listed k&&Region.effFrom inl m ops fuel (k+1) (listed.setIfInBounds k true)
def Nf (inl:List Nat) (m:Bool) (ops:Array Oper):Bool:=Go.Region.lexB .any ops&&Region.effFrom inl m ops ops.size 0 (Array.replicate ops.size false)
end Ax
end
section
namespace Ax
open Go
def ZN (bs:Base) (ρ:List Value) (H:PH) (a:FV) (lo':List AObj) (v:Value) (w':World):Prop:=
 ∃ ρ' H',ρ <+: ρ'/\PH.le H H'/\SatW bs ρ' H' lo' w'/\zo ρ' H' a v
def eJ (P:Program) (bs:Base) (ρ:List Value) (H:PH) (a:FV) (lo':List AObj):Result Next->Prop
 | .ok (.value v) w'=>ZN bs ρ H a lo' v w'
 | .ok .skip w'=>ZN bs ρ H a lo' undef w'
 | .ok (.enter f args) w'=>Calls P f args w' fun c b=>∃ v,c=.returned v/\ZN bs ρ H a lo' v b
 | _=>False
def du (P:Program) (o:Oper) (e:Nat->FV) (lo:List AObj) (g:G) (a:FV) (lo':List AObj):Prop:=
 gOn g->∀ (bs:Base) (ρ:List Value) (H:PH) (w:World) (eval:Operand->Value),SatW bs ρ H lo w ->
  (∀ x∈o.op.operands,zo ρ H (evF e x) (eval x))->eJ P bs ρ H a lo' ((execOp eval o).run P w)
theorem cv {bs:Base} {ρ:List Value} {H:PH} {a:FV} {lo:List AObj} {v:Value} {w:World} (s:SatW bs ρ H lo w) (r:zo ρ H a v) :
  ZN bs ρ H a lo v w:=⟨ρ,H,jq _,PH.le.refl H,s,r⟩
theorem Qi {g:G} {p:Prop} (h:gI g p) (a:gOn g):p:=by
 cases g with
 | none=>exact h
 | some b=>exact h a
theorem sR:∀ (E:Env) (t:Nat) (R:FV->Prop),ql2 E t R=R (qv E t)
 | [],_,_=>rfl
 | (t',v)::E,t,R=>by
  simp only[ql2,qv];cases Nat.beq t t' with
  | true=>rfl
  | false=>exact sR E t R
theorem Zx (E:Env) (x:Operand) (R:FV->Prop):ev E x R=R (evF (qv E) x):=by
 cases x with
 | tmp t=>exact sR E t R
 | const v=>exact Dm _ _
 | global g=>rfl
 | func f=>rfl
def Str (g:G) (f v:FV):Prop:=∀ ρ H x,gOn g->zo ρ H f x->zo ρ H v x
theorem qZ {E:Env} {g:G} {x:Operand} {R:FV->Prop} (h:evS E g x R):∃ v,R v/\Str g (evF (qv E) x) v:=by
 unfold evS at h;rw[Zx]at h;generalize evF (qv E) x=f at *;cases f<;>simp only at h
 case opt g' v'=>
  refine⟨v',h.2,fun ρ H y b a=>?_⟩;have:=Qi h.1 b;simpa[zo,this]using a
 all_goals exact⟨_,h,fun _ _ _ _ a=>a⟩
theorem Dy {v:Value} {p:PV} (h:qnc v=some p) (H:PH):zn H p v:=by
 unfold qnc at h;split at h<;>(cases h)<;>simp[zn]
theorem ag (H:PH):∀ {vs:List Value} {a:List PV},qpf vs=some a->zS H a vs
 | [],a,h=>by simp only[qpf]at h; cases h; simp[zS]
 | v::vs,a,h=>by
  simp only[qpf]at h;split at h
  ·rename_i p hp
   split at h
   ·rename_i l b
    cases h;simp only[zS];exact⟨v,vs,rfl,Dy hp H,ag H b⟩
   cases h
  ·cases h
theorem qgs (v:Value) (ρ:List Value) (H:PH):zo ρ H (qp9 v) v:=by
 unfold qp9;split
 ·simp[zo,zn,zS]
 ·split
  ·rename_i h
   simp only[zo,zn];exact⟨_,rfl,ag H h⟩
  trivial
 split
 ·rename_i h; exact Dy h H
 trivial
theorem Ui {ρ:List Value} {H:PH} {e:Nat->FV} {a:Act} (h:∀ t,zo ρ H (e t) (a.tmps.getD t undef)) (x:Operand):zo ρ H (evF e x) (a.eval x):=by
 cases x with
 | tmp t=>exact h t
 | const v=>exact qgs v ρ H
 | func f=>simp[evF,zo,zn,Act.eval]
 | global g=>trivial
theorem rG {ρ:List Value} {H:PH} {b:Bool} {x:Value} (h:zo ρ H (.p (.bool b)) x):x=.bool b:=by simpa[zo,zn]using h
theorem bp {ρ:List Value} {H:PH} {k:IntKind} {n:Int} {x:Value} (h:zo ρ H (.p (.int k n)) x):x=.int k n:=by simpa[zo,zn]using h
theorem Xm {ρ:List Value} {H:PH} {l:List UInt8} {x:Value} (h:zo ρ H (.p (.str l)) x):x=.string ⟨l.toArray⟩:=by simpa[zo,zn]using h
theorem Qy {ρ:List Value} {H:PH} {b:Bool}:zo ρ H (.p (.bool b)) (.bool b):=by simp[zo,zn]
theorem Zg {ρ:List Value} {H:PH} {k:IntKind} {n:Int}:zo ρ H (.p (.int k n)) (.int k n):=by simp[zo,zn]
theorem BA {ρ:List Value} {H:PH} {l:List UInt8}:zo ρ H (.p (.str l)) (.string ⟨l.toArray⟩):=by simp[zo,zn]
theorem Qo {α:Type}:∀ {n:Nat} {l:List α} {R:List α->Prop},Lz n l R->R (l.take n)/\n<=l.length
 | 0,l,R,h=>by simpa[Lz]using h
 | n+1,[],R,h=>by simp[Lz]at h
 | n+1,a::l,R,h=>by
  have:=Qo (n:=n) (l:=l) (R:=fun l=>R (a::l)) h
  simpa using this
theorem Qh {α:Type}:∀ {n:Nat} {l:List α} {R:List α->Prop},Ng n l R->R (l.drop n)/\n<=l.length
 | 0,l,R,h=>by simpa[Ng]using h
 | n+1,[],R,h=>by simp[Ng]at h
 | n+1,a::l,R,h=>by simpa using Qh (n:=n) (l:=l) (R:=R) h
theorem xk {α:Type}:∀ {n:Nat} {l:List α} {R:α->Prop},UK n l R->∃ a,l[n]? =some a/\R a
 | 0,[],R,h=>by simp[UK]at h
 | 0,a::l,R,h=>⟨a,by simp,h⟩
 | n+1,[],R,h=>by simp[UK]at h
 | n+1,a::l,R,h=>by simpa using xk (n:=n) (l:=l) (R:=R) h
theorem fg {α:Type}:∀ {n:Nat} {x:α} {l:List α} {R:List α->Prop},Bz n x l R->R (l.set n x)/\n<l.length
 | 0,x,[],R,h=>by simp[Bz]at h
 | 0,x,a::l,R,h=>by simpa[Bz]using h
 | n+1,x,[],R,h=>by simp[Bz]at h
 | n+1,x,a::l,R,h=>by simpa using fg (n:=n) (x:=x) (l:=l) (R:=fun l=>R (a::l)) h
theorem gn {α:Type}:∀ {l:List α} {x:α} {R:List α->Prop},Xr l x R->R (l++[x])
 | [],x,R,h=>by simpa[Xr]using h
 | a::l,x,R,h=>gn (l:=l) (x:=x) (R:=fun l=>R (a::l)) h
theorem ud {α:Type}:∀ {l:List α} {n:Nat} {R:Nat->Prop},CA l n R->R (n+l.length)
 | [],n,R,h=>by simpa[CA]using h
 | a::l,n,R,h=>by
  have:=ud (l:=l) (n:=n+1) (R:=R) h;simpa[Nat.add_comm,Nat.add_left_comm,Nat.add_assoc]using this
theorem Bq {P:Program} {t f:Nat} {R:Nat->TypeId->Prop} (h:Nl P t f R) :
  ∃ b x i,P.underlying t=some (.struct b)/\b[f]? =some x/\P.info? x.type=some i/\i.size≠0/\R x.offset x.type:=by
 unfold Nl at h;split at h
 ·rename_i b hu
  obtain⟨x,c,a⟩:=xk h;split at a
  ·rename_i i d
   split at a
   ·exact a.elim
   rename_i hz;exact⟨_,x,i,hu,by simpa using c,d,fun e=>by simp[e]at hz,a⟩
  exact a.elim
 exact h.elim
theorem th {P:Program} {t:TypeId} {R:Bool->Nat->Prop} (h:VQ P t R) :
  ∃ d i,P.underlying t=some d/\P.info? t=some i/\R (qll d) i.size:=by
 unfold VQ at h;split at h
 ·rename_i d a
  split at h
  ·rename_i i b; exact⟨d,i,a,b,h⟩
  exact h.elim
 exact h.elim
theorem bm {P:Program} {t:TypeId} {R:TypeId->Nat->Prop} (h:GK P t R) :
  ∃ e i,P.underlying t=some (.slice e)/\P.info? e=some i/\R e i.size:=by
 unfold GK at h;split at h
 ·rename_i e he
  split at h
  ·rename_i i a; exact⟨e,i,he,a,h⟩
  exact h.elim
 exact h.elim
theorem qfe {v:FV} {R:PV->Prop} (h:qoi v R):∃ p,R p/\∀ ρ H x,zo ρ H v x->zn H p x:=by
 cases v<;>simp only[qoi]at h
 case p p=>exact⟨p,h,fun _ _ _ r=>r⟩
 case tsl k rows=>exact⟨_,h,fun _ _ _ r=>r.2⟩
 case hptr row=>exact⟨_,h,fun _ _ _ r=>by simp only[zo]at r; simp only[zn]; exact r⟩
theorem Ew:∀ {c:FV} {R:List PV->Prop},MY c R->∃ d,R d/\∀ (ρ:List Value) (H:PH) (vs:List Value),zo ρ H c (.tuple vs.toArray)->zS H d vs
 | .cap0,R,h=>⟨[],h,fun ρ H vs r=>by
   simp only[zo,Value.tuple.injEq]at r;simpa[zS]using r⟩
 | .cap a b,R,h=>by
  simp only[MY]at h;obtain⟨p,h,hp⟩:=qfe h;obtain⟨d,h,f⟩:=Ew h;refine⟨_,h,fun ρ H vs r=>?_⟩;obtain⟨u,us,e,g,i⟩:=r;have e:vs=u::us:=by simpa using e
  subst e;simp only[zS];exact⟨u,us,rfl,hp _ _ _ g,f _ _ _ i⟩
 | .top,_,h|.p _,_,h|.opt _ _,_,h|.tsl _ _,_,h|.ptr _ _,_,h|.hptr _,_,h|.bself _,_,h|.bsl _ _ _ _,_,h|.vsl _ _,_,h|.eptr _ _ _ _,_,h|.mref _,_,h|.pair _ _,_,h|.stmp _,_,h|.clo _ _,_,h|.fagg _,_,h|.nxt _ _ _,_,h|.asl _ _ _,_,h=>by
  simp[MY]at h
theorem tH {v:FV} {R:PV->Prop} (h:ee v R):∃ p,R p/\∀ ρ H x,zo ρ H v x->zn H p x:=by
 cases v<;>simp only[ee]at h
 case p p=>exact⟨p,h,fun _ _ _ r=>r⟩
 case tsl k rows=>exact⟨_,h,fun _ _ _ r=>r.2⟩
 case hptr row=>exact⟨_,h,fun _ _ _ r=>by simp only[zo]at r; simp only[zn]; exact r⟩
 case clo f c=>
  obtain⟨b,h,a⟩:=Ew h;exact⟨_,h,fun ρ H x r=>by obtain⟨vs,e,rc⟩:=r; simp only[zn]; exact⟨vs,e,a _ _ _ rc⟩⟩
theorem Xj:∀ {l:List FV} {R:List PV->Prop},qa6 l R->∃ a,R a/\∀ ρ H vs,xL ρ H l vs->zS H a vs
 | [],R,h=>⟨[],h,fun _ _ vs r=>by simpa[zS,xL]using r⟩
 | v::l,R,h=>by
  simp only[qa6]at h;obtain⟨p,h1,h2⟩:=tH h;obtain⟨a,h3,h4⟩:=Xj h1;refine⟨_,h3,fun ρ H vs r=>?_⟩;obtain⟨x,b,e,c,d⟩:=r;simp only[zS];exact⟨x,b,e,h2 _ _ _ c,h4 _ _ _ d⟩
theorem XL {E:Env} {g:G}:∀ {l:List Operand} {R:List FV->Prop},evL E g l R ->
  ∃ vs,R vs/\∀ ρ H (eval:Operand->Value),gOn g->(∀ x∈l,zo ρ H (evF (qv E) x) (eval x))->xL ρ H vs (l.map eval)
 | [],R,h=>⟨[],h,fun _ _ _ _ _=>by simp[xL]⟩
 | x::l,R,h=>by
  simp only[evL]at h;obtain⟨v,h1,h2⟩:=qZ h;obtain⟨vs,h3,h4⟩:=XL h1;refine⟨_,h3,fun ρ H eval a b=>?_⟩;simp only[jk,xL];exact⟨_,_,rfl,h2 _ _ _ a (b x (by simp)),h4 _ _ _ a (fun y c=>b y (by simp[c]))⟩
theorem XX (l:List UInt8):(⟨l.toArray⟩:ByteArray).size=l.length:=ByteArray.size_mk_toArray l
section
variable {P:Program} {bs:Base} {ρ:List Value} {H:PH} {lo:List AObj} {w:World}
theorem Ly {t:TypeId} (hu:P.underlying t=some .bool) (n:Nat) (a b:Bool):(Op.equalIn (n+1) t (.bool a) (.bool b)).run P w=.ok (a==b) w:=by
 simp[Op.equalIn,kru hu]
theorem Rs {t:TypeId} (hu:P.underlying t=some .bool) (a b:Bool):(Op.equal t (.bool a) (.bool b)).run P w=.ok (a==b) w:=
 Ly hu 9999 a b
theorem aA {t:TypeId} {d:TypeDesc} (hu:P.underlying t=some d):(isAgg t).run P w=.ok (qll d) w:=by
 simp only[isAgg,kc,kru hu,kb];cases d<;>rfl
theorem qfu {g:G} {op:BinOp} {t:TypeId} {x y:FV} {R:FV->Prop} (h:qmu P g op t x y R) :
  ∃ q,R q/\(gOn g->∀ (ρ:List Value) (H:PH) (w:World) (i j:Operand) (a b:Value),zo ρ H x a->zo ρ H y b ->
   ∃ v,(do eqGuard op t i j a b; binOp op t a b:Sem Value).run P w=.ok v w/\zo ρ H q v):=by
 unfold qmu at h;split at h
 ·rename_i k n
  split at h
  ·rename_i k' m
   split at h
   ·refine⟨_,h.2,fun f ρ H w i j a b c d=>?_⟩
    rw[bp c,bp d];have o:=Qi h.1 f;exact⟨_,by simp[eqGuard,binOp,Op.shift,show ¬ m<0 by omega],Zg⟩
   ·split at h
    case h_2=>exact h.elim
    rename_i e;have e:=Qj e;obtain⟨o,h⟩:=h;refine⟨_,h,fun f ρ H w i j a b c d=>?_⟩;rw[bp c,bp d];have o:=Qi o f;exact⟨_,by simp[eqGuard,binOp,Op.intDiv,e,o],Zg⟩
   ·split at h
    case h_2=>exact h.elim
    rename_i e;have e:=Qj e;obtain⟨o,h⟩:=h;refine⟨_,h,fun f ρ H w i j a b c d=>?_⟩;rw[bp c,bp d];have o:=Qi o f;exact⟨_,by simp[eqGuard,binOp,Op.intDiv,e,o],Zg⟩
   split at h
   case h_2=>exact h.elim
   rename_i e;have e:=Qj e;subst e;unfold qqq at h;split at h<;>first
    | exact h.elim
    | (refine⟨_,h,fun f ρ H w i j a b c d=>?_⟩; rw[bp c,bp d]; exact⟨_,by simp[eqGuard,binOp,Op.intArith,Op.intBits,Op.intCmp]<;>rfl,by simp[zo,zn]⟩)
  ·exact h.elim
 ·rename_i l
  split at h
  ·rename_i m
   unfold qqr at h;split at h
   ·obtain⟨p,h⟩:=h
    refine⟨_,h,fun f ρ H w i j a b c d=>?_⟩;rw[Xm c,Xm d];have p:=Qi p f;refine⟨.string ⟨(l++m).toArray⟩,?_,BA⟩;have:=run_string_add_sum (P:=P) w ⟨l.toArray⟩ ⟨m.toArray⟩ (by rw[XX,XX]; unfold xr at p; omega);simp[eqGuard,binOp,this,ByteArray.mk_append_mk]
   all_goals first
    | exact h.elim
    | (refine⟨_,h,fun f ρ H w i j a b c d=>?_⟩; rw[Xm c,Xm d]; exact⟨_,by simp[eqGuard,binOp,Op.stringOp]<;>rfl,by simp[zo,zn]⟩)
  ·exact h.elim
 ·rename_i r
  split at h
  ·rename_i s
   unfold om at h;split at h
   ·rename_i hu
    unfold qqp at h;split at h<;>first
     | exact h.elim
     | (refine⟨_,h,fun f ρ H w i j a b c d=>?_⟩; rw[rG c,rG d]; exact⟨_,by simp only[eqGuard,binOp,kc,Rs hu]; rfl,by simp[zo,zn]⟩)
   ·exact h.elim
  exact h.elim
 exact h.elim
theorem oz {t:TypeId} {x:FV} {f:Nat} {R:FV->Prop} (h:RI P t x f R) :
  ∃ p,R p/\∀ (ρ:List Value) (H:PH) (w:World) (a:Value),zo ρ H x a->∃ v,(Instr.fieldAt t a f).run P w=.ok v w/\zo ρ H p v:=by
 unfold RI at h;split at h
 ·rename_i k off
  obtain⟨r,y,i,hu,e,g,hz,d⟩:=Bq h;refine⟨_,d,fun ρ H w a l=>?_⟩;obtain⟨b,m,rfl⟩:=l;exact⟨.pointer (some ⟨b,off+y.offset,none⟩),by simp[Instr.fieldAt,kru hu,e,Instr.sureAddr,fieldPlace,Go.sizeOf,typeInfo,g,hz,Addr.add_lit],b,m,rfl⟩
 ·rename_i row
  obtain⟨r,y,i,hu,e,g,hz,d⟩:=Bq h;obtain⟨d,hlen⟩:=Qh d;refine⟨_,d,fun ρ H w a l=>?_⟩;obtain⟨b,o,vs,rfl,q,c⟩:=l;refine⟨.pointer (some ⟨b,o+y.offset,none⟩),by simp[Instr.fieldAt,kru hu,e,Instr.sureAddr,fieldPlace,Go.sizeOf,typeInfo,g,hz,Addr.add_lit],b,o+y.offset,vs.drop y.offset,rfl,q.drop _,fun j v s=>?_⟩;rw[jD]at s;have:=c _ _ s
  rwa [← Nat.add_assoc]at this
 ·rename_i k z u off
  obtain⟨r,y,i,hu,e,g,hz,d⟩:=Bq h;refine⟨_,d,fun ρ H w a l=>?_⟩;obtain⟨b,n,cap,m,rfl⟩:=l;exact⟨.pointer (some ⟨b,u * z+off+y.offset,none⟩),by simp[Instr.fieldAt,kru hu,e,Instr.sureAddr,fieldPlace,Go.sizeOf,typeInfo,g,hz,Addr.add_lit],b,n,cap,m,by rw[Nat.add_assoc]⟩
 exact h.elim
theorem Hp {ρ:List Value} {H:PH} {w:World} {t e:TypeId} {f:TypeInfo} (hu:P.underlying t=some (.slice e)) (j:P.info? e=some f) {rows:List (List PV)} {a:Value} (h:zn H (.sl rows) a)
  {k:IntKind} {i:Int} {row:List PV} (l:0<=i) (d:rows[i.toNat]? =some row) (hlen:row.length=f.size) :
  ∃ v,(Instr.indexAt t a (.int k i)).run P w=.ok v w/\zo ρ H (.hptr row) v:=by
 simp only[zn]at h;rcases h with ⟨rfl,_⟩|⟨b,o,z,cap,rfl,m,rr⟩
 ·simp at d
 obtain⟨hz,vs,q,c⟩:=rr.get d;have g:i<rows.length:=by have:=(jG.1 d).1; omega
 refine⟨.pointer (some ⟨b,o+i.toNat * f.size,none⟩),?_,b,_,vs,rfl,q,?_⟩
 ·simp[Instr.indexAt,kru hu,asIntOf,l,g,Go.sizeOf,typeInfo,j,Addr.add_lit]
 rw[← hlen,hz]; exact c
theorem Nt {g:G} {t:TypeId} {x i:FV} {R:FV->Prop} (h:VF P g t x i R) :
  ∃ y,R y/\(gOn g->∀ (ρ:List Value) (H:PH) (w:World) (a b:Value),zo ρ H x a->zo ρ H i b->∃ v,(Instr.indexAt t a b).run P w=.ok v w/\zo ρ H y v):=by
 unfold VF at h;split at h
 ·obtain⟨e,p,hu,c,row,d,f⟩:=bm h
  refine⟨_,f,fun l ρ H w a b m o=>?_⟩;obtain⟨r,h1,h2⟩:=Qi d l;rw[bp o];exact Hp hu c m r h1 h2
 ·obtain⟨e,p,hu,c,row,d,f⟩:=bm h
  refine⟨_,f,fun l ρ H w a b m o=>?_⟩;obtain⟨r,h1,h2⟩:=Qi d l;rw[bp o];exact Hp hu c m.2 r h1 h2
 ·rename_i k n A i0
  obtain⟨e,p,hu,c,j,s,f⟩:=bm h;refine⟨_,f,fun l ρ H w a b m o=>?_⟩;obtain⟨rfl,u⟩:=Qi s l;obtain⟨d,⟨r,_⟩|⟨q,cap,rfl⟩⟩:=m
  ·omega
  rw[bp o];refine⟨.pointer (some ⟨q,j * p.size,none⟩),?_,q,n,cap,d,by rw[Nat.add_zero]⟩;simp[Instr.indexAt,kru hu,asIntOf,u,Go.sizeOf,typeInfo,c,Addr.add_lit]
 ·rename_i k z A i0
  split at h
  ·rename_i len e hu
   split at h
   ·rename_i p c
    split at h
    ·rename_i hz
     have hz:p.size=1:=jm hz;obtain⟨j,s,f⟩:=h;refine⟨_,f,fun l ρ H w a b m o=>?_⟩;obtain⟨rfl,rfl,u⟩:=Qi s l;obtain⟨q,n,cap,d,rfl⟩:=m;rw[bp o];refine⟨.pointer (some ⟨q,j,none⟩),?_,q,n,cap,d,by simp⟩;simp[Instr.indexAt,kru hu,asIntOf,Instr.sureAddr,u,Go.sizeOf,typeInfo,c,hz,Addr.add_lit]
    exact h.elim
   exact h.elim
  exact h.elim
 exact h.elim
theorem oA {g:G} {t:TypeId} {x i:FV} {R:FV->Prop} (h:lH P g t x i R) :
  ∃ d,R d/\(gOn g->∀ (ρ:List Value) (H:PH) (w:World) (a b:Value),zo ρ H x a->zo ρ H i b->∃ v,(Instr.index t a b).run P w=.ok v w/\zo ρ H d v):=by
 unfold lH at h;split at h
 ·rename_i l k n
  split at h
  ·rename_i hu
   obtain⟨b,e,f⟩:=h;refine⟨_,f,fun j ρ H w x y m o=>?_⟩;obtain⟨p,h1⟩:=Qi e j;rw[Xm m,bp o];refine⟨_,?_,Zg⟩;have c:=(jG.1 h1).1;have q:(⟨l.toArray⟩:ByteArray)[n.toNat]? =some b:=by
    rw[ByteArray.getElem?_lt' _ _ (by rw[XX]; exact c)];have:=(jG.1 h1).2;rw[← this];rfl
   simp[Instr.index,asIntOf,kru hu,p,q]
  exact h.elim
 exact h.elim
theorem qfy {t:TypeId} {x:FV} {R:FV->Prop} (h:qpc P t x R) :
  ∃ d,R d/\∀ (ρ:List Value) (H:PH) (w:World) (ty:TypeId) (a:Value),zo ρ H x a->∃ v,(Builtin.len_ #[t] ty #[a]).run P w=.ok v w/\zo ρ H d v:=by
 have slice:∀ (e:TypeId),P.underlying t=some (.slice e)->∀ (rows:List (List PV)) (H:PH) (w:World) (ty:TypeId) (a:Value),zn H (.sl rows) a->(Builtin.len_ #[t] ty #[a]).run P w=.ok (.int .i64 rows.length) w:=by
  intro e hu rows H w ty a c;simp only[zn]at c;rcases c with ⟨rfl,rfl|⟨g,f,rfl⟩⟩|⟨b,o,z,cap,rfl,_,_⟩
  ·simp[Builtin.len_,kru hu,goInt]
  ·simp[Builtin.len_,kru hu,goInt]
  simp[Builtin.len_,kru hu,goInt]
 unfold qpc at h;split at h
 ·rename_i l
  split at h
  ·rename_i hu
   refine⟨_,h,fun ρ H w ty a c=>⟨.int .i64 l.length,?_,Zg⟩⟩;rw[Xm c];simp[Builtin.len_,kru hu,goInt,XX]
  exact h.elim
 ·rename_i rows
  split at h
  ·rename_i e hu
   exact⟨_,h,fun ρ H w ty a c=>⟨_,slice e hu rows H w ty a c,Zg⟩⟩
  exact h.elim
 ·rename_i k rows
  split at h
  ·rename_i e hu
   exact⟨_,h,fun ρ H w ty a c=>⟨_,slice e hu rows H w ty a c.2,Zg⟩⟩
  exact h.elim
 ·rename_i k n
  split at h
  ·rename_i e hu
   refine⟨_,h,fun ρ H w ty a c=>⟨.int .i64 n,?_,Zg⟩⟩;obtain⟨_,⟨rfl,rfl⟩|⟨b,cap,rfl⟩⟩:=c<;>simp[Builtin.len_,kru hu,goInt]
  exact h.elim
 ·split at h
  ·rename_i e hu
   refine⟨_,h,fun ρ H w ty a c=>⟨.int .i64 0,?_,Zg⟩⟩;simp only[zo,zn]at c;subst c;simp[Builtin.len_,kru hu,goInt]
  exact h.elim
 exact h.elim
theorem TB {s d:TypeId} {x:FV} {R:FV->Prop} (h:Dq P s d x R) :
  ∃ b,R b/\∀ (ρ:List Value) (H:PH) (w:World) (a:Value),zo ρ H x a->∃ v,(convert s d a).run P w=.ok v w/\zo ρ H b v:=by
 unfold Dq at h;split at h
 ·split at h
  ·rename_i hu
   split at h
   ·rename_i k c
    refine⟨_,h,fun ρ H w a e=>⟨_,?_,Zg⟩⟩;rw[bp e];simp[convert,kru hu,kru c,Conv.intToInt]
   exact h.elim
  exact h.elim
 exact h.elim
theorem nX {E:Env} {g:G} {x:Option Operand} {d:Nat} {R:Nat->Prop} (h:GG E g x d R) :
  ∃ n,R n/\(∀ (ρ:List Value) (H:PH) (eval:Operand->Value),gOn g->(∀ y∈x.toArray,zo ρ H (evF (qv E) y) (eval y))->(x=none/\n=d)\/∃ y k,x=some y/\eval y=.int k n):=by
 unfold GG at h;split at h
 ·exact⟨d,h,fun _ _ _ _ _=>.inl ⟨rfl,rfl⟩⟩
 rename_i y;obtain⟨v,h,b⟩:=qZ h;split at h
 ·rename_i k i
  obtain⟨n,c,e⟩:=h;refine⟨n,e,fun ρ H eval a f=>.inr ⟨y,k,rfl,?_⟩⟩;rw[bp (b ρ H _ a (f y (by simp))),Qi c a]
 exact h.elim
theorem VN {isSlice:Bool} {len cap:Nat} {lo b:Option Operand} {eval:Operand->Value} {a h:Nat} (c:(lo=none/\a=0)\/∃ y k,lo=some y/\eval y=.int k a)
  (d:(b=none/\h=len)\/∃ y k,b=some y/\eval y=.int k h) (h1:a<=h) (h2:h<=cap) :
  (Instr.sliceBounds isSlice len cap (lo.map eval) (b.map eval) none).run P w=.ok (a,h,cap) w:=by
 rcases c with ⟨rfl,rfl⟩|⟨y,k,rfl,f⟩<;>rcases d with ⟨rfl,rfl⟩|⟨g,k',rfl,e⟩ <;>
  simp[Instr.sliceBounds,Instr.sliceBound,asIntOf, *,jU]
theorem oE {E:Env} {g:G} {t:TypeId} {x:FV} {lo j K:Option Operand} {R:FV->Prop} (h:lK P E g t x lo j K R) :
  ∃ L,R L/\(∀ (ρ:List Value) (H:PH) (w:World) (eval:Operand->Value) (v:Value),gOn g->zo ρ H x v->(∀ y∈lo.toArray,zo ρ H (evF (qv E) y) (eval y))->(∀ y∈j.toArray,zo ρ H (evF (qv E) y) (eval y)) ->
   K=none/\∃ u,(Instr.sliceAt t v (lo.map eval) (j.map eval) none).run P w=.ok u w/\zo ρ H L u):=by
 have rowsCase:∀ (e:TypeId) (i:TypeInfo) (rows:List (List PV)) (a h:Nat),P.underlying t=some (.slice e)->P.info? e=some i->(a<=h/\h<=rows.length/\∀ r∈rows,r.length=i.size) ->
   ∀ (H:PH) (w:World) (eval:Operand->Value) (v:Value),zn H (.sl rows) v->((lo=none/\a=0)\/∃ y k,lo=some y/\eval y=.int k a)->((j=none/\h=rows.length)\/∃ y k,j=some y/\eval y=.int k h) ->
   ∃ u,(Instr.sliceAt t v (lo.map eval) (j.map eval) none).run P w=.ok u w/\zn H (.sl ((rows.take h).drop a)) u:=by
  intro e i rows a h hu j D H w eval v A c d;obtain⟨h1,h2,h3⟩:=D;simp only[zn]at A ⊢;rcases A with ⟨rfl,rfl|⟨M,m,rfl⟩⟩|⟨b,o,z,cap,rfl,Q,rr⟩
  rotate_left
  ·have F:h=0:=by simpa using h2
   subst F;have I:a=0:=by omega
   subst I;have:=VN (P:=P) (w:=w) (isSlice:=true) (len:=0) (cap:=m) c (by simpa using d) (jw 0) (jS _);by_cases f:m=0
   ·subst f
    refine⟨.slice (some M) 0 0,?_,.inl ⟨by simp,.inr ⟨_,_,rfl⟩⟩⟩;simp[Instr.sliceAt,Instr.slice,kru hu,this,Go.sizeOf,typeInfo,j]
   refine⟨.slice (some (M.add 0)) 0 m,?_,.inl ⟨by simp,.inr ⟨_,_,rfl⟩⟩⟩;simp[Instr.sliceAt,Instr.slice,kru hu,this,Go.sizeOf,typeInfo,j,f]
  rotate_right
  ·have F:h=0:=by simpa using h2
   subst F;have I:a=0:=by omega
   subst I;have:=VN (P:=P) (w:=w) (isSlice:=true) (len:=0) (cap:=0) c (by simpa using d) (jw 0) (jw 0);refine⟨.slice none 0 0,?_,.inl ⟨by simp,.inl rfl⟩⟩;simp[Instr.sliceAt,Instr.slice,kru hu,this,Go.sizeOf,typeInfo,j]
  have:=VN (P:=P) (w:=w) (isSlice:=true) (len:=rows.length) (cap:=cap) c d h1 (by omega);have hlen:((rows.take h).drop a).length=h - a:=by simp; omega
  by_cases f:cap=a
  ·have J:h=a:=by omega
   subst J;refine⟨.slice (some ⟨b,o,none⟩) 0 0,?_,.inr ⟨b,o,z,0,?_,?_,?_⟩⟩
   ·subst f
    simp[Instr.sliceAt,Instr.slice,kru hu,this,Go.sizeOf,typeInfo,j]
   ·rw[hlen]; simp
   ·rw[hlen]; simp
   have e0:(rows.take h).drop h=[]:=by
    apply jI;rw[hlen];omega
   rw[e0];simp[Qg]
  refine⟨.slice (some ⟨b,o+a * i.size,none⟩) (h - a) (cap - a),?_,.inr ⟨b,o+a * i.size,z,cap - a,by rw[hlen],by rw[hlen]; omega,?_⟩⟩
  ·simp[Instr.sliceAt,Instr.slice,kru hu,this,Go.sizeOf,typeInfo,j,f,Addr.add_lit]
  have hz:rows=[]\/z=i.size:=by
   cases rows with
   | nil=>exact .inl rfl
   | cons r rs=>
    simp only[Qg]at rr;exact .inr (by rw[← rr.1]; exact h3 r (by simp))
  rcases hz with hz|hz
  ·subst hz; simp[Qg]
  rw[← hz]; exact(rr.take h).drop a
 unfold lK at h;split at h
 ·exact h.elim
 split at h
 ·rename_i l
  split at h
  ·rename_i hu
   obtain⟨C,h,p⟩:=nX h;obtain⟨B,h,q⟩:=nX h;refine⟨_,h.2,fun ρ H w eval v s A c d=>⟨rfl,?_⟩⟩;obtain⟨h1,h2⟩:=Qi h.1 s;rw[Xm A];have:=VN (P:=P) (w:=w) (isSlice:=false) (len:=l.length) (cap:=l.length) (q ρ H eval s c) (p ρ H eval s d) h1 h2;refine⟨.string ⟨((l.take C).drop B).toArray⟩,?_,BA⟩;simp[Instr.sliceAt,Instr.slice,kru hu,XX,this,ByteArray.extract_mk,List.drop_take]
  exact h.elim
 ·rename_i rows
  split at h
  ·rename_i e hu
   split at h
   ·rename_i i j
    obtain⟨C,h,p⟩:=nX h;obtain⟨B,h,q⟩:=nX h;refine⟨_,h.2,fun ρ H w eval v s A c d=>⟨rfl,?_⟩⟩;exact rowsCase e i rows B C hu j (Qi h.1 s) H w eval v A (q ρ H eval s c) (p ρ H eval s d)
   exact h.elim
  exact h.elim
 ·rename_i k rows
  split at h
  ·rename_i e hu
   split at h
   ·rename_i i j
    obtain⟨C,h,p⟩:=nX h;obtain⟨B,h,q⟩:=nX h;refine⟨_,h.2,fun ρ H w eval v s A c d=>⟨rfl,?_⟩⟩;exact rowsCase e i rows B C hu j (Qi h.1 s) H w eval v A.2 (q ρ H eval s c) (p ρ H eval s d)
   exact h.elim
  exact h.elim
 ·rename_i k z
  split at h
  ·rename_i n e hu
   split at h
   ·rename_i i j
    split at h
    ·rename_i hz
     have hz:i.size=1:=jm hz;obtain⟨C,h,p⟩:=nX h;obtain⟨B,h,q⟩:=nX h;refine⟨_,h.2,fun ρ H w eval v s A c d=>⟨rfl,?_⟩⟩;obtain⟨rfl,h1,h2,h3⟩:=Qi h.1 s;obtain⟨b,N,m,O,rfl⟩:=A;have:=VN (P:=P) (w:=w) (isSlice:=false) (len:=n) (cap:=n) (q ρ H eval s c) (p ρ H eval s d) h1 h2;have f:¬ n=B:=by omega
     refine⟨.slice (some ⟨b,B,none⟩) (C - B) (n - B),?_,b,N,m,_,O,rfl⟩;simp[Instr.sliceAt,Instr.sureAddr,kru hu,this,Go.sizeOf,typeInfo,j,hz,f,Addr.add_lit]
    exact h.elim
   exact h.elim
  exact h.elim
 exact h.elim
theorem GI {w:World} {b:Nat} {vs:List Value} {t:TypeId} {a:Nat×Nat} (d:w.heap[b]? =some (.cells vs.toArray t a)) (off:Nat) :
  ∀ j v,(vs.drop off)[j]? =some v->w.cell? ⟨b,off+j,none⟩=some v:=fun j v c=>by
 rw[cell_of_row w b (off+j) _ t a d];rw[jD]at c;simpa using c
end
end Ax
end
section
namespace Ax
open Go
section
variable {P:Program}
theorem qa4 (off:Nat):∀ (l:List Value) (k:Nat) (cs:Array Value),off+k+l.length<=cs.size ->
  ((l.zipIdx k).foldl (fun(cs:Array Value) (x:Value×Nat)=>cs.setIfInBounds (off+x.2) x.1) cs).toList=cs.toList.take (off+k)++l++cs.toList.drop (off+k+l.length)
 | [],k,cs,_=>by simp
 | c::l,k,cs,h=>by
  simp only[ja]at h;rw[List.zipIdx_cons,List.foldl_cons,qa4 off l (k+1) _ (by simp; omega)];simp only[Array.toList_setIfInBounds,ja];have e:off+(k+1)=off+k+1:=by omega
  rw[e,List.take_add_one,List.getElem?_set_self (by simpa using(by omega:off+k<cs.size)),List.take_set_of_le (jw _),List.drop_set_of_lt (by omega)];have e2:off+k+1+l.length=off+k+(l.length+1):=by omega
  rw[e2];simp
theorem Tu (off:Nat) (v:Value) (cs:Array Value) (h:off+v.cells.size<=cs.size) :
  (v.cells.zipIdx.foldl (fun(cs:Array Value) (x:Value×Nat)=>cs.setIfInBounds (off+x.2) x.1) cs).toList=cs.toList.take off++v.cells.toList++cs.toList.drop (off+v.cells.size):=by
 rw[← Array.foldl_toList,Array.toList_zipIdx];have:=qa4 off v.cells.toList 0 cs (by simpa using h);simpa using this
theorem Ql {ρ:List Value} {H:PH} {f:FV} {x:Value} (h:qdb f=true) (r:zo ρ H f x):x.cells = #[x]/\x.oneCell'=true:=by
 cases f with
 | p p=>
  cases p<;>simp[qdb]at h<;>simp only[zo,zn]at r
  case sl rows=>
   rcases r with ⟨_,rfl|⟨_,_,rfl⟩⟩|⟨b,o,z,cap,rfl,_⟩<;>exact⟨rfl,rfl⟩
  case ifc t p=>
   obtain⟨u,rfl,_⟩:=r;exact⟨rfl,rfl⟩
  case hp row=>obtain⟨b,o,vs,rfl,_⟩:=r; exact⟨rfl,rfl⟩
  case clo f cs=>obtain⟨vs,rfl,_⟩:=r; exact⟨rfl,rfl⟩
  case bfn f cs=>obtain⟨vs,rfl,_⟩:=r; exact⟨rfl,rfl⟩
  case ifo n t p=>rcases r with ⟨_,rfl⟩|⟨_,u,rfl,_⟩<;>exact⟨rfl,rfl⟩
  all_goals (subst r; exact⟨rfl,rfl⟩)
 | top=>simp[qdb]at h
 | opt g v=>simp[qdb]at h
 | tsl k rows=>
  have:=r.2;simp only[zn]at this;rcases this with ⟨_,rfl|⟨_,_,rfl⟩⟩|⟨b,o,z,cap,rfl,_⟩<;>exact⟨rfl,rfl⟩
 | ptr k off=>
  obtain⟨b,_,rfl⟩:=r;exact⟨rfl,rfl⟩
 | hptr row=>
  obtain⟨b,o,vs,rfl,_⟩:=r;exact⟨rfl,rfl⟩
 | bself k=>
  obtain⟨b,_,rfl|rfl⟩:=r<;>exact⟨rfl,rfl⟩
 | bsl k off len cap=>
  obtain⟨b,_,c,rfl,_⟩:=r;exact⟨rfl,rfl⟩
 | vsl k n=>
  obtain⟨_,⟨_,rfl⟩|⟨b,cap,rfl⟩⟩:=r<;>exact⟨rfl,rfl⟩
 | eptr k z i off=>
  obtain⟨b,n,cap,_,rfl⟩:=r;exact⟨rfl,rfl⟩
 | mref k=>
  obtain⟨b,_,rfl⟩:=r;exact⟨rfl,rfl⟩
 | pair a b=>simp[qdb]at h
 | stmp k=>simp[qdb]at h
 | cap0=>simp[qdb]at h
 | cap a b=>simp[qdb]at h
 | fagg c=>simp[qdb]at h
 | nxt ok a b=>simp[qdb]at h
 | asl k off n=>
  obtain⟨b,_,_,_,_,rfl⟩:=r;exact⟨rfl,rfl⟩
 | clo f c=>
  obtain⟨vs,rfl,_⟩:=r;exact⟨rfl,rfl⟩
theorem GM:∀ {cs:List PV} {R:List FV->Prop},qjk cs R->R (cs.map .p)
 | [],R,h=>h
 | c::cs,R,h=>by simpa using GM (cs:=cs) (R:=fun l=>R (.p c::l)) h
theorem ZJ:∀ {off:Nat} {vs old:List FV} {R:List FV->Prop},VJ off vs old R->R (old.take off++vs++old.drop (off+vs.length))/\off+vs.length<=old.length
 | 0,[],old,R,h=>by simpa[VJ]using h
 | 0,v::vs,[],R,h=>by simp[VJ]at h
 | 0,v::vs,a::old,R,h=>by
  simp only[VJ]at h;have:=ZJ (off:=0) h;simpa using this
 | off+1,vs,[],R,h=>by cases vs<;>simp[VJ]at h
 | off+1,vs,a::old,R,h=>by
  have b:VJ off vs old fun l=>R (a::l):=by cases vs<;>simpa[VJ]using h
  have:=ZJ b;have e:off+1+vs.length=(off+vs.length)+1:=by omega
  rw[e];simpa using this
theorem xL.append {ρ:List Value} {H:PH}:∀ {cs a:List FV} {vs us:List Value},xL ρ H cs vs->xL ρ H a us->xL ρ H (cs++a) (vs++us)
 | [],_,vs,_,x,y=>by simp only[xL]at x; simpa[x]using y
 | c::cs,a,vs,us,x,y=>by
  obtain⟨v,b,rfl,r,rs⟩:=x;exact⟨v,_,rfl,r,rs.append y⟩
theorem Fq:∀ {off:Nat} {vs old:List PV} {R:List PV->Prop},EN off vs old R->R (old.take off++vs++old.drop (off+vs.length))/\off+vs.length<=old.length
 | 0,[],old,R,h=>by simpa[EN]using h
 | 0,v::vs,[],R,h=>by simp[EN]at h
 | 0,v::vs,a::old,R,h=>by
  simp only[EN]at h;have:=Fq (off:=0) h;simpa using this
 | off+1,vs,[],R,h=>by cases vs<;>simp[EN]at h
 | off+1,vs,a::old,R,h=>by
  have b:EN off vs old fun l=>R (a::l):=by cases vs<;>simpa[EN]using h
  have:=Fq b;have e:off+1+vs.length=(off+vs.length)+1:=by omega
  rw[e];simpa using this
theorem Bn {p:PV} {R:List PV->Prop} (h:MZ p R):∃ c,R c/\∀ (H:PH) (x:Value),zn H p x->zS H c x.cells.toList:=by
 unfold MZ at h;split at h
 ·rename_i cs
  refine⟨cs,h,fun H x r=>?_⟩;simp only[zn]at r;obtain⟨vs,rfl,q⟩:=r;simpa[Value.cells]using q
 ·exact h.elim
 rename_i h1 h2;refine⟨[p],h,fun H x r=>?_⟩;have a:x.cells = #[x]:=by
  cases p<;>simp only[zn]at r
  case agg cs=>exact absurd rfl (h1 cs)
  case tup cs=>exact absurd rfl (h2 cs)
  case sl rows=>rcases r with ⟨_,rfl|⟨_,_,rfl⟩⟩|⟨_,_,_,_,rfl,_⟩<;>rfl
  case ifc t p=>obtain⟨_,rfl,_⟩:=r; rfl
  case hp row=>obtain⟨b,o,vs,rfl,_⟩:=r; rfl
  case clo f cs=>obtain⟨vs,rfl,_⟩:=r; rfl
  case bfn f cs=>obtain⟨vs,rfl,_⟩:=r; rfl
  case ifo n t p=>rcases r with ⟨_,rfl⟩|⟨_,u,rfl,_⟩<;>rfl
  all_goals (subst r; rfl)
 rw[a];simp only[zS];exact⟨x,[],rfl,r,rfl⟩
theorem NH {H:PH} {p:PV} {x:Value} (h:ah p=true) (r:zn H p x):x.oneCell'=true/\x.cells = #[x]:=by
 cases p<;>simp only[zn]at r
 case agg cs=>simp[ah]at h
 case tup cs=>simp[ah]at h
 case sl rows=>rcases r with ⟨_,rfl|⟨_,_,rfl⟩⟩|⟨_,_,_,_,rfl,_⟩<;>exact⟨rfl,rfl⟩
 case ifc t p=>obtain⟨_,rfl,_⟩:=r; exact⟨rfl,rfl⟩
 case hp row=>obtain⟨b,o,vs,rfl,_⟩:=r; exact⟨rfl,rfl⟩
 case clo f cs=>obtain⟨vs,rfl,_⟩:=r; exact⟨rfl,rfl⟩
 case bfn f cs=>obtain⟨vs,rfl,_⟩:=r; exact⟨rfl,rfl⟩
 case ifo n t p=>rcases r with ⟨_,rfl⟩|⟨_,u,rfl,_⟩<;>exact⟨rfl,rfl⟩
 all_goals (subst r; exact⟨rfl,rfl⟩)
theorem zS.one {H:PH}:∀ {cs:List PV} {vs:List Value},(∀ c∈cs,ah c=true)->zS H cs vs->∀ u∈vs,u.oneCell'=true
 | [],vs,_,r,u,hu=>by simp only[zS]at r; simp[r]at hu
 | c::cs,vs,h,r,u,hu=>by
  simp only[zS]at r;obtain⟨v,a,rfl,b,rs⟩:=r;rcases jg.1 hu with rfl|hu
  ·exact(NH (h c (by simp)) b).1
  exact zS.one (fun c d=>h c (by simp[d])) rs u hu
theorem VI:∀ {vs:List Value} {R:List PV->Prop},qbu vs R->∃ a,R a/\∀ H,zS H a vs
 | [],R,h=>⟨[],h,fun H=>by simp[zS]⟩
 | v::vs,R,h=>by
  simp only[qbu]at h;split at h
  ·rename_i p hp
   obtain⟨a,b,c⟩:=VI h;refine⟨p::a,b,fun H=>?_⟩;simp only[zS];exact⟨v,vs,rfl,Dy hp H,c H⟩
  exact h.elim
theorem RF {E:Env} {g:G} {o:List Field}:∀ {parts:List (Nat×Operand)} {cs:List PV} {R:List PV->Prop},qe8 P E g o parts cs R ->
  ∃ a,R a/\(gOn g->∀ (ρ:List Value) (H:PH) (w:World) (eval:Operand->Value) (places:Array (Nat×Nat)) (cells:Array Value),(∀ x∈parts.map (·.2),zo ρ H (evF (qv E) x) (eval x)) ->
   (∀ (i:Nat) (f:Field),o[i]? =some f->∀ d,P.info? f.type=some d->places[i]? =some (f.offset,d.size))->zS H cs cells.toList ->
   ∃ cells',Instr.fill (places[·]?) cells (parts.map fun(i,x)=>(i,eval x))=some cells'/\zS H a cells'.toList)
 | [],cs,R,h=>⟨cs,h,fun _ ρ H w eval places cells _ _ r=>⟨cells,rfl,r⟩⟩
 | (i,x)::l,cs,R,h=>by
  simp only[qe8]at h;obtain⟨f,u,h⟩:=xk h;split at h
  ·rename_i d k
   obtain⟨v,h,z⟩:=qZ h;obtain⟨p,h,hp⟩:=tH h;obtain⟨c,h,A⟩:=Bn h;split at h
   ·rename_i b
    have b:c.length=d.size:=jm b;obtain⟨h,hlen⟩:=Fq h;obtain⟨a,h,B⟩:=RF h;refine⟨a,h,fun q ρ H w eval places cells s e r=>?_⟩;have rc:=A H _ (hp _ _ _ (z ρ H _ q (s x (by simp))));have j:(eval x).cells.size=d.size:=by have:=rc.length; simp at this; omega
    have m:=r.length;simp at m;have n:f.offset+(eval x).cells.size<=cells.size:=by omega
    have h1:=Tu f.offset (eval x) cells n;obtain⟨cells',C,D⟩:=B q ρ H w eval places ((eval x).cells.zipIdx.foldl (fun(cs:Array Value) (x:Value×Nat)=>cs.setIfInBounds (f.offset+x.2) x.1) cells) (fun y t=>s y (by simp at t ⊢; exact .inr t)) e (by
     rw[h1,j,← b];exact((r.take _).append rc).append (r.drop _))
    refine⟨cells',?_,D⟩;simp only[jk,Instr.fill,e i f u d k];rw[if_neg (by simp[j]; omega)];exact C
   exact h.elim
  exact h.elim
theorem Uv {E:Env} {g:G}:∀ {parts:List (Nat×Operand)} {k:Nat} {R:List PV->Prop},NI E g k parts R ->
  ∃ a,R a/\a.length=parts.length/\(gOn g->∀ (ρ:List Value) (H:PH) (eval:Operand->Value),(∀ x∈parts.map (·.2),zo ρ H (evF (qv E) x) (eval x)) ->
   ∃ vals,(parts.map fun(i,x)=>(i,eval x))=(vals.zipIdx k).map (fun(v,i)=>(i,v))/\zS H a vals)
 | [],k,R,h=>⟨[],h,rfl,fun _ ρ H eval _=>⟨[],rfl,by simp[zS]⟩⟩
 | (i,x)::l,k,R,h=>by
  simp only[NI]at h;split at h
  ·rename_i b
   have b:i=k:=jm b;subst b;obtain⟨v,h,j⟩:=qZ h;obtain⟨p,h,hp⟩:=tH h;obtain⟨a,h,m,n⟩:=Uv h;refine⟨p::a,h,by simp[m],fun c ρ H eval d=>?_⟩;obtain⟨vals,e,r⟩:=n c ρ H eval (fun y f=>d y (by simp at f ⊢; exact .inr f))
   refine⟨eval x::vals,?_,?_⟩
   ·simp only[jk,List.zipIdx_cons,e]
   simp only[zS];exact⟨_,_,rfl,hp _ _ _ (j ρ H _ c (d x (by simp))),r⟩
  exact h.elim
theorem Di (size:Nat) (n:Nat) (pl:Nat->Option (Nat×Nat)) (a:∀ i,i<n->pl i=some (i * size,size)):∀ (vals:List Value) (k:Nat) (cells:Array Value),(∀ v∈vals,v.cells.size=size)->k+vals.length=n->n * size=cells.size ->
  ∃ cells',Instr.fill pl cells ((vals.zipIdx k).map fun(v,i)=>(i,v))=some cells'/\cells'.toList=cells.toList.take (k * size)++vals.flatMap (·.cells.toList)
 | [],k,cells,_,hn,hc=>by
  refine⟨cells,rfl,?_⟩;simp at hn;subst hn;rw[List.take_of_length_le (by simp; omega)];simp
 | v::vals,k,cells,hv,hn,hc=>by
  have h1:=hv v (by simp);simp only[ja]at hn;have b:(k+1) * size<=n * size:=Nat.mul_le_mul_right _ (by omega);have c:k * size+v.cells.size<=cells.size:=by rw[h1,← hc]; rw[Nat.add_mul,Nat.one_mul]at b; exact b
  have f:=Tu (k * size) v cells c;have d:(v.cells.zipIdx.foldl (fun(cs:Array Value) (x:Value×Nat)=>cs.setIfInBounds (k * size+x.2) x.1) cells).size=cells.size:=by
   rw[← jK,f];simp;omega
  obtain⟨cells',e,h⟩:=Di size n pl a vals (k+1) _ (fun u hu=>hv u (by simp[hu])) (by omega) (by rw[d]; exact hc)
  refine⟨cells',?_,?_⟩
  ·simp only[List.zipIdx_cons,jk,Instr.fill,a k (by omega)]
   rw[if_neg (by simp[h1]; omega)];exact e
  rw[h,f];have e1:(k+1) * size=k * size+v.cells.size:=by rw[h1,Nat.add_mul,Nat.one_mul]
  rw[e1,List.flatMap_cons,← js];congr 1;rw[js,List.take_append,List.take_append];simp only[jt,jK];have:min (k * size) cells.size=k * size:=Nat.min_eq_left (by omega);rw[this,List.take_of_length_le (l:=List.take (k * size) cells.toList) (by simp; omega)];simp;exact List.take_of_length_le (by simp)
theorem EV:∀ {b:List PV} {R:List (List PV)->Prop},qdn b R->∃ rows,R rows/\rows.length=b.length/\∀ (H:PH) (vals:List Value),zS H b vals ->
  (∀ (i:Nat) (r:List PV) (v:Value),rows[i]? =some r->vals[i]? =some v->zS H r v.cells.toList)
 | [],R,h=>⟨[],h,rfl,fun H vals r i f v a=>by simp at a⟩
 | p::b,R,h=>by
  simp only[qdn]at h;obtain⟨c,h,g⟩:=Bn h;obtain⟨rows,h,j,k⟩:=EV h;refine⟨c::rows,h,by simp[j],fun H vals r i f v a d=>?_⟩;simp only[zS]at r;obtain⟨x,e,rfl,rx,rs⟩:=r;cases i with
  | zero=>simp at a d; subst a; subst d; exact g H x rx
  | succ i=>exact k H e rs i f v (by simpa using a) (by simpa using d)
theorem qi1 {H:PH} {w:World} (s:SatH H w) (e:TypeId) (f:List Value) (h1:∀ u∈f,u.oneCell'=true) :
  Calm H w (fun b o=>if b=w.heap.size then f[o]? else H b o) (w.alloc (.cells f.toArray e)):=by
 have d:∀ b o v,H b o=some v->b≠w.heap.size:=fun b o v a e=>by
  have:=s.lt a; omega
 refine⟨fun b o v a=>?_,⟨fun b o v a=>?_,s.root.mono fun b o v a=>by rw[if_neg (d b o v a)]; exact a⟩,⟨rfl,rfl,rfl,by simp,fun k i _=>Go.RowKit.Below.heap_alloc w _ k i⟩,fun b o v a=>?_⟩
 ·rw[if_neg (d b o v a)]; exact a
 ·split at a
  ·rename_i g
   subst g;refine⟨?_,h1 v (List.mem_of_getElem? a)⟩;rw[World.cell?_alloc_new];simpa using a
  obtain⟨c,o1⟩:=s.cell b o v a;exact⟨by rw[World.cell?_alloc_lt (h:=s.lt a)]; exact c,o1⟩
 split at a
 ·rename_i g; exact .inr (by omega)
 exact .inl ⟨v,a⟩
theorem qpu {H:PH} {z:Nat}:∀ {rows:List (List PV)} {vals:List Value},rows.length=vals.length->(∀ r∈rows,r.length=z) ->
  (∀ (i:Nat) (r:List PV) (v:Value),rows[i]? =some r->vals[i]? =some v->zS H r v.cells.toList)->∀ {b o:Nat} {H':PH},PH.le H H' ->
  (∀ (j:Nat) (u:Value),(vals.flatMap (·.cells.toList))[j]? =some u->H' b (o+j)=some u)->Qg H' b z o rows
 | [],_,_,_,_,_,_,_,_,_=>by simp[Qg]
 | r::rs,[],hl,_,_,_,_,_,_,_=>by simp at hl
 | r::rs,v::vals,hl,hz,c,b,o,H',hle,hc=>by
  have d:=c 0 r v rfl rfl;have hlen:=d.length;have a:=hz r (by simp);simp only[Qg];refine⟨a,⟨v.cells.toList,zS.mono hle d,fun j u hu=>hc j u ?_⟩,qpu (by simpa using hl) (fun r c=>hz r (by simp[c])) (fun i e v' h1 h2=>c (i+1) e v' (by simpa using h1) (by simpa using h2)) hle (fun j u hu=>?_)⟩
  ·rw[List.flatMap_cons,jB (jG.1 hu).1]; exact hu
  have:=hc (z+j) u (by rw[List.flatMap_cons,jC (by rw[hlen,a]; omega),hlen,a,Nat.add_sub_cancel_left]; exact hu)
  rwa [← Nat.add_assoc]at this
theorem Lv {E:Env} {g:G} {t:TypeId} {n:Nat} {parts:List (Nat×Operand)} {R:FV->Prop} (h:pa P E g t n parts R) :
  ∃ S,R S/\(gOn g->∀ (ρ:List Value) (H:PH) (w:World) (eval:Operand->Value),SatH H w->(∀ x∈parts.map (·.2),zo ρ H (evF (qv E) x) (eval x)) ->
   ∃ v w' H',(Instr.buildSlice t n (parts.map fun(i,x)=>(i,eval x)).toArray).run P w=.ok v w'/\Calm H w H' w'/\zo ρ H' S v):=by
 unfold pa at h;obtain⟨e,i,hu,B,h⟩:=bm h;split at h
 ·rename_i l
  have l:parts.length=n:=jm l;split at h
  ·rename_i C
   split at h
   ·rename_i D
    split at h
    case h_2=>exact h.elim
    rename_i z;split at h
    case h_2=>exact h.elim
    rename_i k F;have:k=i:=Option.some.inj (F.symm.trans B);subst this;split at h
    case h_2=>exact h.elim
    rename_i zv I;obtain⟨ps,h,a,J⟩:=Uv h;obtain⟨rows,h,b,hrows⟩:=EV h;obtain⟨m,K,L,h⟩:=h;refine⟨_,h,fun U ρ H w eval s V=>?_⟩;obtain⟨vals,ev,T⟩:=J U ρ H eval V;have hcells:=hrows H vals T;have o:vals.length=n:=by rw[T.length,a,l]
    have M:∀ v∈vals,v.cells.size=k.size:=by
     intro v N;obtain⟨j,A⟩:=List.getElem?_of_mem N;have p:=(jG.1 A).1;have d:j<rows.length:=by rw[b,a,l,← o]; exact p
     have:=(hcells j _ v (jf d) A).length;rw[(m _ (List.getElem_mem d)).1]at this;simpa using this
    obtain⟨cells',X,q⟩:=Di k.size n (fun O=>some (O * k.size,k.size)) (fun j _=>rfl) vals 0 ((Array.range (n * k.size)).map (zv.cells[· % zv.cells.size]!)) M (by omega) (by simp)
    simp only[Nat.zero_mul,List.take_zero,ju]at q;have hone:∀ u∈cells'.toList,u.oneCell'=true:=by
     rw[q];intro u y;obtain⟨v,N,Q⟩:=List.mem_flatMap.1 y;obtain⟨j,A⟩:=List.getElem?_of_mem N;have p:=(jG.1 A).1;have d:j<rows.length:=by rw[b,a,l,← o]; exact p
     have h1:=hcells j _ v (jf d) A;have h2:=(m _ (List.getElem_mem d)).2;exact zS.one (fun c Y=>(List.all_eq_true.1 h2) c Y) h1 u Q
    have f:=qi1 s e cells'.toList hone;refine⟨.slice (some ⟨w.heap.size,0,none⟩) n n,_,_,?_,f,?_⟩
    ·have Z:n * k.size≠0:=by
      have a1:1<=n:=jh C;have a2:1<=k.size:=jh D;exact Nat.mul_ne_zero (by omega) (by omega)
     have hb:¬ 16777216<n * k.size:=by
      have:=jh z;omega
     simp only[Instr.buildSlice,kc,kru hu,kb,Go.sizeOf,typeInfo,run_program,B,kd];rw[show(2:Nat) ^ 24=16777216 from rfl];simp only[hb,if_false,gt_iff_lt,Z,kc,zeroValue,typeInfo,run_program,B,I,kb,kd];rw[ev,X];simp[newRow]
    simp only[zo];refine qq1 L ?_;simp only[zn];refine .inr ⟨w.heap.size,0,k.size,n,by rw[b,a,l],by rw[b,a,l]; exact jw _,?_⟩;refine qpu (by rw[b,a,l,o]) (fun r hr=>(m r hr).1) hcells f.le (fun j u y=>?_);rw[jx,if_pos rfl,q];exact y
   exact h.elim
  exact h.elim
 exact h.elim
theorem EW {w:World}:∀ {a:List Field},RH P a=true ->
  (a.mapM (m:=Sem) fun f=>do pure (f.offset,← Go.sizeOf f.type)).run P w=.ok (a.map fun f=>(f.offset,qdp P f.type)) w
 | [],_=>by simp
 | f::a,h=>by
  simp only[RH]at h;split at h
  ·rename_i i c
   have:=EW (w:=w) h;have b:(Go.sizeOf f.type).run P w=.ok i.size w:=by simp[Go.sizeOf,typeInfo,c]
   simp only[List.mapM_cons,kc,b,kb,kd,jk,qdp,c];rw[this];rfl
  cases h
theorem oq {E:Env} {g:G} {t:TypeId} {parts:List (Nat×Operand)} {R:FV->Prop} (h:lF P E g t parts R) :
  ∃ J,R J/\(gOn g->∀ (ρ:List Value) (H:PH) (w:World) (eval:Operand->Value),(∀ x∈parts.map (·.2),zo ρ H (evF (qv E) x) (eval x)) ->
   ∃ v,(Instr.build t (parts.map fun(i,x)=>(i,eval x)).toArray).run P w=.ok v w/\zo ρ H J v):=by
 unfold lF at h;split at h
 ·rename_i i K
  split at h
  ·rename_i vs hz
   obtain⟨V,h,u⟩:=VI h;split at h
   ·rename_i N hu
    split at h
    case h_2=>exact h.elim
    rename_i o;obtain⟨cs,h,O⟩:=RF h;refine⟨_,h,fun y ρ H w eval z=>?_⟩;obtain⟨cells',s,rc⟩:=O y ρ H w eval (N.map fun f=>(f.offset,qdp P f.type)).toArray vs.toArray z (fun i f Q X A=>by simp[Q,qdp,A]) (by simpa[Value.cells]using u H)
    refine⟨.agg cells',?_,by simp only[zo,zn]; exact⟨cells'.toList,by simp,rc⟩⟩;simp only[Instr.build,kc,zeroValue,typeInfo,run_program,K,hz,kb,kd,kru hu,Value.cells];rw[Array.mapM_eq_mapM_toList];simp only[Sem.run_map];rw[EW o];simp only[kb];rw[s];rfl
   ·rename_i n e hu
    split at h
    ·rename_i S B
     split at h
     ·rename_i d
      have d:S.size=1:=jm d;obtain⟨L,h,T,C⟩:=Uv h;obtain⟨hlen,hone,h⟩:=h;refine⟨_,h,fun y ρ H w eval z=>?_⟩;obtain⟨vals,ev,m⟩:=C y ρ H eval z;have p:∀ v∈vals,v.cells.size=1:=by
       intro v q;obtain⟨j,r⟩:=List.getElem?_of_mem q;have k:=(jG.1 r).1;have b:j<L.length:=by rw[← m.length]; exact k
       obtain⟨v',c,D⟩:=m.get (jf b);rw[r]at c;cases c;rw[(NH (hone _ (List.getElem_mem b)) D).2];rfl
      have U:=m.length;obtain⟨cells',s,F⟩:=Di 1 vals.length (fun I=>some (I * 1,1)) (fun j _=>rfl) vals 0 ⟨vs⟩ p (by omega) (by simp; omega)
      refine⟨.agg cells',?_,?_⟩
      ·simp only[Instr.build,kc,zeroValue,typeInfo,run_program,K,hz,kb,kd,kru hu,Go.sizeOf,B,d,ev,Value.cells]
       simp only[Nat.mul_one]at s ⊢;rw[s];rfl
      simp only[zo,zn];refine⟨cells'.toList,by simp,?_⟩;have e1:cells'.toList=vals:=by
       rw[F];simp only[Nat.zero_mul,List.take_zero,ju];have:∀ (l:List Value),(∀ v∈l,v∈vals)->l.flatMap (·.cells.toList)=l:=by
        intro l
        induction l with
        | nil=>intro _; rfl
        | cons a l ih=>
         intro M;rw[List.flatMap_cons,ih (fun v q=>M v (by simp[q]))]
         obtain⟨j,r⟩:=List.getElem?_of_mem (M a (by simp));have k:=(jG.1 r).1;have b:j<L.length:=by rw[← m.length]; exact k
         obtain⟨v',c,D⟩:=m.get (jf b);rw[r]at c;cases c;rw[(NH (hone _ (List.getElem_mem b)) D).2];rfl
       exact this vals (fun v q=>q)
      rw[e1];exact m
     exact h.elim
    exact h.elim
   exact h.elim
  exact h.elim
 exact h.elim
theorem Hk {E:Env} {yes no:Prop}:∀ {parts:List (Nat×Operand)},Eu E parts yes no->yes\/no
 | [],h=>.inr h
 | (_,x)::l,h=>by
  simp only[Eu,Zx]at h;split at h
  ·exact .inl h
  ·exact .inl h
  ·exact .inl h
  ·exact .inl h
  exact Hk h
theorem qcu {v:FV} {R:List FV->Prop} (h:qml v R):∃ c,R c/\∀ (ρ:List Value) (H:PH) (x:Value),zo ρ H v x->xL ρ H c x.cells.toList:=by
 unfold qml at h;split at h
 ·obtain⟨c,h,a⟩:=Bn h
  have h:=GM h;exact⟨_,h,fun ρ H x r=>xL.of_RepL (a H x r)⟩
 ·rename_i k rows
  refine⟨_,h,fun ρ H x r=>?_⟩;have e:=(Ql (f:=.tsl k rows) rfl r).1;rw[e];exact⟨x,[],rfl,r,rfl⟩
 ·rename_i k
  refine⟨_,h,fun ρ H x r=>?_⟩;have e:=(Ql (f:=.mref k) rfl r).1;rw[e];exact⟨x,[],rfl,r,rfl⟩
 ·rename_i k o
  refine⟨_,h,fun ρ H x r=>?_⟩;have e:=(Ql (f:=.ptr k o) rfl r).1;rw[e];exact⟨x,[],rfl,r,rfl⟩
 ·rename_i f c
  refine⟨_,h,fun ρ H x r=>?_⟩;have e:=(Ql (f:=.clo f c) rfl r).1;rw[e];exact⟨x,[],rfl,r,rfl⟩
 ·rename_i k o n c
  refine⟨_,h,fun ρ H x r=>?_⟩;have e:=(Ql (f:=.bsl k o n c) rfl r).1;rw[e];exact⟨x,[],rfl,r,rfl⟩
 exact h.elim
theorem RE {E:Env} {g:G} {o:List Field}:∀ {parts:List (Nat×Operand)} {cs:List FV} {R:List FV->Prop},qi8 P E g o parts cs R ->
  ∃ a,R a/\(gOn g->∀ (ρ:List Value) (H:PH) (w:World) (eval:Operand->Value) (places:Array (Nat×Nat)) (cells:Array Value),(∀ x∈parts.map (·.2),zo ρ H (evF (qv E) x) (eval x)) ->
   (∀ (i:Nat) (f:Field),o[i]? =some f->∀ d,P.info? f.type=some d->places[i]? =some (f.offset,d.size))->xL ρ H cs cells.toList ->
   ∃ cells',Instr.fill (places[·]?) cells (parts.map fun(i,x)=>(i,eval x))=some cells'/\xL ρ H a cells'.toList)
 | [],cs,R,h=>⟨cs,h,fun _ ρ H w eval places cells _ _ r=>⟨cells,rfl,r⟩⟩
 | (i,x)::l,cs,R,h=>by
  simp only[qi8]at h;obtain⟨f,t,h⟩:=xk h;split at h
  ·rename_i d k
   obtain⟨v,h,u⟩:=qZ h;obtain⟨c,h,z⟩:=qcu h;split at h
   ·rename_i b
    have b:c.length=d.size:=jm b;obtain⟨h,hlen⟩:=ZJ h;obtain⟨a,h,A⟩:=RE h;refine⟨a,h,fun p ρ H w eval places cells q e r=>?_⟩;have rc:=z ρ H _ (u ρ H _ p (q x (by simp)));have j:(eval x).cells.size=d.size:=by have:=rc.length; simp at this; omega
    have m:=r.length;simp at m;have n:f.offset+(eval x).cells.size<=cells.size:=by omega
    have h1:=Tu f.offset (eval x) cells n;obtain⟨cells',B,C⟩:=A p ρ H w eval places ((eval x).cells.zipIdx.foldl (fun(cs:Array Value) (x:Value×Nat)=>cs.setIfInBounds (f.offset+x.2) x.1) cells) (fun y s=>q y (by simp at s ⊢; exact .inr s)) e (by
     rw[h1,j,← b];exact((r.take _).append rc).append (r.drop _))
    refine⟨cells',?_,C⟩;simp only[jk,Instr.fill,e i f t d k];rw[if_neg (by simp[j]; omega)];exact B
   exact h.elim
  exact h.elim
theorem LR {ρ:List Value} {H:PH}:∀ {cs:List FV} {vs:List Value},xL ρ H cs vs->zo ρ H (qol cs) (.tuple vs.toArray)
 | [],vs,r=>by
  simp only[xL]at r;subst r;simp[qol,zo]
 | c::cs,vs,r=>by
  obtain⟨u,us,rfl,a,rs⟩:=r;exact⟨u,us,rfl,a,LR rs⟩
theorem lG {E:Env} {g:G} {t:TypeId} {parts:List (Nat×Operand)} {R:FV->Prop} (h:oo P E g t parts R) :
  ∃ d,R d/\(gOn g->∀ (ρ:List Value) (H:PH) (w:World) (eval:Operand->Value),(∀ x∈parts.map (·.2),zo ρ H (evF (qv E) x) (eval x)) ->
   ∃ v,(Instr.build t (parts.map fun(i,x)=>(i,eval x)).toArray).run P w=.ok v w/\zo ρ H d v):=by
 unfold oo at h;split at h
 ·rename_i i e
  split at h
  ·rename_i vs hz
   obtain⟨p,h,b⟩:=VI h;have h:=GM h;split at h
   ·rename_i j hu
    split at h
    case h_2=>exact h.elim
    rename_i a;obtain⟨cs,h,k⟩:=RE h;refine⟨_,h,fun l ρ H w eval m=>?_⟩;obtain⟨cells',n,rc⟩:=k l ρ H w eval (j.map fun f=>(f.offset,qdp P f.type)).toArray vs.toArray m (fun i f o q c=>by simp[o,qdp,c]) (by simpa[Value.cells]using xL.of_RepL (b H))
    refine⟨.agg cells',?_,⟨cells'.toList,by simp,LR rc⟩⟩;simp only[Instr.build,kc,zeroValue,typeInfo,run_program,e,hz,kb,kd,kru hu,Value.cells];rw[Array.mapM_eq_mapM_toList];simp only[Sem.run_map];rw[EW a];simp only[kb];rw[n];rfl
   exact h.elim
  exact h.elim
 exact h.elim
theorem Nx {op:BinOp} {t:TypeId} {x y:FV} {R:FV->Prop} (h:qpd P op t x y R) :
  ∃ q,R q/\∀ (ρ:List Value) (H:PH) (w:World) (d f:Operand) (a b:Value),zo ρ H x a->zo ρ H y b ->
   ∃ v,(do eqGuard op t d f a b; binOp op t a b:Sem Value).run P w=.ok v w/\zo ρ H q v:=by
 unfold qpd at h;split at h
 ·rename_i e hu
  split at h
  ·rename_i i u
   have eqN:∀ (w:World) (p:Option Addr),(Op.equal t (.pointer p) (.pointer none)).run P w=.ok p.isNone w:=by
    intro w p;have:∀ n,(Op.equalIn (n+1) t (.pointer p) (.pointer none)).run P w=.ok p.isNone w:=by
     intro n;cases p<;>simp[Op.equalIn,kru hu]
    exact this 9999
   have fin:∀ (b:Bool) (w:World) (d f:Operand) (p:Option Addr),(do eqGuard .eql t d f (.pointer p) (.pointer none); binOp .eql t (.pointer p) (.pointer none):Sem Value).run P w=.ok (.bool p.isNone) w /\
     (do eqGuard .neq t d f (.pointer p) (.pointer none); binOp .neq t (.pointer p) (.pointer none):Sem Value).run P w=.ok (.bool (!p.isNone)) w:=by
    intro b w d f p
    constructor
    ·simp only[eqGuard,binOp,kc,eqN]; rfl
    simp only[eqGuard,binOp,kc,eqN]; rfl
   split at h
   ·split at h
    ·refine⟨_,h,fun ρ H w d f a b g c=>?_⟩
     simp only[zo,zn]at g c;subst g; subst c;exact⟨_,(fin true w d f none).1,Qy⟩
    ·refine⟨_,h,fun ρ H w d f a b g c=>?_⟩
     obtain⟨j,_,rfl⟩:=g;simp only[zo,zn]at c;subst c;exact⟨_,(fin true w d f _).1,Qy⟩
    ·refine⟨_,h,fun ρ H w d f a b g c=>?_⟩
     obtain⟨j,o,vs,rfl,_⟩:=g;simp only[zo,zn]at c;subst c;exact⟨_,(fin true w d f _).1,Qy⟩
    exact h.elim
   ·split at h
    ·refine⟨_,h,fun ρ H w d f a b g c=>?_⟩
     simp only[zo,zn]at g c;subst g; subst c;exact⟨_,(fin true w d f none).2,Qy⟩
    ·refine⟨_,h,fun ρ H w d f a b g c=>?_⟩
     obtain⟨j,_,rfl⟩:=g;simp only[zo,zn]at c;subst c;exact⟨_,(fin true w d f _).2,Qy⟩
    ·refine⟨_,h,fun ρ H w d f a b g c=>?_⟩
     obtain⟨j,o,vs,rfl,_⟩:=g;simp only[zo,zn]at c;subst c;exact⟨_,(fin true w d f _).2,Qy⟩
    ·rename_i k off k' r
     split at h
     ·rename_i l
      have l:=jm l;split at h
      ·rename_i m
       have m:=jm m;subst l; subst m;refine⟨_,h,fun ρ H w d f a b g c=>?_⟩;obtain⟨A,z,rfl⟩:=g;obtain⟨B,s,rfl⟩:=c;rw[z]at s;cases s;refine⟨.bool false,?_,Qy⟩;simp only[eqGuard,kc];exact Lib.run_neq_ptr_same w _ hu u
      exact h.elim
     exact h.elim
    exact h.elim
   exact h.elim
  exact h.elim
 exact h.elim
theorem DK {src dst:TypeId} {R:Prop} (h:u8T P src dst R):∃ e,P.underlying src=some (.slice e)/\P.underlying e=some (.int .u8)/\P.underlying dst=some .string/\R:=by
 unfold u8T at h;split at h
 ·rename_i e he
  split at h
  ·rename_i a
   split at h
   ·rename_i b; exact⟨e,he,a,b,h⟩
   exact h.elim
  exact h.elim
 exact h.elim
theorem qei {l:List UInt8} {j:Nat} {x:UInt8} (h:l[j]? =some x):(qT l)[j]? =some [.int .u8 x.toNat]:=by simp[qT,h]
theorem Sa {H:PH} {w:World} (s:SatH H w) {b z o:Nat} {l:List UInt8} (r:Qg H b z o (qT l)):∀ j (a:j<l.length),w.cell? ((⟨b,o,none⟩:Addr).add j)=some (.int .u8 (l[j].toNat:Int)):=by
 intro j a;obtain⟨hz,vs,q,c⟩:=r.get (qei (jf a));simp at hz;subst hz;simp only[zS,zn]at q;obtain⟨v,_,rfl,rfl,rfl⟩:=q;have:=c 0 _ rfl;rw[Addr.add_lit];simpa using(s _ _ _ this).1
theorem qhw {src dst:TypeId} {n:Nat} {t:TypeId} {R:Prop} (h:qq3 P src dst n t R) :
  R/\∀ (w:World) (b:Nat),w.shape? b=some (t,n)->(convert src dst (.pointer (some ⟨b,0,none⟩))).run P w=.ok (.pointer (some ⟨b,0,none⟩)) w:=by
 unfold qq3 at h;split at h
 ·rename_i u a
  split at h
  ·rename_i c
   split at h
   ·rename_i i e
    exact⟨h.2,fun w b d=>Lib.run_to_unsafe w ⟨b,0,none⟩ a c e h.1.1 d h.1.2⟩
   exact h.elim
  exact h.elim
 ·rename_i a
  split at h
  ·rename_i u c
   split at h
   ·rename_i i e
    exact⟨h.2,fun w b d=>Lib.run_from_unsafe w ⟨b,0,none⟩ a c e d h.1⟩
   exact h.elim
  exact h.elim
 exact h.elim
theorem Bt {g:G} {src dst:TypeId} {lo:List AObj} {x:FV} {R:FV->Prop} (h:Hs P g src dst lo x R) :
  ∃ B,R B/\(gOn g->∀ (bs:Base) (ρ:List Value) (H:PH) (w:World) (v:Value),SatW bs ρ H lo w->zo ρ H x v->∃ u,(convert src dst v).run P w=.ok u w/\zo ρ H B u):=by
 have rowsCase:∀ (e:TypeId) (l:List UInt8),P.underlying src=some (.slice e)->P.underlying e=some (.int .u8)->P.underlying dst=some .string->∀ (H:PH) (w:World) (v:Value),SatH H w->zn H (.sl (qT l)) v ->
   (convert src dst v).run P w=.ok (.string ⟨l.toArray⟩) w:=by
  intro e l a he f H w v s d;simp only[zn]at d;rcases d with ⟨t,rfl|⟨L,q,rfl⟩⟩|⟨b,o,z,cap,rfl,S,rr⟩
  ·have:l=[]:=by simpa[qT]using t
   subst this;exact run_convert_bytes_nil w src e a he 0 0 dst f
  ·have:l=[]:=by simpa[qT]using t
   subst this;exact run_convert_bytes_back (P:=P) w src dst e L q [] a he f (fun j y=>absurd y (Nat.not_lt_zero _))
  have:=run_convert_bytes_back (P:=P) w src dst e ⟨b,o,none⟩ cap l a he f (Sa s rr);simpa[qT]using this
 unfold Hs at h;split at h
 ·rename_i rows
  obtain⟨e,a,he,f,l,A,h⟩:=DK h;refine⟨_,h,fun p bs ρ H w v s d=>⟨_,rowsCase e l a he f H w v s.sath ?_,BA⟩⟩;rw[← Qi A p]; exact d
 ·rename_i k rows
  obtain⟨e,a,he,f,l,A,h⟩:=DK h;refine⟨_,h,fun p bs ρ H w v s d=>⟨_,rowsCase e l a he f H w v s.sath ?_,BA⟩⟩;rw[← Qi A p]; exact d.2
 ·obtain⟨e,a,he,f,h⟩:=DK h
  refine⟨_,h,fun p bs ρ H w v s d=>⟨_,rowsCase e [] a he f H w v s.sath ?_,BA⟩⟩;simp only[zo,zn]at d;simp only[zn];exact .inl ⟨rfl,.inl d⟩
 ·rename_i k off
  split at h
  ·rename_i t
   have t:=jm t;subst t;obtain⟨ob,i,h⟩:=xk h;split at h
   ·rename_i bt cells
    obtain⟨h,a⟩:=qhw h;refine⟨_,h,fun p bs ρ H w v s d=>?_⟩;obtain⟨b,J,rfl⟩:=d;obtain⟨T,vs,C,m,D,_⟩:=s.objs k _ _ i J;cases C;have E:=D.length;have F:w.shape? b=some (bt,cells.length):=by simp[World.shape?,m,E]
    exact⟨_,a w b F,b,J,rfl⟩
   exact h.elim
  exact h.elim
 ·rename_i k n
  obtain⟨e,a,he,f,h⟩:=DK h;obtain⟨ob,i,h⟩:=xk h;split at h
  ·rename_i l
   refine⟨_,h.2,fun p bs ρ H w v s d=>?_⟩;have M:=Qi h.1 p;obtain⟨b,cs,C,cap,lo',N,rfl,m,_,h2,_⟩:=s.objs k _ _ i d.1;refine⟨_,run_convert_bytes_back (P:=P) w src dst e ⟨b,0,none⟩ cap l a he f (fun j y=>?_),BA⟩;rw[Addr.add_lit];simp only[World.cell?,m,jx];exact h2 j _ (jf y)
  exact h.elim
 ·rename_i k off n
  obtain⟨e,a,he,f,h⟩:=DK h;obtain⟨ob,i,h⟩:=xk h;split at h
  ·rename_i l
   refine⟨_,h.2,fun p bs ρ H w v s d=>?_⟩;have M:=Qi h.1 p;obtain⟨K,U,q,c,O,rfl⟩:=d;obtain⟨b,cs,C,cap,lo',N,Q,m,_,h2,_⟩:=s.objs k _ _ i O;obtain rfl:K=b:=by simpa[zy]using congrArg zy Q
   have A:n=((l.drop off).take n).length:=by simp; omega
   have r:=run_convert_bytes_back (P:=P) w src dst e ⟨K,off,none⟩ c ((l.drop off).take n) a he f (fun j y=>by
    rw[Addr.add_lit];simp only[World.cell?,m];have I:j<n:=by omega
    have:l[off+j]? =some ((l.drop off).take n)[j]:=by
     have h3:=jf y;rw[← h3,jE,if_pos I,jD]
    exact h2 _ _ this)
   rw[← A]at r;exact⟨_,r,BA⟩
  exact h.elim
 obtain⟨B,h,a⟩:=TB h;exact⟨B,h,fun p bs ρ H w v s d=>a ρ H w v d⟩
end
end Ax
end
section
namespace Ax
open Go
section
variable {P:Program}
theorem Et {bs:Base} {ρ:List Value} {H H':PH} {a:FV} {lo:List AObj} {v:Value} {w w':World} (s:SatW bs ρ H lo w) (c:Calm H w H' w') (r:zo ρ H' a v) :
  ZN bs ρ H a lo v w':=⟨ρ,H',jq _,c.le,s.calm c,r⟩
theorem xa {bs:Base} {ρ:List Value} {H:PH} {a:FV} {lo:List AObj} {v:Value} {w:World} {x:Sem Value} (s:SatW bs ρ H lo w) (b:x.run P w=.ok v w) (r:zo ρ H a v) :
  eJ P bs ρ H a lo ((do pure (.value (← x)):Sem Next).run P w):=by
 simp only[kc,b,kb,kd];exact cv s r
theorem VR {bs:Base} {ρ:List Value} {H:PH} {lo:List AObj} {r:PV} {w:World} {x:Result Next} (s:SatW bs ρ H lo w) (h:Fc P H w r x):eJ P bs ρ H (.p r) lo x:=by
 unfold Fc at h;split at h
 ·obtain⟨H',c,b⟩:=h
  exact Et s c b
 ·obtain⟨rfl,a⟩:=h
  exact a.mono fun f d ⟨v,H',e,c,b⟩=>⟨v,e,Et s c b⟩
 exact h.elim
theorem RB:∀ {c:FV} {R:List PV->Prop},qer c R->∃ d,R d/\∀ (ρ:List Value) (H:PH) (vs:List Value),zo ρ H c (.tuple vs.toArray)->zS H d vs
 | .cap0,R,h=>⟨[],h,fun ρ H vs r=>by
   simp only[zo,Value.tuple.injEq]at r;simpa[zS]using r⟩
 | .cap a b,R,h=>by
  simp only[qer]at h;obtain⟨p,h,hp⟩:=tH h;obtain⟨d,h,f⟩:=RB h;refine⟨_,h,fun ρ H vs r=>?_⟩;obtain⟨u,us,e,g,i⟩:=r;have e:vs=u::us:=by simpa using e
  subst e;simp only[zS];exact⟨u,us,rfl,hp _ _ _ g,f _ _ _ i⟩
 | .top,_,h|.p _,_,h|.opt _ _,_,h|.tsl _ _,_,h|.ptr _ _,_,h|.hptr _,_,h|.bself _,_,h|.bsl _ _ _ _,_,h|.vsl _ _,_,h|.eptr _ _ _ _,_,h|.mref _,_,h|.pair _ _,_,h|.stmp _,_,h|.clo _ _,_,h|.fagg _,_,h|.nxt _ _ _,_,h=>by
  simp[qer]at h
theorem lJ {dst:Option Tmp} {op:Op} {ty:TypeId} {pos:String} {after:Array Edge} {guard:Option (Nat×Bool)} {E:Env} {g:G} {R:FV->Prop} (h:qf2 P op E g R):∃ p,R p/\∀ lo,du P ⟨dst,op,ty,pos,after,guard⟩ (qv E) lo g p lo:=by
 unfold qf2 at h;split at h
 ·rename_i f xs
  split at h
  ·refine⟨_,h,fun lo a bs ρ H w eval s j=>?_⟩
   exact xa s (v:=.func (.func f) #[] #[]) (by simp[Instr.makeFunc]) (by simp[zo,zn])
  rename_i x xs;have b:=XL h; clear h; obtain⟨vs,h,d⟩:=b;refine⟨_,h,fun lo a bs ρ H w eval s j=>?_⟩;have rl:=d ρ H eval a (fun y n=>j y (by simpa[ke]using n))
  exact xa s (v:=.func (.func f) #[] ((x::xs).map eval).toArray) (by simp[Instr.makeFunc]) ⟨_,rfl,LR rl⟩
 ·rename_i t xs B
  have b:=qZ h; clear h; obtain⟨p,h,k⟩:=b;have b:=XL h; clear h; obtain⟨vs,h,d⟩:=b;have b:=Xj h; clear h; obtain⟨C,h,l⟩:=b;split at h
  ·rename_i f
   obtain⟨r,i,h⟩:=h;refine⟨_,h,fun lo a bs ρ H w eval s j=>?_⟩;have i:=Qi i a;have rl:=l ρ H _ (d ρ H eval a (fun y n=>j y (by simp[ke,kf,n])))
   have:=i H w _ s.sath rl;have o:(eval (.tmp t))=.func (.func f) #[] #[]:=by
    have:=k ρ H _ a (j (.tmp t) (by simp[ke,kf]));simpa[zo,zn]using this
   simp only[execOp,resolve,Deferred.ofValue,invoke,o,kc,kd,kb,ka,Array.empty_append,Array.append_empty];exact VR s this
  ·rename_i f c
   have b:=RB h; clear h; obtain⟨cs,h,q⟩:=b;obtain⟨r,i,h⟩:=h;refine⟨_,h,fun lo a bs ρ H w eval s j=>?_⟩;have i:=Qi i a;have rl:=l ρ H _ (d ρ H eval a (fun y n=>j y (by simp[ke,kf,n])))
   obtain⟨us,o,rc⟩:=k ρ H _ a (j (.tmp t) (by simp[ke,kf]));have:=i H w _ s.sath (rl.append (q _ _ _ rc));simp only[execOp,resolve,Deferred.ofValue,invoke,o,kc,kd,kb,ka,List.append_toArray];exact VR s this
  ·rename_i f cs
   obtain⟨r,i,h⟩:=h;refine⟨_,h,fun lo a bs ρ H w eval s j=>?_⟩;have i:=Qi i a;have rl:=l ρ H _ (d ρ H eval a (fun y n=>j y (by simp[ke,kf,n])))
   have rf:=k ρ H _ a (j (.tmp t) (by simp[ke,kf]));simp only[zo,zn]at rf;obtain⟨us,o,rc⟩:=rf;have:=i H w _ s.sath (rl.append rc);simp only[execOp,resolve,Deferred.ofValue,invoke,o,kc,kd,kb,ka,List.append_toArray];exact VR s this
  exact h.elim
 ·rename_i D m xs B
  have b:=qZ h; clear h; obtain⟨p,h,k⟩:=b;have b:=XL h; clear h; obtain⟨vs,h,d⟩:=b;have b:=Xj h; clear h; obtain⟨C,h,l⟩:=b;split at h
  ·rename_i t v
   obtain⟨f,r,i,h⟩:=h;refine⟨_,h,fun lo a bs ρ H w eval s j=>?_⟩;obtain⟨z,i⟩:=Qi i a;have rl:=l ρ H _ (d ρ H eval a (fun y n=>j y (by simp[ke,kf,n])))
   have rr:=k ρ H _ a (j D (by simp[ke,kf]));simp only[zo,zn]at rr;obtain⟨u,hu,F⟩:=rr;have:=i H w (u::xs.map eval) s.sath (by simp only[zS]; exact⟨u,_,rfl,F,rl⟩);have A:=z u w;simp only[execOp,resolve,invoke,hu,kc,kd,kb,ka,callMethod];have e:List.take xs.length (xs.map eval)=xs.map eval:=List.take_of_length_le (by simp);simp[A,e];exact VR s this
  exact h.elim
 exact h.elim
theorem Ny {o:Oper} {E:Env} {g:G} {R:FV->Prop} (h:Xo P o.op E g R):∃ A,R A/\∀ lo,du P o (qv E) lo g A lo:=by
 obtain⟨dst,op,ty,pos,after,guard⟩:=o;simp only at h;unfold Xo at h;split at h
 ·
  rename_i x;cases g with
  | none=>
   simp only[Zx]at h;exact⟨_,h,fun lo l bs ρ H w eval s m=>cv s (m x (by simp[ke]))⟩
  | some g=>
   obtain⟨F,h,j⟩:=qZ h;exact⟨_,h,fun lo l bs ρ H w eval s m=>cv s (j ρ H _ l (m x (by simp[ke])))⟩
 ·rename_i x
  cases g with
  | none=>
   simp only[Zx]at h;exact⟨_,h,fun lo l bs ρ H w eval s m=>cv s (m x (by simp[ke]))⟩
  | some g=>
   obtain⟨F,h,j⟩:=qZ h;exact⟨_,h,fun lo l bs ρ H w eval s m=>cv s (j ρ H _ l (m x (by simp[ke])))⟩
 ·
  rename_i c a b;obtain⟨c',h,J⟩:=qZ h;split at h
  ·rename_i O
   have key:∃ A,R A/\(gOn g->∀ (ρ:List Value) (H:PH) (Q S:Value),zo ρ H (evF (qv E) a) Q->zo ρ H (evF (qv E) b) S->zo ρ H A (if O then Q else S)):=by
    have fin:∀ (V X:Bool) (K L:FV),Str (some V) (evF (qv E) a) K->Str (some X) (evF (qv E) b) L->(gOn g->O=true->V=true)->(gOn g->O=false->X=true) ->
      (match K,L with
       | .p (.bool a),.p (.bool b)=>R (.p (.bool (bif O then a else b)))
       | _,_=>False)->∃ A,R A/\(gOn g->∀ (ρ:List Value) (H:PH) (Q S:Value),zo ρ H (evF (qv E) a) Q->zo ρ H (evF (qv E) b) S->zo ρ H A (if O then Q else S)):=by
     intro V X K L T I h1 h2 h;split at h
     ·rename_i ab bb
      refine⟨_,h,fun l ρ H Q S ra rb=>?_⟩;cases O with
      | true=>
       have:=rG (T ρ H _ (h1 l rfl) ra);simp[this,zo,zn]
      | false=>
       have:=rG (I ρ H _ (h2 l rfl) rb);simp[this,zo,zn]
     exact h.elim
    split at h
    ·obtain⟨K,h,T⟩:=qZ h
     obtain⟨L,h,I⟩:=qZ h;exact fin _ _ K L T I (fun _ h=>h) (fun _ h=>by simp[h]) h
    obtain⟨K,h,T⟩:=qZ h;obtain⟨L,h,I⟩:=qZ h;exact fin _ _ K L T I (fun l h=>by simp only[gOn]at l; simp[l,h]) (fun l h=>by simp only[gOn]at l; simp[l,h]) h
   obtain⟨A,h,B⟩:=key;refine⟨_,h,fun lo l bs ρ H w eval s m=>?_⟩;have rc:=rG (J ρ H _ l (m c (by simp[ke])));simp only[execOp,rc,asBool,kc,kd,kb];exact cv s (B l ρ H _ _ (m a (by simp[ke])) (m b (by simp[ke])))
  exact h.elim
 ·rename_i t x f
  obtain⟨F,h,j⟩:=qZ h;obtain⟨A,h,B⟩:=oz h;refine⟨_,h,fun lo l bs ρ H w eval s m=>?_⟩;obtain⟨v,D,C⟩:=B ρ H w _ (j ρ H _ l (m x (by simp[ke])));exact xa s D C
 ·rename_i t x i
  obtain⟨F,h,j⟩:=qZ h;obtain⟨i',h,M⟩:=qZ h;obtain⟨A,h,B⟩:=Nt h;refine⟨_,h,fun lo l bs ρ H w eval s m=>?_⟩;obtain⟨v,D,C⟩:=B l ρ H w _ _ (j ρ H _ l (m x (by simp[ke]))) (M ρ H _ l (m i (by simp[ke])));exact xa s D C
 ·rename_i t x i
  obtain⟨F,h,j⟩:=qZ h;obtain⟨i',h,M⟩:=qZ h;obtain⟨A,h,B⟩:=oA h;refine⟨_,h,fun lo l bs ρ H w eval s m=>?_⟩;obtain⟨v,D,C⟩:=B l ρ H w _ _ (j ρ H _ l (m x (by simp[ke]))) (M ρ H _ l (m i (by simp[ke])));exact xa s D C
 ·rename_i op t x y t'
  obtain⟨F,h,j⟩:=qZ h;obtain⟨y',h,Y⟩:=qZ h;have key:∃ A,R A/\(gOn g->∀ (ρ:List Value) (H:PH) (w:World) (xo yo:Operand) (a b:Value),zo ρ H F a->zo ρ H y' b ->
    ∃ v,(do eqGuard op t xo yo a b; binOp op t a b:Sem Value).run P w=.ok v w/\zo ρ H A v):=by
   split at h
   ·obtain⟨A,h,B⟩:=Nx h; exact⟨A,h,fun _=>B⟩
   ·obtain⟨A,h,B⟩:=Nx h; exact⟨A,h,fun _=>B⟩
   ·obtain⟨A,h,B⟩:=Nx h; exact⟨A,h,fun _=>B⟩
   exact qfu h
  obtain⟨A,h,B⟩:=key;refine⟨_,h,fun lo l bs ρ H w eval s m=>?_⟩;obtain⟨v,D,C⟩:=B l ρ H w x y _ _ (j ρ H _ l (m x (by simp[ke]))) (Y ρ H _ l (m y (by simp[ke])));exact xa s D C
 ·rename_i t x
  obtain⟨F,h,j⟩:=qZ h;split at h
  ·rename_i b
   refine⟨_,h,fun lo l bs ρ H w eval s m=>?_⟩;have rx:=rG (j ρ H _ l (m x (by simp[ke])));exact xa s (v:=.bool !b) (by simp[rx,Op.unary]) Qy
  exact h.elim
 ·rename_i t x
  obtain⟨F,h,j⟩:=qZ h;split at h
  ·rename_i k n
   refine⟨_,h,fun lo l bs ρ H w eval s m=>?_⟩;have rx:=bp (j ρ H _ l (m x (by simp[ke])));exact xa s (v:=.int k (k.wrap (0 - n))) (by simp[rx,Op.unary,Op.intArith]) Zg
  exact h.elim
 ·rename_i x
  obtain⟨F,h,j⟩:=qZ h;split at h
  ·rename_i k off
   refine⟨_,h,fun lo l bs ρ H w eval s m=>?_⟩;have rx:=j ρ H _ l (m x (by simp[ke]));obtain⟨b,I,e⟩:=rx;simp only[execOp,e];exact cv s ⟨b,I,rfl⟩
  ·rename_i row
   refine⟨_,h,fun lo l bs ρ H w eval s m=>?_⟩;have rx:=j ρ H _ l (m x (by simp[ke]));obtain⟨b,o,vs,e,q,c⟩:=rx;simp only[execOp,e];exact cv s ⟨b,o,vs,rfl,q,c⟩
  ·rename_i k z i off
   refine⟨_,h,fun lo l bs ρ H w eval s m=>?_⟩;have rx:=j ρ H _ l (m x (by simp[ke]));obtain⟨b,n,cap,I,e⟩:=rx;simp only[execOp,e];exact cv s ⟨b,n,cap,I,rfl⟩
  exact h.elim
 ·rename_i t x lo hi mx
  obtain⟨F,h,j⟩:=qZ h;obtain⟨A,h,B⟩:=oE h;refine⟨_,h,fun lo' l bs ρ H w eval s m=>?_⟩;obtain⟨Z,u,D,N⟩:=B ρ H w eval _ l (j ρ H _ l (m x (by simp[ke]))) (fun y U=>m y (by simp only[ke]; simp only[Array.mem_append]; exact .inl (.inl (.inr U)))) (fun y U=>m y (by simp only[ke]; simp only[Array.mem_append]; exact .inl (.inr U)))
  subst Z;exact xa s D N
 ·rename_i t n parts
  obtain⟨A,h,B⟩:=Lv h;refine⟨_,h,fun lo' l bs ρ H w eval s m=>?_⟩;obtain⟨v,w',H',D,c,C⟩:=B l ρ H w eval s.sath (fun x j=>m x (by simpa[ke]using j))
  simp only[execOp,ka,kc,D,kb,kd];exact Et s c C
 ·rename_i t parts
  have key:∃ A,R A/\(gOn g->∀ (ρ:List Value) (H:PH) (w:World) (eval:Operand->Value),(∀ x∈parts.map (·.2),zo ρ H (evF (qv E) x) (eval x)) ->
   ∃ v,(Instr.build t (parts.map fun(i,x)=>(i,eval x)).toArray).run P w=.ok v w/\zo ρ H A v):=by
   rcases Hk h with h|h
   ·exact lG h
   exact oq h
  clear h;obtain⟨A,h,B⟩:=key;refine⟨_,h,fun lo' l bs ρ H w eval s m=>?_⟩;obtain⟨v,D,C⟩:=B l ρ H w eval (fun x j=>m x (by simpa[ke]using j))
  simp only[execOp,ka];exact xa s D C
 ·rename_i x i
  obtain⟨F,h,j⟩:=qZ h;split at h
  ·rename_i vs
   obtain⟨c,J,h⟩:=xk h;refine⟨_,h,fun lo l bs ρ H w eval s m=>?_⟩;have rx:=j ρ H _ l (m x (by simp[ke]));simp only[zo,zn]at rx;obtain⟨us,e,q⟩:=rx;obtain⟨v,hv,C⟩:=q.get J;exact xa s (v:=v) (by simp[e,Instr.extract,hv]) C
  ·rename_i a b
   split at h
   ·refine⟨_,h,fun lo l bs ρ H w eval s m=>?_⟩
    obtain⟨u,v,e,N,C⟩:=j ρ H _ l (m x (by simp[ke]));exact xa s (v:=u) (by simp[e,Instr.extract]) N
   ·refine⟨_,h,fun lo l bs ρ H w eval s m=>?_⟩
    obtain⟨u,v,e,N,C⟩:=j ρ H _ l (m x (by simp[ke]));exact xa s (v:=v) (by simp[e,Instr.extract]) C
   exact h.elim
  ·rename_i ok a b
   have cut:∀ {ρ:List Value} {H:PH} {u:Value},ok=true->zo ρ H (.nxt ok a b) u->∃ y z,u=.tuple #[.bool true,y,z]/\zn H a y/\zn H b z:=by
    intro ρ H u hok r;simp only[zo,hok,if_true]at r;exact r
   split at h
   ·refine⟨_,h,fun lo l bs ρ H w eval s m=>?_⟩
    have r:=j ρ H _ l (m x (by simp[ke]));cases ok with
    | true=>
     obtain⟨u,v,e,_,_⟩:=cut rfl r;exact xa s (v:=.bool true) (by simp[e,Instr.extract]) Qy
    | false=>
     simp only[zo,Bool.false_eq_true,if_false]at r;exact xa s (v:=.bool false) (by simp[r,Instr.extract]) Qy
   ·refine⟨_,h.2,fun lo l bs ρ H w eval s m=>?_⟩
    obtain⟨u,v,e,N,C⟩:=cut (Qi h.1 l) (j ρ H _ l (m x (by simp[ke])));exact xa s (v:=u) (by simp[e,Instr.extract]) N
   ·refine⟨_,h.2,fun lo l bs ρ H w eval s m=>?_⟩
    obtain⟨u,v,e,N,C⟩:=cut (Qi h.1 l) (j ρ H _ l (m x (by simp[ke])));exact xa s (v:=v) (by simp[e,Instr.extract]) C
   exact h.elim
  exact h.elim
 ·rename_i t x
  obtain⟨F,h,j⟩:=qZ h;obtain⟨p,h,hp⟩:=tH h;split at h
  ·exact h.elim
  ·rename_i d hd hu
   refine⟨_,h,fun lo l bs ρ H w eval s m=>?_⟩;have rx:=hp ρ H _ (j ρ H _ l (m x (by simp[ke])));refine xa s (v:=.iface t (eval x)) ?_ (by simp only[zo,zn]; exact⟨_,rfl,rx⟩);simp only[Instr.makeInterface,kc,kru hu,kb];rfl
  exact h.elim
 ·rename_i x t
  obtain⟨F,h,j⟩:=qZ h;obtain⟨A,h,B⟩:=qfy h;refine⟨_,h,fun lo l bs ρ H w eval s m=>?_⟩;obtain⟨v,D,C⟩:=B ρ H w ty _ (j ρ H _ l (m x (by simp[ke,kf])));simp only[execOp,resolve,invoke,builtin,kc,kd,kb,ka,jk,jN,D];exact cv s C
 ·rename_i f xs ts
  obtain⟨vs,h,hvs⟩:=XL h;obtain⟨ps,h,hps⟩:=Xj h;obtain⟨r,J,h⟩:=h;refine⟨_,h,fun lo l bs ρ H w eval s m=>?_⟩;have J:=Qi J l;have rl:=hps ρ H _ (hvs ρ H eval l (fun y U=>m y (by simp[ke,kf,U])))
  have:=J H w _ s.sath rl;have hf:(eval (.func f))=.func (.func f) #[] #[]:=by
   have:=m (.func f) (by simp[ke,kf]);simpa[evF,zo,zn]using this
  simp only[execOp,resolve,Deferred.ofValue,invoke,hf,kc,kd,kb,ka,Array.empty_append,Array.append_empty];exact VR s this
 obtain⟨A,h,B⟩:=lJ (dst:=dst) (ty:=ty) (pos:=pos) (after:=after) (guard:=guard) h;exact⟨A,h,B⟩
theorem lj {H:PH} {w:World} (s:SatH H w) {b o:Nat} {v:Value} (h:H b o=some v):w.cell? ⟨b,o,none⟩=some v:=(s.cell b o v h).1
theorem sF {w:World} {t:TypeId} {d:TypeDesc} {i:TypeInfo} (f:P.underlying t=some d) (g:P.info? t=some i) {b o:Nat} {vs:List Value}
  (h:∀ j v,vs[j]? =some v->w.cell? ⟨b,o+j,none⟩=some v) (k:i.size<=vs.length) (a:qll d=true) :
  (Instr.loadAt t (.pointer (some ⟨b,o,none⟩))).run P w=.ok (.agg (vs.take i.size).toArray) w:=by
 have e:(loadCells ⟨b,o,none⟩ (vs.take i.size).length).run P w=.ok (vs.take i.size).toArray w:=
  run_loadCells_list (P:=P) w ⟨b,o,none⟩ (vs.take i.size) (fun j v c=>by
   rw[Addr.add_lit];rw[jE]at c;split at c
   ·exact h j v c
   cases c)
 rw[jt,Nat.min_eq_left k]at e;simp[Instr.loadAt,Instr.sureAddr,loadVar,aA f,a,Go.sizeOf,typeInfo,g,e]
theorem tL {w:World} {t:TypeId} {d:TypeDesc} (c:P.underlying t=some d) {b o:Nat} {v:Value}
  (e:w.cell? ⟨b,o,none⟩=some v) (a:qll d=false):(Instr.loadAt t (.pointer (some ⟨b,o,none⟩))).run P w=.ok v w:=by
 simp[Instr.loadAt,Instr.sureAddr,loadVar,aA c,a,e]
theorem EG {t:TypeId} {lo:List AObj} {E:FV} {R:FV->Prop} (h:Vh P t lo E R) :
  ∃ F,R F/\∀ (bs:Base) (ρ:List Value) (H:PH) (w:World) (v:Value),SatW bs ρ H lo w->zo ρ H E v->∃ a u,v=.pointer (some a)/\(Instr.loadAt t v).run P w=.ok u w/\zo ρ H F u:=by
 unfold Vh at h;split at h
 ·rename_i k off
  obtain⟨ob,m,h⟩:=xk h;split at h
  ·rename_i bt cells
   obtain⟨h,G⟩:=Qh h;obtain⟨d,i,n,z,h⟩:=th h;split at h
   ·rename_i e
    obtain⟨h,o⟩:=Qo h;split at h
    ·refine⟨_,h,fun bs ρ H w v s l=>?_⟩
     obtain⟨b,p,rfl⟩:=l;obtain⟨I,vs,x,g,f,_⟩:=s.objs k _ _ m p;cases x;refine⟨_,_,rfl,sF n z (GI g off) (by rw[jM]at o ⊢; rw[f.length]; exact o) e,?_⟩;exact⟨_,rfl,LR ((f.drop off).take _)⟩
    obtain⟨L,h,A⟩:=Xj h;refine⟨_,h,fun bs ρ H w v s l=>?_⟩;obtain⟨b,p,rfl⟩:=l;obtain⟨I,vs,x,g,f,_⟩:=s.objs k _ _ m p;cases x;refine⟨_,_,rfl,sF n z (GI g off) (by rw[jM]at o ⊢; rw[f.length]; exact o) e,?_⟩;simp only[zo,zn];exact⟨_,rfl,A _ _ _ ((f.drop off).take _)⟩
   rename_i e;split at h
   ·rename_i c r J
    refine⟨_,h,fun bs ρ H w v s l=>?_⟩;obtain⟨b,p,rfl⟩:=l;obtain⟨I,vs,x,g,f,_⟩:=s.objs k _ _ m p;cases x;have y:=f.drop off;rw[J]at y;obtain⟨v,B,C,D,_⟩:=y;have:=GI g off 0 v (by rw[C]; simp);exact⟨_,_,rfl,tL n (by simpa using this) e,D⟩
   exact h.elim
  exact h.elim
 ·rename_i row
  obtain⟨d,i,n,z,h⟩:=th h;split at h
  ·rename_i e
   obtain⟨h,o⟩:=Qo h;refine⟨_,h,fun bs ρ H w v s l=>?_⟩;obtain⟨b,o',vs,rfl,q,c⟩:=l;refine⟨_,_,rfl,sF n z (fun j v K=>lj s.sath (c j v K)) (by rw[q.length]; exact o) e,?_⟩
   simp only[zo,zn];exact⟨_,rfl,q.take _⟩
  rename_i e;split at h
  ·rename_i c0 r J
   refine⟨_,h,fun bs ρ H w v s l=>?_⟩;obtain⟨b,o',vs,rfl,q,c⟩:=l;simp only[zS]at q;obtain⟨u,B,C,D,_⟩:=q;have:=lj s.sath (c 0 u (by rw[C]; simp));exact⟨_,_,rfl,tL n (by simpa using this) e,D⟩
  exact h.elim
 exact h.elim
theorem oB {o:Oper} {t:TypeId} {x:Operand} (d:o.op=.load t x) {E:Env} {g:G} {lo:List AObj} {R:FV->Prop} (h:evS E g x fun x=>Vh P t lo x R) :
  ∃ b,R b/\du P o (qv E) lo g b lo:=by
 obtain⟨l,h,c⟩:=qZ h;obtain⟨b,h,e⟩:=EG h;refine⟨_,h,fun f bs ρ H w eval s i=>?_⟩;obtain⟨a,u,_,j,k⟩:=e bs ρ H w _ s (c ρ H _ f (i x (by simp[d,ke])));simp only[execOp,d];exact xa s j k
theorem ou {o:Oper} {c d:TypeId} {x:Operand} (e:o.op=.convert c d x) {E:Env} {g:G} {lo:List AObj} {R:FV->Prop} (h:evS E g x fun x=>Hs P g c d lo x R) :
  ∃ a,R a/\du P o (qv E) lo g a lo:=by
 obtain⟨m,h,b⟩:=qZ h;obtain⟨a,h,i⟩:=Bt h;refine⟨_,h,fun f bs ρ H w eval s j=>?_⟩;obtain⟨u,k,l⟩:=i f bs ρ H w _ s (b ρ H _ f (j x (by simp[e,ke])));simp only[execOp,e];exact xa s k l
end
end Ax
end
section
namespace Ax
open Go
theorem rJ.length {H:PH} {z:Nat}:∀ {rows:List (List PV)} {vs:List Value},rJ H z rows vs->vs.length=rows.length * z
 | [],_,x=>by simp only[rJ]at x; simp[x]
 | r::rs,vs,x=>by
  simp only[rJ]at x;obtain⟨hz,a,b,rfl,q,y⟩:=x;rw[jb,q.length,hz,y.length,ja,Nat.add_mul,Nat.one_mul,Nat.add_comm]
theorem rJ.append {H:PH} {z:Nat}:∀ {rows c:List (List PV)} {vs us:List Value},rJ H z rows vs->rJ H z c us->rJ H z (rows++c) (vs++us)
 | [],_,vs,us,x,y=>by simp only[rJ]at x; simpa[x]using y
 | r::rs,_,vs,us,x,y=>by
  obtain⟨hz,a,b,e,q,d⟩:=x;exact⟨hz,a,b++us,by rw[e,js],q,d.append y⟩
theorem Qg.flat {H:PH} {b z:Nat}:∀ {o:Nat} {rows:List (List PV)},Qg H b z o rows->∃ vs,rJ H z rows vs/\∀ j v,vs[j]? =some v->H b (o+j)=some v
 | o,[],_=>⟨[],rfl,fun j v h=>by simp at h⟩
 | o,r::rs,x=>by
  simp only[Qg]at x;obtain⟨hz,⟨vs,q,c⟩,f⟩:=x;obtain⟨us,y,c'⟩:=f.flat;refine⟨vs++us,⟨hz,vs,us,rfl,q,y⟩,fun j v a=>?_⟩;have g:vs.length=z:=by rw[q.length,hz]
  rcases Nat.lt_or_ge j vs.length with d|d
  ·rw[jB d]at a; exact c j v a
  rw[jC d]at a;have:=c' _ _ a;have e:o+z+(j - vs.length)=o+j:=by omega
  rwa [e]at this
theorem rJ.unflat {H:PH} {b z:Nat}:∀ {o:Nat} {rows:List (List PV)} {vs:List Value},rJ H z rows vs->(∀ j v,vs[j]? =some v->H b (o+j)=some v)->Qg H b z o rows
 | _,[],_,_,_=>by simp[Qg]
 | o,r::rs,vs,x,c=>by
  obtain⟨hz,a,f,rfl,q,y⟩:=x;have e:a.length=z:=by rw[q.length,hz]
  simp only[Qg];refine⟨hz,⟨a,q,fun j v d=>c j v ?_⟩,y.unflat fun j v d=>?_⟩
  ·have:=(jG.1 d).1
   rw[jB this]; exact d
  have:=c (z+j) v (by rw[jC (by omega)]; rw[e,Nat.add_sub_cancel_left]; exact d)
  rwa [← Nat.add_assoc]at this
theorem EZ {H:PH} {rows:List (List PV)} {v:Value} {z:Nat} (h:zn H (.sl rows) v) (hz:∀ r∈rows,r.length=z) :
  (rows=[]/\(v=.slice none 0 0\/∃ a cap,v=.slice (some a) 0 cap))\/∃ b o cap vs,v=.slice (some ⟨b,o,none⟩) rows.length cap/\rows.length<=cap/\rJ H z rows vs/\∀ j u,vs[j]? =some u->H b (o+j)=some u:=by
 simp only[zn]at h;rcases h with h|⟨b,o,f,cap,e,d,r⟩
 ·exact .inl h
 refine .inr ⟨b,o,cap,?_⟩;cases rows with
 | nil=>exact⟨[],e,d,rfl,fun j u h=>by simp at h⟩
 | cons r0 rs=>
  have:f=z:=by
   simp only[Qg]at r;rw[← r.1]; exact hz r0 (by simp)
  subst this;obtain⟨vs,y,c⟩:=r.flat;exact⟨vs,e,d,y,c⟩
theorem SatW.kill {bs:Base} {ρ:List Value} {H:PH} {lo:List AObj} {w:World} (s:SatW bs ρ H lo w) (k:Nat):SatW bs ρ H (lo.set k .dead) w where
 sath:=s.sath
 hlen:=by simpa using s.hlen
 pre:=s.pre
 objs:=fun i o v a d=>by
  rw[jF]at a;split at a
  ·split at a
   ·cases a; trivial
   cases a
  ·exact s.objs i o v a d
 excl:=fun i j o o' v v' b a c d g h e f l=>by
  rw[jF]at a c;split at a
  ·split at a
   ·cases a; simp[AObj.live]at e
   cases a
  ·split at c
   ·split at c
    ·cases c; simp[AObj.live]at f
    cases c
   ·exact s.excl i j o o' v v' b a c d g h e f l
 own:=fun i o v b a d e l=>by
  rw[jF]at a;split at a
  ·split at a
   ·cases a; simp[AObj.live]at e
   cases a
  ·exact s.own i o v b a d e l
 keep:=s.keep
 leH:=s.leH
 newH:=s.newH
theorem SatW.push {bs:Base} {ρ:List Value} {H H':PH} {lo:List AObj} {w w':World} (s:SatW bs ρ H lo w) {v:Value} {o:AObj} {g:Nat}
  (d:zy v=some g\/zy v=none)
  (hfree:∀ (k:Nat) (o':AObj) (v':Value),lo[k]? =some o'->ρ[k]? =some v'->o'.live=true->zy v'≠some g)
  (p:bs.S g\/bs.w0.heap.size<=g) (t:PH.le H H') (z:SatH H' w')
  (q:∀ b o v,H' b o=some v->(∃ v,H b o=some v)\/b=g) (hkeep:Keep (fun b=>b=g) w w')
  (G:UQ (ρ++[v]) H' w' v o):SatW bs (ρ++[v]) H' (lo++[o]) w' where
 sath:=z
 hlen:=by simp[s.hlen]
 pre:=s.pre.trans (List.prefix_append _ _)
 objs:=fun i ob u a hu=>by
  rw[List.getElem?_append]at a hu;rw[s.hlen]at hu;split at a
  ·rename_i f
   simp only[f,if_true]at hu;cases A:ob.live with
   | false=>cases ob<;>simp[AObj.live]at A; trivial
   | true=>
    refine(s.objs i ob u a hu).keep (List.prefix_append _ _) t (fun b c B=>hkeep.block b B (fun e=>hfree i ob u a hu A (by rw[c,e]))) (fun b o' c _ M=>?_)
    cases J:H' b o' with
    | none=>rfl
    | some x=>
     rcases q b o' x J with ⟨y,F⟩|e
     ·rw[M]at F; cases F
     exact absurd (by rw[c,e]) (hfree i ob u a hu A)
  rename_i f;simp only[f,if_false]at hu;have h1:=(jG.1 a).1;simp at h1;have C:i - lo.length=0:=by omega
  rw[C]at a hu;simp at a hu;subst a; subst hu;exact G
 excl:=fun i j oi oj K L b a r l m I D E c=>by
  rw[List.getElem?_append]at a r l m;rw[s.hlen]at l m;have last:∀ {x:Nat} {ob:AObj} {u:Value},¬ x<lo.length->[o][x - lo.length]? =some ob->[v][x - lo.length]? =some u->x=lo.length/\u=v:=by
   intro x ob u J h1 h2;have:=(jG.1 h1).1;simp at this;have C:x - lo.length=0:=by omega
   rw[C]at h2;simp at h2;exact⟨by omega,h2.symm⟩
  by_cases h1:i<lo.length<;>by_cases h2:j<lo.length<;>simp only[h1,h2,if_true,if_false]at a r l m
  ·exact s.excl i j oi oj K L b a r l m I D E c
  ·obtain⟨_,rfl⟩:=last h2 r m
   intro n;rcases d with d|d
   ·rw[d]at n; cases n; exact hfree i oi K a l D c
   rw[d]at n; cases n
  ·obtain⟨_,rfl⟩:=last h1 a l
   intro n;rcases d with d|d
   ·rw[d]at c; cases c; exact hfree j oj L r m E n
   rw[d]at c; cases c
  obtain⟨N,_⟩:=last h1 a l;obtain⟨O,_⟩:=last h2 r m;omega
 own:=fun i ob u b a hu A c=>by
  rw[List.getElem?_append]at a hu;rw[s.hlen]at hu;split at a
  ·rename_i f
   simp only[f,if_true]at hu;exact s.own i ob u b a hu A c
  rename_i f;simp only[f,if_false]at hu;have h1:=(jG.1 a).1;simp at h1;have C:i - lo.length=0:=by omega
  rw[C]at hu;simp at hu;subst hu;rcases d with d|d
  ·rw[d]at c; cases c; exact p
  rw[d]at c; cases c
 keep:=s.keep.step hkeep (fun i a=>by
  subst a;rcases p with h|h
  ·exact .inl h
  exact .inr h)
 leH:=s.leH.trans t
 newH:=fun b o v c=>by
  rcases q b o v c with ⟨y,F⟩|e
  ·exact s.newH b o y F
  subst e; exact .inr p
theorem SatW.fresh {bs:Base} {ρ:List Value} {H:PH} {lo:List AObj} {w:World} (s:SatW bs ρ H lo w) {g:Nat} (r:w.heap.size<=g) :
  ∀ (k:Nat) (o':AObj) (v':Value),lo[k]? =some o'->ρ[k]? =some v'->o'.live=true->zy v'≠some g:=fun k o v m p q f=>by
 have:=s.objs k o v m p;cases o with
 | dead=>simp[AObj.live]at q
 | box t cells=>
  obtain⟨b,vs,rfl,a,_⟩:=this;simp[zy]at f;have:=vo a;omega
 | tail e z n=>
  obtain⟨xs,h,_⟩:=this;rcases h.2 with ⟨rfl,_⟩|⟨i,cap,cur,rfl,_,a,_⟩
  ·simp[zy]at f
  simp[zy]at f;have:=vo a;omega
 | vec e z n=>
  obtain⟨xs,h,_⟩:=this;rcases h.2 with ⟨rfl,_⟩|⟨i,cap,cur,rfl,_,a,_⟩
  ·simp[zy]at f
  simp[zy]at f;have:=vo a;omega
 | mp d es mk=>
  obtain⟨b,ents,clock,rfl,a,_⟩:=this;simp[zy]at f;have:=vo a;omega
 | sit l pos=>
  obtain⟨b,rfl,a,_⟩:=this;simp[zy]at f;have:=vo a;omega
 | bv l=>
  obtain⟨b,cs,e,cap,lo,x,rfl,a,_⟩:=this;simp[zy]at f;have:=vo a;omega
 | pbx t c=>
  obtain⟨b,u,us,rfl,a,_⟩:=this;simp[zy]at f;have:=vo a;omega
 | vl e z rows j k=>
  obtain⟨xs,h,_⟩:=this;rcases h.2 with ⟨rfl,_⟩|⟨i,cap,cur,rfl,_,a,_⟩
  ·simp[zy]at f
  simp[zy]at f;have:=vo a;omega
theorem tf (w:World) (o:Obj) (g:Nat):Keep (fun b=>b=g) w (w.alloc o):=
 ⟨rfl,rfl,rfl,by simp,fun k a _=>heap_alloc_old w o a⟩
theorem tI (w:World) (o:Obj) (g:Nat):Keep (fun b=>b=g) w (w.drew.alloc o):=
 ⟨rfl,rfl,rfl,by simp,fun k a _=>heap_alloc_old w.drew o a⟩
theorem rH {H:PH} {w:World} (s:SatH H w) (o:Obj):SatH H (w.alloc o):=⟨fun b p v a=>by
 refine⟨?_,(s.cell b p v a).2⟩;rw[World.cell?_alloc_lt (h:=s.lt a)];exact(s.cell b p v a).1,s.root⟩
theorem SatW.pushBox {bs:Base} {ρ:List Value} {H:PH} {lo:List AObj} {w:World} (s:SatW bs ρ H lo w) {t:TypeId} {cells:List FV} {vs:List Value} (a:xL ρ H cells vs) :
  SatW bs (ρ++[.pointer (some ⟨w.heap.size,0,none⟩)]) H (lo++[.box t cells]) (w.alloc (.cells vs.toArray t)):=by
 refine s.push (g:=w.heap.size) (.inl rfl) (s.fresh (jw _)) (.inr s.keep.size) (PH.le.refl H) (rH s.sath _) (fun b o v h=>.inl ⟨v,h⟩) (tf w _ _) ?_;refine⟨w.heap.size,vs,rfl,heap_alloc_new w _,a.mono (List.prefix_append _ _) (PH.le.refl H),fun o=>?_⟩;cases c:H w.heap.size o with
 | none=>rfl
 | some x=>exact absurd (s.sath.lt c) (jR _)
theorem MX {ρ:List Value} {H:PH}:∀ {a:List FV} {vs:List Value},UJ a=true->xL ρ H a vs->∀ u∈vs,u.oneCell'=true
 | [],vs,_,r,u,hu=>by simp only[xL]at r; simp[r]at hu
 | f::a,vs,h,r,u,hu=>by
  simp only[UJ]at h;split at h
  ·rename_i h1
   obtain⟨v,b,rfl,c,rs⟩:=r;rcases jg.1 hu with rfl|hu
   ·exact(Ql h1 c).2
   exact MX h rs u hu
  cases h
theorem Bo:∀ {c:FV} {R:List FV->Prop},Df c R->∃ cs,R cs/\∀ (ρ:List Value) (H:PH) (vs:List Value),zo ρ H c (.tuple vs.toArray)->xL ρ H cs vs
 | .cap0,R,h=>⟨[],h,fun ρ H vs r=>by
   simp only[zo,Value.tuple.injEq]at r;simpa[xL]using r⟩
 | .cap a b,R,h=>by
  simp only[Df]at h;obtain⟨i,h,d⟩:=Bo h;refine⟨_,h,fun ρ H vs r=>?_⟩;obtain⟨u,us,e,f,g⟩:=r;have e:vs=u::us:=by simpa using e
  subst e;exact⟨u,us,rfl,f,d _ _ _ g⟩
 | .top,_,h|.p _,_,h|.opt _ _,_,h|.tsl _ _,_,h|.ptr _ _,_,h|.hptr _,_,h|.bself _,_,h|.bsl _ _ _ _,_,h|.vsl _ _,_,h|.eptr _ _ _ _,_,h|.mref _,_,h|.pair _ _,_,h|.stmp _,_,h|.clo _ _,_,h|.fagg _,_,h|.nxt _ _ _,_,h|.asl _ _ _,_,h=>by
  simp[Df]at h
theorem Ug {f:FV} {R:List FV->Prop} (h:XI f R):∃ cs,R cs/\∀ (ρ:List Value) (H:PH) (x:Value),zo ρ H f x->xL ρ H cs x.cells.toList:=by
 unfold XI at h;split at h
 ·rename_i cs
  refine⟨_,GM h,fun ρ H x r=>?_⟩;simp only[zo,zn]at r;obtain⟨vs,rfl,q⟩:=r;simpa[Value.cells]using xL.of_RepL q
 ·rename_i c
  obtain⟨cs,h,a⟩:=Bo h;refine⟨_,h,fun ρ H x r=>?_⟩;obtain⟨vs,rfl,rc⟩:=r;simpa[Value.cells]using a ρ H vs rc
 split at h
 ·rename_i h1
  refine⟨_,h,fun ρ H x r=>?_⟩;rw[(Ql h1 r).1];exact⟨x,[],rfl,r,rfl⟩
 exact h.elim
theorem He {P:Program} {t:TypeId} {R:List PV->Prop} (h:qar P t R):∃ i z a,P.info? t=some i/\i.zero=some z/\R a/\∀ H,zS H a z.cells.toList:=by
 unfold qar at h;split at h
 ·rename_i i e
  split at h
  ·rename_i vs hz
   obtain⟨a,b,c⟩:=VI h;exact⟨i,_,a,e,hz,b,fun H=>by simpa[Value.cells]using c H⟩
  ·rename_i v d hz
   obtain⟨a,b,c⟩:=VI h;refine⟨i,v,a,e,hz,b,fun H=>?_⟩;have:v.cells = #[v]:=by
    cases v<;>first|rfl|skip
    rename_i cs;exact absurd rfl (d cs.toList)
   rw[this];simpa using c H
  exact h.elim
 exact h.elim
theorem SatW.setBox {bs:Base} {ρ:List Value} {H:PH} {lo:List AObj} {w:World} (s:SatW bs ρ H lo w) {k b:Nat} {t:TypeId} {old cells:List FV} {n vs:List Value}
  (m:lo[k]? =some (.box t old)) (p:ρ[k]? =some (.pointer (some ⟨b,0,none⟩))) (D:w.heap[b]? =some (.cells n.toArray t (0,0))) (B:∀ o,H b o=none)
  (E:xL ρ H cells vs):SatW bs ρ H (lo.set k (.box t cells)) (w.setRow b vs.toArray) where
 sath:=s.sath.block fun d o v f=>setRow_other w b d _ (fun e=>by subst e; rw[B o]at f; cases f)
 hlen:=by simpa using s.hlen
 pre:=s.pre
 objs:=fun i o v a c=>by
  rw[jF]at a;split at a
  ·rename_i e
   subst e;split at a
   ·cases a
    rw[p]at c;cases c;exact⟨b,vs,rfl,setRow_heap w b _ _ t _ D,E,B⟩
   cases a
  ·rename_i g
   cases l:o.live with
   | false=>cases o<;>simp[AObj.live]at l; trivial
   | true=>
    have q:=s.excl k i _ o _ v b m a p c g rfl l rfl;exact(s.objs i o v a c).keep (jq _) (PH.le.refl H) (fun d r _=>setRow_other w b d _ (fun e=>q (by rw[r,e]))) (fun d o' _ _ F=>F)
 excl:=fun i j oi oj G I d a C u y g z A f=>by
  rw[jF]at a C;have live:∀ {x:Nat} {ob:AObj},(if k=x then if k<lo.length then some (AObj.box t cells)else none else lo[x]?)=some ob->ob.live=true->∃ o',lo[x]? =some o'/\o'.live=true:=by
   intro x ob h l;split at h
   ·rename_i e; subst e; exact⟨_,m,rfl⟩
   exact⟨ob,h,l⟩
  obtain⟨o1,h1,J⟩:=live a z;obtain⟨o2,h2,K⟩:=live C A;exact s.excl i j o1 o2 G I d h1 h2 u y g J K f
 own:=fun i o v d a c l f=>by
  rw[jF]at a;split at a
  ·rename_i e; subst e; exact s.own k _ v d m c rfl f
  exact s.own i o v d a c l f
 keep:=s.keep.step (S':=fun x=>x=b) ⟨rfl,rfl,rfl,by simp,fun x _ L=>setRow_other w b x _ L⟩ (fun i a=>by
  subst a;exact s.own k _ _ i m p rfl rfl)
 leH:=s.leH
 newH:=s.newH
end Ax
end
section
namespace Ax
open Go
theorem SatW.upd {bs:Base} {ρ:List Value} {H:PH} {lo:List AObj} {w w':World} (s:SatW bs ρ H lo w) {k b:Nat} {o o':AObj} {v:Value}
  (n:lo[k]? =some o) (q:ρ[k]? =some v) (p:o.live=true) (D:zy v=some b) (F:∀ i,H b i=none) (hkeep:Keep (fun x=>x=b) w w') (r:UQ ρ H w' v o'):SatW bs ρ H (lo.set k o') w' where
 sath:=s.sath.block fun f i u hu=>hkeep.block f (s.sath.lt hu) (fun e=>by subst e; rw[F i]at hu; cases hu)
 hlen:=by simpa using s.hlen
 pre:=s.pre
 objs:=fun i oi l c a=>by
  rw[jF]at c;split at c
  ·rename_i e
   subst e;split at c
   ·cases c
    rw[q]at a;cases a;exact r
   cases c
  ·rename_i m
   cases d:oi.live with
   | false=>cases oi<;>simp[AObj.live]at d; trivial
   | true=>
    have t:=s.excl k i _ oi _ l b n c q a m p d D;exact(s.objs i oi l c a).keep (jq _) (PH.le.refl H) (fun f y z=>hkeep.block f z (fun e=>t (by rw[y,e]))) (fun f L _ _ G=>G)
 excl:=fun i j oi oj l I f c E a A m d B g=>by
  rw[jF]at c E;have live:∀ {x:Nat} {ob:AObj},(if k=x then if k<lo.length then some o' else none else lo[x]?)=some ob->ob.live=true->∃ o2,lo[x]? =some o2/\o2.live=true:=by
   intro x ob h C;split at h
   ·rename_i e; subst e; exact⟨_,n,p⟩
   exact⟨ob,h,C⟩
  obtain⟨o1,h1,J⟩:=live c d;obtain⟨o2,h2,K⟩:=live E B;exact s.excl i j o1 o2 l I f h1 h2 a A m J K g
 own:=fun i oi l f c a d g=>by
  rw[jF]at c;split at c
  ·rename_i e; subst e; exact s.own k _ l f n a p g
  exact s.own i oi l f c a d g
 keep:=s.keep.step hkeep (fun i c=>by
  subst c;exact s.own k _ _ i n q p D)
 leH:=s.leH
 newH:=s.newH
def AObj.boxy:AObj->Bool
 | .box _ _=>true
 | .mp _ _ _=>true
 | .pbx _ _=>true
 | _=>false
def vv (b:Bool) (lo lo':List AObj):Prop:=lo.length<=lo'.length/\(b=true->∀ k ob,k<lo.length->ob.boxy=true->(lo[k]? =some ob↔lo'[k]? =some ob))
theorem vv.refl {b:Bool} (lo:List AObj):vv b lo lo:=⟨jw _,fun _ _ _ _ _=>Iff.rfl⟩
theorem vv.push {b:Bool} {lo:List AObj} (o:AObj):vv b lo (lo++[o]):=⟨by simp,fun _ k ob a _=>by rw[jB a]⟩
theorem vv.set {lo:List AObj} (k:Nat) (o:AObj):vv false lo (lo.set k o):=⟨by simp,fun h=>by cases h⟩
theorem vv.len {lo lo':List AObj} (h:lo'.length=lo.length):vv false lo lo':=⟨by omega,fun h=>by cases h⟩
theorem vv.kill {b:Bool} {lo:List AObj} {c:Nat} {o0:AObj} (o:AObj) (h:lo[c]? =some o0) (f:o0.boxy=false):vv b lo (lo.set c .dead++[o]):=⟨by simp,fun _ k ob d a=>by
 rw[jB (by simpa using d),jF];split
 ·rename_i e
  subst e;rw[if_pos d,h]
  constructor
  ·intro e; cases e; rw[f]at a; cases a
  intro e; cases e; cases a
 exact Iff.rfl⟩
theorem vv.trans {b:Bool} {a c d:List AObj} (h:vv b a c) (k:vv b c d):vv b a d:=
 ⟨Nat.le_trans h.1 k.1,fun e i ob f g=>(h.2 e i ob f g).trans (k.2 e i ob (Nat.lt_of_lt_of_le f h.1) g)⟩
section
variable {P:Program} {w:World}
theorem qc5 {a d:TypeDesc} {b:PV} {R:Prop} (h:oG a d b R):R/\a=d/\∀ (H:PH) (v:Value),zn H b v->MapKept.IsKey d v:=by
 unfold oG at h;split at h
 ·exact⟨h,rfl,fun H v r=>by simp only[zn]at r; subst r; trivial⟩
 ·exact⟨h,rfl,fun H v r=>by simp only[zn]at r; subst r; trivial⟩
 ·split at h
  ·rename_i h1
   split at h
   ·rename_i h2
    have h1:=Qj h1;have h2:=Qj h2;subst h1; subst h2;exact⟨h,rfl,fun H v r=>by simp only[zn]at r; subst r; rfl⟩
   exact h.elim
  exact h.elim
 exact h.elim
theorem lS {t:TypeId} {d:TypeDesc} {a:PV} {R:TypeId->Prop} (h:ql3 P t d a R):∃ kt et,R et/\P.underlying t=some (.map kt et)/\P.underlying kt=some d/\∀ (H:PH) (v:Value),zn H a v->MapKept.IsKey d v:=by
 unfold ql3 at h;split at h
 ·rename_i kt et b
  split at h
  ·rename_i f c
   obtain⟨h2,rfl,e⟩:=qc5 h;exact⟨kt,et,h2,b,c,e⟩
  exact h.elim
 exact h.elim
theorem qep {a b:List UInt8}:(Value.string ⟨a.toArray⟩=Value.string ⟨b.toArray⟩)↔a=b:=by
 constructor
 ·intro h
  injection h with h
  injection h with h
  simpa using h
 rintro rfl; rfl
theorem qfx {H:PH} {d:TypeDesc} {p q:PV} {x y:Value} (hp:zn H p x) (a:zn H q y) (c:MapKept.IsKey d x) (e:MapKept.IsKey d y):qiq p q=true↔y=x:=by
 have b1:∀ {p:PV} {b:Bool},zn H p (.bool b)->p=.bool b:=by
  intro p b h;cases p<;>simp only[zn]at h<;>(try (obtain⟨_,_,_,h,_,_⟩:=h; cases h; done))<;>(try (obtain⟨_,h,_⟩:=h; cases h))<;>(try (rcases h with ⟨_,h|⟨_,_,h⟩⟩|⟨_,_,_,_,h,_⟩<;>cases h))<;>(try (rcases h with ⟨_,h⟩|⟨_,_,h,_⟩<;>cases h; done))<;>try cases h
  rfl
 have b2:∀ {p:PV} {k:IntKind} {n:Int},zn H p (.int k n)->p=.int k n:=by
  intro p k n h;cases p<;>simp only[zn]at h<;>(try (obtain⟨_,_,_,h,_,_⟩:=h; cases h; done))<;>(try (obtain⟨_,h,_⟩:=h; cases h))<;>(try (rcases h with ⟨_,h|⟨_,_,h⟩⟩|⟨_,_,_,_,h,_⟩<;>cases h))<;>(try (rcases h with ⟨_,h⟩|⟨_,_,h,_⟩<;>cases h; done))<;>try cases h
  rfl
 have b3:∀ {p:PV} {b:ByteArray},zn H p (.string b)->∃ l:List UInt8,p=.str l/\b=⟨l.toArray⟩:=by
  intro p b h;cases p<;>simp only[zn]at h<;>(try (obtain⟨_,_,_,h,_,_⟩:=h; cases h; done))<;>(try (obtain⟨_,h,_⟩:=h; cases h))<;>(try (rcases h with ⟨_,h|⟨_,_,h⟩⟩|⟨_,_,_,_,h,_⟩<;>cases h))<;>(try (rcases h with ⟨_,h⟩|⟨_,_,h,_⟩<;>cases h; done))<;>try cases h
  exact⟨_,rfl,rfl⟩
 cases d<;>cases x<;>cases y<;>simp only[MapKept.IsKey]at c e
 ·rw[b1 hp,b1 a]
  simp only[qiq,beq_iff_eq];exact⟨fun h=>by rw[h],fun h=>by injection h with h; exact h.symm⟩
 ·subst c; subst e
  rw[b2 hp,b2 a];simp only[qiq,beq_iff_eq];exact⟨fun h=>by rw[h],fun h=>by injection h with _ h; exact h.symm⟩
 obtain⟨l,rfl,rfl⟩:=b3 hp;obtain⟨m,rfl,rfl⟩:=b3 a;simp only[qiq,beq_iff_eq,qep];exact eq_comm
theorem Nn {H:PH} {d:TypeDesc} {c:PV} {k:Value} (n:zn H c k) (u:MapKept.IsKey d k):∀ (es:List (PV×PV)) (l:List MapEntry) (i:Nat),Lr H es l->(∀ x∈l,MapKept.IsKey d x.key) ->
  (Lw c es=none/\Instr.findNow d k l i=some none/\(∀ x∈l,x.key≠k)/\∀ f,qis c f es=es++[(c,f)]) \/
  ∃ j e p,Lw c es=some p/\Instr.findNow d k l i=some (some (i+j,e.val))/\l[j]? =some e/\e.key=k/\zn H p e.val/\∀ f,qis c f es=es.set j (c,f)
 | [],l,i,r,_=>by
  simp only[Lr]at r;subst r;exact .inl ⟨rfl,rfl,by simp,fun _=>rfl⟩
 | (p,q)::es,l,i,r,h=>by
  obtain⟨e,l',rfl,y,z,rr⟩:=r;have he:=h e (.head _);obtain⟨b,v,g⟩:=MapKept.sameNow_of_keys u he;have o:=qfx n y u he;cases b with
  | true=>
   have s:=g.1 rfl;have a:qiq c p=true:=o.2 s.symm;exact .inr ⟨0,e,q,by simp[Lw,a],by simp[Instr.findNow,v],rfl,s.symm,z,fun f=>by simp[qis,a]⟩
  | false=>
   have t:e.key≠k:=fun q=>by have:=g.2 q.symm; cases this
   have a:qiq c p=false:=by
    cases m:qiq c p with
    | false=>rfl
    | true=>exact absurd (o.1 m) t
   rcases Nn n u es l' (i+1) rr (fun x m=>h x (.tail _ m))with ⟨h1,h2,h3,h4⟩|⟨j,A,B,h1,h2,h3,h4,C,D⟩
   ·refine .inl ⟨by simp[Lw,a,h1],by simp[Instr.findNow,v,h2],fun x m=>?_,fun f=>by simp[qis,a,h4]⟩
    cases m with
    | head=>exact t
    | tail _ m=>exact h3 x m
   ·exact .inr ⟨j+1,A,B,by simp[Lw,a,h1],by simp[Instr.findNow,v,h2]; omega,by simpa using h3,h4,C,fun f=>by simp[qis,a,D]⟩
theorem Lr.length {H:PH}:∀ {es:List (PV×PV)} {l:List MapEntry},Lr H es l->l.length=es.length
 | [],l,r=>by simp only[Lr]at r; simp[r]
 | (_,_)::es,l,r=>by
  obtain⟨e,l',rfl,_,_,rr⟩:=r;simp[rr.length]
theorem Lr.push {H:PH}:∀ {es:List (PV×PV)} {l:List MapEntry} {k v:PV} {e:MapEntry},Lr H es l->zn H k e.key->zn H v e.val->Lr H (es++[(k,v)]) (l++[e])
 | [],l,k,v,e,r,rk,rv=>by
  simp only[Lr]at r;subst r;exact⟨e,[],rfl,rk,rv,rfl⟩
 | (_,_)::es,l,k,v,e,r,rk,rv=>by
  obtain⟨a,l',rfl,b,c,rr⟩:=r;exact⟨a,l'++[e],rfl,b,c,rr.push rk rv⟩
theorem Lr.set {H:PH}:∀ {es:List (PV×PV)} {l:List MapEntry} {j:Nat} {k v:PV} {e:MapEntry},Lr H es l->zn H k e.key->zn H v e.val->Lr H (es.set j (k,v)) (l.set j e)
 | [],l,j,k,v,e,r,rk,rv=>by
  simp only[Lr]at r;subst r;simp[Lr]
 | (_,_)::es,l,j,k,v,e,r,rk,rv=>by
  obtain⟨a,l',rfl,b,c,rr⟩:=r;cases j with
  | zero=>exact⟨e,l',rfl,rk,rv,rr⟩
  | succ j=>exact⟨a,l'.set j e,rfl,b,c,rr.set rk rv⟩
theorem qd4 {t:TypeId} {R:PV->Prop} (h:ea P t R):∃ p z,R p/\(∀ w,(zeroValue t).run P w=.ok z w)/\∀ H,zn H p z:=by
 unfold ea at h;split at h
 ·rename_i i b
  split at h
  ·rename_i vs hz
   obtain⟨c,h,a⟩:=VI h;exact⟨.agg c,.agg ⟨vs⟩,h,fun w=>by simp[zeroValue,typeInfo,b,hz],fun H=>by simp only[zn]; exact⟨vs,rfl,a H⟩⟩
  ·rename_i v d hz
   split at h
   ·rename_i p hp
    exact⟨p,v,h,fun w=>by simp[zeroValue,typeInfo,b,hz],fun H=>Dy hp H⟩
   exact h.elim
  exact h.elim
 exact h.elim
theorem lI {g:G} {t:TypeId} {lo:List AObj} {x key:FV} {ok:Bool} {R:FV->Prop} (h:Um P g t lo x key ok R) :
  ∃ A,R A/\((∃ k o,x=.mref k/\lo[k]? =some o/\o.live=true)/\(gOn g->∀ (bs:Base) (ρ:List Value) (H:PH) (w:World) (a b:Value),SatW bs ρ H lo w->zo ρ H x a->zo ρ H key b ->
   ∃ v,(Instr.lookup t a b ok).run P w=.ok v w/\zo ρ H A v)):=by
 unfold Um at h;split at h
 ·rename_i k O
  have n:=xk h; clear h; obtain⟨o,B,h⟩:=n;split at h
  ·rename_i d es mk
   have n:=lS h; clear h; obtain⟨kt,et,h,r,i,q⟩:=n;have n:=qd4 h; clear h; obtain⟨z,zv,h,hz,C⟩:=n;obtain⟨v,b,u,h⟩:=h;refine⟨_,h,⟨k,_,rfl,B,rfl⟩,fun F bs ρ H w a I s J D=>?_⟩;obtain⟨l,m⟩:=Qi u F;obtain⟨Q,K,rfl⟩:=J;obtain⟨L,ents,clock,e,c,M,⟨N,y,_⟩,_⟩:=s.objs k _ _ B K;cases e;have f:=q H I D;rcases Nn D f es ents.toList 0 M y with ⟨h1,h2,_,_⟩|⟨j,e,p,h1,h2,_,_,E,_⟩
   ·rw[h1]at l m
    simp only[Option.getD_none,Option.isSome_none]at l m;subst l; subst m;cases ok
    ·exact⟨zv,by simp[Instr.lookup,kru r,MapKept.run_getObj_map c,MapKept.run_checkKey i f,MapKept.run_findKey i h2,hz],C H⟩
    exact⟨.tuple #[zv,.bool false],by simp[Instr.lookup,kru r,MapKept.run_getObj_map c,MapKept.run_checkKey i f,MapKept.run_findKey i h2,hz],by
     simp only[zo,zn];exact⟨[zv,.bool false],rfl,by simp only[zS]; exact⟨zv,_,rfl,C H,.bool false,[],rfl,by simp[zn],rfl⟩⟩⟩
   rw[h1]at l m;simp only[Option.getD_some,Option.isSome_some]at l m;subst l; subst m;cases ok
   ·exact⟨e.val,by simp[Instr.lookup,kru r,MapKept.run_getObj_map c,MapKept.run_checkKey i f,MapKept.run_findKey i h2],E⟩
   exact⟨.tuple #[e.val,.bool true],by simp[Instr.lookup,kru r,MapKept.run_getObj_map c,MapKept.run_checkKey i f,MapKept.run_findKey i h2],by
    simp only[zo,zn];exact⟨[e.val,.bool true],rfl,by simp only[zS]; exact⟨e.val,_,rfl,E,.bool true,[],rfl,by simp[zn],rfl⟩⟩⟩
  exact h.elim
 exact h.elim
theorem qc4 {t:TypeId} {lo:List AObj} {x:FV} {R:FV->Prop} (h:qmx P t lo x R) :
  ∃ c,R c/\∀ (bs:Base) (ρ:List Value) (H:PH) (w:World) (ty:TypeId) (a:Value),SatW bs ρ H lo w->zo ρ H x a->∃ v,(Builtin.len_ #[t] ty #[a]).run P w=.ok v w/\zo ρ H c v:=by
 unfold qmx at h;split at h
 ·rename_i k
  have f:=xk h; clear h; obtain⟨o,g,h⟩:=f;split at h
  ·rename_i d es mk
   split at h
   ·rename_i kt et i
    obtain⟨n,j,h⟩:=h;refine⟨_,h,fun bs ρ H w ty a s l=>⟨.int .i64 n,?_,Zg⟩⟩;obtain⟨r,m,rfl⟩:=l;obtain⟨p,ents,clock,e,b,q,_⟩:=s.objs k _ _ g m;cases e;have:=q.length;simp at this;simp[Builtin.len_,kru i,MapKept.run_getObj_map b,goInt,this,j]
   exact h.elim
  exact h.elim
 exact h.elim
theorem TF (w:World) (b:Nat) (o:Obj):Keep (fun x=>x=b) w { w with heap:=w.heap.setIfInBounds b o }:=
 ⟨rfl,rfl,rfl,by simp,fun k _ a=>by simp[Ne.symm a]⟩
theorem Lt {es:Array MapEntry} {j:Nat} {f:MapEntry->MapEntry} {e:MapEntry} (h:es[j]? =some e):(es.modify j f).toList=es.toList.set j (f e):=by
 apply List.ext_getElem?;intro i;simp only[Array.getElem?_toList,Array.getElem?_modify,jF];by_cases a:j=i
 ·subst a
  obtain⟨h1,h2⟩:=jH.1 h;simp[h1,h2]
 simp[a]
theorem oK {bs:Base} {ρ:List Value} {H:PH} {lo:List AObj} (s:SatW bs ρ H lo w) {t kt et:TypeId} {d:TypeDesc} (D:P.underlying t=some (.map kt et)) (r:P.underlying kt=some d)
  {j:Nat} {es:List (PV×PV)} {mk:Option (PV×Nat)} (z:lo[j]? =some (.mp d es mk)) {m k x:Value} (I:zo ρ H (.mref j) m) {E F:PV} (A:zn H E k) (rx:zn H F x) (o:MapKept.IsKey d k) :
  ∃ w',(Instr.mapUpdate t m k x).run P w=.ok () w'/\SatW bs ρ H (lo.set j (.mp d (qis E F es) none)) w':=by
 obtain⟨l,B,rfl⟩:=I;obtain⟨J,ents,clock,e,a,f,⟨q,g,_⟩,u⟩:=s.objs j _ _ z B;cases e;rcases Nn A o es ents.toList 0 f g with ⟨_,h2,h3,h4⟩|⟨i,e,p,_,h2,h3,G,_,K⟩
 ·refine⟨{ w with heap:=w.heap.setIfInBounds l (.map (ents.push { key:=k,val:=x,born:=clock }) (clock+1)) },?_,s.upd z B rfl rfl u (TF w l _) ?_⟩
  ·simp[Instr.mapUpdate,kru D,MapKept.run_getObj_map a,MapKept.run_checkKey r o,MapKept.run_findKey r h2,MapKept.run_setObj_map _ a]
  refine⟨l,_,_,rfl,(MapKept.heap_set a).1,?_,⟨MapKept.stamped_push q h3,?_,fun _ _ h=>by cases h⟩,u⟩
  ·rw[h4,Array.toList_push]
   exact f.push A rx
  intro y v;simp only[Array.toList_push,jy,List.mem_singleton]at v;rcases v with v|rfl
  ·exact g y v
  exact o
 have C:ents[i]? =some e:=by simpa using h3
 refine⟨{ w with heap:=w.heap.setIfInBounds l (.map (ents.modify i fun e=>{ e with key:=k,val:=x }) clock) },?_,s.upd z B rfl rfl u (TF w l _) ?_⟩
 ·simp[Instr.mapUpdate,kru D,MapKept.run_getObj_map a,MapKept.run_checkKey r o,MapKept.run_findKey r h2,C,G,MapKept.run_keyThatStays o,MapKept.run_setObj_map _ a]
 have c:∀ n,ents[i]? =some n->({ n with key:=k,val:=x }:MapEntry).key=n.key:=fun n b=>by rw[C]at b; cases b; exact G.symm
 refine⟨l,_,_,rfl,(MapKept.heap_set a).1,?_,⟨MapKept.stamped_modify q _ _ (fun _ _=>rfl) (fun n _ b=>c n b),MapKept.isKey_modify g _ _ c,fun _ _ h=>by cases h⟩,u⟩
 rw[K,Lt C];exact f.set A rx
theorem SatW.pushMap {bs:Base} {ρ:List Value} {H:PH} {lo:List AObj} (s:SatW bs ρ H lo w) {d:TypeDesc} :
  SatW bs (ρ++[.map (some w.heap.size)]) H (lo++[.mp d [] none]) (w.alloc (.map #[] 0)):=by
 refine s.push (g:=w.heap.size) (.inl rfl) (s.fresh (jw _)) (.inr s.keep.size) (PH.le.refl H) (rH s.sath _) (fun b o v h=>.inl ⟨v,h⟩) (tf w _ _) ?_;refine⟨w.heap.size,#[],0,rfl,heap_alloc_new w _,rfl,⟨MapKept.stamped_empty 0,by simp,fun _ _ h=>by cases h⟩,fun o=>?_⟩
 cases a:H w.heap.size o with
 | none=>rfl
 | some x=>exact absurd (s.sath.lt a) (jR _)
theorem CC {b:Nat} {l:ByteArray} {p:Nat} (h:w.heap[b]? =some (.stringIter l p)):(getObj b).run P w=.ok (.stringIter l p) w:=by
 simp[getObj,Sem.run,h]
theorem Rt {b:Nat} {l:ByteArray} {p:Nat} (o':Obj) (h:w.heap[b]? =some (.stringIter l p)):(setObj b o').run P w=.ok () { w with heap:=w.heap.setIfInBounds b o' }:=by
 simp[setObj,Sem.run,h]
theorem lz {b:Nat} {o o':Obj} (h:w.heap[b]? =some o):(w.heap.setIfInBounds b o')[b]? =some o':=by
 have:=(jH.1 h).1;simp[this]
theorem TJ {α:Type} {l:List α} {k:Nat} {a:α} (h:l[k]? =some a):l.set k a=l:=by
 apply List.ext_getElem?;intro i;rw[jF];split
 ·rename_i e
  subst e;split
  ·exact h.symm
  rename_i b;simp[List.getElem?_eq_none (Nat.le_of_not_lt b)]
 rfl
theorem SatW.pushSit {bs:Base} {ρ:List Value} {H:PH} {lo:List AObj} (s:SatW bs ρ H lo w) {l:List UInt8} :
  SatW bs (ρ++[.pointer (some ⟨w.heap.size,0,none⟩)]) H (lo++[.sit l 0]) (w.alloc (.stringIter ⟨l.toArray⟩ 0)):=by
 refine s.push (g:=w.heap.size) (.inl rfl) (s.fresh (jw _)) (.inr s.keep.size) (PH.le.refl H) (rH s.sath _) (fun b o v h=>.inl ⟨v,h⟩) (tf w _ _) ?_;refine⟨w.heap.size,rfl,heap_alloc_new w _,fun o=>?_⟩;cases a:H w.heap.size o with
 | none=>rfl
 | some x=>exact absurd (s.sath.lt a) (jR _)
theorem Dr {E:Env} {lo:List AObj} {t:TypeId} {m k x:Operand} {R:FV->List AObj->Prop} (h:TC P E lo t m k x R) :
  ∃ n lo',R n lo'/\lo'.length=lo.length/\∀ (bs:Base) (ρ:List Value) (H:PH) (w:World) (eval:Operand->Value),SatW bs ρ H lo w->zo ρ H (evF (qv E) m) (eval m)->zo ρ H (evF (qv E) k) (eval k)->zo ρ H (evF (qv E) x) (eval x) ->
   ∃ w',(Instr.mapUpdate t (eval m) (eval k) (eval x)).run P w=.ok () w'/\ZN bs ρ H n lo' undef w':=by
 unfold TC at h;have a:=qZ h; clear h; obtain⟨B,h,e⟩:=a;have a:=qZ h; clear h; obtain⟨k',h,f⟩:=a;have a:=qZ h; clear h; obtain⟨C,h,g⟩:=a;have a:=tH h; clear h; obtain⟨D,h,i⟩:=a;split at h
 ·rename_i j F
  have a:=xk h; clear h; obtain⟨o,q,h⟩:=a;split at h
  ·rename_i d es mk
   have a:=lS h; clear h; obtain⟨kt,et,h,r,u,b⟩:=a;obtain⟨v,l,h⟩:=h;obtain⟨h,y⟩:=fg h;refine⟨_,_,h,by simp,fun bs ρ H w eval s z c rx=>?_⟩;have c:=f ρ H _ trivial c;obtain⟨w',A,p⟩:=oK s r u q (e ρ H _ trivial z) c (i ρ H _ (g ρ H _ trivial rx)) (b H _ c);rw[l]at p;exact⟨w',A,ρ,H,jq _,PH.le.refl H,p,by simp[zo,zn,zS,undef]⟩
  exact h.elim
 exact h.elim
theorem qf3 {d:TypeDesc} {R:Prop} (h:qqw d R):R:=by
 unfold qqw at h;split at h<;>first|exact h|exact h.elim
theorem oy {o:Oper} {E:Env} {lo:List AObj} {R:FV->List AObj->Prop} (h:qmw P o.op E lo R):∃ n lo',R n lo'/\vv (Ro o.op) lo lo'/\du P o (qv E) lo none n lo':=by
 obtain⟨dst,op,ty,pos,after,guard⟩:=o;simp only at h;unfold qmw at h;split at h
 ·rename_i t x
  have q:=qZ h; clear h; obtain⟨G,h,i⟩:=q;split at h
  ·rename_i l
   split at h
   ·rename_i B
    have h:=ud h;have h:=gn h;refine⟨_,_,h,vv.push _,fun p bs ρ H w eval s c=>?_⟩;have e:=Xm (i ρ H _ p (c x (by simp[ke])));have f:(Instr.range t (eval x)).run P w=.ok (.pointer (some ⟨w.heap.size,0,none⟩)) (w.alloc (.stringIter ⟨l.toArray⟩ 0)):=by
     simp[Instr.range,e,kru B]
    simp only[execOp,kc,f,kb,kd];refine⟨_,H,List.prefix_append _ _,PH.le.refl H,s.pushSit,w.heap.size,by simp[← s.hlen],rfl⟩
   exact h.elim
  exact h.elim
 ·rename_i x
  have q:=qZ h; clear h; obtain⟨G,h,i⟩:=q;split at h
  ·rename_i k
   have q:=xk h; clear h; obtain⟨o,u,h⟩:=q;split at h
   ·rename_i l pos
    obtain⟨ok,C,⟨b,hp⟩,h⟩:=h;obtain⟨h,g⟩:=fg h;refine⟨_,_,h,vv.set _ _,fun p bs ρ H w eval s c=>?_⟩;obtain⟨r,D,ex⟩:=i ρ H _ p (c x (by simp[ke]));obtain⟨I,e,a,F⟩:=s.objs k _ _ u D;cases e;simp only[execOp,kc,ex];by_cases g:pos<l.length
    ·have b:ok=true:=by rw[← b]; simpa using g
     subst b;have f:(Instr.next (.pointer (some ⟨r,0,none⟩)) true ty).run P w=.ok (.tuple #[.bool true,.int .i64 pos,.int .i32 (qP l pos)]) { w with heap:=w.heap.setIfInBounds r (.stringIter ⟨l.toArray⟩ (xG l pos)) }:=by
      have j:pos<(⟨l.toArray⟩:ByteArray).size:=by rw[ByteArray.size_mk_toArray]; exact g
      simp only[Instr.next,kc,CC a,kb];simp only[j,if_true,kc,Rt _ a,kb,kd];rfl
     simp only[f,kb,kd];refine⟨ρ,H,jq _,PH.le.refl H,?_,?_⟩
     ·refine s.upd u D rfl rfl F (TF w r _) ⟨r,rfl,?_,F⟩
      rw[← hp];exact lz a
     simp only[zo,if_true];exact⟨_,_,rfl,by simp[zn],by simp[zn]⟩
    have b:ok=false:=by rw[← b]; simpa using g
    subst b;have f:(Instr.next (.pointer (some ⟨r,0,none⟩)) true ty).run P w=.ok (.tuple #[.bool false]) w:=by
     have j:¬ pos<(⟨l.toArray⟩:ByteArray).size:=by rw[ByteArray.size_mk_toArray]; exact g
     simp only[Instr.next,kc,CC a,kb];simp only[j,if_false,kd]
    simp only[f,kb,kd];refine⟨ρ,H,jq _,PH.le.refl H,?_,by simp[zo]⟩;have v:C=pos:=by rw[← hp]; rfl
    subst v;rw[show lo.set k (.sit l C)=lo from TJ u];exact s
   exact h.elim
  exact h.elim
 ·rename_i t
  split at h
  ·rename_i kt et B
   split at h
   ·rename_i d J
    have h:=qf3 h;have h:=ud h;have h:=gn h;refine⟨_,_,h,vv.push _,fun p bs ρ H w eval s c=>?_⟩;have f:(Instr.makeMap t none).run P w=.ok (.map (some w.heap.size)) (w.alloc (.map #[] 0)):=rfl;simp only[execOp,Option.map_none,kc,f,kb,kd];exact⟨_,H,List.prefix_append _ _,PH.le.refl H,s.pushMap,w.heap.size,by simp[← s.hlen],rfl⟩
   exact h.elim
  exact h.elim
 ·rename_i t m k x
  obtain⟨n,lo',h,y,z⟩:=Dr h;refine⟨n,lo',h,vv.len y,fun p bs ρ H w eval s c=>?_⟩;obtain⟨w',f,A⟩:=z bs ρ H w eval s (c m (by simp[ke])) (c k (by simp[ke])) (c x (by simp[ke]));simp only[execOp,kc,f,kb,kd];exact A
 ·rename_i t m k x
  obtain⟨n,lo',h,y,z⟩:=Dr h;refine⟨n,lo',h,vv.len y,fun p bs ρ H w eval s c=>?_⟩;obtain⟨w',f,A⟩:=z bs ρ H w eval s (c m (by simp[ke])) (c k (by simp[ke])) (c x (by simp[ke]));simp only[execOp,kc,f,kb,kd];exact A
 exact h.elim
end
end Ax
end
section
namespace Ax
open Go
theorem rJ.get {H:PH} {z:Nat}:∀ {rows:List (List PV)} {vs:List Value} {i:Nat} {r:List PV},rJ H z rows vs->rows[i]? =some r ->
  ∃ a,zS H r a/\∀ j u,a[j]? =some u->vs[i * z+j]? =some u
 | [],_,_,_,_,h=>by simp at h
 | q::rs,vs,i,r,x,h=>by
  obtain⟨hz,a,b,rfl,d,g⟩:=x;have f:a.length=z:=by rw[d.length,hz]
  cases i with
  | zero=>
   simp at h;subst h;refine⟨a,d,fun j u hu=>?_⟩;rw[Nat.zero_mul,jx,jB (jG.1 hu).1];exact hu
  | succ i=>
   obtain⟨c,rc,k⟩:=g.get (i:=i) (by simpa using h);refine⟨c,rc,fun j u hu=>?_⟩;have:=k j u hu;rw[jC (by rw[f,Nat.add_mul]; omega)];have e:(i+1) * z+j - a.length=i * z+j:=by rw[f,Nat.add_mul]; omega
   rw[e];exact this
theorem rJ.over {H:PH} {z:Nat}:∀ {rows:List (List PV)} {vs:List Value} {i off:Nat} {r f:List PV} {c:List Value},rJ H z rows vs->rows[i]? =some r->zS H f c->off+f.length<=r.length ->
  rJ H z (rows.set i (r.take off++f++r.drop (off+f.length))) (vs.take (i * z+off)++c++vs.drop (i * z+off+c.length))
 | [],_,_,_,_,_,_,_,h,_,_=>by simp at h
 | q::rs,vs,i,off,r,f,c,x,h,rp,hle=>by
  obtain⟨hz,a,b,rfl,e,j⟩:=x;have l:a.length=z:=by rw[e.length,hz]
  have k:=rp.length;cases i with
  | zero=>
   simp at h;subst h;have g:off<=a.length:=by rw[e.length]; omega
   have d:off+c.length<=a.length:=by rw[e.length,k]; omega
   refine⟨?_,a.take off++c++a.drop (off+c.length),b,?_,?_,j⟩
   ·simp only[jb,jt,jM]; omega
   ·rw[Nat.zero_mul,jx,List.take_append_of_le_length g,List.drop_append_of_le_length d]
    simp
   rw[k];exact((e.take off).append rp).append (e.drop _)
  | succ i=>
   refine⟨hz,a,b.take (i * z+off)++c++b.drop (i * z+off+c.length),?_,e,j.over (by simpa using h) rp hle⟩;have e1:(i+1) * z+off=a.length+(i * z+off):=by rw[l,Nat.add_mul]; omega
   rw[e1,List.take_length_add_append,Nat.add_assoc a.length,List.drop_length_add_append];simp
theorem qht {α:Type} {cur c:List α} {p m N:Nat} (hp:p+m<=N) (hm:c.length=m) (a:N<=cur.length):(cur.take p++c++cur.drop (p+m)).take N=(cur.take N).take p++c++(cur.take N).drop (p+m):=by
 have h1:(cur.take p++c).length=p+m:=by simp[jt,hm]; omega
 rw[List.take_append,h1,List.take_of_length_le (by omega),List.take_take,Nat.min_eq_left (by omega),List.drop_take]
section
variable {P:Program} {w:World}
theorem qh0 {ρ:List Value} {H:PH} {e:TypeId} {z:Nat} {rows:List (List PV)} {b n cap:Nat} (h:UQ ρ H w (.slice (some ⟨b,0,none⟩) n cap) (.vec e z rows)) :
  ∃ (a:Nat) (cur:Array Value) (xs:List Value),n=rows.length/\w.heap[b]? =some (.cells cur e (0,0))/\rows.length<=a/\a<=maxLen/\cur.size=a * z/\cap=a/\cur.toList.take (rows.length * z)=xs/\rJ H z rows xs/\(∀ u∈xs,u.oneCell'=true)/\∀ o,H b o=none:=by
 obtain⟨xs,c,d,h1,f⟩:=h;rcases c.2 with ⟨e,_⟩|⟨g,a,cur,e,_,i,j,hm,k,l⟩
 ·cases e
 cases e;exact⟨cap,cur,xs,rfl,i,j,hm,k,rfl,l,d,h1,f b rfl⟩
theorem Nu {t:TypeId} {lo:List AObj} {k i off z:Nat} {R:FV->Prop} (h:qbe P t lo k z i off R) :
  ∃ F,R F/\∀ (bs:Base) (ρ:List Value) (H:PH) (w:World) (v:Value),SatW bs ρ H lo w->zo ρ H (.eptr k z i off) v->∃ u,(Instr.loadAt t v).run P w=.ok u w/\zo ρ H F u:=by
 unfold qbe at h;have q:=xk h; clear h; obtain⟨o,G,h⟩:=q;split at h
 ·rename_i e B rows
  obtain⟨row,⟨rfl,x⟩,h⟩:=h;obtain⟨h,I⟩:=Qh h;obtain⟨d,L,A,J,h⟩:=th h;have cells:∀ (bs:Base) (ρ:List Value) (H:PH) (w:World) (v:Value),SatW bs ρ H lo w->zo ρ H (.eptr k B i off) v ->
    ∃ (b:Nat) (a:List Value),v=.pointer (some ⟨b,i * B+off,none⟩)/\zS H row a/\∀ j u,(a.drop off)[j]? =some u->w.cell? ⟨b,i * B+off+j,none⟩=some u:=by
   intro bs ρ H w v s g;obtain⟨b,n,cap,C,rfl⟩:=g;obtain⟨y,cur,xs,rfl,D,K,hm,T,rfl,M,N,h1,U⟩:=qh0 (s.objs k _ _ G C);obtain⟨a,p,m⟩:=N.get x;refine⟨b,a,rfl,p,fun j u hu=>?_⟩;rw[jD]at hu;have:=m _ _ hu;rw[← M,jE]at this;split at this
   ·rw[Nat.add_assoc]
    rw[cell_of_row w b _ _ e _ D];simpa using this
   cases this
  split at h
  ·rename_i f
   obtain⟨h,K⟩:=Qo h;refine⟨_,h,fun bs ρ H w v s g=>?_⟩;obtain⟨b,a,rfl,p,m⟩:=cells bs ρ H w v s g;refine⟨_,sF A J m (by have:=p.length; simp at K ⊢; omega) f,?_⟩;simp only[zo,zn];exact⟨_,rfl,(p.drop off).take _⟩
  rename_i f;split at h
  ·rename_i c r E
   refine⟨_,h,fun bs ρ H w v s g=>?_⟩;obtain⟨b,a,rfl,p,m⟩:=cells bs ρ H w v s g;have rd:=p.drop off;rw[E]at rd;simp only[zS]at rd;obtain⟨u,us,e,O,_⟩:=rd;exact⟨u,tL A (by simpa using m 0 u (by rw[e]; rfl)) f,O⟩
  exact h.elim
 ·rename_i l
  have q:=th h; clear h; obtain⟨d,L,A,J,h⟩:=q;split at h
  ·exact h.elim
  rename_i f;have q:=h; clear h; obtain⟨c,⟨rfl,rfl,m⟩,h⟩:=q;refine⟨_,h,fun bs ρ H w v s g=>?_⟩;obtain⟨b,n,cap,C,rfl⟩:=g;obtain⟨V,cs,X,y,lo',Q,S,D,_,h2,_⟩:=s.objs k _ _ G C;cases S;refine⟨.int .u8 c.toNat,tL A ?_ f,by simp[zo,zn]⟩;simp only[World.cell?,D,Nat.mul_one,Nat.add_zero];exact h2 i c m
 exact h.elim
theorem qma {H:PH} {z:Nat}:∀ {rows:List (List PV)} {vals:List Value},rows.length=vals.length->(∀ r∈rows,r.length=z) ->
  (∀ (i:Nat) (r:List PV) (v:Value),rows[i]? =some r->vals[i]? =some v->zS H r v.cells.toList)->rJ H z rows (vals.flatMap (·.cells.toList))
 | [],[],_,_,_=>rfl
 | [],_::_,hl,_,_=>by simp at hl
 | r::rs,[],hl,_,_=>by simp at hl
 | r::rs,v::vals,hl,hz,a=>⟨hz r (by simp),v.cells.toList,vals.flatMap (·.cells.toList),by rw[List.flatMap_cons],a 0 r v rfl rfl,
   qma (by simpa using hl) (fun r a=>hz r (by simp[a])) (fun i b v' h1 h2=>a (i+1) b v' (by simpa using h1) (by simpa using h2))⟩
theorem rJ.le {H:PH} {z:Nat} {p q:List (List PV)} {vs:List Value} (h:p=q\/Rq p q) (r:rJ H z p vs):rJ H z q vs:=by
 rcases h with rfl|h
 ·exact r
 have go:∀ {p q:List (List PV)} {vs:List Value},Rq p q->rJ H z p vs->rJ H z q vs:=by
  intro p
  induction p with
  | nil=>intro q vs h r; cases q with
   | nil=>exact r
   | cons _ _=>simp[Rq]at h
  | cons a l ih=>intro q vs h r; cases q with
   | nil=>simp[Rq]at h
   | cons b m=>
    simp only[Rq]at h;obtain⟨e,x,y,c,d,f⟩:=r;exact⟨by rw[← e,Bx h.1],x,y,c,XT h.1 d,ih h.2 f⟩
 exact go h r
theorem Lu {E:Env} {g:G} {t:TypeId} {n:Nat} {parts:List (Nat×Operand)} {R:FV->Prop} (h:pa P E g t n parts R) :
  ∃ e i rows,P.underlying t=some (.slice e)/\P.info? e=some i/\R (.p (.sl rows))/\rows.length=n/\n<=maxLen/\(gOn g->∀ (ρ:List Value) (H:PH) (w:World) (eval:Operand->Value),(∀ x∈parts.map (·.2),zo ρ H (evF (qv E) x) (eval x)) ->
   ∃ xs:List Value,(Instr.buildSlice t n (parts.map fun(i,x)=>(i,eval x)).toArray).run P w=.ok (.slice (some ⟨w.heap.size,0,none⟩) n n) (w.alloc (.cells xs.toArray e))/\rJ H i.size rows xs/\∀ u∈xs,u.oneCell'=true):=by
 unfold pa at h;obtain⟨e,i,hu,F,h⟩:=bm h;split at h
 ·rename_i o
  have o:parts.length=n:=jm o;split at h
  ·rename_i I
   split at h
   ·rename_i A
    split at h
    case h_2=>exact h.elim
    rename_i m;split at h
    case h_2=>exact h.elim
    rename_i a J;have:a=i:=Option.some.inj (J.symm.trans F);subst this;split at h
    case h_2=>exact h.elim
    rename_i zv K;obtain⟨ps,h,b,L⟩:=Uv h;obtain⟨rows,h,k,hrows⟩:=EV h;obtain⟨q,d,l,h⟩:=h;have B:d.length=rows.length:=by
     rcases l with rfl|l
     ·rfl
     exact(Ut l).symm
    have C:n<=maxLen:=by
     have a1:=jh m;have a2:1<=a.size:=jh A;have a3:n * 1<=n * a.size:=Nat.mul_le_mul_left n a2;unfold maxLen;omega
    refine⟨e,a,d,hu,F,h,by rw[B,k,b,o],C,fun U ρ H w eval V=>?_⟩;obtain⟨vals,ev,T⟩:=L U ρ H eval V;have hcells:=hrows H vals T;have s:vals.length=n:=by rw[T.length,b,o]
    have M:∀ v∈vals,v.cells.size=a.size:=by
     intro v N;obtain⟨j,D⟩:=List.getElem?_of_mem N;have y:=(jG.1 D).1;have f:j<rows.length:=by rw[k,b,o,← s]; exact y
     have:=(hcells j _ v (jf f) D).length;rw[(q _ (List.getElem_mem f)).1]at this;simpa using this
    obtain⟨cells',X,z⟩:=Di a.size n (fun O=>some (O * a.size,a.size)) (fun j _=>rfl) vals 0 ((Array.range (n * a.size)).map (zv.cells[· % zv.cells.size]!)) M (by omega) (by simp)
    simp only[Nat.zero_mul,List.take_zero,ju]at z;have hone:∀ u∈cells'.toList,u.oneCell'=true:=by
     rw[z];intro u Q;obtain⟨v,N,S⟩:=List.mem_flatMap.1 Q;obtain⟨j,D⟩:=List.getElem?_of_mem N;have y:=(jG.1 D).1;have f:j<rows.length:=by rw[k,b,o,← s]; exact y
     have h1:=hcells j _ v (jf f) D;have h2:=(q _ (List.getElem_mem f)).2;exact zS.one (fun c Y=>(List.all_eq_true.1 h2) c Y) h1 u S
    refine⟨cells'.toList,?_,?_,hone⟩
    ·have Z:n * a.size≠0:=by
      have a1:1<=n:=jh I;have a2:1<=a.size:=jh A;exact Nat.mul_ne_zero (by omega) (by omega)
     have hb:¬ 16777216<n * a.size:=by
      have:=jh m;omega
     simp only[Instr.buildSlice,kc,kru hu,kb,Go.sizeOf,typeInfo,run_program,F,kd];rw[show(2:Nat) ^ 24=16777216 from rfl];simp only[hb,if_false,gt_iff_lt,Z,kc,zeroValue,typeInfo,run_program,F,K,kb,kd];rw[ev,X];simp[newRow]
    rw[z];refine rJ.le l ?_;exact qma (by rw[k,b,o,s]) (fun r hr=>(q r hr).1) hcells
   exact h.elim
  exact h.elim
 exact h.elim
theorem Hr {E:Env} {lo:List AObj} {t:TypeId} {n:Nat} {parts:List (Nat×Operand)} {R:FV->List AObj->Prop} (h:TA P E lo t n parts R) :
  ∃ p lo',R p lo'/\vv true lo lo'/\∀ (bs:Base) (ρ:List Value) (H:PH) (w:World) (eval:Operand->Value),SatW bs ρ H lo w->(∀ x∈parts.map (·.2),zo ρ H (evF (qv E) x) (eval x)) ->
   ∃ v w',(Instr.buildSlice t n (parts.map fun(i,x)=>(i,eval x)).toArray).run P w=.ok v w'/\ZN bs ρ H p lo' v w':=by
 unfold TA at h;have k:=bm h; clear h; obtain⟨e,i,hu,r,h⟩:=k;have k:=Lu h; clear h; obtain⟨y,z,rows,a,l,h,f,c,A⟩:=k;have e1:y=e:=by rw[hu]at a; cases a; rfl
 subst e1;have e2:z=i:=Option.some.inj (l.symm.trans r);subst e2;simp only at h;have h:=ud h;have h:=gn h;refine⟨_,_,h,vv.push _,fun bs ρ H w eval s m=>?_⟩;obtain⟨xs,B,j,hone⟩:=A trivial ρ H w eval m;refine⟨_,_,B,ρ++[.slice (some ⟨w.heap.size,0,none⟩) n n],H,List.prefix_append _ _,PH.le.refl H,?_,?_⟩
 ·have d:∀ o,H w.heap.size o=none:=fun o=>by
   cases m:H w.heap.size o with
   | none=>rfl
   | some u=>exact absurd (s.sath.lt m) (jR _)
  refine s.push (g:=w.heap.size) (.inl rfl) (s.fresh (jw _)) (.inr s.keep.size) (PH.le.refl H) (rH s.sath _) (fun b o v h=>.inl ⟨v,h⟩) (tf w _ _) ?_;refine⟨xs,⟨j.length,.inr ⟨w.heap.size,n,xs.toArray,by rw[f],jS _,heap_alloc_new w _,by rw[f]; exact jw _,c,by simp[j.length,f],?_⟩⟩,j,hone,fun b q=>?_⟩
  ·rw[← j.length]
   exact List.take_length
  simp[zy]at q;subst q;exact d
 exact⟨by simp[← s.hlen],.inr ⟨w.heap.size,n,by rw[f]⟩⟩
end
end Ax
end
section
namespace Ax
open Go
section
variable {P:Program} {w:World}
theorem Ev {t ty e:TypeId} {i:TypeInfo} {z:Value} (r:P.underlying t=some (.slice e)) (s:P.info? e=some i) (hz:i.zero=some z) (E:z.cells.size=i.size)
  {v:Value} {n:Nat} {xs:List Value} (d:w.ownsRow 0 e i.size v n xs)
  {x:Value} {m:Nat} {news:List Value} (l:news.length=m * i.size) (h1:∀ u∈news,u.oneCell'=true)
  (M:(m=0/\x=.slice none 0 0)\/∃ a c,x=.slice (some a) m c/\∀ j u,news[j]? =some u->w.cell? (a.add j)=some u)
  (N:n+m<=9223372036854775807) (hbytes:(n+m) * i.bytes<=140737488355328) :
  ∃ v' w',(Builtin.append_ #[t,t] ty #[v,x]).run P w=.ok v' w'/\w'.ownsRow 0 e i.size v' (n+m) (xs++news) /\
   ((zy v'=zy v/\(∀ g,zy v=some g->Keep (fun b=>b=g) w w')/\(zy v=none->w'=w))\/(zy v'=some w.heap.size/\Keep (fun b=>b=w.heap.size) w w')):=by
 have hlen:(xs++news).length=(n+m) * i.size:=by rw[jb,d.1,l,Nat.add_mul]
 have y:n+m<=maxLen:=by unfold maxLen; omega
 rcases M with ⟨rfl,rfl⟩|⟨F,c,rfl,hnews⟩
 ·have G:news=[]:=jI (by simpa using l)
  subst G;refine⟨v,w,run_append_owned_none (P:=P) (w:=w) 0 t ty e i i.size r s v n xs d,by simpa using d,.inl ⟨rfl,fun g _=>Keep.refl _ w,fun _=>rfl⟩⟩
 have grown:∀ (old:Nat),(w.drew.alloc (.cells (xs.toArray++news.toArray++Builtin.zeroCells z.cells (grownCap w (n+m) old e - (n+m))) e)).ownsRow 0 e i.size
    (.slice (some ⟨w.heap.size,0,none⟩) (n+m) (grownCap w (n+m) old e)) (n+m) (xs++news):=by
  intro old;have H:=grownCap_ge w (n+m) old e;have o:grownCap w (n+m) old e<=maxLen:=grownCap_le_maxLen w (n+m) old e y;refine⟨hlen,.inr ⟨w.heap.size,_,_,rfl,jS _,heap_alloc_new w.drew _,H,o,?_,?_⟩⟩
  ·simp only[Array.size_append,jL,size_zeroCells,E,d.1,l,← Nat.add_mul]
   congr 1;omega
  simp only[Array.toList_append,js];rw[← js,← hlen];exact jJ
 rcases d.2 with ⟨rfl,rfl⟩|⟨g,cap,cur,rfl,I,L,O,o,J,p⟩
 ·have K:xs=[]:=jI (by simpa using d.1)
  subst K;by_cases hm:m=0
  ·subst hm
   have G:news=[]:=jI (by simpa using l);subst G;refine⟨.slice none 0 0,w,?_,World.ownsRow_nil w 0 e i.size,.inl ⟨rfl,fun g _=>Keep.refl _ w,fun _=>rfl⟩⟩
   simp[Builtin.append_,kru r,Go.sizeOf,typeInfo,s,Builtin.lenOf,Builtin.firstCells,loadCells,loadCellsFrom]
  have A:=run_append_nil (P:=P) w t ty e i z r s hz F m c news l hnews (by omega) (by omega) (by have Q:=hbytes; simp only[jx]at Q; omega);have B:=grown 0;simp only[jx,ju,Array.empty_append]at B ⊢;exact⟨_,_,A,B,.inr ⟨rfl,tI w _ _⟩⟩
 by_cases f:n+m<=cap
 ·have C:n * i.size+news.length<=cur.size:=by rw[l,J,← Nat.add_mul]; exact Nat.mul_le_mul_right _ f
  have A:=run_append_room (P:=P) w t ty e i r s g n cap cur L F m c news l hnews h1 f C;refine⟨_,_,A,⟨hlen,.inr ⟨g,cap,_,rfl,I,setRow_heap w g cur _ e _ L,f,o,?_,?_⟩⟩,.inl ⟨rfl,fun S D=>?_,fun h=>by simp[zy]at h⟩⟩
  ·simp only[jL,jb,jt,jM,jK]
   omega
  ·rw[p,← hlen]
   exact jJ
  simp[zy]at D;subst D;exact⟨rfl,rfl,rfl,by simp,fun k _ R=>setRow_other w g k _ R⟩
 have q:∀ j u,xs[j]? =some u->w.cell? ((⟨g,0,none⟩:Addr).add j)=some u:=d.cells (g:=g) rfl;have A:=run_append_grow (P:=P) w t ty e i z r s hz ⟨g,0,none⟩ n cap xs d.1 q F m c news l hnews (by omega) (by omega) (growslice_fits (by omega) hbytes);exact⟨_,_,A,grown cap,.inr ⟨rfl,tI w _ _⟩⟩
theorem Vy {t u ty e:TypeId} {i:TypeInfo} (y:P.underlying t=some (.slice e)) (hu:P.underlying u=some .string) (z:P.info? e=some i) (hz:i.zero=some (.int .u8 0)) (p:i.size=1)
  {v:Value} {n:Nat} {xs:List Value} (a:w.ownsRow 0 e 1 v n xs) (str:List UInt8)
  (F:n+str.length<=9223372036854775807) (hbytes:(n+str.length) * i.bytes<=140737488355328) :
  ∃ v' w',(Builtin.append_ #[t,u] ty #[v,.string ⟨str.toArray⟩]).run P w=.ok v' w'/\w'.ownsRow 0 e 1 v' (n+str.length) (xs++Lib.strCells ⟨str.toArray⟩) /\
   ((zy v'=zy v/\(∀ g,zy v=some g->Keep (fun b=>b=g) w w')/\(zy v=none->w'=w))\/(zy v'=some w.heap.size/\Keep (fun b=>b=w.heap.size) w w')):=by
 have d:(⟨str.toArray⟩:ByteArray).size=str.length:=XX str;generalize hsg:(⟨str.toArray⟩:ByteArray)=sb at *;have A:(Lib.strCells sb).length=str.length:=by rw[Lib.strCells_length,d]
 have hlen:(xs++Lib.strCells sb).length=(n+str.length) * 1:=by rw[jb,a.1,A,Nat.mul_one,Nat.mul_one]
 have q:n+str.length<=maxLen:=by unfold maxLen; omega
 have grown:∀ (old:Nat),(w.drew.alloc (.cells (xs.toArray++(Lib.strCells sb).toArray++Builtin.zeroCells (Value.int .u8 0).cells (grownCap w (n+str.length) old e - (n+str.length))) e)).ownsRow 0 e 1
    (.slice (some ⟨w.heap.size,0,none⟩) (n+str.length) (grownCap w (n+str.length) old e)) (n+str.length) (xs++Lib.strCells sb):=by
  intro old;have B:=grownCap_ge w (n+str.length) old e;have l:grownCap w (n+str.length) old e<=maxLen:=grownCap_le_maxLen w (n+str.length) old e q;refine⟨hlen,.inr ⟨w.heap.size,_,_,rfl,jS _,heap_alloc_new w.drew _,B,l,?_,?_⟩⟩
  ·have h1:(Value.int .u8 0).cells.size=1:=rfl
   simp only[Array.size_append,jL,size_zeroCells,h1,a.1,A];omega
  simp only[Array.toList_append,js];rw[← js,← hlen];exact jJ
 rcases a.2 with ⟨rfl,rfl⟩|⟨g,cap,cur,rfl,C,E,G,l,H,c⟩
 ·have D:xs=[]:=jI (by simpa using a.1)
  subst D;by_cases hm:str.length=0
  ·have I:Lib.strCells sb=[]:=jI (by omega)
   refine⟨.slice none 0 0,w,?_,by rw[hm,I]; exact World.ownsRow_nil w 0 e 1,.inl ⟨rfl,fun g _=>Keep.refl _ w,fun _=>rfl⟩⟩
   simp[Builtin.append_,kru y,kru hu,Go.sizeOf,typeInfo,z,Builtin.lenOf,Builtin.firstCells,d,hm]
  have f:=run_append_nil_string (P:=P) w t u ty e i (.int .u8 0) y hu z hz sb (by omega) (by omega) (by rw[d]; have J:=hbytes; simp only[jx]at J; omega);have r:=grown 0;simp only[jx,ju,Array.empty_append]at r ⊢;have e1:sb.data.map (fun b=>Value.int .u8 b.toNat)=(Lib.strCells sb).toArray:=by
   apply Array.ext';simp[Lib.strCells]
  rw[e1,d]at f;exact⟨_,_,f,r,.inr ⟨rfl,tI w _ _⟩⟩
 by_cases m:n+str.length<=cap
 ·have s:n+sb.size<=cur.size:=by rw[d]; omega
  have f:=Lib.run_append_room_string (P:=P) w t u ty e i y hu z p g n cap cur E sb (by omega) s;rw[d]at f;refine⟨_,_,f,⟨hlen,.inr ⟨g,cap,_,rfl,C,setRow_heap w g cur _ e _ E,m,l,?_,?_⟩⟩,.inl ⟨rfl,fun L x=>?_,fun h=>by simp[zy]at h⟩⟩
  ·simp only[jL,jb,jt,jM,jK,A]
   omega
  ·rw[Nat.mul_one]at c
   rw[c,← hlen];exact jJ
  simp[zy]at x;subst x;exact⟨rfl,rfl,rfl,by simp,fun k _ K=>setRow_other w g k _ K⟩
 have o:∀ j u,xs[j]? =some u->w.cell? ((⟨g,0,none⟩:Addr).add j)=some u:=a.cells (g:=g) rfl;have f:=Lib.run_append_grow_string (P:=P) w t u ty e i (.int .u8 0) y hu z hz ⟨g,0,none⟩ n cap xs (by rw[p]; exact a.1) o sb (by omega) (by omega) (growslice_fits (by omega) (by rw[d]; exact hbytes));rw[d]at f;exact⟨_,_,f,grown cap,.inr ⟨rfl,tI w _ _⟩⟩
theorem eK (H:PH):∀ (l:List UInt8),rJ H 1 (qT l) (Lib.strCells ⟨l.toArray⟩)
 | []=>by simp[qT,rJ,Lib.strCells]
 | b::l=>by
  have:=eK H l;simp only[qT,jk,rJ];refine⟨rfl,[.int .u8 b.toNat],Lib.strCells ⟨l.toArray⟩,by simp[Lib.strCells],?_,this⟩;simp[zS,zn]
theorem NN {f:FV} {R:List (List PV)->Prop} (h:RZ f R):∃ rows,R rows/\∀ (ρ:List Value) (H:PH) (x:Value),zo ρ H f x->zn H (.sl rows) x:=by
 unfold RZ at h;split at h
 ·exact⟨_,h,fun _ _ _ r=>r⟩
 ·exact⟨_,h,fun _ _ _ r=>r.2⟩
 ·refine⟨[],h,fun _ _ _ r=>?_⟩
  simp only[zo,zn]at r ⊢;exact .inl ⟨trivial,.inl r⟩
 exact h.elim
def fx (H:PH) (v:Value) (a:List Value):PH:=fun b o=>if zy v=some b/\o<a.length then a[o]? else H b o
theorem XH {bs:Base} {ρ:List Value} {H:PH} {lo:List AObj} (s:SatW bs ρ H lo w) {e:TypeId} {z:Nat} {v:Value} {n:Nat} {xs:List Value} (t:w.ownsRow 0 e z v n xs)
  (F:∀ b,zy v=some b->(∀ j u,xs[j]? =some u->H b j=some u)/\∀ o,n * z<=o->H b o=none)
  (hfree:∀ (g:Nat),zy v=some g->∀ (k:Nat) (o':AObj) (v':Value),lo[k]? =some o'->ρ[k]? =some v'->o'.live=true->zy v'≠some g)
  (howns:∀ g,zy v=some g->bs.S g\/bs.w0.heap.size<=g)
  {w':World} {v':Value} {m:Nat} {news:List Value} (J:news.length=m * z) (h1:∀ u∈xs++news,u.oneCell'=true)
  (c:w'.ownsRow 0 e z v' (n+m) (xs++news))
  (G:(zy v'=zy v/\(∀ g,zy v=some g->Keep (fun b=>b=g) w w')/\(zy v=none->w'=w))\/(zy v'=some w.heap.size/\Keep (fun b=>b=w.heap.size) w w')) :
  PH.le H (fx H v' (xs++news))/\SatW bs (ρ++[v']) (fx H v' (xs++news)) (lo++[.tail e z (n+m)]) w':=by
 have hlen:(xs++news).length=(n+m) * z:=c.1;have x:∀ b o u,zy v'=some b->H b o=some u->o<xs.length/\(xs++news)[o]? =some u:=by
  intro b o u q hu;rcases G with ⟨d,_⟩|⟨d,_⟩
  ·rw[d]at q
   obtain⟨h2,h3⟩:=F b q;have f:o<xs.length:=by
    rw[t.1];rcases Nat.lt_or_ge o (n * z)with h|h
    ·exact h
    rw[h3 o h]at hu; cases hu
   refine⟨f,?_⟩;rw[jB f];have:=h2 o _ (jf f);rw[hu]at this;rw[jf f,← Option.some.inj this]
  rw[d]at q;cases q;exact absurd (s.sath.lt hu) (jR _)
 have i:PH.le H (fx H v' (xs++news)):=by
  intro b o u hu;unfold fx;split
  ·rename_i y; exact(x b o u y.1 hu).2
  exact hu
 refine⟨i,?_⟩;have A:∀ g,zy v'=some g->∀ o u,(xs++news)[o]? =some u->w'.cell? ⟨g,o,none⟩=some u:=by
  intro g I o u hu;have:=c.cells (g:=g) (by
   rcases c.2 with ⟨rfl,_⟩|⟨L,cap,cur,rfl,_⟩
   ·simp[zy]at I
   simpa[zy,Value.ownBlock]using I) o u hu
  rwa [Addr.add_lit,jx]at this
 have l:SatH (fx H v' (xs++news)) w':=by
  refine⟨?_,s.sath.root.mono i⟩;intro b o u hu;unfold fx at hu;split at hu
  ·rename_i y
   exact⟨A b y.1 o u hu,h1 u (List.mem_of_getElem? hu)⟩
  rename_i y;obtain⟨B,hone⟩:=s.sath.cell b o u hu;refine⟨?_,hone⟩;have E:zy v'≠some b:=fun q=>y ⟨q,by have:=(x b o u q hu).1; rw[jb]; omega⟩
  have f:=s.sath.lt hu;rcases G with ⟨d,C,k2⟩|⟨d,C⟩
  ·cases r:zy v with
   | none=>rw[k2 r]; exact B
   | some g=>
    rw[World.cell?_of_block (w:=w) (a:=⟨b,o,none⟩) ((C g r).block b f (fun e=>E (by rw[d,r,e])))]
    exact B
  rw[World.cell?_of_block (w:=w) (a:=⟨b,o,none⟩) (C.block b f (by omega))];exact B
 have D:∀ ρ,UQ ρ (fx H v' (xs++news)) w' v' (.tail e z (n+m)):=by
  intro ρ;refine⟨xs++news,c,fun b q=>⟨fun j u hu=>?_,fun o M=>?_⟩⟩
  ·unfold fx
   rw[if_pos ⟨q,(jG.1 hu).1⟩];exact hu
  unfold fx;rw[if_neg (by rw[hlen]; omega)];cases K:H b o with
  | none=>rfl
  | some u=>
   have:=(x b o u q K).1;rw[t.1]at this;have:n * z<=(n+m) * z:=Nat.mul_le_mul_right _ (by omega);omega
 have p:∀ b o u,fx H v' (xs++news) b o=some u->(∃ u,H b o=some u)\/zy v'=some b:=by
  intro b o u hu;unfold fx at hu;split at hu
  ·rename_i y; exact .inr y.1
  exact .inl ⟨u,hu⟩
 rcases G with ⟨d,C,k2⟩|⟨d,C⟩
 ·cases r:zy v with
  | none=>
   have hw:=k2 r;subst hw;rw[r]at d;refine s.push (g:=w'.heap.size) (.inr d) (s.fresh (jw _)) (.inr s.keep.size) i l (fun b o u hu=>?_) (Keep.refl _ _) (D _);rcases p b o u hu with h|h
   ·exact .inl h
   rw[d]at h; cases h
  | some g=>
   rw[r]at d;refine s.push (g:=g) (.inl d) (hfree g r) (howns g r) i l (fun b o u hu=>?_) (C g r) (D _);rcases p b o u hu with h|h
   ·exact .inl h
   rw[d]at h; exact .inr (Option.some.inj h).symm
 refine s.push (g:=w.heap.size) (.inl d) (s.fresh (jw _)) (.inr s.keep.size) i l (fun b o u hu=>?_) C (D _);rcases p b o u hu with h|h
 ·exact .inl h
 rw[d]at h; exact .inr (Option.some.inj h).symm
theorem ZH {H:PH} {v':Value} {e:TypeId} {z:Nat} {rows:List (List PV)} {b:List Value} {w':World} (f:rJ H z rows b) (c:PH.le H (fx H v' b))
  (a:w'.ownsRow 0 e z v' rows.length b):zn (fx H v' b) (.sl rows) v':=by
 simp only[zn];rcases a.2 with ⟨rfl,h⟩|⟨g,cap,cur,rfl,_,_,d,_⟩
 ·exact .inl ⟨jI h,.inl rfl⟩
 refine .inr ⟨g,0,z,cap,rfl,d,(f.mono c).unflat fun j u hu=>?_⟩;unfold fx;rw[if_pos ⟨by simp[zy],by have:=(jG.1 hu).1; omega⟩];simpa using hu
theorem rJ.one {H:PH} {w:World} (s:SatH H w) {b o:Nat} {vs:List Value} (c:∀ j u,vs[j]? =some u->H b (o+j)=some u):∀ u∈vs,u.oneCell'=true:=fun u hu=>by
 obtain⟨j,a⟩:=List.getElem?_of_mem hu;exact(s _ _ _ (c j u a)).2
theorem Ft {w:World} {t:TypeId} {v:Value}:(newVar t v).run P w=.ok ⟨w.heap.size,0,none⟩ (w.alloc (.cells v.cells t)):=by
 simp[newVar,newRow]
theorem HD {w:World} {t bt:TypeId} {i:TypeInfo} (d:P.info? t=some i) {b off:Nat} {cur:List Value} (e:w.heap[b]? =some (.cells cur.toArray bt (0,0))) {x:Value}
  (c:x.cells.size=i.size) (a:off+x.cells.size<=cur.length) (h1:∀ u∈x.cells.toList,u.oneCell'=true) :
  (Instr.storeAt t (.pointer (some ⟨b,off,none⟩)) x).run P w=.ok () (w.setRow b (cur.take off++x.cells.toList++cur.drop (off+x.cells.size)).toArray):=by
 have:=run_storeCells_at P b off bt x.cells.toList 0 cur.toArray w e (by simpa using a) h1;simp only[Nat.add_zero,jK]at this;simp[Instr.storeAt,Instr.sureAddr,storeVar,Go.sizeOf,typeInfo,d,c];rw[this];simp[c]
theorem Ry {a b:Nat} (h:Nat.beq a b=true):a=b:=jm h
theorem UB {H:PH}:∀ {l:List UInt8} {vs:List Value},zS H (l.map fun b=>PV.int .u8 b.toNat) vs->∀ (j:Nat) (c:UInt8),l[j]? =some c->vs[j]? =some (.int .u8 (c.toNat:Int))
 | [],_,_,j,c,h=>by simp at h
 | b::l,vs,r,j,c,h=>by
  simp only[jk,zS,zn]at r;obtain⟨v,a,rfl,rfl,rs⟩:=r;cases j with
  | zero=>simp at h; subst h; rfl
  | succ j=>simpa using UB rs j c (by simpa using h)
theorem Hq {t:TypeId} {lo:List AObj} {R:FV->List AObj->Prop} (h:Ty P t lo R) :
  ∃ d lo',R d lo'/\vv true lo lo'/\∀ (bs:Base) (ρ:List Value) (H:PH) (w:World),SatW bs ρ H lo w->∃ v w',(Instr.alloc t true (.tuple #[])).run P w=.ok v w'/\ZN bs ρ H d lo' v w':=by
 unfold Ty at h;obtain⟨i,z,m,e,hz,h,a⟩:=He h;obtain⟨l,rfl,h⟩:=h;have h:=ud h;have h:=gn h;refine⟨_,_,h,vv.push _,fun bs ρ H w s=>?_⟩;refine⟨.pointer (some ⟨w.heap.size,0,none⟩),w.alloc (.cells z.cells t),?_,ρ++[.slice (some ⟨w.heap.size,0,none⟩) l.length l.length],H,List.prefix_append _ _,PH.le.refl H,?_,?_⟩
 ·simp only[Instr.alloc,kc,zeroValue,typeInfo,run_program,e,hz,Ft,kb,kd]
 ·refine s.push (g:=w.heap.size) (.inl rfl) (s.fresh (jw _)) (.inr s.keep.size) (PH.le.refl H) (rH s.sath _) (fun b o v h=>.inl ⟨v,h⟩) (tf w _ _) ?_
  refine⟨w.heap.size,z.cells,t,l.length,0,0,rfl,heap_alloc_new w _,.inr (jw _),fun j c f=>?_,fun o=>?_⟩
  ·have:=UB (a H) j c f
   simpa using this
  cases k:H w.heap.size o with
  | none=>rfl
  | some x=>exact absurd (s.sath.lt k) (jR _)
 ·exact⟨w.heap.size,l.length,l.length,by simp[← s.hlen],by simp⟩
theorem qag {bs:Base} {ρ:List Value} {H:PH} {lo:List AObj} (s:SatW bs ρ H lo w) {t:TypeId} {L:TypeInfo} (O:P.info? t=some L) {k i off b n cap z:Nat} {e:TypeId} {o:AObj} {rows:List (List PV)} {row a:List PV} {xv:Value} {xs:List Value}
  (Q:lo[k]? =some o) (D:o.live=true) (R:ρ[k]? =some (.slice (some ⟨b,0,none⟩) n cap)) (m:w.ownsRow 0 e z (.slice (some ⟨b,0,none⟩) n cap) rows.length xs) (h:rJ H z rows xs) (h1:∀ u∈xs,u.oneCell'=true) (S:∀ o,H b o=none)
  (d:rows[i]? =some row) (hone:a.all ah=true) (T:off+a.length<=row.length) (hn:a.length=L.size) (E:zS H a xv.cells.toList) :
  ∃ w',(Instr.storeAt t (.pointer (some ⟨b,i * z+off,none⟩)) xv).run P w=.ok () w'/\(∀ o',UQ ρ H w' (.slice (some ⟨b,0,none⟩) n cap) o'->SatW bs ρ H (lo.set k o') w') /\
   w'.ownsRow 0 e z (.slice (some ⟨b,0,none⟩) n cap) (rows.set i (row.take off++a++row.drop (off+a.length))).length (xs.take (i * z+off)++xv.cells.toList++xs.drop (i * z+off+xv.cells.size)) /\
   rJ H z (rows.set i (row.take off++a++row.drop (off+a.length))) (xs.take (i * z+off)++xv.cells.toList++xs.drop (i * z+off+xv.cells.size)) /\
   (∀ u∈xs.take (i * z+off)++xv.cells.toList++xs.drop (i * z+off+xv.cells.size),u.oneCell'=true)/\i * z+off+a.length<=xs.length/\xv.cells.size=a.length/\row.length=z:=by
 rcases m.2 with ⟨F,_⟩|⟨g,M,cur,F,_,N,p,hm,U,V⟩
 ·cases F
 cases F;have hlen:=E.length;have G:row.length=z:=by
  have v:=List.mem_of_getElem? d;have:∀ {rows:List (List PV)} {vs:List Value},rJ H z rows vs->∀ r∈rows,r.length=z:=by
   intro rows
   induction rows with
   | nil=>intro vs _ r h; cases h
   | cons q qs ih=>
    intro vs x r h;obtain⟨hz,_,_,_,_,y⟩:=x;rcases jg.1 h with rfl|h
    ·exact hz
    exact ih y r h
  exact this h row v
 have I:i<rows.length:=(jG.1 d).1;have X:xs.length=rows.length * z:=h.length;have Y:i * z+z<=rows.length * z:=by
  rw[← Nat.succ_mul]; exact Nat.mul_le_mul_right _ I
 have A:rows.length * z<=cur.toList.length:=by
  have h2:cur.toList.length=cur.size:=by simp
  rw[h2,U]; exact Nat.mul_le_mul_right _ p
 have J:xv.cells.size=a.length:=by simpa using hlen
 have f:∀ u∈xv.cells.toList,u.oneCell'=true:=zS.one (fun c Z=>(List.all_eq_true.1 hone) c Z) E;have B:=HD (P:=P) (w:=w) (t:=t) (bt:=e) (cur:=cur.toList) O (by simpa using N) (x:=xv) (off:=i * z+off) (by omega) (by omega) f;have C:(cur.toList.take (i * z+off)++xv.cells.toList++cur.toList.drop (i * z+off+xv.cells.size)).take (rows.length * z)=xs.take (i * z+off)++xv.cells.toList++xs.drop (i * z+off+xv.cells.size):=by
  rw[qht (by omega) (by simp) A,V]
 have l:=h.over (off:=off) d E (by omega);have j:(rows.set i (row.take off++a++row.drop (off+a.length))).length=rows.length:=by simp
 refine⟨_,B,fun o' K=>s.upd (k:=k) (b:=b) Q R D rfl S ⟨rfl,rfl,rfl,by simp,fun x _ hx=>setRow_other w b x _ hx⟩ K,?_,?_,?_,by omega,J,G⟩
 ·refine⟨?_,.inr ⟨b,cap,(cur.toList.take (i * z+off)++xv.cells.toList++cur.toList.drop (i * z+off+xv.cells.size)).toArray,by rw[j],jS _,setRow_heap w b _ _ e _ (by simpa using N),by rw[j]; exact p,hm,?_,?_⟩⟩
  ·rw[j]
   simp only[jb,jt,jM,jK];omega
  ·simp only[jL,jb,jt,jM,jK]at A ⊢
   omega
  rw[j]; exact C
 ·simpa using l
 intro u hu;rcases jy.1 hu with hu|hu
 ·rcases jy.1 hu with hu|hu
  ·exact h1 u (List.mem_of_mem_take hu)
  exact f u hu
 exact h1 u (List.mem_of_mem_drop hu)
theorem Ux {b:Nat} {e:TypeId} {c:Nat×Nat}:∀ (vs:List Value) (o:Nat) (w:World) (cs:Array Value),w.heap[b]? =some (.cells cs e c) ->
  ∃ a,(w.setCells b o vs).heap[b]? =some (.cells a e c)/\a.size=cs.size/\(∀ k,k<o->a[k]? =cs[k]?)/\(∀ j v,vs[j]? =some v->o+j<cs.size->a[o+j]? =some v)/\Keep (fun x=>x=b) w (w.setCells b o vs)
 | [],o,w,cs,h=>⟨cs,h,rfl,fun _ _=>rfl,fun j v g=>by simp at g,Keep.refl _ _⟩
 | v::vs,o,w,cs,h=>by
  have h1:(w.setCell ⟨b,o,none⟩ v).heap[b]? =some (.cells (cs.setIfInBounds o v) e c):=by
   simp[World.setCell,Array.getElem?_modify,h]
  have d:Keep (fun x=>x=b) w (w.setCell ⟨b,o,none⟩ v):=⟨rfl,rfl,rfl,by simp[World.setCell],fun x _ i=>by
   have:b≠x:=fun e=>i e.symm
   simp[World.setCell,Array.getElem?_modify,this]⟩
  obtain⟨a,a1,a2,a3,a4,a5⟩:=Ux vs (o+1) (w.setCell ⟨b,o,none⟩ v) _ h1;refine⟨a,a1,by simpa using a2,fun k d=>?_,fun j u hu f=>?_,d.trans a5⟩
  ·rw[a3 k (by omega),Array.getElem?_setIfInBounds,if_neg (by omega)]
  cases j with
  | zero=>
   simp only[List.getElem?_cons_zero,Option.some.injEq]at hu;subst hu;rw[Nat.add_zero]at f ⊢;rw[a3 o (by omega),Array.getElem?_setIfInBounds,if_pos rfl,if_pos f]
  | succ j=>
   rw[show o+(j+1)=o+1+j from by omega];exact a4 j u (by simpa using hu) (by simpa using(by omega:o+1+j<cs.size))
theorem TE {lo:List AObj} {t:TypeId} {k z i off:Nat} {x:FV} {R:FV->List AObj->Prop} (h:TD P t lo k z i off x R) :
  ∃ fv lo',R fv lo'/\lo'.length=lo.length/\∀ (bs:Base) (ρ:List Value) (H:PH) (w:World) (a xv:Value),SatW bs ρ H lo w->zo ρ H (.eptr k z i off) a->zo ρ H x xv ->
   ∃ w',(Instr.storeAt t a xv).run P w=.ok () w'/\ZN bs ρ H fv lo' undef w':=by
 unfold TD at h;have f:=Ug h; clear h; obtain⟨cs,h,y⟩:=f;have f:=Xj h; clear h; obtain⟨ps,h,A⟩:=f;have f:=ud h; clear h; have h:=f; clear f;have f:=th h; clear h; obtain⟨d,V,hd,Z,h⟩:=f;split at h
 ·rename_i X
  have X:=Ry X;have f:=xk h; clear h; obtain⟨o,J,h⟩:=f;split at h
  ·rename_i e z' rows
   obtain⟨row,⟨rfl,K,hone⟩,h⟩:=h;obtain⟨h,hle⟩:=Fq h;obtain⟨rows',hrows,h⟩:=h;obtain⟨h,hk⟩:=fg h;refine⟨_,_,h,by simp,fun bs ρ H w a xv s L rx=>?_⟩;obtain⟨b,n,cap,v,rfl⟩:=L;obtain⟨xs,M,hr,h1,hh⟩:=s.objs k _ _ J v;obtain⟨w',g,hup,c1,c2,c3,_⟩:=qag s Z J rfl v M hr h1 (hh b rfl) K hone hle (by omega) (A ρ H _ (y ρ H xv rx));subst hrows;exact⟨w',g,ρ,H,jq _,PH.le.refl H,hup _ ⟨_,c1,c2,c3,fun b' hb'=>by cases hb'; exact hh b rfl⟩,by simp[zo,zn,zS,undef]⟩
  ·rename_i l
   split at h
   ·have f:=h; clear h; obtain⟨c,l',⟨rfl,rfl,N,hnc,hl'⟩,h⟩:=f
    have f:=fg h; clear h; obtain⟨h,hk⟩:=f;subst hnc;refine⟨_,_,h,by simp,fun bs ρ H w a xv s L rx=>?_⟩;obtain⟨b,n0,cap,v,rfl⟩:=L;obtain⟨b',cs,Y,O,lo',p,e1,B,C,h2,Q⟩:=s.objs k _ _ J v;cases e1;have rl:=A ρ H _ (y ρ H xv rx);simp only[zS,zn]at rl;obtain⟨v0,vs',ev,rfl,rfl⟩:=rl;have D:xv.cells.size=1:=by
     have:xv.cells.toList.length=1:=by rw[ev]; rfl
     simpa using this
    have E:(w.cell? ⟨b,i,none⟩).isSome=true:=by
     simp only[World.cell?,B];rw[h2 i _ (jf N)];rfl
    have hfz:w.frozen? ⟨b,i,none⟩=false:=by
     simp only[World.frozen?,B];have:¬ (lo'<=i/\i<p):=by omega
     simpa using fun h1=>Nat.le_of_not_lt fun h2=>this ⟨h1,h2⟩
    have g:(Instr.storeAt t (.pointer (some ⟨b,i * 1+0,none⟩)) xv).run P w=.ok () (w.setCell ⟨b,i,none⟩ (.int .u8 (c.toNat:Int))):=by
     have h3:=run_storeCells_cells (P:=P) b i [.int .u8 (c.toNat:Int)] 0 w (fun j q=>by
      have:j=0:=by simpa using q
      subst this;simpa using E) (fun j q=>by
      have:j=0:=by simpa using q
      subst this;simpa using hfz) (by simp[Value.oneCell'])
     simp only[Nat.add_zero]at h3;have F:V.size=1:=by
      have:[PV.int .u8 (c.toNat:Int)].length=V.size:=by simpa using X
      simpa using this.symm
     simp[Instr.storeAt,Instr.sureAddr,storeVar,Go.sizeOf,typeInfo,Z,F,D,ev,h3,World.setCells]
    have S:(w.setCell ⟨b,i,none⟩ (.int .u8 (c.toNat:Int))).heap[b]? =some (.cells (cs.setIfInBounds i (.int .u8 (c.toNat:Int))) Y (lo',p)):=by
     simp[World.setCell,Array.getElem?_modify,B]
    refine⟨_,g,ρ,H,jq _,PH.le.refl H,?_,by simp[zo,zn,zS,undef]⟩;refine s.upd (k:=k) (b:=b) J v rfl rfl Q ⟨rfl,rfl,rfl,by simp[World.setCell],fun x _ hx=>?_⟩ ?_
    ·have:b≠x:=fun e=>hx e.symm
     simp[World.setCell,Array.getElem?_modify,this]
    subst hl';refine⟨b,_,Y,cap,lo',p,by simp,S,by simpa using C,fun j c' m=>?_,Q⟩;rw[jF]at m;rw[Array.getElem?_setIfInBounds];split at m
    ·rename_i G
     subst G;cases m;have T:i<cs.size:=by
      have:=h2 i _ (jf N);exact(jH.1 this).1
     simp[T]
    rename_i G;simp only[G,if_false];exact h2 j c' m
   have f:=h; clear h; obtain⟨l',⟨rfl,rfl,rfl,r,U⟩,h⟩:=f;have f:=fg h; clear h; obtain⟨h,hk⟩:=f;refine⟨_,_,h,by simp,fun bs ρ H w a xv s L rx=>?_⟩;obtain⟨b,n0,cap,v,rfl⟩:=L;obtain⟨b',cs,Y,O,lo',p,e1,B,C,h2,Q⟩:=s.objs k _ _ J v;cases e1;have rl:=A ρ H _ (y ρ H xv rx);rw[U]at rl;have hvl:xv.cells.toList.length=l.length:=by rw[rl.length,jl,r]
   have D:xv.cells.size=l.length:=by simpa using hvl
   have hcz:l.length<=cs.size:=by
    rcases Nat.eq_zero_or_pos l.length with f|f
    ·omega
    have:=h2 (l.length - 1) _ (jf (by omega));have:=(jH.1 this).1;omega
   have I:∀ u∈xv.cells.toList,u.oneCell'=true:=by
    intro u hu;obtain⟨j,q⟩:=List.getElem?_of_mem hu;have hjl:j<l'.length:=by have:=(jG.1 q).1; omega
    have:=UB rl j _ (jf hjl);rw[q]at this;cases this;rfl
   have g:(Instr.storeAt t (.pointer (some ⟨b,0 * 1+0,none⟩)) xv).run P w=.ok () (w.setCells b 0 xv.cells.toList):=by
    have h3:=run_storeCells_cells (P:=P) b 0 xv.cells.toList 0 w (fun j q=>by
     simp only[World.cell?,B];have:j<l.length:=by omega
     rw[show 0+0+j=j from by omega];rw[h2 j _ (jf this)];rfl) (fun j q=>by
     simp only[World.frozen?,B];have:¬ (lo'<=0+0+j/\0+0+j<p):=by omega
     simpa using fun h1=>Nat.le_of_not_lt fun h2=>this ⟨by simpa using h1,by simpa using h2⟩) I
    have F:V.size=l.length:=by
     have:ps.length=V.size:=by simpa using X
     rw[← this,U,jl,r]
    simp only[Nat.add_zero]at h3;simp[Instr.storeAt,Instr.sureAddr,storeVar,Go.sizeOf,typeInfo,Z,F,D,h3]
   obtain⟨cs',a1,a2,_,a4,a5⟩:=Ux xv.cells.toList 0 w cs B;refine⟨_,g,ρ,H,jq _,PH.le.refl H,?_,by simp[zo,zn,zS,undef]⟩;refine s.upd (k:=k) (b:=b) J v rfl rfl Q a5 ?_;refine⟨b,cs',Y,cap,lo',p,by rw[r],a1,by rw[r]; exact C,fun j c' m=>?_,Q⟩;have q:=(jG.1 m).1;have:=a4 j _ (UB rl j c' m) (by omega);simpa using this
  exact h.elim
 exact h.elim
theorem ot {src dst:TypeId} {lo:List AObj} {x:FV} {R:FV->List AObj->Prop} (h:qfv P src dst lo x R) :
  ∃ f lo',R f lo'/\∀ (bs:Base) (ρ:List Value) (H:PH) (w:World) (v:Value),SatW bs ρ H lo w->zo ρ H x v->∃ u w',(convert src dst v).run P w=.ok u w'/\ZN bs ρ H f lo' u w':=by
 unfold qfv at h;split at h
 ·rename_i l
  split at h
  ·rename_i us m
   split at h
   ·rename_i e n
    split at h
    ·rename_i he
     have a:=ud h; clear h; have h:=a; clear a;have a:=gn h; clear h; have h:=a; clear a;refine⟨_,_,h,fun bs ρ H w v s rx=>?_⟩;have ev:=Xm rx;subst ev;refine⟨_,_,Lib.run_convert_string_bytes w src dst e ⟨l.toArray⟩ m n he,?_⟩;have d:Keep (fun b=>b=w.heap.size) w (Lib.bytesWorld w e ⟨l.toArray⟩):=by
      refine⟨?_,?_,?_,by rw[Lib.bytesWorld_size]; omega,fun k d _=>Lib.bytesWorld_at_old w e _ k d⟩<;>simp[Lib.bytesWorld,World.freeze,World.alloc,World.drew,-World.alloc_eq,-World.drew_eq]
     have hz:(⟨l.toArray⟩:ByteArray).size=l.length:=ByteArray.size_mk_toArray l;refine⟨ρ++[.slice (some ⟨w.heap.size,0,none⟩) (⟨l.toArray⟩:ByteArray).size (grownCap w (⟨l.toArray⟩:ByteArray).size 0 e)],H,List.prefix_append _ _,PH.le.refl H,?_,?_⟩
     ·refine s.push (g:=w.heap.size) (.inl rfl) (s.fresh (jw _)) (.inr s.keep.size) (PH.le.refl H) (s.sath.block fun b o v p=>Lib.bytesWorld_at_old w e _ b (s.sath.lt p)) (fun b o v h=>.inl ⟨v,h⟩) d ?_
      refine⟨w.heap.size,_,e,_,_,_,by rw[hz],Lib.bytesWorld_at_new w e _,?_,?_,fun o=>?_⟩
      ·exact .inl (by simp[Lib.bytesCells])
      ·intro j c i
       have q:=(jG.1 i).1;simp only[Lib.bytesCells];rw[Array.getElem?_append_left (by simpa using q)];simp[i]
      cases r:H w.heap.size o with
      | none=>rfl
      | some x=>exact absurd (s.sath.lt r) (jR _)
     ·simp only[zo]
      refine⟨by simp[← s.hlen],.inr ⟨w.heap.size,_,by rw[hz]⟩⟩
    exact h.elim
   exact h.elim
  exact h.elim
 exact h.elim
theorem qcq {bs:Base} {ρ:List Value} {H:PH} {lo:List AObj} (s:SatW bs ρ H lo w) {t ty e:TypeId} {i:TypeInfo} {zv:Value} (hu:P.underlying t=some (.slice e)) (V:P.info? e=some i) (hz:i.zero=some zv) (K:zv.cells.size=i.size)
  {p:Nat} {rows:List (List PV)} {v:Value} (L:lo[p]? =some (.vec e i.size rows)) (M:ρ[p]? =some v) {news:List (List PV)} {x:Value} (rx:zn H (.sl news) x) (B:∀ r∈news,r.length=i.size)
  (R:(rows++news).length * i.bytes<=140737488355328) (C:(rows++news).length<=9223372036854775807) :
  ∃ v' w',(Builtin.append_ #[t,t] ty #[v,x]).run P w=.ok v' w'/\ZN bs ρ H (.vsl (lo.set p .dead).length (rows++news).length) (lo.set p .dead++[.vec e i.size (rows++news)]) v' w':=by
 obtain⟨xs,D,N,h1,S⟩:=s.objs p _ _ L M;have run:∃ vs:List Value,rJ H i.size news vs/\(∀ u∈vs,u.oneCell'=true) /\
   ((news.length=0/\x=.slice none 0 0)\/∃ a c,x=.slice (some a) news.length c/\∀ j u,vs[j]? =some u->w.cell? (a.add j)=some u):=by
  rcases EZ rx B with ⟨rfl,ex|⟨X,E,ex⟩⟩|⟨b,o,cap,vs,ex,_,J,T⟩
  ·exact⟨[],rfl,by simp,.inl ⟨rfl,ex⟩⟩
  ·exact⟨[],rfl,by simp,.inr ⟨X,E,ex,fun j u hu=>by simp at hu⟩⟩
  exact⟨vs,J,rJ.one s.sath T,.inr ⟨⟨b,o,none⟩,cap,ex,fun j u hu=>by rw[Addr.add_lit]; exact(s.sath.cell _ _ _ (T j u hu)).1⟩⟩
 obtain⟨vs,J,hone,O⟩:=run;rw[jb]at R C;obtain⟨v',w',Y,n,Z⟩:=Ev (P:=P) (w:=w) (ty:=ty) hu V hz K D J.length hone O C R;refine⟨v',w',Y,?_⟩;have sk:=s.kill p;have hfree:∀ g,zy v=some g->∀ (k:Nat) (o':AObj) (u:Value),(lo.set p .dead)[k]? =some o'->ρ[k]? =some u->o'.live=true->zy u≠some g:=by
  intro g hg k o' u m d U;rw[jF]at m;split at m
  ·split at m
   ·cases m; simp[AObj.live]at U
   cases m
  ·rename_i Q
   exact s.excl p k _ o' _ u g L m M d Q rfl U hg
 have hV:∀ {a b:List (List PV)} {us ws:List Value},rJ H i.size a us->rJ H i.size b ws->rJ H i.size (a++b) (us++ws):=fun x y=>x.append y
 have z:∀ u∈xs++vs,u.oneCell'=true:=fun u d=>by
  rcases jy.1 d with h|h
  ·exact h1 u h
  exact hone u h
 have F:zo (ρ++[v']) H (.vsl (lo.set p .dead).length (rows++news).length) v':=by
  refine⟨by simp[← s.hlen],?_⟩;rw[jb];rcases n.2 with ⟨rfl,h0⟩|⟨g,cap,cur,rfl,_⟩
  ·exact .inl ⟨h0,rfl⟩
  exact .inr ⟨g,cap,rfl⟩
 have A:(∀ b,zy v'=some b->∀ o,H b o=none)->UQ (ρ++[v']) H w' v' (.vec e i.size (rows++news)):=fun hn=>
  ⟨xs++vs,by rw[jb]; exact n,hV N J,z,hn⟩
 refine⟨ρ++[v'],H,List.prefix_append _ _,PH.le.refl H,?_,F⟩;rcases Z with ⟨q,G,k2⟩|⟨q,G⟩
 ·cases f:zy v with
  | none=>
   have hw:=k2 f;subst hw;rw[f]at q;exact sk.push (g:=w'.heap.size) (.inr q) (sk.fresh (jw _)) (.inr sk.keep.size) (PH.le.refl H) sk.sath (fun b o u hu=>.inl ⟨u,hu⟩) (Keep.refl _ _) (A (fun b l=>by rw[q]at l; cases l))
  | some g=>
   rw[f]at q;refine sk.push (g:=g) (.inl q) (hfree g f) (s.own p _ _ g L M rfl f) (PH.le.refl H) (s.sath.block fun b o u d=>(G g f).block b (s.sath.lt d) (fun e=>by subst e; rw[S _ f o]at d; cases d)) (fun b o u hu=>.inl ⟨u,hu⟩) (G g f) (A (fun b l=>by rw[q]at l; cases l; exact S _ f))
 have I:∀ o,H w.heap.size o=none:=fun o=>by
  cases hx:H w.heap.size o with
  | none=>rfl
  | some u=>exact absurd (s.sath.lt hx) (jR _)
 refine sk.push (g:=w.heap.size) (.inl q) (sk.fresh (jw _)) (.inr sk.keep.size) (PH.le.refl H) (s.sath.block fun b o u d=>G.block b (s.sath.lt d) (fun e=>by have:=s.sath.lt d; omega)) (fun b o u hu=>.inl ⟨u,hu⟩) G (A (fun b l=>by rw[q]at l; cases l; exact I))
theorem EF {o:Oper} {E:Env} {lo:List AObj} {R:FV->List AObj->Prop} (h:ow P o.op E lo R):∃ fv lo',R fv lo'/\vv (Ro o.op) lo lo'/\du P o (qv E) lo none fv lo':=by
 obtain⟨dst,op,ty,pos,after,guard⟩:=o;simp only at h;unfold ow at h;split at h
 ·
  rename_i t x;have m:=qZ h; clear h; obtain⟨x',h,B⟩:=m;have m:=Ug h; clear h; obtain⟨cs,h,hcs⟩:=m;split at h
  ·rename_i h1
   have h:=ud h;have h:=gn h;refine⟨_,_,h,vv.push _,fun l bs ρ H w eval s C=>?_⟩;have rc:=hcs ρ H _ (B ρ H _ l (C x (by simp[ke])));simp only[execOp,Instr.box,kc,Ft,kb,kd];refine⟨_,H,List.prefix_append _ _,PH.le.refl H,s.pushBox (t:=t) rc,?_⟩;exact⟨w.heap.size,by simp[← s.hlen],rfl⟩
  exact h.elim
 ·
  rename_i t;obtain⟨i,z,ps,T,hz,h,hps⟩:=He h;have h:=GM h;split at h
  ·rename_i h1
   have h:=ud h;have h:=gn h;refine⟨_,_,h,vv.push _,fun l bs ρ H w eval s C=>?_⟩;simp only[execOp,Instr.alloc,kc,zeroValue,typeInfo,run_program,T,hz,Ft,kb,kd];refine⟨_,H,List.prefix_append _ _,PH.le.refl H,s.pushBox (t:=t) (xL.of_RepL (hps H)),?_⟩;exact⟨w.heap.size,by simp[← s.hlen],rfl⟩
  exact h.elim
 ·
  rename_i t a x;have m:=qZ h; clear h; obtain⟨a',h,ha'⟩:=m;have m:=qZ h; clear h; obtain⟨x',h,B⟩:=m;split at h
  ·rename_i k off
   have m:=Ug h; clear h; obtain⟨cs,h,hcs⟩:=m;split at h
   ·rename_i h1
    have h:=ud h;obtain⟨d,i,hd,T,h⟩:=th h;split at h
    ·rename_i hn
     have hn:=Ry hn;have m:=xk h; clear h; obtain⟨ob,q,h⟩:=m;split at h
     ·rename_i bt cells
      obtain⟨h,hlen⟩:=ZJ h;obtain⟨h,hk⟩:=fg h;refine⟨_,_,h,vv.set _ _,fun l bs ρ H w eval s C=>?_⟩;obtain⟨b,F,e⟩:=ha' ρ H _ l (C a (by simp[ke]));have rc:=hcs ρ H _ (B ρ H _ l (C x (by simp[ke])));obtain⟨b',vs,e',hg',G,hH⟩:=s.objs k _ _ q F;cases e';have hsz:(eval x).cells.size=cs.length:=by have:=rc.length; simpa using this
      have K:=HD (P:=P) (w:=w) (t:=t) (bt:=bt) T hg' (x:=eval x) (off:=off) (by omega) (by rw[G.length]; omega) (MX h1 rc);simp only[execOp,e,kc,K,kb,kd];refine⟨ρ,H,jq _,PH.le.refl H,s.setBox q F hg' hH ?_,by simp[zo,zn,zS,undef]⟩;rw[hsz];exact((G.take off).append rc).append (G.drop _)
     exact h.elim
    exact h.elim
   exact h.elim
  ·rename_i k z i off
   have m:=TE h; clear h; obtain⟨fv,lo',h,hl,hs⟩:=m;refine⟨fv,lo',h,vv.len hl,fun l bs ρ H w eval s C=>?_⟩;obtain⟨w',K,af⟩:=hs bs ρ H w _ _ s (ha' ρ H _ l (C a (by simp[ke]))) (B ρ H _ l (C x (by simp[ke])));simp only[execOp,kc,K,kb,kd];exact af
  exact h.elim
 ·
  rename_i sx xx t t';split at h
  ·rename_i htt
   have htt:=Ry htt;subst htt;have m:=qZ h; clear h; obtain⟨s',h,U⟩:=m;have m:=qZ h; clear h; obtain⟨x',h,B⟩:=m;have m:=NN h; clear h; obtain⟨news,h,hnews⟩:=m;split at h
   ·rename_i Y n0
    unfold LG at h;have m:=bm h; clear h; obtain⟨e,i,hu,T,h⟩:=m;split at h
    ·exact h.elim
    split at h
    ·rename_i i' Z
     have:i'=i:=Option.some.inj (Z.symm.trans T);subst this;split at h
     ·rename_i zv N
      split at h
      ·rename_i L
       have L:=Ry L;have m:=xk h; clear h; obtain⟨ob,q,h⟩:=m;split at h
       ·rename_i e' z' rows
        obtain⟨rows',⟨rfl,he,hz,A,F,I⟩,h⟩:=h;subst he; subst hz;obtain⟨h,hk0⟩:=fg h;have h:=ud h;have h:=gn h;refine⟨_,_,h,vv.kill _ q rfl,fun l bs ρ H w eval s C=>?_⟩;obtain⟨hρ,_⟩:=U ρ H _ l (C sx (by simp[ke,kf]));have rx:=hnews ρ H _ (B ρ H _ l (C xx (by simp[ke,kf])));obtain⟨v',w',K,af⟩:=qcq (ty:=ty) s hu T N L q hρ rx A F I;simp only[execOp,resolve,invoke,builtin,kc,kd,kb,ka,jk,jN,K];rw[jx];exact af
       exact h.elim
      exact h.elim
     exact h.elim
    exact h.elim
   have m:=bm h; clear h; obtain⟨e,i,hu,T,h⟩:=m;split at h
   ·exact h.elim
   split at h
   ·rename_i i' Z
    have:i'=i:=Option.some.inj (Z.symm.trans T);subst this;split at h
    ·rename_i zv N
     split at h
     ·rename_i L
      have L:=Ry L;split at h
      ·
       obtain⟨⟨A,F,I⟩,h⟩:=h;have h:=ud h;have h:=gn h;refine⟨_,_,h,vv.push _,fun l bs ρ H w eval s C=>?_⟩;have es:eval sx=.slice none 0 0:=by
        have:=U ρ H _ l (C sx (by simp[ke,kf]));simpa[zo,zn]using this
       have rx:=hnews ρ H _ (B ρ H _ l (C xx (by simp[ke,kf])));have run:∃ vs:List Value,rJ H i'.size news vs/\(∀ u∈vs,u.oneCell'=true) /\
         ((news.length=0/\eval xx=.slice none 0 0)\/∃ a c,eval xx=.slice (some a) news.length c/\∀ j u,vs[j]? =some u->w.cell? (a.add j)=some u):=by
        rcases EZ rx A with ⟨rfl,ex|⟨a',M,ex⟩⟩|⟨b,o,cap,vs,ex,_,O,hc⟩
        ·exact⟨[],rfl,by simp,.inl ⟨rfl,ex⟩⟩
        ·exact⟨[],rfl,by simp,.inr ⟨a',M,ex,fun j u hu=>by simp at hu⟩⟩
        exact⟨vs,O,rJ.one s.sath hc,.inr ⟨⟨b,o,none⟩,cap,ex,fun j u hu=>by rw[Addr.add_lit]; exact(s.sath.cell _ _ _ (hc j u hu)).1⟩⟩
       obtain⟨vs,O,hone,hxx⟩:=run;obtain⟨v',w',K,f,hk⟩:=Ev (P:=P) (w:=w) (ty:=ty) hu T N L (World.ownsRow_nil w 0 e i'.size) O.length hone hxx (by omega) (by simpa using F);obtain⟨y,sat⟩:=XH s (World.ownsRow_nil w 0 e i'.size) (fun b F=>by simp[zy]at F) (fun g l=>by simp[zy]at l) (fun g l=>by simp[zy]at l) O.length (by simpa using hone) f hk
       simp only[execOp,resolve,invoke,builtin,kc,kd,kb,ka,jk,jN,es,K];simp only[jx,ju]at f sat y;refine⟨_,_,List.prefix_append _ _,y,sat,by simp[← s.hlen],ZH O y f⟩
      ·
       rename_i Y rows _;obtain⟨⟨A,F,I⟩,h⟩:=h;have m:=xk h; clear h; obtain⟨ob,q,h⟩:=m;split at h
       ·rename_i e' z' n
        obtain⟨⟨he,hz,hn⟩,h⟩:=h;subst he; subst hz; subst hn;obtain⟨h,hk0⟩:=fg h;have h:=ud h;have h:=gn h;refine⟨_,_,h,vv.kill _ q rfl,fun l bs ρ H w eval s C=>?_⟩;have rs:=U ρ H _ l (C sx (by simp[ke,kf]));obtain⟨D,rsl⟩:=rs;have rx:=hnews ρ H _ (B ρ H _ l (C xx (by simp[ke,kf])));obtain⟨xs,p,hxs⟩:=s.objs Y _ _ q D;have run:∃ vs:List Value,rJ H i'.size news vs/\(∀ u∈vs,u.oneCell'=true) /\
          ((news.length=0/\eval xx=.slice none 0 0)\/∃ a c,eval xx=.slice (some a) news.length c/\∀ j u,vs[j]? =some u->w.cell? (a.add j)=some u):=by
         rcases EZ rx (fun r K=>A r (by simp[K]))with ⟨rfl,ex|⟨a',M,ex⟩⟩|⟨b,o,cap,vs,ex,_,O,hc⟩
         ·exact⟨[],rfl,by simp,.inl ⟨rfl,ex⟩⟩
         ·exact⟨[],rfl,by simp,.inr ⟨a',M,ex,fun j u hu=>by simp at hu⟩⟩
         exact⟨vs,O,rJ.one s.sath hc,.inr ⟨⟨b,o,none⟩,cap,ex,fun j u hu=>by rw[Addr.add_lit]; exact(s.sath.cell _ _ _ (hc j u hu)).1⟩⟩
        obtain⟨vs,O,hone,hxx⟩:=run;have old:rJ H i'.size rows xs/\∀ u∈xs,u.oneCell'=true:=by
         rcases EZ rsl (fun r K=>A r (by simp[K]))with ⟨rfl,ex⟩|⟨b,o,cap,us,ex,_,hv',hc⟩
         ·have:xs=[]:=jI (by simpa using p.1)
          subst this;exact⟨rfl,by simp⟩
         have hbk:zy (eval sx)=some b:=by rw[ex]; rfl
         have ho:o=0:=by
          rcases p.2 with ⟨J,_⟩|⟨g,M,cur,J,_⟩
          ·rw[ex]at J; cases J
          rw[ex]at J; injection J with J; injection J with J; injection J
         subst ho;have:xs=us:=by
          refine List.ext_getElem? fun j=>?_;have l1:xs.length=us.length:=by rw[p.1,hv'.length]
          rcases Nat.lt_or_ge j xs.length with hj|hj
          ·have h1:=(hxs b hbk).1 j _ (jf hj)
           have h2:=hc j _ (jf (show j<us.length by omega));rw[jx]at h2;rw[jf hj,jf (show j<us.length by omega),← h1,← h2]
          rw[List.getElem?_eq_none hj,List.getElem?_eq_none (by omega)]
         subst this;exact⟨hv',rJ.one s.sath hc⟩
        obtain⟨hvo,Q⟩:=old;obtain⟨v',w',K,f,hk⟩:=Ev (P:=P) (w:=w) (ty:=ty) hu T N L p O.length hone hxx (by rw[jb]at I; exact I) (by rw[jb]at F; exact F);have sk:=s.kill Y;obtain⟨y,sat⟩:=XH sk p hxs (fun g l k o' u v S hl=>by
          rw[jF]at v;split at v
          ·first
            | (cases v; simp[AObj.live]at hl; done)
            | (split at v<;>first|(cases v; done)|(cases v; simp[AObj.live]at hl))
          ·rename_i hne
           exact s.excl Y k _ o' _ u g q v D S hne rfl hl l)
         (fun g l=>s.own Y _ _ g q D rfl l) O.length (fun u S=>by
          rcases jy.1 S with h|h
          ·exact Q u h
          exact hone u h) f hk
        simp only[execOp,resolve,invoke,builtin,kc,kd,kb,ka,jk,jN,K];refine⟨_,_,List.prefix_append _ _,y,by rw[jb]; exact sat,?_,ZH (hvo.append O) y (by rw[jb]; exact f)⟩;have:(0+(lo.set Y AObj.dead).length)=ρ.length:=by simp[s.hlen]
        rw[this];simp
       exact h.elim
      exact h.elim
     exact h.elim
    exact h.elim
   exact h.elim
  have m:=qZ h; clear h; obtain⟨s',h,U⟩:=m;have m:=qZ h; clear h; obtain⟨x',h,B⟩:=m;split at h
  case h_2=>exact h.elim
  rename_i str;split at h
  case h_2=>exact h.elim
  rename_i hut;have m:=bm h; clear h; obtain⟨e,i,hu,T,h⟩:=m;split at h
  case h_2=>exact h.elim
  rename_i V;have V:=Ry V;split at h
  case h_2=>exact h.elim
  rename_i i' Z;have:i'=i:=Option.some.inj (Z.symm.trans T);subst this;split at h
  case h_2=>exact h.elim
  rename_i N;have X:(qT str).length=str.length:=by simp[qT]
  split at h
  ·obtain⟨⟨F,I⟩,h⟩:=h
   have h:=ud h;have h:=gn h;refine⟨_,_,h,vv.push _,fun l bs ρ H w eval s C=>?_⟩;have es:eval sx=.slice none 0 0:=by
    have:=U ρ H _ l (C sx (by simp[ke,kf]));simpa[zo,zn]using this
   have ex:=Xm (B ρ H _ l (C xx (by simp[ke,kf])));obtain⟨v',w',K,f,hk⟩:=Vy (P:=P) (w:=w) (ty:=ty) hu hut T N V (World.ownsRow_nil w 0 e 1) str (by omega) (by rw[X]at F; simpa using F);have O:=eK H str;obtain⟨y,sat⟩:=XH s (World.ownsRow_nil w 0 e 1) (fun b F=>by simp[zy]at F) (fun g l=>by simp[zy]at l) (fun g l=>by simp[zy]at l) (by rw[Lib.strCells_length,XX,Nat.mul_one]) (by simpa using Lib.strCells_oneCell _) f hk
   simp only[execOp,resolve,invoke,builtin,kc,kd,kb,ka,jk,jN,es,ex,K];simp only[jx,ju]at f sat y;refine⟨_,_,List.prefix_append _ _,y,by rw[V,X]; exact sat,by simp[← s.hlen],ZH O y (by rw[X]; exact f)⟩
  ·rename_i Y rows
   obtain⟨⟨A,F,I⟩,h⟩:=h;have m:=xk h; clear h; obtain⟨ob,q,h⟩:=m;split at h
   case h_2=>exact h.elim
   rename_i e' z' n;obtain⟨⟨he,hz,hn⟩,h⟩:=h;subst he; subst hz; subst hn;obtain⟨h,hk0⟩:=fg h;have h:=ud h;have h:=gn h;refine⟨_,_,h,vv.kill _ q rfl,fun l bs ρ H w eval s C=>?_⟩;have rs:=U ρ H _ l (C sx (by simp[ke,kf]));obtain⟨D,rsl⟩:=rs;have ex:=Xm (B ρ H _ l (C xx (by simp[ke,kf])));obtain⟨xs,p,hxs⟩:=s.objs Y _ _ q D;have old:rJ H 1 rows xs/\∀ u∈xs,u.oneCell'=true:=by
    rcases EZ rsl A with ⟨rfl,ex⟩|⟨b,o,cap,us,ex,_,hv',hc⟩
    ·have:xs=[]:=jI (by simpa using p.1)
     subst this;exact⟨rfl,by simp⟩
    have hbk:zy (eval sx)=some b:=by rw[ex]; rfl
    have ho:o=0:=by
     rcases p.2 with ⟨J,_⟩|⟨g,M,cur,J,_⟩
     ·rw[ex]at J; cases J
     rw[ex]at J; injection J with J; injection J with J; injection J
    subst ho;have:xs=us:=by
     refine List.ext_getElem? fun j=>?_;have l1:xs.length=us.length:=by rw[p.1,hv'.length]
     rcases Nat.lt_or_ge j xs.length with hj|hj
     ·have h1:=(hxs b hbk).1 j _ (jf hj)
      have h2:=hc j _ (jf (show j<us.length by omega));rw[jx]at h2;rw[jf hj,jf (show j<us.length by omega),← h1,← h2]
     rw[List.getElem?_eq_none hj,List.getElem?_eq_none (by omega)]
    subst this;exact⟨hv',rJ.one s.sath hc⟩
   obtain⟨hvo,Q⟩:=old;rw[jb,X]at F I;obtain⟨v',w',K,f,hk⟩:=Vy (P:=P) (w:=w) (ty:=ty) hu hut T N V p str I F;have O:=eK H str;have sk:=s.kill Y;obtain⟨y,sat⟩:=XH sk p hxs (fun g l k o' u v S hl=>by
     rw[jF]at v;split at v
     ·first
       | (cases v; simp[AObj.live]at hl; done)
       | (split at v<;>first|(cases v; done)|(cases v; simp[AObj.live]at hl))
     ·rename_i hne
      exact s.excl Y k _ o' _ u g q v D S hne rfl hl l)
    (fun g l=>s.own Y _ _ g q D rfl l) (by rw[Lib.strCells_length,XX,Nat.mul_one]) (fun u S=>by
     rcases jy.1 S with h|h
     ·exact Q u h
     exact Lib.strCells_oneCell _ u h) f hk
   simp only[execOp,resolve,invoke,builtin,kc,kd,kb,ka,jk,jN,ex,K];refine⟨_,_,List.prefix_append _ _,y,by rw[V,jb,X]; exact sat,?_,ZH (hvo.append O) y (by rw[jb,X]; exact f)⟩;have:(0+(lo.set Y AObj.dead).length)=ρ.length:=by simp[s.hlen]
   rw[this];simp
  exact h.elim
 exact oy (o:=⟨dst,_,ty,pos,after,guard⟩) h
end
end Ax
end
section
namespace Ax
open Go
section
variable {P:Program} {w:World}
theorem SatW.publishN {bs:Base} {ρ:List Value} {H:PH} {lo:List AObj} {w:World} (s:SatW bs ρ H lo w) {k:Nat} {e:TypeId} {z:Nat} {rows:List (List PV)} {v:Value} (m:lo[k]? =some (.vec e z rows)) (n:ρ[k]? =some v) :
  ∃ H',PH.le H H'/\SatW bs ρ H' (lo.set k .dead) w/\zn H' (.sl rows) v/\∀ b o,H b o=none->H' b o=none\/zy v=some b:=by
 obtain⟨xs,a,A,h1,B⟩:=s.objs k _ _ m n;rcases a.2 with ⟨rfl,C⟩|⟨g,cap,cur,j,_,F,D,_⟩
 ·have:rows=[]:=jI C
  subst this;exact⟨H,PH.le.refl H,s.kill k,by simp[zn],fun _ _ h=>.inl h⟩
 have p:zy v=some g:=by rw[j]; rfl
 have c:PH.le H (fx H v xs):=by
  intro b o u hu;unfold fx;split
  ·rename_i d
   rw[p]at d;obtain⟨q,_⟩:=d;cases q;rw[B g p o]at hu;cases hu
  ·exact hu
 have sk:=s.kill k;refine⟨fx H v xs,c,?_,ZH A c a,fun b o h=>?_⟩
 rotate_left
 ·unfold fx
  split
  ·rename_i d; exact .inr d.1
  exact .inl h
 refine{ sath:=⟨fun b o u hu=>?_,s.sath.root.mono c⟩,hlen:=sk.hlen,pre:=sk.pre,objs:=fun i oi x f l=>?_,excl:=sk.excl,own:=sk.own,keep:=sk.keep,leH:=sk.leH.trans c,newH:=fun b o u hu=>?_ }
 ·unfold fx at hu
  split at hu
  ·rename_i d
   rw[p]at d;obtain⟨q,_⟩:=d;cases q;have:=a.cells (g:=g) (by rw[j]; rfl) o u hu;rw[Addr.add_lit,jx]at this;exact⟨this,h1 u (List.mem_of_getElem? hu)⟩
  exact s.sath.cell b o u hu
 ·rw[jF]at f
  split at f
  ·split at f
   ·cases f; trivial
   cases f
  ·rename_i r
   cases y:oi.live with
   | false=>cases oi<;>simp[AObj.live]at y; trivial
   | true=>
    refine(s.objs i oi x f l).keep (jq _) c (fun _ _ _=>rfl) (fun b o' t _ E=>?_)
    unfold fx;rw[if_neg (fun d=>s.excl k i _ oi _ x b m f n l r rfl y d.1 t)]
    exact E
 unfold fx at hu;split at hu
 ·rename_i d
  exact .inr (s.own k _ v b m n rfl d.1)
 exact s.newH b o u hu
theorem SatW.publish {bs:Base} {ρ:List Value} {H:PH} {lo:List AObj} {w:World} (s:SatW bs ρ H lo w) {k:Nat} {e:TypeId} {z:Nat} {rows:List (List PV)} {v:Value} (d:lo[k]? =some (.vec e z rows)) (f:ρ[k]? =some v) :
  ∃ H',PH.le H H'/\SatW bs ρ H' (lo.set k .dead) w/\zn H' (.sl rows) v:=
 let ⟨H',a,b,c,_⟩:=s.publishN d f
 ⟨H',a,b,c⟩
def qf1 (P:Program) (own:Bool) (lo:List AObj) (t:TypeId) (l c:FV) (R:FV->List AObj->Prop):Prop:=
 match l with
 | .p (.int _ l)=>match c with
  | .p (.int _ c)=>GK P t fun e z=>match P.info? e with
   | some i=>qar P e fun a=>match own with
    | false=>∃ n:Nat,(l=0/\c=n/\n * i.bytes<=140737488355328/\n<=9223372036854775807)/\CA lo 0 fun k=>Xr lo (.tail e z 0) fun lo=>R (.tsl k []) lo
    | true=>∃ (n:Nat) (rows:List (List PV)),(l=n/\c=n/\n * i.bytes<=140737488355328/\n<=9223372036854775807/\(List.replicate n a=rows\/Rq (List.replicate n a) rows)/\a.length=z/\z≠0/\a.all ah=true) /\
       CA lo 0 fun k=>Xr lo (.vec e z rows) fun lo=>R (.vsl k rows.length) lo
   | none=>False
  | _=>False
 | _=>False
theorem qgg (z:Array Value) (n:Nat) (hz:z.size≠0):(madeCells z ((n+1) * z.size)).toList=z.toList++(madeCells z (n * z.size)).toList:=by
 unfold madeCells;simp only[Array.toList_map,Array.toList_range];rw[Nat.add_mul,Nat.one_mul,Nat.add_comm (n * z.size),List.range_add,List.map_append,List.map_map];congr 1
 ·refine List.ext_getElem? fun j=>?_
  simp only[List.getElem?_map,List.getElem?_range];by_cases a:j<z.size
  ·simp[List.getElem?_range a,a,Nat.mod_eq_of_lt a]
  have h2:z.toList[j]? =none:=by simp; omega
  rw[h2];simp; omega
 refine List.map_congr_left fun j _=>?_;simp[Nat.add_mod_left]
theorem lR {H:PH} {a:List PV} {zv:Value} (b:zS H a zv.cells.toList) (c:a.length≠0):∀ n:Nat,rJ H a.length (List.replicate n a) (madeCells zv.cells (n * zv.cells.size)).toList
 | 0=>by simp[rJ,madeCells]
 | n+1=>by
  have d:=b.length;have hz:zv.cells.size≠0:=by simp at d; omega
  rw[qgg _ _ hz,List.replicate_succ];exact⟨rfl,_,_,rfl,b,lR b c n⟩
theorem oD {own:Bool} {lo:List AObj} {t:TypeId} {l c:FV} {R:FV->List AObj->Prop} (h:qf1 P own lo t l c R) :
  ∃ L lo',R L lo'/\vv true lo lo'/\∀ (bs:Base) (ρ:List Value) (H:PH) (w:World) (vl vc:Value),SatW bs ρ H lo w->zo ρ H l vl->zo ρ H c vc ->
   ∃ v w',(Instr.makeSlice t vl vc).run P w=.ok v w'/\ZN bs ρ H L lo' v w':=by
 unfold qf1 at h;split at h
 case h_2=>exact h.elim
 rename_i C l;split at h
 case h_2=>exact h.elim
 rename_i D c;have p:=bm h; clear h; obtain⟨e,i,hu,A,h⟩:=p;rw[A]at h;have p:=He h; clear h; obtain⟨a,zv,S,E,hz,h,q⟩:=p;obtain rfl:a=i:=Option.some.inj (E.symm.trans A);split at h
 ·have p:=h; clear h; obtain⟨n,⟨rfl,rfl,r,y⟩,h⟩:=p
  have h:=ud h;have h:=gn h;refine⟨_,_,h,vv.push _,fun bs ρ H w vl vc s F rc=>?_⟩;rw[bp F,bp rc];obtain⟨w',B,f,M⟩:=run_make_own (P:=P) w 0 t e a zv a.size hu A hz rfl C D n (by rw[Nat.mul_comm]; omega) y (jS _);have d:=run_make (P:=P) w t e a zv hu A hz C D 0 n (Int.le_refl _) (by omega) (by
   have:((a.bytes * n:Nat):Int)<=281474976710656:=by rw[Nat.mul_comm]; omega
   rwa [Int.natCast_mul]at this) (by omega)
  simp only[Int.toNat_zero,jU]at d;have hw:w'=w.alloc (.cells (madeCells zv.cells (n * a.size)) e):=by
   rw[B]at d
   injection d
  subst hw;refine⟨_,_,B,ρ++[.slice (some ⟨w.heap.size,0,none⟩) 0 n],H,List.prefix_append _ _,PH.le.refl H,?_,?_⟩
  ·refine s.push (g:=w.heap.size) (.inl rfl) (s.fresh (jw _)) (.inr s.keep.size) (PH.le.refl H) (rH s.sath _) (fun b o v h=>.inl ⟨v,h⟩) (tf w _ _) ?_
   refine⟨[],f,fun b r=>⟨fun j u hu=>by simp at hu,fun o _=>?_⟩⟩
   simp only[zy,Option.some.injEq]at r;subst r;cases G:H w.heap.size o with
   | none=>rfl
   | some x=>exact absurd (s.sath.lt G) (jR _)
  ·refine⟨by simp[← s.hlen],?_⟩
   simp only[zn];exact .inl ⟨trivial,.inr ⟨_,_,rfl⟩⟩
 have p:=h; clear h; obtain⟨n,rows,⟨rfl,rfl,r,y,k,I,N,hone⟩,h⟩:=p;have h:=ud h;have h:=gn h;refine⟨_,_,h,vv.push _,fun bs ρ H w vl vc s F rc=>?_⟩;rw[bp F,bp rc];have J:zv.cells.size=a.size:=by have:=(q H).length; simp at this; omega
 obtain⟨w',B,f,M⟩:=run_make_full (P:=P) w 0 t e a zv a.size hu A hz rfl C D n (by rw[Nat.mul_comm]; omega) y (jS _);have d:=run_make (P:=P) w t e a zv hu A hz C D n n (by omega) (Int.le_refl _) (by
  have:((a.bytes * n:Nat):Int)<=281474976710656:=by rw[Nat.mul_comm]; omega
  rwa [Int.natCast_mul]at this) (by omega)
 simp only[jU]at d;have hw:w'=w.alloc (.cells (madeCells zv.cells (n * a.size)) e):=by
  rw[B]at d
  injection d
 subst hw;have hlen:rows.length=n:=by
  rcases k with rfl|k
  ·simp
  have:=Ut k; simpa using this.symm
 have m:=lR (q H) (by omega) n;have K:rJ H a.size rows (madeCells zv.cells (n * a.size)).toList:=by
  rw[J,I]at m;exact rJ.le k m
 have h1:∀ u∈(madeCells zv.cells (n * a.size)).toList,u.oneCell'=true:=by
  intro u z;unfold madeCells at z;simp only[Array.toList_map,List.mem_map]at z;obtain⟨j,_,rfl⟩:=z;have O:j % zv.cells.size<zv.cells.size:=Nat.mod_lt _ (by omega);have hm:zv.cells[j % zv.cells.size]! ∈zv.cells.toList:=by
   rw[getElem!_pos zv.cells _ O];simp
  exact zS.one (fun c Q=>(List.all_eq_true.1 hone) c Q) (q H) _ hm
 refine⟨_,_,B,ρ++[.slice (some ⟨w.heap.size,0,none⟩) n n],H,List.prefix_append _ _,PH.le.refl H,?_,?_⟩
 ·refine s.push (g:=w.heap.size) (.inl rfl) (s.fresh (jw _)) (.inr s.keep.size) (PH.le.refl H) (rH s.sath _) (fun b o v h=>.inl ⟨v,h⟩) (tf w _ _) ?_
  refine⟨_,by rw[hlen]; exact f,K,h1,fun b r o=>?_⟩;simp only[zy,Option.some.injEq]at r;subst r;cases G:H w.heap.size o with
  | none=>rfl
  | some x=>exact absurd (s.sath.lt G) (jR _)
 ·exact⟨by simp[← s.hlen],.inr ⟨w.heap.size,n,by rw[hlen]⟩⟩
def qfw (P:Program) (lo:List AObj) (t:TypeId) (d x:FV) (R:FV->List AObj->Prop):Prop:=
 match d with
 | .vsl k _=>RZ x fun src=>UK k lo fun o=>match o with
  | .vec e z rows=>GK P t fun _ a=>(a=z/\src.length=rows.length/\(∀ r∈src,r.length=z))/\Bz k (.vec e z src) lo fun lo=>R (.p (.int .i64 src.length)) lo
  | _=>False
 | _=>False
theorem ov {lo:List AObj} {t:TypeId} {d x:FV} {R:FV->List AObj->Prop} (h:qfw P lo t d x R) :
  ∃ U lo',R U lo'/\vv false lo lo'/\∀ (bs:Base) (ρ:List Value) (H:PH) (w:World) (V ty:TypeId) (J m:Value),SatW bs ρ H lo w->zo ρ H d J->zo ρ H x m ->
   ∃ v w',(Builtin.copy_ #[t,V] ty #[J,m]).run P w=.ok v w'/\ZN bs ρ H U lo' v w':=by
 unfold qfw at h;split at h
 case h_2=>exact h.elim
 rename_i k n;have f:=NN h; clear h; obtain⟨src,h,y⟩:=f;have f:=xk h; clear h; obtain⟨o,K,h⟩:=f;split at h
 case h_2=>exact h.elim
 rename_i e z rows;have f:=bm h; clear h; obtain⟨e',i,hu,X,⟨rfl,hlen,hw⟩,h⟩:=f;have f:=fg h; clear h; obtain⟨h,_⟩:=f;refine⟨_,_,h,vv.set _ _,fun bs ρ H w V ty J m s rd rx=>?_⟩;obtain⟨Y,_⟩:=rd;have rs:=y ρ H m rx;obtain⟨xs,A,hr,h1,Z⟩:=s.objs k _ _ K Y;have ffirst:src=[]->∃ c:Array Value,(Builtin.firstCells i.size 0 m).run P w=.ok #[] w/\(Builtin.lenOf m).run P w=.ok 0 w:=by
  intro I;subst I;simp only[zn]at rs;have l0:∀ a:Addr,(loadCells a 0).run P w=.ok #[] w:=fun a=>by simpa using run_loadCells_list (P:=P) w a [] (by simp)
  rcases rs with ⟨_,rfl|⟨a,cap,rfl⟩⟩|⟨b,o',z',cap,rfl,_⟩
  ·exact⟨#[],by simp[Builtin.firstCells],by simp[Builtin.lenOf]⟩
  ·exact⟨#[],by simp[Builtin.firstCells,l0],by simp[Builtin.lenOf]⟩
  exact⟨#[],by simp[Builtin.firstCells,l0],by simp[Builtin.lenOf]⟩
 rcases A.2 with ⟨rfl,f⟩|⟨g,cap,cur,rfl,_,L,B,hm,hs,ht⟩
 ·have M:rows=[]:=jI f
  subst M;have C:src=[]:=jI (by simpa using hlen);obtain⟨_,N,r⟩:=ffirst C;subst C;refine⟨goInt 0,w,?_,ρ,H,jq _,PH.le.refl H,?_,by simp[zo,zn,goInt]⟩
  ·simp[Builtin.copy_,kru hu,r,Go.sizeOf,typeInfo,X,N]
  exact s.view K rfl rfl fun v hv ok=>ok
 have hb:zy (Value.slice (some ⟨g,0,none⟩) rows.length cap)=some g:=rfl;obtain⟨vs,p,l,D,hone⟩:∃ vs:List Value,(Builtin.firstCells i.size src.length m).run P w=.ok vs.toArray w/\(Builtin.lenOf m).run P w=.ok src.length w/\rJ H i.size src vs/\∀ u∈vs,u.oneCell'=true:=by
  rcases EZ rs hw with ⟨I,_⟩|⟨b,o',cap',vs,rfl,_,D,hc⟩
  ·obtain⟨_,N,r⟩:=ffirst I
   subst I;exact⟨[],by simpa using N,by simpa using r,rfl,fun u hu=>by cases hu⟩
  have r:=run_loadCells_list (P:=P) w ⟨b,o',none⟩ vs (fun j u hu=>by
   have:=(s.sath.cell b (o'+j) u (hc j u hu)).1
   rwa [Addr.add_lit])
  rw[D.length]at r;exact⟨vs,by simp[Builtin.firstCells,r],by simp[Builtin.lenOf],D,fun u hu=>by
   obtain⟨j,E⟩:=List.getElem?_of_mem hu;exact(s.sath.cell b (o'+j) u (hc j u E)).2⟩
 have O:vs.length=rows.length * i.size:=by rw[D.length,hlen]
 have hcl:rows.length * i.size<=cur.size:=by rw[hs]; exact Nat.mul_le_mul_right _ B
 obtain⟨Q,a1,a2,a3,a4,a5⟩:=Ux vs 0 w cur L;have q:∀ j,j<vs.length->(w.cell? ⟨g,0+j,none⟩).isSome=true:=fun j E=>by
  rw[cell_of_row w g _ _ e _ L];have:j<cur.size:=by omega
  simp[this]
 have S:=run_storeCells_cells (P:=P) g 0 vs 0 w (by simpa using q) (fun j E=>frozen_of_row w g _ cur e L) hone
 refine⟨goInt src.length,w.setCells g 0 vs,?_,ρ,H,jq _,PH.le.refl H,?_,by simp[zo,zn,goInt]⟩
 ·have F:Nat.min src.length rows.length=src.length:=by rw[hlen]; exact Nat.min_self _
  simp[Builtin.copy_,kru hu,l,Go.sizeOf,typeInfo,X,F,p,S]
 refine s.upd (k:=k) (b:=g) K Y rfl rfl (Z g rfl) a5 ?_;refine⟨vs,⟨by rw[O,hlen],.inr ⟨g,cap,Q,by rw[hlen],jS _,a1,by rw[hlen]; exact B,hm,by rw[a2]; exact hs,?_⟩⟩,D,hone,fun b T o'=>Z b T o'⟩
 rw[hlen];refine List.ext_getElem? fun j=>?_;rw[jE];split
 ·rename_i E
  have G:j<vs.length:=by omega
  have:=a4 j vs[j] (by simp[G]) (by omega);rw[jx]at this;rw[jf G];simpa using this
 rename_i E;rw[List.getElem?_eq_none (by omega)]
def qmv (x:FV) (R:FV->Prop):Prop:=
 XI x fun cs=>qa6 cs fun a=>match a.all ah with
  | true=>R (.hptr a)
  | false=>False
theorem qc3 {x:FV} {R:FV->Prop} (h:qmv x R) :
  ∃ m,R m/\∀ (lo:List AObj) (bs:Base) (ρ:List Value) (H:PH) (w:World) (t:TypeId) (v:Value),SatW bs ρ H lo w->zo ρ H x v->∃ u w',(Instr.box t v).run P w=.ok u w'/\ZN bs ρ H m lo u w':=by
 unfold qmv at h;obtain⟨cs,h,g⟩:=Ug h;obtain⟨y,h,i⟩:=Xj h;split at h
 case h_2=>exact h.elim
 rename_i hone;refine⟨_,h,fun lo bs ρ H w t v s n=>?_⟩;have rl:=i ρ H _ (g ρ H v n);have h1:=zS.one (fun c p=>(List.all_eq_true.1 hone) c p) rl;have l:∀ o,H w.heap.size o=none:=fun o=>by
  cases q:H w.heap.size o with
  | none=>rfl
  | some x=>exact absurd (s.sath.lt q) (jR _)
 let H':PH:=fun b o=>if b=w.heap.size then v.cells.toList[o]? else H b o
 have a:PH.le H H':=fun b o u hu=>by
  show(if b=w.heap.size then _ else _)=_;rw[if_neg (fun e=>by subst e; rw[l o]at hu; cases hu)]
  exact hu
 have f:∀ o u,v.cells.toList[o]? =some u->H' w.heap.size o=some u:=fun o u hu=>by
  show(if w.heap.size=w.heap.size then _ else _)=_;rw[if_pos rfl]; exact hu
 have calm:Calm H w H' (w.alloc (.cells v.cells t)):=by
  refine⟨a,⟨fun b o u hu=>?_,s.sath.root.mono a⟩,?_,fun b o u hu=>?_⟩
  ·have d:(if b=w.heap.size then v.cells.toList[o]? else H b o)=some u:=hu
   clear hu;split at d
   ·rename_i e
    subst e;refine⟨?_,h1 u (List.mem_of_getElem? d)⟩;rw[cell_of_row _ _ _ v.cells t _ (heap_alloc_new w _)];simpa using d
   exact(rH s.sath _).cell b o u d
  ·have:=tf w (.cells v.cells t) w.heap.size
   exact⟨this.os,this.tape,this.output,this.size,fun k r _=>this.block k r (fun e=>by omega)⟩
  have hu:(if b=w.heap.size then v.cells.toList[o]? else H b o)=some u:=hu;split at hu
  ·rename_i e; exact .inr (by omega)
  exact .inl ⟨u,hu⟩
 refine⟨.pointer (some ⟨w.heap.size,0,none⟩),w.alloc (.cells v.cells t),?_,ρ,H',jq _,a,s.calm calm,?_⟩
 ·simp only[Instr.box,kc,Ft,kb,kd]
 exact⟨w.heap.size,0,_,rfl,zS.mono a rl,fun j u hu=>by rw[jx]; exact f j u hu⟩
end
end Ax
namespace Ax
open Go
section
variable {P:Program} {w:World}
def Nw (P:Program) (inl:List Nat) (d:Option Tmp) (op:Op) (E:Env) (lo:List AObj) (no:Prop) (R:FV->List AObj->Prop):Prop:=
 match op with
 | .makeSlice t l c=>evS E none l fun l=>evS E none c fun c=>qf1 P (eh inl d) lo t l c R
 | .call { callee:=.builtin .copy,args:=⟨[x,y]⟩,argTypes:=⟨[t,_]⟩ }=>evS E none x fun x=>evS E none y fun y=>qfw P lo t x y R
 | .box _ x=>match eh inl d with
  | true=>evS E none x fun x=>qmv x fun v=>R v lo
  | false=>no
 | _=>no
theorem RJ {inl:List Nat} {d:Option Tmp} {op:Op} {E:Env} {lo:List AObj} {no:Prop} {R:FV->List AObj->Prop} (h:Nw P inl d op E lo no R) :
  no\/∃ g lo',R g lo'/\QY op=true/\(∀ (o:Oper) (inl:List Nat),o.op=op->bn inl o=true/\tM inl o=false)/\vv (Ro op) lo lo'/\∀ o:Oper,o.op=op->du P o (qv E) lo none g lo':=by
 unfold Nw at h;split at h
 ·rename_i t l c
  have a:=qZ h; clear h; obtain⟨l',h,n⟩:=a;have a:=qZ h; clear h; obtain⟨c',h,p⟩:=a;have a:=oD h; clear h; obtain⟨g,lo',h,f,j⟩:=a;refine .inr ⟨g,lo',h,rfl,fun o inl e=>⟨by simp[bn,e,QY],by simp[tM,e]⟩,f,fun o e _ bs ρ H w eval s b=>?_⟩;rw[e]at b;obtain⟨v,w',f,k⟩:=j bs ρ H w _ _ s (n ρ H _ trivial (b l (by simp[ke]))) (p ρ H _ trivial (b c (by simp[ke])));simp only[execOp,e,kc,f,kb,kd];exact k
 ·rename_i x y t q
  have a:=qZ h; clear h; obtain⟨r,h,i⟩:=a;have a:=qZ h; clear h; obtain⟨u,h,m⟩:=a;have a:=ov h; clear h; obtain⟨g,lo',h,f,j⟩:=a;refine .inr ⟨g,lo',h,rfl,fun o inl e=>⟨by simp[bn,e,QY],by simp[tM,e]⟩,f,fun o e _ bs ρ H w eval s b=>?_⟩;rw[e]at b;obtain⟨v,w',f,k⟩:=j bs ρ H w q o.type _ _ s (i ρ H _ trivial (b x (by simp[ke,kf]))) (m ρ H _ trivial (b y (by simp[ke,kf])));simp only[execOp,e,resolve,invoke,builtin,kc,kd,kb,ka,jk,jN,f];exact k
 ·rename_i t x
  split at h
  ·have a:=qZ h; clear h; obtain⟨r,h,i⟩:=a
   have a:=qc3 (P:=P) h; clear h; obtain⟨g,h,j⟩:=a;refine .inr ⟨g,lo,h,rfl,fun o inl e=>⟨by simp[bn,e,QY],by simp[tM,e]⟩,vv.refl _,fun o e _ bs ρ H w eval s b=>?_⟩;rw[e]at b;obtain⟨v,w',f,k⟩:=j lo bs ρ H w t _ s (i ρ H _ trivial (b x (by simp[ke])));simp only[execOp,e,kc,f,kb,kd];exact k
  exact .inl h
 exact .inl h
end
end Ax
end
