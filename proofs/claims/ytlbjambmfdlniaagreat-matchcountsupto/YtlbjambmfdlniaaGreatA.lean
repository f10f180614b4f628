/- A part of the proof: the abstract execution. -/
import Derived.Still
import Derived.Below
import Derived.Laws.AppendOwnNone
import Derived.MapKept
import Derived.ChangeKeysEq
import Derived.WalkKit
import Derived.Laws.StructEq
import Derived.Laws.IdiomStrings
import Derived.Laws.BytesArg
import Derived.Lib.Builder
import Derived.Carry
set_option linter.unusedVariables false
set_option linter.unusedSimpArgs false
set_option linter.unnecessarySimpa false
set_option linter.deprecated false
set_option linter.unusedSectionVars false
set_option linter.constructorNameAsVariable false
open Go renaming run_underlying->kru
open List renaming length_cons->ja,length_append->jb,length_nil->jc,getElem?_eq_getElem->jf,mem_cons->jg,map_cons->jk,prefix_refl->jp,append_assoc->jr,length_take->js,nil_append->jt,getElem?_append_left->jB,getElem?_append_right->jC,getElem?_drop->jD,getElem?_take->jE,getElem?_set->jF,getElem?_eq_some_iff->jG,length_drop->jM,map_nil->jN,map_toArray->jY
open Nat renaming le_of_ble_eq_true->jh,eq_of_beq_eq_true->jn,le_refl->jv,zero_add->jw,lt_irrefl->jQ,zero_le->jR
open Bool renaming and_eq_true->ji
open BitVec renaming ofInt->jq
open Array renaming getElem?_eq_some_iff->jH,length_toList->jK
open Go.Result renaming andThen_ok->jZ
open Go.Sem renaming run_bind->ka,run_pure->kc
open Go.Op renaming operands->kd
open Go.Call renaming operands->ke
namespace Ax
theorem kbf {A : Type _} [BEq A] [LawfulBEq A] {a b : A} : (a == b) = false ↔ a ≠ b := beq_eq_false_iff_ne
theorem kod {p : Prop} [i : Decidable p] : decide p = true -> p := of_decide_eq_true
theorem kcf {A : Sort _} (a b : A) : (bif false then a else b) = b := rfl
theorem kct {A : Sort _} (a b : A) : (bif true then a else b) = a := rfl
theorem kdt {p : Prop} [i : Decidable p] : p -> decide p = true := decide_eq_true
theorem kdf {p : Prop} [i : Decidable p] : ¬p -> decide p = false := decide_eq_false
theorem kde {p : Prop} [i : Decidable p] : (decide p = true) = p := decide_eq_true_eq
theorem kbs {A : Type _} [BEq A] [ReflBEq A] (a : A) : (a == a) = true := beq_self_eq_true a
end Ax
section
namespace Ax
open Go
variable {Lw:Nat}
inductive PV where
 | bool (b:Bool)|int (k:IntKind) (n:Int)|str (l:List UInt8)
 | agg (cs:List PV)|tup (vs:List PV)|nilsl|sl (rows:List (List PV))
 | nilp|fn (f:FuncId)|nilfn|nili|ifc (t:TypeId) (v:PV)|nilmap|hp (row:List PV)|clo (f:FuncId) (caps:List PV)|bfn (f:FuncId) (bound:List PV)|ifo (n:Bool) (t:TypeId) (v:PV)
 | nsl (rows:List (List PV))
inductive FV where
 | top
 | p (v:PV)
 | opt (g:Bool) (v:FV)
 | tsl (k:Nat) (rows:List (List PV))
 | ptr (k off:Nat)
 | hptr (row:List PV)
 | bself (k:Nat)
 | bsl (k off len cap:Nat)
 | vsl (k n:Nat)
 | eptr (k z i off:Nat)
 | mref (k:Nat)
 | pair (a b:FV)
 | stmp (k:Nat)
 | clo (f:FuncId) (c:FV)
 | cap0
 | cap (a b:FV)
 | fagg (c:FV)
 | nxt (ok:Bool) (a b:PV)
 | asl (k off n:Nat)
 | ifs (t:TypeId) (c:FV)
 | cut (rows:List (List PV))
inductive AObj where
 | dead
 | box (t:TypeId) (cells:List FV)
 | tail (e:TypeId) (z n:Nat)
 | vec (e:TypeId) (z:Nat) (rows:List (List PV))
 | mp (d:TypeDesc) (es:List (PV×PV)) (mk:Option (PV×Nat))
 | sit (l:List UInt8) (pos:Nat)
 | bv (l:List UInt8)
 | vl (e:TypeId) (z:Nat) (rows:List (List PV)) (j k:Nat)
 | pbx (t:TypeId) (c:FV)
def AObj.live:AObj->Bool
 | .dead=>false
 | _=>true
def PH (Lw:Nat):Type:=Nat->Nat->Option Value
def PH.le (H H':(PH Lw)):Prop:=∀ b o v,H b o=some v->H' b o=some v
theorem PH.le.refl (H:(PH Lw)):PH.le H H:=fun _ _ _ h=>h
theorem PH.le.trans {a b c:(PH Lw)} (h:PH.le a b) (d:PH.le b c):PH.le a c:=fun _ _ _ x=>d _ _ _ (h _ _ _ x)
mutual
def qp (H:(PH Lw)):PV->Value->Prop
 | .bool b,v=>v=.bool b
 | .int k n,v=>v=.int k n
 | .str l,v=>v=.string ⟨l.toArray⟩
 | .agg cs,v=>∃ vs:List Value,v=.agg vs.toArray/\qJ H cs vs
 | .tup cs,v=>∃ vs:List Value,v=.tuple vs.toArray/\qJ H cs vs
 | .nilsl,v=>v=.slice none 0 0
 | .sl rows,v=>(rows=[]/\(v=.slice none 0 0\/∃ a cap,v=.slice (some a) 0 cap)) \/
   ∃ b o z cap,v=.slice (some ⟨b,o,none⟩) rows.length cap/\rows.length<=cap/\fa H b z o rows
 | .nilp,v=>v=.pointer none
 | .fn f,v=>v=.func (.func f) #[] #[]
 | .nilfn,v=>v=.nilFunc
 | .nili,v=>v=.nilIface
 | .ifc t p,v=>∃ u,v=.iface t u/\qp H p u
 | .nilmap,v=>v=.map none
 | .hp row,v=>∃ b o vs,v=.pointer (some ⟨b,o,none⟩)/\qJ H row vs/\∀ j u,vs[j]? =some u->H b (o+j)=some u
 | .clo f cs,v=>∃ vs:List Value,v=.func (.func f) #[] vs.toArray/\qJ H cs vs
 | .bfn f cs,v=>∃ vs:List Value,v=.func (.func f) vs.toArray #[]/\qJ H cs vs
 | .ifo n t p,v=>(n=true/\v=.nilIface)\/(n=false/\∃ u,v=.iface t u/\qp H p u)
 | .nsl rows,v=>(rows=[]/\(v=.slice none 0 0\/∃ a cap,v=.slice (some a) 0 cap)) \/
   ∃ b o z cap,v=.slice (some ⟨b,o,none⟩) rows.length cap/\rows.length<=cap/\(Lw<=b/\o=0)/\fa H b z o rows
def qJ (H:(PH Lw)):List PV->List Value->Prop
 | [],vs=>vs=[]
 | c::cs,vs=>∃ v vs',vs=v::vs'/\qp H c v/\qJ H cs vs'
def fa (H:(PH Lw)) (b z:Nat):Nat->List (List PV)->Prop
 | _,[]=>True
 | o,r::rs=>r.length=z/\(∃ vs,qJ H r vs/\∀ j v,vs[j]? =some v->H b (o+j)=some v)/\fa H b z (o+z) rs
end
mutual
theorem qp.mono {H H':(PH Lw)} (h:PH.le H H'):∀ {p:PV} {v:Value},qp H p v->qp H' p v
 | .bool _,_,x|.int ..,_,x|.str _,_,x|.nilsl,_,x|.nilp,_,x|.fn _,_,x|.nilfn,_,x|.nili,_,x|.nilmap,_,x=>by
  simp only[qp]at *; exact x
 | .agg cs,v,x=>by
  simp only[qp]at *;obtain⟨vs,e,r⟩:=x;exact⟨vs,e,qJ.mono h r⟩
 | .tup cs,v,x=>by
  simp only[qp]at *;obtain⟨vs,e,r⟩:=x;exact⟨vs,e,qJ.mono h r⟩
 | .sl rows,v,x=>by
  simp only[qp]at *;rcases x with x|⟨b,o,z,cap,e,l,r⟩
  ·exact .inl x
  exact .inr ⟨b,o,z,cap,e,l,fa.mono h r⟩
 | .ifc t p,v,x=>by
  simp only[qp]at *;obtain⟨u,e,r⟩:=x;exact⟨u,e,qp.mono h r⟩
 | .hp row,v,x=>by
  simp only[qp]at *;obtain⟨b,o,vs,e,r,c⟩:=x;exact⟨b,o,vs,e,qJ.mono h r,fun j u hu=>h _ _ _ (c j u hu)⟩
 | .clo f cs,v,x=>by
  simp only[qp]at *;obtain⟨vs,e,r⟩:=x;exact⟨vs,e,qJ.mono h r⟩
 | .bfn f cs,v,x=>by
  simp only[qp]at *;obtain⟨vs,e,r⟩:=x;exact⟨vs,e,qJ.mono h r⟩
 | .ifo n t p,v,x=>by
  simp only[qp]at *;rcases x with x|⟨e,u,e',r⟩
  ·exact .inl x
  exact .inr ⟨e,u,e',qp.mono h r⟩
 | .nsl rows,v,x=>by
  simp only[qp]at *;rcases x with x|⟨b,o,z,cap,e,l,hb,r⟩
  ·exact .inl x
  exact .inr ⟨b,o,z,cap,e,l,hb,fa.mono h r⟩
theorem qJ.mono {H H':(PH Lw)} (h:PH.le H H'):∀ {cs:List PV} {vs:List Value},qJ H cs vs->qJ H' cs vs
 | [],_,x=>by simp only[qJ]at *; exact x
 | c::cs,vs,x=>by
  simp only[qJ]at *;obtain⟨v,vs',e,r,rs⟩:=x;exact⟨v,vs',e,qp.mono h r,qJ.mono h rs⟩
theorem fa.mono {H H':(PH Lw)} (h:PH.le H H') {b z:Nat}:∀ {o:Nat} {rows:List (List PV)},fa H b z o rows->fa H' b z o rows
 | _,[],_=>by simp only[fa]
 | o,r::rs,x=>by
  simp only[fa]at *;obtain⟨e,⟨vs,q,c⟩,x'⟩:=x;exact⟨e,⟨vs,qJ.mono h q,fun j v hv=>h _ _ _ (c j v hv)⟩,fa.mono h x'⟩
end
theorem qJ.length {H:(PH Lw)}:∀ {cs:List PV} {vs:List Value},qJ H cs vs->vs.length=cs.length
 | [],vs,x=>by simp only[qJ]at x; simp[x]
 | c::cs,vs,x=>by
  simp only[qJ]at x;obtain⟨v,a,e,_,rs⟩:=x;simp[e,qJ.length rs]
theorem qJ.get {H:(PH Lw)}:∀ {cs:List PV} {vs:List Value} {i:Nat} {c:PV},qJ H cs vs->cs[i]? =some c->∃ v,vs[i]? =some v/\qp H c v
 | [],_,_,_,_,h=>by simp at h
 | c::cs,vs,i,c',x,h=>by
  simp only[qJ]at x;obtain⟨v,a,e,r,rs⟩:=x;subst e;cases i with
  | zero=>simp at h; subst h; exact⟨v,by simp,r⟩
  | succ i=>simp at h; obtain⟨u,hu,b⟩:=rs.get h; exact⟨u,by simpa using hu,b⟩
theorem qJ.drop {H:(PH Lw)}:∀ {cs:List PV} {vs:List Value} (n:Nat),qJ H cs vs->qJ H (cs.drop n) (vs.drop n)
 | _,_,0,x=>by simpa using x
 | [],vs,n+1,x=>by simp only[qJ]at x; simp[x,qJ]
 | c::cs,vs,n+1,x=>by
  simp only[qJ]at x;obtain⟨v,a,e,r,rs⟩:=x;subst e;simpa using rs.drop n
theorem qJ.take {H:(PH Lw)}:∀ {cs:List PV} {vs:List Value} (n:Nat),qJ H cs vs->qJ H (cs.take n) (vs.take n)
 | _,_,0,x=>by simp[qJ]
 | [],vs,n+1,x=>by simp only[qJ]at x; simp[x,qJ]
 | c::cs,vs,n+1,x=>by
  simp only[qJ]at x;obtain⟨v,a,e,r,rs⟩:=x;subst e;simp only[List.take_succ_cons,qJ];exact⟨v,_,rfl,r,rs.take n⟩
theorem qJ.append {H:(PH Lw)}:∀ {cs a:List PV} {vs us:List Value},qJ H cs vs->qJ H a us->qJ H (cs++a) (vs++us)
 | [],_,vs,_,x,y=>by simp only[qJ]at x; simpa[x]using y
 | c::cs,a,vs,us,x,y=>by
  simp only[qJ]at x;obtain⟨v,b,e,r,rs⟩:=x;subst e;simp only[List.cons_append,qJ];exact⟨v,_,rfl,r,rs.append y⟩
theorem fa.get {H:(PH Lw)} {b z:Nat}:∀ {o:Nat} {rows:List (List PV)} {i:Nat} {r:List PV},fa H b z o rows->rows[i]? =some r ->
  r.length=z/\∃ vs,qJ H r vs/\∀ j v,vs[j]? =some v->H b (o+i * z+j)=some v
 | _,[],_,_,_,h=>by simp at h
 | o,q::rs,i,r,x,h=>by
  simp only[fa]at x;obtain⟨e,c,a⟩:=x;cases i with
  | zero=>simp at h; subst h; simpa using⟨e,c⟩
  | succ i=>
   simp at h;have:=a.get h;have e2:o+z+i * z=o+(i+1) * z:=by rw[Nat.add_mul]; omega
   rwa [e2]at this
theorem fa.drop {H:(PH Lw)} {b z:Nat}:∀ {o:Nat} {rows:List (List PV)} (i:Nat),fa H b z o rows->fa H b z (o+i * z) (rows.drop i)
 | _,_,0,x=>by simpa using x
 | _,[],_+1,_=>by simp[fa]
 | o,q::rs,i+1,x=>by
  simp only[fa]at x;have:=x.2.2.drop i;have e2:o+z+i * z=o+(i+1) * z:=by rw[Nat.add_mul]; omega
  rw[e2]at this;simpa using this
theorem fa.take {H:(PH Lw)} {b z:Nat}:∀ {o:Nat} {rows:List (List PV)} (i:Nat),fa H b z o rows->fa H b z o (rows.take i)
 | _,_,0,_=>by simp[fa]
 | _,[],_+1,_=>by simp[fa]
 | o,q::rs,i+1,x=>by
  simp only[fa,List.take_succ_cons]at x ⊢;exact⟨x.1,x.2.1,x.2.2.take i⟩
mutual
def Sw:PV->PV->Prop
 | .nilsl,.sl rows=>rows=[]
 | .nilsl,.nsl rows=>rows=[]
 | .agg a,.agg b=>Be a b
 | .tup a,.tup b=>Be a b
 | .hp a,.hp b=>Be a b
 | .clo f a,.clo g b=>f=g/\Be a b
 | .fn f,.clo g b=>f=g/\b=[]
 | .nili,.ifo n _ _=>n=true
 | .ifc t p,.ifo n t' q=>n=false/\t=t'/\Sw p q
 | .nsl a,.sl b=>a=b
 | a,b=>a=b
def Be:List PV->List PV->Prop
 | [],[]=>True
 | a::l,b::m=>Sw a b/\Be l m
 | _,_=>False
end
mutual
theorem Za {H:(PH Lw)}:∀ {p q:PV} {v:Value},Sw p q->qp H p v->qp H q v
 | .nilsl,q,v,h,r=>by
  cases q<;>simp only[Sw]at h<;>first|(subst h; simp only[qp]at *; exact .inl ⟨trivial,.inl r⟩)|exact r|cases h
 | .agg a,q,v,h,r=>by
  cases q<;>simp only[Sw]at h<;>try cases h
  simp only[qp]at *;obtain⟨vs,e,rr⟩:=r;exact⟨vs,e,mw h rr⟩
 | .tup a,q,v,h,r=>by
  cases q<;>simp only[Sw]at h<;>try cases h
  simp only[qp]at *;obtain⟨vs,e,rr⟩:=r;exact⟨vs,e,mw h rr⟩
 | .hp a,q,v,h,r=>by
  cases q with
  | hp b'=>
   simp only[Sw]at h;simp only[qp]at *;obtain⟨b,o,vs,e,rr,c⟩:=r;exact⟨b,o,vs,e,mw h rr,c⟩
  | _=>simp only[Sw]at h; cases h
 | .clo f a,q,v,h,r=>by
  cases q with
  | clo g b=>
   simp only[Sw]at h;obtain⟨rfl,h⟩:=h;simp only[qp]at *;obtain⟨vs,e,rr⟩:=r;exact⟨vs,e,mw h rr⟩
  | _=>simp only[Sw]at h; cases h
 | .fn f,q,v,h,r=>by
  cases q with
  | clo g b=>
   simp only[Sw]at h;obtain⟨rfl,rfl⟩:=h;simp only[qp]at *;exact⟨[],r,by simp only[qJ]⟩
  | fn g=>simp only[Sw]at h; cases h; exact r
  | _=>simp only[Sw]at h; cases h
 | .bool _,q,v,h,r|.int ..,q,v,h,r|.str _,q,v,h,r|.sl _,q,v,h,r|.nilp,q,v,h,r|.nilfn,q,v,h,r|.nilmap,q,v,h,r|.bfn ..,q,v,h,r|.ifo ..,q,v,h,r=>by
  cases q<;>simp only[Sw]at h<;>cases h<;>exact r
 | .nili,q,v,h,r=>by
  cases q with
  | ifo n t q=>
   simp only[Sw]at h;simp only[qp]at *;exact .inl ⟨h,r⟩
  | nili=>exact r
  | _=>simp only[Sw]at h; cases h
 | .ifc t p,q,v,h,r=>by
  cases q with
  | ifo n t' q=>
   simp only[Sw]at h;obtain⟨h1,rfl,h3⟩:=h;simp only[qp]at *;obtain⟨u,e,ru⟩:=r;exact .inr ⟨h1,u,e,Za h3 ru⟩
  | ifc t' q=>simp only[Sw]at h; cases h; exact r
  | _=>simp only[Sw]at h; cases h
 | .nsl a,q,v,h,r=>by
  cases q with
  | sl b=>
   simp only[Sw]at h;subst h;simp only[qp]at *;rcases r with x|⟨b,o,z,cap,e,l,_,r⟩
   ·exact .inl x
   exact .inr ⟨b,o,z,cap,e,l,r⟩
  | nsl b=>simp only[Sw]at h; cases h; exact r
  | _=>simp only[Sw]at h; cases h
theorem mw {H:(PH Lw)}:∀ {p q:List PV} {v:List Value},Be p q->qJ H p v->qJ H q v
 | [],[],_,_,r=>r
 | [],_::_,_,h,_=>by simp[Be]at h
 | _::_,[],_,h,_=>by simp[Be]at h
 | a::l,b::m,vs,h,r=>by
  simp only[Be]at h;simp only[qJ]at *;obtain⟨v,vs',e,r1,r2⟩:=r;exact⟨v,vs',e,Za h.1 r1,mw h.2 r2⟩
end
def Xf:List (List PV)->List (List PV)->Prop
 | [],[]=>True
 | a::l,b::m=>Be a b/\Xf l m
 | _,_=>False
theorem tF:∀ {p q:List PV},Be p q->p.length=q.length
 | [],[],_=>rfl
 | [],_::_,h=>by simp[Be]at h
 | _::_,[],h=>by simp[Be]at h
 | a::l,b::m,h=>by simp only[Be]at h; simp[tF h.2]
theorem cD:∀ {p q:List (List PV)},Xf p q->p.length=q.length
 | [],[],_=>rfl
 | [],_::_,h=>by simp[Xf]at h
 | _::_,[],h=>by simp[Xf]at h
 | a::l,b::m,h=>by simp only[Xf]at h; simp[cD h.2]
theorem DT {H:(PH Lw)} {b z:Nat}:∀ {o:Nat} {p q:List (List PV)},Xf p q->fa H b z o p->fa H b z o q
 | _,[],[],_,_=>by simp only[fa]
 | _,[],_::_,h,_=>by simp[Xf]at h
 | _,_::_,[],h,_=>by simp[Xf]at h
 | o,r::rs,s::ss,h,x=>by
  simp only[Xf]at h;simp only[fa]at *;obtain⟨e,⟨vs,q,c⟩,a⟩:=x;exact⟨by rw[← e,tF h.1],⟨vs,mw h.1 q,c⟩,DT h.2 a⟩
theorem Rl {H:(PH Lw)} {p q:List (List PV)} {v:Value} (h:p=q\/Xf p q) (r:qp H (.sl p) v):qp H (.sl q) v:=by
 rcases h with rfl|h
 ·exact r
 simp only[qp]at *;rcases r with ⟨rfl,r⟩|⟨b,o,z,cap,e,l,r⟩
 ·cases q with
  | nil=>exact .inl ⟨rfl,r⟩
  | cons _ _=>simp[Xf]at h
 ·have e2:=cD h
  exact .inr ⟨b,o,z,cap,by rw[← e2]; exact e,by rw[← e2]; exact l,DT h r⟩
def qD (ρ:List Value) (H:(PH Lw)):FV->Value->Prop
 | .top,_=>True
 | .p p,x=>qp H p x
 | .opt g v,x=>if g=true then qD ρ H v x else x=undef
 | .tsl k rows,x=>ρ[k]? =some x/\qp H (.sl rows) x
 | .ptr k off,x=>∃ b,ρ[k]? =some (.pointer (some ⟨b,0,none⟩))/\x=.pointer (some ⟨b,off,none⟩)
 | .hptr row,x=>∃ b o vs,x=.pointer (some ⟨b,o,none⟩)/\qJ H row vs/\∀ j v,vs[j]? =some v->H b (o+j)=some v
 | .bself k,x=>∃ b,ρ[k]? =some (.pointer (some ⟨b,0,none⟩))/\(x=.pointer none\/x=.pointer (some ⟨b,0,none⟩))
 | .bsl k off len cap,x=>∃ b,ρ[k]? =some (.pointer (some ⟨b,0,none⟩))/\∃ c,x=.slice (some ⟨b,off,none⟩) len c/\(cap=0\/c=cap)
 | .vsl k n,x=>ρ[k]? =some x/\((n=0/\x=.slice none 0 0)\/∃ b cap,x=.slice (some ⟨b,0,none⟩) n cap)
 | .eptr k z i off,x=>∃ b n cap,ρ[k]? =some (.slice (some ⟨b,0,none⟩) n cap)/\x=.pointer (some ⟨b,i * z+off,none⟩)
 | .mref k,x=>∃ b,ρ[k]? =some (.map (some b))/\x=.map (some b)
 | .pair a b,x=>∃ u v,x=.tuple #[u,v]/\qD ρ H a u/\qD ρ H b v
 | .stmp k,x=>ρ[k]? =some x
 | .clo f c,x=>∃ vs:List Value,x=.func (.func f) #[] vs.toArray/\qD ρ H c (.tuple vs.toArray)
 | .cap0,x=>x=.tuple #[]
 | .cap a b,x=>∃ (u:Value) (vs:List Value),x=.tuple (u::vs).toArray/\qD ρ H a u/\qD ρ H b (.tuple vs.toArray)
 | .fagg c,x=>∃ vs:List Value,x=.agg vs.toArray/\qD ρ H c (.tuple vs.toArray)
 | .nxt ok a b,x=>if ok=true then ∃ u v,x=.tuple #[.bool true,u,v]/\qp H a u/\qp H b v else x=.tuple #[.bool false]
 | .asl k off n,x=>∃ b e d c,ρ[k]? =some (.slice (some ⟨b,0,none⟩) e d)/\x=.slice (some ⟨b,off,none⟩) n c
 | .ifs t c,x=>∃ u,x=.iface t u/\qD ρ H c u
 | .cut rows,x=>qp H (.sl rows) x/\∃ p n,x=.slice p n n
theorem qD.mono {ρ ρ':List Value} {H H':(PH Lw)} (d:ρ <+: ρ') (h:PH.le H H'):∀ {f:FV} {x:Value},qD ρ H f x->qD ρ' H' f x
 | .top,_,_=>trivial
 | .p p,x,r=>qp.mono h (p:=p) r
 | .opt g v,x,r=>by
  simp only[qD]at *;split
  ·rename_i B; simp only[B,if_true]at r; exact qD.mono d h r
  rename_i B; simpa[B]using r
 | .tsl k rows,x,r=>by
  obtain⟨l,rfl⟩:=d;refine⟨?_,qp.mono h r.2⟩;rw[jB (jG.1 r.1).1]; exact r.1
 | .ptr k off,x,r=>by
  obtain⟨l,rfl⟩:=d;obtain⟨b,e,m⟩:=r;refine⟨b,?_,m⟩;rw[jB (jG.1 e).1]; exact e
 | .hptr row,x,r=>by
  obtain⟨b,o,vs,e,q,c⟩:=r;exact⟨b,o,vs,e,qJ.mono h q,fun j v hv=>h _ _ _ (c j v hv)⟩
 | .bself k,x,r=>by
  obtain⟨l,rfl⟩:=d;obtain⟨b,e,m⟩:=r;refine⟨b,?_,m⟩;rw[jB (jG.1 e).1]; exact e
 | .bsl k off len cap,x,r=>by
  obtain⟨l,rfl⟩:=d;obtain⟨b,e,m⟩:=r;refine⟨b,?_,m⟩;rw[jB (jG.1 e).1]; exact e
 | .vsl k n,x,r=>by
  obtain⟨l,rfl⟩:=d;refine⟨?_,r.2⟩;rw[jB (jG.1 r.1).1]; exact r.1
 | .eptr k z i off,x,r=>by
  obtain⟨l,rfl⟩:=d;obtain⟨b,n,cap,e,m⟩:=r;refine⟨b,n,cap,?_,m⟩;rw[jB (jG.1 e).1]; exact e
 | .mref k,x,r=>by
  obtain⟨l,rfl⟩:=d;obtain⟨b,e,m⟩:=r;refine⟨b,?_,m⟩;rw[jB (jG.1 e).1]; exact e
 | .pair a b,x,r=>by
  obtain⟨u,v,e,w,y⟩:=r;exact⟨u,v,e,w.mono d h,y.mono d h⟩
 | .stmp k,x,r=>by
  obtain⟨l,rfl⟩:=d;simp only[qD]at *;rw[jB (jG.1 r).1]; exact r
 | .clo f c,x,r=>by
  obtain⟨vs,e,rc⟩:=r;exact⟨vs,e,rc.mono d h⟩
 | .cap0,x,r=>r
 | .cap a b,x,r=>by
  obtain⟨u,vs,e,w,y⟩:=r;exact⟨u,vs,e,w.mono d h,y.mono d h⟩
 | .fagg c,x,r=>by
  obtain⟨vs,e,rc⟩:=r;exact⟨vs,e,rc.mono d h⟩
 | .nxt ok a b,x,r=>by
  simp only[qD]at *;split
  ·rename_i s
   simp only[s,if_true]at r;obtain⟨u,v,e,w,y⟩:=r;exact⟨u,v,e,w.mono h,y.mono h⟩
  rename_i s; simpa[s]using r
 | .asl k off n,x,r=>by
  obtain⟨l,rfl⟩:=d;obtain⟨b,C,A,c,e,m⟩:=r;refine⟨b,C,A,c,?_,m⟩;rw[jB (jG.1 e).1]; exact e
 | .ifs t c,x,r=>by
  obtain⟨u,e,rc⟩:=r;exact⟨u,e,rc.mono d h⟩
 | .cut rows,x,r=>⟨qp.mono h r.1,r.2⟩
def zk (ρ:List Value) (H:(PH Lw)):List FV->List Value->Prop
 | [],vs=>vs=[]
 | c::cs,vs=>∃ v a,vs=v::a/\qD ρ H c v/\zk ρ H cs a
theorem zk.mono {ρ ρ':List Value} {H H':(PH Lw)} (b:ρ <+: ρ') (h:PH.le H H'):∀ {cs:List FV} {vs:List Value},zk ρ H cs vs->zk ρ' H' cs vs
 | [],_,x=>x
 | c::cs,vs,x=>by
  obtain⟨v,a,e,r,rs⟩:=x;exact⟨v,a,e,r.mono b h,rs.mono b h⟩
theorem zk.length {ρ:List Value} {H:(PH Lw)}:∀ {cs:List FV} {vs:List Value},zk ρ H cs vs->vs.length=cs.length
 | [],vs,x=>by simp only[zk]at x; simp[x]
 | c::cs,vs,x=>by
  obtain⟨v,a,e,_,rs⟩:=x;simp[e,zk.length rs]
theorem zk.drop {ρ:List Value} {H:(PH Lw)}:∀ {cs:List FV} {vs:List Value} (n:Nat),zk ρ H cs vs->zk ρ H (cs.drop n) (vs.drop n)
 | _,_,0,x=>by simpa using x
 | [],vs,n+1,x=>by simp only[zk]at x; simp[x,zk]
 | c::cs,vs,n+1,x=>by
  obtain⟨v,a,e,r,rs⟩:=x;subst e;simpa using rs.drop n
theorem zk.take {ρ:List Value} {H:(PH Lw)}:∀ {cs:List FV} {vs:List Value} (n:Nat),zk ρ H cs vs->zk ρ H (cs.take n) (vs.take n)
 | _,_,0,x=>by simp[zk]
 | [],vs,n+1,x=>by simp only[zk]at x; simp[x,zk]
 | c::cs,vs,n+1,x=>by
  obtain⟨v,a,e,r,rs⟩:=x;subst e;simp only[List.take_succ_cons,zk];exact⟨v,_,rfl,r,rs.take n⟩
theorem zk.of_RepL {ρ:List Value} {H:(PH Lw)}:∀ {cs:List PV} {vs:List Value},qJ H cs vs->zk ρ H (cs.map .p) vs
 | [],_,x=>by simp only[qJ]at x; simpa[zk]using x
 | c::cs,vs,x=>by
  simp only[qJ]at x;obtain⟨v,a,e,r,rs⟩:=x;exact⟨v,a,e,r,zk.of_RepL rs⟩
def Dx (H:(PH Lw)):Prop:=∃ m,H 0 0=some (.int .i64 m)
def fI (w:World) (b o:Nat) (v:Value):Prop:=(∃ m,v=.int .u8 m)\/w.frozen? ⟨b,o,none⟩=false
theorem fI.block {w w':World} {b o:Nat} {v:Value} (h:fI w b o v) (e:w'.heap[b]? =w.heap[b]?):fI w' b o v:=by
 unfold fI World.frozen? at *;rw[e]; exact h
theorem fI.of {w:World} {b o:Nat} {v:Value} {c:Array Value} {e:TypeId} (h:w.heap[b]? =some (.cells c e (0,0))):fI w b o v:=by
 refine .inr ?_;unfold World.frozen?;rw[h]; simp
structure SatH (H:(PH Lw)) (w:World):Prop where
 cell:∀ b o v,H b o=some v->w.cell? ⟨b,o,none⟩=some v/\v.oneCell'=true
 root:Dx H
 low:Lw<=w.heap.size
 nf:∀ b o v,H b o=some v->Lw<=b->fI w b o v
instance {H:(PH Lw)} {w:World}:CoeFun (SatH H w) (fun _=>∀ b o v,H b o=some v->w.cell? ⟨b,o,none⟩=some v/\v.oneCell'=true):=⟨SatH.cell⟩
theorem Dx.mono {H H':(PH Lw)} (h:Dx H) (a:∀ b o v,H b o=some v->H' b o=some v):Dx H':=let ⟨m,hm⟩:=h; ⟨m,a _ _ _ hm⟩
structure Keep (S:Nat->Prop) (w0 w:World):Prop where
 os:w.os=w0.os
 tape:w.tape=w0.tape
 output:w.output=w0.output
 size:w0.heap.size<=w.heap.size
 block:∀ k,k<w0.heap.size->¬ S k->w.heap[k]? =w0.heap[k]?
theorem Keep.refl (S:Nat->Prop) (w:World):Keep S w w:=⟨rfl,rfl,rfl,jv _,fun _ _ _=>rfl⟩
theorem Keep.trans {S:Nat->Prop} {a b c:World} (h:Keep S a b) (k:Keep S b c):Keep S a c:=
 ⟨k.os.trans h.os,k.tape.trans h.tape,k.output.trans h.output,Nat.le_trans h.size k.size,
  fun i d e=>(k.block i (Nat.lt_of_lt_of_le d h.size) e).trans (h.block i d e)⟩
theorem Keep.step {S S':Nat->Prop} {a b c:World} (h:Keep S a b) (k:Keep S' b c) (f:∀ i,S' i->S i\/a.heap.size<=i):Keep S a c:=
 ⟨k.os.trans h.os,k.tape.trans h.tape,k.output.trans h.output,Nat.le_trans h.size k.size,
  fun i d e=>(k.block i (Nat.lt_of_lt_of_le d h.size) (fun x=>(f i x).elim e (by omega))).trans (h.block i d e)⟩
abbrev Dw:Nat->Prop:=fun _=>False
structure Base (Lw:Nat) where
 S:Nat->Prop
 w0:World
 H0:(PH Lw)
 r0:List Value
def qC:Value->Option Nat
 | .pointer (some a)=>some a.block
 | .slice (some a) _ _=>some a.block
 | .map r=>r
 | _=>none
def xG (H:(PH Lw)) (z:Nat):List (List PV)->List Value->Prop
 | [],vs=>vs=[]
 | r::rs,vs=>r.length=z/\∃ a b,vs=a++b/\qJ H r a/\xG H z rs b
theorem xG.mono {H H':(PH Lw)} (h:PH.le H H') {z:Nat}:∀ {rows:List (List PV)} {vs:List Value},xG H z rows vs->xG H' z rows vs
 | [],_,x=>x
 | r::rs,vs,x=>by
  obtain⟨hz,a,b,e,q,y⟩:=x;exact⟨hz,a,b,e,qJ.mono h q,y.mono h⟩
def GN (H:(PH Lw)):List (PV×PV)->List MapEntry->Prop
 | [],l=>l=[]
 | (k,p)::es,l=>∃ e a,l=e::a/\qp H k e.key/\qp H p e.val/\GN H es a
theorem GN.mono {H H':(PH Lw)} (h:PH.le H H'):∀ {es:List (PV×PV)} {l:List MapEntry},GN H es l->GN H' es l
 | [],_,x=>x
 | (k,p)::es,l,x=>by
  obtain⟨e,a,b,c,d,f⟩:=x;exact⟨e,a,b,qp.mono h c,qp.mono h d,f.mono h⟩
def Dv (ρ:List Value) (H:(PH Lw)) (ents:Array MapEntry) (mk:Option (PV×Nat)):Prop:=
 ∀ key s,mk=some (key,s)->∃ (j:Nat) (e:MapEntry),ents[j]? =some e/\qp H key e.key/\ρ[s]? =some (.int .i64 e.born)
theorem Dv.mono {ρ ρ':List Value} {H H':(PH Lw)} {ents:Array MapEntry} {mk:Option (PV×Nat)} (b:ρ <+: ρ') (h:PH.le H H') (m:Dv ρ H ents mk):Dv ρ' H' ents mk:=fun key s e=>by
 obtain⟨j,x,c,d,a⟩:=m key s e;obtain⟨l,rfl⟩:=b;exact⟨j,x,c,qp.mono h d,by rw[jB (jG.1 a).1]; exact a⟩
def pQ (ρ:List Value) (H:(PH Lw)) (w:World) (v:Value):AObj->Prop
 | .dead=>True
 | .box t cells=>∃ b vs,v=.pointer (some ⟨b,0,none⟩)/\w.heap[b]? =some (.cells vs.toArray t (0,0))/\zk ρ H cells vs/\∀ o,H b o=none
 | .tail e z n=>∃ xs,w.ownsRow 0 e z v n xs/\∀ b,qC v=some b->(∀ j u,xs[j]? =some u->H b j=some u)/\∀ o,n * z<=o->H b o=none
 | .vec e z rows=>∃ xs,w.ownsRow 0 e z v rows.length xs/\xG H z rows xs/\(∀ u∈xs,u.oneCell'=true)/\∀ b,qC v=some b->∀ o,H b o=none
 | .mp d es mk=>∃ b ents clock,v=.map (some b)/\w.heap[b]? =some (.map ents clock)/\GN H es ents.toList/\(MapKept.Stamped ents clock/\(∀ x∈ents.toList,MapKept.IsKey d x.key)/\Dv ρ H ents mk)/\∀ o,H b o=none
 | .sit l pos=>∃ b,v=.pointer (some ⟨b,0,none⟩)/\w.heap[b]? =some (.stringIter ⟨l.toArray⟩ pos)/\∀ o,H b o=none
 | .bv l=>∃ b cs e cap lo a,v=.slice (some ⟨b,0,none⟩) l.length cap/\w.heap[b]? =some (.cells cs e (lo,a))/\(l.length<=lo\/a<=lo)/\(∀ (j:Nat) (c:UInt8),l[j]? =some c->cs[j]? =some (.int .u8 c.toNat))/\∀ o,H b o=none
 | .vl e z rows j k=>∃ xs,w.ownsRow 0 e z v rows.length xs/\xG H z rows xs/\(∀ u∈xs,u.oneCell'=true)/\(∀ b,qC v=some b->∀ o,H b o=none)/\∀ u,xs[(rows.length - 1) * z+j]? =some u->ρ[k]? =some u
 | .pbx t c=>∃ b u us,v=.pointer (some ⟨b,0,none⟩)/\w.heap[b]? =some (.cells (u::us).toArray t (0,0))/\qD ρ H c u/\∀ o,H b o=none
structure SatW (bs:(Base Lw)) (ρ:List Value) (H:(PH Lw)) (lo:List AObj) (w:World):Prop where
 sath:SatH H w
 hlen:ρ.length=lo.length
 pre:bs.r0 <+: ρ
 objs:∀ (k:Nat) (o:AObj) (v:Value),lo[k]? =some o->ρ[k]? =some v->pQ ρ H w v o
 excl:∀ (k k':Nat) (o o':AObj) (v v':Value) (b:Nat),lo[k]? =some o->lo[k']? =some o'->ρ[k]? =some v->ρ[k']? =some v'->k≠k' ->
  o.live=true->o'.live=true->qC v=some b->qC v'≠some b
 own:∀ (k:Nat) (o:AObj) (v:Value) (b:Nat),lo[k]? =some o->ρ[k]? =some v->o.live=true->qC v=some b->bs.S b\/bs.w0.heap.size<=b
 keep:Keep bs.S bs.w0 w
 leH:PH.le bs.H0 H
 newH:∀ b o v,H b o=some v->(∃ v,bs.H0 b o=some v)\/bs.S b\/bs.w0.heap.size<=b
structure Sat (bs:(Base Lw)) (N:Nat) (ρ:List Value) (H:(PH Lw)) (e:Nat->FV) (lo:List AObj) (a:Act) (w:World):Prop extends SatW bs ρ H lo w where
 slots:∀ t,qD ρ H (e t) (a.tmps.getD t undef)
 width:a.tmps.size=N
 defers:a.defers=[]
structure Calm (H:(PH Lw)) (w:World) (H':(PH Lw)) (w':World):Prop where
 le:PH.le H H'
 sat:SatH H' w'
 keep:Keep Dw w w'
 new:∀ b o v,H' b o=some v->(∃ v,H b o=some v)\/w.heap.size<=b
theorem Calm.refl {H:(PH Lw)} {w:World} (h:SatH H w):Calm H w H w:=⟨PH.le.refl H,h,Keep.refl _ w,fun _ _ v h=>.inl ⟨v,h⟩⟩
theorem Calm.trans {H H' a:(PH Lw)} {w w' w'':World} (h:Calm H w H' w') (k:Calm H' w' a w''):Calm H w a w'':=
 ⟨h.le.trans k.le,k.sat,h.keep.trans k.keep,fun b o v hv=>by
  rcases k.new b o v hv with ⟨v',c⟩|d
  ·exact h.new b o v' c
  exact .inr (Nat.le_trans h.keep.size d)⟩
theorem SatH.block {H:(PH Lw)} {w w':World} (h:SatH H w) (c:w.heap.size<=w'.heap.size) (e:∀ b o v,H b o=some v->w'.heap[b]? =w.heap[b]?):SatH H w':=⟨fun b o v hv=>by
 rw[World.cell?_of_block (w:=w) (a:=⟨b,o,none⟩) (e b o v hv)]; exact h.cell b o v hv,h.root,Nat.le_trans h.low c,fun b o v hv d=>(h.nf b o v hv d).block (e b o v hv)⟩
theorem SatH.lt {H:(PH Lw)} {w:World} (h:SatH H w) {b o:Nat} {v:Value} (hv:H b o=some v):b<w.heap.size:=
 World.block_lt_of_cell? w ⟨b,o,none⟩ (h.cell b o v hv).1
theorem fI.own {w:World} {e:TypeId} {z n:Nat} {v:Value} {xs:List Value} (h:w.ownsRow 0 e z v n xs) {b o:Nat} {u:Value} (a:qC v=some b):fI w b o u:=by
 rcases h.2 with ⟨rfl,_⟩|⟨g,cap,cur,rfl,_,c,_⟩
 ·simp[qC]at a
 simp only[qC,Option.some.injEq]at a;subst a;exact .of c
theorem xj {w:World} {b:Nat} {o:Obj} (h:w.heap[b]? =some o):b<w.heap.size:=(jH.1 h).1
theorem rB {w w':World} {e:TypeId} {z n:Nat} {v:Value} {xs:List Value} (h:w.ownsRow 0 e z v n xs)
  (c:∀ b,qC v=some b->b<w.heap.size->w'.heap[b]? =w.heap[b]?):w'.ownsRow 0 e z v n xs:=by
 refine⟨h.1,?_⟩;rcases h.2 with d|⟨g,cap,cur,hv,f,a,r⟩
 ·exact .inl d
 refine .inr ⟨g,cap,cur,hv,f,?_,r⟩;rw[c g (by simp[hv,qC]) (xj a)]; exact a
theorem pQ.keep {ρ ρ':List Value} {H H':(PH Lw)} {w w':World} {v:Value} {o:AObj} (h:pQ ρ H w v o) (y:ρ <+: ρ') (s:PH.le H H')
  (p:∀ b,qC v=some b->b<w.heap.size->w'.heap[b]? =w.heap[b]?) (q:∀ b o',qC v=some b->b<w.heap.size->H b o'=none->H' b o'=none) :
  pQ ρ' H' w' v o:=by
 cases o with
 | dead=>trivial
 | box t cells=>
  obtain⟨b,vs,rfl,f,A,i⟩:=h;have a:=xj f;exact⟨b,vs,rfl,by rw[p b (by simp[qC]) a]; exact f,A.mono y s,fun o=>q b o (by simp[qC]) a (i o)⟩
 | tail e z n=>
  obtain⟨xs,r,i⟩:=h;refine⟨xs,rB r p,fun b hv=>⟨fun j u hu=>s _ _ _ ((i b hv).1 j u hu),fun o B=>?_⟩⟩
  have a:b<w.heap.size:=by
   rcases r.2 with ⟨rfl,_⟩|⟨g,cap,cur,rfl,_,f,_⟩
   ·simp[qC]at hv
   simp[qC]at hv; subst hv; exact xj f
  exact q b o hv a ((i b hv).2 o B)
 | vec e z rows=>
  obtain⟨xs,r,m,x,i⟩:=h;refine⟨xs,rB r p,m.mono s,x,fun b hv o=>?_⟩;have a:b<w.heap.size:=by
   rcases r.2 with ⟨rfl,_⟩|⟨g,cap,cur,rfl,_,f,_⟩
   ·simp[qC]at hv
   simp[qC]at hv; subst hv; exact xj f
  exact q b o hv a (i b hv o)
 | mp d es mk=>
  obtain⟨b,ents,clock,rfl,f,m,⟨x,C,D⟩,i⟩:=h;have a:=xj f;exact⟨b,ents,clock,rfl,by rw[p b (by simp[qC]) a]; exact f,m.mono s,⟨x,C,D.mono y s⟩,fun o=>q b o (by simp[qC]) a (i o)⟩
 | sit l pos=>
  obtain⟨b,rfl,f,i⟩:=h;have a:=xj f;exact⟨b,rfl,by rw[p b (by simp[qC]) a]; exact f,fun o=>q b o (by simp[qC]) a (i o)⟩
 | bv l=>
  obtain⟨b,cs,e,cap,lo,E,rfl,f,x,C,i⟩:=h;have a:=xj f;exact⟨b,cs,e,cap,lo,E,rfl,by rw[p b (by simp[qC]) a]; exact f,x,C,fun o=>q b o (by simp[qC]) a (i o)⟩
 | pbx t c=>
  obtain⟨b,u,us,rfl,f,A,i⟩:=h;have a:=xj f;exact⟨b,u,us,rfl,by rw[p b (by simp[qC]) a]; exact f,A.mono y s,fun o=>q b o (by simp[qC]) a (i o)⟩
 | vl e z rows j k=>
  obtain⟨xs,r,m,x,i,F⟩:=h;refine⟨xs,rB r p,m.mono s,x,fun b hv o=>?_,fun u hu=>?_⟩
  ·have a:b<w.heap.size:=by
    rcases r.2 with ⟨rfl,_⟩|⟨g,cap,cur,rfl,_,f,_⟩
    ·simp[qC]at hv
    simp[qC]at hv; subst hv; exact xj f
   exact q b o hv a (i b hv o)
  have hu:=F u hu;obtain⟨l,rfl⟩:=y;rw[jB (jG.1 hu).1]; exact hu
theorem SatW.calm {bs:(Base Lw)} {ρ:List Value} {H H':(PH Lw)} {lo:List AObj} {w w':World} (s:SatW bs ρ H lo w) (c:Calm H w H' w'):SatW bs ρ H' lo w' where
 sath:=c.sat
 hlen:=s.hlen
 pre:=s.pre
 objs:=fun k o v f hv=>(s.objs k o v f hv).keep (jp _) c.le (fun b _ e=>c.keep.block b e id) (fun b o' _ e g=>by
  cases i:H' b o' with
  | none=>rfl
  | some x=>
   rcases c.new b o' x i with ⟨y,d⟩|a
   ·rw[g]at d; cases d
   omega)
 excl:=s.excl
 own:=s.own
 keep:=s.keep.step c.keep (fun _ h=>h.elim)
 leH:=s.leH.trans c.le
 newH:=fun b o v hv=>by
  rcases c.new b o v hv with ⟨y,d⟩|a
  ·exact s.newH b o y d
  exact .inr (.inr (Nat.le_trans s.keep.size a))
theorem SatW.view {bs:(Base Lw)} {ρ:List Value} {H:(PH Lw)} {lo:List AObj} {w:World} (s:SatW bs ρ H lo w) {k:Nat} {o o':AObj} (y:lo[k]? =some o) (z:o.live=true) (_:o'.live=true) (h:∀ v,ρ[k]? =some v->pQ ρ H w v o->pQ ρ H w v o') :
  SatW bs ρ H (lo.set k o') w:=by
 have old:∀ {x:Nat} {c:AObj},(lo.set k o')[x]? =some c->c.live=true->∃ f,lo[x]? =some f/\f.live=true:=by
  intro x c g d;rw[jF]at g;split at g
  ·rename_i e; subst e; exact⟨o,y,z⟩
  exact⟨c,g,d⟩
 refine{ s with hlen:=by simpa using s.hlen,objs:=fun i c v a hv=>?_,excl:=fun i j oi oj A B b a C l m n p q r=>?_,own:=fun i c v b a hv d r=>?_ }
 ·rw[jF]at a
  split at a
  ·rename_i e
   subst e;split at a
   ·cases a
    exact h v hv (s.objs k o v y hv)
   cases a
  ·exact s.objs i c v a hv
 ·obtain⟨t,u,l1⟩:=old a p
  obtain⟨D,E,l2⟩:=old C q;exact s.excl i j t D A B b u E l m n l1 l2 r
 obtain⟨t,u,l1⟩:=old a d;exact s.own i t v b u hv l1 r
theorem MZ {ρ:List Value} {H:(PH Lw)} {w:World} {v:Value} {e:TypeId} {z j k:Nat} {rows:List (List PV)} (h:pQ ρ H w v (.vl e z rows j k)):pQ ρ H w v (.vec e z rows):=
 let ⟨xs,h1,h2,h3,h4,_⟩:=h
 ⟨xs,h1,h2,h3,h4⟩
end Ax
end
section
namespace Ax
open Go
variable {Lw:Nat}
abbrev Env:=List (Nat×FV)
def qz:Env->Nat->FV
 | [],_=>.top
 | (t',v)::E,t=>match Nat.beq t t' with|true=>v|false=>qz E t
def MR:Env->Nat->(FV->Prop)->Prop
 | [],_,R=>R .top
 | (t',v)::E,t,R=>match Nat.beq t t' with|true=>R v|false=>MR E t R
def ML (v:PV) (R:PV->Prop):Prop:=
 match v with
 | .bool b=>R (.bool b)|.int k n=>R (.int k n)|.str l=>R (.str l)
 | .agg cs=>R (.agg cs)|.tup vs=>R (.tup vs)|.nilsl=>R .nilsl|.sl rows=>R (.sl rows)
 | .nilp=>R .nilp|.fn f=>R (.fn f)|.nilfn=>R .nilfn|.nili=>R .nili|.ifc t v=>R (.ifc t v)|.nilmap=>R .nilmap|.hp row=>R (.hp row)|.clo f cs=>R (.clo f cs)|.bfn f cs=>R (.bfn f cs)|.ifo n t v=>R (.ifo n t v)|.nsl rows=>R (.nsl rows)
def HB (v:FV) (R:FV->Prop):Prop:=
 match v with
 | .top=>R .top
 | .p v=>ML v fun v=>R (.p v)
 | .opt g v=>R (.opt g v)
 | .tsl k rows=>R (.tsl k rows)
 | .ptr k off=>R (.ptr k off)
 | .hptr row=>R (.hptr row)
 | .bself k=>R (.bself k)
 | .bsl k off len cap=>R (.bsl k off len cap)
 | .vsl k n=>R (.vsl k n)
 | .eptr k z i off=>R (.eptr k z i off)
 | .mref k=>R (.mref k)
 | .pair a b=>R (.pair a b)
 | .stmp k=>R (.stmp k)
 | .clo f c=>R (.clo f c)
 | .cap0=>R .cap0
 | .cap a b=>R (.cap a b)
 | .fagg c=>R (.fagg c)
 | .nxt ok a b=>R (.nxt ok a b)
 | .asl k off n=>R (.asl k off n)
 | .ifs t c=>R (.ifs t c)
 | .cut rows=>R (.cut rows)
theorem HC (v:PV) (R:PV->Prop):ML v R=R v:=by cases v<;>rfl
theorem Ck (v:FV) (R:FV->Prop):HB v R=R v:=by cases v<;>first|rfl|exact HC _ (fun v=>R (.p v))
def Pb:Value->Option PV
 | .bool b=>some (.bool b)
 | .int k n=>some (.int k n)
 | .string ⟨⟨l⟩⟩=>some (.str l)
 | .slice none 0 0=>some .nilsl
 | .pointer none=>some .nilp
 | .nilIface=>some .nili
 | .nilFunc=>some .nilfn
 | .map none=>some .nilmap
 | _=>none
def Dg:List Value->(List PV->Prop)->Prop
 | [],R=>R []
 | v::vs,R=>match Pb v with|some p=>Dg vs fun l=>R (p::l)|none=>False
def Pz:List Value->Option (List PV)
 | []=>some []
 | v::vs=>match Pb v with
  | some p=>(match Pz vs with|some l=>some (p::l)|none=>none)
  | none=>none
def PL:Value->FV
 | .tuple ⟨[]⟩=>.p (.tup [])
 | .agg ⟨vs⟩=>match Pz vs with|some ps=>.p (.agg ps)|none=>.top
 | v=>match Pb v with|some p=>.p p|none=>.top
def Sf (e:Nat->FV):Operand->FV
 | .tmp t=>e t
 | .const v=>PL v
 | .func f=>.p (.fn f)
 | .global _=>.top
def ev (E:Env) (x:Operand) (R:FV->Prop):Prop:=
 match x with
 | .tmp t=>MR E t R
 | .const v=>HB (PL v) R
 | .func f=>R (.p (.fn f))
 | .global _=>R .top
abbrev G:=Option Bool
def Sn (g:G):Prop:=match g with|none=>True|some b=>b=true
def gI (g:G) (p:Prop):Prop:=match g with|none=>p|some b=>b=true->p
def Si (E:Env) (g:G) (x:Operand) (R:FV->Prop):Prop:=
 ev E x fun v=>match v with
 | .opt g' v'=>gI g (g'=true)/\R v'
 | v=>R v
def Pe:List FV->FV
 | []=>.cap0
 | v::l=>.cap v (Pe l)
def bN:FV->(List FV->Prop)->Prop
 | .cap0,R=>R []
 | .cap a b,R=>bN b fun l=>R (a::l)
 | _,_=>False
def Qi {α:Type}:Nat->List α->(List α->Prop)->Prop
 | 0,_,R=>R []
 | n+1,l,R=>match l with|[]=>False|a::l=>Qi n l fun l=>R (a::l)
def rP {α:Type}:Nat->List α->(List α->Prop)->Prop
 | 0,l,R=>R l
 | n+1,l,R=>match l with|[]=>False|_::l=>rP n l R
def my {α:Type}:Nat->List α->(α->Prop)->Prop
 | 0,l,R=>match l with|[]=>False|a::_=>R a
 | n+1,l,R=>match l with|[]=>False|_::l=>my n l R
def tH {α:Type}:Nat->α->List α->(List α->Prop)->Prop
 | 0,x,l,R=>match l with|[]=>False|_::l=>R (x::l)
 | n+1,x,l,R=>match l with|[]=>False|a::l=>tH n x l fun l=>R (a::l)
def di {α:Type}:List α->α->(List α->Prop)->Prop
 | [],x,R=>R [x]
 | a::l,x,R=>di l x fun l=>R (a::l)
def sL {α:Type}:List α->Nat->(Nat->Prop)->Prop
 | [],n,R=>R n
 | _::l,n,R=>sL l (n+1) R
def EF (P:Program) (t:TypeId):Nat:=match P.info? t with|some i=>i.size|none=>0
def LQ:TypeDesc->Bool
 | .struct _|.array _ _=>true
 | _=>false
def cF (P:Program) (t:TypeId) (R:Bool->Nat->Prop):Prop:=
 match P.underlying t with
 | some d=>match P.info? t with
  | some i=>R (LQ d) i.size
  | none=>False
 | none=>False
def UG (P:Program) (t:TypeId) (f:Nat) (R:Nat->TypeId->Prop):Prop:=
 match P.underlying t with
 | some (.struct ⟨fs⟩)=>my f fs fun x=>match P.info? x.type with
  | some i=>match Nat.beq i.size 0 with|true=>False|false=>R x.offset x.type
  | none=>False
 | _=>False
def NY (v:FV) (R:PV->Prop):Prop:=
 match v with
 | .p v=>R v
 | .tsl _ rows=>R (.sl rows)
 | .hptr row=>R (.hp row)
 | _=>False
def QO:FV->(List PV->Prop)->Prop
 | .cap0,R=>R []
 | .cap a b,R=>NY a fun p=>QO b fun l=>R (p::l)
 | _,_=>False
def BF (v:FV) (R:PV->Prop):Prop:=
 match v with
 | .p v=>R v
 | .tsl _ rows=>R (.sl rows)
 | .hptr row=>R (.hp row)
 | .clo f c=>QO c fun cs=>R (.clo f cs)
 | .fagg c=>QO c fun cs=>R (.agg cs)
 | _=>False
def BG:List FV->(List PV->Prop)->Prop
 | [],R=>R []
 | v::l,R=>BF v fun v=>BG l fun l=>R (v::l)
def Sh (E:Env) (g:G):List Operand->(List FV->Prop)->Prop
 | [],R=>R []
 | x::l,R=>Si E g x fun v=>Sh E g l fun l=>R (v::l)
def Pa:Int:=9223372036854775807
def Rr (op:BinOp) (k:IntKind) (a b:Int) (R:PV->Prop):Prop:=
 match op with
 | .add=>R (.int k (k.wrap (a+b)))
 | .sub=>R (.int k (k.wrap (a - b)))
 | .mul=>R (.int k (k.wrap (a * b)))
 | .eql=>R (.bool (a==b))
 | .neq=>R (.bool (a != b))
 | .lss=>R (.bool (decide (a<b)))
 | .leq=>R (.bool (decide (a<=b)))
 | .gtr=>R (.bool (decide (a>b)))
 | .geq=>R (.bool (decide (a≥b)))
 | .and=>R (.int k (k.wrap (jq k.bits a &&& jq k.bits b).toNat))
 | .or=>R (.int k (k.wrap (jq k.bits a ||| jq k.bits b).toNat))
 | .xor=>R (.int k (k.wrap (jq k.bits a ^^^ jq k.bits b).toNat))
 | _=>False
def Rs (g:G) (op:BinOp) (a b:List UInt8) (R:PV->Prop):Prop:=
 match op with
 | .add=>gI g (((a.length+b.length:Nat):Int)<=Pa)/\R (.str (a++b))
 | .eql=>R (.bool (a==b))
 | .neq=>R (.bool (!(a==b)))
 | .lss=>R (.bool (Op.bytesLess a b))
 | .leq=>R (.bool (Op.bytesLess a b||a==b))
 | .gtr=>R (.bool (!(Op.bytesLess a b||a==b)))
 | .geq=>R (.bool (!(Op.bytesLess a b)))
 | _=>False
def Rq (op:BinOp) (a b:Bool) (R:PV->Prop):Prop:=
 match op with
 | .eql=>R (.bool (a==b))
 | .neq=>R (.bool (!(a==b)))
 | _=>False
def HN (P:Program) (t:TypeId) (R:Prop):Prop:=
 match P.underlying t with
 | some .bool=>R
 | _=>False
def Zk:IntKind->IntKind->Bool
 | .i8,.i8|.i16,.i16|.i32,.i32|.i64,.i64|.u8,.u8|.u16,.u16|.u32,.u32|.u64,.u64=>true
 | _,_=>false
theorem cC {k k':IntKind} (h:Zk k k'=true):k=k':=by cases k<;>cases k'<;>first|rfl|cases h
def Eo (P:Program):List Field->Nat->List PV->Bool
 | [],_,[]=>true
 | f::fs,o,c::cs=>(f.name != "_")&&Nat.beq f.offset o&&(match P.underlying f.type,c with
  | some (.int _),.int _ _=>true
  | some .string,.str _=>true
  | some .bool,.bool _=>true
  | _,_=>false)&&Eo P fs (o+1) cs
 | _,_,_=>false
def DA:List PV->Bool
 | []=>true
 | .bool _::cs=>DA cs
 | _::_=>false
def Dz (P:Program) (t e:TypeId) (n:Nat) (cs:List PV):Bool:=
 !P.eqGuardType P.depth t&&(match P.underlying e with|some .bool=>true|_=>false)&&(P.info? e).isSome&&Nat.beq (P.cellsOf e) 1&&Nat.beq n cs.length&&DA cs
def LY (P:Program) (t:TypeId) (cs:List PV):Bool:=
 match P.underlying t with
 | some (.array n e)=>Dz P t e n cs
 | some (.struct ⟨fs⟩)=>!P.stoodInHeld t&&!P.eqGuardType P.depth t&&Eo P fs 0 cs
 | _=>false
def Hy:List PV->List PV->(Bool->Prop)->Prop
 | [],[],R=>R true
 | .int k a::az,.int k' b::bs,R=>match Zk k k' with
  | true=>Hy az bs fun c=>R (bif a==b then c else false)
  | false=>False
 | .str a::az,.str b::bs,R=>Hy az bs fun c=>R (bif a==b then c else false)
 | .bool a::az,.bool b::bs,R=>Hy az bs fun c=>R (bif a==b then c else false)
 | _,_,_=>False
def Rc (P:Program) (g:G) (op:BinOp) (t:TypeId) (x y:FV) (R:FV->Prop):Prop:=
 match x with
 | .p (.int k a)=>match y with
  | .p (.int k' b)=>match op with
   | .shl=>gI g (0<=b)/\R (.p (.int k (k.wrap (a * 2 ^ (min b.toNat k.bits)))))
   | .shr=>gI g (0<=b)/\R (.p (.int k (a.fdiv (2 ^ (min b.toNat k.bits)))))
   | .quo=>match Zk k k' with|true=>gI g (b≠0)/\R (.p (.int k (k.wrap (a.tdiv b))))|false=>False
   | .rem=>match Zk k k' with|true=>gI g (b≠0)/\R (.p (.int k (a.tmod b)))|false=>False
   | op=>match Zk k k' with|true=>Rr op k a b fun v=>R (.p v)|false=>False
  | _=>False
 | .p (.str a)=>match y with
  | .p (.str b)=>Rs g op a b fun v=>R (.p v)
  | _=>False
 | .p (.bool a)=>match y with
  | .p (.bool b)=>HN P t (Rq op a b fun v=>R (.p v))
  | _=>False
 | .p (.agg az)=>match y with
  | .p (.agg bs)=>match op with
   | .eql=>LY P t az=true/\Hy az bs fun c=>R (.p (.bool c))
   | .neq=>LY P t az=true/\Hy az bs fun c=>R (.p (.bool (!c)))
   | _=>False
  | _=>False
 | _=>False
def HT (P:Program) (t:TypeId) (x:FV) (f:Nat) (R:FV->Prop):Prop:=
 match x with
 | .ptr k off=>UG P t f fun o _=>R (.ptr k (off+o))
 | .hptr row=>UG P t f fun o _=>rP o row fun r=>R (.hptr r)
 | .eptr k z i off=>UG P t f fun o _=>R (.eptr k z i (off+o))
 | _=>False
def Nu (P:Program) (t:TypeId) (x:FV) (f:Nat) (R:FV->Prop):Prop:=
 match x with
 | .p (.agg cs)=>UG P t f fun o u=>rP o cs fun r=>cF P u fun agg n=>match agg with
  | true=>Qi n r fun r=>R (.p (.agg r))
  | false=>match r with|c::_=>R (.p c)|[]=>False
 | _=>False
def nR (P:Program) (t:TypeId) (R:TypeId->Nat->Prop):Prop:=
 match P.underlying t with
 | some (.slice e)=>match P.info? e with|some i=>R e i.size|none=>False
 | _=>False
def QV (P:Program) (g:G) (t:TypeId) (x i:FV) (R:FV->Prop):Prop:=
 match x,i with
 | .p (.sl rows),.p (.int _ i)=>nR P t fun _ z=>∃ row,gI g (0<=i/\rows[i.toNat]? =some row/\row.length=z)/\R (.hptr row)
 | .tsl _ rows,.p (.int _ i)=>nR P t fun _ z=>∃ row,gI g (0<=i/\rows[i.toNat]? =some row/\row.length=z)/\R (.hptr row)
 | .ptr k off,.p (.int _ i)=>match P.underlying t with
  | some (.array n e)=>match P.info? e with
   | some ti=>gI g (0<=i/\i<n)/\R (.ptr k (off+i.toNat * ti.size))
   | none=>False
  | _=>False
 | .vsl k n,.p (.int _ i)=>nR P t fun _ z=>∃ j:Nat,gI g (i=j/\j<n)/\R (.eptr k z j 0)
 | .hptr row,.p (.int _ i)=>match P.underlying t with
  | some (.array n e)=>match P.info? e with
   | some ti=>gI g (0<=i/\i<n)/\R (.hptr ((row.drop (i.toNat * ti.size)).take ti.size))
   | none=>False
  | _=>False
 | .bsl k off n _,.p (.int _ i)=>nR P t fun _ _=>gI g (i=0/\0<n)/\R (.ptr k off)
 | .eptr k z 0 0,.p (.int _ i)=>match P.underlying t with
  | some (.array n e)=>match P.info? e with
   | some ti=>match Nat.beq ti.size 1 with
    | true=>∃ j:Nat,gI g (z=1/\i=j/\j<n)/\R (.eptr k 1 j 0)
    | false=>False
   | none=>False
  | _=>False
 | _,_=>False
def HU (P:Program) (g:G) (t:TypeId) (x i:FV) (R:FV->Prop):Prop:=
 match x,i with
 | .p (.str l),.p (.int _ i)=>match P.underlying t with
  | some .string=>∃ b,gI g (0<=i/\l[i.toNat]? =some b)/\R (.p (.int .u8 b.toNat))
  | _=>False
 | .p (.agg cs),.p (.int _ i)=>match P.underlying t with
  | some (.array n e)=>cF P e fun agg z=>match agg with
   | false=>match Nat.beq z 1 with
    | true=>∃ c,gI g (0<=i/\i<n/\cs[i.toNat]? =some c)/\R (.p c)
    | false=>False
   | true=>∃ c,gI g (0<=i/\i<n/\(cs.drop (i.toNat * z)).take z=c)/\R (.p (.agg c))
  | _=>False
 | _,_=>False
def mn (E:Env) (g:G) (x:Option Operand) (d:Nat) (R:Nat->Prop):Prop:=
 match x with
 | none=>R d
 | some x=>Si E g x fun v=>match v with
  | .p (.int _ i)=>∃ n:Nat,gI g (i=n)/\R n
  | _=>False
def Pw (P:Program) (E:Env) (g:G) (t:TypeId) (rows:List (List PV)) (a:Option Operand) (m:Operand) (R:FV->Prop):Prop:=
 match P.underlying t with
 | some (.slice e)=>match P.info? e with
  | some i=>match a with
   | some a=>mn E g (some a) rows.length fun h=>mn E g (some m) rows.length fun c=>gI g (h=c/\h<=rows.length/\∀ r∈rows,r.length=i.size)/\R (.cut (rows.take h))
   | none=>False
  | none=>False
 | _=>False
def HY (P:Program) (E:Env) (g:G) (t:TypeId) (x:FV) (lo b c:Option Operand) (R:FV->Prop):Prop:=
 match c with
 | some m=>match lo with
  | none=>match x with
   | .p (.sl rows)=>Pw P E g t rows b m R
   | .p .nilsl=>Pw P E g t [] b m R
   | .tsl _ rows=>Pw P E g t rows b m R
   | _=>False
  | some _=>False
 | none=>match x with
  | .p (.str l)=>match P.underlying t with
   | some .string=>mn E g b l.length fun h=>mn E g lo 0 fun a=>gI g (a<=h/\h<=l.length)/\R (.p (.str ((l.take h).drop a)))
   | _=>False
  | .p (.sl rows)=>match P.underlying t with
   | some (.slice e)=>match P.info? e with
    | some i=>mn E g b rows.length fun h=>mn E g lo 0 fun a=>gI g (a<=h/\h<=rows.length/\∀ r∈rows,r.length=i.size)/\R (.p (.sl ((rows.take h).drop a)))
    | none=>False
   | _=>False
  | .tsl _ rows=>match P.underlying t with
   | some (.slice e)=>match P.info? e with
    | some i=>mn E g b rows.length fun h=>mn E g lo 0 fun a=>gI g (a<=h/\h<=rows.length/\∀ r∈rows,r.length=i.size)/\R (.p (.sl ((rows.take h).drop a)))
    | none=>False
   | _=>False
  | .ptr k off=>match P.underlying t with
   | some (.array n e)=>match P.info? e with
    | some i=>match Nat.beq i.size 1 with
     | true=>mn E g b n fun h=>mn E g lo 0 fun a=>gI g (a<=h/\h<=n/\a<n)/\R (.bsl k (off+a) (h - a) (n - a))
     | false=>False
    | none=>False
   | _=>False
  | .eptr k z 0 0=>match P.underlying t with
   | some (.array n e)=>match P.info? e with
    | some i=>match Nat.beq i.size 1 with
     | true=>mn E g b n fun h=>mn E g lo 0 fun a=>gI g (z=1/\a<=h/\h<=n/\a<n)/\R (.asl k a (h - a))
     | false=>False
    | none=>False
   | _=>False
  | _=>False
def Re (P:Program) (t:TypeId) (x:FV) (R:FV->Prop):Prop:=
 match x with
 | .p (.str l)=>match P.underlying t with|some .string=>R (.p (.int .i64 l.length))|_=>False
 | .p (.sl rows)=>match P.underlying t with|some (.slice _)=>R (.p (.int .i64 rows.length))|_=>False
 | .tsl _ rows=>match P.underlying t with|some (.slice _)=>R (.p (.int .i64 rows.length))|_=>False
 | .bsl _ _ n _=>match P.underlying t with|some (.slice _)=>R (.p (.int .i64 n))|_=>False
 | .vsl _ n=>match P.underlying t with|some (.slice _)=>R (.p (.int .i64 n))|_=>False
 | .p .nilsl=>match P.underlying t with|some (.slice _)=>R (.p (.int .i64 0))|_=>False
 | _=>False
def Fg (P:Program) (src dst:TypeId) (x:FV) (R:FV->Prop):Prop:=
 match x with
 | .p (.int _ n)=>match P.underlying src with
  | some (.int _)=>match P.underlying dst with
   | some (.int k)=>R (.p (.int k (k.wrap n)))
   | _=>False
  | _=>False
 | .p (.str l)=>match P.underlying src with
  | some .string=>match P.underlying dst with
   | some .string=>R (.p (.str l))
   | _=>False
  | _=>False
 | _=>False
def zu (l:List UInt8):List (List PV):=l.map fun b=>[.int .u8 b.toNat]
def SJ (P:Program) (src dst:TypeId) (R:Prop):Prop:=
 match P.underlying src with
 | some (.slice e)=>match P.underlying e with
  | some (.int .u8)=>match P.underlying dst with
   | some .string=>R
   | _=>False
  | _=>False
 | _=>False
def Rn (P:Program) (src dst:TypeId) (n:Nat) (t:TypeId) (R:Prop):Prop:=
 match P.underlying src with
 | some (.pointer u)=>match P.underlying dst with
  | some .unsafePointer=>match P.info? u with
   | some i=>(i.size≠0/\0<n)/\R
   | none=>False
  | _=>False
 | some .unsafePointer=>match P.underlying dst with
  | some (.pointer u)=>match P.info? u with
   | some _=>liesAt P P.depth t (n / P.cellsOf t) 0 u 1=true/\R
   | none=>False
  | _=>False
 | _=>False
def Vb (P:Program) (g:G) (src dst:TypeId) (lo:List AObj) (x:FV) (R:FV->Prop):Prop:=
 match x with
 | .p (.sl rows)=>SJ P src dst (∃ l,gI g (rows=zu l)/\R (.p (.str l)))
 | .tsl _ rows=>SJ P src dst (∃ l,gI g (rows=zu l)/\R (.p (.str l)))
 | .p .nilsl=>SJ P src dst (R (.p (.str [])))
 | .bsl k off n _=>SJ P src dst (my k lo fun o=>match o with
   | .box _ cells=>rP off cells fun cs=>Qi n cs fun cs=>BG cs fun a=>∃ l:List UInt8,gI g (a=l.map fun b=>PV.int .u8 b.toNat)/\R (.p (.str l))
   | _=>False)
 | .ptr k off=>match Nat.beq off 0 with
  | true=>my k lo fun o=>match o with
   | .box t cells=>Rn P src dst cells.length t (R (.ptr k 0))
   | _=>False
  | false=>False
 | .vsl k n=>SJ P src dst (my k lo fun o=>match o with
   | .bv l=>gI g (n=l.length)/\R (.p (.str l))
   | _=>False)
 | .asl k off n=>SJ P src dst (my k lo fun o=>match o with
   | .bv l=>gI g (off+n<=l.length)/\R (.p (.str ((l.drop off).take n)))
   | _=>False)
 | x=>Fg P src dst x R
def tL (P:Program) (H:(PH Lw)) (w:World) (r:PV):Result Next->Prop
 | .ok (.value v) w'=>∃ H',Calm H w H' w'/\qp H' r v
 | .ok (.enter f args) w'=>w'=w/\Calls P f args w fun e w''=>∃ v H',e=.returned v/\Calm H w H' w''/\qp H' r v
 | _=>False
def qi (P:Program) (f:FuncId) (args:List PV) (r:PV):Prop:=
 ∀ ⦃Lw:Nat⦄ (H:PH Lw) (w:World) (vs:List Value),SatH H w->qJ H args vs->tL P H w r ((callFunc f vs.toArray).run P w)
def US (E:Env) (g:G):Nat->List (Nat×Operand)->(List PV->Prop)->Prop
 | _,[],R=>R []
 | k,(i,x)::l,R=>match Nat.beq i k with
  | true=>Si E g x fun v=>BF v fun p=>US E g (k+1) l fun a=>R (p::a)
  | false=>False
def Ce (p:PV) (R:List PV->Prop):Prop:=
 match p with
 | .agg cs=>R cs
 | .tup _=>False
 | p=>R [p]
def Ln:List PV->(List (List PV)->Prop)->Prop
 | [],R=>R []
 | p::ps,R=>Ce p fun c=>Ln ps fun rs=>R (c::rs)
def Fp:PV->Bool
 | .agg _|.tup _=>false
 | _=>true
def gR (P:Program) (E:Env) (g:G) (t:TypeId) (n:Nat) (parts:List (Nat×Operand)) (R:FV->Prop):Prop:=
 nR P t fun e z=>match Nat.beq parts.length n with
  | true=>match Nat.ble 1 n with
   | true=>match Nat.ble 1 z with
    | true=>match Nat.ble (n * z) 16777216 with
     | true=>match P.info? e with
      | some i=>match i.zero with
       | some _=>US E g 0 parts fun b=>Ln b fun rows=>(∀ r∈rows,r.length=z/\r.all Fp=true)/\∃ a,(rows=a\/Xf rows a)/\R (.p (.sl a))
       | none=>False
      | none=>False
     | false=>False
    | false=>False
   | false=>False
  | false=>False
def ZY:Nat->List PV->List PV->(List PV->Prop)->Prop
 | 0,[],old,R=>R old
 | 0,v::vs,old,R=>match old with|[]=>False|_::old=>ZY 0 vs old fun l=>R (v::l)
 | n+1,vs,old,R=>match old with|[]=>False|a::old=>ZY n vs old fun l=>R (a::l)
def LX (P:Program) (E:Env) (g:G) (a:List Field):List (Nat×Operand)->List PV->(List PV->Prop)->Prop
 | [],cs,R=>R cs
 | (i,x)::l,cs,R=>my i a fun f=>match P.info? f.type with
  | some ti=>Si E g x fun v=>BF v fun p=>Ce p fun c=>match Nat.beq c.length ti.size with
   | true=>ZY f.offset c cs fun cs=>LX P E g a l cs R
   | false=>False
  | none=>False
def Co (P:Program):List Field->Bool
 | []=>true
 | f::fs=>match P.info? f.type with|some _=>Co P fs|none=>false
def HP (P:Program) (E:Env) (g:G) (t:TypeId) (parts:List (Nat×Operand)) (R:FV->Prop):Prop:=
 match P.info? t with
 | some i=>match i.zero with
  | some (.agg ⟨vs⟩)=>Dg vs fun b=>match P.underlying t with
   | some (.struct ⟨fs⟩)=>match Co P fs with
    | true=>LX P E g fs parts b fun cs=>R (.p (.agg cs))
    | false=>False
   | some (.array _ e)=>match P.info? e with
    | some ei=>match Nat.beq ei.size 1 with
     | true=>US E g 0 parts fun a=>a.length=vs.length/\(∀ c∈a,Fp c=true)/\R (.p (.agg a))
     | false=>US E g 0 parts fun a=>Ln a fun rows=>(∀ r∈rows,r.length=ei.size)/\rows.flatten.length=vs.length/\R (.p (.agg rows.flatten))
    | none=>False
   | _=>False
  | _=>False
 | none=>False
def UL (P:Program) (op:BinOp) (t:TypeId) (a:Bool) (y:FV) (R:FV->Prop):Prop:=
 match P.underlying t with
 | some (.func _ _ _)=>match y with
  | .p .nilfn=>match op with
   | .eql=>R (.p (.bool a))
   | .neq=>R (.p (.bool (!a)))
   | _=>False
  | _=>False
 | _=>False
def Px (P:Program) (op:BinOp) (t:TypeId) (x y:FV) (R:FV->Prop):Prop:=
 match P.underlying t with
 | some (.pointer e)=>match P.info? e with
  | some _=>match op with
   | .eql=>match x,y with
    | .p .nilp,.p .nilp=>R (.p (.bool true))
    | .ptr _ _,.p .nilp=>R (.p (.bool false))
    | .hptr _,.p .nilp=>R (.p (.bool false))
    | _,_=>False
   | .neq=>match x,y with
    | .p .nilp,.p .nilp=>R (.p (.bool false))
    | .ptr _ _,.p .nilp=>R (.p (.bool true))
    | .hptr _,.p .nilp=>R (.p (.bool true))
    | .ptr k off,.ptr k' off'=>match Nat.beq k k' with
     | true=>match Nat.beq off off' with
      | true=>R (.p (.bool false))
      | false=>False
     | false=>False
    | _,_=>False
   | _=>False
  | none=>False
 | _=>False
def GO (E:Env):List (Nat×Operand)->Prop->Prop->Prop
 | [],_,no=>no
 | (_,x)::l,yes,no=>ev E x fun v=>match v with
  | .mref _=>yes
  | .ptr _ _=>yes
  | .clo _ _=>yes
  | .bsl _ _ _ _=>yes
  | _=>GO E l yes no
def Mk:List PV->(List FV->Prop)->Prop
 | [],R=>R []
 | c::cs,R=>Mk cs fun l=>R (.p c::l)
def sB:Nat->List FV->List FV->(List FV->Prop)->Prop
 | 0,[],old,R=>R old
 | 0,v::vs,old,R=>match old with|[]=>False|_::old=>sB 0 vs old fun l=>R (v::l)
 | n+1,vs,old,R=>match old with|[]=>False|a::old=>sB n vs old fun l=>R (a::l)
def Ng (v:FV) (R:List FV->Prop):Prop:=
 match v with
 | .p p=>Ce p fun cs=>Mk cs R
 | .tsl k rows=>R [.tsl k rows]
 | .mref k=>R [.mref k]
 | .ptr k o=>R [.ptr k o]
 | .clo f c=>R [.clo f c]
 | .bsl k o n c=>R [.bsl k o n c]
 | .fagg c=>bN c R
 | _=>False
def LW (P:Program) (E:Env) (g:G) (a:List Field):List (Nat×Operand)->List FV->(List FV->Prop)->Prop
 | [],cs,R=>R cs
 | (i,x)::l,cs,R=>my i a fun f=>match P.info? f.type with
  | some ti=>Si E g x fun v=>Ng v fun c=>match Nat.beq c.length ti.size with
   | true=>sB f.offset c cs fun cs=>LW P E g a l cs R
   | false=>False
  | none=>False
def Va (P:Program) (E:Env) (g:G) (t:TypeId) (parts:List (Nat×Operand)) (R:FV->Prop):Prop:=
 match P.info? t with
 | some i=>match i.zero with
  | some (.agg ⟨vs⟩)=>Dg vs fun a=>Mk a fun a=>match P.underlying t with
   | some (.struct ⟨fs⟩)=>match Co P fs with
    | true=>LW P E g fs parts a fun cs=>R (.fagg (Pe cs))
    | false=>False
   | _=>False
  | _=>False
 | none=>False
def Hp:FV->(List PV->Prop)->Prop
 | .cap0,R=>R []
 | .cap a b,R=>BF a fun p=>Hp b fun l=>R (p::l)
 | _,_=>False
def LP (P:Program) (t:TypeId) (m:String) (f:FuncId):Prop:=∀ v w,(method (P.types.size+Made.depth) t v m).run P w=.ok (f,v) w
def LN (P:Program) (p:PV) (b a:TypeId) (r:PV):Prop:=∀ ⦃Lw:Nat⦄ (H:PH Lw) (v:Value) (w:World),qp H p v->∃ u,(Instr.typeAssert v b a true).run P w=.ok u w/\qp H r u
def HX (P:Program) (op:Op) (E:Env) (g:G) (R:FV->Prop):Prop:=
 match op with
 | .makeFunc (.func f) ⟨b::bs⟩ ⟨[]⟩=>Sh E g (b::bs) fun vs=>BG vs fun d=>R (.p (.bfn f d))
 | .typeAssert x xt a true=>Si E g x fun x=>BF x fun p=>∃ r,gI g (LN P p xt a r)/\R (.p r)
 | .makeFunc (.func f) ⟨[]⟩ ⟨xs⟩=>match xs with
  | []=>R (.p (.fn f))
  | x::xs=>Sh E g (x::xs) fun vs=>R (.clo f (Pe vs))
 | .call { callee:=.value (.tmp t),args:=⟨xs⟩,argTypes:=_ }=>Si E g (.tmp t) fun e=>Sh E g xs fun vs=>BG vs fun args=>match e with
  | .p (.fn f)=>∃ r,gI g (qi P f args r)/\R (.p r)
  | .clo f c=>Hp c fun cs=>∃ r,gI g (qi P f (args++cs) r)/\R (.p r)
  | .p (.clo f cs)=>∃ r,gI g (qi P f (args++cs) r)/\R (.p r)
  | .p (.bfn f bs)=>∃ r,gI g (qi P f (bs++args) r)/\R (.p r)
  | _=>False
 | .call { callee:=.invoke r m,args:=⟨xs⟩,argTypes:=_ }=>Si E g r fun h=>Sh E g xs fun vs=>BG vs fun args=>match h with
  | .p (.ifc t v)=>∃ f r,gI g (LP P t m f/\qi P f (v::args) r)/\R (.p r)
  | _=>False
 | .call { callee:=.builtin .max,args:=⟨[x,y]⟩,argTypes:=_ }=>Si E g x fun x=>Si E g y fun y=>match x with
  | .p (.int k a)=>match y with
   | .p (.int _ b)=>R (.p (.int k (bif decide (b>a)then b else a)))
   | _=>False
  | _=>False
 | .call { callee:=.builtin .min,args:=⟨[x,y]⟩,argTypes:=_ }=>Si E g x fun x=>Si E g y fun y=>match x with
  | .p (.int k a)=>match y with
   | .p (.int _ b)=>R (.p (.int k (bif decide (b<a)then b else a)))
   | _=>False
  | _=>False
 | _=>False
def Mg (P:Program) (op:Op) (E:Env) (g:G) (R:FV->Prop):Prop:=
 match op with
 | .move x=>match g with|none=>ev E x R|some g=>Si E (some g) x R
 | .assign x=>match g with|none=>ev E x R|some g=>Si E (some g) x R
 | .pick c a b=>Si E g c fun c=>match c with
  | .p (.bool c)=>match g with
   | none=>Si E (some c) a fun a=>Si E (some (!c)) b fun b=>match a,b with
    | .p (.bool a),.p (.bool b)=>R (.p (.bool (bif c then a else b)))
    | _,_=>False
   | some g=>Si E (some (g&&c)) a fun a=>Si E (some (g&&!c)) b fun b=>match a,b with
    | .p (.bool a),.p (.bool b)=>R (.p (.bool (bif c then a else b)))
    | _,_=>False
  | _=>False
 | .fieldAddr t x f=>Si E g x fun x=>HT P t x f R
 | .field t x f=>Si E g x fun x=>Nu P t x f R
 | .indexAddr t x i=>Si E g x fun x=>Si E g i fun i=>QV P g t x i R
 | .index t x i=>Si E g x fun x=>Si E g i fun i=>HU P g t x i R
 | .binOp op t x y _=>Si E g x fun x=>Si E g y fun y=>match x with
  | .ptr k off=>Px P op t (.ptr k off) y R
  | .hptr row=>Px P op t (.hptr row) y R
  | .p .nilp=>Px P op t (.p .nilp) y R
  | .p .nilfn=>UL P op t true y R
  | .p (.fn _)=>UL P op t false y R
  | .p (.clo _ _)=>UL P op t false y R
  | .p (.bfn _ _)=>UL P op t false y R
  | x=>Rc P g op t x y R
 | .unOp .not _ x=>Si E g x fun x=>match x with|.p (.bool b)=>R (.p (.bool (!b)))|_=>False
 | .unOp .neg _ x=>Si E g x fun x=>match x with|.p (.int k n)=>R (.p (.int k (k.wrap (0 - n))))|_=>False
 | .nilCheck x=>Si E g x fun x=>match x with
  | .ptr k off=>R (.ptr k off)
  | .hptr row=>R (.hptr row)
  | .eptr k z i off=>R (.eptr k z i off)
  | _=>False
 | .slice t x lo hi mx=>Si E g x fun x=>HY P E g t x lo hi mx R
 | .buildSlice t n ⟨parts⟩=>gR P E g t n parts R
 | .build t ⟨parts⟩=>GO E parts (Va P E g t parts R) (HP P E g t parts R)
 | .extract x i=>Si E g x fun x=>match x with
  | .p (.tup vs)=>my i vs fun v=>R (.p v)
  | .pair a b=>match i with|0=>R a|1=>R b|_=>False
  | .nxt ok a b=>match i with|0=>R (.p (.bool ok))|1=>gI g (ok=true)/\R (.p a)|2=>gI g (ok=true)/\R (.p b)|_=>False
  | _=>False
 | .makeInterface t x=>Si E g x fun x=>match P.underlying t with
  | some (.interface _)=>False
  | some _=>match x with
   | .vsl k n=>R (.ifs t (.vsl k n))
   | x=>BF x fun v=>R (.p (.ifc t v))
  | none=>False
 | .call { callee:=.builtin .len,args:=⟨[x]⟩,argTypes:=⟨[t]⟩ }=>Si E g x fun x=>Re P t x R
 | .call { callee:=.value (.func f),args:=⟨xs⟩,argTypes:=_ }=>
   Sh E g xs fun vs=>BG vs fun args=>∃ r,gI g (qi P f args r)/\R (.p r)
 | op=>HX P op E g R
def ownV:List FV->Bool
 | []=>false
 | .vsl _ _::_=>true
 | _::l=>ownV l
def Rv:List FV->Bool
 | []=>false
 | .p (.nsl _)::_=>true
 | _::l=>Rv l
def Rw:List FV->Bool
 | []=>false
 | .tsl _ _::_=>true
 | _::l=>Rw l
def rQ:List FV->Bool
 | []=>true
 | .tsl _ _::l=>rQ l
 | _::_=>false
def RF (cs:List FV):Bool:=match ownV cs with
 | true=>true
 | false=>match Rw cs with
  | false=>false
  | true=>match Rv cs with
   | true=>true
   | false=>rQ cs
def rq (P:Program) (t:TypeId) (lo:List AObj) (x:FV) (R:FV->Prop):Prop:=
 match x with
 | .ptr k off=>my k lo fun o=>match o with
  | .box _ cells=>rP off cells fun cs=>cF P t fun agg n=>match agg with
   | true=>Qi n cs fun cs=>match RF cs with
    | true=>R (.fagg (Pe cs))
    | false=>BG cs fun l=>R (.p (.agg l))
   | false=>match cs with|c::_=>R c|[]=>False
  | .pbx _ c=>match Nat.beq off 0 with
   | true=>cF P t fun agg _=>match agg with|true=>False|false=>R c
   | false=>False
  | _=>False
 | .hptr row=>cF P t fun agg n=>match agg with
  | true=>Qi n row fun r=>R (.p (.agg r))
  | false=>match row with|c::_=>R (.p c)|[]=>False
 | _=>False
def sy:Op->Bool
 | .load _ _=>true
 | .convert _ _ _=>true
 | .lookup _ _ _ _=>true
 | _=>false
def cB:Op->Bool
 | .box _ _|.alloc _|.store _ _ _|.makeMap _ _|.mapUpdate _ _ _ _|.insert _ _ _ _|.range _ _|.next _ _=>true
 | .call { callee:=.builtin .append,.. }=>true
 | .call { callee:=.builtin .clear,.. }=>true
 | .call { callee:=.builtin .copy,.. }=>true
 | .makeSlice _ _ _=>true
 | _=>false
def EZ:FV->Bool
 | .p (.agg _)|.p (.tup _)|.top|.opt _ _|.pair _ _|.stmp _|.cap0|.cap _ _|.fagg _|.nxt _ _ _=>false
 | _=>true
def Fx (P:Program) (t:TypeId) (R:List PV->Prop):Prop:=
 match P.info? t with
 | some i=>match i.zero with
  | some (.agg ⟨vs⟩)=>Dg vs R
  | some v=>Dg [v] R
  | none=>False
 | none=>False
def su (v:FV) (R:List FV->Prop):Prop:=
 match v with
 | .p (.agg cs)=>Mk cs R
 | .fagg c=>bN c R
 | v=>match EZ v with|true=>R [v]|false=>False
def tW:List FV->Bool
 | []=>true
 | v::l=>match EZ v with|true=>tW l|false=>false
def DY (x:FV) (R:List (List PV)->Prop):Prop:=
 match x with
 | .p (.sl rows)=>R rows
 | .tsl _ rows=>R rows
 | .p .nilsl=>R []
 | _=>False
def Me:PV->PV->Bool
 | .str a,.str b=>a==b
 | .int _ a,.int _ b=>a==b
 | .bool a,.bool b=>a==b
 | _,_=>false
def Cz (k:PV):List (PV×PV)->Option PV
 | []=>none
 | (k',v)::es=>bif Me k k' then some v else Cz k es
def MS (k v:PV):List (PV×PV)->List (PV×PV)
 | []=>[(k,v)]
 | (k',v')::es=>bif Me k k' then(k,v)::es else(k',v')::MS k v es
def BY (a d:TypeDesc) (kp:PV) (R:Prop):Prop:=
 match a,d,kp with
 | .string,.string,.str _=>R
 | .bool,.bool,.bool _=>R
 | .int k,.int k',.int k'' _=>match Zk k k' with
  | true=>match Zk k k'' with
   | true=>R
   | false=>False
  | false=>False
 | _,_,_=>False
def Rf (d:TypeDesc) (R:Prop):Prop:=
 match d with
 | .string=>R
 | .bool=>R
 | .int _=>R
 | _=>False
def MT (P:Program) (t:TypeId) (d:TypeDesc) (kp:PV) (R:TypeId->Prop):Prop:=
 match P.underlying t with
 | some (.map kt et)=>match P.underlying kt with
  | some d'=>BY d' d kp (R et)
  | none=>False
 | _=>False
def Bc (P:Program) (t:TypeId) (R:PV->Prop):Prop:=
 match P.info? t with
 | some i=>match i.zero with
  | some (.agg ⟨vs⟩)=>Dg vs fun l=>R (.agg l)
  | some v=>match Pb v with|some p=>R p|none=>False
  | none=>False
 | none=>False
def ry (P:Program) (g:G) (t:TypeId) (lo:List AObj) (x key:FV) (ok:Bool) (R:FV->Prop):Prop:=
 match x,key with
 | .mref k,.p kp=>my k lo fun o=>match o with
  | .mp d es _=>MT P t d kp fun a=>Bc P a fun z=>∃ v b,gI g ((Cz kp es).getD z=v/\(Cz kp es).isSome=b)/\R (match ok with|false=>.p v|true=>.p (.tup [v,.bool b]))
  | _=>False
 | _,_=>False
def Nt (P:Program) (t:TypeId) (lo:List AObj) (x:FV) (R:FV->Prop):Prop:=
 match x with
 | .mref k=>my k lo fun o=>match o with
  | .mp _ es _=>match P.underlying t with
   | some (.map _ _)=>∃ n:Nat,es.length=n/\R (.p (.int .i64 n))
   | _=>False
  | _=>False
 | _=>False
def Fi (P:Program) (E:Env) (lo:List AObj) (t:TypeId) (m k x:Operand) (R:FV->List AObj->Prop):Prop:=
 Si E none m fun m=>Si E none k fun k=>Si E none x fun x=>BF x fun b=>match m,k with
  | .mref j,.p kp=>my j lo fun o=>match o with
   | .mp d es _=>MT P t d kp fun _=>∃ a,MS kp b es=a/\tH j (.mp d a none) lo fun lo=>R (.p (.tup [])) lo
   | _=>False
  | _,_=>False
def MW (l:List UInt8) (i:Nat):Nat:=(Utf8.decode ⟨l.toArray⟩ i).1
def Lo (l:List UInt8) (i:Nat):Nat:=i+(Utf8.decode ⟨l.toArray⟩ i).2
def Ns (P:Program) (op:Op) (E:Env) (lo:List AObj) (R:FV->List AObj->Prop):Prop:=
 match op with
 | .range t x=>Si E none x fun x=>match x with
  | .p (.str l)=>match P.underlying t with
   | some .string=>sL lo 0 fun n=>di lo (.sit l 0) fun lo=>R (.ptr n 0) lo
   | _=>False
  | _=>False
 | .next x true=>Si E none x fun x=>match x with
  | .ptr k 0=>my k lo fun o=>match o with
   | .sit l pos=>∃ ok a,(decide (pos<l.length)=ok/\(bif ok then Lo l pos else pos)=a)/\tH k (.sit l a) lo fun lo=>R (.nxt ok (.int .i64 pos) (.int .i32 (MW l pos))) lo
   | _=>False
  | _=>False
 | .makeMap t none=>match P.underlying t with
  | some (.map kt _)=>match P.underlying kt with
   | some d=>Rf d (sL lo 0 fun n=>di lo (.mp d [] none) fun lo=>R (.mref n) lo)
   | none=>False
  | _=>False
 | .mapUpdate t m k x=>Fi P E lo t m k x R
 | .insert t m k x=>Fi P E lo t m k x R
 | .call { callee:=.builtin .clear,args:=⟨[x]⟩,argTypes:=⟨[t]⟩ }=>Si E none x fun x=>match x with
  | .mref k=>my k lo fun o=>match o with
   | .mp d _ _=>match P.underlying t with
    | some (.map _ _)=>tH k (.mp d [] none) lo fun lo=>R (.p (.tup [])) lo
    | _=>False
   | _=>False
  | _=>False
 | _=>False
def BX (P:Program) (t:TypeId) (lo:List AObj) (k z i off:Nat) (x:FV) (R:FV->List AObj->Prop):Prop:=
 su x fun vs=>BG vs fun f=>sL f 0 fun n=>cF P t fun _ m=>match Nat.beq n m with
  | true=>my k lo fun o=>match o with
   | .vec e z' rows=>∃ row,(z'=z/\rows[i]? =some row/\f.all Fp=true)/\ZY off f row fun d=>∃ a,rows.set i d=a/\tH k (.vec e z' a) lo fun lo=>R (.p (.tup [])) lo
   | .vl e z' rows j kt=>∃ row g,(z'=z/\rows[i]? =some row/\f.all Fp=true/\(j<z/\(off+f.length<=j\/j<off)/\g=kt\/off=j/\i+1=rows.length/\∃ h,x=.tsl g h)) /\
     ZY off f row fun d=>∃ a,rows.set i d=a/\tH k (.vl e z' a j g) lo fun lo=>R (.p (.tup [])) lo
   | .bv l=>match f with
    | [.int .u8 n]=>∃ (c:UInt8) (q:List UInt8),(z=1/\off=0/\i<l.length/\n=(c.toNat:Int)/\l.set i c=q)/\tH k (.bv q) lo fun lo=>R (.p (.tup [])) lo
    | f=>∃ q:List UInt8,(z=1/\off=0/\i=0/\q.length=l.length/\f=q.map fun b=>PV.int .u8 b.toNat)/\tH k (.bv q) lo fun lo=>R (.p (.tup [])) lo
   | _=>False
  | false=>False
def UM (P:Program) (t:TypeId) (lo:List AObj) (k z i off:Nat) (R:FV->Prop):Prop:=
 my k lo fun o=>match o with
  | .vec _ z' rows=>∃ row,(z'=z/\rows[i]? =some row)/\rP off row fun cs=>cF P t fun agg n=>match agg with
   | true=>Qi n cs fun l=>R (.p (.agg l))
   | false=>match cs with|c::_=>R (.p c)|[]=>False
  | .vl _ z' rows j kt=>∃ row,(z'=z/\rows[i]? =some row)/\rP off row fun cs=>cF P t fun agg n=>match agg with
   | true=>Qi n cs fun l=>R (.p (.agg l))
   | false=>match cs with
    | c::_=>match Nat.beq off j with
     | true=>i+1=rows.length/\∃ rs,c=.sl rs/\R (.tsl kt rs)
     | false=>R (.p c)
    | []=>False
  | .bv l=>cF P t fun agg _=>match agg with
   | true=>False
   | false=>∃ c:UInt8,(z=1/\off=0/\l[i]? =some c)/\R (.p (.int .u8 c.toNat))
  | _=>False
def Vd (P:Program) (g:Bool) (t:TypeId) (lo:List AObj) (k z i off:Nat) (R:FV->Prop):Prop:=
 my k lo fun o=>match o with
  | .vec _ z' rows=>∃ row,(g=true->z'=z/\rows[i]? =some row)/\rP off row fun cs=>cF P t fun agg _=>match agg with
   | true=>False
   | false=>match cs with|c::_=>R (.p c)|[]=>False
  | .vl _ z' rows j _=>∃ row,(g=true->z'=z/\rows[i]? =some row)/\rP off row fun cs=>cF P t fun agg _=>match agg with
   | true=>False
   | false=>match cs with
    | c::_=>match Nat.beq off j with
     | true=>False
     | false=>R (.p c)
    | []=>False
  | _=>False
def HQ (P:Program) (src dst:TypeId) (lo:List AObj) (x:FV) (R:FV->List AObj->Prop):Prop:=
 match x with
 | .p (.str l)=>match P.underlying src with
  | some _=>match P.underlying dst with
   | some (.slice e)=>match P.underlying e with
    | some (.int .u8)=>sL lo 0 fun n=>di lo (.bv l) fun lo=>R (.vsl n l.length) lo
    | _=>False
   | _=>False
  | none=>False
 | _=>False
def DN (P:Program) (t:TypeId) (lo:List AObj) (b:Nat) (news:List (List PV)) (R:FV->List AObj->Prop):Prop:=
 nR P t fun e z=>match Nat.beq z 0 with
 | true=>False
 | false=>match P.info? e with
  | some i=>match i.zero with
   | some zv=>match Nat.beq zv.cells.size z with
    | true=>my b lo fun o=>match o with
     | .vec e' z' rows=>∃ a,(rows++news=a/\e'=e/\z'=z/\(∀ r∈news,r.length=z)/\a.length * i.bytes<=140737488355328/\a.length<=9223372036854775807) /\
       tH b .dead lo fun lo=>sL lo 0 fun k=>di lo (.vec e z a) fun lo=>R (.vsl k a.length) lo
     | .vl e' z' rows j _=>∃ a r e2 z2,((rows++news=a\/Xf (rows++news) a)/\(news=[r]/\r[j]? =some .nilsl)/\e'=e/\z'=z/\(∀ r∈news,r.length=z)/\a.length * i.bytes<=140737488355328/\a.length<=9223372036854775807) /\
       tH b .dead lo fun lo=>sL lo 0 fun c=>di lo (.tail e2 z2 0) fun lo=>sL lo 0 fun k=>di lo (.vl e z a j c) fun lo=>R (.vsl k a.length) lo
     | _=>False
    | false=>False
   | none=>False
  | none=>False
def Fa (P:Program) (t:TypeId) (lo:List AObj) (R:FV->List AObj->Prop):Prop:=
 Fx P t fun z=>∃ l:List UInt8,z=l.map (fun b=>PV.int .u8 b.toNat)/\sL lo 0 fun k=>di lo (.bv l) fun lo=>R (.eptr k 1 0 0) lo
def BK (P:Program) (E:Env) (lo:List AObj) (t:TypeId) (n:Nat) (parts:List (Nat×Operand)) (R:FV->List AObj->Prop):Prop:=
 nR P t fun e z=>gR P E none t n parts fun v=>match v with
  | .p (.sl rows)=>sL lo 0 fun k=>di lo (.vec e z rows) fun lo=>R (.vsl k rows.length) lo
  | _=>False
def Qa:List Nat->Nat->Bool
 | [],_=>false
 | a::l,f=>match Nat.beq f a with|true=>true|false=>Qa l f
def BJ (P:Program) (E:Env) (lo:List AObj) (t:TypeId) (n:Nat) (parts:List (Nat×Operand)) (R:FV->List AObj->Prop):Prop:=
 nR P t fun e z=>gR P E none t n parts fun v=>match v with
  | .p (.sl rows)=>sL lo 0 fun k=>di lo (.tail e z rows.length) fun lo=>R (.tsl k rows) lo
  | _=>False
def HI (inl:List Nat) (d:Option Tmp):Bool:=match d with
 | some d=>Qa inl (30000000+d)
 | none=>false
def DO (P:Program) (g:Bool) (E:Env) (lo:List AObj) (t:TypeId) (n:Nat) (parts:List (Nat×Operand)) (R:FV->List AObj->Prop):Prop:=
 match g with
 | true=>BJ P E lo t n parts R
 | false=>BK P E lo t n parts R
def MP (P:Program) (op:Op) (E:Env) (lo:List AObj) (R:FV->List AObj->Prop):Prop:=
 match op with
 | .box t x=>Si E none x fun x=>su x fun cs=>match tW cs with
  | true=>sL lo 0 fun n=>di lo (.box t cs) fun lo=>R (.ptr n 0) lo
  | false=>False
 | .alloc t=>Fx P t fun z=>Mk z fun cs=>match tW cs with
  | true=>sL lo 0 fun n=>di lo (.box t cs) fun lo=>R (.ptr n 0) lo
  | false=>False
 | .store t a x=>Si E none a fun a=>Si E none x fun x=>match a with
  | .ptr k off=>su x fun vs=>match tW vs with
   | true=>sL vs 0 fun n=>cF P t fun _ m=>match Nat.beq n m with
    | true=>my k lo fun o=>match o with
     | .box bt cells=>sB off vs cells fun cells=>tH k (.box bt cells) lo fun lo=>R (.p (.tup [])) lo
     | _=>False
    | false=>False
   | false=>False
  | .eptr k z i off=>BX P t lo k z i off x R
  | _=>False
 | .call { callee:=.builtin .append,args:=⟨[s,x]⟩,argTypes:=⟨[t,t']⟩ }=>match Nat.beq t t' with
  | true=>Si E none s fun s=>Si E none x fun x=>DY x fun news=>match s with
   | .vsl k0 _=>DN P t lo k0 news R
   | s=>nR P t fun e z=>match Nat.beq z 0 with
   | true=>False
   | false=>match P.info? e with
    | some i=>match i.zero with
     | some zv=>match Nat.beq zv.cells.size z with
      | true=>match s with
       | .p .nilsl=>((∀ r∈news,r.length=z)/\news.length * i.bytes<=140737488355328/\news.length<=9223372036854775807) /\
         sL lo 0 fun k=>di lo (.tail e z news.length) fun lo=>R (.tsl k news) lo
       | .tsl k0 rows=>((∀ r∈rows++news,r.length=z)/\(rows++news).length * i.bytes<=140737488355328/\(rows++news).length<=9223372036854775807) /\
         my k0 lo fun o=>match o with
         | .tail e' z' n=>(e'=e/\z'=z/\n=rows.length) /\
           tH k0 .dead lo fun lo=>sL lo 0 fun k=>di lo (.tail e z (rows++news).length) fun lo=>R (.tsl k (rows++news)) lo
         | _=>False
       | .cut rows=>((∀ r∈rows++news,r.length=z)/\(rows++news).length * i.bytes<=140737488355328/\(rows++news).length<=9223372036854775807) /\
         ∃ own:Bool,match own with
         | true=>news≠[]/\sL lo 0 fun k=>di lo (.tail e z (rows++news).length) fun lo=>R (.tsl k (rows++news)) lo
         | false=>∃ b,rows++news=b/\R (.p (.sl b)) lo
       | _=>False
      | false=>False
     | none=>False
    | none=>False
  | false=>Si E none s fun s=>Si E none x fun x=>match x with
   | .p (.str str)=>match P.underlying t' with
    | some .string=>nR P t fun e z=>match Nat.beq z 1 with
     | true=>match P.info? e with
      | some i=>match i.zero with
       | some (.int .u8 0)=>match s with
        | .p .nilsl=>((zu str).length * i.bytes<=140737488355328/\(zu str).length<=9223372036854775807) /\
          sL lo 0 fun k=>di lo (.tail e z (zu str).length) fun lo=>R (.tsl k (zu str)) lo
        | .tsl k0 rows=>((∀ r∈rows,r.length=1)/\(rows++zu str).length * i.bytes<=140737488355328/\(rows++zu str).length<=9223372036854775807) /\
          my k0 lo fun o=>match o with
          | .tail e' z' n=>(e'=e/\z'=1/\n=rows.length) /\
            tH k0 .dead lo fun lo=>sL lo 0 fun k=>di lo (.tail e z (rows++zu str).length) fun lo=>R (.tsl k (rows++zu str)) lo
          | _=>False
        | _=>False
       | _=>False
      | none=>False
     | false=>False
    | _=>False
   | _=>False
 | op=>Ns P op E lo R
def Zg (ops:List Oper) (o:Oper) (E:Env) (R:G->Prop):Prop:=
 match o.guard with
 | none=>R none
 | some (j,want)=>my j ops fun oj=>match oj.dst with
   | some d=>MR E d fun v=>match v with
    | .p (.bool b)=>match want with|true=>R (some b)|false=>R (some (!b))
    | .opt g' (.p (.bool b))=>match want with|true=>R (some (g'&&b))|false=>R (some (g'&&!b))
    | _=>False
   | none=>False
def bT (N:Nat) (d:Option Tmp) (v:FV) (E:Env) (R:Env->Prop):Prop:=
 match d with
 | some d=>match Nat.blt d N with
  | true=>HB v fun v=>R ((d,v)::E)
  | false=>False
 | none=>R E
def nE (g:G) (v:FV):FV:=match g with|none=>v|some g=>.opt g v
def Dn (P:Program) (N:Nat) (all:List Oper) (o:Oper) (E:Env) (lo:List AObj) (R:Env->List AObj->Prop):Prop:=
 Zg all o E fun g=>
  match sy o.op with
  | true=>match o.op with
   | .load t x=>Si E g x fun x=>rq P t lo x fun v=>bT N o.dst (nE g v) E fun E=>R E lo
   | .convert s d x=>Si E g x fun x=>Vb P g s d lo x fun v=>bT N o.dst (nE g v) E fun E=>R E lo
   | .lookup t x i ok=>Si E g x fun x=>Si E g i fun i=>ry P g t lo x i ok fun v=>bT N o.dst (nE g v) E fun E=>R E lo
   | _=>False
  | false=>match cB o.op with
   | true=>match g with
    | none=>MP P o.op E lo fun v lo=>bT N o.dst v E fun E=>R E lo
    | some _=>False
   | false=>Mg P o.op E g fun v=>bT N o.dst (nE g v) E fun E=>R E lo
inductive AX where
 | normal|exit (id:Nat)|ret
def Ha (inl:List Nat) (d:Option Tmp):Bool:=match d with|some d=>Qa inl (10000000+d)|none=>false
def RB (inl:List Nat) (d:Option Tmp):Bool:=match d with|some d=>Qa inl (80000000+d)|none=>false
def Pl (inl:List Nat) (t:Tmp):Bool:=Qa inl (20000000+t)
def DQ (inl:List Nat) (id:Nat):Bool:=Qa inl (40000000+id)
def xJ (inl:List Nat) (o:Oper):Bool:=
 match o.op with
 | .call { callee:=.value (.func f),args:=_,argTypes:=_ }=>Qa inl f
 | .call { callee:=.value (.tmp t),args:=_,argTypes:=_ }=>Pl inl t
 | .buildSlice _ _ _=>Ha inl o.dst
 | .convert _ _ _=>Ha inl o.dst
 | o=>cB o
def Vl:Op->Bool
 | .box _ _|.alloc _|.makeMap _ _|.buildSlice _ _ _|.makeSlice _ _ _=>true
 | .call { callee:=.builtin .append,.. }=>true
 | _=>false
def uG (inl:List Nat) (o:Oper):Bool:=match o.op with
 | .store _ (.tmp t) _=>Qa inl (50000000+t)
 | .call { callee:=.value (.tmp t),args:=_,argTypes:=_ }=>Pl inl t&&Qa inl (85000000+t)
 | .call { callee:=.value (.func f),args:=_,argTypes:=_ }=>Qa inl f&&Qa inl (86000000+f)
 | _=>false
def Fm (inl:List Nat) (o:Oper):Bool:=Vl o.op||uG inl o
def Pd (sl:List Nat) (n0 k:Nat):Bool:=match Nat.blt k n0 with
 | true=>(match Qa sl (60000000+1000 * n0+k)with|true=>false|false=>true)
 | false=>false
def nC (inl:List Nat) (o:Oper):Bool:=match o.dst with
 | some d=>Qa inl (70000000+d)
 | none=>false
def Hq (inl:List Nat) (m:Bool) (oi oj:Oper):Bool:=xJ inl oi&&(xJ inl oj||sy oj.op&&!(m&&Fm inl oi&&!nC inl oj))
def sC (ops:Array Oper) (i:Nat):Nat->Nat->Bool
 | 0,_=>false
 | f+1,j=>match ops[j]? with
  | some oj=>oj.after.any (fun e=>Region.binds .any e&&e.on==i)||oj.after.any (fun e=>Region.binds .any e&&sC ops i f e.on)
  | none=>false
def Region.effFree (inl:List Nat) (m:Bool) (ops:Array Oper) (listed:Array Bool) (i:Nat):Bool:=
 match ops[i]? with
 | none=>false
 | some oi=>(List.range ops.size).all fun j=>j==i||listed.getD j true||match ops[j]? with
   | some oj=>(!Hq inl m oi oj&&!Hq inl m oj oi)||sC ops i ops.size j
   | none=>true
def Region.effFrom (inl:List Nat) (m:Bool) (ops:Array Oper):Nat->Nat->Array Bool->Bool
 | 0,_,_=>true
 | fuel+1,k,listed=>Region.effFree inl m ops listed k&&Region.effFrom inl m ops fuel (k+1) (listed.setIfInBounds k true)
def Ci (inl:List Nat) (m:Bool) (ops:Array Oper):Bool:=Go.Region.lexB .any ops&&Region.effFrom inl m ops ops.size 0 (Array.replicate ops.size false)
end Ax
end
section
namespace Ax
open Go
variable {Lw:Nat}
def fW (bs:(Base Lw)) (ρ:List Value) (H:(PH Lw)) (a:FV) (lo':List AObj) (v:Value) (w':World):Prop:=
 ∃ ρ' H',ρ <+: ρ'/\PH.le H H'/\SatW bs ρ' H' lo' w'/\qD ρ' H' a v
def Ca (P:Program) (bs:(Base Lw)) (ρ:List Value) (H:(PH Lw)) (a:FV) (lo':List AObj):Result Next->Prop
 | .ok (.value v) w'=>fW bs ρ H a lo' v w'
 | .ok .skip w'=>fW bs ρ H a lo' undef w'
 | .ok (.enter f args) w'=>Calls P f args w' fun b w''=>∃ v,b=.returned v/\fW bs ρ H a lo' v w''
 | _=>False
def vD (P:Program) (o:Oper) (e:Nat->FV) (lo:List AObj) (g:G) (a:FV) (lo':List AObj):Prop:=
 Sn g->∀ ⦃Lw:Nat⦄ (bs:(Base Lw)) (ρ:List Value) (H:(PH Lw)) (w:World) (eval:Operand->Value),SatW bs ρ H lo w ->
  (∀ x∈o.op.operands,qD ρ H (Sf e x) (eval x))->Ca P bs ρ H a lo' ((execOp eval o).run P w)
theorem xC {bs:(Base Lw)} {ρ:List Value} {H:(PH Lw)} {a:FV} {lo:List AObj} {v:Value} {w:World} (s:SatW bs ρ H lo w) (r:qD ρ H a v) :
  fW bs ρ H a lo v w:=⟨ρ,H,jp _,PH.le.refl H,s,r⟩
theorem vR {g:G} {p:Prop} (h:gI g p) (a:Sn g):p:=by
 cases g with
 | none=>exact h
 | some b=>exact h a
theorem QZ:∀ (E:Env) (t:Nat) (R:FV->Prop),MR E t R=R (qz E t)
 | [],_,_=>rfl
 | (t',v)::E,t,R=>by
  simp only[MR,qz];cases Nat.beq t t' with
  | true=>rfl
  | false=>exact QZ E t R
theorem XW (E:Env) (x:Operand) (R:FV->Prop):ev E x R=R (Sf (qz E) x):=by
 cases x with
 | tmp t=>exact QZ E t R
 | const v=>exact Ck _ _
 | global g=>rfl
 | func f=>rfl
def Sa (g:G) (f v:FV):Prop:=∀ ⦃Lw:Nat⦄ (ρ:List Value) (H:PH Lw) (x:Value),Sn g->qD ρ H f x->qD ρ H v x
theorem qu {E:Env} {g:G} {x:Operand} {R:FV->Prop} (h:Si E g x R):∃ v,R v/\Sa g (Sf (qz E) x) v:=by
 unfold Si at h;rw[XW]at h;generalize Sf (qz E) x=f at *;cases f<;>simp only at h
 case opt g' v'=>
  refine⟨v',h.2,fun Lw ρ H y b a=>?_⟩;have:=vR h.1 b;simpa[qD,this]using a
 all_goals exact⟨_,h,fun _ _ _ _ _ a=>a⟩
theorem Qd {v:Value} {p:PV} (h:Pb v=some p) (H:(PH Lw)):qp H p v:=by
 unfold Pb at h;split at h<;>(cases h)<;>simp[qp]
theorem CH (H:(PH Lw)):∀ {vs:List Value} {a:List PV},Pz vs=some a->qJ H a vs
 | [],a,h=>by simp only[Pz]at h; cases h; simp[qJ]
 | v::vs,a,h=>by
  simp only[Pz]at h;split at h
  ·rename_i p hp
   split at h
   ·rename_i l b
    cases h;simp only[qJ];exact⟨v,vs,rfl,Qd hp H,CH H b⟩
   cases h
  ·cases h
theorem Li (v:Value) (ρ:List Value) (H:(PH Lw)):qD ρ H (PL v) v:=by
 unfold PL;split
 ·simp[qD,qp,qJ]
 ·split
  ·rename_i h
   simp only[qD,qp];exact⟨_,rfl,CH H h⟩
  trivial
 split
 ·rename_i h; exact Qd h H
 trivial
theorem cz {ρ:List Value} {H:(PH Lw)} {e:Nat->FV} {a:Act} (h:∀ t,qD ρ H (e t) (a.tmps.getD t undef)) (x:Operand):qD ρ H (Sf e x) (a.eval x):=by
 cases x with
 | tmp t=>exact h t
 | const v=>exact Li v ρ H
 | func f=>simp[Sf,qD,qp,Act.eval]
 | global g=>trivial
theorem dR {ρ:List Value} {H:(PH Lw)} {b:Bool} {x:Value} (h:qD ρ H (.p (.bool b)) x):x=.bool b:=by simpa[qD,qp]using h
theorem zy {ρ:List Value} {H:(PH Lw)} {k:IntKind} {n:Int} {x:Value} (h:qD ρ H (.p (.int k n)) x):x=.int k n:=by simpa[qD,qp]using h
theorem dC {ρ:List Value} {H:(PH Lw)} {l:List UInt8} {x:Value} (h:qD ρ H (.p (.str l)) x):x=.string ⟨l.toArray⟩:=by simpa[qD,qp]using h
theorem gH {ρ:List Value} {H:(PH Lw)} {b:Bool}:qD ρ H (.p (.bool b)) (.bool b):=by simp[qD,qp]
theorem ga {ρ:List Value} {H:(PH Lw)} {k:IntKind} {n:Int}:qD ρ H (.p (.int k n)) (.int k n):=by simp[qD,qp]
theorem rF {ρ:List Value} {H:(PH Lw)} {l:List UInt8}:qD ρ H (.p (.str l)) (.string ⟨l.toArray⟩):=by simp[qD,qp]
theorem uS {α:Type}:∀ {n:Nat} {l:List α} {R:List α->Prop},Qi n l R->R (l.take n)/\n<=l.length
 | 0,l,R,h=>by simpa[Qi]using h
 | n+1,[],R,h=>by simp[Qi]at h
 | n+1,a::l,R,h=>by
  have:=uS (n:=n) (l:=l) (R:=fun l=>R (a::l)) h
  simpa using this
theorem vE {α:Type}:∀ {n:Nat} {l:List α} {R:List α->Prop},rP n l R->R (l.drop n)/\n<=l.length
 | 0,l,R,h=>by simpa[rP]using h
 | n+1,[],R,h=>by simp[rP]at h
 | n+1,a::l,R,h=>by simpa using vE (n:=n) (l:=l) (R:=R) h
theorem qV {α:Type}:∀ {n:Nat} {l:List α} {R:α->Prop},my n l R->∃ a,l[n]? =some a/\R a
 | 0,[],R,h=>by simp[my]at h
 | 0,a::l,R,h=>⟨a,by simp,h⟩
 | n+1,[],R,h=>by simp[my]at h
 | n+1,a::l,R,h=>by simpa using qV (n:=n) (l:=l) (R:=R) h
theorem zR {α:Type}:∀ {n:Nat} {x:α} {l:List α} {R:List α->Prop},tH n x l R->R (l.set n x)/\n<l.length
 | 0,x,[],R,h=>by simp[tH]at h
 | 0,x,a::l,R,h=>by simpa[tH]using h
 | n+1,x,[],R,h=>by simp[tH]at h
 | n+1,x,a::l,R,h=>by simpa using zR (n:=n) (x:=x) (l:=l) (R:=fun l=>R (a::l)) h
theorem zf {α:Type}:∀ {l:List α} {x:α} {R:List α->Prop},di l x R->R (l++[x])
 | [],x,R,h=>by simpa[di]using h
 | a::l,x,R,h=>zf (l:=l) (x:=x) (R:=fun l=>R (a::l)) h
theorem zh {α:Type}:∀ {l:List α} {n:Nat} {R:Nat->Prop},sL l n R->R (n+l.length)
 | [],n,R,h=>by simpa[sL]using h
 | a::l,n,R,h=>by
  have:=zh (l:=l) (n:=n+1) (R:=R) h;simpa[Nat.add_comm,Nat.add_left_comm,Nat.add_assoc]using this
theorem ri {P:Program} {t f:Nat} {R:Nat->TypeId->Prop} (h:UG P t f R) :
  ∃ b x i,P.underlying t=some (.struct b)/\b[f]? =some x/\P.info? x.type=some i/\i.size≠0/\R x.offset x.type:=by
 unfold UG at h;split at h
 ·rename_i b hu
  obtain⟨x,c,a⟩:=qV h;split at a
  ·rename_i i d
   split at a
   ·exact a.elim
   rename_i hz;exact⟨_,x,i,hu,by simpa using c,d,fun e=>by simp[e]at hz,a⟩
  exact a.elim
 exact h.elim
theorem xc {P:Program} {t:TypeId} {R:Bool->Nat->Prop} (h:cF P t R) :
  ∃ d i,P.underlying t=some d/\P.info? t=some i/\R (LQ d) i.size:=by
 unfold cF at h;split at h
 ·rename_i d a
  split at h
  ·rename_i i b; exact⟨d,i,a,b,h⟩
  exact h.elim
 exact h.elim
theorem zT {P:Program} {t:TypeId} {R:TypeId->Nat->Prop} (h:nR P t R) :
  ∃ e i,P.underlying t=some (.slice e)/\P.info? e=some i/\R e i.size:=by
 unfold nR at h;split at h
 ·rename_i e he
  split at h
  ·rename_i i a; exact⟨e,i,he,a,h⟩
  exact h.elim
 exact h.elim
theorem HE {v:FV} {R:PV->Prop} (h:NY v R):∃ p,R p/\∀ ⦃Lw:Nat⦄ (ρ:List Value) (H:PH Lw) (x:Value),qD ρ H v x->qp H p x:=by
 cases v<;>simp only[NY]at h
 case p p=>exact⟨p,h,fun _ _ _ _ r=>r⟩
 case tsl k rows=>exact⟨_,h,fun _ _ _ _ r=>r.2⟩
 case hptr row=>exact⟨_,h,fun _ _ _ _ r=>by simp only[qD]at r; simp only[qp]; exact r⟩
theorem nP:∀ {c:FV} {R:List PV->Prop},QO c R->∃ d,R d/\∀ ⦃Lw:Nat⦄ (ρ:List Value) (H:(PH Lw)) (vs:List Value),qD ρ H c (.tuple vs.toArray)->qJ H d vs
 | .cap0,R,h=>⟨[],h,fun Lw ρ H vs r=>by
   simp only[qD,Value.tuple.injEq]at r;simpa[qJ]using r⟩
 | .cap a b,R,h=>by
  simp only[QO]at h;obtain⟨p,h,hp⟩:=HE h;obtain⟨d,h,f⟩:=nP h;refine⟨_,h,fun Lw ρ H vs r=>?_⟩;obtain⟨u,us,e,g,i⟩:=r;have e:vs=u::us:=by simpa using e
  subst e;simp only[qJ];exact⟨u,us,rfl,hp _ _ _ g,f _ _ _ i⟩
 | .top,_,h|.p _,_,h|.opt _ _,_,h|.tsl _ _,_,h|.ptr _ _,_,h|.hptr _,_,h|.bself _,_,h|.bsl _ _ _ _,_,h|.vsl _ _,_,h|.eptr _ _ _ _,_,h|.mref _,_,h|.pair _ _,_,h|.stmp _,_,h|.clo _ _,_,h|.fagg _,_,h|.nxt _ _ _,_,h|.asl _ _ _,_,h|.ifs _ _,_,h|.cut _,_,h=>by
  simp[QO]at h
theorem gu {v:FV} {R:PV->Prop} (h:BF v R):∃ p,R p/\∀ ⦃Lw:Nat⦄ (ρ:List Value) (H:PH Lw) (x:Value),qD ρ H v x->qp H p x:=by
 cases v<;>simp only[BF]at h
 case p p=>exact⟨p,h,fun _ _ _ _ r=>r⟩
 case tsl k rows=>exact⟨_,h,fun _ _ _ _ r=>r.2⟩
 case hptr row=>exact⟨_,h,fun _ _ _ _ r=>by simp only[qD]at r; simp only[qp]; exact r⟩
 case clo f c=>
  obtain⟨b,h,a⟩:=nP h;exact⟨_,h,fun Lw ρ H x r=>by obtain⟨vs,e,rc⟩:=r; simp only[qp]; exact⟨vs,e,a _ _ _ rc⟩⟩
 case fagg c=>
  obtain⟨b,h,a⟩:=nP h;exact⟨_,h,fun Lw ρ H x r=>by obtain⟨vs,e,rc⟩:=r; simp only[qp]; exact⟨vs,e,a _ _ _ rc⟩⟩
theorem fT:∀ {l:List FV} {R:List PV->Prop},BG l R->∃ a,R a/\∀ ⦃Lw:Nat⦄ (ρ:List Value) (H:PH Lw) (vs:List Value),zk ρ H l vs->qJ H a vs
 | [],R,h=>⟨[],h,fun _ _ vs r=>by simpa[qJ,zk]using r⟩
 | v::l,R,h=>by
  simp only[BG]at h;obtain⟨p,c,d⟩:=gu h;obtain⟨a,f,g⟩:=fT c;refine⟨_,f,fun Lw ρ H vs r=>?_⟩;obtain⟨x,b,e,i,j⟩:=r;simp only[qJ];exact⟨x,b,e,d _ _ _ i,g _ _ _ j⟩
theorem fS {E:Env} {g:G}:∀ {l:List Operand} {R:List FV->Prop},Sh E g l R ->
  ∃ vs,R vs/\∀ ⦃Lw:Nat⦄ (ρ:List Value) (H:PH Lw) (eval:Operand->Value),Sn g->(∀ x∈l,qD ρ H (Sf (qz E) x) (eval x))->zk ρ H vs (l.map eval)
 | [],R,h=>⟨[],h,fun _ _ _ _ _ _=>by simp[zk]⟩
 | x::l,R,h=>by
  simp only[Sh]at h;obtain⟨v,c,d⟩:=qu h;obtain⟨vs,e,f⟩:=fS c;refine⟨_,e,fun Lw ρ H eval a b=>?_⟩;simp only[jk,zk];exact⟨_,_,rfl,d _ _ _ a (b x (by simp)),f _ _ _ a (fun y i=>b y (by simp[i]))⟩
theorem mA (l:List UInt8):(⟨l.toArray⟩:ByteArray).size=l.length:=ByteArray.size_mk_toArray l
section
variable {P:Program} {bs:(Base Lw)} {ρ:List Value} {H:(PH Lw)} {lo:List AObj} {w:World}
theorem ZZ {t:TypeId} (hu:P.underlying t=some .bool) (n:Nat) (a b:Bool):(Op.equalIn (n+1) t (.bool a) (.bool b)).run P w=.ok (a==b) w:=by
 simp[Op.equalIn,kru hu]
theorem Ux {t:TypeId} (hu:P.underlying t=some .bool) (a b:Bool):(Op.equal t (.bool a) (.bool b)).run P w=.ok (a==b) w:=
 ZZ hu 9999 a b
theorem dh {t:TypeId} {d:TypeDesc} (hu:P.underlying t=some d):(isAgg t).run P w=.ok (LQ d) w:=by
 simp only[isAgg,ka,kru hu,jZ];cases d<;>rfl
def Se:List PV->List PV->Option Bool
 | [],[]=>some true
 | .int k a::az,.int k' b::bs=>match Zk k k' with
  | true=>(Se az bs).map fun c=>bif a==b then c else false
  | false=>none
 | .str a::az,.str b::bs=>(Se az bs).map fun c=>bif a==b then c else false
 | .bool a::az,.bool b::bs=>(Se az bs).map fun c=>bif a==b then c else false
 | _,_=>none
theorem Cj:∀ {az bs:List PV} {R:Bool->Prop},Hy az bs R->∃ c,R c/\Se az bs=some c:=by
 intro az
 induction az with
 | nil=>intro bs R h; cases bs with
  | nil=>exact⟨true,h,rfl⟩
  | cons b bs=>simp[Hy]at h
 | cons a az ih=>
  intro bs R h;cases bs with
  | nil=>cases a<;>simp[Hy]at h
  | cons b bs=>
   cases a<;>cases b<;>first
    | (simp[Hy]at h; done)
    | (simp only[Hy]at h; obtain⟨c,d,e⟩:=ih h; exact⟨_,d,by simp[Se,e]⟩)
    | skip
   simp only[Hy]at h;split at h
   ·rename_i f
    obtain⟨c,d,e⟩:=ih h;exact⟨_,d,by simp[Se,f,e]⟩
   exact h.elim
theorem Hn (a b:List UInt8):((⟨a.toArray⟩:ByteArray).toList==(⟨b.toArray⟩:ByteArray).toList)=(a==b):=by
 rw[ByteArray.toList_eq,ByteArray.toList_eq]
theorem CR {H:(PH Lw)} {xs ys:Array Value}:∀ {fs:List Field} {o:Nat} {az bs:List PV} {va vb:List Value} {c:Bool},Eo P fs o az=true->qJ H az va->qJ H bs vb ->
  (∀ j v,va[j]? =some v->xs[o+j]? =some v)->(∀ j v,vb[j]? =some v->ys[o+j]? =some v)->Se az bs=some c->(Op.eqFields 9999 xs ys fs).run P w=.ok c w:=by
 intro fs
 induction fs with
 | nil=>
  intro o az bs va vb c hf ra rb hx hy he;cases az with
  | nil=>cases bs with
   | nil=>simp[Se]at he; subst he; simp[Op.eqFields]
   | cons b bs=>simp[Se]at he
  | cons a az=>simp[Eo]at hf
 | cons f fs ih=>
  intro o az bs va vb c hf ra rb hx hy he;cases az with
  | nil=>simp[Eo]at hf
  | cons a az=>
   cases bs with
   | nil=>cases a<;>simp[Se]at he
   | cons b bs=>
    simp only[Eo,ji]at hf;obtain⟨⟨⟨hn,ho⟩,hk⟩,hf⟩:=hf;have hn:f.name ≠ "_" :=by simpa using hn
    have ho:f.offset=o:=jn ho;simp only[qJ]at ra rb;obtain⟨v,va',rfl,rv,ra'⟩:=ra;obtain⟨u,vb',rfl,ru,rb'⟩:=rb;have hxv:=hx 0 v rfl;have hyu:=hy 0 u rfl;simp only[Nat.add_zero]at hxv hyu;have step:∀ {x y:Bool},Se az bs=some y->(Op.eqFields 9999 xs ys fs).run P w=.ok y w:=fun{x y} hxy=>
     ih hf ra' rb' (fun j v hv=>by rw[Nat.add_assoc,Nat.add_comm 1 j]; exact hx (j+1) v hv) (fun j v hv=>by rw[Nat.add_assoc,Nat.add_comm 1 j]; exact hy (j+1) v hv) hxy
    have Sk:∀ {d:TypeDesc} {q:Bool},P.underlying f.type=some d->LQ d=false->(Op.equalIn 9999 f.type v u).run P w=.ok q w->((Se az bs).map fun c=>bif q then c else false)=some c ->
      (Op.eqFields 9999 xs ys (f::fs)).run P w=.ok c w:=by
     intro d q hu ha hq hc;cases he2:Se az bs with
     | none=>rw[he2]at hc; cases hc
     | some y=>
      rw[he2]at hc;have hc:(bif q then y else false)=c:=by simpa using hc
      simp only[Op.eqFields,if_pos hn,ka,part,ho,dh hu,ha,jZ,hxv,hyu];simp[hq];cases q with
      | true=>simp at hc; subst hc; simpa using step (x:=true) he2
      | false=>simp at hc; subst hc; simp
    cases a<;>cases b<;>simp only[Se]at he<;>first|(cases he; done)|skip
    ·split at hk
     all_goals first
      | (cases hk; done)
      | (rename_i hu hq; cases hq; done)
      | (rename_i hu hq; simp only[qp]at rv ru; subst rv ru; exact Sk hu rfl (run_equalIn_bool' w _ _ _ _ hu) he)
    ·split at he
     ·rename_i hkk
      have hkk:=cC hkk;subst hkk;split at hk
      all_goals first
       | (cases hk; done)
       | (rename_i hu hq; cases hq; done)
       | (rename_i hu hq; simp only[qp]at rv ru; subst rv ru; exact Sk hu rfl (run_equalIn_int w _ _ _ _ _ _ hu) he)
     ·cases he
    split at hk
    all_goals first
     | (cases hk; done)
     | (rename_i hu hq; cases hq; done)
     | (rename_i hu hq; simp only[qp]at rv ru; subst rv ru; exact Sk hu rfl (run_equalIn_string w _ _ _ _ hu) (by rw[Hn]; exact he))
theorem Di {H:(PH Lw)} {e:TypeId} (hu:P.underlying e=some .bool) {xs ys:Array Value}:∀ {az bs:List PV} {k vb:List Value} {o:Nat} {c:Bool},DA az=true->qJ H az k->qJ H bs vb ->
  (∀ j v,k[j]? =some v->xs[o+j]? =some v)->(∀ j v,vb[j]? =some v->ys[o+j]? =some v)->Se az bs=some c->(Op.eqItems 9999 e 1 xs ys (List.range' o az.length)).run P w=.ok c w:=by
 intro az
 induction az with
 | nil=>
  intro bs k vb o c l m n p q he;cases bs with
  | nil=>simp[Se]at he; subst he; simp[Op.eqItems]
  | cons b bs=>simp[Se]at he
 | cons a az ih=>
  intro bs k vb o c l m n p q he;cases bs with
  | nil=>cases a<;>simp[Se]at he
  | cons b bs=>
   simp only[qJ]at m n;obtain⟨v,A,rfl,x,r⟩:=m;obtain⟨u,B,rfl,z,s⟩:=n;have g:=p 0 v rfl;have i:=q 0 u rfl;simp only[Nat.add_zero]at g i;cases a<;>simp only[DA]at l<;>first|(cases l; done)|skip
   cases b<;>simp only[Se]at he<;>first|(cases he; done)|skip
   rename_i a b;simp only[qp]at x z;subst x z;cases d:Se az bs with
   | none=>rw[d]at he; cases he
   | some y=>
    rw[d]at he;have f:(bif a==b then y else false)=c:=by simpa using he
    have step:=ih (o:=o+1) l r s (fun j v hv=>by rw[Nat.add_assoc,Nat.add_comm 1 j]; exact p (j+1) v hv) (fun j v hv=>by rw[Nat.add_assoc,Nat.add_comm 1 j]; exact q (j+1) v hv) d
    have C:=run_equalIn_bool' (P:=P) (w:=w) 9998 e a b hu;simp only[ja,List.range'_succ,Op.eqItems,ka,part,Nat.mul_one,dh hu,LQ,jZ,g,i];simp[C];cases h:a==b with
    | true=>rw[h]at f; simp at f; subst f; have t:a=b:=(by simpa using h); simpa[t]using step
    | false=>rw[h]at f; simp at f; subst f; have t:¬ a=b:=(by simpa using h); simp[t]
theorem CQ {H:(PH Lw)} {t:TypeId} {az bs:List PV} {h vb:List Value} {c:Bool} (a:LY P t az=true) (k:qJ H az h) (l:qJ H bs vb) (he:Se az bs=some c) :
  P.eqGuardType P.depth t=false/\(Op.equalIn 10000 t (.agg h.toArray) (.agg vb.toArray)).run P w=.ok c w:=by
 unfold LY at a;split at a
 ·rename_i n e hu
  simp only[Dz,ji,Bool.not_eq_true']at a;obtain⟨⟨⟨⟨⟨f,d⟩,g⟩,m⟩,p⟩,q⟩:=a;refine⟨f,?_⟩;have r:P.underlying e=some .bool:=by
   split at d
   ·assumption
   cases d
  obtain⟨i,s⟩:=Option.isSome_iff_exists.1 g;rw[run_equalIn_array w 9999 _ _ hu s,jn m,jn p,List.range_eq_range'];exact Di (o:=0) r q k l (fun j v hv=>by simpa using hv) (fun j v hv=>by simpa using hv) he
 ·rename_i u hu
  simp only[ji,Bool.not_eq_true']at a;obtain⟨⟨f,d⟩,g⟩:=a;refine⟨d,?_⟩;have b:P.fieldsOf t=⟨u⟩:=by simp[Program.fieldsOf,hu]
  rw[run_equalIn_agg w 9999 t _ _ (by rw[b]; exact hu) f,b];exact CR (o:=0) g k l (fun j v hv=>by simpa using hv) (fun j v hv=>by simpa using hv) he
 cases a
theorem HO {g:G} {op:BinOp} {t:TypeId} {x y:FV} {R:FV->Prop} (h:Rc P g op t x y R) :
  ∃ A,R A/\(Sn g->∀ ⦃Lw:Nat⦄ (ρ:List Value) (H:(PH Lw)) (w:World) (i j:Operand) (a b:Value),qD ρ H x a->qD ρ H y b ->
   ∃ v,(do eqGuard op t i j a b; binOp op t a b:Sem Value).run P w=.ok v w/\qD ρ H A v):=by
 unfold Rc at h;split at h
 ·rename_i k n
  split at h
  ·rename_i k' m
   split at h
   ·refine⟨_,h.2,fun f Lw ρ H w i j a b d e=>?_⟩
    rw[zy d,zy e];have p:=vR h.1 f;exact⟨_,by simp[eqGuard,binOp,Op.shift,show ¬ m<0 by omega],ga⟩
   ·refine⟨_,h.2,fun f Lw ρ H w i j a b d e=>?_⟩
    rw[zy d,zy e];have p:=vR h.1 f;exact⟨_,by simp[eqGuard,binOp,Op.shift,show ¬ m<0 by omega],ga⟩
   ·split at h
    case h_2=>exact h.elim
    rename_i o;have o:=cC o;obtain⟨p,h⟩:=h;refine⟨_,h,fun f Lw ρ H w i j a b d e=>?_⟩;rw[zy d,zy e];have p:=vR p f;exact⟨_,by simp[eqGuard,binOp,Op.intDiv,o,p],ga⟩
   ·split at h
    case h_2=>exact h.elim
    rename_i o;have o:=cC o;obtain⟨p,h⟩:=h;refine⟨_,h,fun f Lw ρ H w i j a b d e=>?_⟩;rw[zy d,zy e];have p:=vR p f;exact⟨_,by simp[eqGuard,binOp,Op.intDiv,o,p],ga⟩
   split at h
   case h_2=>exact h.elim
   rename_i o;have o:=cC o;subst o;unfold Rr at h;split at h<;>first
    | exact h.elim
    | (refine⟨_,h,fun f Lw ρ H w i j a b d e=>?_⟩; rw[zy d,zy e]; exact⟨_,by simp[eqGuard,binOp,Op.intArith,Op.intBits,Op.intCmp]<;>rfl,by simp[qD,qp]⟩)
  ·exact h.elim
 ·rename_i l
  split at h
  ·rename_i m
   unfold Rs at h;split at h
   ·obtain⟨q,h⟩:=h
    refine⟨_,h,fun f Lw ρ H w i j a b d e=>?_⟩;rw[dC d,dC e];have q:=vR q f;refine⟨.string ⟨(l++m).toArray⟩,?_,rF⟩;have:=run_string_add_sum (P:=P) w ⟨l.toArray⟩ ⟨m.toArray⟩ (by rw[mA,mA]; unfold Pa at q; omega);simp[eqGuard,binOp,this,ByteArray.mk_append_mk]
   all_goals first
    | exact h.elim
    | (refine⟨_,h,fun f Lw ρ H w i j a b d e=>?_⟩; rw[dC d,dC e]; exact⟨_,by simp[eqGuard,binOp,Op.stringOp]<;>rfl,by simp[qD,qp]⟩)
  ·exact h.elim
 ·rename_i C
  split at h
  ·rename_i D
   unfold HN at h;split at h
   ·rename_i hu
    unfold Rq at h;split at h<;>first
     | exact h.elim
     | (refine⟨_,h,fun f Lw ρ H w i j a b d e=>?_⟩; rw[dR d,dR e]; exact⟨_,by simp only[eqGuard,binOp,ka,Ux hu]; rfl,by simp[qD,qp]⟩)
   ·exact h.elim
  exact h.elim
 ·rename_i az
  split at h
  ·rename_i bs
   split at h
   ·obtain⟨r,h⟩:=h
    obtain⟨c,s,he⟩:=Cj h;refine⟨_,s,fun f Lw ρ H w i j a b d e=>?_⟩;simp only[qD,qp]at d e;obtain⟨B,rfl,d⟩:=d;obtain⟨vb,rfl,e⟩:=e;obtain⟨u,z⟩:=CQ (w:=w) r d e he;exact⟨.bool c,by rw[ka,run_eqGuard_agg w _ t i j _ _ u,jZ,run_eql_struct,z]; rfl,by simp[qD,qp]⟩
   ·obtain⟨r,h⟩:=h
    obtain⟨c,s,he⟩:=Cj h;refine⟨_,s,fun f Lw ρ H w i j a b d e=>?_⟩;simp only[qD,qp]at d e;obtain⟨B,rfl,d⟩:=d;obtain⟨vb,rfl,e⟩:=e;obtain⟨u,z⟩:=CQ (w:=w) r d e he;exact⟨.bool (!c),by rw[ka,run_eqGuard_agg w _ t i j _ _ u,jZ,run_neq_struct,z]; rfl,by simp[qD,qp]⟩
   exact h.elim
  exact h.elim
 exact h.elim
theorem BQ {t:TypeId} {x:FV} {f:Nat} {R:FV->Prop} (h:HT P t x f R) :
  ∃ p,R p/\∀ ⦃Lw:Nat⦄ (ρ:List Value) (H:(PH Lw)) (w:World) (a:Value),qD ρ H x a->∃ v,(Instr.fieldAt t a f).run P w=.ok v w/\qD ρ H p v:=by
 unfold HT at h;split at h
 ·rename_i k off
  obtain⟨r,y,i,hu,e,g,hz,d⟩:=ri h;refine⟨_,d,fun Lw ρ H w a l=>?_⟩;obtain⟨b,m,rfl⟩:=l;exact⟨.pointer (some ⟨b,off+y.offset,none⟩),by simp[Instr.fieldAt,kru hu,e,Instr.sureAddr,fieldPlace,Go.sizeOf,typeInfo,g,hz,Addr.add_lit],b,m,rfl⟩
 ·rename_i row
  obtain⟨r,y,i,hu,e,g,hz,d⟩:=ri h;obtain⟨d,hlen⟩:=vE d;refine⟨_,d,fun Lw ρ H w a l=>?_⟩;obtain⟨b,o,vs,rfl,q,c⟩:=l;refine⟨.pointer (some ⟨b,o+y.offset,none⟩),by simp[Instr.fieldAt,kru hu,e,Instr.sureAddr,fieldPlace,Go.sizeOf,typeInfo,g,hz,Addr.add_lit],b,o+y.offset,vs.drop y.offset,rfl,q.drop _,fun j v hv=>?_⟩;rw[jD]at hv;have:=c _ _ hv
  rwa [← Nat.add_assoc]at this
 ·rename_i k z s off
  obtain⟨r,y,i,hu,e,g,hz,d⟩:=ri h;refine⟨_,d,fun Lw ρ H w a l=>?_⟩;obtain⟨b,n,cap,m,rfl⟩:=l;exact⟨.pointer (some ⟨b,s * z+off+y.offset,none⟩),by simp[Instr.fieldAt,kru hu,e,Instr.sureAddr,fieldPlace,Go.sizeOf,typeInfo,g,hz,Addr.add_lit],b,n,cap,m,by rw[Nat.add_assoc]⟩
 exact h.elim
theorem Ex {t:TypeId} {x:FV} {f:Nat} {R:FV->Prop} (h:Nu P t x f R) :
  ∃ m,R m/\∀ ⦃Lw:Nat⦄ (ρ:List Value) (H:(PH Lw)) (w:World) (a:Value),qD ρ H x a->∃ v,(Instr.field t a f).run P w=.ok v w/\qD ρ H m v:=by
 unfold Nu at h;split at h
 ·rename_i cs
  obtain⟨B,y,i,hu,n,s,hz,b⟩:=ri h;obtain⟨b,hlen⟩:=vE b;obtain⟨d,o,p,g,b⟩:=xc b;have k:o=i:=Option.some.inj (g.symm.trans s);subst k;split at b
  ·rename_i e
   obtain⟨b,C⟩:=uS b;refine⟨_,b,fun Lw ρ H w a j=>?_⟩;simp only[qD,qp]at j;obtain⟨vs,rfl,q⟩:=j;refine⟨.agg ((vs.drop y.offset).take o.size).toArray,?_,?_⟩
   ·simp[Instr.field,kru hu,n,asAgg,part,dh p,e,Go.sizeOf,typeInfo,g,List.extract_toArray,List.extract_eq_take_drop]
   simp only[qD,qp]; exact⟨_,rfl,(q.drop _).take _⟩
  rename_i e;split at b
  ·rename_i c r u
   refine⟨_,b,fun Lw ρ H w a j=>?_⟩;simp only[qD,qp]at j;obtain⟨vs,rfl,q⟩:=j;have z:cs[y.offset]? =some c:=by
    have:=congrArg (fun l=>l[0]?) u
    simpa[jD]using this
   obtain⟨v,hv,A⟩:=q.get z;exact⟨v,by simp[Instr.field,kru hu,n,asAgg,part,dh p,e,hv],A⟩
  exact b.elim
 exact h.elim
theorem Zh {ρ:List Value} {H:(PH Lw)} {w:World} {t e:TypeId} {f:TypeInfo} (hu:P.underlying t=some (.slice e)) (j:P.info? e=some f) {rows:List (List PV)} {a:Value} (h:qp H (.sl rows) a)
  {k:IntKind} {i:Int} {row:List PV} (l:0<=i) (d:rows[i.toNat]? =some row) (hlen:row.length=f.size) :
  ∃ v,(Instr.indexAt t a (.int k i)).run P w=.ok v w/\qD ρ H (.hptr row) v:=by
 simp only[qp]at h;rcases h with ⟨rfl,_⟩|⟨b,o,z,cap,rfl,n,m⟩
 ·simp at d
 obtain⟨hz,vs,q,c⟩:=m.get d;have g:i<rows.length:=by have:=(jG.1 d).1; omega
 refine⟨.pointer (some ⟨b,o+i.toNat * f.size,none⟩),?_,b,_,vs,rfl,q,?_⟩
 ·simp[Instr.indexAt,kru hu,asIntOf,l,g,Go.sizeOf,typeInfo,j,Addr.add_lit]
 rw[← hlen,hz]; exact c
theorem Vc {g:G} {t:TypeId} {x i:FV} {R:FV->Prop} (h:QV P g t x i R) :
  ∃ E,R E/\(Sn g->∀ ⦃Lw:Nat⦄ (ρ:List Value) (H:(PH Lw)) (w:World) (a b:Value),qD ρ H x a->qD ρ H i b->∃ v,(Instr.indexAt t a b).run P w=.ok v w/\qD ρ H E v):=by
 unfold QV at h;split at h
 ·obtain⟨e,d,hu,f,row,l,m⟩:=zT h
  refine⟨_,m,fun p Lw ρ H w a b q r=>?_⟩;obtain⟨B,s,D⟩:=vR l p;rw[zy r];exact Zh hu f q B s D
 ·obtain⟨e,d,hu,f,row,l,m⟩:=zT h
  refine⟨_,m,fun p Lw ρ H w a b q r=>?_⟩;obtain⟨B,s,D⟩:=vR l p;rw[zy r];exact Zh hu f q.2 B s D
 ·rename_i k off C n
  split at h
  ·rename_i len e hu
   split at h
   ·rename_i d f
    obtain⟨y,m⟩:=h;refine⟨_,m,fun p Lw ρ H w a b q r=>?_⟩;obtain⟨B,s⟩:=vR y p;obtain⟨bl,l,rfl⟩:=q;rw[zy r];refine⟨.pointer (some ⟨bl,off+n.toNat * d.size,none⟩),?_,bl,l,rfl⟩;simp[Instr.indexAt,kru hu,asIntOf,Instr.sureAddr,B,s,Go.sizeOf,typeInfo,f,Addr.add_lit]
   exact h.elim
  exact h.elim
 ·rename_i k n C i0
  obtain⟨e,d,hu,f,j,y,m⟩:=zT h;refine⟨_,m,fun p Lw ρ H w a b q r=>?_⟩;obtain⟨rfl,A⟩:=vR y p;obtain⟨l,⟨B,_⟩|⟨bl,cap,rfl⟩⟩:=q
  ·omega
  rw[zy r];refine⟨.pointer (some ⟨bl,j * d.size,none⟩),?_,bl,n,cap,l,by rw[Nat.add_zero]⟩;simp[Instr.indexAt,kru hu,asIntOf,A,Go.sizeOf,typeInfo,f,Addr.add_lit]
 ·rename_i row C n
  split at h
  ·rename_i len e hu
   split at h
   ·rename_i d f
    obtain⟨y,m⟩:=h;refine⟨_,m,fun p Lw ρ H w a b q r=>?_⟩;obtain⟨B,s⟩:=vR y p;obtain⟨bl,o,vs,rfl,l,F⟩:=q;rw[zy r];refine⟨.pointer (some ⟨bl,o+n.toNat * d.size,none⟩),?_,bl,o+n.toNat * d.size,(vs.drop (n.toNat * d.size)).take d.size,rfl,(l.drop _).take _,fun j u A=>?_⟩
    ·simp[Instr.indexAt,kru hu,asIntOf,Instr.sureAddr,B,s,Go.sizeOf,typeInfo,f,Addr.add_lit]
    rw[jE]at A;split at A
    ·rw[jD]at A
     rw[Nat.add_assoc];exact F _ _ A
    cases A
   ·exact h.elim
  exact h.elim
 ·rename_i k off n J C i0
  obtain⟨e,d,hu,f,y,m⟩:=zT h;refine⟨_,m,fun p Lw ρ H w a b q r=>?_⟩;obtain⟨rfl,I⟩:=vR y p;obtain⟨bl,l,c,rfl,_⟩:=q;rw[zy r];refine⟨.pointer (some ⟨bl,off,none⟩),?_,bl,l,rfl⟩;have s:(0:Int)<(n:Int):=by omega
  simp[Instr.indexAt,kru hu,asIntOf,s,I,Go.sizeOf,typeInfo,f,Addr.add_lit]
 ·rename_i k z C i0
  split at h
  ·rename_i len e hu
   split at h
   ·rename_i d f
    split at h
    ·rename_i hz
     have hz:d.size=1:=jn hz;obtain⟨j,y,m⟩:=h;refine⟨_,m,fun p Lw ρ H w a b q r=>?_⟩;obtain⟨rfl,rfl,A⟩:=vR y p;obtain⟨bl,n,cap,l,rfl⟩:=q;rw[zy r];refine⟨.pointer (some ⟨bl,j,none⟩),?_,bl,n,cap,l,by simp⟩;simp[Instr.indexAt,kru hu,asIntOf,Instr.sureAddr,A,Go.sizeOf,typeInfo,f,hz,Addr.add_lit]
    exact h.elim
   exact h.elim
  exact h.elim
 exact h.elim
theorem BR {g:G} {t:TypeId} {x i:FV} {R:FV->Prop} (h:HU P g t x i R) :
  ∃ C,R C/\(Sn g->∀ ⦃Lw:Nat⦄ (ρ:List Value) (H:(PH Lw)) (w:World) (a b:Value),qD ρ H x a->qD ρ H i b->∃ v,(Instr.index t a b).run P w=.ok v w/\qD ρ H C v):=by
 unfold HU at h;split at h
 ·rename_i l k n
  split at h
  ·rename_i hu
   obtain⟨b,o,p⟩:=h;refine⟨_,p,fun r Lw ρ H w x y j s=>?_⟩;obtain⟨u,m⟩:=vR o r;rw[dC j,zy s];refine⟨_,?_,ga⟩;have z:=(jG.1 m).1;have F:(⟨l.toArray⟩:ByteArray)[n.toNat]? =some b:=by
    rw[ByteArray.getElem?_lt' _ _ (by rw[mA]; exact z)];have:=(jG.1 m).2;rw[← this];rfl
   simp[Instr.index,asIntOf,kru hu,u,F]
  exact h.elim
 ·rename_i cs k n
  split at h
  ·rename_i len e hu
   obtain⟨d,A,D,E,h⟩:=xc h;split at h
   ·rename_i f
    split at h
    ·rename_i hz
     have hz:A.size=1:=jn hz;obtain⟨c,o,p⟩:=h;refine⟨_,p,fun r Lw ρ H w x y j s=>?_⟩;obtain⟨u,m,B⟩:=vR o r;simp only[qD,qp]at j;obtain⟨vs,rfl,q⟩:=j;obtain⟨v,hv,I⟩:=q.get B;rw[zy s];refine⟨v,?_,I⟩;simp[Instr.index,asIntOf,kru hu,u,m,Go.sizeOf,typeInfo,E,hz,part,dh D,f,hv]
    exact h.elim
   rename_i f;obtain⟨c,o,p⟩:=h;refine⟨_,p,fun r Lw ρ H w x y j s=>?_⟩;obtain⟨u,m,B⟩:=vR o r;simp only[qD,qp]at j;obtain⟨vs,rfl,q⟩:=j;rw[zy s];refine⟨.agg ((vs.drop (n.toNat * A.size)).take A.size).toArray,?_,?_⟩
   ·simp[Instr.index,asIntOf,kru hu,u,m,Go.sizeOf,typeInfo,E,part,dh D,f,List.extract_toArray,List.extract_eq_take_drop]
   simp only[qD,qp];exact⟨_,rfl,by rw[← B]; exact(q.drop _).take _⟩
  exact h.elim
 exact h.elim
theorem HV {t:TypeId} {x:FV} {R:FV->Prop} (h:Re P t x R) :
  ∃ d,R d/\∀ ⦃Lw:Nat⦄ (ρ:List Value) (H:(PH Lw)) (w:World) (ty:TypeId) (a:Value),qD ρ H x a->∃ v,(Builtin.len_ #[t] ty #[a]).run P w=.ok v w/\qD ρ H d v:=by
 have slice:∀ (e:TypeId),P.underlying t=some (.slice e)->∀ (rows:List (List PV)) ⦃Lw:Nat⦄ (H:(PH Lw)) (w:World) (ty:TypeId) (a:Value),qp H (.sl rows) a->(Builtin.len_ #[t] ty #[a]).run P w=.ok (.int .i64 rows.length) w:=by
  intro e hu rows Lw H w ty a c;simp only[qp]at c;rcases c with ⟨rfl,rfl|⟨g,f,rfl⟩⟩|⟨b,o,z,cap,rfl,_,_⟩
  ·simp[Builtin.len_,kru hu,goInt]
  ·simp[Builtin.len_,kru hu,goInt]
  simp[Builtin.len_,kru hu,goInt]
 unfold Re at h;split at h
 ·rename_i l
  split at h
  ·rename_i hu
   refine⟨_,h,fun Lw ρ H w ty a c=>⟨.int .i64 l.length,?_,ga⟩⟩;rw[dC c];simp[Builtin.len_,kru hu,goInt,mA]
  exact h.elim
 ·rename_i rows
  split at h
  ·rename_i e hu
   exact⟨_,h,fun Lw ρ H w ty a c=>⟨_,slice e hu rows H w ty a c,ga⟩⟩
  exact h.elim
 ·rename_i k rows
  split at h
  ·rename_i e hu
   exact⟨_,h,fun Lw ρ H w ty a c=>⟨_,slice e hu rows H w ty a c.2,ga⟩⟩
  exact h.elim
 ·rename_i k off n cap
  split at h
  ·rename_i e hu
   refine⟨_,h,fun Lw ρ H w ty a c=>⟨.int .i64 n,?_,ga⟩⟩;obtain⟨b,_,_,rfl,_⟩:=c;simp[Builtin.len_,kru hu,goInt]
  exact h.elim
 ·rename_i k n
  split at h
  ·rename_i e hu
   refine⟨_,h,fun Lw ρ H w ty a c=>⟨.int .i64 n,?_,ga⟩⟩;obtain⟨_,⟨rfl,rfl⟩|⟨b,cap,rfl⟩⟩:=c<;>simp[Builtin.len_,kru hu,goInt]
  exact h.elim
 ·split at h
  ·rename_i e hu
   refine⟨_,h,fun Lw ρ H w ty a c=>⟨.int .i64 0,?_,ga⟩⟩;simp only[qD,qp]at c;subst c;simp[Builtin.len_,kru hu,goInt]
  exact h.elim
 exact h.elim
theorem Fh {s d:TypeId} {x:FV} {R:FV->Prop} (h:Fg P s d x R) :
  ∃ c,R c/\∀ ⦃Lw:Nat⦄ (ρ:List Value) (H:(PH Lw)) (w:World) (a:Value),qD ρ H x a->∃ v,(convert s d a).run P w=.ok v w/\qD ρ H c v:=by
 unfold Fg at h;split at h
 ·split at h
  ·rename_i hu
   split at h
   ·rename_i k hv
    refine⟨_,h,fun Lw ρ H w a b=>⟨_,?_,ga⟩⟩;rw[zy b];simp[convert,kru hu,kru hv,Conv.intToInt]
   exact h.elim
  exact h.elim
 ·split at h
  ·rename_i hu
   split at h
   ·rename_i hv
    refine⟨_,h,fun Lw ρ H w a b=>⟨_,?_,rF⟩⟩;rw[dC b];simp[convert,kru hu,kru hv]
   exact h.elim
  exact h.elim
 exact h.elim
theorem xm {E:Env} {g:G} {x:Option Operand} {d:Nat} {R:Nat->Prop} (h:mn E g x d R) :
  ∃ n,R n/\(∀ ⦃Lw:Nat⦄ (ρ:List Value) (H:(PH Lw)) (eval:Operand->Value),Sn g->(∀ y∈x.toArray,qD ρ H (Sf (qz E) y) (eval y))->(x=none/\n=d)\/∃ y k,x=some y/\eval y=.int k n):=by
 unfold mn at h;split at h
 ·exact⟨d,h,fun _ _ _ _ _ _=>.inl ⟨rfl,rfl⟩⟩
 rename_i y;obtain⟨v,h,b⟩:=qu h;split at h
 ·rename_i k i
  obtain⟨n,c,e⟩:=h;refine⟨n,e,fun Lw ρ H eval a f=>.inr ⟨y,k,rfl,?_⟩⟩;rw[zy (b ρ H _ a (f y (by simp))),vR c a]
 exact h.elim
theorem dY {isSlice:Bool} {len cap:Nat} {lo b:Option Operand} {eval:Operand->Value} {a h:Nat} (c:(lo=none/\a=0)\/∃ y k,lo=some y/\eval y=.int k a)
  (d:(b=none/\h=len)\/∃ y k,b=some y/\eval y=.int k h) (f:a<=h) (g:h<=cap) :
  (Instr.sliceBounds isSlice len cap (lo.map eval) (b.map eval) none).run P w=.ok (a,h,cap) w:=by
 rcases c with ⟨rfl,rfl⟩|⟨y,k,rfl,i⟩<;>rcases d with ⟨rfl,rfl⟩|⟨j,k',rfl,e⟩ <;>
  simp[Instr.sliceBounds,Instr.sliceBound,asIntOf, *,Int.toNat_natCast]
theorem BV {E:Env} {g:G} {t:TypeId} {x:FV} {lo p U:Option Operand} {R:FV->Prop} (h:HY P E g t x lo p U R) :
  ∃ J,R J/\(∀ ⦃Lw:Nat⦄ (ρ:List Value) (H:(PH Lw)) (w:World) (eval:Operand->Value) (v:Value),Sn g->qD ρ H x v->(∀ y∈lo.toArray,qD ρ H (Sf (qz E) y) (eval y))->(∀ y∈p.toArray,qD ρ H (Sf (qz E) y) (eval y))->(∀ y∈U.toArray,qD ρ H (Sf (qz E) y) (eval y)) ->
   ∃ u,(Instr.sliceAt t v (lo.map eval) (p.map eval) (U.map eval)).run P w=.ok u w/\qD ρ H J u):=by
 have rowsCase:∀ (e:TypeId) (i:TypeInfo) (rows:List (List PV)) (a h:Nat),P.underlying t=some (.slice e)->P.info? e=some i->(a<=h/\h<=rows.length/\∀ r∈rows,r.length=i.size) ->
   ∀ ⦃Lw:Nat⦄ (H:(PH Lw)) (w:World) (eval:Operand->Value) (v:Value),qp H (.sl rows) v->((lo=none/\a=0)\/∃ y k,lo=some y/\eval y=.int k a)->((p=none/\h=rows.length)\/∃ y k,p=some y/\eval y=.int k h) ->
   ∃ u,(Instr.sliceAt t v (lo.map eval) (p.map eval) none).run P w=.ok u w/\qp H (.sl ((rows.take h).drop a)) u:=by
  intro e i rows a h hu p V Lw H w eval v q j c;obtain⟨M,I,Q⟩:=V;simp only[qp]at q ⊢;rcases q with ⟨rfl,rfl|⟨S,s,rfl⟩⟩|⟨b,o,z,cap,rfl,T,N⟩
  rotate_left
  ·have K:h=0:=by simpa using I
   subst K;have ha:a=0:=by omega
   subst ha;have:=dY (P:=P) (w:=w) (isSlice:=true) (len:=0) (cap:=s) j (by simpa using c) (jv 0) (jR _);by_cases d:s=0
   ·subst d
    refine⟨.slice (some S) 0 0,?_,.inl ⟨by simp,.inr ⟨_,_,rfl⟩⟩⟩;simp[Instr.sliceAt,Instr.slice,kru hu,this,Go.sizeOf,typeInfo,p]
   refine⟨.slice (some (S.add 0)) 0 s,?_,.inl ⟨by simp,.inr ⟨_,_,rfl⟩⟩⟩;simp[Instr.sliceAt,Instr.slice,kru hu,this,Go.sizeOf,typeInfo,p,d]
  rotate_right
  ·have K:h=0:=by simpa using I
   subst K;have ha:a=0:=by omega
   subst ha;have:=dY (P:=P) (w:=w) (isSlice:=true) (len:=0) (cap:=0) j (by simpa using c) (jv 0) (jv 0);refine⟨.slice none 0 0,?_,.inl ⟨by simp,.inl rfl⟩⟩;simp[Instr.sliceAt,Instr.slice,kru hu,this,Go.sizeOf,typeInfo,p]
  have:=dY (P:=P) (w:=w) (isSlice:=true) (len:=rows.length) (cap:=cap) j c M (by omega);have hlen:((rows.take h).drop a).length=h - a:=by simp; omega
  by_cases d:cap=a
  ·have X:h=a:=by omega
   subst X;refine⟨.slice (some ⟨b,o,none⟩) 0 0,?_,.inr ⟨b,o,z,0,?_,?_,?_⟩⟩
   ·subst d
    simp[Instr.sliceAt,Instr.slice,kru hu,this,Go.sizeOf,typeInfo,p]
   ·rw[hlen]; simp
   ·rw[hlen]; simp
   have e0:(rows.take h).drop h=[]:=by
    apply List.eq_nil_of_length_eq_zero;rw[hlen];omega
   rw[e0];simp[fa]
  refine⟨.slice (some ⟨b,o+a * i.size,none⟩) (h - a) (cap - a),?_,.inr ⟨b,o+a * i.size,z,cap - a,by rw[hlen],by rw[hlen]; omega,?_⟩⟩
  ·simp[Instr.sliceAt,Instr.slice,kru hu,this,Go.sizeOf,typeInfo,p,d,Addr.add_lit]
  have hz:rows=[]\/z=i.size:=by
   cases rows with
   | nil=>exact .inl rfl
   | cons r rs=>
    simp only[fa]at N;exact .inr (by rw[← N.1]; exact Q r (by simp))
  rcases hz with hz|hz
  ·subst hz; simp[fa]
  rw[← hz]; exact(N.take h).drop a
 unfold HY at h;split at h
 ·rename_i m
  have cutCase:∀ (rows:List (List PV)),Pw P E g t rows p m R->∃ J,R J/\(∀ ⦃Lw:Nat⦄ (ρ:List Value) (H:(PH Lw)) (w:World) (eval:Operand->Value) (v:Value),Sn g->qp H (.sl rows) v->(∀ y∈p.toArray,qD ρ H (Sf (qz E) y) (eval y))->(∀ y∈(some m).toArray,qD ρ H (Sf (qz E) y) (eval y)) ->
    ∃ u,(Instr.sliceAt t v none (p.map eval) (some (eval m))).run P w=.ok u w/\qD ρ H J u):=by
   intro rows h;unfold Pw at h;split at h
   ·rename_i e hu
    split at h
    ·rename_i i L
     obtain⟨Z,rfl⟩:∃ y,p=some y:=by
      cases p with
      | none=>exact h.elim
      | some y=>exact⟨y,rfl⟩
     obtain⟨C,h,A⟩:=xm h;obtain⟨cc,h,B⟩:=xm h;refine⟨_,h.2,fun Lw ρ H w eval v f q c D=>?_⟩;obtain⟨rfl,I,Q⟩:=vR h.1 f;have em:∃ k,eval m=.int k C:=by
      rcases B ρ H eval f D with ⟨e,_⟩|⟨y,k,e,e2⟩
      ·cases e
      cases e; exact⟨k,e2⟩
     obtain⟨km,em⟩:=em;have bd:∀ cap:Nat,rows.length<=cap->(Instr.sliceBounds true rows.length cap none (some (eval Z)) (some (eval m))).run P w=.ok (0,C,C) w:=by
      intro cap T;rcases A ρ H eval f c with ⟨e,e2⟩|⟨y,k,e,e2⟩
      ·cases e
      cases e;simp[Instr.sliceBounds,Instr.sliceBound,asIntOf,em,e2,Int.toNat_natCast,Nat.le_trans I T]
     simp only[qD];have rv0:=q;simp only[qp]at q;rcases q with ⟨rfl,rfl|⟨S,s,rfl⟩⟩|⟨b,o,z,cap,rfl,T,N⟩
     ·have K:C=0:=by simpa using I
      subst K;have:=bd 0 (jv _);refine⟨.slice none 0 0,?_,by simp[qp],_,_,rfl⟩;simp only[jc]at this;simp[Instr.sliceAt,Instr.slice,kru hu,this,Go.sizeOf,typeInfo,L]
     ·have K:C=0:=by simpa using I
      subst K;have:=bd s (jR _);simp only[jc]at this;refine⟨.slice (some S) 0 0,?_,by simp[qp],_,_,rfl⟩;simp[Instr.sliceAt,Instr.slice,kru hu,this,Go.sizeOf,typeInfo,L]
     have:=bd cap T;have hlen:(rows.take C).length=C:=by rw[js]; omega
     refine⟨.slice (some ⟨b,o,none⟩) C C,?_,by simp only[qp]; exact .inr ⟨b,o,z,C,by rw[hlen],by rw[hlen]; exact jv _,N.take C⟩,_,_,rfl⟩;by_cases K:C=0
     ·subst K
      simp[Instr.sliceAt,Instr.slice,kru hu,this,Go.sizeOf,typeInfo,L]
     simp[Instr.sliceAt,Instr.slice,kru hu,this,Go.sizeOf,typeInfo,L,K,Addr.add_lit]
    exact h.elim
   exact h.elim
  split at h
  ·split at h
   ·obtain⟨J,h,O⟩:=cutCase _ h
    exact⟨J,h,fun Lw ρ H w eval v f q _ c D=>O ρ H w eval v f q c D⟩
   ·obtain⟨J,h,O⟩:=cutCase _ h
    refine⟨J,h,fun Lw ρ H w eval v f q _ c D=>O ρ H w eval v f ?_ c D⟩
    simp only[qD,qp]at q ⊢;exact .inl ⟨trivial,.inl q⟩
   ·obtain⟨J,h,O⟩:=cutCase _ h
    exact⟨J,h,fun Lw ρ H w eval v f q _ c D=>O ρ H w eval v f q.2 c D⟩
   exact h.elim
  exact h.elim
 split at h
 ·rename_i l
  split at h
  ·rename_i hu
   obtain⟨C,h,A⟩:=xm h;obtain⟨F,h,B⟩:=xm h;refine⟨_,h.2,fun Lw ρ H w eval v f q j c _=>?_⟩;obtain⟨M,I⟩:=vR h.1 f;rw[dC q];have:=dY (P:=P) (w:=w) (isSlice:=false) (len:=l.length) (cap:=l.length) (B ρ H eval f j) (A ρ H eval f c) M I;refine⟨.string ⟨((l.take C).drop F).toArray⟩,?_,rF⟩;simp[Instr.sliceAt,Instr.slice,kru hu,mA,this,ByteArray.extract_mk,List.drop_take]
  exact h.elim
 ·rename_i rows
  split at h
  ·rename_i e hu
   split at h
   ·rename_i i p
    obtain⟨C,h,A⟩:=xm h;obtain⟨F,h,B⟩:=xm h;refine⟨_,h.2,fun Lw ρ H w eval v f q j c _=>?_⟩;exact rowsCase e i rows F C hu p (vR h.1 f) H w eval v q (B ρ H eval f j) (A ρ H eval f c)
   exact h.elim
  exact h.elim
 ·rename_i k rows
  split at h
  ·rename_i e hu
   split at h
   ·rename_i i p
    obtain⟨C,h,A⟩:=xm h;obtain⟨F,h,B⟩:=xm h;refine⟨_,h.2,fun Lw ρ H w eval v f q j c _=>?_⟩;exact rowsCase e i rows F C hu p (vR h.1 f) H w eval v q.2 (B ρ H eval f j) (A ρ H eval f c)
   exact h.elim
  exact h.elim
 ·rename_i k off
  split at h
  ·rename_i n e hu
   split at h
   ·rename_i i p
    split at h
    ·rename_i hz
     have hz:i.size=1:=jn hz;obtain⟨C,h,A⟩:=xm h;obtain⟨F,h,B⟩:=xm h;refine⟨_,h.2,fun Lw ρ H w eval v f q j c _=>?_⟩;obtain⟨M,I,Q⟩:=vR h.1 f;obtain⟨b,Y,rfl⟩:=q;have:=dY (P:=P) (w:=w) (isSlice:=false) (len:=n) (cap:=n) (B ρ H eval f j) (A ρ H eval f c) M I;have d:¬ n=F:=by omega
     refine⟨.slice (some ⟨b,off+F,none⟩) (C - F) (n - F),?_,b,Y,_,rfl,.inr rfl⟩;simp[Instr.sliceAt,Instr.sureAddr,kru hu,this,Go.sizeOf,typeInfo,p,hz,d,Addr.add_lit]
    exact h.elim
   exact h.elim
  exact h.elim
 ·rename_i k z
  split at h
  ·rename_i n e hu
   split at h
   ·rename_i i p
    split at h
    ·rename_i hz
     have hz:i.size=1:=jn hz;obtain⟨C,h,A⟩:=xm h;obtain⟨F,h,B⟩:=xm h;refine⟨_,h.2,fun Lw ρ H w eval v f q j c _=>?_⟩;obtain⟨rfl,M,I,Q⟩:=vR h.1 f;obtain⟨b,n',s,Y,rfl⟩:=q;have:=dY (P:=P) (w:=w) (isSlice:=false) (len:=n) (cap:=n) (B ρ H eval f j) (A ρ H eval f c) M I;have d:¬ n=F:=by omega
     refine⟨.slice (some ⟨b,F,none⟩) (C - F) (n - F),?_,b,n',s,_,Y,rfl⟩;simp[Instr.sliceAt,Instr.sureAddr,kru hu,this,Go.sizeOf,typeInfo,p,hz,d,Addr.add_lit]
    exact h.elim
   exact h.elim
  exact h.elim
 exact h.elim
theorem fb {w:World} {b:Nat} {vs:List Value} {t:TypeId} {fr:Nat×Nat} (a:w.heap[b]? =some (.cells vs.toArray t fr)) (off:Nat) :
  ∀ j v,(vs.drop off)[j]? =some v->w.cell? ⟨b,off+j,none⟩=some v:=fun j v hv=>by
 rw[cell_of_row w b (off+j) _ t fr a];rw[jD]at hv;simpa using hv
end
end Ax
end
section
namespace Ax
open Go
variable {Lw:Nat}
section
variable {P:Program}
theorem DH (off:Nat):∀ (l:List Value) (k:Nat) (cs:Array Value),off+k+l.length<=cs.size ->
  ((l.zipIdx k).foldl (fun(cs:Array Value) (x:Value×Nat)=>cs.setIfInBounds (off+x.2) x.1) cs).toList=cs.toList.take (off+k)++l++cs.toList.drop (off+k+l.length)
 | [],k,cs,_=>by simp
 | c::l,k,cs,h=>by
  simp only[ja]at h;rw[List.zipIdx_cons,List.foldl_cons,DH off l (k+1) _ (by simp; omega)];simp only[Array.toList_setIfInBounds,ja];have e:off+(k+1)=off+k+1:=by omega
  rw[e,List.take_add_one,List.getElem?_set_self (by simpa using(by omega:off+k<cs.size)),List.take_set_of_le (jv _),List.drop_set_of_lt (by omega)];have e2:off+k+1+l.length=off+k+(l.length+1):=by omega
  rw[e2];simp
theorem GW (off:Nat) (v:Value) (cs:Array Value) (h:off+v.cells.size<=cs.size) :
  (v.cells.zipIdx.foldl (fun(cs:Array Value) (x:Value×Nat)=>cs.setIfInBounds (off+x.2) x.1) cs).toList=cs.toList.take off++v.cells.toList++cs.toList.drop (off+v.cells.size):=by
 rw[← Array.foldl_toList,Array.toList_zipIdx];have:=DH off v.cells.toList 0 cs (by simpa using h);simpa using this
theorem fe {ρ:List Value} {H:(PH Lw)} {f:FV} {x:Value} (h:EZ f=true) (r:qD ρ H f x):x.cells = #[x]/\x.oneCell'=true:=by
 cases f with
 | p p=>
  cases p<;>simp[EZ]at h<;>simp only[qD,qp]at r
  case sl rows=>
   rcases r with ⟨_,rfl|⟨_,_,rfl⟩⟩|⟨b,o,z,cap,rfl,_⟩<;>exact⟨rfl,rfl⟩
  case nsl rows=>
   rcases r with ⟨_,rfl|⟨_,_,rfl⟩⟩|⟨b,o,z,cap,rfl,_⟩<;>exact⟨rfl,rfl⟩
  case ifc t p=>
   obtain⟨u,rfl,_⟩:=r;exact⟨rfl,rfl⟩
  case hp row=>obtain⟨b,o,vs,rfl,_⟩:=r; exact⟨rfl,rfl⟩
  case clo f cs=>obtain⟨vs,rfl,_⟩:=r; exact⟨rfl,rfl⟩
  case bfn f cs=>obtain⟨vs,rfl,_⟩:=r; exact⟨rfl,rfl⟩
  case ifo n t p=>rcases r with ⟨_,rfl⟩|⟨_,u,rfl,_⟩<;>exact⟨rfl,rfl⟩
  all_goals (subst r; exact⟨rfl,rfl⟩)
 | top=>simp[EZ]at h
 | opt g v=>simp[EZ]at h
 | tsl k rows=>
  have:=r.2;simp only[qp]at this;rcases this with ⟨_,rfl|⟨_,_,rfl⟩⟩|⟨b,o,z,cap,rfl,_⟩<;>exact⟨rfl,rfl⟩
 | ptr k off=>
  obtain⟨b,_,rfl⟩:=r;exact⟨rfl,rfl⟩
 | hptr row=>
  obtain⟨b,o,vs,rfl,_⟩:=r;exact⟨rfl,rfl⟩
 | bself k=>
  obtain⟨b,_,rfl|rfl⟩:=r<;>exact⟨rfl,rfl⟩
 | bsl k off len cap=>
  obtain⟨b,_,c,rfl,_⟩:=r;exact⟨rfl,rfl⟩
 | vsl k n=>
  obtain⟨_,⟨_,rfl⟩|⟨b,cap,rfl⟩⟩:=r<;>exact⟨rfl,rfl⟩
 | eptr k z i off=>
  obtain⟨b,n,cap,_,rfl⟩:=r;exact⟨rfl,rfl⟩
 | mref k=>
  obtain⟨b,_,rfl⟩:=r;exact⟨rfl,rfl⟩
 | pair a b=>simp[EZ]at h
 | stmp k=>simp[EZ]at h
 | cap0=>simp[EZ]at h
 | cap a b=>simp[EZ]at h
 | fagg c=>simp[EZ]at h
 | nxt ok a b=>simp[EZ]at h
 | cut rows=>
  obtain⟨_,p,n,rfl⟩:=r;simp[Value.cells,Value.oneCell']
 | ifs t c=>
  obtain⟨u,rfl,_⟩:=r;exact⟨rfl,rfl⟩
 | asl k off n=>
  obtain⟨b,_,_,_,_,rfl⟩:=r;exact⟨rfl,rfl⟩
 | clo f c=>
  obtain⟨vs,rfl,_⟩:=r;exact⟨rfl,rfl⟩
theorem nT:∀ {cs:List PV} {R:List FV->Prop},Mk cs R->R (cs.map .p)
 | [],R,h=>h
 | c::cs,R,h=>by simpa using nT (cs:=cs) (R:=fun l=>R (.p c::l)) h
theorem dW:∀ {off:Nat} {vs old:List FV} {R:List FV->Prop},sB off vs old R->R (old.take off++vs++old.drop (off+vs.length))/\off+vs.length<=old.length
 | 0,[],old,R,h=>by simpa[sB]using h
 | 0,v::vs,[],R,h=>by simp[sB]at h
 | 0,v::vs,a::old,R,h=>by
  simp only[sB]at h;have:=dW (off:=0) h;simpa using this
 | off+1,vs,[],R,h=>by cases vs<;>simp[sB]at h
 | off+1,vs,a::old,R,h=>by
  have b:sB off vs old fun l=>R (a::l):=by cases vs<;>simpa[sB]using h
  have:=dW b;have e:off+1+vs.length=(off+vs.length)+1:=by omega
  rw[e];simpa using this
theorem zk.append {ρ:List Value} {H:(PH Lw)}:∀ {cs a:List FV} {vs us:List Value},zk ρ H cs vs->zk ρ H a us->zk ρ H (cs++a) (vs++us)
 | [],_,vs,_,x,y=>by simp only[zk]at x; simpa[x]using y
 | c::cs,a,vs,us,x,y=>by
  obtain⟨v,b,rfl,r,rs⟩:=x;exact⟨v,_,rfl,r,rs.append y⟩
theorem nV:∀ {off:Nat} {vs old:List PV} {R:List PV->Prop},ZY off vs old R->R (old.take off++vs++old.drop (off+vs.length))/\off+vs.length<=old.length
 | 0,[],old,R,h=>by simpa[ZY]using h
 | 0,v::vs,[],R,h=>by simp[ZY]at h
 | 0,v::vs,a::old,R,h=>by
  simp only[ZY]at h;have:=nV (off:=0) h;simpa using this
 | off+1,vs,[],R,h=>by cases vs<;>simp[ZY]at h
 | off+1,vs,a::old,R,h=>by
  have b:ZY off vs old fun l=>R (a::l):=by cases vs<;>simpa[ZY]using h
  have:=nV b;have e:off+1+vs.length=(off+vs.length)+1:=by omega
  rw[e];simpa using this
theorem tC {p:PV} {R:List PV->Prop} (h:Ce p R):∃ c,R c/\∀ ⦃Lw:Nat⦄ (H:(PH Lw)) (x:Value),qp H p x->qJ H c x.cells.toList:=by
 unfold Ce at h;split at h
 ·rename_i cs
  refine⟨cs,h,fun Lw H x r=>?_⟩;simp only[qp]at r;obtain⟨vs,rfl,q⟩:=r;simpa[Value.cells]using q
 ·exact h.elim
 rename_i a d;refine⟨[p],h,fun Lw H x r=>?_⟩;have e:x.cells = #[x]:=by
  cases p<;>simp only[qp]at r
  case agg cs=>exact absurd rfl (a cs)
  case tup cs=>exact absurd rfl (d cs)
  case sl rows=>rcases r with ⟨_,rfl|⟨_,_,rfl⟩⟩|⟨_,_,_,_,rfl,_⟩<;>rfl
  case nsl rows=>rcases r with ⟨_,rfl|⟨_,_,rfl⟩⟩|⟨_,_,_,_,rfl,_⟩<;>rfl
  case ifc t p=>obtain⟨_,rfl,_⟩:=r; rfl
  case hp row=>obtain⟨b,o,vs,rfl,_⟩:=r; rfl
  case clo f cs=>obtain⟨vs,rfl,_⟩:=r; rfl
  case bfn f cs=>obtain⟨vs,rfl,_⟩:=r; rfl
  case ifo n t p=>rcases r with ⟨_,rfl⟩|⟨_,u,rfl,_⟩<;>rfl
  all_goals (subst r; rfl)
 rw[e];simp only[qJ];exact⟨x,[],rfl,r,rfl⟩
theorem Vq {H:(PH Lw)} {p:PV} {x:Value} (h:Fp p=true) (r:qp H p x):x.oneCell'=true/\x.cells = #[x]:=by
 cases p<;>simp only[qp]at r
 case agg cs=>simp[Fp]at h
 case tup cs=>simp[Fp]at h
 case sl rows=>rcases r with ⟨_,rfl|⟨_,_,rfl⟩⟩|⟨_,_,_,_,rfl,_⟩<;>exact⟨rfl,rfl⟩
 case nsl rows=>rcases r with ⟨_,rfl|⟨_,_,rfl⟩⟩|⟨_,_,_,_,rfl,_⟩<;>exact⟨rfl,rfl⟩
 case ifc t p=>obtain⟨_,rfl,_⟩:=r; exact⟨rfl,rfl⟩
 case hp row=>obtain⟨b,o,vs,rfl,_⟩:=r; exact⟨rfl,rfl⟩
 case clo f cs=>obtain⟨vs,rfl,_⟩:=r; exact⟨rfl,rfl⟩
 case bfn f cs=>obtain⟨vs,rfl,_⟩:=r; exact⟨rfl,rfl⟩
 case ifo n t p=>rcases r with ⟨_,rfl⟩|⟨_,u,rfl,_⟩<;>exact⟨rfl,rfl⟩
 all_goals (subst r; exact⟨rfl,rfl⟩)
theorem qJ.one {H:(PH Lw)}:∀ {cs:List PV} {vs:List Value},(∀ c∈cs,Fp c=true)->qJ H cs vs->∀ u∈vs,u.oneCell'=true
 | [],vs,_,r,u,hu=>by simp only[qJ]at r; simp[r]at hu
 | c::cs,vs,h,r,u,hu=>by
  simp only[qJ]at r;obtain⟨v,a,rfl,b,rs⟩:=r;rcases jg.1 hu with rfl|hu
  ·exact(Vq (h c (by simp)) b).1
  exact qJ.one (fun c d=>h c (by simp[d])) rs u hu
theorem nU:∀ {vs:List Value} {R:List PV->Prop},Dg vs R->∃ a,R a/\∀ ⦃Lw:Nat⦄ (H:PH Lw),qJ H a vs
 | [],R,h=>⟨[],h,fun Lw H=>by simp[qJ]⟩
 | v::vs,R,h=>by
  simp only[Dg]at h;split at h
  ·rename_i p hp
   obtain⟨a,b,c⟩:=nU h;refine⟨p::a,b,fun Lw H=>?_⟩;simp only[qJ];exact⟨v,vs,rfl,Qd hp H,c H⟩
  exact h.elim
theorem UI {E:Env} {g:G} {o:List Field}:∀ {parts:List (Nat×Operand)} {cs:List PV} {R:List PV->Prop},LX P E g o parts cs R ->
  ∃ a,R a/\(Sn g->∀ ⦃Lw:Nat⦄ (ρ:List Value) (H:(PH Lw)) (w:World) (eval:Operand->Value) (places:Array (Nat×Nat)) (cells:Array Value),(∀ x∈parts.map (·.2),qD ρ H (Sf (qz E) x) (eval x)) ->
   (∀ (i:Nat) (f:Field),o[i]? =some f->∀ d,P.info? f.type=some d->places[i]? =some (f.offset,d.size))->qJ H cs cells.toList ->
   ∃ cells',Instr.fill (places[·]?) cells (parts.map fun(i,x)=>(i,eval x))=some cells'/\qJ H a cells'.toList)
 | [],cs,R,h=>⟨cs,h,fun _ Lw ρ H w eval places cells _ _ r=>⟨cells,rfl,r⟩⟩
 | (i,x)::l,cs,R,h=>by
  simp only[LX]at h;obtain⟨f,u,h⟩:=qV h;split at h
  ·rename_i d k
   obtain⟨v,h,hv⟩:=qu h;obtain⟨p,h,hp⟩:=gu h;obtain⟨c,h,z⟩:=tC h;split at h
   ·rename_i b
    have b:c.length=d.size:=jn b;obtain⟨h,hlen⟩:=nV h;obtain⟨a,h,A⟩:=UI h;refine⟨a,h,fun q Lw ρ H w eval places cells s e r=>?_⟩;have rc:=z H _ (hp _ _ _ (hv ρ H _ q (s x (by simp))));have j:(eval x).cells.size=d.size:=by have:=rc.length; simp at this; omega
    have m:=r.length;simp at m;have n:f.offset+(eval x).cells.size<=cells.size:=by omega
    have B:=GW f.offset (eval x) cells n;obtain⟨cells',C,D⟩:=A q ρ H w eval places ((eval x).cells.zipIdx.foldl (fun(cs:Array Value) (x:Value×Nat)=>cs.setIfInBounds (f.offset+x.2) x.1) cells) (fun y t=>s y (by simp at t ⊢; exact .inr t)) e (by
     rw[B,j,← b];exact((r.take _).append rc).append (r.drop _))
    refine⟨cells',?_,D⟩;simp only[jk,Instr.fill,e i f u d k];rw[if_neg (by simp[j]; omega)];exact C
   exact h.elim
  exact h.elim
theorem bR {E:Env} {g:G}:∀ {parts:List (Nat×Operand)} {k:Nat} {R:List PV->Prop},US E g k parts R ->
  ∃ a,R a/\a.length=parts.length/\(Sn g->∀ ⦃Lw:Nat⦄ (ρ:List Value) (H:(PH Lw)) (eval:Operand->Value),(∀ x∈parts.map (·.2),qD ρ H (Sf (qz E) x) (eval x)) ->
   ∃ vals,(parts.map fun(i,x)=>(i,eval x))=(vals.zipIdx k).map (fun(v,i)=>(i,v))/\qJ H a vals)
 | [],k,R,h=>⟨[],h,rfl,fun _ Lw ρ H eval _=>⟨[],rfl,by simp[qJ]⟩⟩
 | (i,x)::l,k,R,h=>by
  simp only[US]at h;split at h
  ·rename_i b
   have b:i=k:=jn b;subst b;obtain⟨v,h,hv⟩:=qu h;obtain⟨p,h,hp⟩:=gu h;obtain⟨a,h,j,m⟩:=bR h;refine⟨p::a,h,by simp[j],fun c Lw ρ H eval d=>?_⟩;obtain⟨vals,e,r⟩:=m c ρ H eval (fun y f=>d y (by simp at f ⊢; exact .inr f))
   refine⟨eval x::vals,?_,?_⟩
   ·simp only[jk,List.zipIdx_cons,e]
   simp only[qJ];exact⟨_,_,rfl,hp _ _ _ (hv ρ H _ c (d x (by simp))),r⟩
  exact h.elim
theorem sv (size:Nat) (n:Nat) (pl:Nat->Option (Nat×Nat)) (a:∀ i,i<n->pl i=some (i * size,size)):∀ (vals:List Value) (k:Nat) (cells:Array Value),(∀ v∈vals,v.cells.size=size)->k+vals.length=n->n * size=cells.size ->
  ∃ cells',Instr.fill pl cells ((vals.zipIdx k).map fun(v,i)=>(i,v))=some cells'/\cells'.toList=cells.toList.take (k * size)++vals.flatMap (·.cells.toList)
 | [],k,cells,_,hn,hc=>by
  refine⟨cells,rfl,?_⟩;simp at hn;subst hn;rw[List.take_of_length_le (by simp; omega)];simp
 | v::vals,k,cells,hv,hn,hc=>by
  have c:=hv v (by simp);simp only[ja]at hn;have b:(k+1) * size<=n * size:=Nat.mul_le_mul_right _ (by omega);have d:k * size+v.cells.size<=cells.size:=by rw[c,← hc]; rw[Nat.add_mul,Nat.one_mul]at b; exact b
  have g:=GW (k * size) v cells d;have f:(v.cells.zipIdx.foldl (fun(cs:Array Value) (x:Value×Nat)=>cs.setIfInBounds (k * size+x.2) x.1) cells).size=cells.size:=by
   rw[← jK,g];simp;omega
  obtain⟨cells',e,h⟩:=sv size n pl a vals (k+1) _ (fun u hu=>hv u (by simp[hu])) (by omega) (by rw[f]; exact hc)
  refine⟨cells',?_,?_⟩
  ·simp only[List.zipIdx_cons,jk,Instr.fill,a k (by omega)]
   rw[if_neg (by simp[c]; omega)];exact e
  rw[h,g];have e1:(k+1) * size=k * size+v.cells.size:=by rw[c,Nat.add_mul,Nat.one_mul]
  rw[e1,List.flatMap_cons,← jr];congr 1;rw[jr,List.take_append,List.take_append];simp only[js,jK];have:min (k * size) cells.size=k * size:=Nat.min_eq_left (by omega);rw[this,List.take_of_length_le (l:=List.take (k * size) cells.toList) (by simp; omega)];simp;exact List.take_of_length_le (by simp)
theorem sN:∀ {b:List PV} {R:List (List PV)->Prop},Ln b R->∃ rows,R rows/\rows.length=b.length/\∀ ⦃Lw:Nat⦄ (H:(PH Lw)) (vals:List Value),qJ H b vals ->
  (∀ (i:Nat) (r:List PV) (v:Value),rows[i]? =some r->vals[i]? =some v->qJ H r v.cells.toList)
 | [],R,h=>⟨[],h,rfl,fun Lw H vals r i e v a=>by simp at a⟩
 | p::b,R,h=>by
  simp only[Ln]at h;obtain⟨c,h,f⟩:=tC h;obtain⟨rows,h,g,j⟩:=sN h;refine⟨c::rows,h,by simp[g],fun Lw H vals r i e v a hv=>?_⟩;simp only[qJ]at r;obtain⟨x,d,rfl,rx,rs⟩:=r;cases i with
  | zero=>simp at a hv; subst a; subst hv; exact f H x rx
  | succ i=>exact j H d rs i e v (by simpa using a) (by simpa using hv)
theorem LR {H:(PH Lw)} {w:World} (s:SatH H w) (e:TypeId) (ys:List Value) (f:∀ u∈ys,u.oneCell'=true) :
  Calm H w (fun b o=>if b=w.heap.size then ys[o]? else H b o) (w.alloc (.cells ys.toArray e)):=by
 have a:∀ b o v,H b o=some v->b≠w.heap.size:=fun b o v hv e=>by
  have:=s.lt hv; omega
 refine⟨fun b o v hv=>?_,⟨fun b o v hv=>?_,s.root.mono (fun b o v hv=>by rw[if_neg (a b o v hv)]; exact hv),by have:=s.low; simp; omega,fun b o v hv d=>by
  split at hv
  ·rename_i g; subst g; exact .of (heap_alloc_new w _)
  exact(s.nf b o v hv d).block (heap_alloc_old w _ (s.lt hv))⟩,⟨rfl,rfl,rfl,by simp,fun k i _=>Go.RowKit.Below.heap_alloc w _ k i⟩,fun b o v hv=>?_⟩
 ·rw[if_neg (a b o v hv)]; exact hv
 ·split at hv
  ·rename_i d
   subst d;refine⟨?_,f v (List.mem_of_getElem? hv)⟩;rw[World.cell?_alloc_new];simpa using hv
  obtain⟨c,j⟩:=s.cell b o v hv;exact⟨by rw[World.cell?_alloc_lt (h:=s.lt hv)]; exact c,j⟩
 split at hv
 ·rename_i d; exact .inr (by omega)
 exact .inl ⟨v,hv⟩
theorem PD {H:(PH Lw)} {z:Nat}:∀ {rows:List (List PV)} {vals:List Value},rows.length=vals.length->(∀ r∈rows,r.length=z) ->
  (∀ (i:Nat) (r:List PV) (v:Value),rows[i]? =some r->vals[i]? =some v->qJ H r v.cells.toList)->∀ {b o:Nat} {H':(PH Lw)},PH.le H H' ->
  (∀ (j:Nat) (u:Value),(vals.flatMap (·.cells.toList))[j]? =some u->H' b (o+j)=some u)->fa H' b z o rows
 | [],_,_,_,_,_,_,_,_,_=>by simp[fa]
 | r::rs,[],hl,_,_,_,_,_,_,_=>by simp at hl
 | r::rs,v::vals,hl,hz,c,b,o,H',hle,hc=>by
  have d:=c 0 r v rfl rfl;have hlen:=d.length;have a:=hz r (by simp);simp only[fa];refine⟨a,⟨v.cells.toList,qJ.mono hle d,fun j u hu=>hc j u ?_⟩,PD (by simpa using hl) (fun r c=>hz r (by simp[c])) (fun i e v' f g=>c (i+1) e v' (by simpa using f) (by simpa using g)) hle (fun j u hu=>?_)⟩
  ·rw[List.flatMap_cons,jB (jG.1 hu).1]; exact hu
  have:=hc (z+j) u (by rw[List.flatMap_cons,jC (by rw[hlen,a]; omega),hlen,a,Nat.add_sub_cancel_left]; exact hu)
  rwa [← Nat.add_assoc]at this
theorem ZX {E:Env} {g:G} {t:TypeId} {n:Nat} {parts:List (Nat×Operand)} {R:FV->Prop} (h:gR P E g t n parts R) :
  ∃ Q,R Q/\(Sn g->∀ ⦃Lw:Nat⦄ (ρ:List Value) (H:(PH Lw)) (w:World) (eval:Operand->Value),SatH H w->(∀ x∈parts.map (·.2),qD ρ H (Sf (qz E) x) (eval x)) ->
   ∃ v w' H',(Instr.buildSlice t n (parts.map fun(i,x)=>(i,eval x)).toArray).run P w=.ok v w'/\Calm H w H' w'/\qD ρ H' Q v):=by
 unfold gR at h;obtain⟨e,i,hu,B,h⟩:=zT h;split at h
 ·rename_i l
  have l:parts.length=n:=jn l;split at h
  ·rename_i C
   split at h
   ·rename_i D
    split at h
    case h_2=>exact h.elim
    rename_i z;split at h
    case h_2=>exact h.elim
    rename_i k F;have:k=i:=Option.some.inj (F.symm.trans B);subst this;split at h
    case h_2=>exact h.elim
    rename_i S I;obtain⟨ps,h,a,J⟩:=bR h;obtain⟨rows,h,b,hrows⟩:=sN h;obtain⟨m,K,L,h⟩:=h;refine⟨_,h,fun U Lw ρ H w eval s V=>?_⟩;obtain⟨vals,ev,T⟩:=J U ρ H eval V;have hcells:=hrows H vals T;have o:vals.length=n:=by rw[T.length,a,l]
    have M:∀ v∈vals,v.cells.size=k.size:=by
     intro v hv;obtain⟨j,A⟩:=List.getElem?_of_mem hv;have p:=(jG.1 A).1;have d:j<rows.length:=by rw[b,a,l,← o]; exact p
     have:=(hcells j _ v (jf d) A).length;rw[(m _ (List.getElem_mem d)).1]at this;simpa using this
    obtain⟨cells',X,q⟩:=sv k.size n (fun N=>some (N * k.size,k.size)) (fun j _=>rfl) vals 0 ((Array.range (n * k.size)).map (S.cells[· % S.cells.size]!)) M (by omega) (by simp)
    simp only[Nat.zero_mul,List.take_zero,jt]at q;have hone:∀ u∈cells'.toList,u.oneCell'=true:=by
     rw[q];intro u y;obtain⟨v,hv,O⟩:=List.mem_flatMap.1 y;obtain⟨j,A⟩:=List.getElem?_of_mem hv;have p:=(jG.1 A).1;have d:j<rows.length:=by rw[b,a,l,← o]; exact p
     have Y:=hcells j _ v (jf d) A;have Z:=(m _ (List.getElem_mem d)).2;exact qJ.one (fun c hc=>(List.all_eq_true.1 Z) c hc) Y u O
    have f:=LR s e cells'.toList hone;refine⟨.slice (some ⟨w.heap.size,0,none⟩) n n,_,_,?_,f,?_⟩
    ·have h0:n * k.size≠0:=by
      have a1:1<=n:=jh C;have a2:1<=k.size:=jh D;exact Nat.mul_ne_zero (by omega) (by omega)
     have hb:¬ 16777216<n * k.size:=by
      have:=jh z;omega
     simp only[Instr.buildSlice,ka,kru hu,jZ,Go.sizeOf,typeInfo,run_program,B,kc];rw[show(2:Nat) ^ 24=16777216 from rfl];simp only[hb,if_false,gt_iff_lt,h0,ka,zeroValue,typeInfo,run_program,B,I,jZ,kc];rw[ev,X];simp[newRow]
    simp only[qD];refine Rl L ?_;simp only[qp];refine .inr ⟨w.heap.size,0,k.size,n,by rw[b,a,l],by rw[b,a,l]; exact jv _,?_⟩;refine PD (by rw[b,a,l,o]) (fun r hr=>(m r hr).1) hcells f.le (fun j u y=>?_);rw[jw,if_pos rfl,q];exact y
   exact h.elim
  exact h.elim
 exact h.elim
theorem Zc {w:World}:∀ {a:List Field},Co P a=true ->
  (a.mapM (m:=Sem) fun f=>do pure (f.offset,← Go.sizeOf f.type)).run P w=.ok (a.map fun f=>(f.offset,EF P f.type)) w
 | [],_=>by simp
 | f::a,h=>by
  simp only[Co]at h;split at h
  ·rename_i i c
   have:=Zc (w:=w) h;have b:(Go.sizeOf f.type).run P w=.ok i.size w:=by simp[Go.sizeOf,typeInfo,c]
   simp only[List.mapM_cons,ka,b,jZ,kc,jk,EF,c];rw[this];rfl
  cases h
theorem BL {E:Env} {g:G} {t:TypeId} {parts:List (Nat×Operand)} {R:FV->Prop} (h:HP P E g t parts R) :
  ∃ Y,R Y/\(Sn g->∀ ⦃Lw:Nat⦄ (ρ:List Value) (H:(PH Lw)) (w:World) (eval:Operand->Value),(∀ x∈parts.map (·.2),qD ρ H (Sf (qz E) x) (eval x)) ->
   ∃ v,(Instr.build t (parts.map fun(i,x)=>(i,eval x)).toArray).run P w=.ok v w/\qD ρ H Y v):=by
 unfold HP at h;split at h
 ·rename_i i N
  split at h
  ·rename_i vs hz
   obtain⟨zs,h,O⟩:=nU h;split at h
   ·rename_i fs hu
    split at h
    case h_2=>exact h.elim
    rename_i D;obtain⟨cs,h,hs⟩:=UI h;refine⟨_,h,fun F Lw ρ H w eval I=>?_⟩;obtain⟨cells',C,rc⟩:=hs F ρ H w eval (fs.map fun f=>(f.offset,EF P f.type)).toArray vs.toArray I (fun i f hf ti Q=>by simp[hf,EF,Q]) (by simpa[Value.cells]using O H)
    refine⟨.agg cells',?_,by simp only[qD,qp]; exact⟨cells'.toList,by simp,rc⟩⟩;simp only[Instr.build,ka,zeroValue,typeInfo,run_program,N,hz,jZ,kc,kru hu,Value.cells];rw[Array.mapM_eq_mapM_toList];simp only[Sem.run_map];rw[Zc D];simp only[jZ];rw[C];rfl
   ·rename_i n e hu
    split at h
    ·rename_i p J
     split at h
     ·rename_i s
      have s:p.size=1:=jn s;obtain⟨S,h,T,y⟩:=bR h;obtain⟨hlen,hone,h⟩:=h;refine⟨_,h,fun F Lw ρ H w eval I=>?_⟩;obtain⟨vals,ev,m⟩:=y F ρ H eval I;have c:∀ v∈vals,v.cells.size=1:=by
       intro v hv;obtain⟨j,q⟩:=List.getElem?_of_mem hv;have d:=(jG.1 q).1;have b:j<S.length:=by rw[← m.length]; exact d
       obtain⟨v',k,U⟩:=m.get (jf b);rw[q]at k;cases k;rw[(Vq (hone _ (List.getElem_mem b)) U).2];rfl
      have o:=m.length;obtain⟨cells',C,z⟩:=sv 1 vals.length (fun A=>some (A * 1,1)) (fun j _=>rfl) vals 0 ⟨vs⟩ c (by omega) (by simp; omega)
      refine⟨.agg cells',?_,?_⟩
      ·simp only[Instr.build,ka,zeroValue,typeInfo,run_program,N,hz,jZ,kc,kru hu,Go.sizeOf,J,s,ev,Value.cells]
       simp only[Nat.mul_one]at C ⊢;rw[C];rfl
      simp only[qD,qp];refine⟨cells'.toList,by simp,?_⟩;have e1:cells'.toList=vals:=by
       rw[z];simp only[Nat.zero_mul,List.take_zero,jt];have:∀ (l:List Value),(∀ v∈l,v∈vals)->l.flatMap (·.cells.toList)=l:=by
        intro l
        induction l with
        | nil=>intro _; rfl
        | cons a l ih=>
         intro K;rw[List.flatMap_cons,ih (fun v hv=>K v (by simp[hv]))]
         obtain⟨j,q⟩:=List.getElem?_of_mem (K a (by simp));have d:=(jG.1 q).1;have b:j<S.length:=by rw[← m.length]; exact d
         obtain⟨v',k,U⟩:=m.get (jf b);rw[q]at k;cases k;rw[(Vq (hone _ (List.getElem_mem b)) U).2];rfl
       exact this vals (fun v hv=>hv)
      rw[e1];exact m
     obtain⟨S,h,T,y⟩:=bR h;obtain⟨rows,h,B,hrows⟩:=sN h;obtain⟨L,hlen,h⟩:=h;refine⟨_,h,fun F Lw ρ H w eval I=>?_⟩;obtain⟨vals,ev,m⟩:=y F ρ H eval I;have hcell:=hrows H vals m;have o:=m.length;have c:∀ v∈vals,v.cells.size=p.size:=by
      intro v hv;obtain⟨j,q⟩:=List.getElem?_of_mem hv;have d:=(jG.1 q).1;have b:j<rows.length:=by rw[B,← o]; exact d
      have l:=(hcell j _ v (jf b) q).length;rw[jK]at l;rw[l];exact L _ (List.getElem_mem b)
     have V:∀ l:List (List PV),(∀ r∈l,r.length=p.size)->l.flatten.length=l.length * p.size:=by
      intro l
      induction l with
      | nil=>intro _; simp
      | cons a l ih=>
       intro K;rw[List.flatten_cons,jb,ih (fun r X=>K r (by simp[X])),K a (by simp),ja,Nat.succ_mul]
       omega
     have hvs:vals.length * p.size=vs.length:=by rw[← hlen,V rows L,B,o]
     obtain⟨cells',C,z⟩:=sv p.size vals.length (fun A=>some (A * p.size,p.size)) (fun j _=>rfl) vals 0 ⟨vs⟩ c (by omega) (by simp; omega)
     have key:∀ (l:List (List PV)) (us:List Value),l.length=us.length->(∀ (i:Nat) (r:List PV) (v:Value),l[i]? =some r->us[i]? =some v->qJ H r v.cells.toList)->qJ H l.flatten (us.flatMap (·.cells.toList)):=by
      intro l
      induction l with
      | nil=>intro us M _; rw[List.length_eq_zero_iff.1 M.symm]; simp[qJ]
      | cons a l ih=>
       intro us M Z;cases us with
       | nil=>simp at M
       | cons u us=>
        rw[List.flatten_cons,List.flatMap_cons];exact(Z 0 a u rfl rfl).append (ih us (by simpa using M) fun i r v X hv=>Z (i+1) r v (by simpa using X) (by simpa using hv))
     refine⟨.agg cells',?_,?_⟩
     ·simp only[Instr.build,ka,zeroValue,typeInfo,run_program,N,hz,jZ,kc,kru hu,Go.sizeOf,J,ev,Value.cells]
      rw[C];rfl
     simp only[qD,qp];refine⟨cells'.toList,by simp,?_⟩;rw[z];simp only[Nat.zero_mul,List.take_zero,jt];exact key rows vals (by rw[B,o]) hcell
    exact h.elim
   exact h.elim
  exact h.elim
 exact h.elim
theorem Ze {E:Env} {yes no:Prop}:∀ {parts:List (Nat×Operand)},GO E parts yes no->yes\/no
 | [],h=>.inr h
 | (_,x)::l,h=>by
  simp only[GO,XW]at h;split at h
  ·exact .inl h
  ·exact .inl h
  ·exact .inl h
  ·exact .inl h
  exact Ze h
theorem XS:∀ {c:FV} {R:List FV->Prop},bN c R->∃ cs,R cs/\∀ ⦃Lw:Nat⦄ (ρ:List Value) (H:(PH Lw)) (vs:List Value),qD ρ H c (.tuple vs.toArray)->zk ρ H cs vs
 | .cap0,R,h=>⟨[],h,fun Lw ρ H vs r=>by
   simp only[qD,Value.tuple.injEq]at r;simpa[zk]using r⟩
 | .cap a b,R,h=>by
  simp only[bN]at h;obtain⟨i,h,d⟩:=XS h;refine⟨_,h,fun Lw ρ H vs r=>?_⟩;obtain⟨u,us,e,f,g⟩:=r;have e:vs=u::us:=by simpa using e
  subst e;exact⟨u,us,rfl,f,d _ _ _ g⟩
 | .top,_,h|.p _,_,h|.opt _ _,_,h|.tsl _ _,_,h|.ptr _ _,_,h|.hptr _,_,h|.bself _,_,h|.bsl _ _ _ _,_,h|.vsl _ _,_,h|.eptr _ _ _ _,_,h|.mref _,_,h|.pair _ _,_,h|.stmp _,_,h|.clo _ _,_,h|.fagg _,_,h|.nxt _ _ _,_,h|.asl _ _ _,_,h|.ifs _ _,_,h|.cut _,_,h=>by
  simp[bN]at h
theorem Ej {v:FV} {R:List FV->Prop} (h:Ng v R):∃ c,R c/\∀ ⦃Lw:Nat⦄ (ρ:List Value) (H:(PH Lw)) (x:Value),qD ρ H v x->zk ρ H c x.cells.toList:=by
 unfold Ng at h;split at h
 ·obtain⟨c,h,b⟩:=tC h
  have h:=nT h;exact⟨_,h,fun Lw ρ H x r=>zk.of_RepL (b H x r)⟩
 ·rename_i k rows
  refine⟨_,h,fun Lw ρ H x r=>?_⟩;have e:=(fe (f:=.tsl k rows) rfl r).1;rw[e];exact⟨x,[],rfl,r,rfl⟩
 ·rename_i k
  refine⟨_,h,fun Lw ρ H x r=>?_⟩;have e:=(fe (f:=.mref k) rfl r).1;rw[e];exact⟨x,[],rfl,r,rfl⟩
 ·rename_i k o
  refine⟨_,h,fun Lw ρ H x r=>?_⟩;have e:=(fe (f:=.ptr k o) rfl r).1;rw[e];exact⟨x,[],rfl,r,rfl⟩
 ·rename_i f c
  refine⟨_,h,fun Lw ρ H x r=>?_⟩;have e:=(fe (f:=.clo f c) rfl r).1;rw[e];exact⟨x,[],rfl,r,rfl⟩
 ·rename_i k o n c
  refine⟨_,h,fun Lw ρ H x r=>?_⟩;have e:=(fe (f:=.bsl k o n c) rfl r).1;rw[e];exact⟨x,[],rfl,r,rfl⟩
 ·rename_i c
  obtain⟨cs,h,a⟩:=XS h;refine⟨_,h,fun Lw ρ H x r=>?_⟩;obtain⟨vs,rfl,rc⟩:=r;simpa[Value.cells]using a ρ H vs rc
 exact h.elim
theorem UH {E:Env} {g:G} {o:List Field}:∀ {parts:List (Nat×Operand)} {cs:List FV} {R:List FV->Prop},LW P E g o parts cs R ->
  ∃ a,R a/\(Sn g->∀ ⦃Lw:Nat⦄ (ρ:List Value) (H:(PH Lw)) (w:World) (eval:Operand->Value) (places:Array (Nat×Nat)) (cells:Array Value),(∀ x∈parts.map (·.2),qD ρ H (Sf (qz E) x) (eval x)) ->
   (∀ (i:Nat) (f:Field),o[i]? =some f->∀ d,P.info? f.type=some d->places[i]? =some (f.offset,d.size))->zk ρ H cs cells.toList ->
   ∃ cells',Instr.fill (places[·]?) cells (parts.map fun(i,x)=>(i,eval x))=some cells'/\zk ρ H a cells'.toList)
 | [],cs,R,h=>⟨cs,h,fun _ Lw ρ H w eval places cells _ _ r=>⟨cells,rfl,r⟩⟩
 | (i,x)::l,cs,R,h=>by
  simp only[LW]at h;obtain⟨f,t,h⟩:=qV h;split at h
  ·rename_i d k
   obtain⟨v,h,hv⟩:=qu h;obtain⟨c,h,u⟩:=Ej h;split at h
   ·rename_i b
    have b:c.length=d.size:=jn b;obtain⟨h,hlen⟩:=dW h;obtain⟨a,h,z⟩:=UH h;refine⟨a,h,fun p Lw ρ H w eval places cells q e r=>?_⟩;have rc:=u ρ H _ (hv ρ H _ p (q x (by simp)));have j:(eval x).cells.size=d.size:=by have:=rc.length; simp at this; omega
    have m:=r.length;simp at m;have n:f.offset+(eval x).cells.size<=cells.size:=by omega
    have A:=GW f.offset (eval x) cells n;obtain⟨cells',B,C⟩:=z p ρ H w eval places ((eval x).cells.zipIdx.foldl (fun(cs:Array Value) (x:Value×Nat)=>cs.setIfInBounds (f.offset+x.2) x.1) cells) (fun y s=>q y (by simp at s ⊢; exact .inr s)) e (by
     rw[A,j,← b];exact((r.take _).append rc).append (r.drop _))
    refine⟨cells',?_,C⟩;simp only[jk,Instr.fill,e i f t d k];rw[if_neg (by simp[j]; omega)];exact B
   exact h.elim
  exact h.elim
theorem Xh {ρ:List Value} {H:(PH Lw)}:∀ {cs:List FV} {vs:List Value},zk ρ H cs vs->qD ρ H (Pe cs) (.tuple vs.toArray)
 | [],vs,r=>by
  simp only[zk]at r;subst r;simp[Pe,qD]
 | c::cs,vs,r=>by
  obtain⟨u,us,rfl,a,rs⟩:=r;exact⟨u,us,rfl,a,Xh rs⟩
theorem sz {E:Env} {g:G} {t:TypeId} {parts:List (Nat×Operand)} {R:FV->Prop} (h:Va P E g t parts R) :
  ∃ d,R d/\(Sn g->∀ ⦃Lw:Nat⦄ (ρ:List Value) (H:(PH Lw)) (w:World) (eval:Operand->Value),(∀ x∈parts.map (·.2),qD ρ H (Sf (qz E) x) (eval x)) ->
   ∃ v,(Instr.build t (parts.map fun(i,x)=>(i,eval x)).toArray).run P w=.ok v w/\qD ρ H d v):=by
 unfold Va at h;split at h
 ·rename_i i e
  split at h
  ·rename_i vs hz
   obtain⟨p,h,b⟩:=nU h;have h:=nT h;split at h
   ·rename_i j hu
    split at h
    case h_2=>exact h.elim
    rename_i a;obtain⟨cs,h,k⟩:=UH h;refine⟨_,h,fun l Lw ρ H w eval m=>?_⟩;obtain⟨cells',n,rc⟩:=k l ρ H w eval (j.map fun f=>(f.offset,EF P f.type)).toArray vs.toArray m (fun i f o q c=>by simp[o,EF,c]) (by simpa[Value.cells]using zk.of_RepL (b H))
    refine⟨.agg cells',?_,⟨cells'.toList,by simp,Xh rc⟩⟩;simp only[Instr.build,ka,zeroValue,typeInfo,run_program,e,hz,jZ,kc,kru hu,Value.cells];rw[Array.mapM_eq_mapM_toList];simp only[Sem.run_map];rw[Zc a];simp only[jZ];rw[n];rfl
   exact h.elim
  exact h.elim
 exact h.elim
theorem rm {op:BinOp} {t:TypeId} {n:Bool} {y:FV} {R:FV->Prop} (h:UL P op t n y R) :
  ∃ i,R i/\∀ ⦃Lw:Nat⦄ (ρ:List Value) (H:(PH Lw)) (w:World) (d e:Operand) (a b:Value),((n=true/\a=.nilFunc)\/(n=false/\∃ f bs cs,a=.func f bs cs))->qD ρ H y b ->
   ∃ v,(do eqGuard op t d e a b; binOp op t a b:Sem Value).run P w=.ok v w/\qD ρ H i v:=by
 unfold UL at h;split at h
 ·rename_i j i2 i3 hu
  split at h
  ·have eqN:∀ (w:World) (a:Value),((n=true/\a=.nilFunc)\/(n=false/\∃ f bs cs,a=.func f bs cs))->(Op.equal t a .nilFunc).run P w=.ok n w:=by
    intro w a ha;have:∀ k,(Op.equalIn (k+1) t a .nilFunc).run P w=.ok n w:=by
     intro k;rcases ha with ⟨rfl,rfl⟩|⟨rfl,f,bs,cs,rfl⟩<;>simp[Op.equalIn,kru hu]
    exact this 9999
   split at h
   ·refine⟨_,h,fun Lw ρ H w d e a b g c=>⟨.bool n,?_,gH⟩⟩
    simp only[qD,qp]at c;subst c;simp[eqGuard,binOp,ka,eqN w a g]
   ·refine⟨_,h,fun Lw ρ H w d e a b g c=>⟨.bool (!n),?_,gH⟩⟩
    simp only[qD,qp]at c;subst c;simp[eqGuard,binOp,ka,eqN w a g]
   exact h.elim
  exact h.elim
 exact h.elim
theorem Vg {op:BinOp} {t:TypeId} {x y:FV} {R:FV->Prop} (h:Px P op t x y R) :
  ∃ m,R m/\∀ ⦃Lw:Nat⦄ (ρ:List Value) (H:(PH Lw)) (w:World) (d f:Operand) (a b:Value),qD ρ H x a->qD ρ H y b ->
   ∃ v,(do eqGuard op t d f a b; binOp op t a b:Sem Value).run P w=.ok v w/\qD ρ H m v:=by
 unfold Px at h;split at h
 ·rename_i e hu
  split at h
  ·rename_i i r
   have eqN:∀ (w:World) (p:Option Addr),(Op.equal t (.pointer p) (.pointer none)).run P w=.ok p.isNone w:=by
    intro w p;have:∀ n,(Op.equalIn (n+1) t (.pointer p) (.pointer none)).run P w=.ok p.isNone w:=by
     intro n;cases p<;>simp[Op.equalIn,kru hu]
    exact this 9999
   have Sk:∀ (b:Bool) (w:World) (d f:Operand) (p:Option Addr),(do eqGuard .eql t d f (.pointer p) (.pointer none); binOp .eql t (.pointer p) (.pointer none):Sem Value).run P w=.ok (.bool p.isNone) w /\
     (do eqGuard .neq t d f (.pointer p) (.pointer none); binOp .neq t (.pointer p) (.pointer none):Sem Value).run P w=.ok (.bool (!p.isNone)) w:=by
    intro b w d f p
    constructor
    ·simp only[eqGuard,binOp,ka,eqN]; rfl
    simp only[eqGuard,binOp,ka,eqN]; rfl
   split at h
   ·split at h
    ·refine⟨_,h,fun Lw ρ H w d f a b g c=>?_⟩
     simp only[qD,qp]at g c;subst g; subst c;exact⟨_,(Sk true w d f none).1,gH⟩
    ·refine⟨_,h,fun Lw ρ H w d f a b g c=>?_⟩
     obtain⟨bl,_,rfl⟩:=g;simp only[qD,qp]at c;subst c;exact⟨_,(Sk true w d f _).1,gH⟩
    ·refine⟨_,h,fun Lw ρ H w d f a b g c=>?_⟩
     obtain⟨bl,o,vs,rfl,_⟩:=g;simp only[qD,qp]at c;subst c;exact⟨_,(Sk true w d f _).1,gH⟩
    exact h.elim
   ·split at h
    ·refine⟨_,h,fun Lw ρ H w d f a b g c=>?_⟩
     simp only[qD,qp]at g c;subst g; subst c;exact⟨_,(Sk true w d f none).2,gH⟩
    ·refine⟨_,h,fun Lw ρ H w d f a b g c=>?_⟩
     obtain⟨bl,_,rfl⟩:=g;simp only[qD,qp]at c;subst c;exact⟨_,(Sk true w d f _).2,gH⟩
    ·refine⟨_,h,fun Lw ρ H w d f a b g c=>?_⟩
     obtain⟨bl,o,vs,rfl,_⟩:=g;simp only[qD,qp]at c;subst c;exact⟨_,(Sk true w d f _).2,gH⟩
    ·rename_i k off k' q
     split at h
     ·rename_i j
      have j:=jn j;split at h
      ·rename_i l
       have l:=jn l;subst j; subst l;refine⟨_,h,fun Lw ρ H w d f a b g c=>?_⟩;obtain⟨u,s,rfl⟩:=g;obtain⟨z,e2,rfl⟩:=c;rw[s]at e2;cases e2;refine⟨.bool false,?_,gH⟩;simp only[eqGuard,ka];exact Lib.run_neq_ptr_same w _ hu r
      exact h.elim
     exact h.elim
    exact h.elim
   exact h.elim
  exact h.elim
 exact h.elim
theorem sP {src dst:TypeId} {R:Prop} (h:SJ P src dst R):∃ e,P.underlying src=some (.slice e)/\P.underlying e=some (.int .u8)/\P.underlying dst=some .string/\R:=by
 unfold SJ at h;split at h
 ·rename_i e he
  split at h
  ·rename_i a
   split at h
   ·rename_i b; exact⟨e,he,a,b,h⟩
   exact h.elim
  exact h.elim
 exact h.elim
theorem Hi {l:List UInt8} {j:Nat} {x:UInt8} (h:l[j]? =some x):(zu l)[j]? =some [.int .u8 x.toNat]:=by simp[zu,h]
theorem UW {H:(PH Lw)} {w:World} (s:SatH H w) {b z o:Nat} {l:List UInt8} (r:fa H b z o (zu l)):∀ j (a:j<l.length),w.cell? ((⟨b,o,none⟩:Addr).add j)=some (.int .u8 (l[j].toNat:Int)):=by
 intro j a;obtain⟨hz,vs,q,c⟩:=r.get (Hi (jf a));simp at hz;subst hz;simp only[qJ,qp]at q;obtain⟨v,_,rfl,rfl,rfl⟩:=q;have:=c 0 _ rfl;rw[Addr.add_lit];simpa using(s _ _ _ this).1
theorem Lu {src dst:TypeId} {n:Nat} {t:TypeId} {R:Prop} (h:Rn P src dst n t R) :
  R/\∀ (w:World) (b:Nat),w.shape? b=some (t,n)->(convert src dst (.pointer (some ⟨b,0,none⟩))).run P w=.ok (.pointer (some ⟨b,0,none⟩)) w:=by
 unfold Rn at h;split at h
 ·rename_i u a
  split at h
  ·rename_i c
   split at h
   ·rename_i i e
    exact⟨h.2,fun w b d=>Lib.run_to_unsafe w ⟨b,0,none⟩ a c e h.1.1 d h.1.2⟩
   exact h.elim
  exact h.elim
 ·rename_i a
  split at h
  ·rename_i u c
   split at h
   ·rename_i i e
    exact⟨h.2,fun w b d=>Lib.run_from_unsafe w ⟨b,0,none⟩ a c e d h.1⟩
   exact h.elim
  exact h.elim
 exact h.elim
theorem tD {g:G} {src dst:TypeId} {lo:List AObj} {x:FV} {R:FV->Prop} (h:Vb P g src dst lo x R) :
  ∃ E,R E/\(Sn g->∀ ⦃Lw:Nat⦄ (bs:(Base Lw)) (ρ:List Value) (H:(PH Lw)) (w:World) (v:Value),SatW bs ρ H lo w->qD ρ H x v->∃ u,(convert src dst v).run P w=.ok u w/\qD ρ H E u):=by
 have rowsCase:∀ (e:TypeId) (l:List UInt8),P.underlying src=some (.slice e)->P.underlying e=some (.int .u8)->P.underlying dst=some .string->∀ ⦃Lw:Nat⦄ (H:(PH Lw)) (w:World) (v:Value),SatH H w->qp H (.sl (zu l)) v ->
   (convert src dst v).run P w=.ok (.string ⟨l.toArray⟩) w:=by
  intro e l a he f Lw H w v s d;simp only[qp]at d;rcases d with ⟨B,rfl|⟨U,y,rfl⟩⟩|⟨b,o,z,cap,rfl,hc,V⟩
  ·have:l=[]:=by simpa[zu]using B
   subst this;exact run_convert_bytes_nil w src e a he 0 0 dst f
  ·have:l=[]:=by simpa[zu]using B
   subst this;exact run_convert_bytes_back (P:=P) w src dst e U y [] a he f (fun j A=>absurd A (Nat.not_lt_zero _))
  have:=run_convert_bytes_back (P:=P) w src dst e ⟨b,o,none⟩ cap l a he f (UW s V);simpa[zu]using this
 unfold Vb at h;split at h
 ·rename_i rows
  obtain⟨e,a,he,f,l,r,h⟩:=sP h;refine⟨_,h,fun q Lw bs ρ H w v s d=>⟨_,rowsCase e l a he f H w v s.sath ?_,rF⟩⟩;rw[← vR r q]; exact d
 ·rename_i k rows
  obtain⟨e,a,he,f,l,r,h⟩:=sP h;refine⟨_,h,fun q Lw bs ρ H w v s d=>⟨_,rowsCase e l a he f H w v s.sath ?_,rF⟩⟩;rw[← vR r q]; exact d.2
 ·obtain⟨e,a,he,f,h⟩:=sP h
  refine⟨_,h,fun q Lw bs ρ H w v s d=>⟨_,rowsCase e [] a he f H w v s.sath ?_,rF⟩⟩;simp only[qD,qp]at d;simp only[qp];exact .inl ⟨rfl,.inl d⟩
 ·rename_i k off n cap
  obtain⟨e,a,he,f,h⟩:=sP h;obtain⟨I,m,h⟩:=qV h;split at h
  ·rename_i bt cells
   obtain⟨h,Q⟩:=vE h;obtain⟨h,J⟩:=uS h;obtain⟨ps,h,K⟩:=fT h;obtain⟨l,r,h⟩:=h;refine⟨_,h,fun q Lw bs ρ H w v s d=>?_⟩;obtain⟨b,F,_,rfl,_⟩:=d;obtain⟨X,vs,C,p,t,_⟩:=s.objs k _ _ m F;cases C;have r:=vR r q;have rl:=K _ _ _ ((t.drop off).take n);rw[r]at rl;have hlen:=rl.length;have D:=t.length;simp at hlen J;have L:n=l.length:=by omega
   subst L;refine⟨_,run_convert_bytes_back (P:=P) w src dst e ⟨b,off,none⟩ _ l a he f (fun j A=>?_),rF⟩;obtain⟨u,hu,S⟩:=rl.get (i:=j) (c:=.int .u8 (l[j].toNat:Int)) (by simp[A]);simp only[qp]at S;subst S;rw[Addr.add_lit];rw[jE,if_pos A]at hu;exact fb p off j _ hu
  exact h.elim
 ·rename_i k off
  split at h
  ·rename_i B
   have B:=jn B;subst B;obtain⟨I,m,h⟩:=qV h;split at h
   ·rename_i bt cells
    obtain⟨h,a⟩:=Lu h;refine⟨_,h,fun q Lw bs ρ H w v s d=>?_⟩;obtain⟨b,F,rfl⟩:=d;obtain⟨X,vs,C,p,t,_⟩:=s.objs k _ _ m F;cases C;have D:=t.length;have M:w.shape? b=some (bt,cells.length):=by simp[World.shape?,p,D]
    exact⟨_,a w b M,b,F,rfl⟩
   exact h.elim
  exact h.elim
 ·rename_i k n
  obtain⟨e,a,he,f,h⟩:=sP h;obtain⟨I,m,h⟩:=qV h;split at h
  ·rename_i l
   refine⟨_,h.2,fun q Lw bs ρ H w v s d=>?_⟩;have J:=vR h.1 q;obtain⟨b,cs,C,cap,lo',Y,rfl,p,_,N,_⟩:=s.objs k _ _ m d.1;refine⟨_,run_convert_bytes_back (P:=P) w src dst e ⟨b,0,none⟩ cap l a he f (fun j A=>?_),rF⟩;rw[Addr.add_lit];simp only[World.cell?,p,jw];exact N j _ (jf A)
  exact h.elim
 ·rename_i k off n
  obtain⟨e,a,he,f,h⟩:=sP h;obtain⟨I,m,h⟩:=qV h;split at h
  ·rename_i l
   refine⟨_,h.2,fun q Lw bs ρ H w v s d=>?_⟩;have J:=vR h.1 q;obtain⟨T,n',y,c,Z,rfl⟩:=d;obtain⟨b,cs,C,cap,lo',Y,e1,p,_,N,_⟩:=s.objs k _ _ m Z;obtain rfl:T=b:=by simpa[qC]using congrArg qC e1
   have r:n=((l.drop off).take n).length:=by simp; omega
   have hrun:=run_convert_bytes_back (P:=P) w src dst e ⟨T,off,none⟩ c ((l.drop off).take n) a he f (fun j A=>by
    rw[Addr.add_lit];simp only[World.cell?,p];have O:j<n:=by omega
    have:l[off+j]? =some ((l.drop off).take n)[j]:=by
     have h3:=jf A;rw[← h3,jE,if_pos O,jD]
    exact N _ _ this)
   rw[← r]at hrun;exact⟨_,hrun,rF⟩
  exact h.elim
 obtain⟨E,h,a⟩:=Fh h;exact⟨E,h,fun q Lw bs ρ H w v s d=>a ρ H w v d⟩
end
end Ax
end
section
namespace Ax
open Go
variable {Lw:Nat}
section
variable {P:Program}
theorem QM {bs:(Base Lw)} {ρ:List Value} {H H':(PH Lw)} {a:FV} {lo:List AObj} {v:Value} {w w':World} (s:SatW bs ρ H lo w) (c:Calm H w H' w') (r:qD ρ H' a v) :
  fW bs ρ H a lo v w':=⟨ρ,H',jp _,c.le,s.calm c,r⟩
theorem qM {bs:(Base Lw)} {ρ:List Value} {H:(PH Lw)} {a:FV} {lo:List AObj} {v:Value} {w:World} {x:Sem Value} (s:SatW bs ρ H lo w) (b:x.run P w=.ok v w) (r:qD ρ H a v) :
  Ca P bs ρ H a lo ((do pure (.value (← x)):Sem Next).run P w):=by
 simp only[ka,b,jZ,kc];exact xC s r
theorem dZ {bs:(Base Lw)} {ρ:List Value} {H:(PH Lw)} {lo:List AObj} {r:PV} {w:World} {x:Result Next} (s:SatW bs ρ H lo w) (h:tL P H w r x):Ca P bs ρ H (.p r) lo x:=by
 unfold tL at h;split at h
 ·obtain⟨H',c,b⟩:=h
  exact QM s c b
 ·obtain⟨rfl,a⟩:=h
  exact a.mono fun d w'' ⟨v,H',e,c,b⟩=>⟨v,e,QM s c b⟩
 exact h.elim
theorem UD:∀ {c:FV} {R:List PV->Prop},Hp c R->∃ d,R d/\∀ ⦃Lw:Nat⦄ (ρ:List Value) (H:(PH Lw)) (vs:List Value),qD ρ H c (.tuple vs.toArray)->qJ H d vs
 | .cap0,R,h=>⟨[],h,fun Lw ρ H vs r=>by
   simp only[qD,Value.tuple.injEq]at r;simpa[qJ]using r⟩
 | .cap a b,R,h=>by
  simp only[Hp]at h;obtain⟨p,h,hp⟩:=gu h;obtain⟨d,h,f⟩:=UD h;refine⟨_,h,fun Lw ρ H vs r=>?_⟩;obtain⟨u,us,e,g,i⟩:=r;have e:vs=u::us:=by simpa using e
  subst e;simp only[qJ];exact⟨u,us,rfl,hp _ _ _ g,f _ _ _ i⟩
 | .top,_,h|.p _,_,h|.opt _ _,_,h|.tsl _ _,_,h|.ptr _ _,_,h|.hptr _,_,h|.bself _,_,h|.bsl _ _ _ _,_,h|.vsl _ _,_,h|.eptr _ _ _ _,_,h|.mref _,_,h|.pair _ _,_,h|.stmp _,_,h|.clo _ _,_,h|.fagg _,_,h|.nxt _ _ _,_,h=>by
  simp[Hp]at h
theorem Cv {dst:Option Tmp} {op:Op} {ty:TypeId} {pos:String} {after:Array Edge} {guard:Option (Nat×Bool)} {E:Env} {g:G} {R:FV->Prop} (h:HX P op E g R):∃ D,R D/\∀ lo,vD P ⟨dst,op,ty,pos,after,guard⟩ (qz E) lo g D lo:=by
 unfold HX at h;split at h
 ·rename_i f b bs
  have i:=fS h; clear h; obtain⟨vs,h,l⟩:=i;have i:=fT h; clear h; obtain⟨L,h,o⟩:=i;refine⟨_,h,fun lo d Lw N ρ H w eval s j=>?_⟩;have rl:=o ρ H _ (l ρ H eval d (fun y q=>j y (by simpa[kd]using q)))
  exact qM s (v:=.func (.func f) ((b::bs).map eval).toArray #[]) (by simp[Instr.makeFunc]) (by simp only[qD,qp]; exact⟨_,rfl,rl⟩)
 ·rename_i x U a
  have i:=qu h; clear h; obtain⟨M,h,A⟩:=i;have i:=gu h; clear h; obtain⟨p,h,hp⟩:=i;obtain⟨r,n,h⟩:=h;refine⟨_,h,fun lo d Lw bs ρ H w eval s j=>?_⟩;obtain⟨u,e,O⟩:=vR n d H _ w (hp _ _ _ (A ρ H _ d (j x (by simp[kd]))));exact qM s e O
 ·rename_i f xs
  split at h
  ·refine⟨_,h,fun lo d Lw bs ρ H w eval s j=>?_⟩
   exact qM s (v:=.func (.func f) #[] #[]) (by simp[Instr.makeFunc]) (by simp[qD,qp])
  rename_i x xs;have i:=fS h; clear h; obtain⟨vs,h,l⟩:=i;refine⟨_,h,fun lo d Lw bs ρ H w eval s j=>?_⟩;have rl:=l ρ H eval d (fun y q=>j y (by simpa[kd]using q))
  exact qM s (v:=.func (.func f) #[] ((x::xs).map eval).toArray) (by simp[Instr.makeFunc]) ⟨_,rfl,Xh rl⟩
 ·rename_i t xs F
  have i:=qu h; clear h; obtain⟨D,h,z⟩:=i;have i:=fS h; clear h; obtain⟨vs,h,l⟩:=i;have i:=fT h; clear h; obtain⟨L,h,o⟩:=i;split at h
  ·rename_i f
   obtain⟨r,n,h⟩:=h;refine⟨_,h,fun lo d Lw bs ρ H w eval s j=>?_⟩;have n:=vR n d;have rl:=o ρ H _ (l ρ H eval d (fun y q=>j y (by simp[kd,ke,q])))
   have:=n H w _ s.sath rl;have B:(eval (.tmp t))=.func (.func f) #[] #[]:=by
    have:=z ρ H _ d (j (.tmp t) (by simp[kd,ke]));simpa[qD,qp]using this
   simp only[execOp,resolve,Deferred.ofValue,invoke,B,ka,kc,jZ,jY,Array.empty_append,Array.append_empty];exact dZ s this
  ·rename_i f c
   have i:=UD h; clear h; obtain⟨cs,h,I⟩:=i;obtain⟨r,n,h⟩:=h;refine⟨_,h,fun lo d Lw bs ρ H w eval s j=>?_⟩;have n:=vR n d;have rl:=o ρ H _ (l ρ H eval d (fun y q=>j y (by simp[kd,ke,q])))
   obtain⟨us,B,rc⟩:=z ρ H _ d (j (.tmp t) (by simp[kd,ke]));have:=n H w _ s.sath (rl.append (I _ _ _ rc));simp only[execOp,resolve,Deferred.ofValue,invoke,B,ka,kc,jZ,jY,List.append_toArray];exact dZ s this
  ·rename_i f cs
   obtain⟨r,n,h⟩:=h;refine⟨_,h,fun lo d Lw bs ρ H w eval s j=>?_⟩;have n:=vR n d;have rl:=o ρ H _ (l ρ H eval d (fun y q=>j y (by simp[kd,ke,q])))
   have rf:=z ρ H _ d (j (.tmp t) (by simp[kd,ke]));simp only[qD,qp]at rf;obtain⟨us,B,rc⟩:=rf;have:=n H w _ s.sath (rl.append rc);simp only[execOp,resolve,Deferred.ofValue,invoke,B,ka,kc,jZ,jY,List.append_toArray];exact dZ s this
  ·rename_i f bs
   obtain⟨r,n,h⟩:=h;refine⟨_,h,fun lo d Lw bs ρ H w eval s j=>?_⟩;have n:=vR n d;have rl:=o ρ H _ (l ρ H eval d (fun y q=>j y (by simp[kd,ke,q])))
   have rf:=z ρ H _ d (j (.tmp t) (by simp[kd,ke]));simp only[qD,qp]at rf;obtain⟨us,B,rc⟩:=rf;have:=n H w _ s.sath (rc.append rl);simp only[execOp,resolve,Deferred.ofValue,invoke,B,ka,kc,jZ,jY,List.append_toArray,Array.append_empty];exact dZ s this
  exact h.elim
 ·rename_i Q m xs F
  have i:=qu h; clear h; obtain⟨D,h,z⟩:=i;have i:=fS h; clear h; obtain⟨vs,h,l⟩:=i;have i:=fT h; clear h; obtain⟨L,h,o⟩:=i;split at h
  ·rename_i t v
   obtain⟨f,r,n,h⟩:=h;refine⟨_,h,fun lo d Lw bs ρ H w eval s j=>?_⟩;obtain⟨J,n⟩:=vR n d;have rl:=o ρ H _ (l ρ H eval d (fun y q=>j y (by simp[kd,ke,q])))
   have rr:=z ρ H _ d (j Q (by simp[kd,ke]));simp only[qD,qp]at rr;obtain⟨u,hu,S⟩:=rr;have:=n H w (u::xs.map eval) s.sath (by simp only[qJ]; exact⟨u,_,rfl,S,rl⟩);have K:=J u w;simp only[execOp,resolve,invoke,hu,ka,kc,jZ,jY,callMethod];have e:List.take xs.length (xs.map eval)=xs.map eval:=List.take_of_length_le (by simp);simp[K,e];exact dZ s this
  exact h.elim
 ·rename_i x y F
  have i:=qu h; clear h; obtain⟨M,h,A⟩:=i;have i:=qu h; clear h; obtain⟨T,h,C⟩:=i;split at h
  ·rename_i k a
   split at h
   ·rename_i k' b
    refine⟨_,h,fun lo d Lw bs ρ H w eval s j=>?_⟩;have r1:=zy (A ρ H _ d (j x (by simp[kd,ke])));have r2:=zy (C ρ H _ d (j y (by simp[kd,ke])));refine qM s (v:=.int k (bif decide (b>a)then b else a)) ?_ ga;simp only[execOp,resolve,invoke,builtin,ka,kc,jZ,jY,jk,jN,r1,r2,Builtin.max_,List.foldlM,Builtin.max2,Bool.cond_decide]
   exact h.elim
  exact h.elim
 ·rename_i x y F
  have i:=qu h; clear h; obtain⟨M,h,A⟩:=i;have i:=qu h; clear h; obtain⟨T,h,C⟩:=i;split at h
  ·rename_i k a
   split at h
   ·rename_i k' b
    refine⟨_,h,fun lo d Lw bs ρ H w eval s j=>?_⟩;have r1:=zy (A ρ H _ d (j x (by simp[kd,ke])));have r2:=zy (C ρ H _ d (j y (by simp[kd,ke])));refine qM s (v:=.int k (bif decide (b<a)then b else a)) ?_ ga;simp only[execOp,resolve,invoke,builtin,ka,kc,jZ,jY,jk,jN,r1,r2,Builtin.min_,List.foldlM,Builtin.min2,Bool.cond_decide]
   exact h.elim
  exact h.elim
 exact h.elim
theorem Vh {o:Oper} {E:Env} {g:G} {R:FV->Prop} (h:Mg P o.op E g R):∃ A,R A/\∀ lo,vD P o (qz E) lo g A lo:=by
 obtain⟨dst,op,ty,pos,after,guard⟩:=o;simp only at h;unfold Mg at h;split at h
 ·
  rename_i x;cases g with
  | none=>
   simp only[XW]at h;exact⟨_,h,fun lo l Lw bs ρ H w eval s m=>xC s (m x (by simp[kd]))⟩
  | some g=>
   obtain⟨F,h,j⟩:=qu h;exact⟨_,h,fun lo l Lw bs ρ H w eval s m=>xC s (j ρ H _ l (m x (by simp[kd])))⟩
 ·rename_i x
  cases g with
  | none=>
   simp only[XW]at h;exact⟨_,h,fun lo l Lw bs ρ H w eval s m=>xC s (m x (by simp[kd]))⟩
  | some g=>
   obtain⟨F,h,j⟩:=qu h;exact⟨_,h,fun lo l Lw bs ρ H w eval s m=>xC s (j ρ H _ l (m x (by simp[kd])))⟩
 ·
  rename_i c a b;obtain⟨c',h,N⟩:=qu h;split at h
  ·rename_i V
   have key:∃ A,R A/\(Sn g->∀ ⦃Lw:Nat⦄ (ρ:List Value) (H:(PH Lw)) (X vb:Value),qD ρ H (Sf (qz E) a) X->qD ρ H (Sf (qz E) b) vb->qD ρ H A (if V then X else vb)):=by
    have Sk:∀ (Y Z:Bool) (O Q:FV),Sa (some Y) (Sf (qz E) a) O->Sa (some Z) (Sf (qz E) b) Q->(Sn g->V=true->Y=true)->(Sn g->V=false->Z=true) ->
      (match O,Q with
       | .p (.bool a),.p (.bool b)=>R (.p (.bool (bif V then a else b)))
       | _,_=>False)->∃ A,R A/\(Sn g->∀ ⦃Lw:Nat⦄ (ρ:List Value) (H:(PH Lw)) (X vb:Value),qD ρ H (Sf (qz E) a) X->qD ρ H (Sf (qz E) b) vb->qD ρ H A (if V then X else vb)):=by
     intro Y Z O Q ha J h1 h2 h;split at h
     ·rename_i ab bb
      refine⟨_,h,fun l Lw ρ H X vb I K=>?_⟩;cases V with
      | true=>
       have:=dR (ha ρ H _ (h1 l rfl) I);simp[this,qD,qp]
      | false=>
       have:=dR (J ρ H _ (h2 l rfl) K);simp[this,qD,qp]
     exact h.elim
    split at h
    ·obtain⟨O,h,ha⟩:=qu h
     obtain⟨Q,h,J⟩:=qu h;exact Sk _ _ O Q ha J (fun _ h=>h) (fun _ h=>by simp[h]) h
    obtain⟨O,h,ha⟩:=qu h;obtain⟨Q,h,J⟩:=qu h;exact Sk _ _ O Q ha J (fun l h=>by simp only[Sn]at l; simp[l,h]) (fun l h=>by simp only[Sn]at l; simp[l,h]) h
   obtain⟨A,h,B⟩:=key;refine⟨_,h,fun lo l Lw bs ρ H w eval s m=>?_⟩;have rc:=dR (N ρ H _ l (m c (by simp[kd])));simp only[execOp,rc,asBool,ka,kc,jZ];exact xC s (B l ρ H _ _ (m a (by simp[kd])) (m b (by simp[kd])))
  exact h.elim
 ·rename_i t x f
  obtain⟨F,h,j⟩:=qu h;obtain⟨A,h,B⟩:=BQ h;refine⟨_,h,fun lo l Lw bs ρ H w eval s m=>?_⟩;obtain⟨v,D,C⟩:=B ρ H w _ (j ρ H _ l (m x (by simp[kd])));exact qM s D C
 ·rename_i t x f
  obtain⟨F,h,j⟩:=qu h;obtain⟨A,h,B⟩:=Ex h;refine⟨_,h,fun lo l Lw bs ρ H w eval s m=>?_⟩;obtain⟨v,D,C⟩:=B ρ H w _ (j ρ H _ l (m x (by simp[kd])));exact qM s D C
 ·rename_i t x i
  obtain⟨F,h,j⟩:=qu h;obtain⟨i',h,S⟩:=qu h;obtain⟨A,h,B⟩:=Vc h;refine⟨_,h,fun lo l Lw bs ρ H w eval s m=>?_⟩;obtain⟨v,D,C⟩:=B l ρ H w _ _ (j ρ H _ l (m x (by simp[kd]))) (S ρ H _ l (m i (by simp[kd])));exact qM s D C
 ·rename_i t x i
  obtain⟨F,h,j⟩:=qu h;obtain⟨i',h,S⟩:=qu h;obtain⟨A,h,B⟩:=BR h;refine⟨_,h,fun lo l Lw bs ρ H w eval s m=>?_⟩;obtain⟨v,D,C⟩:=B l ρ H w _ _ (j ρ H _ l (m x (by simp[kd]))) (S ρ H _ l (m i (by simp[kd])));exact qM s D C
 ·rename_i op t x y t'
  obtain⟨F,h,j⟩:=qu h;obtain⟨y',h,hy'⟩:=qu h;have key:∃ A,R A/\(Sn g->∀ ⦃Lw:Nat⦄ (ρ:List Value) (H:(PH Lw)) (w:World) (L M:Operand) (a b:Value),qD ρ H F a->qD ρ H y' b ->
    ∃ v,(do eqGuard op t L M a b; binOp op t a b:Sem Value).run P w=.ok v w/\qD ρ H A v):=by
   split at h
   ·obtain⟨A,h,B⟩:=Vg h; exact⟨A,h,fun _=>B⟩
   ·obtain⟨A,h,B⟩:=Vg h; exact⟨A,h,fun _=>B⟩
   ·obtain⟨A,h,B⟩:=Vg h; exact⟨A,h,fun _=>B⟩
   ·obtain⟨A,h,B⟩:=rm h; exact⟨A,h,fun _ Lw ρ H w L M a b I K=>B ρ H w L M a b (.inl ⟨rfl,by simpa only[qD,qp]using I⟩) K⟩
   ·obtain⟨A,h,B⟩:=rm h; exact⟨A,h,fun _ Lw ρ H w L M a b I K=>B ρ H w L M a b (.inr ⟨rfl,by simp only[qD,qp]at I; exact⟨_,_,_,I⟩⟩) K⟩
   ·obtain⟨A,h,B⟩:=rm h; exact⟨A,h,fun _ Lw ρ H w L M a b I K=>B ρ H w L M a b (.inr ⟨rfl,by simp only[qD,qp]at I; obtain⟨vs,e,_⟩:=I; exact⟨_,_,_,e⟩⟩) K⟩
   ·obtain⟨A,h,B⟩:=rm h; exact⟨A,h,fun _ Lw ρ H w L M a b I K=>B ρ H w L M a b (.inr ⟨rfl,by simp only[qD,qp]at I; obtain⟨vs,e,_⟩:=I; exact⟨_,_,_,e⟩⟩) K⟩
   exact HO h
  obtain⟨A,h,B⟩:=key;refine⟨_,h,fun lo l Lw bs ρ H w eval s m=>?_⟩;obtain⟨v,D,C⟩:=B l ρ H w x y _ _ (j ρ H _ l (m x (by simp[kd]))) (hy' ρ H _ l (m y (by simp[kd])));exact qM s D C
 ·rename_i t x
  obtain⟨F,h,j⟩:=qu h;split at h
  ·rename_i b
   refine⟨_,h,fun lo l Lw bs ρ H w eval s m=>?_⟩;have rx:=dR (j ρ H _ l (m x (by simp[kd])));exact qM s (v:=.bool !b) (by simp[rx,Op.unary]) gH
  exact h.elim
 ·rename_i t x
  obtain⟨F,h,j⟩:=qu h;split at h
  ·rename_i k n
   refine⟨_,h,fun lo l Lw bs ρ H w eval s m=>?_⟩;have rx:=zy (j ρ H _ l (m x (by simp[kd])));exact qM s (v:=.int k (k.wrap (0 - n))) (by simp[rx,Op.unary,Op.intArith]) ga
  exact h.elim
 ·rename_i x
  obtain⟨F,h,j⟩:=qu h;split at h
  ·rename_i k off
   refine⟨_,h,fun lo l Lw bs ρ H w eval s m=>?_⟩;have rx:=j ρ H _ l (m x (by simp[kd]));obtain⟨b,J,e⟩:=rx;simp only[execOp,e];exact xC s ⟨b,J,rfl⟩
  ·rename_i row
   refine⟨_,h,fun lo l Lw bs ρ H w eval s m=>?_⟩;have rx:=j ρ H _ l (m x (by simp[kd]));obtain⟨b,o,vs,e,q,c⟩:=rx;simp only[execOp,e];exact xC s ⟨b,o,vs,rfl,q,c⟩
  ·rename_i k z i off
   refine⟨_,h,fun lo l Lw bs ρ H w eval s m=>?_⟩;have rx:=j ρ H _ l (m x (by simp[kd]));obtain⟨b,n,cap,J,e⟩:=rx;simp only[execOp,e];exact xC s ⟨b,n,cap,J,rfl⟩
  exact h.elim
 ·rename_i t x lo hi mx
  obtain⟨F,h,j⟩:=qu h;obtain⟨A,h,B⟩:=BV h;refine⟨_,h,fun lo' l Lw bs ρ H w eval s m=>?_⟩;obtain⟨u,D,T⟩:=B ρ H w eval _ l (j ρ H _ l (m x (by simp[kd]))) (fun y U=>m y (by simp only[kd]; simp only[Array.mem_append]; exact .inl (.inl (.inr U)))) (fun y U=>m y (by simp only[kd]; simp only[Array.mem_append]; exact .inl (.inr U))) (fun y U=>m y (by simp only[kd]; simp only[Array.mem_append]; exact .inr U))
  exact qM s D T
 ·rename_i t n parts
  obtain⟨A,h,B⟩:=ZX h;refine⟨_,h,fun lo' l Lw bs ρ H w eval s m=>?_⟩;obtain⟨v,w',H',D,c,C⟩:=B l ρ H w eval s.sath (fun x j=>m x (by simpa[kd]using j))
  simp only[execOp,jY,ka,D,jZ,kc];exact QM s c C
 ·rename_i t parts
  have key:∃ A,R A/\(Sn g->∀ ⦃Lw:Nat⦄ (ρ:List Value) (H:(PH Lw)) (w:World) (eval:Operand->Value),(∀ x∈parts.map (·.2),qD ρ H (Sf (qz E) x) (eval x)) ->
   ∃ v,(Instr.build t (parts.map fun(i,x)=>(i,eval x)).toArray).run P w=.ok v w/\qD ρ H A v):=by
   rcases Ze h with h|h
   ·exact sz h
   exact BL h
  clear h;obtain⟨A,h,B⟩:=key;refine⟨_,h,fun lo' l Lw bs ρ H w eval s m=>?_⟩;obtain⟨v,D,C⟩:=B l ρ H w eval (fun x j=>m x (by simpa[kd]using j))
  simp only[execOp,jY];exact qM s D C
 ·rename_i x i
  obtain⟨F,h,j⟩:=qu h;split at h
  ·rename_i vs
   obtain⟨c,N,h⟩:=qV h;refine⟨_,h,fun lo l Lw bs ρ H w eval s m=>?_⟩;have rx:=j ρ H _ l (m x (by simp[kd]));simp only[qD,qp]at rx;obtain⟨us,e,q⟩:=rx;obtain⟨v,hv,C⟩:=q.get N;exact qM s (v:=v) (by simp[e,Instr.extract,hv]) C
  ·rename_i a b
   split at h
   ·refine⟨_,h,fun lo l Lw bs ρ H w eval s m=>?_⟩
    obtain⟨u,v,e,T,C⟩:=j ρ H _ l (m x (by simp[kd]));exact qM s (v:=u) (by simp[e,Instr.extract]) T
   ·refine⟨_,h,fun lo l Lw bs ρ H w eval s m=>?_⟩
    obtain⟨u,v,e,T,C⟩:=j ρ H _ l (m x (by simp[kd]));exact qM s (v:=v) (by simp[e,Instr.extract]) C
   exact h.elim
  ·rename_i ok a b
   have cut:∀ {Lw:Nat} {ρ:List Value} {H:(PH Lw)} {u:Value},ok=true->qD ρ H (.nxt ok a b) u->∃ y z,u=.tuple #[.bool true,y,z]/\qp H a y/\qp H b z:=by
    intro Lw ρ H u hok r;simp only[qD,hok,if_true]at r;exact r
   split at h
   ·refine⟨_,h,fun lo l Lw bs ρ H w eval s m=>?_⟩
    have r:=j ρ H _ l (m x (by simp[kd]));cases ok with
    | true=>
     obtain⟨u,v,e,_,_⟩:=cut rfl r;exact qM s (v:=.bool true) (by simp[e,Instr.extract]) gH
    | false=>
     simp only[qD,Bool.false_eq_true,if_false]at r;exact qM s (v:=.bool false) (by simp[r,Instr.extract]) gH
   ·refine⟨_,h.2,fun lo l Lw bs ρ H w eval s m=>?_⟩
    obtain⟨u,v,e,T,C⟩:=cut (vR h.1 l) (j ρ H _ l (m x (by simp[kd])));exact qM s (v:=u) (by simp[e,Instr.extract]) T
   ·refine⟨_,h.2,fun lo l Lw bs ρ H w eval s m=>?_⟩
    obtain⟨u,v,e,T,C⟩:=cut (vR h.1 l) (j ρ H _ l (m x (by simp[kd])));exact qM s (v:=v) (by simp[e,Instr.extract]) C
   exact h.elim
  exact h.elim
 ·rename_i t x
  obtain⟨F,h,j⟩:=qu h;split at h
  ·exact h.elim
  ·rename_i d hd hu
   split at h
   ·refine⟨_,h,fun lo l Lw bs ρ H w eval s m=>?_⟩
    have rx:=j ρ H _ l (m x (by simp[kd]));refine qM s (v:=.iface t (eval x)) ?_ (by simp only[qD]; exact⟨_,rfl,rx⟩);simp only[Instr.makeInterface,ka,kru hu,jZ];rfl
   obtain⟨p,h,hp⟩:=gu h;refine⟨_,h,fun lo l Lw bs ρ H w eval s m=>?_⟩;have rx:=hp ρ H _ (j ρ H _ l (m x (by simp[kd])));refine qM s (v:=.iface t (eval x)) ?_ (by simp only[qD,qp]; exact⟨_,rfl,rx⟩);simp only[Instr.makeInterface,ka,kru hu,jZ];rfl
  exact h.elim
 ·rename_i x t
  obtain⟨F,h,j⟩:=qu h;obtain⟨A,h,B⟩:=HV h;refine⟨_,h,fun lo l Lw bs ρ H w eval s m=>?_⟩;obtain⟨v,D,C⟩:=B ρ H w ty _ (j ρ H _ l (m x (by simp[kd,ke])));simp only[execOp,resolve,invoke,builtin,ka,kc,jZ,jY,jk,jN,D];exact xC s C
 ·rename_i f xs ts
  obtain⟨vs,h,hvs⟩:=fS h;obtain⟨ps,h,hps⟩:=fT h;obtain⟨r,N,h⟩:=h;refine⟨_,h,fun lo l Lw bs ρ H w eval s m=>?_⟩;have N:=vR N l;have rl:=hps ρ H _ (hvs ρ H eval l (fun y U=>m y (by simp[kd,ke,U])))
  have:=N H w _ s.sath rl;have hf:(eval (.func f))=.func (.func f) #[] #[]:=by
   have:=m (.func f) (by simp[kd,ke]);simpa[Sf,qD,qp]using this
  simp only[execOp,resolve,Deferred.ofValue,invoke,hf,ka,kc,jZ,jY,Array.empty_append,Array.append_empty];exact dZ s this
 obtain⟨A,h,B⟩:=Cv (dst:=dst) (ty:=ty) (pos:=pos) (after:=after) (guard:=guard) h;exact⟨A,h,B⟩
theorem Cd {H:(PH Lw)} {w:World} (s:SatH H w) {b o:Nat} {v:Value} (h:H b o=some v):w.cell? ⟨b,o,none⟩=some v:=(s.cell b o v h).1
theorem vS {w:World} {t:TypeId} {d:TypeDesc} {i:TypeInfo} (e:P.underlying t=some d) (f:P.info? t=some i) {b o:Nat} {vs:List Value}
  (g:∀ j v,vs[j]? =some v->w.cell? ⟨b,o+j,none⟩=some v) (h:i.size<=vs.length) (a:LQ d=true) :
  (Instr.loadAt t (.pointer (some ⟨b,o,none⟩))).run P w=.ok (.agg (vs.take i.size).toArray) w:=by
 have c:(loadCells ⟨b,o,none⟩ (vs.take i.size).length).run P w=.ok (vs.take i.size).toArray w:=
  run_loadCells_list (P:=P) w ⟨b,o,none⟩ (vs.take i.size) (fun j v hv=>by
   rw[Addr.add_lit];rw[jE]at hv;split at hv
   ·exact g j v hv
   cases hv)
 rw[js,Nat.min_eq_left h]at c;simp[Instr.loadAt,Instr.sureAddr,loadVar,dh e,a,Go.sizeOf,typeInfo,f,c]
theorem xM {w:World} {t:TypeId} {d:TypeDesc} (c:P.underlying t=some d) {b o:Nat} {v:Value}
  (e:w.cell? ⟨b,o,none⟩=some v) (a:LQ d=false):(Instr.loadAt t (.pointer (some ⟨b,o,none⟩))).run P w=.ok v w:=by
 simp[Instr.loadAt,Instr.sureAddr,loadVar,dh c,a,e]
theorem QW {t:TypeId} {lo:List AObj} {F:FV} {R:FV->Prop} (h:rq P t lo F R) :
  ∃ G,R G/\∀ ⦃Lw:Nat⦄ (bs:(Base Lw)) (ρ:List Value) (H:(PH Lw)) (w:World) (v:Value),SatW bs ρ H lo w->qD ρ H F v->∃ a u,v=.pointer (some a)/\(Instr.loadAt t v).run P w=.ok u w/\qD ρ H G u:=by
 unfold rq at h;split at h
 ·rename_i k off
  obtain⟨K,m,h⟩:=qV h;split at h
  ·rename_i bt cells
   obtain⟨h,I⟩:=vE h;obtain⟨d,i,n,y,h⟩:=xc h;split at h
   ·rename_i e
    obtain⟨h,x⟩:=uS h;split at h
    ·refine⟨_,h,fun Lw bs ρ H w v s l=>?_⟩
     obtain⟨b,o,rfl⟩:=l;obtain⟨A,vs,p,g,f,_⟩:=s.objs k _ _ m o;cases p;refine⟨_,_,rfl,vS n y (fb g off) (by rw[jM]at x ⊢; rw[f.length]; exact x) e,?_⟩;exact⟨_,rfl,Xh ((f.drop off).take _)⟩
    obtain⟨L,h,B⟩:=fT h;refine⟨_,h,fun Lw bs ρ H w v s l=>?_⟩;obtain⟨b,o,rfl⟩:=l;obtain⟨A,vs,p,g,f,_⟩:=s.objs k _ _ m o;cases p;refine⟨_,_,rfl,vS n y (fb g off) (by rw[jM]at x ⊢; rw[f.length]; exact x) e,?_⟩;simp only[qD,qp];exact⟨_,rfl,B _ _ _ ((f.drop off).take _)⟩
   rename_i e;split at h
   ·rename_i c r J
    refine⟨_,h,fun Lw bs ρ H w v s l=>?_⟩;obtain⟨b,o,rfl⟩:=l;obtain⟨A,vs,p,g,f,_⟩:=s.objs k _ _ m o;cases p;have z:=f.drop off;rw[J]at z;obtain⟨v,C,e2,D,_⟩:=z;have:=fb g off 0 v (by rw[e2]; simp);exact⟨_,_,rfl,xM n (by simpa using this) e,D⟩
   exact h.elim
  ·rename_i bt c
   split at h
   ·rename_i E
    obtain⟨d,i,n,y,h⟩:=xc h;split at h
    ·exact h.elim
    rename_i e;refine⟨_,h,fun Lw bs ρ H w v s l=>?_⟩;obtain⟨b,o,rfl⟩:=l;obtain⟨A,u,us,p,g,f,_⟩:=s.objs k _ _ m o;cases p;have E:=jn E;have:=fb g 0 0 u (by simp);rw[E];exact⟨_,_,rfl,xM n (by simpa using this) e,f⟩
   exact h.elim
  exact h.elim
 ·rename_i row
  obtain⟨d,i,n,y,h⟩:=xc h;split at h
  ·rename_i e
   obtain⟨h,x⟩:=uS h;refine⟨_,h,fun Lw bs ρ H w v s l=>?_⟩;obtain⟨b,o',vs,rfl,q,c⟩:=l;refine⟨_,_,rfl,vS n y (fun j v hv=>Cd s.sath (c j v hv)) (by rw[q.length]; exact x) e,?_⟩
   simp only[qD,qp];exact⟨_,rfl,q.take _⟩
  rename_i e;split at h
  ·rename_i M r J
   refine⟨_,h,fun Lw bs ρ H w v s l=>?_⟩;obtain⟨b,o',vs,rfl,q,c⟩:=l;simp only[qJ]at q;obtain⟨u,C,e2,D,_⟩:=q;have:=Cd s.sath (c 0 u (by rw[e2]; simp));exact⟨_,_,rfl,xM n (by simpa using this) e,D⟩
  exact h.elim
 exact h.elim
theorem BS {o:Oper} {t:TypeId} {x:Operand} (d:o.op=.load t x) {E:Env} {g:G} {lo:List AObj} {R:FV->Prop} (h:Si E g x fun x=>rq P t lo x R) :
  ∃ b,R b/\vD P o (qz E) lo g b lo:=by
 obtain⟨l,h,c⟩:=qu h;obtain⟨b,h,e⟩:=QW h;refine⟨_,h,fun f Lw bs ρ H w eval s i=>?_⟩;obtain⟨a,u,_,j,k⟩:=e bs ρ H w _ s (c ρ H _ f (i x (by simp[d,kd])));simp only[execOp,d];exact qM s j k
theorem BN {o:Oper} {c d:TypeId} {x:Operand} (e:o.op=.convert c d x) {E:Env} {g:G} {lo:List AObj} {R:FV->Prop} (h:Si E g x fun x=>Vb P g c d lo x R) :
  ∃ a,R a/\vD P o (qz E) lo g a lo:=by
 obtain⟨m,h,b⟩:=qu h;obtain⟨a,h,i⟩:=tD h;refine⟨_,h,fun f Lw bs ρ H w eval s j=>?_⟩;obtain⟨u,k,l⟩:=i f bs ρ H w _ s (b ρ H _ f (j x (by simp[e,kd])));simp only[execOp,e];exact qM s k l
end
end Ax
end
section
namespace Ax
open Go
variable {Lw:Nat}
theorem xG.length {H:(PH Lw)} {z:Nat}:∀ {rows:List (List PV)} {vs:List Value},xG H z rows vs->vs.length=rows.length * z
 | [],_,x=>by simp only[xG]at x; simp[x]
 | r::rs,vs,x=>by
  simp only[xG]at x;obtain⟨hz,a,b,rfl,q,y⟩:=x;rw[jb,q.length,hz,y.length,ja,Nat.add_mul,Nat.one_mul,Nat.add_comm]
theorem xG.append {H:(PH Lw)} {z:Nat}:∀ {rows c:List (List PV)} {vs us:List Value},xG H z rows vs->xG H z c us->xG H z (rows++c) (vs++us)
 | [],_,vs,us,x,y=>by simp only[xG]at x; simpa[x]using y
 | r::rs,_,vs,us,x,y=>by
  obtain⟨hz,a,b,e,q,d⟩:=x;exact⟨hz,a,b++us,by rw[e,jr],q,d.append y⟩
theorem fa.flat {H:(PH Lw)} {b z:Nat}:∀ {o:Nat} {rows:List (List PV)},fa H b z o rows->∃ vs,xG H z rows vs/\∀ j v,vs[j]? =some v->H b (o+j)=some v
 | o,[],_=>⟨[],rfl,fun j v h=>by simp at h⟩
 | o,r::rs,x=>by
  simp only[fa]at x;obtain⟨hz,⟨vs,q,c⟩,d⟩:=x;obtain⟨us,y,f⟩:=d.flat;refine⟨vs++us,⟨hz,vs,us,rfl,q,y⟩,fun j v hv=>?_⟩;have g:vs.length=z:=by rw[q.length,hz]
  rcases Nat.lt_or_ge j vs.length with a|a
  ·rw[jB a]at hv; exact c j v hv
  rw[jC a]at hv;have:=f _ _ hv;have e:o+z+(j - vs.length)=o+j:=by omega
  rwa [e]at this
theorem xG.unflat {H:(PH Lw)} {b z:Nat}:∀ {o:Nat} {rows:List (List PV)} {vs:List Value},xG H z rows vs->(∀ j v,vs[j]? =some v->H b (o+j)=some v)->fa H b z o rows
 | _,[],_,_,_=>by simp[fa]
 | o,r::rs,vs,x,c=>by
  obtain⟨hz,a,e,rfl,q,y⟩:=x;have d:a.length=z:=by rw[q.length,hz]
  simp only[fa];refine⟨hz,⟨a,q,fun j v hv=>c j v ?_⟩,y.unflat fun j v hv=>?_⟩
  ·have:=(jG.1 hv).1
   rw[jB this]; exact hv
  have:=c (z+j) v (by rw[jC (by omega)]; rw[d,Nat.add_sub_cancel_left]; exact hv)
  rwa [← Nat.add_assoc]at this
theorem sE {H:(PH Lw)} {rows:List (List PV)} {v:Value} {z:Nat} (h:qp H (.sl rows) v) (hz:∀ r∈rows,r.length=z) :
  (rows=[]/\(v=.slice none 0 0\/∃ a cap,v=.slice (some a) 0 cap))\/∃ b o cap vs,v=.slice (some ⟨b,o,none⟩) rows.length cap/\rows.length<=cap/\xG H z rows vs/\∀ j u,vs[j]? =some u->H b (o+j)=some u:=by
 simp only[qp]at h;rcases h with h|⟨b,o,f,cap,e,d,r⟩
 ·exact .inl h
 refine .inr ⟨b,o,cap,?_⟩;cases rows with
 | nil=>exact⟨[],e,d,rfl,fun j u h=>by simp at h⟩
 | cons r0 rs=>
  have:f=z:=by
   simp only[fa]at r;rw[← r.1]; exact hz r0 (by simp)
  subst this;obtain⟨vs,y,c⟩:=r.flat;exact⟨vs,e,d,y,c⟩
theorem SatW.kill {bs:(Base Lw)} {ρ:List Value} {H:(PH Lw)} {lo:List AObj} {w:World} (s:SatW bs ρ H lo w) (k:Nat):SatW bs ρ H (lo.set k .dead) w where
 sath:=s.sath
 hlen:=by simpa using s.hlen
 pre:=s.pre
 objs:=fun i o v a hv=>by
  rw[jF]at a;split at a
  ·split at a
   ·cases a; trivial
   cases a
  ·exact s.objs i o v a hv
 excl:=fun i j o o' v v' b a c hv f g d e h=>by
  rw[jF]at a c;split at a
  ·split at a
   ·cases a; simp[AObj.live]at d
   cases a
  ·split at c
   ·split at c
    ·cases c; simp[AObj.live]at e
    cases c
   ·exact s.excl i j o o' v v' b a c hv f g d e h
 own:=fun i o v b a hv d h=>by
  rw[jF]at a;split at a
  ·split at a
   ·cases a; simp[AObj.live]at d
   cases a
  ·exact s.own i o v b a hv d h
 keep:=s.keep
 leH:=s.leH
 newH:=s.newH
theorem SatW.push {bs:(Base Lw)} {ρ:List Value} {H H':(PH Lw)} {lo:List AObj} {w w':World} (s:SatW bs ρ H lo w) {v:Value} {o:AObj} {g:Nat}
  (hv:qC v=some g\/qC v=none)
  (hfree:∀ (k:Nat) (o':AObj) (v':Value),lo[k]? =some o'->ρ[k]? =some v'->o'.live=true->qC v'≠some g)
  (n:bs.S g\/bs.w0.heap.size<=g) (A:PH.le H H') (B:SatH H' w')
  (r:∀ b o v,H' b o=some v->(∃ v,H b o=some v)\/b=g) (hkeep:Keep (fun b=>b=g) w w')
  (J:pQ (ρ++[v]) H' w' v o):SatW bs (ρ++[v]) H' (lo++[o]) w' where
 sath:=B
 hlen:=by simp[s.hlen]
 pre:=s.pre.trans (List.prefix_append _ _)
 objs:=fun i p u a hu=>by
  rw[List.getElem?_append]at a hu;rw[s.hlen]at hu;split at a
  ·rename_i d
   simp only[d,if_true]at hu;cases C:p.live with
   | false=>cases p<;>simp[AObj.live]at C; trivial
   | true=>
    refine(s.objs i p u a hu).keep (List.prefix_append _ _) A (fun b c D=>hkeep.block b D (fun e=>hfree i p u a hu C (by rw[c,e]))) (fun b o' c _ O=>?_)
    cases L:H' b o' with
    | none=>rfl
    | some x=>
     rcases r b o' x L with ⟨y,I⟩|e
     ·rw[O]at I; cases I
     exact absurd (by rw[c,e]) (hfree i p u a hu C)
  rename_i d;simp only[d,if_false]at hu;have q:=(jG.1 a).1;simp at q;have E:i - lo.length=0:=by omega
  rw[E]at a hu;simp at a hu;subst a; subst hu;exact J
 excl:=fun i j oi oj M N b a z f l K F G c=>by
  rw[List.getElem?_append]at a z f l;rw[s.hlen]at f l;have last:∀ {x:Nat} {p:AObj} {u:Value},¬ x<lo.length->[o][x - lo.length]? =some p->[v][x - lo.length]? =some u->x=lo.length/\u=v:=by
   intro x p u L q t;have:=(jG.1 q).1;simp at this;have E:x - lo.length=0:=by omega
   rw[E]at t;simp at t;exact⟨by omega,t.symm⟩
  by_cases q:i<lo.length<;>by_cases t:j<lo.length<;>simp only[q,t,if_true,if_false]at a z f l
  ·exact s.excl i j oi oj M N b a z f l K F G c
  ·obtain⟨_,rfl⟩:=last t z l
   intro m;rcases hv with hv|hv
   ·rw[hv]at m; cases m; exact hfree i oi M a f F c
   rw[hv]at m; cases m
  ·obtain⟨_,rfl⟩:=last q a f
   intro m;rcases hv with hv|hv
   ·rw[hv]at c; cases c; exact hfree j oj N z l G m
   rw[hv]at c; cases c
  obtain⟨P,_⟩:=last q a f;obtain⟨e2,_⟩:=last t z l;omega
 own:=fun i p u b a hu C c=>by
  rw[List.getElem?_append]at a hu;rw[s.hlen]at hu;split at a
  ·rename_i d
   simp only[d,if_true]at hu;exact s.own i p u b a hu C c
  rename_i d;simp only[d,if_false]at hu;have q:=(jG.1 a).1;simp at q;have E:i - lo.length=0:=by omega
  rw[E]at hu;simp at hu;subst hu;rcases hv with hv|hv
  ·rw[hv]at c; cases c; exact n
  rw[hv]at c; cases c
 keep:=s.keep.step hkeep (fun i a=>by
  subst a;rcases n with h|h
  ·exact .inl h
  exact .inr h)
 leH:=s.leH.trans A
 newH:=fun b o v c=>by
  rcases r b o v c with ⟨y,I⟩|e
  ·exact s.newH b o y I
  subst e; exact .inr n
theorem SatW.fresh {bs:(Base Lw)} {ρ:List Value} {H:(PH Lw)} {lo:List AObj} {w:World} (s:SatW bs ρ H lo w) {g:Nat} (q:w.heap.size<=g) :
  ∀ (k:Nat) (o':AObj) (v':Value),lo[k]? =some o'->ρ[k]? =some v'->o'.live=true->qC v'≠some g:=fun k o v m hv p f=>by
 have:=s.objs k o v m hv;cases o with
 | dead=>simp[AObj.live]at p
 | box t cells=>
  obtain⟨b,vs,rfl,a,_⟩:=this;simp[qC]at f;have:=xj a;omega
 | tail e z n=>
  obtain⟨xs,h,_⟩:=this;rcases h.2 with ⟨rfl,_⟩|⟨i,cap,cur,rfl,_,a,_⟩
  ·simp[qC]at f
  simp[qC]at f;have:=xj a;omega
 | vec e z n=>
  obtain⟨xs,h,_⟩:=this;rcases h.2 with ⟨rfl,_⟩|⟨i,cap,cur,rfl,_,a,_⟩
  ·simp[qC]at f
  simp[qC]at f;have:=xj a;omega
 | mp d es mk=>
  obtain⟨b,ents,clock,rfl,a,_⟩:=this;simp[qC]at f;have:=xj a;omega
 | sit l pos=>
  obtain⟨b,rfl,a,_⟩:=this;simp[qC]at f;have:=xj a;omega
 | bv l=>
  obtain⟨b,cs,e,cap,lo,r,rfl,a,_⟩:=this;simp[qC]at f;have:=xj a;omega
 | pbx t c=>
  obtain⟨b,u,us,rfl,a,_⟩:=this;simp[qC]at f;have:=xj a;omega
 | vl e z rows j k=>
  obtain⟨xs,h,_⟩:=this;rcases h.2 with ⟨rfl,_⟩|⟨i,cap,cur,rfl,_,a,_⟩
  ·simp[qC]at f
  simp[qC]at f;have:=xj a;omega
theorem vX (w:World) (o:Obj) (g:Nat):Keep (fun b=>b=g) w (w.alloc o):=
 ⟨rfl,rfl,rfl,by simp,fun k a _=>heap_alloc_old w o a⟩
theorem zG (w:World) (o:Obj) (g:Nat):Keep (fun b=>b=g) w (w.drew.alloc o):=
 ⟨rfl,rfl,rfl,by simp,fun k a _=>heap_alloc_old w.drew o a⟩
theorem vZ {H:(PH Lw)} {w:World} (s:SatH H w) (o:Obj):SatH H (w.alloc o):=⟨fun b p v hv=>by
 refine⟨?_,(s.cell b p v hv).2⟩;rw[World.cell?_alloc_lt (h:=s.lt hv)];exact(s.cell b p v hv).1,s.root,by have:=s.low; simp; omega,fun b p v hv a=>(s.nf b p v hv a).block (heap_alloc_old w o (s.lt hv))⟩
theorem SatW.pushBox {bs:(Base Lw)} {ρ:List Value} {H:(PH Lw)} {lo:List AObj} {w:World} (s:SatW bs ρ H lo w) {t:TypeId} {cells:List FV} {vs:List Value} (a:zk ρ H cells vs) :
  SatW bs (ρ++[.pointer (some ⟨w.heap.size,0,none⟩)]) H (lo++[.box t cells]) (w.alloc (.cells vs.toArray t)):=by
 refine s.push (g:=w.heap.size) (.inl rfl) (s.fresh (jv _)) (.inr s.keep.size) (PH.le.refl H) (vZ s.sath _) (fun b o v h=>.inl ⟨v,h⟩) (vX w _ _) ?_;refine⟨w.heap.size,vs,rfl,heap_alloc_new w _,a.mono (List.prefix_append _ _) (PH.le.refl H),fun o=>?_⟩;cases c:H w.heap.size o with
 | none=>rfl
 | some x=>exact absurd (s.sath.lt c) (jQ _)
theorem XQ {ρ:List Value} {H:(PH Lw)}:∀ {a:List FV} {vs:List Value},tW a=true->zk ρ H a vs->∀ u∈vs,u.oneCell'=true
 | [],vs,_,r,u,hu=>by simp only[zk]at r; simp[r]at hu
 | f::a,vs,h,r,u,hu=>by
  simp only[tW]at h;split at h
  ·rename_i b
   obtain⟨v,c,rfl,d,rs⟩:=r;rcases jg.1 hu with rfl|hu
   ·exact(fe b d).2
   exact XQ h rs u hu
  cases h
theorem bO:∀ {c:FV} {R:List FV->Prop},bN c R->∃ cs,R cs/\∀ ⦃Lw:Nat⦄ (ρ:List Value) (H:(PH Lw)) (vs:List Value),qD ρ H c (.tuple vs.toArray)->zk ρ H cs vs
 | .cap0,R,h=>⟨[],h,fun Lw ρ H vs r=>by
   simp only[qD,Value.tuple.injEq]at r;simpa[zk]using r⟩
 | .cap a b,R,h=>by
  simp only[bN]at h;obtain⟨i,h,d⟩:=bO h;refine⟨_,h,fun Lw ρ H vs r=>?_⟩;obtain⟨u,us,e,f,g⟩:=r;have e:vs=u::us:=by simpa using e
  subst e;exact⟨u,us,rfl,f,d _ _ _ g⟩
 | .top,_,h|.p _,_,h|.opt _ _,_,h|.tsl _ _,_,h|.ptr _ _,_,h|.hptr _,_,h|.bself _,_,h|.bsl _ _ _ _,_,h|.vsl _ _,_,h|.eptr _ _ _ _,_,h|.mref _,_,h|.pair _ _,_,h|.stmp _,_,h|.clo _ _,_,h|.fagg _,_,h|.nxt _ _ _,_,h|.asl _ _ _,_,h|.ifs _ _,_,h|.cut _,_,h=>by
  simp[bN]at h
theorem rh {f:FV} {R:List FV->Prop} (h:su f R):∃ cs,R cs/\∀ ⦃Lw:Nat⦄ (ρ:List Value) (H:(PH Lw)) (x:Value),qD ρ H f x->zk ρ H cs x.cells.toList:=by
 unfold su at h;split at h
 ·rename_i cs
  refine⟨_,nT h,fun Lw ρ H x r=>?_⟩;simp only[qD,qp]at r;obtain⟨vs,rfl,q⟩:=r;simpa[Value.cells]using zk.of_RepL q
 ·rename_i c
  obtain⟨cs,h,a⟩:=bO h;refine⟨_,h,fun Lw ρ H x r=>?_⟩;obtain⟨vs,rfl,rc⟩:=r;simpa[Value.cells]using a ρ H vs rc
 split at h
 ·rename_i b
  refine⟨_,h,fun Lw ρ H x r=>?_⟩;rw[(fe b r).1];exact⟨x,[],rfl,r,rfl⟩
 exact h.elim
theorem sQ {P:Program} {t:TypeId} {R:List PV->Prop} (h:Fx P t R):∃ i z a,P.info? t=some i/\i.zero=some z/\R a/\∀ ⦃Lw:Nat⦄ (H:PH Lw),qJ H a z.cells.toList:=by
 unfold Fx at h;split at h
 ·rename_i i e
  split at h
  ·rename_i vs hz
   obtain⟨a,b,c⟩:=nU h;exact⟨i,_,a,e,hz,b,fun Lw H=>by simpa[Value.cells]using c H⟩
  ·rename_i v d hz
   obtain⟨a,b,c⟩:=nU h;refine⟨i,v,a,e,hz,b,fun Lw H=>?_⟩;have:v.cells = #[v]:=by
    cases v<;>first|rfl|skip
    rename_i cs;exact absurd rfl (d cs.toList)
   rw[this];simpa using c H
  exact h.elim
 exact h.elim
theorem SatW.setBox {bs:(Base Lw)} {ρ:List Value} {H:(PH Lw)} {lo:List AObj} {w:World} (s:SatW bs ρ H lo w) {k b:Nat} {t:TypeId} {old cells:List FV} {p vs:List Value}
  (m:lo[k]? =some (.box t old)) (hv:ρ[k]? =some (.pointer (some ⟨b,0,none⟩))) (D:w.heap[b]? =some (.cells p.toArray t (0,0))) (B:∀ o,H b o=none)
  (E:zk ρ H cells vs):SatW bs ρ H (lo.set k (.box t cells)) (w.setRow b vs.toArray) where
 sath:=s.sath.block (by simp[World.setRow]) fun d o v f=>setRow_other w b d _ (fun e=>by subst e; rw[B o]at f; cases f)
 hlen:=by simpa using s.hlen
 pre:=s.pre
 objs:=fun i o v a c=>by
  rw[jF]at a;split at a
  ·rename_i e
   subst e;split at a
   ·cases a
    rw[hv]at c;cases c;exact⟨b,vs,rfl,setRow_heap w b _ _ t _ D,E,B⟩
   cases a
  ·rename_i g
   cases l:o.live with
   | false=>cases o<;>simp[AObj.live]at l; trivial
   | true=>
    have q:=s.excl k i _ o _ v b m a hv c g rfl l rfl;exact(s.objs i o v a c).keep (jp _) (PH.le.refl H) (fun d r _=>setRow_other w b d _ (fun e=>q (by rw[r,e]))) (fun d o' _ _ F=>F)
 excl:=fun i j oi oj G I d a C u y g z A f=>by
  rw[jF]at a C;have live:∀ {x:Nat} {n:AObj},(if k=x then if k<lo.length then some (AObj.box t cells)else none else lo[x]?)=some n->n.live=true->∃ o',lo[x]? =some o'/\o'.live=true:=by
   intro x n h l;split at h
   ·rename_i e; subst e; exact⟨_,m,rfl⟩
   exact⟨n,h,l⟩
  obtain⟨J,K,l1⟩:=live a z;obtain⟨L,M,l2⟩:=live C A;exact s.excl i j J L G I d K M u y g l1 l2 f
 own:=fun i o v d a c l f=>by
  rw[jF]at a;split at a
  ·rename_i e; subst e; exact s.own k _ v d m c rfl f
  exact s.own i o v d a c l f
 keep:=s.keep.step (S':=fun x=>x=b) ⟨rfl,rfl,rfl,by simp,fun x _ N=>setRow_other w b x _ N⟩ (fun i a=>by
  subst a;exact s.own k _ _ i m hv rfl rfl)
 leH:=s.leH
 newH:=s.newH
end Ax
end
section
namespace Ax
open Go
variable {Lw:Nat}
theorem SatW.upd {bs:(Base Lw)} {ρ:List Value} {H:(PH Lw)} {lo:List AObj} {w w':World} (s:SatW bs ρ H lo w) {k b:Nat} {o o':AObj} {v:Value}
  (n:lo[k]? =some o) (hv:ρ[k]? =some v) (p:o.live=true) (E:qC v=some b) (G:∀ i,H b i=none) (hkeep:Keep (fun x=>x=b) w w') (t:pQ ρ H w' v o'):SatW bs ρ H (lo.set k o') w' where
 sath:=s.sath.block hkeep.size fun f i u hu=>hkeep.block f (s.sath.lt hu) (fun e=>by subst e; rw[G i]at hu; cases hu)
 hlen:=by simpa using s.hlen
 pre:=s.pre
 objs:=fun i oi l c a=>by
  rw[jF]at c;split at c
  ·rename_i e
   subst e;split at c
   ·cases c
    rw[hv]at a;cases a;exact t
   cases c
  ·rename_i m
   cases d:oi.live with
   | false=>cases oi<;>simp[AObj.live]at d; trivial
   | true=>
    have y:=s.excl k i _ oi _ l b n c hv a m p d E;exact(s.objs i oi l c a).keep (jp _) (PH.le.refl H) (fun f z A=>hkeep.block f A (fun e=>y (by rw[z,e]))) (fun f N _ _ I=>I)
 excl:=fun i j oi oj l J f c F a B m d C g=>by
  rw[jF]at c F;have live:∀ {x:Nat} {q:AObj},(if k=x then if k<lo.length then some o' else none else lo[x]?)=some q->q.live=true->∃ r,lo[x]? =some r/\r.live=true:=by
   intro x q h D;split at h
   ·rename_i e; subst e; exact⟨_,n,p⟩
   exact⟨q,h,D⟩
  obtain⟨K,L,l1⟩:=live c d;obtain⟨r,M,l2⟩:=live F C;exact s.excl i j K r l J f L M a B m l1 l2 g
 own:=fun i oi l f c a d g=>by
  rw[jF]at c;split at c
  ·rename_i e; subst e; exact s.own k _ l f n a p g
  exact s.own i oi l f c a d g
 keep:=s.keep.step hkeep (fun i c=>by
  subst c;exact s.own k _ _ i n hv p E)
 leH:=s.leH
 newH:=s.newH
def AObj.boxy:AObj->Bool
 | .box _ _=>true
 | .mp _ _ _=>true
 | .pbx _ _=>true
 | _=>false
def ze (b:Bool) (lo lo':List AObj):Prop:=lo.length<=lo'.length/\(b=true->∀ k a,k<lo.length->a.boxy=true->(lo[k]? =some a↔lo'[k]? =some a))
theorem ze.refl {b:Bool} (lo:List AObj):ze b lo lo:=⟨jv _,fun _ _ _ _ _=>Iff.rfl⟩
theorem ze.push {b:Bool} {lo:List AObj} (o:AObj):ze b lo (lo++[o]):=⟨by simp,fun _ k c a _=>by rw[jB a]⟩
theorem ze.set {lo:List AObj} (k:Nat) (o:AObj):ze false lo (lo.set k o):=⟨by simp,fun h=>by cases h⟩
theorem ze.len {lo lo':List AObj} (h:lo'.length=lo.length):ze false lo lo':=⟨by omega,fun h=>by cases h⟩
theorem ze.kill {b:Bool} {lo:List AObj} {c:Nat} {d:AObj} (o:AObj) (h:lo[c]? =some d) (g:d.boxy=false):ze b lo (lo.set c .dead++[o]):=⟨by simp,fun _ k i f a=>by
 rw[jB (by simpa using f),jF];split
 ·rename_i e
  subst e;rw[if_pos f,h]
  constructor
  ·intro e; cases e; rw[g]at a; cases a
  intro e; cases e; cases a
 exact Iff.rfl⟩
theorem ze.trans {b:Bool} {l1 l2 a:List AObj} (h:ze b l1 l2) (k:ze b l2 a):ze b l1 a:=
 ⟨Nat.le_trans h.1 k.1,fun c i d e f=>(h.2 c i d e f).trans (k.2 c i d (Nat.lt_of_lt_of_le e h.1) f)⟩
section
variable {P:Program} {w:World}
theorem Ey {c d:TypeDesc} {kp:PV} {R:Prop} (h:BY c d kp R):R/\c=d/\∀ ⦃Lw:Nat⦄ (H:(PH Lw)) (v:Value),qp H kp v->MapKept.IsKey d v:=by
 unfold BY at h;split at h
 ·exact⟨h,rfl,fun Lw H v r=>by simp only[qp]at r; subst r; trivial⟩
 ·exact⟨h,rfl,fun Lw H v r=>by simp only[qp]at r; subst r; trivial⟩
 ·split at h
  ·rename_i a
   split at h
   ·rename_i b
    have a:=cC a;have b:=cC b;subst a; subst b;exact⟨h,rfl,fun Lw H v r=>by simp only[qp]at r; subst r; rfl⟩
   exact h.elim
  exact h.elim
 exact h.elim
theorem CB {t:TypeId} {d:TypeDesc} {kp:PV} {R:TypeId->Prop} (h:MT P t d kp R):∃ a b,R b/\P.underlying t=some (.map a b)/\P.underlying a=some d/\∀ ⦃Lw:Nat⦄ (H:(PH Lw)) (v:Value),qp H kp v->MapKept.IsKey d v:=by
 unfold MT at h;split at h
 ·rename_i a b c
  split at h
  ·rename_i i e
   obtain⟨f,rfl,g⟩:=Ey h;exact⟨a,b,f,c,e,g⟩
  exact h.elim
 exact h.elim
theorem Ho {a b:List UInt8}:(Value.string ⟨a.toArray⟩=Value.string ⟨b.toArray⟩)↔a=b:=by
 constructor
 ·intro h
  injection h with h
  injection h with h
  simpa using h
 rintro rfl; rfl
theorem HS {H:(PH Lw)} {d:TypeDesc} {p q:PV} {x y:Value} (hp:qp H p x) (a:qp H q y) (c:MapKept.IsKey d x) (e:MapKept.IsKey d y):Me p q=true↔y=x:=by
 have b1:∀ {p:PV} {b:Bool},qp H p (.bool b)->p=.bool b:=by
  intro p b h;cases p<;>simp only[qp]at h<;>(try (obtain⟨_,_,_,h,_,_⟩:=h; cases h; done))<;>(try (obtain⟨_,h,_⟩:=h; cases h))<;>(try (rcases h with ⟨_,h|⟨_,_,h⟩⟩|⟨_,_,_,_,h,_⟩<;>cases h))<;>(try (rcases h with ⟨_,h⟩|⟨_,_,h,_⟩<;>cases h; done))<;>try cases h
  rfl
 have b2:∀ {p:PV} {k:IntKind} {n:Int},qp H p (.int k n)->p=.int k n:=by
  intro p k n h;cases p<;>simp only[qp]at h<;>(try (obtain⟨_,_,_,h,_,_⟩:=h; cases h; done))<;>(try (obtain⟨_,h,_⟩:=h; cases h))<;>(try (rcases h with ⟨_,h|⟨_,_,h⟩⟩|⟨_,_,_,_,h,_⟩<;>cases h))<;>(try (rcases h with ⟨_,h⟩|⟨_,_,h,_⟩<;>cases h; done))<;>try cases h
  rfl
 have b3:∀ {p:PV} {b:ByteArray},qp H p (.string b)->∃ l:List UInt8,p=.str l/\b=⟨l.toArray⟩:=by
  intro p b h;cases p<;>simp only[qp]at h<;>(try (obtain⟨_,_,_,h,_,_⟩:=h; cases h; done))<;>(try (obtain⟨_,h,_⟩:=h; cases h))<;>(try (rcases h with ⟨_,h|⟨_,_,h⟩⟩|⟨_,_,_,_,h,_⟩<;>cases h))<;>(try (rcases h with ⟨_,h⟩|⟨_,_,h,_⟩<;>cases h; done))<;>try cases h
  exact⟨_,rfl,rfl⟩
 cases d<;>cases x<;>cases y<;>simp only[MapKept.IsKey]at c e
 ·rw[b1 hp,b1 a]
  simp only[Me,beq_iff_eq];exact⟨fun h=>by rw[h],fun h=>by injection h with h; exact h.symm⟩
 ·subst c; subst e
  rw[b2 hp,b2 a];simp only[Me,beq_iff_eq];exact⟨fun h=>by rw[h],fun h=>by injection h with _ h; exact h.symm⟩
 obtain⟨l,rfl,rfl⟩:=b3 hp;obtain⟨m,rfl,rfl⟩:=b3 a;simp only[Me,beq_iff_eq,Ho];exact eq_comm
theorem XZ {H:(PH Lw)} {d:TypeDesc} {kp:PV} {k:Value} (m:qp H kp k) (t:MapKept.IsKey d k):∀ (es:List (PV×PV)) (l:List MapEntry) (i:Nat),GN H es l->(∀ x∈l,MapKept.IsKey d x.key) ->
  (Cz kp es=none/\Instr.findNow d k l i=some none/\(∀ x∈l,x.key≠k)/\∀ c,MS kp c es=es++[(kp,c)]) \/
  ∃ j e p,Cz kp es=some p/\Instr.findNow d k l i=some (some (i+j,e.val))/\l[j]? =some e/\e.key=k/\qp H p e.val/\∀ c,MS kp c es=es.set j (kp,c)
 | [],l,i,r,_=>by
  simp only[GN]at r;subst r;exact .inl ⟨rfl,rfl,by simp,fun _=>rfl⟩
 | (p,q)::es,l,i,r,h=>by
  obtain⟨e,B,rfl,C,D,E⟩:=r;have he:=h e (.head _);obtain⟨b,u,f⟩:=MapKept.sameNow_of_keys t he;have n:=HS m C t he;cases b with
  | true=>
   have o:=f.1 rfl;have a:Me kp p=true:=n.2 o.symm;exact .inr ⟨0,e,q,by simp[Cz,a],by simp[Instr.findNow,u],rfl,o.symm,D,fun c=>by simp[MS,a]⟩
  | false=>
   have s:e.key≠k:=fun q=>by have:=f.2 q.symm; cases this
   have a:Me kp p=false:=by
    cases g:Me kp p with
    | false=>rfl
    | true=>exact absurd (n.1 g) s
   rcases XZ m t es B (i+1) E (fun x g=>h x (.tail _ g))with ⟨v,y,z,A⟩|⟨j,F,G,v,y,z,A,I,J⟩
   ·refine .inl ⟨by simp[Cz,a,v],by simp[Instr.findNow,u,y],fun x g=>?_,fun c=>by simp[MS,a,A]⟩
    cases g with
    | head=>exact s
    | tail _ g=>exact z x g
   ·exact .inr ⟨j+1,F,G,by simp[Cz,a,v],by simp[Instr.findNow,u,y]; omega,by simpa using z,A,I,fun c=>by simp[MS,a,J]⟩
theorem GN.length {H:(PH Lw)}:∀ {es:List (PV×PV)} {l:List MapEntry},GN H es l->l.length=es.length
 | [],l,r=>by simp only[GN]at r; simp[r]
 | (_,_)::es,l,r=>by
  obtain⟨e,b,rfl,_,_,a⟩:=r;simp[a.length]
theorem GN.push {H:(PH Lw)}:∀ {es:List (PV×PV)} {l:List MapEntry} {k v:PV} {e:MapEntry},GN H es l->qp H k e.key->qp H v e.val->GN H (es++[(k,v)]) (l++[e])
 | [],l,k,v,e,r,rk,rv=>by
  simp only[GN]at r;subst r;exact⟨e,[],rfl,rk,rv,rfl⟩
 | (_,_)::es,l,k,v,e,r,rk,rv=>by
  obtain⟨a,b,rfl,c,d,f⟩:=r;exact⟨a,b++[e],rfl,c,d,f.push rk rv⟩
theorem GN.set {H:(PH Lw)}:∀ {es:List (PV×PV)} {l:List MapEntry} {j:Nat} {k v:PV} {e:MapEntry},GN H es l->qp H k e.key->qp H v e.val->GN H (es.set j (k,v)) (l.set j e)
 | [],l,j,k,v,e,r,rk,rv=>by
  simp only[GN]at r;subst r;simp[GN]
 | (_,_)::es,l,j,k,v,e,r,rk,rv=>by
  obtain⟨c,a,rfl,d,f,b⟩:=r;cases j with
  | zero=>exact⟨e,a,rfl,rk,rv,b⟩
  | succ j=>exact⟨c,a.set j e,rfl,d,f,b.set rk rv⟩
theorem EM {t:TypeId} {R:PV->Prop} (h:Bc P t R):∃ p z,R p/\(∀ w,(zeroValue t).run P w=.ok z w)/\∀ ⦃Lw:Nat⦄ (H:PH Lw),qp H p z:=by
 unfold Bc at h;split at h
 ·rename_i i b
  split at h
  ·rename_i vs hz
   obtain⟨c,h,a⟩:=nU h;exact⟨.agg c,.agg ⟨vs⟩,h,fun w=>by simp[zeroValue,typeInfo,b,hz],fun Lw H=>by simp only[qp]; exact⟨vs,rfl,a H⟩⟩
  ·rename_i v d hz
   split at h
   ·rename_i p hp
    exact⟨p,v,h,fun w=>by simp[zeroValue,typeInfo,b,hz],fun Lw H=>Qd hp H⟩
   exact h.elim
  exact h.elim
 exact h.elim
theorem Cs {g:G} {t:TypeId} {lo:List AObj} {x key:FV} {ok:Bool} {R:FV->Prop} (h:ry P g t lo x key ok R) :
  ∃ C,R C/\((∃ k o,x=.mref k/\lo[k]? =some o/\o.live=true)/\(Sn g->∀ ⦃Lw:Nat⦄ (bs:(Base Lw)) (ρ:List Value) (H:(PH Lw)) (w:World) (a b:Value),SatW bs ρ H lo w->qD ρ H x a->qD ρ H key b ->
   ∃ v,(Instr.lookup t a b ok).run P w=.ok v w/\qD ρ H C v)):=by
 unfold ry at h;split at h
 ·rename_i k kp
  have m:=qV h; clear h; obtain⟨o,D,h⟩:=m;split at h
  ·rename_i d es mk
   have m:=CB h; clear h; obtain⟨S,T,h,r,i,n⟩:=m;have m:=EM h; clear h; obtain⟨z,u,h,hz,E⟩:=m;obtain⟨v,b,y,h⟩:=h;refine⟨_,h,⟨k,_,rfl,D,rfl⟩,fun J Lw bs ρ H w a K s L F=>?_⟩;obtain⟨hv,l⟩:=vR y J;obtain⟨bl,M,rfl⟩:=L;obtain⟨N,ents,clock,e,c,O,⟨Q,A,_⟩,_⟩:=s.objs k _ _ D M;cases e;have f:=n H K F;rcases XZ F f es ents.toList 0 O A with ⟨B,q,_,_⟩|⟨j,e,p,B,q,_,_,I,_⟩
   ·rw[B]at hv l
    simp only[Option.getD_none,Option.isSome_none]at hv l;subst hv; subst l;cases ok
    ·exact⟨u,by simp[Instr.lookup,kru r,MapKept.run_getObj_map c,MapKept.run_checkKey i f,MapKept.run_findKey i q,hz],E H⟩
    exact⟨.tuple #[u,.bool false],by simp[Instr.lookup,kru r,MapKept.run_getObj_map c,MapKept.run_checkKey i f,MapKept.run_findKey i q,hz],by
     simp only[qD,qp];exact⟨[u,.bool false],rfl,by simp only[qJ]; exact⟨u,_,rfl,E H,.bool false,[],rfl,by simp[qp],rfl⟩⟩⟩
   rw[B]at hv l;simp only[Option.getD_some,Option.isSome_some]at hv l;subst hv; subst l;cases ok
   ·exact⟨e.val,by simp[Instr.lookup,kru r,MapKept.run_getObj_map c,MapKept.run_checkKey i f,MapKept.run_findKey i q],I⟩
   exact⟨.tuple #[e.val,.bool true],by simp[Instr.lookup,kru r,MapKept.run_getObj_map c,MapKept.run_checkKey i f,MapKept.run_findKey i q],by
    simp only[qD,qp];exact⟨[e.val,.bool true],rfl,by simp only[qJ]; exact⟨e.val,_,rfl,I,.bool true,[],rfl,by simp[qp],rfl⟩⟩⟩
  exact h.elim
 exact h.elim
theorem Ew {t:TypeId} {lo:List AObj} {x:FV} {R:FV->Prop} (h:Nt P t lo x R) :
  ∃ c,R c/\∀ ⦃Lw:Nat⦄ (bs:(Base Lw)) (ρ:List Value) (H:(PH Lw)) (w:World) (ty:TypeId) (a:Value),SatW bs ρ H lo w->qD ρ H x a->∃ v,(Builtin.len_ #[t] ty #[a]).run P w=.ok v w/\qD ρ H c v:=by
 unfold Nt at h;split at h
 ·rename_i k
  have f:=qV h; clear h; obtain⟨o,g,h⟩:=f;split at h
  ·rename_i d es mk
   split at h
   ·rename_i r u i
    obtain⟨n,j,h⟩:=h;refine⟨_,h,fun Lw bs ρ H w ty a s l=>⟨.int .i64 n,?_,ga⟩⟩;obtain⟨bl,m,rfl⟩:=l;obtain⟨p,ents,clock,e,b,q,_⟩:=s.objs k _ _ g m;cases e;have:=q.length;simp at this;simp[Builtin.len_,kru i,MapKept.run_getObj_map b,goInt,this,j]
   exact h.elim
  exact h.elim
 exact h.elim
theorem Xc (w:World) (b:Nat) (o:Obj):Keep (fun x=>x=b) w { w with heap:=w.heap.setIfInBounds b o }:=
 ⟨rfl,rfl,rfl,by simp,fun k _ a=>by simp[Ne.symm a]⟩
theorem ZW {es:Array MapEntry} {j:Nat} {f:MapEntry->MapEntry} {e:MapEntry} (h:es[j]? =some e):(es.modify j f).toList=es.toList.set j (f e):=by
 apply List.ext_getElem?;intro i;simp only[Array.getElem?_toList,Array.getElem?_modify,jF];by_cases a:j=i
 ·subst a
  obtain⟨b,c⟩:=jH.1 h;simp[b,c]
 simp[a]
theorem Da {bs:(Base Lw)} {ρ:List Value} {H:(PH Lw)} {lo:List AObj} (s:SatW bs ρ H lo w) {t E J:TypeId} {d:TypeDesc} (F:P.underlying t=some (.map E J)) (q:P.underlying E=some d)
  {j:Nat} {es:List (PV×PV)} {mk:Option (PV×Nat)} (v:lo[j]? =some (.mp d es mk)) {m k x:Value} (K:qD ρ H (.mref j) m) {kp G:PV} (z:qp H kp k) (rx:qp H G x) (n:MapKept.IsKey d k) :
  ∃ w',(Instr.mapUpdate t m k x).run P w=.ok () w'/\SatW bs ρ H (lo.set j (.mp d (MS kp G es) none)) w':=by
 obtain⟨bl,A,rfl⟩:=K;obtain⟨L,ents,clock,e,a,f,⟨o,g,_⟩,r⟩:=s.objs j _ _ v A;cases e;rcases XZ z n es ents.toList 0 f g with ⟨_,B,C,M⟩|⟨i,e,p,_,B,C,I,_,N⟩
 ·refine⟨{ w with heap:=w.heap.setIfInBounds bl (.map (ents.push { key:=k,val:=x,born:=clock }) (clock+1)) },?_,s.upd v A rfl rfl r (Xc w bl _) ?_⟩
  ·simp[Instr.mapUpdate,kru F,MapKept.run_getObj_map a,MapKept.run_checkKey q n,MapKept.run_findKey q B,MapKept.run_setObj_map _ a]
  refine⟨bl,_,_,rfl,(MapKept.heap_set a).1,?_,⟨MapKept.stamped_push o C,?_,fun _ _ h=>by cases h⟩,r⟩
  ·rw[M,Array.toList_push]
   exact f.push z rx
  intro y u;simp only[Array.toList_push,List.mem_append,List.mem_singleton]at u;rcases u with u|rfl
  ·exact g y u
  exact n
 have D:ents[i]? =some e:=by simpa using C
 refine⟨{ w with heap:=w.heap.setIfInBounds bl (.map (ents.modify i fun e=>{ e with key:=k,val:=x }) clock) },?_,s.upd v A rfl rfl r (Xc w bl _) ?_⟩
 ·simp[Instr.mapUpdate,kru F,MapKept.run_getObj_map a,MapKept.run_checkKey q n,MapKept.run_findKey q B,D,I,MapKept.run_keyThatStays n,MapKept.run_setObj_map _ a]
 have c:∀ l,ents[i]? =some l->({ l with key:=k,val:=x }:MapEntry).key=l.key:=fun l b=>by rw[D]at b; cases b; exact I.symm
 refine⟨bl,_,_,rfl,(MapKept.heap_set a).1,?_,⟨MapKept.stamped_modify o _ _ (fun _ _=>rfl) (fun l _ b=>c l b),MapKept.isKey_modify g _ _ c,fun _ _ h=>by cases h⟩,r⟩
 rw[N,ZW D];exact f.set z rx
theorem SatW.pushMap {bs:(Base Lw)} {ρ:List Value} {H:(PH Lw)} {lo:List AObj} (s:SatW bs ρ H lo w) {d:TypeDesc} :
  SatW bs (ρ++[.map (some w.heap.size)]) H (lo++[.mp d [] none]) (w.alloc (.map #[] 0)):=by
 refine s.push (g:=w.heap.size) (.inl rfl) (s.fresh (jv _)) (.inr s.keep.size) (PH.le.refl H) (vZ s.sath _) (fun b o v h=>.inl ⟨v,h⟩) (vX w _ _) ?_;refine⟨w.heap.size,#[],0,rfl,heap_alloc_new w _,rfl,⟨MapKept.stamped_empty 0,by simp,fun _ _ h=>by cases h⟩,fun o=>?_⟩
 cases a:H w.heap.size o with
 | none=>rfl
 | some x=>exact absurd (s.sath.lt a) (jQ _)
theorem sZ {b:Nat} {l:ByteArray} {p:Nat} (h:w.heap[b]? =some (.stringIter l p)):(getObj b).run P w=.ok (.stringIter l p) w:=by
 simp[getObj,Sem.run,h]
theorem Uy {b:Nat} {l:ByteArray} {p:Nat} (o':Obj) (h:w.heap[b]? =some (.stringIter l p)):(setObj b o').run P w=.ok () { w with heap:=w.heap.setIfInBounds b o' }:=by
 simp[setObj,Sem.run,h]
theorem Cn {b:Nat} {o o':Obj} (h:w.heap[b]? =some o):(w.heap.setIfInBounds b o')[b]? =some o':=by
 have:=(jH.1 h).1;simp[this]
theorem Fl {α:Type} {l:List α} {k:Nat} {a:α} (h:l[k]? =some a):l.set k a=l:=by
 apply List.ext_getElem?;intro i;rw[jF];split
 ·rename_i e
  subst e;split
  ·exact h.symm
  rename_i b;simp[List.getElem?_eq_none (Nat.le_of_not_lt b)]
 rfl
theorem SatW.pushSit {bs:(Base Lw)} {ρ:List Value} {H:(PH Lw)} {lo:List AObj} (s:SatW bs ρ H lo w) {l:List UInt8} :
  SatW bs (ρ++[.pointer (some ⟨w.heap.size,0,none⟩)]) H (lo++[.sit l 0]) (w.alloc (.stringIter ⟨l.toArray⟩ 0)):=by
 refine s.push (g:=w.heap.size) (.inl rfl) (s.fresh (jv _)) (.inr s.keep.size) (PH.le.refl H) (vZ s.sath _) (fun b o v h=>.inl ⟨v,h⟩) (vX w _ _) ?_;refine⟨w.heap.size,rfl,heap_alloc_new w _,fun o=>?_⟩;cases a:H w.heap.size o with
 | none=>rfl
 | some x=>exact absurd (s.sath.lt a) (jQ _)
theorem tZ {E:Env} {lo:List AObj} {t:TypeId} {m k x:Operand} {R:FV->List AObj->Prop} (h:Fi P E lo t m k x R) :
  ∃ n lo',R n lo'/\lo'.length=lo.length/\∀ ⦃Lw:Nat⦄ (bs:(Base Lw)) (ρ:List Value) (H:(PH Lw)) (w:World) (eval:Operand->Value),SatW bs ρ H lo w->qD ρ H (Sf (qz E) m) (eval m)->qD ρ H (Sf (qz E) k) (eval k)->qD ρ H (Sf (qz E) x) (eval x) ->
   ∃ w',(Instr.mapUpdate t (eval m) (eval k) (eval x)).run P w=.ok () w'/\fW bs ρ H n lo' undef w':=by
 unfold Fi at h;have a:=qu h; clear h; obtain⟨B,h,e⟩:=a;have a:=qu h; clear h; obtain⟨k',h,f⟩:=a;have a:=qu h; clear h; obtain⟨C,h,g⟩:=a;have a:=gu h; clear h; obtain⟨D,h,i⟩:=a;split at h
 ·rename_i j kp
  have a:=qV h; clear h; obtain⟨o,q,h⟩:=a;split at h
  ·rename_i d es mk
   have a:=CB h; clear h; obtain⟨F,G,h,r,u,b⟩:=a;obtain⟨v,l,h⟩:=h;obtain⟨h,y⟩:=zR h;refine⟨_,_,h,by simp,fun Lw bs ρ H w eval s z c rx=>?_⟩;have c:=f ρ H _ trivial c;obtain⟨w',A,p⟩:=Da s r u q (e ρ H _ trivial z) c (i ρ H _ (g ρ H _ trivial rx)) (b H _ c);rw[l]at p;exact⟨w',A,ρ,H,jp _,PH.le.refl H,p,by simp[qD,qp,qJ,undef]⟩
  exact h.elim
 exact h.elim
theorem HZ {d:TypeDesc} {R:Prop} (h:Rf d R):R:=by
 unfold Rf at h;split at h<;>first|exact h|exact h.elim
theorem BP {o:Oper} {E:Env} {lo:List AObj} {R:FV->List AObj->Prop} (h:Ns P o.op E lo R):∃ q lo',R q lo'/\ze (Vl o.op) lo lo'/\vD P o (qz E) lo none q lo':=by
 obtain⟨dst,op,ty,pos,after,guard⟩:=o;simp only at h;unfold Ns at h;split at h
 ·rename_i t x
  have j:=qu h; clear h; obtain⟨F,h,i⟩:=j;split at h
  ·rename_i l
   split at h
   ·rename_i y
    have h:=zh h;have h:=zf h;refine⟨_,_,h,ze.push _,fun n Lw bs ρ H w eval s b=>?_⟩;have e:=dC (i ρ H _ n (b x (by simp[kd])));have c:(Instr.range t (eval x)).run P w=.ok (.pointer (some ⟨w.heap.size,0,none⟩)) (w.alloc (.stringIter ⟨l.toArray⟩ 0)):=by
     simp[Instr.range,e,kru y]
    simp only[execOp,ka,c,jZ,kc];refine⟨_,H,List.prefix_append _ _,PH.le.refl H,s.pushSit,w.heap.size,by simp[← s.hlen],rfl⟩
   exact h.elim
  exact h.elim
 ·rename_i x
  have j:=qu h; clear h; obtain⟨F,h,i⟩:=j;split at h
  ·rename_i k
   have j:=qV h; clear h; obtain⟨o,r,h⟩:=j;split at h
   ·rename_i l pos
    obtain⟨ok,G,⟨f,hp⟩,h⟩:=h;obtain⟨h,g⟩:=zR h;refine⟨_,_,h,ze.set _ _,fun n Lw bs ρ H w eval s b=>?_⟩;obtain⟨bl,u,ex⟩:=i ρ H _ n (b x (by simp[kd]));obtain⟨z,e,a,v⟩:=s.objs k _ _ r u;cases e;simp only[execOp,ka,ex];by_cases g:pos<l.length
    ·have f:ok=true:=by rw[← f]; simpa using g
     subst f;have c:(Instr.next (.pointer (some ⟨bl,0,none⟩)) true ty).run P w=.ok (.tuple #[.bool true,.int .i64 pos,.int .i32 (MW l pos)]) { w with heap:=w.heap.setIfInBounds bl (.stringIter ⟨l.toArray⟩ (Lo l pos)) }:=by
      have p:pos<(⟨l.toArray⟩:ByteArray).size:=by rw[ByteArray.size_mk_toArray]; exact g
      simp only[Instr.next,ka,sZ a,jZ];simp only[p,if_true,ka,Uy _ a,jZ,kc];rfl
     simp only[c,jZ,kc];refine⟨ρ,H,jp _,PH.le.refl H,?_,?_⟩
     ·refine s.upd r u rfl rfl v (Xc w bl _) ⟨bl,rfl,?_,v⟩
      rw[← hp];exact Cn a
     simp only[qD,if_true];exact⟨_,_,rfl,by simp[qp],by simp[qp]⟩
    have f:ok=false:=by rw[← f]; simpa using g
    subst f;have c:(Instr.next (.pointer (some ⟨bl,0,none⟩)) true ty).run P w=.ok (.tuple #[.bool false]) w:=by
     have p:¬ pos<(⟨l.toArray⟩:ByteArray).size:=by rw[ByteArray.size_mk_toArray]; exact g
     simp only[Instr.next,ka,sZ a,jZ];simp only[p,if_false,kc]
    simp only[c,jZ,kc];refine⟨ρ,H,jp _,PH.le.refl H,?_,by simp[qD]⟩;have A:G=pos:=by rw[← hp]; rfl
    subst A;rw[show lo.set k (.sit l G)=lo from Fl r];exact s
   exact h.elim
  exact h.elim
 ·rename_i t
  split at h
  ·rename_i I J y
   split at h
   ·rename_i d L
    have h:=HZ h;have h:=zh h;have h:=zf h;refine⟨_,_,h,ze.push _,fun n Lw bs ρ H w eval s b=>?_⟩;have c:(Instr.makeMap t none).run P w=.ok (.map (some w.heap.size)) (w.alloc (.map #[] 0)):=rfl;simp only[execOp,Option.map_none,ka,c,jZ,kc];exact⟨_,H,List.prefix_append _ _,PH.le.refl H,s.pushMap,w.heap.size,by simp[← s.hlen],rfl⟩
   exact h.elim
  exact h.elim
 ·rename_i t m k x
  obtain⟨q,lo',h,B,C⟩:=tZ h;refine⟨q,lo',h,ze.len B,fun n Lw bs ρ H w eval s b=>?_⟩;obtain⟨w',c,D⟩:=C bs ρ H w eval s (b m (by simp[kd])) (b k (by simp[kd])) (b x (by simp[kd]));simp only[execOp,ka,c,jZ,kc];exact D
 ·rename_i t m k x
  obtain⟨q,lo',h,B,C⟩:=tZ h;refine⟨q,lo',h,ze.len B,fun n Lw bs ρ H w eval s b=>?_⟩;obtain⟨w',c,D⟩:=C bs ρ H w eval s (b m (by simp[kd])) (b k (by simp[kd])) (b x (by simp[kd]));simp only[execOp,ka,c,jZ,kc];exact D
 ·rename_i x t
  have j:=qu h; clear h; obtain⟨F,h,i⟩:=j;split at h
  ·rename_i k
   have j:=qV h; clear h; obtain⟨o,r,h⟩:=j;split at h
   ·rename_i d es mk
    split at h
    ·rename_i I J y
     obtain⟨h,g⟩:=zR h;refine⟨_,_,h,ze.set _ _,fun n Lw bs ρ H w eval s b=>?_⟩;obtain⟨bl,u,ex⟩:=i ρ H _ n (b x (by simp[kd,ke]));obtain⟨z,ents,clock,e,a,K,_,v⟩:=s.objs k _ _ r u;cases e;simp only[execOp,resolve,invoke,builtin,ka,kc,jZ,jY,jk,jN,ex];have c:(Builtin.clear_ #[t] ty #[.map (some bl)]).run P w=.ok (.tuple #[]) { w with heap:=w.heap.setIfInBounds bl (.map #[] clock) }:=by
      simp[Builtin.clear_,kru y,MapKept.run_getObj_map a,MapKept.run_setObj_map _ a]
     simp only[c,jZ];refine⟨ρ,H,jp _,PH.le.refl H,?_,by simp[qD,qp,qJ]⟩;refine s.upd r u rfl rfl v (Xc w bl (.map #[] clock)) ?_;exact⟨bl,#[],clock,rfl,(MapKept.heap_set a).1,rfl,⟨MapKept.stamped_empty clock,by simp,fun _ _ h=>by cases h⟩,v⟩
    exact h.elim
   exact h.elim
  exact h.elim
 exact h.elim
end
end Ax
end
section
namespace Ax
open Go
variable {Lw:Nat}
theorem xG.get {H:(PH Lw)} {z:Nat}:∀ {rows:List (List PV)} {vs:List Value} {i:Nat} {r:List PV},xG H z rows vs->rows[i]? =some r ->
  ∃ a,qJ H r a/\∀ j u,a[j]? =some u->vs[i * z+j]? =some u
 | [],_,_,_,_,h=>by simp at h
 | q::rs,vs,i,r,x,h=>by
  obtain⟨hz,a,b,rfl,d,g⟩:=x;have f:a.length=z:=by rw[d.length,hz]
  cases i with
  | zero=>
   simp at h;subst h;refine⟨a,d,fun j u hu=>?_⟩;rw[Nat.zero_mul,jw,jB (jG.1 hu).1];exact hu
  | succ i=>
   obtain⟨c,rc,k⟩:=g.get (i:=i) (by simpa using h);refine⟨c,rc,fun j u hu=>?_⟩;have:=k j u hu;rw[jC (by rw[f,Nat.add_mul]; omega)];have e:(i+1) * z+j - a.length=i * z+j:=by rw[f,Nat.add_mul]; omega
   rw[e];exact this
theorem xG.over {H:(PH Lw)} {z:Nat}:∀ {rows:List (List PV)} {vs:List Value} {i off:Nat} {r f:List PV} {c:List Value},xG H z rows vs->rows[i]? =some r->qJ H f c->off+f.length<=r.length ->
  xG H z (rows.set i (r.take off++f++r.drop (off+f.length))) (vs.take (i * z+off)++c++vs.drop (i * z+off+c.length))
 | [],_,_,_,_,_,_,_,h,_,_=>by simp at h
 | q::rs,vs,i,off,r,f,c,x,h,rp,hle=>by
  obtain⟨hz,a,b,rfl,e,j⟩:=x;have l:a.length=z:=by rw[e.length,hz]
  have k:=rp.length;cases i with
  | zero=>
   simp at h;subst h;have g:off<=a.length:=by rw[e.length]; omega
   have d:off+c.length<=a.length:=by rw[e.length,k]; omega
   refine⟨?_,a.take off++c++a.drop (off+c.length),b,?_,?_,j⟩
   ·simp only[jb,js,jM]; omega
   ·rw[Nat.zero_mul,jw,List.take_append_of_le_length g,List.drop_append_of_le_length d]
    simp
   rw[k];exact((e.take off).append rp).append (e.drop _)
  | succ i=>
   refine⟨hz,a,b.take (i * z+off)++c++b.drop (i * z+off+c.length),?_,e,j.over (by simpa using h) rp hle⟩;have e1:(i+1) * z+off=a.length+(i * z+off):=by rw[l,Nat.add_mul]; omega
   rw[e1,List.take_length_add_append,Nat.add_assoc a.length,List.drop_length_add_append];simp
theorem Lr {α:Type} {cur c:List α} {p m N:Nat} (hp:p+m<=N) (hm:c.length=m) (b:N<=cur.length):(cur.take p++c++cur.drop (p+m)).take N=(cur.take N).take p++c++(cur.take N).drop (p+m):=by
 have a:(cur.take p++c).length=p+m:=by simp[js,hm]; omega
 rw[List.take_append,a,List.take_of_length_le (by omega),List.take_take,Nat.min_eq_left (by omega),List.drop_take]
section
variable {P:Program} {w:World}
theorem CZ {ρ:List Value} {H:(PH Lw)} {e:TypeId} {z:Nat} {rows:List (List PV)} {b n cap:Nat} (h:pQ ρ H w (.slice (some ⟨b,0,none⟩) n cap) (.vec e z rows)) :
  ∃ (a:Nat) (cur:Array Value) (xs:List Value),n=rows.length/\w.heap[b]? =some (.cells cur e (0,0))/\rows.length<=a/\a<=maxLen/\cur.size=a * z/\cap=a/\cur.toList.take (rows.length * z)=xs/\xG H z rows xs/\(∀ u∈xs,u.oneCell'=true)/\∀ o,H b o=none:=by
 obtain⟨xs,c,d,f,i⟩:=h;rcases c.2 with ⟨e,_⟩|⟨g,a,cur,e,_,j,k,hm,l,m⟩
 ·cases e
 cases e;exact⟨cap,cur,xs,rfl,j,k,hm,l,rfl,m,d,f,i b rfl⟩
theorem tE {t:TypeId} {lo:List AObj} {k i off z:Nat} {R:FV->Prop} (h:UM P t lo k z i off R) :
  ∃ fv,R fv/\∀ ⦃Lw:Nat⦄ (bs:(Base Lw)) (ρ:List Value) (H:(PH Lw)) (w:World) (v:Value),SatW bs ρ H lo w->qD ρ H (.eptr k z i off) v->∃ u,(Instr.loadAt t v).run P w=.ok u w/\qD ρ H fv u:=by
 unfold UM at h;have F:=qV h; clear h; obtain⟨o,U,h⟩:=F;split at h
 ·rename_i e D rows
  obtain⟨row,⟨rfl,x⟩,h⟩:=h;obtain⟨h,G⟩:=vE h;obtain⟨d,ti,B,Q,h⟩:=xc h;have cells:∀ ⦃Lw:Nat⦄ (bs:(Base Lw)) (ρ:List Value) (H:(PH Lw)) (w:World) (v:Value),SatW bs ρ H lo w->qD ρ H (.eptr k D i off) v ->
    ∃ (b:Nat) (a:List Value),v=.pointer (some ⟨b,i * D+off,none⟩)/\qJ H row a/\∀ j u,(a.drop off)[j]? =some u->w.cell? ⟨b,i * D+off+j,none⟩=some u:=by
   intro Lw bs ρ H w v s p;obtain⟨b,n,cap,I,rfl⟩:=p;obtain⟨y,cur,xs,rfl,E,J,hm,hs,rfl,S,V,h1,hh⟩:=CZ (s.objs k _ _ U I);obtain⟨a,q,m⟩:=V.get x;refine⟨b,a,rfl,q,fun j u hu=>?_⟩;rw[jD]at hu;have:=m _ _ hu;rw[← S,jE]at this;split at this
   ·rw[Nat.add_assoc]
    rw[cell_of_row w b _ _ e _ E];simpa using this
   cases this
  split at h
  ·rename_i f
   obtain⟨h,J⟩:=uS h;refine⟨_,h,fun Lw bs ρ H w v s p=>?_⟩;obtain⟨b,a,rfl,q,m⟩:=cells bs ρ H w v s p;refine⟨_,vS B Q m (by have:=q.length; simp at J ⊢; omega) f,?_⟩;simp only[qD,qp];exact⟨_,rfl,(q.drop off).take _⟩
  rename_i f;split at h
  ·rename_i c r A
   refine⟨_,h,fun Lw bs ρ H w v s p=>?_⟩;obtain⟨b,a,rfl,q,m⟩:=cells bs ρ H w v s p;have rd:=q.drop off;rw[A]at rd;simp only[qJ]at rd;obtain⟨u,us,e,K,_⟩:=rd;exact⟨u,xM B (by simpa using m 0 u (by rw[e]; rfl)) f,K⟩
  exact h.elim
 ·rename_i e D rows j kt
  obtain⟨row,⟨rfl,x⟩,h⟩:=h;obtain⟨h,G⟩:=vE h;obtain⟨d,ti,B,Q,h⟩:=xc h;have cells:∀ ⦃Lw:Nat⦄ (bs:(Base Lw)) (ρ:List Value) (H:(PH Lw)) (w:World) (v:Value),SatW bs ρ H lo w->qD ρ H (.eptr k D i off) v ->
    ∃ (b:Nat) (a:List Value),v=.pointer (some ⟨b,i * D+off,none⟩)/\qJ H row a/\(∀ j u,(a.drop off)[j]? =some u->w.cell? ⟨b,i * D+off+j,none⟩=some u)/\(i+1=rows.length->off=j->∀ u,(a.drop off)[0]? =some u->ρ[kt]? =some u):=by
   intro Lw bs ρ H w v s p;obtain⟨b,n,cap,I,rfl⟩:=p;obtain⟨L,C,X,Y,Z,hl⟩:=s.objs k _ _ U I;obtain⟨y,cur,xs,rfl,E,J,hm,hs,rfl,S,V,h1,hh⟩:=CZ (ρ:=ρ) (H:=H) ⟨L,C,X,Y,Z⟩;obtain⟨a,q,m⟩:=V.get x;have hxx:L=xs:=by
    rcases C.2 with ⟨T,_⟩|⟨g,y,cur',T,_,M,_,_,_,ht'⟩
    ·cases T
    cases T;rw[E]at M;cases M;rw[← ht',← S]
   subst hxx;refine⟨b,a,rfl,q,fun j u hu=>?_,fun N O u hu=>hl u ?_⟩
   ·rw[jD]at hu
    have:=m _ _ hu;rw[← S,jE]at this;split at this
    ·rw[Nat.add_assoc]
     rw[cell_of_row w b _ _ e _ E];simpa using this
    cases this
   ·rw[jD]at hu
    have:=m _ _ hu;rw[← O,show rows.length - 1=i by omega];simpa using this
  split at h
  ·rename_i f
   obtain⟨h,J⟩:=uS h;refine⟨_,h,fun Lw bs ρ H w v s p=>?_⟩;obtain⟨b,a,rfl,q,m,_⟩:=cells bs ρ H w v s p;refine⟨_,vS B Q m (by have:=q.length; simp at J ⊢; omega) f,?_⟩;simp only[qD,qp];exact⟨_,rfl,(q.drop off).take _⟩
  rename_i f;split at h
  ·rename_i c r A
   split at h
   ·rename_i O
    have O:=jn O;obtain⟨N,rs,rfl,h⟩:=h;refine⟨_,h,fun Lw bs ρ H w v s p=>?_⟩;obtain⟨b,a,rfl,q,m,hl⟩:=cells bs ρ H w v s p;have rd:=q.drop off;rw[A]at rd;simp only[qJ]at rd;obtain⟨u,us,e,K,_⟩:=rd;exact⟨u,xM B (by simpa using m 0 u (by rw[e]; rfl)) f,hl N O u (by rw[e]; rfl),K⟩
   refine⟨_,h,fun Lw bs ρ H w v s p=>?_⟩;obtain⟨b,a,rfl,q,m,_⟩:=cells bs ρ H w v s p;have rd:=q.drop off;rw[A]at rd;simp only[qJ]at rd;obtain⟨u,us,e,K,_⟩:=rd;exact⟨u,xM B (by simpa using m 0 u (by rw[e]; rfl)) f,K⟩
  exact h.elim
 ·rename_i l
  have F:=xc h; clear h; obtain⟨d,ti,B,Q,h⟩:=F;split at h
  ·exact h.elim
  rename_i f;have F:=h; clear h; obtain⟨c,⟨rfl,rfl,m⟩,h⟩:=F;refine⟨_,h,fun Lw bs ρ H w v s p=>?_⟩;obtain⟨b,n,cap,I,rfl⟩:=p;obtain⟨b',cs,T,y,lo',hi',e1,E,_,h2,_⟩:=s.objs k _ _ U I;cases e1;refine⟨.int .u8 c.toNat,xM B ?_ f,by simp[qD,qp]⟩;simp only[World.cell?,E,Nat.mul_one,Nat.add_zero];exact h2 i c m
 exact h.elim
theorem MV {H:(PH Lw)} {z:Nat}:∀ {rows:List (List PV)} {vals:List Value},rows.length=vals.length->(∀ r∈rows,r.length=z) ->
  (∀ (i:Nat) (r:List PV) (v:Value),rows[i]? =some r->vals[i]? =some v->qJ H r v.cells.toList)->xG H z rows (vals.flatMap (·.cells.toList))
 | [],[],_,_,_=>rfl
 | [],_::_,hl,_,_=>by simp at hl
 | r::rs,[],hl,_,_=>by simp at hl
 | r::rs,v::vals,hl,hz,a=>⟨hz r (by simp),v.cells.toList,vals.flatMap (·.cells.toList),by rw[List.flatMap_cons],a 0 r v rfl rfl,
   MV (by simpa using hl) (fun r a=>hz r (by simp[a])) (fun i b v' c d=>a (i+1) b v' (by simpa using c) (by simpa using d))⟩
theorem xG.le {H:(PH Lw)} {z:Nat} {p q:List (List PV)} {vs:List Value} (h:p=q\/Xf p q) (r:xG H z p vs):xG H z q vs:=by
 rcases h with rfl|h
 ·exact r
 have go:∀ {p q:List (List PV)} {vs:List Value},Xf p q->xG H z p vs->xG H z q vs:=by
  intro p
  induction p with
  | nil=>intro q vs h r; cases q with
   | nil=>exact r
   | cons _ _=>simp[Xf]at h
  | cons a l ih=>intro q vs h r; cases q with
   | nil=>simp[Xf]at h
   | cons b m=>
    simp only[Xf]at h;obtain⟨e,x,y,c,d,f⟩:=r;exact⟨by rw[← e,tF h.1],x,y,c,mw h.1 d,ih h.2 f⟩
 exact go h r
theorem rN {E:Env} {g:G} {t:TypeId} {n:Nat} {parts:List (Nat×Operand)} {R:FV->Prop} (h:gR P E g t n parts R) :
  ∃ e i rows,P.underlying t=some (.slice e)/\P.info? e=some i/\R (.p (.sl rows))/\rows.length=n/\n<=maxLen/\(Sn g->∀ ⦃Lw:Nat⦄ (ρ:List Value) (H:(PH Lw)) (w:World) (eval:Operand->Value),(∀ x∈parts.map (·.2),qD ρ H (Sf (qz E) x) (eval x)) ->
   ∃ xs:List Value,(Instr.buildSlice t n (parts.map fun(i,x)=>(i,eval x)).toArray).run P w=.ok (.slice (some ⟨w.heap.size,0,none⟩) n n) (w.alloc (.cells xs.toArray e))/\xG H i.size rows xs/\∀ u∈xs,u.oneCell'=true):=by
 unfold gR at h;obtain⟨e,i,hu,F,h⟩:=zT h;split at h
 ·rename_i o
  have o:parts.length=n:=jn o;split at h
  ·rename_i I
   split at h
   ·rename_i A
    split at h
    case h_2=>exact h.elim
    rename_i m;split at h
    case h_2=>exact h.elim
    rename_i a J;have:a=i:=Option.some.inj (J.symm.trans F);subst this;split at h
    case h_2=>exact h.elim
    rename_i S K;obtain⟨ps,h,b,L⟩:=bR h;obtain⟨rows,h,k,hrows⟩:=sN h;obtain⟨q,d,l,h⟩:=h;have B:d.length=rows.length:=by
     rcases l with rfl|l
     ·rfl
     exact(cD l).symm
    have C:n<=maxLen:=by
     have a1:=jh m;have a2:1<=a.size:=jh A;have a3:n * 1<=n * a.size:=Nat.mul_le_mul_left n a2;unfold maxLen;omega
    refine⟨e,a,d,hu,F,h,by rw[B,k,b,o],C,fun U Lw ρ H w eval V=>?_⟩;obtain⟨vals,ev,T⟩:=L U ρ H eval V;have hcells:=hrows H vals T;have s:vals.length=n:=by rw[T.length,b,o]
    have M:∀ v∈vals,v.cells.size=a.size:=by
     intro v hv;obtain⟨j,D⟩:=List.getElem?_of_mem hv;have y:=(jG.1 D).1;have f:j<rows.length:=by rw[k,b,o,← s]; exact y
     have:=(hcells j _ v (jf f) D).length;rw[(q _ (List.getElem_mem f)).1]at this;simpa using this
    obtain⟨cells',X,z⟩:=sv a.size n (fun N=>some (N * a.size,a.size)) (fun j _=>rfl) vals 0 ((Array.range (n * a.size)).map (S.cells[· % S.cells.size]!)) M (by omega) (by simp)
    simp only[Nat.zero_mul,List.take_zero,jt]at z;have hone:∀ u∈cells'.toList,u.oneCell'=true:=by
     rw[z];intro u O;obtain⟨v,hv,Q⟩:=List.mem_flatMap.1 O;obtain⟨j,D⟩:=List.getElem?_of_mem hv;have y:=(jG.1 D).1;have f:j<rows.length:=by rw[k,b,o,← s]; exact y
     have Y:=hcells j _ v (jf f) D;have Z:=(q _ (List.getElem_mem f)).2;exact qJ.one (fun c hc=>(List.all_eq_true.1 Z) c hc) Y u Q
    refine⟨cells'.toList,?_,?_,hone⟩
    ·have h0:n * a.size≠0:=by
      have a1:1<=n:=jh I;have a2:1<=a.size:=jh A;exact Nat.mul_ne_zero (by omega) (by omega)
     have hb:¬ 16777216<n * a.size:=by
      have:=jh m;omega
     simp only[Instr.buildSlice,ka,kru hu,jZ,Go.sizeOf,typeInfo,run_program,F,kc];rw[show(2:Nat) ^ 24=16777216 from rfl];simp only[hb,if_false,gt_iff_lt,h0,ka,zeroValue,typeInfo,run_program,F,K,jZ,kc];rw[ev,X];simp[newRow]
    rw[z];refine xG.le l ?_;exact MV (by rw[k,b,o,s]) (fun r hr=>(q r hr).1) hcells
   exact h.elim
  exact h.elim
 exact h.elim
theorem Cr {E:Env} {lo:List AObj} {t:TypeId} {n:Nat} {parts:List (Nat×Operand)} {R:FV->List AObj->Prop} (h:BK P E lo t n parts R) :
  ∃ m lo',R m lo'/\ze true lo lo'/\∀ ⦃Lw:Nat⦄ (bs:(Base Lw)) (ρ:List Value) (H:(PH Lw)) (w:World) (eval:Operand->Value),SatW bs ρ H lo w->(∀ x∈parts.map (·.2),qD ρ H (Sf (qz E) x) (eval x)) ->
   ∃ v w',(Instr.buildSlice t n (parts.map fun(i,x)=>(i,eval x)).toArray).run P w=.ok v w'/\fW bs ρ H m lo' v w':=by
 unfold BK at h;have j:=zT h; clear h; obtain⟨e,i,hu,q,h⟩:=j;have j:=rN h; clear h; obtain⟨r,y,rows,a,k,h,f,c,z⟩:=j;have e1:r=e:=by rw[hu]at a; cases a; rfl
 subst e1;have e2:y=i:=Option.some.inj (k.symm.trans q);subst e2;simp only at h;have h:=zh h;have h:=zf h;refine⟨_,_,h,ze.push _,fun Lw bs ρ H w eval s l=>?_⟩;obtain⟨xs,A,hv,hone⟩:=z trivial ρ H w eval l;refine⟨_,_,A,ρ++[.slice (some ⟨w.heap.size,0,none⟩) n n],H,List.prefix_append _ _,PH.le.refl H,?_,?_⟩
 ·have d:∀ o,H w.heap.size o=none:=fun o=>by
   cases l:H w.heap.size o with
   | none=>rfl
   | some u=>exact absurd (s.sath.lt l) (jQ _)
  refine s.push (g:=w.heap.size) (.inl rfl) (s.fresh (jv _)) (.inr s.keep.size) (PH.le.refl H) (vZ s.sath _) (fun b o v h=>.inl ⟨v,h⟩) (vX w _ _) ?_;refine⟨xs,⟨hv.length,.inr ⟨w.heap.size,n,xs.toArray,by rw[f],jR _,heap_alloc_new w _,by rw[f]; exact jv _,c,by simp[hv.length,f],?_⟩⟩,hv,hone,fun b p=>?_⟩
  ·rw[← hv.length]
   exact List.take_length
  simp[qC]at p;subst p;exact d
 exact⟨by simp[← s.hlen],.inr ⟨w.heap.size,n,by rw[f]⟩⟩
end
theorem DU {α:Type} {R R':α->Prop} (b:∀ a,R a->R' a):∀ {n:Nat} {l:List α},my n l R->my n l R'
 | 0,[],h=>by simp[my]at h
 | 0,a::l,h=>b a h
 | n+1,[],h=>by simp[my]at h
 | n+1,a::l,h=>DU b (n:=n) (l:=l) h
theorem XV {α:Type} {R R':List α->Prop} (b:∀ a,R a->R' a):∀ {n:Nat} {l:List α},rP n l R->rP n l R'
 | 0,l,h=>b l h
 | n+1,[],h=>by simp[rP]at h
 | n+1,a::l,h=>XV b (n:=n) (l:=l) h
theorem CV {P:Program} {t:TypeId} {R R':Bool->Nat->Prop} (b:∀ a n,R a n->R' a n) (h:cF P t R):cF P t R':=by
 unfold cF at *;split at h
 ·split at h
  ·exact b _ _ h
  exact h.elim
 exact h.elim
theorem Zj {P:Program} {g:Bool} {t:TypeId} {lo:List AObj} {k i off z:Nat} {R:FV->Prop} (h:Vd P g t lo k z i off R) :
  ∃ b,R b/\(g=true->∀ ⦃Lw:Nat⦄ (bs:(Base Lw)) (ρ:List Value) (H:(PH Lw)) (w:World) (v:Value),SatW bs ρ H lo w->qD ρ H (.eptr k z i off) v->∃ u,(Instr.loadAt t v).run P w=.ok u w/\qD ρ H b u):=by
 cases g with
 | true=>
  have p:UM P t lo k z i off R:=by
   unfold Vd at h;unfold UM;refine DU (fun o f=>?_) h;cases o<;>first|exact False.elim f|skip
   ·obtain⟨row,j,e⟩:=f
    refine⟨row,j rfl,XV (fun cs l=>CV (fun a n ha=>?_) l) e⟩
    cases a
    ·exact ha
    exact ha.elim
   obtain⟨row,j,e⟩:=f;refine⟨row,j rfl,XV (fun cs l=>CV (fun a n ha=>?_) l) e⟩
   cases a
   ·cases cs with
    | nil=>exact ha
    | cons c cs=>
     cases q:Nat.beq off _<;>rw[q]at ha
     ·exact ha
     exact False.elim ha
   exact ha.elim
  obtain⟨b,m,r⟩:=tE p;exact⟨b,m,fun _=>r⟩
 | false=>
  suffices hh:∃ b,R b by
   obtain⟨b,m⟩:=hh;exact⟨b,m,fun s=>by cases s⟩
  unfold Vd at h;obtain⟨o,_,h⟩:=qV h;cases o<;>first|exact False.elim h|skip
  ·obtain⟨row,_,e⟩:=h
   obtain⟨h,_⟩:=vE e;obtain⟨d,x,_,_,h⟩:=xc h;split at h
   ·exact h.elim
   split at h
   ·exact⟨_,h⟩
   exact h.elim
  obtain⟨row,_,e⟩:=h;obtain⟨h,_⟩:=vE e;obtain⟨d,x,_,_,h⟩:=xc h;split at h
  ·exact h.elim
  split at h
  ·split at h
   ·exact h.elim
   exact⟨_,h⟩
  exact h.elim
end Ax
end
