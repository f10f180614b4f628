/- A part of the proof: the abstract execution. -/
import Derived.Still
import Derived.Below
import Derived.Laws.AppendOwnNone
import Derived.MapKept
import Derived.ChangeKeysEq
import Derived.WalkKit
import Derived.Laws.StructEq
import Derived.Laws.IdiomStrings
import Derived.Laws.BytesArg
import Derived.Lib.Builder
import Derived.Carry
set_option linter.unusedVariables false
set_option linter.unusedSimpArgs false
set_option linter.unnecessarySimpa false
set_option linter.deprecated false
set_option linter.unusedSectionVars false
set_option linter.constructorNameAsVariable false
open Go renaming run_underlying->kru
open List renaming length_cons->ja,length_append->jb,length_nil->jc,getElem?_eq_getElem->jf,mem_cons->jg,map_cons->jk,prefix_refl->jq,append_assoc->js,length_take->jt,nil_append->ju,getElem?_append_left->jB,getElem?_append_right->jC,getElem?_drop->jD,getElem?_take->jE,getElem?_set->jF,getElem?_eq_some_iff->jG,length_drop->jM,map_nil->jN,map_toArray->jY
open Nat renaming le_of_ble_eq_true->jh,eq_of_beq_eq_true->jm,le_refl->jw,zero_add->jx,lt_irrefl->jQ,zero_le->jR
open Bool renaming and_eq_true->ji
open BitVec renaming ofInt->jr
open Array renaming getElem?_eq_some_iff->jH,length_toList->jK
open Go.Result renaming andThen_ok->jZ
open Go.Sem renaming run_bind->ka,run_pure->ke
open Go.Op renaming operands->kf
open Go.Call renaming operands->kg
namespace Ax
theorem kbf {A : Type _} [BEq A] [LawfulBEq A] {a b : A} : (a == b) = false ↔ a ≠ b := beq_eq_false_iff_ne
theorem kod {p : Prop} [i : Decidable p] : decide p = true -> p := of_decide_eq_true
theorem kcf {A : Sort _} (a b : A) : (bif false then a else b) = b := rfl
theorem kct {A : Sort _} (a b : A) : (bif true then a else b) = a := rfl
theorem kdt {p : Prop} [i : Decidable p] : p -> decide p = true := decide_eq_true
theorem kdf {p : Prop} [i : Decidable p] : ¬p -> decide p = false := decide_eq_false
theorem kde {p : Prop} [i : Decidable p] : (decide p = true) = p := decide_eq_true_eq
theorem kbs {A : Type _} [BEq A] [ReflBEq A] (a : A) : (a == a) = true := beq_self_eq_true a
end Ax
section
namespace Ax
open Go
variable {Lw:Nat}
inductive PV where
 | bool (b:Bool)|int (k:IntKind) (n:Int)|str (l:List UInt8)
 | agg (cs:List PV)|tup (vs:List PV)|nilsl|sl (rows:List (List PV))
 | nilp|fn (f:FuncId)|nilfn|nili|ifc (t:TypeId) (v:PV)|nilmap|hp (row:List PV)|clo (f:FuncId) (caps:List PV)|bfn (f:FuncId) (bound:List PV)|ifo (n:Bool) (t:TypeId) (v:PV)
 | nsl (rows:List (List PV))
inductive FV where
 | top
 | p (v:PV)
 | opt (g:Bool) (v:FV)
 | tsl (k:Nat) (rows:List (List PV))
 | ptr (k off:Nat)
 | hptr (row:List PV)
 | bself (k:Nat)
 | bsl (k off len cap:Nat)
 | vsl (k n:Nat)
 | eptr (k z i off:Nat)
 | mref (k:Nat)
 | pair (a b:FV)
 | stmp (k:Nat)
 | clo (f:FuncId) (c:FV)
 | cap0
 | cap (a b:FV)
 | fagg (c:FV)
 | nxt (ok:Bool) (a b:PV)
 | asl (k off n:Nat)
 | ifs (t:TypeId) (c:FV)
 | cut (rows:List (List PV))
inductive AObj where
 | dead
 | box (t:TypeId) (cells:List FV)
 | tail (e:TypeId) (z n:Nat)
 | vec (e:TypeId) (z:Nat) (rows:List (List PV))
 | mp (d:TypeDesc) (es:List (PV×PV)) (mk:Option (PV×Nat))
 | sit (l:List UInt8) (pos:Nat)
 | bv (l:List UInt8)
 | vl (e:TypeId) (z:Nat) (rows:List (List PV)) (j k:Nat)
 | pbx (t:TypeId) (c:FV)
def AObj.live:AObj->Bool
 | .dead=>false
 | _=>true
def PH (Lw:Nat):Type:=Nat->Nat->Option Value
def PH.le (H H':(PH Lw)):Prop:=∀ b o v,H b o=some v->H' b o=some v
theorem PH.le.refl (H:(PH Lw)):PH.le H H:=fun _ _ _ h=>h
theorem PH.le.trans {a b c:(PH Lw)} (h:PH.le a b) (d:PH.le b c):PH.le a c:=fun _ _ _ x=>d _ _ _ (h _ _ _ x)
mutual
def qu (H:(PH Lw)):PV->Value->Prop
 | .bool b,v=>v=.bool b
 | .int k n,v=>v=.int k n
 | .str l,v=>v=.string ⟨l.toArray⟩
 | .agg cs,v=>∃ vs:List Value,v=.agg vs.toArray/\qU H cs vs
 | .tup cs,v=>∃ vs:List Value,v=.tuple vs.toArray/\qU H cs vs
 | .nilsl,v=>v=.slice none 0 0
 | .sl rows,v=>(rows=[]/\(v=.slice none 0 0\/∃ a cap,v=.slice (some a) 0 cap)) \/
   ∃ b o z cap,v=.slice (some ⟨b,o,none⟩) rows.length cap/\rows.length<=cap/\ca H b z o rows
 | .nilp,v=>v=.pointer none
 | .fn f,v=>v=.func (.func f) #[] #[]
 | .nilfn,v=>v=.nilFunc
 | .nili,v=>v=.nilIface
 | .ifc t p,v=>∃ u,v=.iface t u/\qu H p u
 | .nilmap,v=>v=.map none
 | .hp row,v=>∃ b o vs,v=.pointer (some ⟨b,o,none⟩)/\qU H row vs/\∀ j u,vs[j]? =some u->H b (o+j)=some u
 | .clo f cs,v=>∃ vs:List Value,v=.func (.func f) #[] vs.toArray/\qU H cs vs
 | .bfn f cs,v=>∃ vs:List Value,v=.func (.func f) vs.toArray #[]/\qU H cs vs
 | .ifo n t p,v=>(n=true/\v=.nilIface)\/(n=false/\∃ u,v=.iface t u/\qu H p u)
 | .nsl rows,v=>(rows=[]/\(v=.slice none 0 0\/∃ a cap,v=.slice (some a) 0 cap)) \/
   ∃ b o z cap,v=.slice (some ⟨b,o,none⟩) rows.length cap/\rows.length<=cap/\(Lw<=b/\o=0)/\ca H b z o rows
def qU (H:(PH Lw)):List PV->List Value->Prop
 | [],vs=>vs=[]
 | c::cs,vs=>∃ v vs',vs=v::vs'/\qu H c v/\qU H cs vs'
def ca (H:(PH Lw)) (b z:Nat):Nat->List (List PV)->Prop
 | _,[]=>True
 | o,r::rs=>r.length=z/\(∃ vs,qU H r vs/\∀ j v,vs[j]? =some v->H b (o+j)=some v)/\ca H b z (o+z) rs
end
mutual
theorem qu.mono {H H':(PH Lw)} (h:PH.le H H'):∀ {p:PV} {v:Value},qu H p v->qu H' p v
 | .bool _,_,x|.int ..,_,x|.str _,_,x|.nilsl,_,x|.nilp,_,x|.fn _,_,x|.nilfn,_,x|.nili,_,x|.nilmap,_,x=>by
  simp only[qu]at *; exact x
 | .agg cs,v,x=>by
  simp only[qu]at *;obtain⟨vs,e,r⟩:=x;exact⟨vs,e,qU.mono h r⟩
 | .tup cs,v,x=>by
  simp only[qu]at *;obtain⟨vs,e,r⟩:=x;exact⟨vs,e,qU.mono h r⟩
 | .sl rows,v,x=>by
  simp only[qu]at *;rcases x with x|⟨b,o,z,cap,e,l,r⟩
  ·exact .inl x
  exact .inr ⟨b,o,z,cap,e,l,ca.mono h r⟩
 | .ifc t p,v,x=>by
  simp only[qu]at *;obtain⟨u,e,r⟩:=x;exact⟨u,e,qu.mono h r⟩
 | .hp row,v,x=>by
  simp only[qu]at *;obtain⟨b,o,vs,e,r,c⟩:=x;exact⟨b,o,vs,e,qU.mono h r,fun j u hu=>h _ _ _ (c j u hu)⟩
 | .clo f cs,v,x=>by
  simp only[qu]at *;obtain⟨vs,e,r⟩:=x;exact⟨vs,e,qU.mono h r⟩
 | .bfn f cs,v,x=>by
  simp only[qu]at *;obtain⟨vs,e,r⟩:=x;exact⟨vs,e,qU.mono h r⟩
 | .ifo n t p,v,x=>by
  simp only[qu]at *;rcases x with x|⟨e,u,e',r⟩
  ·exact .inl x
  exact .inr ⟨e,u,e',qu.mono h r⟩
 | .nsl rows,v,x=>by
  simp only[qu]at *;rcases x with x|⟨b,o,z,cap,e,l,hb,r⟩
  ·exact .inl x
  exact .inr ⟨b,o,z,cap,e,l,hb,ca.mono h r⟩
theorem qU.mono {H H':(PH Lw)} (h:PH.le H H'):∀ {cs:List PV} {vs:List Value},qU H cs vs->qU H' cs vs
 | [],_,x=>by simp only[qU]at *; exact x
 | c::cs,vs,x=>by
  simp only[qU]at *;obtain⟨v,vs',e,r,rs⟩:=x;exact⟨v,vs',e,qu.mono h r,qU.mono h rs⟩
theorem ca.mono {H H':(PH Lw)} (h:PH.le H H') {b z:Nat}:∀ {o:Nat} {rows:List (List PV)},ca H b z o rows->ca H' b z o rows
 | _,[],_=>by simp only[ca]
 | o,r::rs,x=>by
  simp only[ca]at *;obtain⟨e,⟨vs,q,c⟩,x'⟩:=x;exact⟨e,⟨vs,qU.mono h q,fun j v hv=>h _ _ _ (c j v hv)⟩,ca.mono h x'⟩
end
theorem qU.length {H:(PH Lw)}:∀ {cs:List PV} {vs:List Value},qU H cs vs->vs.length=cs.length
 | [],vs,x=>by simp only[qU]at x; simp[x]
 | c::cs,vs,x=>by
  simp only[qU]at x;obtain⟨v,a,e,_,rs⟩:=x;simp[e,qU.length rs]
theorem qU.get {H:(PH Lw)}:∀ {cs:List PV} {vs:List Value} {i:Nat} {c:PV},qU H cs vs->cs[i]? =some c->∃ v,vs[i]? =some v/\qu H c v
 | [],_,_,_,_,h=>by simp at h
 | c::cs,vs,i,c',x,h=>by
  simp only[qU]at x;obtain⟨v,a,e,r,rs⟩:=x;subst e;cases i with
  | zero=>simp at h; subst h; exact⟨v,by simp,r⟩
  | succ i=>simp at h; obtain⟨u,hu,b⟩:=rs.get h; exact⟨u,by simpa using hu,b⟩
theorem qU.drop {H:(PH Lw)}:∀ {cs:List PV} {vs:List Value} (n:Nat),qU H cs vs->qU H (cs.drop n) (vs.drop n)
 | _,_,0,x=>by simpa using x
 | [],vs,n+1,x=>by simp only[qU]at x; simp[x,qU]
 | c::cs,vs,n+1,x=>by
  simp only[qU]at x;obtain⟨v,a,e,r,rs⟩:=x;subst e;simpa using rs.drop n
theorem qU.take {H:(PH Lw)}:∀ {cs:List PV} {vs:List Value} (n:Nat),qU H cs vs->qU H (cs.take n) (vs.take n)
 | _,_,0,x=>by simp[qU]
 | [],vs,n+1,x=>by simp only[qU]at x; simp[x,qU]
 | c::cs,vs,n+1,x=>by
  simp only[qU]at x;obtain⟨v,a,e,r,rs⟩:=x;subst e;simp only[List.take_succ_cons,qU];exact⟨v,_,rfl,r,rs.take n⟩
theorem qU.append {H:(PH Lw)}:∀ {cs a:List PV} {vs us:List Value},qU H cs vs->qU H a us->qU H (cs++a) (vs++us)
 | [],_,vs,_,x,y=>by simp only[qU]at x; simpa[x]using y
 | c::cs,a,vs,us,x,y=>by
  simp only[qU]at x;obtain⟨v,b,e,r,rs⟩:=x;subst e;simp only[List.cons_append,qU];exact⟨v,_,rfl,r,rs.append y⟩
theorem ca.get {H:(PH Lw)} {b z:Nat}:∀ {o:Nat} {rows:List (List PV)} {i:Nat} {r:List PV},ca H b z o rows->rows[i]? =some r ->
  r.length=z/\∃ vs,qU H r vs/\∀ j v,vs[j]? =some v->H b (o+i * z+j)=some v
 | _,[],_,_,_,h=>by simp at h
 | o,q::rs,i,r,x,h=>by
  simp only[ca]at x;obtain⟨e,c,a⟩:=x;cases i with
  | zero=>simp at h; subst h; simpa using⟨e,c⟩
  | succ i=>
   simp at h;have:=a.get h;have e2:o+z+i * z=o+(i+1) * z:=by rw[Nat.add_mul]; omega
   rwa [e2]at this
theorem ca.drop {H:(PH Lw)} {b z:Nat}:∀ {o:Nat} {rows:List (List PV)} (i:Nat),ca H b z o rows->ca H b z (o+i * z) (rows.drop i)
 | _,_,0,x=>by simpa using x
 | _,[],_+1,_=>by simp[ca]
 | o,q::rs,i+1,x=>by
  simp only[ca]at x;have:=x.2.2.drop i;have e2:o+z+i * z=o+(i+1) * z:=by rw[Nat.add_mul]; omega
  rw[e2]at this;simpa using this
theorem ca.take {H:(PH Lw)} {b z:Nat}:∀ {o:Nat} {rows:List (List PV)} (i:Nat),ca H b z o rows->ca H b z o (rows.take i)
 | _,_,0,_=>by simp[ca]
 | _,[],_+1,_=>by simp[ca]
 | o,q::rs,i+1,x=>by
  simp only[ca,List.take_succ_cons]at x ⊢;exact⟨x.1,x.2.1,x.2.2.take i⟩
mutual
def nle:PV->PV->Prop
 | .nilsl,.sl rows=>rows=[]
 | .nilsl,.nsl rows=>rows=[]
 | .agg a,.agg b=>Ln a b
 | .tup a,.tup b=>Ln a b
 | .hp a,.hp b=>Ln a b
 | .clo f a,.clo g b=>f=g/\Ln a b
 | .fn f,.clo g b=>f=g/\b=[]
 | .nili,.ifo n _ _=>n=true
 | .ifc t p,.ifo n t' q=>n=false/\t=t'/\nle p q
 | .nsl a,.sl b=>a=b
 | a,b=>a=b
def Ln:List PV->List PV->Prop
 | [],[]=>True
 | a::l,b::m=>nle a b/\Ln l m
 | _,_=>False
end
mutual
theorem Xm {H:(PH Lw)}:∀ {p q:PV} {v:Value},nle p q->qu H p v->qu H q v
 | .nilsl,q,v,h,r=>by
  cases q<;>simp only[nle]at h<;>first|(subst h; simp only[qu]at *; exact .inl ⟨trivial,.inl r⟩)|exact r|cases h
 | .agg a,q,v,h,r=>by
  cases q<;>simp only[nle]at h<;>try cases h
  simp only[qu]at *;obtain⟨vs,e,rr⟩:=r;exact⟨vs,e,pM h rr⟩
 | .tup a,q,v,h,r=>by
  cases q<;>simp only[nle]at h<;>try cases h
  simp only[qu]at *;obtain⟨vs,e,rr⟩:=r;exact⟨vs,e,pM h rr⟩
 | .hp a,q,v,h,r=>by
  cases q with
  | hp b'=>
   simp only[nle]at h;simp only[qu]at *;obtain⟨b,o,vs,e,rr,c⟩:=r;exact⟨b,o,vs,e,pM h rr,c⟩
  | _=>simp only[nle]at h; cases h
 | .clo f a,q,v,h,r=>by
  cases q with
  | clo g b=>
   simp only[nle]at h;obtain⟨rfl,h⟩:=h;simp only[qu]at *;obtain⟨vs,e,rr⟩:=r;exact⟨vs,e,pM h rr⟩
  | _=>simp only[nle]at h; cases h
 | .fn f,q,v,h,r=>by
  cases q with
  | clo g b=>
   simp only[nle]at h;obtain⟨rfl,rfl⟩:=h;simp only[qu]at *;exact⟨[],r,by simp only[qU]⟩
  | fn g=>simp only[nle]at h; cases h; exact r
  | _=>simp only[nle]at h; cases h
 | .bool _,q,v,h,r|.int ..,q,v,h,r|.str _,q,v,h,r|.sl _,q,v,h,r|.nilp,q,v,h,r|.nilfn,q,v,h,r|.nilmap,q,v,h,r|.bfn ..,q,v,h,r|.ifo ..,q,v,h,r=>by
  cases q<;>simp only[nle]at h<;>cases h<;>exact r
 | .nili,q,v,h,r=>by
  cases q with
  | ifo n t q=>
   simp only[nle]at h;simp only[qu]at *;exact .inl ⟨h,r⟩
  | nili=>exact r
  | _=>simp only[nle]at h; cases h
 | .ifc t p,q,v,h,r=>by
  cases q with
  | ifo n t' q=>
   simp only[nle]at h;obtain⟨h1,rfl,h3⟩:=h;simp only[qu]at *;obtain⟨u,e,ru⟩:=r;exact .inr ⟨h1,u,e,Xm h3 ru⟩
  | ifc t' q=>simp only[nle]at h; cases h; exact r
  | _=>simp only[nle]at h; cases h
 | .nsl a,q,v,h,r=>by
  cases q with
  | sl b=>
   simp only[nle]at h;subst h;simp only[qu]at *;rcases r with x|⟨b,o,z,cap,e,l,_,r⟩
   ·exact .inl x
   exact .inr ⟨b,o,z,cap,e,l,r⟩
  | nsl b=>simp only[nle]at h; cases h; exact r
  | _=>simp only[nle]at h; cases h
theorem pM {H:(PH Lw)}:∀ {p q:List PV} {v:List Value},Ln p q->qU H p v->qU H q v
 | [],[],_,_,r=>r
 | [],_::_,_,h,_=>by simp[Ln]at h
 | _::_,[],_,h,_=>by simp[Ln]at h
 | a::l,b::m,vs,h,r=>by
  simp only[Ln]at h;simp only[qU]at *;obtain⟨v,vs',e,r1,r2⟩:=r;exact⟨v,vs',e,Xm h.1 r1,pM h.2 r2⟩
end
def FL:List (List PV)->List (List PV)->Prop
 | [],[]=>True
 | a::l,b::m=>Ln a b/\FL l m
 | _,_=>False
theorem Xl:∀ {p q:List PV},Ln p q->p.length=q.length
 | [],[],_=>rfl
 | [],_::_,h=>by simp[Ln]at h
 | _::_,[],h=>by simp[Ln]at h
 | a::l,b::m,h=>by simp only[Ln]at h; simp[Xl h.2]
theorem bo:∀ {p q:List (List PV)},FL p q->p.length=q.length
 | [],[],_=>rfl
 | [],_::_,h=>by simp[FL]at h
 | _::_,[],h=>by simp[FL]at h
 | a::l,b::m,h=>by simp only[FL]at h; simp[bo h.2]
theorem Ni {H:(PH Lw)} {b z:Nat}:∀ {o:Nat} {p q:List (List PV)},FL p q->ca H b z o p->ca H b z o q
 | _,[],[],_,_=>by simp only[ca]
 | _,[],_::_,h,_=>by simp[FL]at h
 | _,_::_,[],h,_=>by simp[FL]at h
 | o,r::rs,s::ss,h,x=>by
  simp only[FL]at h;simp only[ca]at *;obtain⟨e,⟨vs,q,c⟩,a⟩:=x;exact⟨by rw[← e,Xl h.1],⟨vs,pM h.1 q,c⟩,Ni h.2 a⟩
theorem eI {H:(PH Lw)} {p q:List (List PV)} {v:Value} (h:p=q\/FL p q) (r:qu H (.sl p) v):qu H (.sl q) v:=by
 rcases h with rfl|h
 ·exact r
 simp only[qu]at *;rcases r with ⟨rfl,r⟩|⟨b,o,z,cap,e,l,r⟩
 ·cases q with
  | nil=>exact .inl ⟨rfl,r⟩
  | cons _ _=>simp[FL]at h
 ·have e2:=bo h
  exact .inr ⟨b,o,z,cap,by rw[← e2]; exact e,by rw[← e2]; exact l,Ni h r⟩
def qL (ρ:List Value) (H:(PH Lw)):FV->Value->Prop
 | .top,_=>True
 | .p p,x=>qu H p x
 | .opt g v,x=>if g=true then qL ρ H v x else x=undef
 | .tsl k rows,x=>ρ[k]? =some x/\qu H (.sl rows) x
 | .ptr k off,x=>∃ b,ρ[k]? =some (.pointer (some ⟨b,0,none⟩))/\x=.pointer (some ⟨b,off,none⟩)
 | .hptr row,x=>∃ b o vs,x=.pointer (some ⟨b,o,none⟩)/\qU H row vs/\∀ j v,vs[j]? =some v->H b (o+j)=some v
 | .bself k,x=>∃ b,ρ[k]? =some (.pointer (some ⟨b,0,none⟩))/\(x=.pointer none\/x=.pointer (some ⟨b,0,none⟩))
 | .bsl k off len cap,x=>∃ b,ρ[k]? =some (.pointer (some ⟨b,0,none⟩))/\∃ c,x=.slice (some ⟨b,off,none⟩) len c/\(cap=0\/c=cap)
 | .vsl k n,x=>ρ[k]? =some x/\((n=0/\x=.slice none 0 0)\/∃ b cap,x=.slice (some ⟨b,0,none⟩) n cap)
 | .eptr k z i off,x=>∃ b n cap,ρ[k]? =some (.slice (some ⟨b,0,none⟩) n cap)/\x=.pointer (some ⟨b,i * z+off,none⟩)
 | .mref k,x=>∃ b,ρ[k]? =some (.map (some b))/\x=.map (some b)
 | .pair a b,x=>∃ u v,x=.tuple #[u,v]/\qL ρ H a u/\qL ρ H b v
 | .stmp k,x=>ρ[k]? =some x
 | .clo f c,x=>∃ vs:List Value,x=.func (.func f) #[] vs.toArray/\qL ρ H c (.tuple vs.toArray)
 | .cap0,x=>x=.tuple #[]
 | .cap a b,x=>∃ (u:Value) (vs:List Value),x=.tuple (u::vs).toArray/\qL ρ H a u/\qL ρ H b (.tuple vs.toArray)
 | .fagg c,x=>∃ vs:List Value,x=.agg vs.toArray/\qL ρ H c (.tuple vs.toArray)
 | .nxt ok a b,x=>if ok=true then ∃ u v,x=.tuple #[.bool true,u,v]/\qu H a u/\qu H b v else x=.tuple #[.bool false]
 | .asl k off n,x=>∃ b e d c,ρ[k]? =some (.slice (some ⟨b,0,none⟩) e d)/\x=.slice (some ⟨b,off,none⟩) n c
 | .ifs t c,x=>∃ u,x=.iface t u/\qL ρ H c u
 | .cut rows,x=>qu H (.sl rows) x/\∃ p n,x=.slice p n n
theorem qL.mono {ρ ρ':List Value} {H H':(PH Lw)} (d:ρ <+: ρ') (h:PH.le H H'):∀ {f:FV} {x:Value},qL ρ H f x->qL ρ' H' f x
 | .top,_,_=>trivial
 | .p p,x,r=>qu.mono h (p:=p) r
 | .opt g v,x,r=>by
  simp only[qL]at *;split
  ·rename_i B; simp only[B,if_true]at r; exact qL.mono d h r
  rename_i B; simpa[B]using r
 | .tsl k rows,x,r=>by
  obtain⟨l,rfl⟩:=d;refine⟨?_,qu.mono h r.2⟩;rw[jB (jG.1 r.1).1]; exact r.1
 | .ptr k off,x,r=>by
  obtain⟨l,rfl⟩:=d;obtain⟨b,e,m⟩:=r;refine⟨b,?_,m⟩;rw[jB (jG.1 e).1]; exact e
 | .hptr row,x,r=>by
  obtain⟨b,o,vs,e,q,c⟩:=r;exact⟨b,o,vs,e,qU.mono h q,fun j v C=>h _ _ _ (c j v C)⟩
 | .bself k,x,r=>by
  obtain⟨l,rfl⟩:=d;obtain⟨b,e,m⟩:=r;refine⟨b,?_,m⟩;rw[jB (jG.1 e).1]; exact e
 | .bsl k off len cap,x,r=>by
  obtain⟨l,rfl⟩:=d;obtain⟨b,e,m⟩:=r;refine⟨b,?_,m⟩;rw[jB (jG.1 e).1]; exact e
 | .vsl k n,x,r=>by
  obtain⟨l,rfl⟩:=d;refine⟨?_,r.2⟩;rw[jB (jG.1 r.1).1]; exact r.1
 | .eptr k z i off,x,r=>by
  obtain⟨l,rfl⟩:=d;obtain⟨b,n,cap,e,m⟩:=r;refine⟨b,n,cap,?_,m⟩;rw[jB (jG.1 e).1]; exact e
 | .mref k,x,r=>by
  obtain⟨l,rfl⟩:=d;obtain⟨b,e,m⟩:=r;refine⟨b,?_,m⟩;rw[jB (jG.1 e).1]; exact e
 | .pair a b,x,r=>by
  obtain⟨u,v,e,w,y⟩:=r;exact⟨u,v,e,w.mono d h,y.mono d h⟩
 | .stmp k,x,r=>by
  obtain⟨l,rfl⟩:=d;simp only[qL]at *;rw[jB (jG.1 r).1]; exact r
 | .clo f c,x,r=>by
  obtain⟨vs,e,rc⟩:=r;exact⟨vs,e,rc.mono d h⟩
 | .cap0,x,r=>r
 | .cap a b,x,r=>by
  obtain⟨u,vs,e,w,y⟩:=r;exact⟨u,vs,e,w.mono d h,y.mono d h⟩
 | .fagg c,x,r=>by
  obtain⟨vs,e,rc⟩:=r;exact⟨vs,e,rc.mono d h⟩
 | .nxt ok a b,x,r=>by
  simp only[qL]at *;split
  ·rename_i s
   simp only[s,if_true]at r;obtain⟨u,v,e,w,y⟩:=r;exact⟨u,v,e,w.mono h,y.mono h⟩
  rename_i s; simpa[s]using r
 | .asl k off n,x,r=>by
  obtain⟨l,rfl⟩:=d;obtain⟨b,D,A,c,e,m⟩:=r;refine⟨b,D,A,c,?_,m⟩;rw[jB (jG.1 e).1]; exact e
 | .ifs t c,x,r=>by
  obtain⟨u,e,rc⟩:=r;exact⟨u,e,rc.mono d h⟩
 | .cut rows,x,r=>⟨qu.mono h r.1,r.2⟩
def zJ (ρ:List Value) (H:(PH Lw)):List FV->List Value->Prop
 | [],vs=>vs=[]
 | c::cs,vs=>∃ v a,vs=v::a/\qL ρ H c v/\zJ ρ H cs a
theorem zJ.mono {ρ ρ':List Value} {H H':(PH Lw)} (b:ρ <+: ρ') (h:PH.le H H'):∀ {cs:List FV} {vs:List Value},zJ ρ H cs vs->zJ ρ' H' cs vs
 | [],_,x=>x
 | c::cs,vs,x=>by
  obtain⟨v,a,e,r,rs⟩:=x;exact⟨v,a,e,r.mono b h,rs.mono b h⟩
theorem zJ.length {ρ:List Value} {H:(PH Lw)}:∀ {cs:List FV} {vs:List Value},zJ ρ H cs vs->vs.length=cs.length
 | [],vs,x=>by simp only[zJ]at x; simp[x]
 | c::cs,vs,x=>by
  obtain⟨v,a,e,_,rs⟩:=x;simp[e,zJ.length rs]
theorem zJ.drop {ρ:List Value} {H:(PH Lw)}:∀ {cs:List FV} {vs:List Value} (n:Nat),zJ ρ H cs vs->zJ ρ H (cs.drop n) (vs.drop n)
 | _,_,0,x=>by simpa using x
 | [],vs,n+1,x=>by simp only[zJ]at x; simp[x,zJ]
 | c::cs,vs,n+1,x=>by
  obtain⟨v,a,e,r,rs⟩:=x;subst e;simpa using rs.drop n
theorem zJ.take {ρ:List Value} {H:(PH Lw)}:∀ {cs:List FV} {vs:List Value} (n:Nat),zJ ρ H cs vs->zJ ρ H (cs.take n) (vs.take n)
 | _,_,0,x=>by simp[zJ]
 | [],vs,n+1,x=>by simp only[zJ]at x; simp[x,zJ]
 | c::cs,vs,n+1,x=>by
  obtain⟨v,a,e,r,rs⟩:=x;subst e;simp only[List.take_succ_cons,zJ];exact⟨v,_,rfl,r,rs.take n⟩
theorem zJ.of_RepL {ρ:List Value} {H:(PH Lw)}:∀ {cs:List PV} {vs:List Value},qU H cs vs->zJ ρ H (cs.map .p) vs
 | [],_,x=>by simp only[qU]at x; simpa[zJ]using x
 | c::cs,vs,x=>by
  simp only[qU]at x;obtain⟨v,a,e,r,rs⟩:=x;exact⟨v,a,e,r,zJ.of_RepL rs⟩
def MI (H:(PH Lw)):Prop:=∃ m,H 0 0=some (.int .i64 m)
def fZ (w:World) (b o:Nat) (v:Value):Prop:=(∃ m,v=.int .u8 m)\/w.frozen? ⟨b,o,none⟩=false
theorem fZ.block {w w':World} {b o:Nat} {v:Value} (h:fZ w b o v) (e:w'.heap[b]? =w.heap[b]?):fZ w' b o v:=by
 unfold fZ World.frozen? at *;rw[e]; exact h
theorem fZ.of {w:World} {b o:Nat} {v:Value} {c:Array Value} {e:TypeId} (h:w.heap[b]? =some (.cells c e (0,0))):fZ w b o v:=by
 refine .inr ?_;unfold World.frozen?;rw[h]; simp
structure SatH (H:(PH Lw)) (w:World):Prop where
 cell:∀ b o v,H b o=some v->w.cell? ⟨b,o,none⟩=some v/\v.oneCell'=true
 root:MI H
 low:Lw<=w.heap.size
 nf:∀ b o v,H b o=some v->Lw<=b->fZ w b o v
instance {H:(PH Lw)} {w:World}:CoeFun (SatH H w) (fun _=>∀ b o v,H b o=some v->w.cell? ⟨b,o,none⟩=some v/\v.oneCell'=true):=⟨SatH.cell⟩
theorem MI.mono {H H':(PH Lw)} (h:MI H) (a:∀ b o v,H b o=some v->H' b o=some v):MI H':=let ⟨m,hm⟩:=h; ⟨m,a _ _ _ hm⟩
structure Keep (S:Nat->Prop) (w0 w:World):Prop where
 os:w.os=w0.os
 tape:w.tape=w0.tape
 output:w.output=w0.output
 size:w0.heap.size<=w.heap.size
 block:∀ k,k<w0.heap.size->¬ S k->w.heap[k]? =w0.heap[k]?
theorem Keep.refl (S:Nat->Prop) (w:World):Keep S w w:=⟨rfl,rfl,rfl,jw _,fun _ _ _=>rfl⟩
theorem Keep.trans {S:Nat->Prop} {a b c:World} (h:Keep S a b) (k:Keep S b c):Keep S a c:=
 ⟨k.os.trans h.os,k.tape.trans h.tape,k.output.trans h.output,Nat.le_trans h.size k.size,
  fun i d e=>(k.block i (Nat.lt_of_lt_of_le d h.size) e).trans (h.block i d e)⟩
theorem Keep.step {S S':Nat->Prop} {a b c:World} (h:Keep S a b) (k:Keep S' b c) (f:∀ i,S' i->S i\/a.heap.size<=i):Keep S a c:=
 ⟨k.os.trans h.os,k.tape.trans h.tape,k.output.trans h.output,Nat.le_trans h.size k.size,
  fun i d e=>(k.block i (Nat.lt_of_lt_of_le d h.size) (fun x=>(f i x).elim e (by omega))).trans (h.block i d e)⟩
abbrev EA:Nat->Prop:=fun _=>False
structure Base (Lw:Nat) where
 S:Nat->Prop
 w0:World
 H0:(PH Lw)
 r0:List Value
def qI:Value->Option Nat
 | .pointer (some a)=>some a.block
 | .slice (some a) _ _=>some a.block
 | .map r=>r
 | _=>none
def fp (H:(PH Lw)) (z:Nat):List (List PV)->List Value->Prop
 | [],vs=>vs=[]
 | r::rs,vs=>r.length=z/\∃ a b,vs=a++b/\qU H r a/\fp H z rs b
theorem fp.mono {H H':(PH Lw)} (h:PH.le H H') {z:Nat}:∀ {rows:List (List PV)} {vs:List Value},fp H z rows vs->fp H' z rows vs
 | [],_,x=>x
 | r::rs,vs,x=>by
  obtain⟨hz,a,b,e,q,y⟩:=x;exact⟨hz,a,b,e,qU.mono h q,y.mono h⟩
def DC (H:(PH Lw)):List (PV×PV)->List MapEntry->Prop
 | [],l=>l=[]
 | (k,p)::es,l=>∃ e l',l=e::l'/\qu H k e.key/\qu H p e.val/\DC H es l'
theorem DC.mono {H H':(PH Lw)} (h:PH.le H H'):∀ {es:List (PV×PV)} {l:List MapEntry},DC H es l->DC H' es l
 | [],_,x=>x
 | (k,p)::es,l,x=>by
  obtain⟨e,l',e1,a,b,c⟩:=x;exact⟨e,l',e1,qu.mono h a,qu.mono h b,c.mono h⟩
def MG (ρ:List Value) (H:(PH Lw)) (ents:Array MapEntry) (mk:Option (PV×Nat)):Prop:=
 ∀ key s,mk=some (key,s)->∃ (j:Nat) (e:MapEntry),ents[j]? =some e/\qu H key e.key/\ρ[s]? =some (.int .i64 e.born)
theorem MG.mono {ρ ρ':List Value} {H H':(PH Lw)} {ents:Array MapEntry} {mk:Option (PV×Nat)} (b:ρ <+: ρ') (h:PH.le H H') (m:MG ρ H ents mk):MG ρ' H' ents mk:=fun key s e=>by
 obtain⟨j,x,c,d,a⟩:=m key s e;obtain⟨l,rfl⟩:=b;exact⟨j,x,c,qu.mono h d,by rw[jB (jG.1 a).1]; exact a⟩
def sD (ρ:List Value) (H:(PH Lw)) (w:World) (v:Value):AObj->Prop
 | .dead=>True
 | .box t cells=>∃ b vs,v=.pointer (some ⟨b,0,none⟩)/\w.heap[b]? =some (.cells vs.toArray t (0,0))/\zJ ρ H cells vs/\∀ o,H b o=none
 | .tail e z n=>∃ xs,w.ownsRow 0 e z v n xs/\∀ b,qI v=some b->(∀ j u,xs[j]? =some u->H b j=some u)/\∀ o,n * z<=o->H b o=none
 | .vec e z rows=>∃ xs,w.ownsRow 0 e z v rows.length xs/\fp H z rows xs/\(∀ u∈xs,u.oneCell'=true)/\∀ b,qI v=some b->∀ o,H b o=none
 | .mp d es mk=>∃ b ents clock,v=.map (some b)/\w.heap[b]? =some (.map ents clock)/\DC H es ents.toList/\(MapKept.Stamped ents clock/\(∀ x∈ents.toList,MapKept.IsKey d x.key)/\MG ρ H ents mk)/\∀ o,H b o=none
 | .sit l pos=>∃ b,v=.pointer (some ⟨b,0,none⟩)/\w.heap[b]? =some (.stringIter ⟨l.toArray⟩ pos)/\∀ o,H b o=none
 | .bv l=>∃ b cs e cap lo a,v=.slice (some ⟨b,0,none⟩) l.length cap/\w.heap[b]? =some (.cells cs e (lo,a))/\(l.length<=lo\/a<=lo)/\(∀ (j:Nat) (c:UInt8),l[j]? =some c->cs[j]? =some (.int .u8 c.toNat))/\∀ o,H b o=none
 | .vl e z rows j k=>∃ xs,w.ownsRow 0 e z v rows.length xs/\fp H z rows xs/\(∀ u∈xs,u.oneCell'=true)/\(∀ b,qI v=some b->∀ o,H b o=none)/\∀ u,xs[(rows.length - 1) * z+j]? =some u->ρ[k]? =some u
 | .pbx t c=>∃ b u us,v=.pointer (some ⟨b,0,none⟩)/\w.heap[b]? =some (.cells (u::us).toArray t (0,0))/\qL ρ H c u/\∀ o,H b o=none
structure SatW (bs:(Base Lw)) (ρ:List Value) (H:(PH Lw)) (lo:List AObj) (w:World):Prop where
 sath:SatH H w
 hlen:ρ.length=lo.length
 pre:bs.r0 <+: ρ
 objs:∀ (k:Nat) (o:AObj) (v:Value),lo[k]? =some o->ρ[k]? =some v->sD ρ H w v o
 excl:∀ (k k':Nat) (o o':AObj) (v v':Value) (b:Nat),lo[k]? =some o->lo[k']? =some o'->ρ[k]? =some v->ρ[k']? =some v'->k≠k' ->
  o.live=true->o'.live=true->qI v=some b->qI v'≠some b
 own:∀ (k:Nat) (o:AObj) (v:Value) (b:Nat),lo[k]? =some o->ρ[k]? =some v->o.live=true->qI v=some b->bs.S b\/bs.w0.heap.size<=b
 keep:Keep bs.S bs.w0 w
 leH:PH.le bs.H0 H
 newH:∀ b o v,H b o=some v->(∃ v,bs.H0 b o=some v)\/bs.S b\/bs.w0.heap.size<=b
structure Sat (bs:(Base Lw)) (N:Nat) (ρ:List Value) (H:(PH Lw)) (e:Nat->FV) (lo:List AObj) (a:Act) (w:World):Prop extends SatW bs ρ H lo w where
 slots:∀ t,qL ρ H (e t) (a.tmps.getD t undef)
 width:a.tmps.size=N
 defers:a.defers=[]
structure Calm (H:(PH Lw)) (w:World) (H':(PH Lw)) (w':World):Prop where
 le:PH.le H H'
 sat:SatH H' w'
 keep:Keep EA w w'
 new:∀ b o v,H' b o=some v->(∃ v,H b o=some v)\/w.heap.size<=b
theorem Calm.refl {H:(PH Lw)} {w:World} (h:SatH H w):Calm H w H w:=⟨PH.le.refl H,h,Keep.refl _ w,fun _ _ v h=>.inl ⟨v,h⟩⟩
theorem Calm.trans {H H' a:(PH Lw)} {w w' c:World} (h:Calm H w H' w') (k:Calm H' w' a c):Calm H w a c:=
 ⟨h.le.trans k.le,k.sat,h.keep.trans k.keep,fun b o v e=>by
  rcases k.new b o v e with ⟨v',d⟩|f
  ·exact h.new b o v' d
  exact .inr (Nat.le_trans h.keep.size f)⟩
theorem SatH.block {H:(PH Lw)} {w w':World} (h:SatH H w) (c:w.heap.size<=w'.heap.size) (e:∀ b o v,H b o=some v->w'.heap[b]? =w.heap[b]?):SatH H w':=⟨fun b o v d=>by
 rw[World.cell?_of_block (w:=w) (a:=⟨b,o,none⟩) (e b o v d)]; exact h.cell b o v d,h.root,Nat.le_trans h.low c,fun b o v d f=>(h.nf b o v d f).block (e b o v d)⟩
theorem SatH.lt {H:(PH Lw)} {w:World} (h:SatH H w) {b o:Nat} {v:Value} (a:H b o=some v):b<w.heap.size:=
 World.block_lt_of_cell? w ⟨b,o,none⟩ (h.cell b o v a).1
theorem fZ.own {w:World} {e:TypeId} {z n:Nat} {v:Value} {xs:List Value} (h:w.ownsRow 0 e z v n xs) {b o:Nat} {u:Value} (a:qI v=some b):fZ w b o u:=by
 rcases h.2 with ⟨rfl,_⟩|⟨g,cap,cur,rfl,_,c,_⟩
 ·simp[qI]at a
 simp only[qI,Option.some.injEq]at a;subst a;exact .of c
theorem vB {w:World} {b:Nat} {o:Obj} (h:w.heap[b]? =some o):b<w.heap.size:=(jH.1 h).1
theorem tK {w w':World} {e:TypeId} {z n:Nat} {v:Value} {xs:List Value} (h:w.ownsRow 0 e z v n xs)
  (d:∀ b,qI v=some b->b<w.heap.size->w'.heap[b]? =w.heap[b]?):w'.ownsRow 0 e z v n xs:=by
 refine⟨h.1,?_⟩;rcases h.2 with f|⟨g,cap,cur,a,i,c,r⟩
 ·exact .inl f
 refine .inr ⟨g,cap,cur,a,i,?_,r⟩;rw[d g (by simp[a,qI]) (vB c)]; exact c
theorem sD.keep {ρ ρ':List Value} {H H':(PH Lw)} {w w':World} {v:Value} {o:AObj} (h:sD ρ H w v o) (A:ρ <+: ρ') (x:PH.le H H')
  (q:∀ b,qI v=some b->b<w.heap.size->w'.heap[b]? =w.heap[b]?) (r:∀ b o',qI v=some b->b<w.heap.size->H b o'=none->H' b o'=none) :
  sD ρ' H' w' v o:=by
 cases o with
 | dead=>trivial
 | box t cells=>
  obtain⟨b,vs,rfl,f,B,m⟩:=h;have a:=vB f;exact⟨b,vs,rfl,by rw[q b (by simp[qI]) a]; exact f,B.mono A x,fun o=>r b o (by simp[qI]) a (m o)⟩
 | tail e z n=>
  obtain⟨xs,s,m⟩:=h;refine⟨xs,tK s q,fun b i=>⟨fun j u hu=>x _ _ _ ((m b i).1 j u hu),fun o C=>?_⟩⟩
  have a:b<w.heap.size:=by
   rcases s.2 with ⟨rfl,_⟩|⟨g,cap,cur,rfl,_,f,_⟩
   ·simp[qI]at i
   simp[qI]at i; subst i; exact vB f
  exact r b o i a ((m b i).2 o C)
 | vec e z rows=>
  obtain⟨xs,s,p,y,m⟩:=h;refine⟨xs,tK s q,p.mono x,y,fun b i o=>?_⟩;have a:b<w.heap.size:=by
   rcases s.2 with ⟨rfl,_⟩|⟨g,cap,cur,rfl,_,f,_⟩
   ·simp[qI]at i
   simp[qI]at i; subst i; exact vB f
  exact r b o i a (m b i o)
 | mp d es mk=>
  obtain⟨b,ents,clock,rfl,f,p,⟨y,D,E⟩,m⟩:=h;have a:=vB f;exact⟨b,ents,clock,rfl,by rw[q b (by simp[qI]) a]; exact f,p.mono x,⟨y,D,E.mono A x⟩,fun o=>r b o (by simp[qI]) a (m o)⟩
 | sit l pos=>
  obtain⟨b,rfl,f,m⟩:=h;have a:=vB f;exact⟨b,rfl,by rw[q b (by simp[qI]) a]; exact f,fun o=>r b o (by simp[qI]) a (m o)⟩
 | bv l=>
  obtain⟨b,cs,e,cap,lo,F,rfl,f,y,D,m⟩:=h;have a:=vB f;exact⟨b,cs,e,cap,lo,F,rfl,by rw[q b (by simp[qI]) a]; exact f,y,D,fun o=>r b o (by simp[qI]) a (m o)⟩
 | pbx t c=>
  obtain⟨b,u,us,rfl,f,B,m⟩:=h;have a:=vB f;exact⟨b,u,us,rfl,by rw[q b (by simp[qI]) a]; exact f,B.mono A x,fun o=>r b o (by simp[qI]) a (m o)⟩
 | vl e z rows j k=>
  obtain⟨xs,s,p,y,m,G⟩:=h;refine⟨xs,tK s q,p.mono x,y,fun b i o=>?_,fun u hu=>?_⟩
  ·have a:b<w.heap.size:=by
    rcases s.2 with ⟨rfl,_⟩|⟨g,cap,cur,rfl,_,f,_⟩
    ·simp[qI]at i
    simp[qI]at i; subst i; exact vB f
   exact r b o i a (m b i o)
  have hu:=G u hu;obtain⟨l,rfl⟩:=A;rw[jB (jG.1 hu).1]; exact hu
theorem SatW.calm {bs:(Base Lw)} {ρ:List Value} {H H':(PH Lw)} {lo:List AObj} {w w':World} (s:SatW bs ρ H lo w) (c:Calm H w H' w'):SatW bs ρ H' lo w' where
 sath:=c.sat
 hlen:=s.hlen
 pre:=s.pre
 objs:=fun k o v g e=>(s.objs k o v g e).keep (jq _) c.le (fun b _ f=>c.keep.block b f id) (fun b o' _ f i=>by
  cases j:H' b o' with
  | none=>rfl
  | some x=>
   rcases c.new b o' x j with ⟨y,d⟩|a
   ·rw[i]at d; cases d
   omega)
 excl:=s.excl
 own:=s.own
 keep:=s.keep.step c.keep (fun _ h=>h.elim)
 leH:=s.leH.trans c.le
 newH:=fun b o v e=>by
  rcases c.new b o v e with ⟨y,d⟩|a
  ·exact s.newH b o y d
  exact .inr (.inr (Nat.le_trans s.keep.size a))
theorem SatW.view {bs:(Base Lw)} {ρ:List Value} {H:(PH Lw)} {lo:List AObj} {w:World} (s:SatW bs ρ H lo w) {k:Nat} {o o':AObj} (A:lo[k]? =some o) (B:o.live=true) (_:o'.live=true) (h:∀ v,ρ[k]? =some v->sD ρ H w v o->sD ρ H w v o') :
  SatW bs ρ H (lo.set k o') w:=by
 have old:∀ {x:Nat} {c:AObj},(lo.set k o')[x]? =some c->c.live=true->∃ f,lo[x]? =some f/\f.live=true:=by
  intro x c l d;rw[jF]at l;split at l
  ·rename_i e; subst e; exact⟨o,A,B⟩
  exact⟨c,l,d⟩
 refine{ s with hlen:=by simpa using s.hlen,objs:=fun i c v a g=>?_,excl:=fun i j oi oj vi C b a D m n p q r t=>?_,own:=fun i c v b a g d t=>?_ }
 ·rw[jF]at a
  split at a
  ·rename_i e
   subst e;split at a
   ·cases a
    exact h v g (s.objs k o v A g)
   cases a
  ·exact s.objs i c v a g
 ·obtain⟨u,y,z⟩:=old a q
  obtain⟨E,F,G⟩:=old D r;exact s.excl i j u E vi C b y F m n p z G t
 obtain⟨u,y,z⟩:=old a d;exact s.own i u v b y g z t
theorem iB {ρ:List Value} {H:(PH Lw)} {w:World} {v:Value} {e:TypeId} {z j k:Nat} {rows:List (List PV)} (h:sD ρ H w v (.vl e z rows j k)):sD ρ H w v (.vec e z rows):=
 let ⟨xs,h1,h2,h3,h4,_⟩:=h
 ⟨xs,h1,h2,h3,h4⟩
end Ax
end
section
namespace Ax
open Go
variable {Lw:Nat}
abbrev Env:=List (Nat×FV)
def qG:Env->Nat->FV
 | [],_=>.top
 | (t',v)::E,t=>match Nat.beq t t' with|true=>v|false=>qG E t
def ik:Env->Nat->(FV->Prop)->Prop
 | [],_,R=>R .top
 | (t',v)::E,t,R=>match Nat.beq t t' with|true=>R v|false=>ik E t R
def TZ (v:PV) (R:PV->Prop):Prop:=
 match v with
 | .bool b=>R (.bool b)|.int k n=>R (.int k n)|.str l=>R (.str l)
 | .agg cs=>R (.agg cs)|.tup vs=>R (.tup vs)|.nilsl=>R .nilsl|.sl rows=>R (.sl rows)
 | .nilp=>R .nilp|.fn f=>R (.fn f)|.nilfn=>R .nilfn|.nili=>R .nili|.ifc t v=>R (.ifc t v)|.nilmap=>R .nilmap|.hp row=>R (.hp row)|.clo f cs=>R (.clo f cs)|.bfn f cs=>R (.bfn f cs)|.ifo n t v=>R (.ifo n t v)|.nsl rows=>R (.nsl rows)
def Rg (v:FV) (R:FV->Prop):Prop:=
 match v with
 | .top=>R .top
 | .p v=>TZ v fun v=>R (.p v)
 | .opt g v=>R (.opt g v)
 | .tsl k rows=>R (.tsl k rows)
 | .ptr k off=>R (.ptr k off)
 | .hptr row=>R (.hptr row)
 | .bself k=>R (.bself k)
 | .bsl k off len cap=>R (.bsl k off len cap)
 | .vsl k n=>R (.vsl k n)
 | .eptr k z i off=>R (.eptr k z i off)
 | .mref k=>R (.mref k)
 | .pair a b=>R (.pair a b)
 | .stmp k=>R (.stmp k)
 | .clo f c=>R (.clo f c)
 | .cap0=>R .cap0
 | .cap a b=>R (.cap a b)
 | .fagg c=>R (.fagg c)
 | .nxt ok a b=>R (.nxt ok a b)
 | .asl k off n=>R (.asl k off n)
 | .ifs t c=>R (.ifs t c)
 | .cut rows=>R (.cut rows)
theorem Rh (v:PV) (R:PV->Prop):TZ v R=R v:=by cases v<;>rfl
theorem Hk (v:FV) (R:FV->Prop):Rg v R=R v:=by cases v<;>first|rfl|exact Rh _ (fun v=>R (.p v))
def lP:Value->Option PV
 | .bool b=>some (.bool b)
 | .int k n=>some (.int k n)
 | .string ⟨⟨l⟩⟩=>some (.str l)
 | .slice none 0 0=>some .nilsl
 | .pointer none=>some .nilp
 | .nilIface=>some .nili
 | .nilFunc=>some .nilfn
 | .map none=>some .nilmap
 | _=>none
def Pw:List Value->(List PV->Prop)->Prop
 | [],R=>R []
 | v::vs,R=>match lP v with|some p=>Pw vs fun l=>R (p::l)|none=>False
def ay:List Value->Option (List PV)
 | []=>some []
 | v::vs=>match lP v with
  | some p=>(match ay vs with|some l=>some (p::l)|none=>none)
  | none=>none
def aT:Value->FV
 | .tuple ⟨[]⟩=>.p (.tup [])
 | .agg ⟨vs⟩=>match ay vs with|some ps=>.p (.agg ps)|none=>.top
 | v=>match lP v with|some p=>.p p|none=>.top
def oT (e:Nat->FV):Operand->FV
 | .tmp t=>e t
 | .const v=>aT v
 | .func f=>.p (.fn f)
 | .global _=>.top
def ev (E:Env) (x:Operand) (R:FV->Prop):Prop:=
 match x with
 | .tmp t=>ik E t R
 | .const v=>Rg (aT v) R
 | .func f=>R (.p (.fn f))
 | .global _=>R .top
abbrev G:=Option Bool
def oZ (g:G):Prop:=match g with|none=>True|some b=>b=true
def gI (g:G) (p:Prop):Prop:=match g with|none=>p|some b=>b=true->p
def oV (E:Env) (g:G) (x:Operand) (R:FV->Prop):Prop:=
 ev E x fun v=>match v with
 | .opt g' v'=>gI g (g'=true)/\R v'
 | v=>R v
def lT:List FV->FV
 | []=>.cap0
 | v::l=>.cap v (lT l)
def mG:FV->(List FV->Prop)->Prop
 | .cap0,R=>R []
 | .cap a b,R=>mG b fun l=>R (a::l)
 | _,_=>False
def XX {α:Type}:Nat->List α->(List α->Prop)->Prop
 | 0,_,R=>R []
 | n+1,l,R=>match l with|[]=>False|a::l=>XX n l fun l=>R (a::l)
def Qb {α:Type}:Nat->List α->(List α->Prop)->Prop
 | 0,l,R=>R l
 | n+1,l,R=>match l with|[]=>False|_::l=>Qb n l R
def nX {α:Type}:Nat->List α->(α->Prop)->Prop
 | 0,l,R=>match l with|[]=>False|a::_=>R a
 | n+1,l,R=>match l with|[]=>False|_::l=>nX n l R
def Xn {α:Type}:Nat->α->List α->(List α->Prop)->Prop
 | 0,x,l,R=>match l with|[]=>False|_::l=>R (x::l)
 | n+1,x,l,R=>match l with|[]=>False|a::l=>Xn n x l fun l=>R (a::l)
def mC {α:Type}:List α->α->(List α->Prop)->Prop
 | [],x,R=>R [x]
 | a::l,x,R=>mC l x fun l=>R (a::l)
def Zg {α:Type}:List α->Nat->(Nat->Prop)->Prop
 | [],n,R=>R n
 | _::l,n,R=>Zg l (n+1) R
def Pb (P:Program) (t:TypeId):Nat:=match P.info? t with|some i=>i.size|none=>0
def SL:TypeDesc->Bool
 | .struct _|.array _ _=>true
 | _=>false
def bp (P:Program) (t:TypeId) (R:Bool->Nat->Prop):Prop:=
 match P.underlying t with
 | some d=>match P.info? t with
  | some i=>R (SL d) i.size
  | none=>False
 | none=>False
def Br (P:Program) (t:TypeId) (f:Nat) (R:Nat->TypeId->Prop):Prop:=
 match P.underlying t with
 | some (.struct ⟨fs⟩)=>nX f fs fun x=>match P.info? x.type with
  | some i=>match Nat.beq i.size 0 with|true=>False|false=>R x.offset x.type
  | none=>False
 | _=>False
def lO (v:FV) (R:PV->Prop):Prop:=
 match v with
 | .p v=>R v
 | .tsl _ rows=>R (.sl rows)
 | .hptr row=>R (.hp row)
 | _=>False
def VI:FV->(List PV->Prop)->Prop
 | .cap0,R=>R []
 | .cap a b,R=>lO a fun p=>VI b fun l=>R (p::l)
 | _,_=>False
def LS (v:FV) (R:PV->Prop):Prop:=
 match v with
 | .p v=>R v
 | .tsl _ rows=>R (.sl rows)
 | .hptr row=>R (.hp row)
 | .clo f c=>VI c fun cs=>R (.clo f cs)
 | .fagg c=>VI c fun cs=>R (.agg cs)
 | _=>False
def LU:List FV->(List PV->Prop)->Prop
 | [],R=>R []
 | v::l,R=>LS v fun v=>LU l fun l=>R (v::l)
def oU (E:Env) (g:G):List Operand->(List FV->Prop)->Prop
 | [],R=>R []
 | x::l,R=>oV E g x fun v=>oU E g l fun l=>R (v::l)
def rY:Int:=9223372036854775807
def eR (op:BinOp) (k:IntKind) (a b:Int) (R:PV->Prop):Prop:=
 match op with
 | .add=>R (.int k (k.wrap (a+b)))
 | .sub=>R (.int k (k.wrap (a - b)))
 | .mul=>R (.int k (k.wrap (a * b)))
 | .eql=>R (.bool (a==b))
 | .neq=>R (.bool (a != b))
 | .lss=>R (.bool (decide (a<b)))
 | .leq=>R (.bool (decide (a<=b)))
 | .gtr=>R (.bool (decide (a>b)))
 | .geq=>R (.bool (decide (a≥b)))
 | .and=>R (.int k (k.wrap (jr k.bits a &&& jr k.bits b).toNat))
 | .or=>R (.int k (k.wrap (jr k.bits a ||| jr k.bits b).toNat))
 | .xor=>R (.int k (k.wrap (jr k.bits a ^^^ jr k.bits b).toNat))
 | _=>False
def eS (g:G) (op:BinOp) (a b:List UInt8) (R:PV->Prop):Prop:=
 match op with
 | .add=>gI g (((a.length+b.length:Nat):Int)<=rY)/\R (.str (a++b))
 | .eql=>R (.bool (a==b))
 | .neq=>R (.bool (!(a==b)))
 | .lss=>R (.bool (Op.bytesLess a b))
 | .leq=>R (.bool (Op.bytesLess a b||a==b))
 | .gtr=>R (.bool (!(Op.bytesLess a b||a==b)))
 | .geq=>R (.bool (!(Op.bytesLess a b)))
 | _=>False
def eQ (op:BinOp) (a b:Bool) (R:PV->Prop):Prop:=
 match op with
 | .eql=>R (.bool (a==b))
 | .neq=>R (.bool (!(a==b)))
 | _=>False
def Ry (P:Program) (t:TypeId) (R:Prop):Prop:=
 match P.underlying t with
 | some .bool=>R
 | _=>False
def Uc:IntKind->IntKind->Bool
 | .i8,.i8|.i16,.i16|.i32,.i32|.i64,.i64|.u8,.u8|.u16,.u16|.u32,.u32|.u64,.u64=>true
 | _,_=>false
theorem bn {k k':IntKind} (h:Uc k k'=true):k=k':=by cases k<;>cases k'<;>first|rfl|cases h
def NL (P:Program):List Field->Nat->List PV->Bool
 | [],_,[]=>true
 | f::fs,o,c::cs=>(f.name != "_")&&Nat.beq f.offset o&&(match P.underlying f.type,c with
  | some (.int _),.int _ _=>true
  | some .string,.str _=>true
  | some .bool,.bool _=>true
  | _,_=>false)&&NL P fs (o+1) cs
 | _,_,_=>false
def MM:List PV->Bool
 | []=>true
 | .bool _::cs=>MM cs
 | _::_=>false
def ML (P:Program) (t e:TypeId) (n:Nat) (cs:List PV):Bool:=
 !P.eqGuardType P.depth t&&(match P.underlying e with|some .bool=>true|_=>false)&&(P.info? e).isSome&&Nat.beq (P.cellsOf e) 1&&Nat.beq n cs.length&&MM cs
def SY (P:Program) (t:TypeId) (cs:List PV):Bool:=
 match P.underlying t with
 | some (.array n e)=>ML P t e n cs
 | some (.struct ⟨fs⟩)=>!P.stoodInHeld t&&!P.eqGuardType P.depth t&&NL P fs 0 cs
 | _=>false
def Rb:List PV->List PV->(Bool->Prop)->Prop
 | [],[],R=>R true
 | .int k a::az,.int k' b::bs,R=>match Uc k k' with
  | true=>Rb az bs fun c=>R (bif a==b then c else false)
  | false=>False
 | .str a::az,.str b::bs,R=>Rb az bs fun c=>R (bif a==b then c else false)
 | .bool a::az,.bool b::bs,R=>Rb az bs fun c=>R (bif a==b then c else false)
 | _,_,_=>False
def eu (P:Program) (g:G) (op:BinOp) (t:TypeId) (x y:FV) (R:FV->Prop):Prop:=
 match x with
 | .p (.int k a)=>match y with
  | .p (.int k' b)=>match op with
   | .shl=>gI g (0<=b)/\R (.p (.int k (k.wrap (a * 2 ^ (min b.toNat k.bits)))))
   | .shr=>gI g (0<=b)/\R (.p (.int k (a.fdiv (2 ^ (min b.toNat k.bits)))))
   | .quo=>match Uc k k' with|true=>gI g (b≠0)/\R (.p (.int k (k.wrap (a.tdiv b))))|false=>False
   | .rem=>match Uc k k' with|true=>gI g (b≠0)/\R (.p (.int k (a.tmod b)))|false=>False
   | op=>match Uc k k' with|true=>eR op k a b fun v=>R (.p v)|false=>False
  | _=>False
 | .p (.str a)=>match y with
  | .p (.str b)=>eS g op a b fun v=>R (.p v)
  | _=>False
 | .p (.bool a)=>match y with
  | .p (.bool b)=>Ry P t (eQ op a b fun v=>R (.p v))
  | _=>False
 | .p (.agg az)=>match y with
  | .p (.agg bs)=>match op with
   | .eql=>SY P t az=true/\Rb az bs fun c=>R (.p (.bool c))
   | .neq=>SY P t az=true/\Rb az bs fun c=>R (.p (.bool (!c)))
   | _=>False
  | _=>False
 | _=>False
def RE (P:Program) (t:TypeId) (x:FV) (f:Nat) (R:FV->Prop):Prop:=
 match x with
 | .ptr k off=>Br P t f fun o _=>R (.ptr k (off+o))
 | .hptr row=>Br P t f fun o _=>Qb o row fun r=>R (.hptr r)
 | .eptr k z i off=>Br P t f fun o _=>R (.eptr k z i (off+o))
 | _=>False
def iR (P:Program) (t:TypeId) (x:FV) (f:Nat) (R:FV->Prop):Prop:=
 match x with
 | .p (.agg cs)=>Br P t f fun o u=>Qb o cs fun r=>bp P u fun agg n=>match agg with
  | true=>XX n r fun r=>R (.p (.agg r))
  | false=>match r with|c::_=>R (.p c)|[]=>False
 | _=>False
def Zz (P:Program) (t:TypeId) (R:TypeId->Nat->Prop):Prop:=
 match P.underlying t with
 | some (.slice e)=>match P.info? e with|some i=>R e i.size|none=>False
 | _=>False
def VO (P:Program) (g:G) (t:TypeId) (x i:FV) (R:FV->Prop):Prop:=
 match x,i with
 | .p (.sl rows),.p (.int _ i)=>Zz P t fun _ z=>∃ row,gI g (0<=i/\rows[i.toNat]? =some row/\row.length=z)/\R (.hptr row)
 | .tsl _ rows,.p (.int _ i)=>Zz P t fun _ z=>∃ row,gI g (0<=i/\rows[i.toNat]? =some row/\row.length=z)/\R (.hptr row)
 | .ptr k off,.p (.int _ i)=>match P.underlying t with
  | some (.array n e)=>match P.info? e with
   | some ti=>gI g (0<=i/\i<n)/\R (.ptr k (off+i.toNat * ti.size))
   | none=>False
  | _=>False
 | .vsl k n,.p (.int _ i)=>Zz P t fun _ z=>∃ j:Nat,gI g (i=j/\j<n)/\R (.eptr k z j 0)
 | .hptr row,.p (.int _ i)=>match P.underlying t with
  | some (.array n e)=>match P.info? e with
   | some ti=>gI g (0<=i/\i<n)/\R (.hptr ((row.drop (i.toNat * ti.size)).take ti.size))
   | none=>False
  | _=>False
 | .bsl k off n _,.p (.int _ i)=>Zz P t fun _ _=>gI g (i=0/\0<n)/\R (.ptr k off)
 | .eptr k z 0 0,.p (.int _ i)=>match P.underlying t with
  | some (.array n e)=>match P.info? e with
   | some ti=>match Nat.beq ti.size 1 with
    | true=>∃ j:Nat,gI g (z=1/\i=j/\j<n)/\R (.eptr k 1 j 0)
    | false=>False
   | none=>False
  | _=>False
 | _,_=>False
def RF (P:Program) (g:G) (t:TypeId) (x i:FV) (R:FV->Prop):Prop:=
 match x,i with
 | .p (.str l),.p (.int _ i)=>match P.underlying t with
  | some .string=>∃ b,gI g (0<=i/\l[i.toNat]? =some b)/\R (.p (.int .u8 b.toNat))
  | _=>False
 | .p (.agg cs),.p (.int _ i)=>match P.underlying t with
  | some (.array n e)=>bp P e fun agg z=>match agg with
   | false=>match Nat.beq z 1 with
    | true=>∃ c,gI g (0<=i/\i<n/\cs[i.toNat]? =some c)/\R (.p c)
    | false=>False
   | true=>∃ c,gI g (0<=i/\i<n/\(cs.drop (i.toNat * z)).take z=c)/\R (.p (.agg c))
  | _=>False
 | _,_=>False
def pH (E:Env) (g:G) (x:Option Operand) (d:Nat) (R:Nat->Prop):Prop:=
 match x with
 | none=>R d
 | some x=>oV E g x fun v=>match v with
  | .p (.int _ i)=>∃ n:Nat,gI g (i=n)/\R n
  | _=>False
def al (P:Program) (E:Env) (g:G) (t:TypeId) (rows:List (List PV)) (a:Option Operand) (m:Operand) (R:FV->Prop):Prop:=
 match P.underlying t with
 | some (.slice e)=>match P.info? e with
  | some i=>match a with
   | some a=>pH E g (some a) rows.length fun h=>pH E g (some m) rows.length fun c=>gI g (h=c/\h<=rows.length/\∀ r∈rows,r.length=i.size)/\R (.cut (rows.take h))
   | none=>False
  | none=>False
 | _=>False
def RL (P:Program) (E:Env) (g:G) (t:TypeId) (x:FV) (lo b c:Option Operand) (R:FV->Prop):Prop:=
 match c with
 | some m=>match lo with
  | none=>match x with
   | .p (.sl rows)=>al P E g t rows b m R
   | .p .nilsl=>al P E g t [] b m R
   | .tsl _ rows=>al P E g t rows b m R
   | _=>False
  | some _=>False
 | none=>match x with
  | .p (.str l)=>match P.underlying t with
   | some .string=>pH E g b l.length fun h=>pH E g lo 0 fun a=>gI g (a<=h/\h<=l.length)/\R (.p (.str ((l.take h).drop a)))
   | _=>False
  | .p (.sl rows)=>match P.underlying t with
   | some (.slice e)=>match P.info? e with
    | some i=>pH E g b rows.length fun h=>pH E g lo 0 fun a=>gI g (a<=h/\h<=rows.length/\∀ r∈rows,r.length=i.size)/\R (.p (.sl ((rows.take h).drop a)))
    | none=>False
   | _=>False
  | .tsl _ rows=>match P.underlying t with
   | some (.slice e)=>match P.info? e with
    | some i=>pH E g b rows.length fun h=>pH E g lo 0 fun a=>gI g (a<=h/\h<=rows.length/\∀ r∈rows,r.length=i.size)/\R (.p (.sl ((rows.take h).drop a)))
    | none=>False
   | _=>False
  | .ptr k off=>match P.underlying t with
   | some (.array n e)=>match P.info? e with
    | some i=>match Nat.beq i.size 1 with
     | true=>pH E g b n fun h=>pH E g lo 0 fun a=>gI g (a<=h/\h<=n/\a<n)/\R (.bsl k (off+a) (h - a) (n - a))
     | false=>False
    | none=>False
   | _=>False
  | .eptr k z 0 0=>match P.underlying t with
   | some (.array n e)=>match P.info? e with
    | some i=>match Nat.beq i.size 1 with
     | true=>pH E g b n fun h=>pH E g lo 0 fun a=>gI g (z=1/\a<=h/\h<=n/\a<n)/\R (.asl k a (h - a))
     | false=>False
    | none=>False
   | _=>False
  | _=>False
def ew (P:Program) (t:TypeId) (x:FV) (R:FV->Prop):Prop:=
 match x with
 | .p (.str l)=>match P.underlying t with|some .string=>R (.p (.int .i64 l.length))|_=>False
 | .p (.sl rows)=>match P.underlying t with|some (.slice _)=>R (.p (.int .i64 rows.length))|_=>False
 | .tsl _ rows=>match P.underlying t with|some (.slice _)=>R (.p (.int .i64 rows.length))|_=>False
 | .bsl _ _ n _=>match P.underlying t with|some (.slice _)=>R (.p (.int .i64 n))|_=>False
 | .vsl _ n=>match P.underlying t with|some (.slice _)=>R (.p (.int .i64 n))|_=>False
 | .p .nilsl=>match P.underlying t with|some (.slice _)=>R (.p (.int .i64 0))|_=>False
 | _=>False
def DR (P:Program) (src dst:TypeId) (x:FV) (R:FV->Prop):Prop:=
 match x with
 | .p (.int _ n)=>match P.underlying src with
  | some (.int _)=>match P.underlying dst with
   | some (.int k)=>R (.p (.int k (k.wrap n)))
   | _=>False
  | _=>False
 | .p (.str l)=>match P.underlying src with
  | some .string=>match P.underlying dst with
   | some .string=>R (.p (.str l))
   | _=>False
  | _=>False
 | _=>False
def qp (l:List UInt8):List (List PV):=l.map fun b=>[.int .u8 b.toNat]
def u8T (P:Program) (src dst:TypeId) (R:Prop):Prop:=
 match P.underlying src with
 | some (.slice e)=>match P.underlying e with
  | some (.int .u8)=>match P.underlying dst with
   | some .string=>R
   | _=>False
  | _=>False
 | _=>False
def eL (P:Program) (src dst:TypeId) (n:Nat) (t:TypeId) (R:Prop):Prop:=
 match P.underlying src with
 | some (.pointer u)=>match P.underlying dst with
  | some .unsafePointer=>match P.info? u with
   | some i=>(i.size≠0/\0<n)/\R
   | none=>False
  | _=>False
 | some .unsafePointer=>match P.underlying dst with
  | some (.pointer u)=>match P.info? u with
   | some _=>liesAt P P.depth t (n / P.cellsOf t) 0 u 1=true/\R
   | none=>False
  | _=>False
 | _=>False
def FB (P:Program) (g:G) (src dst:TypeId) (lo:List AObj) (x:FV) (R:FV->Prop):Prop:=
 match x with
 | .p (.sl rows)=>u8T P src dst (∃ l,gI g (rows=qp l)/\R (.p (.str l)))
 | .tsl _ rows=>u8T P src dst (∃ l,gI g (rows=qp l)/\R (.p (.str l)))
 | .p .nilsl=>u8T P src dst (R (.p (.str [])))
 | .bsl k off n _=>u8T P src dst (nX k lo fun o=>match o with
   | .box _ cells=>Qb off cells fun cs=>XX n cs fun cs=>LU cs fun a=>∃ l:List UInt8,gI g (a=l.map fun b=>PV.int .u8 b.toNat)/\R (.p (.str l))
   | _=>False)
 | .ptr k off=>match Nat.beq off 0 with
  | true=>nX k lo fun o=>match o with
   | .box t cells=>eL P src dst cells.length t (R (.ptr k 0))
   | _=>False
  | false=>False
 | .vsl k n=>u8T P src dst (nX k lo fun o=>match o with
   | .bv l=>gI g (n=l.length)/\R (.p (.str l))
   | _=>False)
 | .asl k off n=>u8T P src dst (nX k lo fun o=>match o with
   | .bv l=>gI g (off+n<=l.length)/\R (.p (.str ((l.drop off).take n)))
   | _=>False)
 | x=>DR P src dst x R
def Xs (P:Program) (H:(PH Lw)) (w:World) (r:PV):Result Next->Prop
 | .ok (.value v) w'=>∃ H',Calm H w H' w'/\qu H' r v
 | .ok (.enter f args) w'=>w'=w/\Calls P f args w fun e a=>∃ v H',e=.returned v/\Calm H w H' a/\qu H' r v
 | _=>False
def qc (P:Program) (f:FuncId) (args:List PV) (r:PV):Prop:=
 ∀ ⦃Lw:Nat⦄ (H:PH Lw) (w:World) (vs:List Value),SatH H w->qU H args vs->Xs P H w r ((callFunc f vs.toArray).run P w)
def BC (E:Env) (g:G):Nat->List (Nat×Operand)->(List PV->Prop)->Prop
 | _,[],R=>R []
 | k,(i,x)::l,R=>match Nat.beq i k with
  | true=>oV E g x fun v=>LS v fun p=>BC E g (k+1) l fun a=>R (p::a)
  | false=>False
def EY (p:PV) (R:List PV->Prop):Prop:=
 match p with
 | .agg cs=>R cs
 | .tup _=>False
 | p=>R [p]
def Sm:List PV->(List (List PV)->Prop)->Prop
 | [],R=>R []
 | p::ps,R=>EY p fun c=>Sm ps fun rs=>R (c::rs)
def Eo:PV->Bool
 | .agg _|.tup _=>false
 | _=>true
def cI (P:Program) (E:Env) (g:G) (t:TypeId) (n:Nat) (qZ:List (Nat×Operand)) (R:FV->Prop):Prop:=
 Zz P t fun e z=>match Nat.beq qZ.length n with
  | true=>match Nat.ble 1 n with
   | true=>match Nat.ble 1 z with
    | true=>match Nat.ble (n * z) 16777216 with
     | true=>match P.info? e with
      | some i=>match i.zero with
       | some _=>BC E g 0 qZ fun b=>Sm b fun rows=>(∀ r∈rows,r.length=z/\r.all Eo=true)/\∃ a,(rows=a\/FL rows a)/\R (.p (.sl a))
       | none=>False
      | none=>False
     | false=>False
    | false=>False
   | false=>False
  | false=>False
def Gc:Nat->List PV->List PV->(List PV->Prop)->Prop
 | 0,[],old,R=>R old
 | 0,v::vs,old,R=>match old with|[]=>False|_::old=>Gc 0 vs old fun l=>R (v::l)
 | n+1,vs,old,R=>match old with|[]=>False|a::old=>Gc n vs old fun l=>R (a::l)
def SX (P:Program) (E:Env) (g:G) (a:List Field):List (Nat×Operand)->List PV->(List PV->Prop)->Prop
 | [],cs,R=>R cs
 | (i,x)::l,cs,R=>nX i a fun f=>match P.info? f.type with
  | some ti=>oV E g x fun v=>LS v fun p=>EY p fun c=>match Nat.beq c.length ti.size with
   | true=>Gc f.offset c cs fun cs=>SX P E g a l cs R
   | false=>False
  | none=>False
def Hr (P:Program):List Field->Bool
 | []=>true
 | f::fs=>match P.info? f.type with|some _=>Hr P fs|none=>false
def RA (P:Program) (E:Env) (g:G) (t:TypeId) (qZ:List (Nat×Operand)) (R:FV->Prop):Prop:=
 match P.info? t with
 | some i=>match i.zero with
  | some (.agg ⟨vs⟩)=>Pw vs fun b=>match P.underlying t with
   | some (.struct ⟨fs⟩)=>match Hr P fs with
    | true=>SX P E g fs qZ b fun cs=>R (.p (.agg cs))
    | false=>False
   | some (.array _ e)=>match P.info? e with
    | some ei=>match Nat.beq ei.size 1 with
     | true=>BC E g 0 qZ fun a=>a.length=vs.length/\(∀ c∈a,Eo c=true)/\R (.p (.agg a))
     | false=>BC E g 0 qZ fun a=>Sm a fun rows=>(∀ r∈rows,r.length=ei.size)/\rows.flatten.length=vs.length/\R (.p (.agg rows.flatten))
    | none=>False
   | _=>False
  | _=>False
 | none=>False
def Bv (P:Program) (op:BinOp) (t:TypeId) (a:Bool) (y:FV) (R:FV->Prop):Prop:=
 match P.underlying t with
 | some (.func _ _ _)=>match y with
  | .p .nilfn=>match op with
   | .eql=>R (.p (.bool a))
   | .neq=>R (.p (.bool (!a)))
   | _=>False
  | _=>False
 | _=>False
def an (P:Program) (op:BinOp) (t:TypeId) (x y:FV) (R:FV->Prop):Prop:=
 match P.underlying t with
 | some (.pointer e)=>match P.info? e with
  | some _=>match op with
   | .eql=>match x,y with
    | .p .nilp,.p .nilp=>R (.p (.bool true))
    | .ptr _ _,.p .nilp=>R (.p (.bool false))
    | .hptr _,.p .nilp=>R (.p (.bool false))
    | _,_=>False
   | .neq=>match x,y with
    | .p .nilp,.p .nilp=>R (.p (.bool false))
    | .ptr _ _,.p .nilp=>R (.p (.bool true))
    | .hptr _,.p .nilp=>R (.p (.bool true))
    | .ptr k off,.ptr k' off'=>match Nat.beq k k' with
     | true=>match Nat.beq off off' with
      | true=>R (.p (.bool false))
      | false=>False
     | false=>False
    | _,_=>False
   | _=>False
  | none=>False
 | _=>False
def DD (E:Env):List (Nat×Operand)->Prop->Prop->Prop
 | [],_,no=>no
 | (_,x)::l,yes,no=>ev E x fun v=>match v with
  | .mref _=>yes
  | .ptr _ _=>yes
  | .clo _ _=>yes
  | .bsl _ _ _ _=>yes
  | _=>DD E l yes no
def Tk:List PV->(List FV->Prop)->Prop
 | [],R=>R []
 | c::cs,R=>Tk cs fun l=>R (.p c::l)
def QX:Nat->List FV->List FV->(List FV->Prop)->Prop
 | 0,[],old,R=>R old
 | 0,v::vs,old,R=>match old with|[]=>False|_::old=>QX 0 vs old fun l=>R (v::l)
 | n+1,vs,old,R=>match old with|[]=>False|a::old=>QX n vs old fun l=>R (a::l)
def iH (v:FV) (R:List FV->Prop):Prop:=
 match v with
 | .p p=>EY p fun cs=>Tk cs R
 | .tsl k rows=>R [.tsl k rows]
 | .mref k=>R [.mref k]
 | .ptr k o=>R [.ptr k o]
 | .clo f c=>R [.clo f c]
 | .bsl k o n c=>R [.bsl k o n c]
 | .fagg c=>mG c R
 | _=>False
def SW (P:Program) (E:Env) (g:G) (a:List Field):List (Nat×Operand)->List FV->(List FV->Prop)->Prop
 | [],cs,R=>R cs
 | (i,x)::l,cs,R=>nX i a fun f=>match P.info? f.type with
  | some ti=>oV E g x fun v=>iH v fun c=>match Nat.beq c.length ti.size with
   | true=>QX f.offset c cs fun cs=>SW P E g a l cs R
   | false=>False
  | none=>False
def FA (P:Program) (E:Env) (g:G) (t:TypeId) (qZ:List (Nat×Operand)) (R:FV->Prop):Prop:=
 match P.info? t with
 | some i=>match i.zero with
  | some (.agg ⟨vs⟩)=>Pw vs fun a=>Tk a fun a=>match P.underlying t with
   | some (.struct ⟨fs⟩)=>match Hr P fs with
    | true=>SW P E g fs qZ a fun cs=>R (.fagg (lT cs))
    | false=>False
   | _=>False
  | _=>False
 | none=>False
def PO:FV->(List PV->Prop)->Prop
 | .cap0,R=>R []
 | .cap a b,R=>LS a fun p=>PO b fun l=>R (p::l)
 | _,_=>False
def SK (P:Program) (t:TypeId) (m:String) (f:FuncId):Prop:=∀ v w,(method (P.types.size+Made.depth) t v m).run P w=.ok (f,v) w
def SJ (P:Program) (p:PV) (b a:TypeId) (r:PV):Prop:=∀ ⦃Lw:Nat⦄ (H:PH Lw) (v:Value) (w:World),qu H p v->∃ u,(Instr.typeAssert v b a true).run P w=.ok u w/\qu H r u
def RJ (P:Program) (op:Op) (E:Env) (g:G) (R:FV->Prop):Prop:=
 match op with
 | .makeFunc (.func f) ⟨b::bs⟩ ⟨[]⟩=>oU E g (b::bs) fun vs=>LU vs fun d=>R (.p (.bfn f d))
 | .typeAssert x xt a true=>oV E g x fun x=>LS x fun p=>∃ r,gI g (SJ P p xt a r)/\R (.p r)
 | .makeFunc (.func f) ⟨[]⟩ ⟨xs⟩=>match xs with
  | []=>R (.p (.fn f))
  | x::xs=>oU E g (x::xs) fun vs=>R (.clo f (lT vs))
 | .call { callee:=.value (.tmp t),args:=⟨xs⟩,argTypes:=_ }=>oV E g (.tmp t) fun e=>oU E g xs fun vs=>LU vs fun args=>match e with
  | .p (.fn f)=>∃ r,gI g (qc P f args r)/\R (.p r)
  | .clo f c=>PO c fun cs=>∃ r,gI g (qc P f (args++cs) r)/\R (.p r)
  | .p (.clo f cs)=>∃ r,gI g (qc P f (args++cs) r)/\R (.p r)
  | .p (.bfn f bs)=>∃ r,gI g (qc P f (bs++args) r)/\R (.p r)
  | _=>False
 | .call { callee:=.invoke r m,args:=⟨xs⟩,argTypes:=_ }=>oV E g r fun h=>oU E g xs fun vs=>LU vs fun args=>match h with
  | .p (.ifc t v)=>∃ f r,gI g (SK P t m f/\qc P f (v::args) r)/\R (.p r)
  | _=>False
 | .call { callee:=.builtin .max,args:=⟨[x,y]⟩,argTypes:=_ }=>oV E g x fun x=>oV E g y fun y=>match x with
  | .p (.int k a)=>match y with
   | .p (.int _ b)=>R (.p (.int k (bif decide (b>a)then b else a)))
   | _=>False
  | _=>False
 | .call { callee:=.builtin .min,args:=⟨[x,y]⟩,argTypes:=_ }=>oV E g x fun x=>oV E g y fun y=>match x with
  | .p (.int k a)=>match y with
   | .p (.int _ b)=>R (.p (.int k (bif decide (b<a)then b else a)))
   | _=>False
  | _=>False
 | _=>False
def Te (P:Program) (op:Op) (E:Env) (g:G) (R:FV->Prop):Prop:=
 match op with
 | .move x=>match g with|none=>ev E x R|some g=>oV E (some g) x R
 | .assign x=>match g with|none=>ev E x R|some g=>oV E (some g) x R
 | .pick c a b=>oV E g c fun c=>match c with
  | .p (.bool c)=>match g with
   | none=>oV E (some c) a fun a=>oV E (some (!c)) b fun b=>match a,b with
    | .p (.bool a),.p (.bool b)=>R (.p (.bool (bif c then a else b)))
    | _,_=>False
   | some g=>oV E (some (g&&c)) a fun a=>oV E (some (g&&!c)) b fun b=>match a,b with
    | .p (.bool a),.p (.bool b)=>R (.p (.bool (bif c then a else b)))
    | _,_=>False
  | _=>False
 | .fieldAddr t x f=>oV E g x fun x=>RE P t x f R
 | .field t x f=>oV E g x fun x=>iR P t x f R
 | .indexAddr t x i=>oV E g x fun x=>oV E g i fun i=>VO P g t x i R
 | .index t x i=>oV E g x fun x=>oV E g i fun i=>RF P g t x i R
 | .binOp op t x y _=>oV E g x fun x=>oV E g y fun y=>match x with
  | .ptr k off=>an P op t (.ptr k off) y R
  | .hptr row=>an P op t (.hptr row) y R
  | .p .nilp=>an P op t (.p .nilp) y R
  | .p .nilfn=>Bv P op t true y R
  | .p (.fn _)=>Bv P op t false y R
  | .p (.clo _ _)=>Bv P op t false y R
  | .p (.bfn _ _)=>Bv P op t false y R
  | x=>eu P g op t x y R
 | .unOp .not _ x=>oV E g x fun x=>match x with|.p (.bool b)=>R (.p (.bool (!b)))|_=>False
 | .unOp .neg _ x=>oV E g x fun x=>match x with|.p (.int k n)=>R (.p (.int k (k.wrap (0 - n))))|_=>False
 | .nilCheck x=>oV E g x fun x=>match x with
  | .ptr k off=>R (.ptr k off)
  | .hptr row=>R (.hptr row)
  | .eptr k z i off=>R (.eptr k z i off)
  | _=>False
 | .slice t x lo hi mx=>oV E g x fun x=>RL P E g t x lo hi mx R
 | .buildSlice t n ⟨qZ⟩=>cI P E g t n qZ R
 | .build t ⟨qZ⟩=>DD E qZ (FA P E g t qZ R) (RA P E g t qZ R)
 | .extract x i=>oV E g x fun x=>match x with
  | .p (.tup vs)=>nX i vs fun v=>R (.p v)
  | .pair a b=>match i with|0=>R a|1=>R b|_=>False
  | .nxt ok a b=>match i with|0=>R (.p (.bool ok))|1=>gI g (ok=true)/\R (.p a)|2=>gI g (ok=true)/\R (.p b)|_=>False
  | _=>False
 | .makeInterface t x=>oV E g x fun x=>match P.underlying t with
  | some (.interface _)=>False
  | some _=>match x with
   | .vsl k n=>R (.ifs t (.vsl k n))
   | x=>LS x fun v=>R (.p (.ifc t v))
  | none=>False
 | .call { callee:=.builtin .len,args:=⟨[x]⟩,argTypes:=⟨[t]⟩ }=>oV E g x fun x=>ew P t x R
 | .call { callee:=.value (.func f),args:=⟨xs⟩,argTypes:=_ }=>
   oU E g xs fun vs=>LU vs fun args=>∃ r,gI g (qc P f args r)/\R (.p r)
 | op=>RJ P op E g R
def oa:List FV->Bool
 | []=>false
 | .vsl _ _::_=>true
 | _::l=>oa l
def eV:List FV->Bool
 | []=>false
 | .p (.nsl _)::_=>true
 | _::l=>eV l
def eW:List FV->Bool
 | []=>false
 | .tsl _ _::_=>true
 | _::l=>eW l
def eO:List FV->Bool
 | []=>true
 | .tsl _ _::l=>eO l
 | _::_=>false
def og (cs:List FV):Bool:=match oa cs with
 | true=>true
 | false=>match eW cs with
  | false=>false
  | true=>match eV cs with
   | true=>true
   | false=>eO cs
def tF (P:Program) (t:TypeId) (lo:List AObj) (x:FV) (R:FV->Prop):Prop:=
 match x with
 | .ptr k off=>nX k lo fun o=>match o with
  | .box _ cells=>Qb off cells fun cs=>bp P t fun agg n=>match agg with
   | true=>XX n cs fun cs=>match og cs with
    | true=>R (.fagg (lT cs))
    | false=>LU cs fun l=>R (.p (.agg l))
   | false=>match cs with|c::_=>R c|[]=>False
  | .pbx _ c=>match Nat.beq off 0 with
   | true=>bp P t fun agg _=>match agg with|true=>False|false=>R c
   | false=>False
  | _=>False
 | .hptr row=>bp P t fun agg n=>match agg with
  | true=>XX n row fun r=>R (.p (.agg r))
  | false=>match row with|c::_=>R (.p c)|[]=>False
 | _=>False
def QQ:Op->Bool
 | .load _ _=>true
 | .convert _ _ _=>true
 | .lookup _ _ _ _=>true
 | _=>false
def bm:Op->Bool
 | .box _ _|.alloc _|.store _ _ _|.makeMap _ _|.mapUpdate _ _ _ _|.insert _ _ _ _|.range _ _|.next _ _=>true
 | .call { callee:=.builtin .append,.. }=>true
 | .call { callee:=.builtin .clear,.. }=>true
 | .call { callee:=.builtin .copy,.. }=>true
 | .makeSlice _ _ _=>true
 | _=>false
def Px:FV->Bool
 | .p (.agg _)|.p (.tup _)|.top|.opt _ _|.pair _ _|.stmp _|.cap0|.cap _ _|.fagg _|.nxt _ _ _=>false
 | _=>true
def SF (P:Program) (t:TypeId) (R:List PV->Prop):Prop:=
 match P.info? t with
 | some i=>match i.zero with
  | some (.agg ⟨vs⟩)=>Pw vs R
  | some v=>Pw [v] R
  | none=>False
 | none=>False
def QN (v:FV) (R:List FV->Prop):Prop:=
 match v with
 | .p (.agg cs)=>Tk cs R
 | .fagg c=>mG c R
 | v=>match Px v with|true=>R [v]|false=>False
def XK:List FV->Bool
 | []=>true
 | v::l=>match Px v with|true=>XK l|false=>false
def Ns (x:FV) (R:List (List PV)->Prop):Prop:=
 match x with
 | .p (.sl rows)=>R rows
 | .tsl _ rows=>R rows
 | .p .nilsl=>R []
 | _=>False
def Tc:PV->PV->Bool
 | .str a,.str b=>a==b
 | .int _ a,.int _ b=>a==b
 | .bool a,.bool b=>a==b
 | _,_=>false
def HC (k:PV):List (PV×PV)->Option PV
 | []=>none
 | (k',v)::es=>bif Tc k k' then some v else HC k es
def il (k v:PV):List (PV×PV)->List (PV×PV)
 | []=>[(k,v)]
 | (k',v')::es=>bif Tc k k' then(k,v)::es else(k',v')::il k v es
def Mn (a d:TypeDesc) (b:PV) (R:Prop):Prop:=
 match a,d,b with
 | .string,.string,.str _=>R
 | .bool,.bool,.bool _=>R
 | .int k,.int k',.int k'' _=>match Uc k k' with
  | true=>match Uc k k'' with
   | true=>R
   | false=>False
  | false=>False
 | _,_,_=>False
def ey (d:TypeDesc) (R:Prop):Prop:=
 match d with
 | .string=>R
 | .bool=>R
 | .int _=>R
 | _=>False
def iq (P:Program) (t:TypeId) (d:TypeDesc) (a:PV) (R:TypeId->Prop):Prop:=
 match P.underlying t with
 | some (.map kt et)=>match P.underlying kt with
  | some d'=>Mn d' d a (R et)
  | none=>False
 | _=>False
def Ll (P:Program) (t:TypeId) (R:PV->Prop):Prop:=
 match P.info? t with
 | some i=>match i.zero with
  | some (.agg ⟨vs⟩)=>Pw vs fun l=>R (.agg l)
  | some v=>match lP v with|some p=>R p|none=>False
  | none=>False
 | none=>False
def tG (P:Program) (g:G) (t:TypeId) (lo:List AObj) (x key:FV) (ok:Bool) (R:FV->Prop):Prop:=
 match x,key with
 | .mref k,.p kp=>nX k lo fun o=>match o with
  | .mp d es _=>iq P t d kp fun a=>Ll P a fun z=>∃ v b,gI g ((HC kp es).getD z=v/\(HC kp es).isSome=b)/\R (match ok with|false=>.p v|true=>.p (.tup [v,.bool b]))
  | _=>False
 | _,_=>False
def iQ (P:Program) (t:TypeId) (lo:List AObj) (x:FV) (R:FV->Prop):Prop:=
 match x with
 | .mref k=>nX k lo fun o=>match o with
  | .mp _ es _=>match P.underlying t with
   | some (.map _ _)=>∃ n:Nat,es.length=n/\R (.p (.int .i64 n))
   | _=>False
  | _=>False
 | _=>False
def DT (P:Program) (E:Env) (lo:List AObj) (t:TypeId) (m k x:Operand) (R:FV->List AObj->Prop):Prop:=
 oV E none m fun m=>oV E none k fun k=>oV E none x fun x=>LS x fun b=>match m,k with
  | .mref j,.p kp=>nX j lo fun o=>match o with
   | .mp d es _=>iq P t d kp fun _=>∃ a,il kp b es=a/\Xn j (.mp d a none) lo fun lo=>R (.p (.tup [])) lo
   | _=>False
  | _,_=>False
def qN (l:List UInt8) (i:Nat):Nat:=(Utf8.decode ⟨l.toArray⟩ i).1
def xe (l:List UInt8) (i:Nat):Nat:=i+(Utf8.decode ⟨l.toArray⟩ i).2
def iP (P:Program) (op:Op) (E:Env) (lo:List AObj) (R:FV->List AObj->Prop):Prop:=
 match op with
 | .range t x=>oV E none x fun x=>match x with
  | .p (.str l)=>match P.underlying t with
   | some .string=>Zg lo 0 fun n=>mC lo (.sit l 0) fun lo=>R (.ptr n 0) lo
   | _=>False
  | _=>False
 | .next x true=>oV E none x fun x=>match x with
  | .ptr k 0=>nX k lo fun o=>match o with
   | .sit l pos=>∃ ok a,(decide (pos<l.length)=ok/\(bif ok then xe l pos else pos)=a)/\Xn k (.sit l a) lo fun lo=>R (.nxt ok (.int .i64 pos) (.int .i32 (qN l pos))) lo
   | _=>False
  | _=>False
 | .makeMap t none=>match P.underlying t with
  | some (.map kt _)=>match P.underlying kt with
   | some d=>ey d (Zg lo 0 fun n=>mC lo (.mp d [] none) fun lo=>R (.mref n) lo)
   | none=>False
  | _=>False
 | .mapUpdate t m k x=>DT P E lo t m k x R
 | .insert t m k x=>DT P E lo t m k x R
 | .call { callee:=.builtin .clear,args:=⟨[x]⟩,argTypes:=⟨[t]⟩ }=>oV E none x fun x=>match x with
  | .mref k=>nX k lo fun o=>match o with
   | .mp d _ _=>match P.underlying t with
    | some (.map _ _)=>Xn k (.mp d [] none) lo fun lo=>R (.p (.tup [])) lo
    | _=>False
   | _=>False
  | _=>False
 | _=>False
def Mm (P:Program) (t:TypeId) (lo:List AObj) (k z i off:Nat) (x:FV) (R:FV->List AObj->Prop):Prop:=
 QN x fun vs=>LU vs fun f=>Zg f 0 fun n=>bp P t fun _ m=>match Nat.beq n m with
  | true=>nX k lo fun o=>match o with
   | .vec e z' rows=>∃ row,(z'=z/\rows[i]? =some row/\f.all Eo=true)/\Gc off f row fun d=>∃ a,rows.set i d=a/\Xn k (.vec e z' a) lo fun lo=>R (.p (.tup [])) lo
   | .vl e z' rows j kt=>∃ row g,(z'=z/\rows[i]? =some row/\f.all Eo=true/\(j<z/\(off+f.length<=j\/j<off)/\g=kt\/off=j/\i+1=rows.length/\∃ h,x=.tsl g h)) /\
     Gc off f row fun d=>∃ a,rows.set i d=a/\Xn k (.vl e z' a j g) lo fun lo=>R (.p (.tup [])) lo
   | .bv l=>match f with
    | [.int .u8 n]=>∃ (c:UInt8) (l':List UInt8),(z=1/\off=0/\i<l.length/\n=(c.toNat:Int)/\l.set i c=l')/\Xn k (.bv l') lo fun lo=>R (.p (.tup [])) lo
    | f=>∃ l':List UInt8,(z=1/\off=0/\i=0/\l'.length=l.length/\f=l'.map fun b=>PV.int .u8 b.toNat)/\Xn k (.bv l') lo fun lo=>R (.p (.tup [])) lo
   | _=>False
  | false=>False
def Bw (P:Program) (t:TypeId) (lo:List AObj) (k z i off:Nat) (R:FV->Prop):Prop:=
 nX k lo fun o=>match o with
  | .vec _ z' rows=>∃ row,(z'=z/\rows[i]? =some row)/\Qb off row fun cs=>bp P t fun agg n=>match agg with
   | true=>XX n cs fun l=>R (.p (.agg l))
   | false=>match cs with|c::_=>R (.p c)|[]=>False
  | .vl _ z' rows j kt=>∃ row,(z'=z/\rows[i]? =some row)/\Qb off row fun cs=>bp P t fun agg n=>match agg with
   | true=>XX n cs fun l=>R (.p (.agg l))
   | false=>match cs with
    | c::_=>match Nat.beq off j with
     | true=>i+1=rows.length/\∃ rs,c=.sl rs/\R (.tsl kt rs)
     | false=>R (.p c)
    | []=>False
  | .bv l=>bp P t fun agg _=>match agg with
   | true=>False
   | false=>∃ c:UInt8,(z=1/\off=0/\l[i]? =some c)/\R (.p (.int .u8 c.toNat))
  | _=>False
def FD (P:Program) (g:Bool) (t:TypeId) (lo:List AObj) (k z i off:Nat) (R:FV->Prop):Prop:=
 nX k lo fun o=>match o with
  | .vec _ z' rows=>∃ row,(g=true->z'=z/\rows[i]? =some row)/\Qb off row fun cs=>bp P t fun agg _=>match agg with
   | true=>False
   | false=>match cs with|c::_=>R (.p c)|[]=>False
  | .vl _ z' rows j _=>∃ row,(g=true->z'=z/\rows[i]? =some row)/\Qb off row fun cs=>bp P t fun agg _=>match agg with
   | true=>False
   | false=>match cs with
    | c::_=>match Nat.beq off j with
     | true=>False
     | false=>R (.p c)
    | []=>False
  | _=>False
def RB (P:Program) (src dst:TypeId) (lo:List AObj) (x:FV) (R:FV->List AObj->Prop):Prop:=
 match x with
 | .p (.str l)=>match P.underlying src with
  | some _=>match P.underlying dst with
   | some (.slice e)=>match P.underlying e with
    | some (.int .u8)=>Zg lo 0 fun n=>mC lo (.bv l) fun lo=>R (.vsl n l.length) lo
    | _=>False
   | _=>False
  | none=>False
 | _=>False
def Nc (P:Program) (t:TypeId) (lo:List AObj) (k0:Nat) (news:List (List PV)) (R:FV->List AObj->Prop):Prop:=
 Zz P t fun e z=>match Nat.beq z 0 with
 | true=>False
 | false=>match P.info? e with
  | some i=>match i.zero with
   | some zv=>match Nat.beq zv.cells.size z with
    | true=>nX k0 lo fun o=>match o with
     | .vec e' z' rows=>∃ a,(rows++news=a/\e'=e/\z'=z/\(∀ r∈news,r.length=z)/\a.length * i.bytes<=140737488355328/\a.length<=9223372036854775807) /\
       Xn k0 .dead lo fun lo=>Zg lo 0 fun k=>mC lo (.vec e z a) fun lo=>R (.vsl k a.length) lo
     | .vl e' z' rows j _=>∃ a r e2 z2,((rows++news=a\/FL (rows++news) a)/\(news=[r]/\r[j]? =some .nilsl)/\e'=e/\z'=z/\(∀ r∈news,r.length=z)/\a.length * i.bytes<=140737488355328/\a.length<=9223372036854775807) /\
       Xn k0 .dead lo fun lo=>Zg lo 0 fun b=>mC lo (.tail e2 z2 0) fun lo=>Zg lo 0 fun k=>mC lo (.vl e z a j b) fun lo=>R (.vsl k a.length) lo
     | _=>False
    | false=>False
   | none=>False
  | none=>False
def DM (P:Program) (t:TypeId) (lo:List AObj) (R:FV->List AObj->Prop):Prop:=
 SF P t fun z=>∃ l:List UInt8,z=l.map (fun b=>PV.int .u8 b.toNat)/\Zg lo 0 fun k=>mC lo (.bv l) fun lo=>R (.eptr k 1 0 0) lo
def LZ (P:Program) (E:Env) (lo:List AObj) (t:TypeId) (n:Nat) (qZ:List (Nat×Operand)) (R:FV->List AObj->Prop):Prop:=
 Zz P t fun e z=>cI P E none t n qZ fun v=>match v with
  | .p (.sl rows)=>Zg lo 0 fun k=>mC lo (.vec e z rows) fun lo=>R (.vsl k rows.length) lo
  | _=>False
def XQ:List Nat->Nat->Bool
 | [],_=>false
 | a::l,f=>match Nat.beq f a with|true=>true|false=>XQ l f
def LY (P:Program) (E:Env) (lo:List AObj) (t:TypeId) (n:Nat) (qZ:List (Nat×Operand)) (R:FV->List AObj->Prop):Prop:=
 Zz P t fun e z=>cI P E none t n qZ fun v=>match v with
  | .p (.sl rows)=>Zg lo 0 fun k=>mC lo (.tail e z rows.length) fun lo=>R (.tsl k rows) lo
  | _=>False
def Rr (inl:List Nat) (d:Option Tmp):Bool:=match d with
 | some d=>XQ inl (30000000+d)
 | none=>false
def Nd (P:Program) (g:Bool) (E:Env) (lo:List AObj) (t:TypeId) (n:Nat) (qZ:List (Nat×Operand)) (R:FV->List AObj->Prop):Prop:=
 match g with
 | true=>LY P E lo t n qZ R
 | false=>LZ P E lo t n qZ R
def ig (P:Program) (op:Op) (E:Env) (lo:List AObj) (R:FV->List AObj->Prop):Prop:=
 match op with
 | .box t x=>oV E none x fun x=>QN x fun cs=>match XK cs with
  | true=>Zg lo 0 fun n=>mC lo (.box t cs) fun lo=>R (.ptr n 0) lo
  | false=>False
 | .alloc t=>SF P t fun z=>Tk z fun cs=>match XK cs with
  | true=>Zg lo 0 fun n=>mC lo (.box t cs) fun lo=>R (.ptr n 0) lo
  | false=>False
 | .store t a x=>oV E none a fun a=>oV E none x fun x=>match a with
  | .ptr k off=>QN x fun vs=>match XK vs with
   | true=>Zg vs 0 fun n=>bp P t fun _ m=>match Nat.beq n m with
    | true=>nX k lo fun o=>match o with
     | .box bt cells=>QX off vs cells fun cells=>Xn k (.box bt cells) lo fun lo=>R (.p (.tup [])) lo
     | _=>False
    | false=>False
   | false=>False
  | .eptr k z i off=>Mm P t lo k z i off x R
  | _=>False
 | .call { callee:=.builtin .append,args:=⟨[s,x]⟩,argTypes:=⟨[t,t']⟩ }=>match Nat.beq t t' with
  | true=>oV E none s fun s=>oV E none x fun x=>Ns x fun news=>match s with
   | .vsl k0 _=>Nc P t lo k0 news R
   | s=>Zz P t fun e z=>match Nat.beq z 0 with
   | true=>False
   | false=>match P.info? e with
    | some i=>match i.zero with
     | some zv=>match Nat.beq zv.cells.size z with
      | true=>match s with
       | .p .nilsl=>((∀ r∈news,r.length=z)/\news.length * i.bytes<=140737488355328/\news.length<=9223372036854775807) /\
         Zg lo 0 fun k=>mC lo (.tail e z news.length) fun lo=>R (.tsl k news) lo
       | .tsl k0 rows=>((∀ r∈rows++news,r.length=z)/\(rows++news).length * i.bytes<=140737488355328/\(rows++news).length<=9223372036854775807) /\
         nX k0 lo fun o=>match o with
         | .tail e' z' n=>(e'=e/\z'=z/\n=rows.length) /\
           Xn k0 .dead lo fun lo=>Zg lo 0 fun k=>mC lo (.tail e z (rows++news).length) fun lo=>R (.tsl k (rows++news)) lo
         | _=>False
       | .cut rows=>((∀ r∈rows++news,r.length=z)/\(rows++news).length * i.bytes<=140737488355328/\(rows++news).length<=9223372036854775807) /\
         ∃ own:Bool,match own with
         | true=>news≠[]/\Zg lo 0 fun k=>mC lo (.tail e z (rows++news).length) fun lo=>R (.tsl k (rows++news)) lo
         | false=>∃ b,rows++news=b/\R (.p (.sl b)) lo
       | _=>False
      | false=>False
     | none=>False
    | none=>False
  | false=>oV E none s fun s=>oV E none x fun x=>match x with
   | .p (.str str)=>match P.underlying t' with
    | some .string=>Zz P t fun e z=>match Nat.beq z 1 with
     | true=>match P.info? e with
      | some i=>match i.zero with
       | some (.int .u8 0)=>match s with
        | .p .nilsl=>((qp str).length * i.bytes<=140737488355328/\(qp str).length<=9223372036854775807) /\
          Zg lo 0 fun k=>mC lo (.tail e z (qp str).length) fun lo=>R (.tsl k (qp str)) lo
        | .tsl k0 rows=>((∀ r∈rows,r.length=1)/\(rows++qp str).length * i.bytes<=140737488355328/\(rows++qp str).length<=9223372036854775807) /\
          nX k0 lo fun o=>match o with
          | .tail e' z' n=>(e'=e/\z'=1/\n=rows.length) /\
            Xn k0 .dead lo fun lo=>Zg lo 0 fun k=>mC lo (.tail e z (rows++qp str).length) fun lo=>R (.tsl k (rows++qp str)) lo
          | _=>False
        | _=>False
       | _=>False
      | none=>False
     | false=>False
    | _=>False
   | _=>False
 | op=>iP P op E lo R
def Fz (ops:List Oper) (o:Oper) (E:Env) (R:G->Prop):Prop:=
 match o.guard with
 | none=>R none
 | some (j,want)=>nX j ops fun oj=>match oj.dst with
   | some d=>ik E d fun v=>match v with
    | .p (.bool b)=>match want with|true=>R (some b)|false=>R (some (!b))
    | .opt g' (.p (.bool b))=>match want with|true=>R (some (g'&&b))|false=>R (some (g'&&!b))
    | _=>False
   | none=>False
def nY (N:Nat) (d:Option Tmp) (v:FV) (E:Env) (R:Env->Prop):Prop:=
 match d with
 | some d=>match Nat.blt d N with
  | true=>Rg v fun v=>R ((d,v)::E)
  | false=>False
 | none=>R E
def rX (g:G) (v:FV):FV:=match g with|none=>v|some g=>.opt g v
def MB (P:Program) (N:Nat) (all:List Oper) (o:Oper) (E:Env) (lo:List AObj) (R:Env->List AObj->Prop):Prop:=
 Fz all o E fun g=>
  match QQ o.op with
  | true=>match o.op with
   | .load t x=>oV E g x fun x=>tF P t lo x fun v=>nY N o.dst (rX g v) E fun E=>R E lo
   | .convert s d x=>oV E g x fun x=>FB P g s d lo x fun v=>nY N o.dst (rX g v) E fun E=>R E lo
   | .lookup t x i ok=>oV E g x fun x=>oV E g i fun i=>tG P g t lo x i ok fun v=>nY N o.dst (rX g v) E fun E=>R E lo
   | _=>False
  | false=>match bm o.op with
   | true=>match g with
    | none=>ig P o.op E lo fun v lo=>nY N o.dst v E fun E=>R E lo
    | some _=>False
   | false=>Te P o.op E g fun v=>nY N o.dst (rX g v) E fun E=>R E lo
inductive AX where
 | normal|exit (id:Nat)|ret
def Py (inl:List Nat) (d:Option Tmp):Bool:=match d with|some d=>XQ inl (10000000+d)|none=>false
def oc (inl:List Nat) (d:Option Tmp):Bool:=match d with|some d=>XQ inl (80000000+d)|none=>false
def ad (inl:List Nat) (t:Tmp):Bool:=XQ inl (20000000+t)
def Ng (inl:List Nat) (id:Nat):Bool:=XQ inl (40000000+id)
def vU (inl:List Nat) (o:Oper):Bool:=
 match o.op with
 | .call { callee:=.value (.func f),args:=_,argTypes:=_ }=>XQ inl f
 | .call { callee:=.value (.tmp t),args:=_,argTypes:=_ }=>ad inl t
 | .buildSlice _ _ _=>Py inl o.dst
 | .convert _ _ _=>Py inl o.dst
 | o=>bm o
def FJ:Op->Bool
 | .box _ _|.alloc _|.makeMap _ _|.buildSlice _ _ _|.makeSlice _ _ _=>true
 | .call { callee:=.builtin .append,.. }=>true
 | _=>false
def fw (inl:List Nat) (o:Oper):Bool:=match o.op with
 | .store _ (.tmp t) _=>XQ inl (50000000+t)
 | .call { callee:=.value (.tmp t),args:=_,argTypes:=_ }=>ad inl t&&XQ inl (85000000+t)
 | .call { callee:=.value (.func f),args:=_,argTypes:=_ }=>XQ inl f&&XQ inl (86000000+f)
 | _=>false
def Eb (inl:List Nat) (o:Oper):Bool:=FJ o.op||fw inl o
def lR (sl:List Nat) (n0 k:Nat):Bool:=match Nat.blt k n0 with
 | true=>(match XQ sl (60000000+1000 * n0+k)with|true=>false|false=>true)
 | false=>false
def rW (inl:List Nat) (o:Oper):Bool:=match o.dst with
 | some d=>XQ inl (70000000+d)
 | none=>false
def PR (inl:List Nat) (m:Bool) (oi oj:Oper):Bool:=vU inl oi&&(vU inl oj||QQ oj.op&&!(m&&Eb inl oi&&!rW inl oj))
def QY (ops:Array Oper) (i:Nat):Nat->Nat->Bool
 | 0,_=>false
 | f+1,j=>match ops[j]? with
  | some oj=>oj.after.any (fun e=>Region.binds .any e&&e.on==i)||oj.after.any (fun e=>Region.binds .any e&&QY ops i f e.on)
  | none=>false
def Region.effFree (inl:List Nat) (m:Bool) (ops:Array Oper) (listed:Array Bool) (i:Nat):Bool:=
 match ops[i]? with
 | none=>false
 | some oi=>(List.range ops.size).all fun j=>j==i||listed.getD j true||match ops[j]? with
   | some oj=>(!PR inl m oi oj&&!PR inl m oj oi)||QY ops i ops.size j
   | none=>true
def Region.effFrom (inl:List Nat) (m:Bool) (ops:Array Oper):Nat->Nat->Array Bool->Bool
 | 0,_,_=>true
 | fuel+1,k,listed=>Region.effFree inl m ops listed k&&Region.effFrom inl m ops fuel (k+1) (listed.setIfInBounds k true)
def Hf (inl:List Nat) (m:Bool) (ops:Array Oper):Bool:=Go.Region.lexB .any ops&&Region.effFrom inl m ops ops.size 0 (Array.replicate ops.size false)
end Ax
end
section
namespace Ax
open Go
variable {Lw:Nat}
def dJ (bs:(Base Lw)) (ρ:List Value) (H:(PH Lw)) (a:FV) (lo':List AObj) (v:Value) (w':World):Prop:=
 ∃ ρ' H',ρ <+: ρ'/\PH.le H H'/\SatW bs ρ' H' lo' w'/\qL ρ' H' a v
def EU (P:Program) (bs:(Base Lw)) (ρ:List Value) (H:(PH Lw)) (a:FV) (lo':List AObj):Result Next->Prop
 | .ok (.value v) w'=>dJ bs ρ H a lo' v w'
 | .ok .skip w'=>dJ bs ρ H a lo' undef w'
 | .ok (.enter f args) w'=>Calls P f args w' fun c b=>∃ v,c=.returned v/\dJ bs ρ H a lo' v b
 | _=>False
def uR (P:Program) (o:Oper) (e:Nat->FV) (lo:List AObj) (g:G) (a:FV) (lo':List AObj):Prop:=
 oZ g->∀ ⦃Lw:Nat⦄ (bs:(Base Lw)) (ρ:List Value) (H:(PH Lw)) (w:World) (eval:Operand->Value),SatW bs ρ H lo w ->
  (∀ x∈o.op.operands,qL ρ H (oT e x) (eval x))->EU P bs ρ H a lo' ((execOp eval o).run P w)
theorem vS {bs:(Base Lw)} {ρ:List Value} {H:(PH Lw)} {a:FV} {lo:List AObj} {v:Value} {w:World} (s:SatW bs ρ H lo w) (r:qL ρ H a v) :
  dJ bs ρ H a lo v w:=⟨ρ,H,jq _,PH.le.refl H,s,r⟩
theorem gz {g:G} {p:Prop} (h:gI g p) (a:oZ g):p:=by
 cases g with
 | none=>exact h
 | some b=>exact h a
theorem QT:∀ (E:Env) (t:Nat) (R:FV->Prop),ik E t R=R (qG E t)
 | [],_,_=>rfl
 | (t',v)::E,t,R=>by
  simp only[ik,qG];cases Nat.beq t t' with
  | true=>rfl
  | false=>exact QT E t R
theorem Ft (E:Env) (x:Operand) (R:FV->Prop):ev E x R=R (oT (qG E) x):=by
 cases x with
 | tmp t=>exact QT E t R
 | const v=>exact Hk _ _
 | global g=>rfl
 | func f=>rfl
def oL (g:G) (f v:FV):Prop:=∀ ⦃Lw:Nat⦄ (ρ:List Value) (H:PH Lw) (x:Value),oZ g->qL ρ H f x->qL ρ H v x
theorem qB {E:Env} {g:G} {x:Operand} {R:FV->Prop} (h:oV E g x R):∃ v,R v/\oL g (oT (qG E) x) v:=by
 unfold oV at h;rw[Ft]at h;generalize oT (qG E) x=f at *;cases f<;>simp only at h
 case opt g' v'=>
  refine⟨v',h.2,fun Lw ρ H y b a=>?_⟩;have:=gz h.1 b;simpa[qL,this]using a
 all_goals exact⟨_,h,fun _ _ _ _ _ a=>a⟩
theorem XU {v:Value} {p:PV} (h:lP v=some p) (H:(PH Lw)):qu H p v:=by
 unfold lP at h;split at h<;>(cases h)<;>simp[qu]
theorem HK (H:(PH Lw)):∀ {vs:List Value} {a:List PV},ay vs=some a->qU H a vs
 | [],a,h=>by simp only[ay]at h; cases h; simp[qU]
 | v::vs,a,h=>by
  simp only[ay]at h;split at h
  ·rename_i p hp
   split at h
   ·rename_i l b
    cases h;simp only[qU];exact⟨v,vs,rfl,XU hp H,HK H b⟩
   cases h
  ·cases h
theorem Sf (v:Value) (ρ:List Value) (H:(PH Lw)):qL ρ H (aT v) v:=by
 unfold aT;split
 ·simp[qL,qu,qU]
 ·split
  ·rename_i h
   simp only[qL,qu];exact⟨_,rfl,HK H h⟩
  trivial
 split
 ·rename_i h; exact XU h H
 trivial
theorem nQ {ρ:List Value} {H:(PH Lw)} {e:Nat->FV} {a:Act} (h:∀ t,qL ρ H (e t) (a.tmps.getD t undef)) (x:Operand):qL ρ H (oT e x) (a.eval x):=by
 cases x with
 | tmp t=>exact h t
 | const v=>exact Sf v ρ H
 | func f=>simp[oT,qL,qu,Act.eval]
 | global g=>trivial
theorem mY {ρ:List Value} {H:(PH Lw)} {b:Bool} {x:Value} (h:qL ρ H (.p (.bool b)) x):x=.bool b:=by simpa[qL,qu]using h
theorem xi {ρ:List Value} {H:(PH Lw)} {k:IntKind} {n:Int} {x:Value} (h:qL ρ H (.p (.int k n)) x):x=.int k n:=by simpa[qL,qu]using h
theorem mB {ρ:List Value} {H:(PH Lw)} {l:List UInt8} {x:Value} (h:qL ρ H (.p (.str l)) x):x=.string ⟨l.toArray⟩:=by simpa[qL,qu]using h
theorem cr {ρ:List Value} {H:(PH Lw)} {b:Bool}:qL ρ H (.p (.bool b)) (.bool b):=by simp[qL,qu]
theorem fR {ρ:List Value} {H:(PH Lw)} {k:IntKind} {n:Int}:qL ρ H (.p (.int k n)) (.int k n):=by simp[qL,qu]
theorem tO {ρ:List Value} {H:(PH Lw)} {l:List UInt8}:qL ρ H (.p (.str l)) (.string ⟨l.toArray⟩):=by simp[qL,qu]
theorem fL {α:Type}:∀ {n:Nat} {l:List α} {R:List α->Prop},XX n l R->R (l.take n)/\n<=l.length
 | 0,l,R,h=>by simpa[XX]using h
 | n+1,[],R,h=>by simp[XX]at h
 | n+1,a::l,R,h=>by
  have:=fL (n:=n) (l:=l) (R:=fun l=>R (a::l)) h
  simpa using this
theorem uS {α:Type}:∀ {n:Nat} {l:List α} {R:List α->Prop},Qb n l R->R (l.drop n)/\n<=l.length
 | 0,l,R,h=>by simpa[Qb]using h
 | n+1,[],R,h=>by simp[Qb]at h
 | n+1,a::l,R,h=>by simpa using uS (n:=n) (l:=l) (R:=R) h
theorem zd {α:Type}:∀ {n:Nat} {l:List α} {R:α->Prop},nX n l R->∃ a,l[n]? =some a/\R a
 | 0,[],R,h=>by simp[nX]at h
 | 0,a::l,R,h=>⟨a,by simp,h⟩
 | n+1,[],R,h=>by simp[nX]at h
 | n+1,a::l,R,h=>by simpa using zd (n:=n) (l:=l) (R:=R) h
theorem xL {α:Type}:∀ {n:Nat} {x:α} {l:List α} {R:List α->Prop},Xn n x l R->R (l.set n x)/\n<l.length
 | 0,x,[],R,h=>by simp[Xn]at h
 | 0,x,a::l,R,h=>by simpa[Xn]using h
 | n+1,x,[],R,h=>by simp[Xn]at h
 | n+1,x,a::l,R,h=>by simpa using xL (n:=n) (x:=x) (l:=l) (R:=fun l=>R (a::l)) h
theorem zK {α:Type}:∀ {l:List α} {x:α} {R:List α->Prop},mC l x R->R (l++[x])
 | [],x,R,h=>by simpa[mC]using h
 | a::l,x,R,h=>zK (l:=l) (x:=x) (R:=fun l=>R (a::l)) h
theorem zG {α:Type}:∀ {l:List α} {n:Nat} {R:Nat->Prop},Zg l n R->R (n+l.length)
 | [],n,R,h=>by simpa[Zg]using h
 | a::l,n,R,h=>by
  have:=zG (l:=l) (n:=n+1) (R:=R) h;simpa[Nat.add_comm,Nat.add_left_comm,Nat.add_assoc]using this
theorem tC {P:Program} {t f:Nat} {R:Nat->TypeId->Prop} (h:Br P t f R) :
  ∃ b x i,P.underlying t=some (.struct b)/\b[f]? =some x/\P.info? x.type=some i/\i.size≠0/\R x.offset x.type:=by
 unfold Br at h;split at h
 ·rename_i b hu
  obtain⟨x,c,a⟩:=zd h;split at a
  ·rename_i i d
   split at a
   ·exact a.elim
   rename_i hz;exact⟨_,x,i,hu,by simpa using c,d,fun e=>by simp[e]at hz,a⟩
  exact a.elim
 exact h.elim
theorem vk {P:Program} {t:TypeId} {R:Bool->Nat->Prop} (h:bp P t R) :
  ∃ d i,P.underlying t=some d/\P.info? t=some i/\R (SL d) i.size:=by
 unfold bp at h;split at h
 ·rename_i d a
  split at h
  ·rename_i i b; exact⟨d,i,a,b,h⟩
  exact h.elim
 exact h.elim
theorem vh {P:Program} {t:TypeId} {R:TypeId->Nat->Prop} (h:Zz P t R) :
  ∃ e i,P.underlying t=some (.slice e)/\P.info? e=some i/\R e i.size:=by
 unfold Zz at h;split at h
 ·rename_i e he
  split at h
  ·rename_i i a; exact⟨e,i,he,a,h⟩
  exact h.elim
 exact h.elim
theorem Ri {v:FV} {R:PV->Prop} (h:lO v R):∃ p,R p/\∀ ⦃Lw:Nat⦄ (ρ:List Value) (H:PH Lw) (x:Value),qL ρ H v x->qu H p x:=by
 cases v<;>simp only[lO]at h
 case p p=>exact⟨p,h,fun _ _ _ _ r=>r⟩
 case tsl k rows=>exact⟨_,h,fun _ _ _ _ r=>r.2⟩
 case hptr row=>exact⟨_,h,fun _ _ _ _ r=>by simp only[qL]at r; simp only[qu]; exact r⟩
theorem sF:∀ {c:FV} {R:List PV->Prop},VI c R->∃ d,R d/\∀ ⦃Lw:Nat⦄ (ρ:List Value) (H:(PH Lw)) (vs:List Value),qL ρ H c (.tuple vs.toArray)->qU H d vs
 | .cap0,R,h=>⟨[],h,fun Lw ρ H vs r=>by
   simp only[qL,Value.tuple.injEq]at r;simpa[qU]using r⟩
 | .cap a b,R,h=>by
  simp only[VI]at h;obtain⟨p,h,hp⟩:=Ri h;obtain⟨d,h,f⟩:=sF h;refine⟨_,h,fun Lw ρ H vs r=>?_⟩;obtain⟨u,us,e,g,i⟩:=r;have e:vs=u::us:=by simpa using e
  subst e;simp only[qU];exact⟨u,us,rfl,hp _ _ _ g,f _ _ _ i⟩
 | .top,_,h|.p _,_,h|.opt _ _,_,h|.tsl _ _,_,h|.ptr _ _,_,h|.hptr _,_,h|.bself _,_,h|.bsl _ _ _ _,_,h|.vsl _ _,_,h|.eptr _ _ _ _,_,h|.mref _,_,h|.pair _ _,_,h|.stmp _,_,h|.clo _ _,_,h|.fagg _,_,h|.nxt _ _ _,_,h|.asl _ _ _,_,h|.ifs _ _,_,h|.cut _,_,h=>by
  simp[VI]at h
theorem cd {v:FV} {R:PV->Prop} (h:LS v R):∃ p,R p/\∀ ⦃Lw:Nat⦄ (ρ:List Value) (H:PH Lw) (x:Value),qL ρ H v x->qu H p x:=by
 cases v<;>simp only[LS]at h
 case p p=>exact⟨p,h,fun _ _ _ _ r=>r⟩
 case tsl k rows=>exact⟨_,h,fun _ _ _ _ r=>r.2⟩
 case hptr row=>exact⟨_,h,fun _ _ _ _ r=>by simp only[qL]at r; simp only[qu]; exact r⟩
 case clo f c=>
  obtain⟨b,h,a⟩:=sF h;exact⟨_,h,fun Lw ρ H x r=>by obtain⟨vs,e,rc⟩:=r; simp only[qu]; exact⟨vs,e,a _ _ _ rc⟩⟩
 case fagg c=>
  obtain⟨b,h,a⟩:=sF h;exact⟨_,h,fun Lw ρ H x r=>by obtain⟨vs,e,rc⟩:=r; simp only[qu]; exact⟨vs,e,a _ _ _ rc⟩⟩
theorem dH:∀ {l:List FV} {R:List PV->Prop},LU l R->∃ a,R a/\∀ ⦃Lw:Nat⦄ (ρ:List Value) (H:PH Lw) (vs:List Value),zJ ρ H l vs->qU H a vs
 | [],R,h=>⟨[],h,fun _ _ vs r=>by simpa[qU,zJ]using r⟩
 | v::l,R,h=>by
  simp only[LU]at h;obtain⟨p,c,d⟩:=cd h;obtain⟨a,f,g⟩:=dH c;refine⟨_,f,fun Lw ρ H vs r=>?_⟩;obtain⟨x,b,e,i,j⟩:=r;simp only[qU];exact⟨x,b,e,d _ _ _ i,g _ _ _ j⟩
theorem dG {E:Env} {g:G}:∀ {l:List Operand} {R:List FV->Prop},oU E g l R ->
  ∃ vs,R vs/\∀ ⦃Lw:Nat⦄ (ρ:List Value) (H:PH Lw) (eval:Operand->Value),oZ g->(∀ x∈l,qL ρ H (oT (qG E) x) (eval x))->zJ ρ H vs (l.map eval)
 | [],R,h=>⟨[],h,fun _ _ _ _ _ _=>by simp[zJ]⟩
 | x::l,R,h=>by
  simp only[oU]at h;obtain⟨v,c,d⟩:=qB h;obtain⟨vs,e,f⟩:=dG c;refine⟨_,e,fun Lw ρ H eval a b=>?_⟩;simp only[jk,zJ];exact⟨_,_,rfl,d _ _ _ a (b x (by simp)),f _ _ _ a (fun y i=>b y (by simp[i]))⟩
theorem pR (l:List UInt8):(⟨l.toArray⟩:ByteArray).size=l.length:=ByteArray.size_mk_toArray l
section
variable {P:Program} {bs:(Base Lw)} {ρ:List Value} {H:(PH Lw)} {lo:List AObj} {w:World}
theorem Gd {t:TypeId} (hu:P.underlying t=some .bool) (n:Nat) (a b:Bool):(Op.equalIn (n+1) t (.bool a) (.bool b)).run P w=.ok (a==b) w:=by
 simp[Op.equalIn,kru hu]
theorem Bi {t:TypeId} (hu:P.underlying t=some .bool) (a b:Bool):(Op.equal t (.bool a) (.bool b)).run P w=.ok (a==b) w:=
 Gd hu 9999 a b
theorem me {t:TypeId} {d:TypeDesc} (hu:P.underlying t=some d):(isAgg t).run P w=.ok (SL d) w:=by
 simp only[isAgg,ka,kru hu,jZ];cases d<;>rfl
def oS:List PV->List PV->Option Bool
 | [],[]=>some true
 | .int k a::az,.int k' b::bs=>match Uc k k' with
  | true=>(oS az bs).map fun c=>bif a==b then c else false
  | false=>none
 | .str a::az,.str b::bs=>(oS az bs).map fun c=>bif a==b then c else false
 | .bool a::az,.bool b::bs=>(oS az bs).map fun c=>bif a==b then c else false
 | _,_=>none
theorem Hi:∀ {az bs:List PV} {R:Bool->Prop},Rb az bs R->∃ c,R c/\oS az bs=some c:=by
 intro az
 induction az with
 | nil=>intro bs R h; cases bs with
  | nil=>exact⟨true,h,rfl⟩
  | cons b bs=>simp[Rb]at h
 | cons a az ih=>
  intro bs R h;cases bs with
  | nil=>cases a<;>simp[Rb]at h
  | cons b bs=>
   cases a<;>cases b<;>first
    | (simp[Rb]at h; done)
    | (simp only[Rb]at h; obtain⟨c,d,e⟩:=ih h; exact⟨_,d,by simp[oS,e]⟩)
    | skip
   simp only[Rb]at h;split at h
   ·rename_i f
    obtain⟨c,d,e⟩:=ih h;exact⟨_,d,by simp[oS,f,e]⟩
   exact h.elim
theorem PM (a b:List UInt8):((⟨a.toArray⟩:ByteArray).toList==(⟨b.toArray⟩:ByteArray).toList)=(a==b):=by
 rw[ByteArray.toList_eq,ByteArray.toList_eq]
theorem HX {H:(PH Lw)} {xs ys:Array Value}:∀ {fs:List Field} {o:Nat} {az bs:List PV} {va vb:List Value} {c:Bool},NL P fs o az=true->qU H az va->qU H bs vb ->
  (∀ j v,va[j]? =some v->xs[o+j]? =some v)->(∀ j v,vb[j]? =some v->ys[o+j]? =some v)->oS az bs=some c->(Op.eqFields 9999 xs ys fs).run P w=.ok c w:=by
 intro fs
 induction fs with
 | nil=>
  intro o az bs va vb c hf ra rb hx hy he;cases az with
  | nil=>cases bs with
   | nil=>simp[oS]at he; subst he; simp[Op.eqFields]
   | cons b bs=>simp[oS]at he
  | cons a az=>simp[NL]at hf
 | cons f fs ih=>
  intro o az bs va vb c hf ra rb hx hy he;cases az with
  | nil=>simp[NL]at hf
  | cons a az=>
   cases bs with
   | nil=>cases a<;>simp[oS]at he
   | cons b bs=>
    simp only[NL,ji]at hf;obtain⟨⟨⟨hn,ho⟩,hk⟩,hf⟩:=hf;have hn:f.name ≠ "_" :=by simpa using hn
    have ho:f.offset=o:=jm ho;simp only[qU]at ra rb;obtain⟨v,va',rfl,rv,ra'⟩:=ra;obtain⟨u,vb',rfl,ru,rb'⟩:=rb;have hxv:=hx 0 v rfl;have hyu:=hy 0 u rfl;simp only[Nat.add_zero]at hxv hyu;have step:∀ {x y:Bool},oS az bs=some y->(Op.eqFields 9999 xs ys fs).run P w=.ok y w:=fun{x y} hxy=>
     ih hf ra' rb' (fun j v hv=>by rw[Nat.add_assoc,Nat.add_comm 1 j]; exact hx (j+1) v hv) (fun j v hv=>by rw[Nat.add_assoc,Nat.add_comm 1 j]; exact hy (j+1) v hv) hxy
    have oX:∀ {d:TypeDesc} {q:Bool},P.underlying f.type=some d->SL d=false->(Op.equalIn 9999 f.type v u).run P w=.ok q w->((oS az bs).map fun c=>bif q then c else false)=some c ->
      (Op.eqFields 9999 xs ys (f::fs)).run P w=.ok c w:=by
     intro d q hu ha hq hc;cases he2:oS az bs with
     | none=>rw[he2]at hc; cases hc
     | some y=>
      rw[he2]at hc;have hc:(bif q then y else false)=c:=by simpa using hc
      simp only[Op.eqFields,if_pos hn,ka,part,ho,me hu,ha,jZ,hxv,hyu];simp[hq];cases q with
      | true=>simp at hc; subst hc; simpa using step (x:=true) he2
      | false=>simp at hc; subst hc; simp
    cases a<;>cases b<;>simp only[oS]at he<;>first|(cases he; done)|skip
    ·split at hk
     all_goals first
      | (cases hk; done)
      | (rename_i hu hq; cases hq; done)
      | (rename_i hu hq; simp only[qu]at rv ru; subst rv ru; exact oX hu rfl (run_equalIn_bool' w _ _ _ _ hu) he)
    ·split at he
     ·rename_i hkk
      have hkk:=bn hkk;subst hkk;split at hk
      all_goals first
       | (cases hk; done)
       | (rename_i hu hq; cases hq; done)
       | (rename_i hu hq; simp only[qu]at rv ru; subst rv ru; exact oX hu rfl (run_equalIn_int w _ _ _ _ _ _ hu) he)
     ·cases he
    split at hk
    all_goals first
     | (cases hk; done)
     | (rename_i hu hq; cases hq; done)
     | (rename_i hu hq; simp only[qu]at rv ru; subst rv ru; exact oX hu rfl (run_equalIn_string w _ _ _ _ hu) (by rw[PM]; exact he))
theorem Mx {H:(PH Lw)} {e:TypeId} (hu:P.underlying e=some .bool) {xs A:Array Value}:∀ {az bs:List PV} {k l:List Value} {o:Nat} {c:Bool},MM az=true->qU H az k->qU H bs l ->
  (∀ j v,k[j]? =some v->xs[o+j]? =some v)->(∀ j v,l[j]? =some v->A[o+j]? =some v)->oS az bs=some c->(Op.eqItems 9999 e 1 xs A (List.range' o az.length)).run P w=.ok c w:=by
 intro az
 induction az with
 | nil=>
  intro bs k l o c m n p q r he;cases bs with
  | nil=>simp[oS]at he; subst he; simp[Op.eqItems]
  | cons b bs=>simp[oS]at he
 | cons a az ih=>
  intro bs k l o c m n p q r he;cases bs with
  | nil=>cases a<;>simp[oS]at he
  | cons b bs=>
   simp only[qU]at n p;obtain⟨v,D,rfl,B,s⟩:=n;obtain⟨u,E,rfl,C,t⟩:=p;have g:=q 0 v rfl;have i:=r 0 u rfl;simp only[Nat.add_zero]at g i;cases a<;>simp only[MM]at m<;>first|(cases m; done)|skip
   cases b<;>simp only[oS]at he<;>first|(cases he; done)|skip
   rename_i a b;simp only[qu]at B C;subst B C;cases d:oS az bs with
   | none=>rw[d]at he; cases he
   | some y=>
    rw[d]at he;have f:(bif a==b then y else false)=c:=by simpa using he
    have step:=ih (o:=o+1) m s t (fun j v x=>by rw[Nat.add_assoc,Nat.add_comm 1 j]; exact q (j+1) v x) (fun j v x=>by rw[Nat.add_assoc,Nat.add_comm 1 j]; exact r (j+1) v x) d
    have F:=run_equalIn_bool' (P:=P) (w:=w) 9998 e a b hu;simp only[ja,List.range'_succ,Op.eqItems,ka,part,Nat.mul_one,me hu,SL,jZ,g,i];simp[F];cases h:a==b with
    | true=>rw[h]at f; simp at f; subst f; have z:a=b:=(by simpa using h); simpa[z]using step
    | false=>rw[h]at f; simp at f; subst f; have z:¬ a=b:=(by simpa using h); simp[z]
theorem HW {H:(PH Lw)} {t:TypeId} {az bs:List PV} {k l:List Value} {c:Bool} (a:SY P t az=true) (m:qU H az k) (p:qU H bs l) (he:oS az bs=some c) :
  P.eqGuardType P.depth t=false/\(Op.equalIn 10000 t (.agg k.toArray) (.agg l.toArray)).run P w=.ok c w:=by
 unfold SY at a;split at a
 ·rename_i n e hu
  simp only[ML,ji,Bool.not_eq_true']at a;obtain⟨⟨⟨⟨⟨g,f⟩,h⟩,q⟩,r⟩,s⟩:=a;refine⟨g,?_⟩;have u:P.underlying e=some .bool:=by
   split at f
   ·assumption
   cases f
  obtain⟨i,x⟩:=Option.isSome_iff_exists.1 h;rw[run_equalIn_array w 9999 _ _ hu x,jm q,jm r,List.range_eq_range'];exact Mx (o:=0) u s m p (fun j v b=>by simpa using b) (fun j v b=>by simpa using b) he
 ·rename_i y hu
  simp only[ji,Bool.not_eq_true']at a;obtain⟨⟨g,f⟩,h⟩:=a;refine⟨f,?_⟩;have d:P.fieldsOf t=⟨y⟩:=by simp[Program.fieldsOf,hu]
  rw[run_equalIn_agg w 9999 t _ _ (by rw[d]; exact hu) g,d];exact HX (o:=0) h m p (fun j v b=>by simpa using b) (fun j v b=>by simpa using b) he
 cases a
theorem Rz {g:G} {op:BinOp} {t:TypeId} {x y:FV} {R:FV->Prop} (h:eu P g op t x y R) :
  ∃ A,R A/\(oZ g->∀ ⦃Lw:Nat⦄ (ρ:List Value) (H:(PH Lw)) (w:World) (i j:Operand) (a b:Value),qL ρ H x a->qL ρ H y b ->
   ∃ v,(do eqGuard op t i j a b; binOp op t a b:Sem Value).run P w=.ok v w/\qL ρ H A v):=by
 unfold eu at h;split at h
 ·rename_i k n
  split at h
  ·rename_i k' m
   split at h
   ·refine⟨_,h.2,fun f Lw ρ H w i j a b d e=>?_⟩
    rw[xi d,xi e];have p:=gz h.1 f;exact⟨_,by simp[eqGuard,binOp,Op.shift,show ¬ m<0 by omega],fR⟩
   ·refine⟨_,h.2,fun f Lw ρ H w i j a b d e=>?_⟩
    rw[xi d,xi e];have p:=gz h.1 f;exact⟨_,by simp[eqGuard,binOp,Op.shift,show ¬ m<0 by omega],fR⟩
   ·split at h
    case h_2=>exact h.elim
    rename_i o;have o:=bn o;obtain⟨p,h⟩:=h;refine⟨_,h,fun f Lw ρ H w i j a b d e=>?_⟩;rw[xi d,xi e];have p:=gz p f;exact⟨_,by simp[eqGuard,binOp,Op.intDiv,o,p],fR⟩
   ·split at h
    case h_2=>exact h.elim
    rename_i o;have o:=bn o;obtain⟨p,h⟩:=h;refine⟨_,h,fun f Lw ρ H w i j a b d e=>?_⟩;rw[xi d,xi e];have p:=gz p f;exact⟨_,by simp[eqGuard,binOp,Op.intDiv,o,p],fR⟩
   split at h
   case h_2=>exact h.elim
   rename_i o;have o:=bn o;subst o;unfold eR at h;split at h<;>first
    | exact h.elim
    | (refine⟨_,h,fun f Lw ρ H w i j a b d e=>?_⟩; rw[xi d,xi e]; exact⟨_,by simp[eqGuard,binOp,Op.intArith,Op.intBits,Op.intCmp]<;>rfl,by simp[qL,qu]⟩)
  ·exact h.elim
 ·rename_i l
  split at h
  ·rename_i m
   unfold eS at h;split at h
   ·obtain⟨q,h⟩:=h
    refine⟨_,h,fun f Lw ρ H w i j a b d e=>?_⟩;rw[mB d,mB e];have q:=gz q f;refine⟨.string ⟨(l++m).toArray⟩,?_,tO⟩;have:=run_string_add_sum (P:=P) w ⟨l.toArray⟩ ⟨m.toArray⟩ (by rw[pR,pR]; unfold rY at q; omega);simp[eqGuard,binOp,this,ByteArray.mk_append_mk]
   all_goals first
    | exact h.elim
    | (refine⟨_,h,fun f Lw ρ H w i j a b d e=>?_⟩; rw[mB d,mB e]; exact⟨_,by simp[eqGuard,binOp,Op.stringOp]<;>rfl,by simp[qL,qu]⟩)
  ·exact h.elim
 ·rename_i D
  split at h
  ·rename_i E
   unfold Ry at h;split at h
   ·rename_i hu
    unfold eQ at h;split at h<;>first
     | exact h.elim
     | (refine⟨_,h,fun f Lw ρ H w i j a b d e=>?_⟩; rw[mY d,mY e]; exact⟨_,by simp only[eqGuard,binOp,ka,Bi hu]; rfl,by simp[qL,qu]⟩)
   ·exact h.elim
  exact h.elim
 ·rename_i az
  split at h
  ·rename_i bs
   split at h
   ·obtain⟨r,h⟩:=h
    obtain⟨c,s,he⟩:=Hi h;refine⟨_,s,fun f Lw ρ H w i j a b d e=>?_⟩;simp only[qL,qu]at d e;obtain⟨B,rfl,d⟩:=d;obtain⟨C,rfl,e⟩:=e;obtain⟨u,z⟩:=HW (w:=w) r d e he;exact⟨.bool c,by rw[ka,run_eqGuard_agg w _ t i j _ _ u,jZ,run_eql_struct,z]; rfl,by simp[qL,qu]⟩
   ·obtain⟨r,h⟩:=h
    obtain⟨c,s,he⟩:=Hi h;refine⟨_,s,fun f Lw ρ H w i j a b d e=>?_⟩;simp only[qL,qu]at d e;obtain⟨B,rfl,d⟩:=d;obtain⟨C,rfl,e⟩:=e;obtain⟨u,z⟩:=HW (w:=w) r d e he;exact⟨.bool (!c),by rw[ka,run_eqGuard_agg w _ t i j _ _ u,jZ,run_neq_struct,z]; rfl,by simp[qL,qu]⟩
   exact h.elim
  exact h.elim
 exact h.elim
theorem Mf {t:TypeId} {x:FV} {f:Nat} {R:FV->Prop} (h:RE P t x f R) :
  ∃ p,R p/\∀ ⦃Lw:Nat⦄ (ρ:List Value) (H:(PH Lw)) (w:World) (a:Value),qL ρ H x a->∃ v,(Instr.fieldAt t a f).run P w=.ok v w/\qL ρ H p v:=by
 unfold RE at h;split at h
 ·rename_i k off
  obtain⟨r,y,i,hu,e,g,hz,d⟩:=tC h;refine⟨_,d,fun Lw ρ H w a l=>?_⟩;obtain⟨b,m,rfl⟩:=l;exact⟨.pointer (some ⟨b,off+y.offset,none⟩),by simp[Instr.fieldAt,kru hu,e,Instr.sureAddr,fieldPlace,Go.sizeOf,typeInfo,g,hz,Addr.add_lit],b,m,rfl⟩
 ·rename_i row
  obtain⟨r,y,i,hu,e,g,hz,d⟩:=tC h;obtain⟨d,hlen⟩:=uS d;refine⟨_,d,fun Lw ρ H w a l=>?_⟩;obtain⟨b,o,vs,rfl,q,c⟩:=l;refine⟨.pointer (some ⟨b,o+y.offset,none⟩),by simp[Instr.fieldAt,kru hu,e,Instr.sureAddr,fieldPlace,Go.sizeOf,typeInfo,g,hz,Addr.add_lit],b,o+y.offset,vs.drop y.offset,rfl,q.drop _,fun j v s=>?_⟩;rw[jD]at s;have:=c _ _ s
  rwa [← Nat.add_assoc]at this
 ·rename_i k z u off
  obtain⟨r,y,i,hu,e,g,hz,d⟩:=tC h;refine⟨_,d,fun Lw ρ H w a l=>?_⟩;obtain⟨b,n,cap,m,rfl⟩:=l;exact⟨.pointer (some ⟨b,u * z+off+y.offset,none⟩),by simp[Instr.fieldAt,kru hu,e,Instr.sureAddr,fieldPlace,Go.sizeOf,typeInfo,g,hz,Addr.add_lit],b,n,cap,m,by rw[Nat.add_assoc]⟩
 exact h.elim
theorem NQ {t:TypeId} {x:FV} {f:Nat} {R:FV->Prop} (h:iR P t x f R) :
  ∃ m,R m/\∀ ⦃Lw:Nat⦄ (ρ:List Value) (H:(PH Lw)) (w:World) (a:Value),qL ρ H x a->∃ v,(Instr.field t a f).run P w=.ok v w/\qL ρ H m v:=by
 unfold iR at h;split at h
 ·rename_i cs
  obtain⟨C,y,i,hu,n,s,hz,b⟩:=tC h;obtain⟨b,hlen⟩:=uS b;obtain⟨d,o,p,g,b⟩:=vk b;have k:o=i:=Option.some.inj (g.symm.trans s);subst k;split at b
  ·rename_i e
   obtain⟨b,D⟩:=fL b;refine⟨_,b,fun Lw ρ H w a j=>?_⟩;simp only[qL,qu]at j;obtain⟨vs,rfl,q⟩:=j;refine⟨.agg ((vs.drop y.offset).take o.size).toArray,?_,?_⟩
   ·simp[Instr.field,kru hu,n,asAgg,part,me p,e,Go.sizeOf,typeInfo,g,List.extract_toArray,List.extract_eq_take_drop]
   simp only[qL,qu]; exact⟨_,rfl,(q.drop _).take _⟩
  rename_i e;split at b
  ·rename_i c r u
   refine⟨_,b,fun Lw ρ H w a j=>?_⟩;simp only[qL,qu]at j;obtain⟨vs,rfl,q⟩:=j;have z:cs[y.offset]? =some c:=by
    have:=congrArg (fun l=>l[0]?) u
    simpa[jD]using this
   obtain⟨v,A,B⟩:=q.get z;exact⟨v,by simp[Instr.field,kru hu,n,asAgg,part,me p,e,A],B⟩
  exact b.elim
 exact h.elim
theorem VZ {ρ:List Value} {H:(PH Lw)} {w:World} {t e:TypeId} {f:TypeInfo} (hu:P.underlying t=some (.slice e)) (j:P.info? e=some f) {rows:List (List PV)} {a:Value} (h:qu H (.sl rows) a)
  {k:IntKind} {i:Int} {row:List PV} (l:0<=i) (d:rows[i.toNat]? =some row) (hlen:row.length=f.size) :
  ∃ v,(Instr.indexAt t a (.int k i)).run P w=.ok v w/\qL ρ H (.hptr row) v:=by
 simp only[qu]at h;rcases h with ⟨rfl,_⟩|⟨b,o,z,cap,rfl,n,m⟩
 ·simp at d
 obtain⟨hz,vs,q,c⟩:=m.get d;have g:i<rows.length:=by have:=(jG.1 d).1; omega
 refine⟨.pointer (some ⟨b,o+i.toNat * f.size,none⟩),?_,b,_,vs,rfl,q,?_⟩
 ·simp[Instr.indexAt,kru hu,asIntOf,l,g,Go.sizeOf,typeInfo,j,Addr.add_lit]
 rw[← hlen,hz]; exact c
theorem FC {g:G} {t:TypeId} {x i:FV} {R:FV->Prop} (h:VO P g t x i R) :
  ∃ F,R F/\(oZ g->∀ ⦃Lw:Nat⦄ (ρ:List Value) (H:(PH Lw)) (w:World) (a b:Value),qL ρ H x a->qL ρ H i b->∃ v,(Instr.indexAt t a b).run P w=.ok v w/\qL ρ H F v):=by
 unfold VO at h;split at h
 ·obtain⟨e,f,hu,l,row,m,p⟩:=vh h
  refine⟨_,p,fun q Lw ρ H w a b r s=>?_⟩;obtain⟨C,y,E⟩:=gz m q;rw[xi s];exact VZ hu l r C y E
 ·obtain⟨e,f,hu,l,row,m,p⟩:=vh h
  refine⟨_,p,fun q Lw ρ H w a b r s=>?_⟩;obtain⟨C,y,E⟩:=gz m q;rw[xi s];exact VZ hu l r.2 C y E
 ·rename_i k off D n
  split at h
  ·rename_i len e hu
   split at h
   ·rename_i f l
    obtain⟨A,p⟩:=h;refine⟨_,p,fun q Lw ρ H w a b r s=>?_⟩;obtain⟨C,y⟩:=gz A q;obtain⟨d,m,rfl⟩:=r;rw[xi s];refine⟨.pointer (some ⟨d,off+n.toNat * f.size,none⟩),?_,d,m,rfl⟩;simp[Instr.indexAt,kru hu,asIntOf,Instr.sureAddr,C,y,Go.sizeOf,typeInfo,l,Addr.add_lit]
   exact h.elim
  exact h.elim
 ·rename_i k n D i0
  obtain⟨e,f,hu,l,j,A,p⟩:=vh h;refine⟨_,p,fun q Lw ρ H w a b r s=>?_⟩;obtain⟨rfl,B⟩:=gz A q;obtain⟨m,⟨C,_⟩|⟨d,cap,rfl⟩⟩:=r
  ·omega
  rw[xi s];refine⟨.pointer (some ⟨d,j * f.size,none⟩),?_,d,n,cap,m,by rw[Nat.add_zero]⟩;simp[Instr.indexAt,kru hu,asIntOf,B,Go.sizeOf,typeInfo,l,Addr.add_lit]
 ·rename_i row D n
  split at h
  ·rename_i len e hu
   split at h
   ·rename_i f l
    obtain⟨A,p⟩:=h;refine⟨_,p,fun q Lw ρ H w a b r s=>?_⟩;obtain⟨C,y⟩:=gz A q;obtain⟨d,o,vs,rfl,m,I⟩:=r;rw[xi s];refine⟨.pointer (some ⟨d,o+n.toNat * f.size,none⟩),?_,d,o+n.toNat * f.size,(vs.drop (n.toNat * f.size)).take f.size,rfl,(m.drop _).take _,fun j u B=>?_⟩
    ·simp[Instr.indexAt,kru hu,asIntOf,Instr.sureAddr,C,y,Go.sizeOf,typeInfo,l,Addr.add_lit]
    rw[jE]at B;split at B
    ·rw[jD]at B
     rw[Nat.add_assoc];exact I _ _ B
    cases B
   ·exact h.elim
  exact h.elim
 ·rename_i k off n K D i0
  obtain⟨e,f,hu,l,A,p⟩:=vh h;refine⟨_,p,fun q Lw ρ H w a b r s=>?_⟩;obtain⟨rfl,J⟩:=gz A q;obtain⟨d,m,c,rfl,_⟩:=r;rw[xi s];refine⟨.pointer (some ⟨d,off,none⟩),?_,d,m,rfl⟩;have y:(0:Int)<(n:Int):=by omega
  simp[Instr.indexAt,kru hu,asIntOf,y,J,Go.sizeOf,typeInfo,l,Addr.add_lit]
 ·rename_i k z D i0
  split at h
  ·rename_i len e hu
   split at h
   ·rename_i f l
    split at h
    ·rename_i hz
     have hz:f.size=1:=jm hz;obtain⟨j,A,p⟩:=h;refine⟨_,p,fun q Lw ρ H w a b r s=>?_⟩;obtain⟨rfl,rfl,B⟩:=gz A q;obtain⟨d,n,cap,m,rfl⟩:=r;rw[xi s];refine⟨.pointer (some ⟨d,j,none⟩),?_,d,n,cap,m,by simp⟩;simp[Instr.indexAt,kru hu,asIntOf,Instr.sureAddr,B,Go.sizeOf,typeInfo,l,hz,Addr.add_lit]
    exact h.elim
   exact h.elim
  exact h.elim
 exact h.elim
theorem Mg {g:G} {t:TypeId} {x i:FV} {R:FV->Prop} (h:RF P g t x i R) :
  ∃ C,R C/\(oZ g->∀ ⦃Lw:Nat⦄ (ρ:List Value) (H:(PH Lw)) (w:World) (a b:Value),qL ρ H x a->qL ρ H i b->∃ v,(Instr.index t a b).run P w=.ok v w/\qL ρ H C v):=by
 unfold RF at h;split at h
 ·rename_i l k n
  split at h
  ·rename_i hu
   obtain⟨b,o,p⟩:=h;refine⟨_,p,fun r Lw ρ H w x y j s=>?_⟩;obtain⟨u,m⟩:=gz o r;rw[mB j,xi s];refine⟨_,?_,fR⟩;have z:=(jG.1 m).1;have F:(⟨l.toArray⟩:ByteArray)[n.toNat]? =some b:=by
    rw[ByteArray.getElem?_lt' _ _ (by rw[pR]; exact z)];have:=(jG.1 m).2;rw[← this];rfl
   simp[Instr.index,asIntOf,kru hu,u,F]
  exact h.elim
 ·rename_i cs k n
  split at h
  ·rename_i len e hu
   obtain⟨d,A,D,E,h⟩:=vk h;split at h
   ·rename_i f
    split at h
    ·rename_i hz
     have hz:A.size=1:=jm hz;obtain⟨c,o,p⟩:=h;refine⟨_,p,fun r Lw ρ H w x y j s=>?_⟩;obtain⟨u,m,B⟩:=gz o r;simp only[qL,qu]at j;obtain⟨vs,rfl,q⟩:=j;obtain⟨v,I,J⟩:=q.get B;rw[xi s];refine⟨v,?_,J⟩;simp[Instr.index,asIntOf,kru hu,u,m,Go.sizeOf,typeInfo,E,hz,part,me D,f,I]
    exact h.elim
   rename_i f;obtain⟨c,o,p⟩:=h;refine⟨_,p,fun r Lw ρ H w x y j s=>?_⟩;obtain⟨u,m,B⟩:=gz o r;simp only[qL,qu]at j;obtain⟨vs,rfl,q⟩:=j;rw[xi s];refine⟨.agg ((vs.drop (n.toNat * A.size)).take A.size).toArray,?_,?_⟩
   ·simp[Instr.index,asIntOf,kru hu,u,m,Go.sizeOf,typeInfo,E,part,me D,f,List.extract_toArray,List.extract_eq_take_drop]
   simp only[qL,qu];exact⟨_,rfl,by rw[← B]; exact(q.drop _).take _⟩
  exact h.elim
 exact h.elim
theorem RG {t:TypeId} {x:FV} {R:FV->Prop} (h:ew P t x R) :
  ∃ d,R d/\∀ ⦃Lw:Nat⦄ (ρ:List Value) (H:(PH Lw)) (w:World) (ty:TypeId) (a:Value),qL ρ H x a->∃ v,(Builtin.len_ #[t] ty #[a]).run P w=.ok v w/\qL ρ H d v:=by
 have slice:∀ (e:TypeId),P.underlying t=some (.slice e)->∀ (rows:List (List PV)) ⦃Lw:Nat⦄ (H:(PH Lw)) (w:World) (ty:TypeId) (a:Value),qu H (.sl rows) a->(Builtin.len_ #[t] ty #[a]).run P w=.ok (.int .i64 rows.length) w:=by
  intro e hu rows Lw H w ty a c;simp only[qu]at c;rcases c with ⟨rfl,rfl|⟨g,f,rfl⟩⟩|⟨b,o,z,cap,rfl,_,_⟩
  ·simp[Builtin.len_,kru hu,goInt]
  ·simp[Builtin.len_,kru hu,goInt]
  simp[Builtin.len_,kru hu,goInt]
 unfold ew at h;split at h
 ·rename_i l
  split at h
  ·rename_i hu
   refine⟨_,h,fun Lw ρ H w ty a c=>⟨.int .i64 l.length,?_,fR⟩⟩;rw[mB c];simp[Builtin.len_,kru hu,goInt,pR]
  exact h.elim
 ·rename_i rows
  split at h
  ·rename_i e hu
   exact⟨_,h,fun Lw ρ H w ty a c=>⟨_,slice e hu rows H w ty a c,fR⟩⟩
  exact h.elim
 ·rename_i k rows
  split at h
  ·rename_i e hu
   exact⟨_,h,fun Lw ρ H w ty a c=>⟨_,slice e hu rows H w ty a c.2,fR⟩⟩
  exact h.elim
 ·rename_i k off n cap
  split at h
  ·rename_i e hu
   refine⟨_,h,fun Lw ρ H w ty a c=>⟨.int .i64 n,?_,fR⟩⟩;obtain⟨b,_,_,rfl,_⟩:=c;simp[Builtin.len_,kru hu,goInt]
  exact h.elim
 ·rename_i k n
  split at h
  ·rename_i e hu
   refine⟨_,h,fun Lw ρ H w ty a c=>⟨.int .i64 n,?_,fR⟩⟩;obtain⟨_,⟨rfl,rfl⟩|⟨b,cap,rfl⟩⟩:=c<;>simp[Builtin.len_,kru hu,goInt]
  exact h.elim
 ·split at h
  ·rename_i e hu
   refine⟨_,h,fun Lw ρ H w ty a c=>⟨.int .i64 0,?_,fR⟩⟩;simp only[qL,qu]at c;subst c;simp[Builtin.len_,kru hu,goInt]
  exact h.elim
 exact h.elim
theorem DS {s d:TypeId} {x:FV} {R:FV->Prop} (h:DR P s d x R) :
  ∃ e,R e/\∀ ⦃Lw:Nat⦄ (ρ:List Value) (H:(PH Lw)) (w:World) (a:Value),qL ρ H x a->∃ v,(convert s d a).run P w=.ok v w/\qL ρ H e v:=by
 unfold DR at h;split at h
 ·split at h
  ·rename_i hu
   split at h
   ·rename_i k b
    refine⟨_,h,fun Lw ρ H w a c=>⟨_,?_,fR⟩⟩;rw[xi c];simp[convert,kru hu,kru b,Conv.intToInt]
   exact h.elim
  exact h.elim
 ·split at h
  ·rename_i hu
   split at h
   ·rename_i b
    refine⟨_,h,fun Lw ρ H w a c=>⟨_,?_,tO⟩⟩;rw[mB c];simp[convert,kru hu,kru b]
   exact h.elim
  exact h.elim
 exact h.elim
theorem vE {E:Env} {g:G} {x:Option Operand} {d:Nat} {R:Nat->Prop} (h:pH E g x d R) :
  ∃ n,R n/\(∀ ⦃Lw:Nat⦄ (ρ:List Value) (H:(PH Lw)) (eval:Operand->Value),oZ g->(∀ y∈x.toArray,qL ρ H (oT (qG E) y) (eval y))->(x=none/\n=d)\/∃ y k,x=some y/\eval y=.int k n):=by
 unfold pH at h;split at h
 ·exact⟨d,h,fun _ _ _ _ _ _=>.inl ⟨rfl,rfl⟩⟩
 rename_i y;obtain⟨v,h,b⟩:=qB h;split at h
 ·rename_i k i
  obtain⟨n,c,e⟩:=h;refine⟨n,e,fun Lw ρ H eval a f=>.inr ⟨y,k,rfl,?_⟩⟩;rw[xi (b ρ H _ a (f y (by simp))),gz c a]
 exact h.elim
theorem nh {isSlice:Bool} {len cap:Nat} {lo b:Option Operand} {eval:Operand->Value} {a h:Nat} (c:(lo=none/\a=0)\/∃ y k,lo=some y/\eval y=.int k a)
  (d:(b=none/\h=len)\/∃ y k,b=some y/\eval y=.int k h) (f:a<=h) (g:h<=cap) :
  (Instr.sliceBounds isSlice len cap (lo.map eval) (b.map eval) none).run P w=.ok (a,h,cap) w:=by
 rcases c with ⟨rfl,rfl⟩|⟨y,k,rfl,i⟩<;>rcases d with ⟨rfl,rfl⟩|⟨j,k',rfl,e⟩ <;>
  simp[Instr.sliceBounds,Instr.sliceBound,asIntOf, *,Int.toNat_natCast]
theorem Mk {E:Env} {g:G} {t:TypeId} {x:FV} {lo p U:Option Operand} {R:FV->Prop} (h:RL P E g t x lo p U R) :
  ∃ J,R J/\(∀ ⦃Lw:Nat⦄ (ρ:List Value) (H:(PH Lw)) (w:World) (eval:Operand->Value) (v:Value),oZ g->qL ρ H x v->(∀ y∈lo.toArray,qL ρ H (oT (qG E) y) (eval y))->(∀ y∈p.toArray,qL ρ H (oT (qG E) y) (eval y))->(∀ y∈U.toArray,qL ρ H (oT (qG E) y) (eval y)) ->
   ∃ u,(Instr.sliceAt t v (lo.map eval) (p.map eval) (U.map eval)).run P w=.ok u w/\qL ρ H J u):=by
 have rowsCase:∀ (e:TypeId) (i:TypeInfo) (rows:List (List PV)) (a h:Nat),P.underlying t=some (.slice e)->P.info? e=some i->(a<=h/\h<=rows.length/\∀ r∈rows,r.length=i.size) ->
   ∀ ⦃Lw:Nat⦄ (H:(PH Lw)) (w:World) (eval:Operand->Value) (v:Value),qu H (.sl rows) v->((lo=none/\a=0)\/∃ y k,lo=some y/\eval y=.int k a)->((p=none/\h=rows.length)\/∃ y k,p=some y/\eval y=.int k h) ->
   ∃ u,(Instr.sliceAt t v (lo.map eval) (p.map eval) none).run P w=.ok u w/\qu H (.sl ((rows.take h).drop a)) u:=by
  intro e i rows a h hu p V Lw H w eval v q j c;obtain⟨M,I,Q⟩:=V;simp only[qu]at q ⊢;rcases q with ⟨rfl,rfl|⟨S,s,rfl⟩⟩|⟨b,o,z,cap,rfl,T,N⟩
  rotate_left
  ·have K:h=0:=by simpa using I
   subst K;have X:a=0:=by omega
   subst X;have:=nh (P:=P) (w:=w) (isSlice:=true) (len:=0) (cap:=s) j (by simpa using c) (jw 0) (jR _);by_cases d:s=0
   ·subst d
    refine⟨.slice (some S) 0 0,?_,.inl ⟨by simp,.inr ⟨_,_,rfl⟩⟩⟩;simp[Instr.sliceAt,Instr.slice,kru hu,this,Go.sizeOf,typeInfo,p]
   refine⟨.slice (some (S.add 0)) 0 s,?_,.inl ⟨by simp,.inr ⟨_,_,rfl⟩⟩⟩;simp[Instr.sliceAt,Instr.slice,kru hu,this,Go.sizeOf,typeInfo,p,d]
  rotate_right
  ·have K:h=0:=by simpa using I
   subst K;have X:a=0:=by omega
   subst X;have:=nh (P:=P) (w:=w) (isSlice:=true) (len:=0) (cap:=0) j (by simpa using c) (jw 0) (jw 0);refine⟨.slice none 0 0,?_,.inl ⟨by simp,.inl rfl⟩⟩;simp[Instr.sliceAt,Instr.slice,kru hu,this,Go.sizeOf,typeInfo,p]
  have:=nh (P:=P) (w:=w) (isSlice:=true) (len:=rows.length) (cap:=cap) j c M (by omega);have hlen:((rows.take h).drop a).length=h - a:=by simp; omega
  by_cases d:cap=a
  ·have Y:h=a:=by omega
   subst Y;refine⟨.slice (some ⟨b,o,none⟩) 0 0,?_,.inr ⟨b,o,z,0,?_,?_,?_⟩⟩
   ·subst d
    simp[Instr.sliceAt,Instr.slice,kru hu,this,Go.sizeOf,typeInfo,p]
   ·rw[hlen]; simp
   ·rw[hlen]; simp
   have e0:(rows.take h).drop h=[]:=by
    apply List.eq_nil_of_length_eq_zero;rw[hlen];omega
   rw[e0];simp[ca]
  refine⟨.slice (some ⟨b,o+a * i.size,none⟩) (h - a) (cap - a),?_,.inr ⟨b,o+a * i.size,z,cap - a,by rw[hlen],by rw[hlen]; omega,?_⟩⟩
  ·simp[Instr.sliceAt,Instr.slice,kru hu,this,Go.sizeOf,typeInfo,p,d,Addr.add_lit]
  have hz:rows=[]\/z=i.size:=by
   cases rows with
   | nil=>exact .inl rfl
   | cons r rs=>
    simp only[ca]at N;exact .inr (by rw[← N.1]; exact Q r (by simp))
  rcases hz with hz|hz
  ·subst hz; simp[ca]
  rw[← hz]; exact(N.take h).drop a
 unfold RL at h;split at h
 ·rename_i m
  have cutCase:∀ (rows:List (List PV)),al P E g t rows p m R->∃ J,R J/\(∀ ⦃Lw:Nat⦄ (ρ:List Value) (H:(PH Lw)) (w:World) (eval:Operand->Value) (v:Value),oZ g->qu H (.sl rows) v->(∀ y∈p.toArray,qL ρ H (oT (qG E) y) (eval y))->(∀ y∈(some m).toArray,qL ρ H (oT (qG E) y) (eval y)) ->
    ∃ u,(Instr.sliceAt t v none (p.map eval) (some (eval m))).run P w=.ok u w/\qL ρ H J u):=by
   intro rows h;unfold al at h;split at h
   ·rename_i e hu
    split at h
    ·rename_i i L
     obtain⟨yh,rfl⟩:∃ y,p=some y:=by
      cases p with
      | none=>exact h.elim
      | some y=>exact⟨y,rfl⟩
     obtain⟨C,h,A⟩:=vE h;obtain⟨cc,h,B⟩:=vE h;refine⟨_,h.2,fun Lw ρ H w eval v f q c D=>?_⟩;obtain⟨rfl,I,Q⟩:=gz h.1 f;have em:∃ k,eval m=.int k C:=by
      rcases B ρ H eval f D with ⟨e,_⟩|⟨y,k,e,e2⟩
      ·cases e
      cases e; exact⟨k,e2⟩
     obtain⟨km,em⟩:=em;have bd:∀ cap:Nat,rows.length<=cap->(Instr.sliceBounds true rows.length cap none (some (eval yh)) (some (eval m))).run P w=.ok (0,C,C) w:=by
      intro cap T;rcases A ρ H eval f c with ⟨e,e2⟩|⟨y,k,e,e2⟩
      ·cases e
      cases e;simp[Instr.sliceBounds,Instr.sliceBound,asIntOf,em,e2,Int.toNat_natCast,Nat.le_trans I T]
     simp only[qL];have rv0:=q;simp only[qu]at q;rcases q with ⟨rfl,rfl|⟨S,s,rfl⟩⟩|⟨b,o,z,cap,rfl,T,N⟩
     ·have K:C=0:=by simpa using I
      subst K;have:=bd 0 (jw _);refine⟨.slice none 0 0,?_,by simp[qu],_,_,rfl⟩;simp only[jc]at this;simp[Instr.sliceAt,Instr.slice,kru hu,this,Go.sizeOf,typeInfo,L]
     ·have K:C=0:=by simpa using I
      subst K;have:=bd s (jR _);simp only[jc]at this;refine⟨.slice (some S) 0 0,?_,by simp[qu],_,_,rfl⟩;simp[Instr.sliceAt,Instr.slice,kru hu,this,Go.sizeOf,typeInfo,L]
     have:=bd cap T;have hlen:(rows.take C).length=C:=by rw[jt]; omega
     refine⟨.slice (some ⟨b,o,none⟩) C C,?_,by simp only[qu]; exact .inr ⟨b,o,z,C,by rw[hlen],by rw[hlen]; exact jw _,N.take C⟩,_,_,rfl⟩;by_cases K:C=0
     ·subst K
      simp[Instr.sliceAt,Instr.slice,kru hu,this,Go.sizeOf,typeInfo,L]
     simp[Instr.sliceAt,Instr.slice,kru hu,this,Go.sizeOf,typeInfo,L,K,Addr.add_lit]
    exact h.elim
   exact h.elim
  split at h
  ·split at h
   ·obtain⟨J,h,O⟩:=cutCase _ h
    exact⟨J,h,fun Lw ρ H w eval v f q _ c D=>O ρ H w eval v f q c D⟩
   ·obtain⟨J,h,O⟩:=cutCase _ h
    refine⟨J,h,fun Lw ρ H w eval v f q _ c D=>O ρ H w eval v f ?_ c D⟩
    simp only[qL,qu]at q ⊢;exact .inl ⟨trivial,.inl q⟩
   ·obtain⟨J,h,O⟩:=cutCase _ h
    exact⟨J,h,fun Lw ρ H w eval v f q _ c D=>O ρ H w eval v f q.2 c D⟩
   exact h.elim
  exact h.elim
 split at h
 ·rename_i l
  split at h
  ·rename_i hu
   obtain⟨C,h,A⟩:=vE h;obtain⟨F,h,B⟩:=vE h;refine⟨_,h.2,fun Lw ρ H w eval v f q j c _=>?_⟩;obtain⟨M,I⟩:=gz h.1 f;rw[mB q];have:=nh (P:=P) (w:=w) (isSlice:=false) (len:=l.length) (cap:=l.length) (B ρ H eval f j) (A ρ H eval f c) M I;refine⟨.string ⟨((l.take C).drop F).toArray⟩,?_,tO⟩;simp[Instr.sliceAt,Instr.slice,kru hu,pR,this,ByteArray.extract_mk,List.drop_take]
  exact h.elim
 ·rename_i rows
  split at h
  ·rename_i e hu
   split at h
   ·rename_i i p
    obtain⟨C,h,A⟩:=vE h;obtain⟨F,h,B⟩:=vE h;refine⟨_,h.2,fun Lw ρ H w eval v f q j c _=>?_⟩;exact rowsCase e i rows F C hu p (gz h.1 f) H w eval v q (B ρ H eval f j) (A ρ H eval f c)
   exact h.elim
  exact h.elim
 ·rename_i k rows
  split at h
  ·rename_i e hu
   split at h
   ·rename_i i p
    obtain⟨C,h,A⟩:=vE h;obtain⟨F,h,B⟩:=vE h;refine⟨_,h.2,fun Lw ρ H w eval v f q j c _=>?_⟩;exact rowsCase e i rows F C hu p (gz h.1 f) H w eval v q.2 (B ρ H eval f j) (A ρ H eval f c)
   exact h.elim
  exact h.elim
 ·rename_i k off
  split at h
  ·rename_i n e hu
   split at h
   ·rename_i i p
    split at h
    ·rename_i hz
     have hz:i.size=1:=jm hz;obtain⟨C,h,A⟩:=vE h;obtain⟨F,h,B⟩:=vE h;refine⟨_,h.2,fun Lw ρ H w eval v f q j c _=>?_⟩;obtain⟨M,I,Q⟩:=gz h.1 f;obtain⟨b,Z,rfl⟩:=q;have:=nh (P:=P) (w:=w) (isSlice:=false) (len:=n) (cap:=n) (B ρ H eval f j) (A ρ H eval f c) M I;have d:¬ n=F:=by omega
     refine⟨.slice (some ⟨b,off+F,none⟩) (C - F) (n - F),?_,b,Z,_,rfl,.inr rfl⟩;simp[Instr.sliceAt,Instr.sureAddr,kru hu,this,Go.sizeOf,typeInfo,p,hz,d,Addr.add_lit]
    exact h.elim
   exact h.elim
  exact h.elim
 ·rename_i k z
  split at h
  ·rename_i n e hu
   split at h
   ·rename_i i p
    split at h
    ·rename_i hz
     have hz:i.size=1:=jm hz;obtain⟨C,h,A⟩:=vE h;obtain⟨F,h,B⟩:=vE h;refine⟨_,h.2,fun Lw ρ H w eval v f q j c _=>?_⟩;obtain⟨rfl,M,I,Q⟩:=gz h.1 f;obtain⟨b,n',s,Z,rfl⟩:=q;have:=nh (P:=P) (w:=w) (isSlice:=false) (len:=n) (cap:=n) (B ρ H eval f j) (A ρ H eval f c) M I;have d:¬ n=F:=by omega
     refine⟨.slice (some ⟨b,F,none⟩) (C - F) (n - F),?_,b,n',s,_,Z,rfl⟩;simp[Instr.sliceAt,Instr.sureAddr,kru hu,this,Go.sizeOf,typeInfo,p,hz,d,Addr.add_lit]
    exact h.elim
   exact h.elim
  exact h.elim
 exact h.elim
theorem cP {w:World} {b:Nat} {vs:List Value} {t:TypeId} {a:Nat×Nat} (d:w.heap[b]? =some (.cells vs.toArray t a)) (off:Nat) :
  ∀ j v,(vs.drop off)[j]? =some v->w.cell? ⟨b,off+j,none⟩=some v:=fun j v c=>by
 rw[cell_of_row w b (off+j) _ t a d];rw[jD]at c;simpa using c
end
end Ax
end
section
namespace Ax
open Go
variable {Lw:Nat}
section
variable {P:Program}
theorem MU (off:Nat):∀ (l:List Value) (k:Nat) (cs:Array Value),off+k+l.length<=cs.size ->
  ((l.zipIdx k).foldl (fun(cs:Array Value) (x:Value×Nat)=>cs.setIfInBounds (off+x.2) x.1) cs).toList=cs.toList.take (off+k)++l++cs.toList.drop (off+k+l.length)
 | [],k,cs,_=>by simp
 | c::l,k,cs,h=>by
  simp only[ja]at h;rw[List.zipIdx_cons,List.foldl_cons,MU off l (k+1) _ (by simp; omega)];simp only[Array.toList_setIfInBounds,ja];have e:off+(k+1)=off+k+1:=by omega
  rw[e,List.take_add_one,List.getElem?_set_self (by simpa using(by omega:off+k<cs.size)),List.take_set_of_le (jw _),List.drop_set_of_lt (by omega)];have e2:off+k+1+l.length=off+k+(l.length+1):=by omega
  rw[e2];simp
theorem DI (off:Nat) (v:Value) (cs:Array Value) (h:off+v.cells.size<=cs.size) :
  (v.cells.zipIdx.foldl (fun(cs:Array Value) (x:Value×Nat)=>cs.setIfInBounds (off+x.2) x.1) cs).toList=cs.toList.take off++v.cells.toList++cs.toList.drop (off+v.cells.size):=by
 rw[← Array.foldl_toList,Array.toList_zipIdx];have:=MU off v.cells.toList 0 cs (by simpa using h);simpa using this
theorem cQ {ρ:List Value} {H:(PH Lw)} {f:FV} {x:Value} (h:Px f=true) (r:qL ρ H f x):x.cells = #[x]/\x.oneCell'=true:=by
 cases f with
 | p p=>
  cases p<;>simp[Px]at h<;>simp only[qL,qu]at r
  case sl rows=>
   rcases r with ⟨_,rfl|⟨_,_,rfl⟩⟩|⟨b,o,z,cap,rfl,_⟩<;>exact⟨rfl,rfl⟩
  case nsl rows=>
   rcases r with ⟨_,rfl|⟨_,_,rfl⟩⟩|⟨b,o,z,cap,rfl,_⟩<;>exact⟨rfl,rfl⟩
  case ifc t p=>
   obtain⟨u,rfl,_⟩:=r;exact⟨rfl,rfl⟩
  case hp row=>obtain⟨b,o,vs,rfl,_⟩:=r; exact⟨rfl,rfl⟩
  case clo f cs=>obtain⟨vs,rfl,_⟩:=r; exact⟨rfl,rfl⟩
  case bfn f cs=>obtain⟨vs,rfl,_⟩:=r; exact⟨rfl,rfl⟩
  case ifo n t p=>rcases r with ⟨_,rfl⟩|⟨_,u,rfl,_⟩<;>exact⟨rfl,rfl⟩
  all_goals (subst r; exact⟨rfl,rfl⟩)
 | top=>simp[Px]at h
 | opt g v=>simp[Px]at h
 | tsl k rows=>
  have:=r.2;simp only[qu]at this;rcases this with ⟨_,rfl|⟨_,_,rfl⟩⟩|⟨b,o,z,cap,rfl,_⟩<;>exact⟨rfl,rfl⟩
 | ptr k off=>
  obtain⟨b,_,rfl⟩:=r;exact⟨rfl,rfl⟩
 | hptr row=>
  obtain⟨b,o,vs,rfl,_⟩:=r;exact⟨rfl,rfl⟩
 | bself k=>
  obtain⟨b,_,rfl|rfl⟩:=r<;>exact⟨rfl,rfl⟩
 | bsl k off len cap=>
  obtain⟨b,_,c,rfl,_⟩:=r;exact⟨rfl,rfl⟩
 | vsl k n=>
  obtain⟨_,⟨_,rfl⟩|⟨b,cap,rfl⟩⟩:=r<;>exact⟨rfl,rfl⟩
 | eptr k z i off=>
  obtain⟨b,n,cap,_,rfl⟩:=r;exact⟨rfl,rfl⟩
 | mref k=>
  obtain⟨b,_,rfl⟩:=r;exact⟨rfl,rfl⟩
 | pair a b=>simp[Px]at h
 | stmp k=>simp[Px]at h
 | cap0=>simp[Px]at h
 | cap a b=>simp[Px]at h
 | fagg c=>simp[Px]at h
 | nxt ok a b=>simp[Px]at h
 | cut rows=>
  obtain⟨_,p,n,rfl⟩:=r;simp[Value.cells,Value.oneCell']
 | ifs t c=>
  obtain⟨u,rfl,_⟩:=r;exact⟨rfl,rfl⟩
 | asl k off n=>
  obtain⟨b,_,_,_,_,rfl⟩:=r;exact⟨rfl,rfl⟩
 | clo f c=>
  obtain⟨vs,rfl,_⟩:=r;exact⟨rfl,rfl⟩
theorem sK:∀ {cs:List PV} {R:List FV->Prop},Tk cs R->R (cs.map .p)
 | [],R,h=>h
 | c::cs,R,h=>by simpa using sK (cs:=cs) (R:=fun l=>R (.p c::l)) h
theorem ng:∀ {off:Nat} {vs old:List FV} {R:List FV->Prop},QX off vs old R->R (old.take off++vs++old.drop (off+vs.length))/\off+vs.length<=old.length
 | 0,[],old,R,h=>by simpa[QX]using h
 | 0,v::vs,[],R,h=>by simp[QX]at h
 | 0,v::vs,a::old,R,h=>by
  simp only[QX]at h;have:=ng (off:=0) h;simpa using this
 | off+1,vs,[],R,h=>by cases vs<;>simp[QX]at h
 | off+1,vs,a::old,R,h=>by
  have b:QX off vs old fun l=>R (a::l):=by cases vs<;>simpa[QX]using h
  have:=ng b;have e:off+1+vs.length=(off+vs.length)+1:=by omega
  rw[e];simpa using this
theorem zJ.append {ρ:List Value} {H:(PH Lw)}:∀ {cs a:List FV} {vs us:List Value},zJ ρ H cs vs->zJ ρ H a us->zJ ρ H (cs++a) (vs++us)
 | [],_,vs,_,x,y=>by simp only[zJ]at x; simpa[x]using y
 | c::cs,a,vs,us,x,y=>by
  obtain⟨v,b,rfl,r,rs⟩:=x;exact⟨v,_,rfl,r,rs.append y⟩
theorem sM:∀ {off:Nat} {vs old:List PV} {R:List PV->Prop},Gc off vs old R->R (old.take off++vs++old.drop (off+vs.length))/\off+vs.length<=old.length
 | 0,[],old,R,h=>by simpa[Gc]using h
 | 0,v::vs,[],R,h=>by simp[Gc]at h
 | 0,v::vs,a::old,R,h=>by
  simp only[Gc]at h;have:=sM (off:=0) h;simpa using this
 | off+1,vs,[],R,h=>by cases vs<;>simp[Gc]at h
 | off+1,vs,a::old,R,h=>by
  have b:Gc off vs old fun l=>R (a::l):=by cases vs<;>simpa[Gc]using h
  have:=sM b;have e:off+1+vs.length=(off+vs.length)+1:=by omega
  rw[e];simpa using this
theorem Xg {p:PV} {R:List PV->Prop} (h:EY p R):∃ c,R c/\∀ ⦃Lw:Nat⦄ (H:(PH Lw)) (x:Value),qu H p x->qU H c x.cells.toList:=by
 unfold EY at h;split at h
 ·rename_i cs
  refine⟨cs,h,fun Lw H x r=>?_⟩;simp only[qu]at r;obtain⟨vs,rfl,q⟩:=r;simpa[Value.cells]using q
 ·exact h.elim
 rename_i a d;refine⟨[p],h,fun Lw H x r=>?_⟩;have e:x.cells = #[x]:=by
  cases p<;>simp only[qu]at r
  case agg cs=>exact absurd rfl (a cs)
  case tup cs=>exact absurd rfl (d cs)
  case sl rows=>rcases r with ⟨_,rfl|⟨_,_,rfl⟩⟩|⟨_,_,_,_,rfl,_⟩<;>rfl
  case nsl rows=>rcases r with ⟨_,rfl|⟨_,_,rfl⟩⟩|⟨_,_,_,_,rfl,_⟩<;>rfl
  case ifc t p=>obtain⟨_,rfl,_⟩:=r; rfl
  case hp row=>obtain⟨b,o,vs,rfl,_⟩:=r; rfl
  case clo f cs=>obtain⟨vs,rfl,_⟩:=r; rfl
  case bfn f cs=>obtain⟨vs,rfl,_⟩:=r; rfl
  case ifo n t p=>rcases r with ⟨_,rfl⟩|⟨_,u,rfl,_⟩<;>rfl
  all_goals (subst r; rfl)
 rw[e];simp only[qU];exact⟨x,[],rfl,r,rfl⟩
theorem FN {H:(PH Lw)} {p:PV} {x:Value} (h:Eo p=true) (r:qu H p x):x.oneCell'=true/\x.cells = #[x]:=by
 cases p<;>simp only[qu]at r
 case agg cs=>simp[Eo]at h
 case tup cs=>simp[Eo]at h
 case sl rows=>rcases r with ⟨_,rfl|⟨_,_,rfl⟩⟩|⟨_,_,_,_,rfl,_⟩<;>exact⟨rfl,rfl⟩
 case nsl rows=>rcases r with ⟨_,rfl|⟨_,_,rfl⟩⟩|⟨_,_,_,_,rfl,_⟩<;>exact⟨rfl,rfl⟩
 case ifc t p=>obtain⟨_,rfl,_⟩:=r; exact⟨rfl,rfl⟩
 case hp row=>obtain⟨b,o,vs,rfl,_⟩:=r; exact⟨rfl,rfl⟩
 case clo f cs=>obtain⟨vs,rfl,_⟩:=r; exact⟨rfl,rfl⟩
 case bfn f cs=>obtain⟨vs,rfl,_⟩:=r; exact⟨rfl,rfl⟩
 case ifo n t p=>rcases r with ⟨_,rfl⟩|⟨_,u,rfl,_⟩<;>exact⟨rfl,rfl⟩
 all_goals (subst r; exact⟨rfl,rfl⟩)
theorem qU.one {H:(PH Lw)}:∀ {cs:List PV} {vs:List Value},(∀ c∈cs,Eo c=true)->qU H cs vs->∀ u∈vs,u.oneCell'=true
 | [],vs,_,r,u,hu=>by simp only[qU]at r; simp[r]at hu
 | c::cs,vs,h,r,u,hu=>by
  simp only[qU]at r;obtain⟨v,a,rfl,b,rs⟩:=r;rcases jg.1 hu with rfl|hu
  ·exact(FN (h c (by simp)) b).1
  exact qU.one (fun c d=>h c (by simp[d])) rs u hu
theorem sL:∀ {vs:List Value} {R:List PV->Prop},Pw vs R->∃ a,R a/\∀ ⦃Lw:Nat⦄ (H:PH Lw),qU H a vs
 | [],R,h=>⟨[],h,fun Lw H=>by simp[qU]⟩
 | v::vs,R,h=>by
  simp only[Pw]at h;split at h
  ·rename_i p hp
   obtain⟨a,b,c⟩:=sL h;refine⟨p::a,b,fun Lw H=>?_⟩;simp only[qU];exact⟨v,vs,rfl,XU hp H,c H⟩
  exact h.elim
theorem Bt {E:Env} {g:G} {o:List Field}:∀ {qZ:List (Nat×Operand)} {cs:List PV} {R:List PV->Prop},SX P E g o qZ cs R ->
  ∃ a,R a/\(oZ g->∀ ⦃Lw:Nat⦄ (ρ:List Value) (H:(PH Lw)) (w:World) (eval:Operand->Value) (places:Array (Nat×Nat)) (cells:Array Value),(∀ x∈qZ.map (·.2),qL ρ H (oT (qG E) x) (eval x)) ->
   (∀ (i:Nat) (f:Field),o[i]? =some f->∀ d,P.info? f.type=some d->places[i]? =some (f.offset,d.size))->qU H cs cells.toList ->
   ∃ cells',Instr.fill (places[·]?) cells (qZ.map fun(i,x)=>(i,eval x))=some cells'/\qU H a cells'.toList)
 | [],cs,R,h=>⟨cs,h,fun _ Lw ρ H w eval places cells _ _ r=>⟨cells,rfl,r⟩⟩
 | (i,x)::l,cs,R,h=>by
  simp only[SX]at h;obtain⟨f,u,h⟩:=zd h;split at h
  ·rename_i d k
   obtain⟨v,h,z⟩:=qB h;obtain⟨p,h,hp⟩:=cd h;obtain⟨c,h,A⟩:=Xg h;split at h
   ·rename_i b
    have b:c.length=d.size:=jm b;obtain⟨h,hlen⟩:=sM h;obtain⟨a,h,B⟩:=Bt h;refine⟨a,h,fun q Lw ρ H w eval places cells s e r=>?_⟩;have rc:=A H _ (hp _ _ _ (z ρ H _ q (s x (by simp))));have j:(eval x).cells.size=d.size:=by have:=rc.length; simp at this; omega
    have m:=r.length;simp at m;have n:f.offset+(eval x).cells.size<=cells.size:=by omega
    have C:=DI f.offset (eval x) cells n;obtain⟨cells',D,F⟩:=B q ρ H w eval places ((eval x).cells.zipIdx.foldl (fun(cs:Array Value) (x:Value×Nat)=>cs.setIfInBounds (f.offset+x.2) x.1) cells) (fun y t=>s y (by simp at t ⊢; exact .inr t)) e (by
     rw[C,j,← b];exact((r.take _).append rc).append (r.drop _))
    refine⟨cells',?_,F⟩;simp only[jk,Instr.fill,e i f u d k];rw[if_neg (by simp[j]; omega)];exact D
   exact h.elim
  exact h.elim
theorem nV {E:Env} {g:G}:∀ {qZ:List (Nat×Operand)} {k:Nat} {R:List PV->Prop},BC E g k qZ R ->
  ∃ a,R a/\a.length=qZ.length/\(oZ g->∀ ⦃Lw:Nat⦄ (ρ:List Value) (H:(PH Lw)) (eval:Operand->Value),(∀ x∈qZ.map (·.2),qL ρ H (oT (qG E) x) (eval x)) ->
   ∃ vals,(qZ.map fun(i,x)=>(i,eval x))=(vals.zipIdx k).map (fun(v,i)=>(i,v))/\qU H a vals)
 | [],k,R,h=>⟨[],h,rfl,fun _ Lw ρ H eval _=>⟨[],rfl,by simp[qU]⟩⟩
 | (i,x)::l,k,R,h=>by
  simp only[BC]at h;split at h
  ·rename_i b
   have b:i=k:=jm b;subst b;obtain⟨v,h,j⟩:=qB h;obtain⟨p,h,hp⟩:=cd h;obtain⟨a,h,m,n⟩:=nV h;refine⟨p::a,h,by simp[m],fun c Lw ρ H eval d=>?_⟩;obtain⟨vals,e,r⟩:=n c ρ H eval (fun y f=>d y (by simp at f ⊢; exact .inr f))
   refine⟨eval x::vals,?_,?_⟩
   ·simp only[jk,List.zipIdx_cons,e]
   simp only[qU];exact⟨_,_,rfl,hp _ _ _ (j ρ H _ c (d x (by simp))),r⟩
  exact h.elim
theorem QP (size:Nat) (n:Nat) (pl:Nat->Option (Nat×Nat)) (a:∀ i,i<n->pl i=some (i * size,size)):∀ (vals:List Value) (k:Nat) (cells:Array Value),(∀ v∈vals,v.cells.size=size)->k+vals.length=n->n * size=cells.size ->
  ∃ cells',Instr.fill pl cells ((vals.zipIdx k).map fun(v,i)=>(i,v))=some cells'/\cells'.toList=cells.toList.take (k * size)++vals.flatMap (·.cells.toList)
 | [],k,cells,_,hn,hc=>by
  refine⟨cells,rfl,?_⟩;simp at hn;subst hn;rw[List.take_of_length_le (by simp; omega)];simp
 | v::vals,k,cells,hv,hn,hc=>by
  have c:=hv v (by simp);simp only[ja]at hn;have b:(k+1) * size<=n * size:=Nat.mul_le_mul_right _ (by omega);have d:k * size+v.cells.size<=cells.size:=by rw[c,← hc]; rw[Nat.add_mul,Nat.one_mul]at b; exact b
  have g:=DI (k * size) v cells d;have f:(v.cells.zipIdx.foldl (fun(cs:Array Value) (x:Value×Nat)=>cs.setIfInBounds (k * size+x.2) x.1) cells).size=cells.size:=by
   rw[← jK,g];simp;omega
  obtain⟨cells',e,h⟩:=QP size n pl a vals (k+1) _ (fun u hu=>hv u (by simp[hu])) (by omega) (by rw[f]; exact hc)
  refine⟨cells',?_,?_⟩
  ·simp only[List.zipIdx_cons,jk,Instr.fill,a k (by omega)]
   rw[if_neg (by simp[c]; omega)];exact e
  rw[h,g];have e1:(k+1) * size=k * size+v.cells.size:=by rw[c,Nat.add_mul,Nat.one_mul]
  rw[e1,List.flatMap_cons,← js];congr 1;rw[js,List.take_append,List.take_append];simp only[jt,jK];have:min (k * size) cells.size=k * size:=Nat.min_eq_left (by omega);rw[this,List.take_of_length_le (l:=List.take (k * size) cells.toList) (by simp; omega)];simp;exact List.take_of_length_le (by simp)
theorem Zj:∀ {b:List PV} {R:List (List PV)->Prop},Sm b R->∃ rows,R rows/\rows.length=b.length/\∀ ⦃Lw:Nat⦄ (H:(PH Lw)) (vals:List Value),qU H b vals ->
  (∀ (i:Nat) (r:List PV) (v:Value),rows[i]? =some r->vals[i]? =some v->qU H r v.cells.toList)
 | [],R,h=>⟨[],h,rfl,fun Lw H vals r i f v a=>by simp at a⟩
 | p::b,R,h=>by
  simp only[Sm]at h;obtain⟨c,h,g⟩:=Xg h;obtain⟨rows,h,j,k⟩:=Zj h;refine⟨c::rows,h,by simp[j],fun Lw H vals r i f v a d=>?_⟩;simp only[qU]at r;obtain⟨x,e,rfl,rx,rs⟩:=r;cases i with
  | zero=>simp at a d; subst a; subst d; exact g H x rx
  | succ i=>exact k H e rs i f v (by simpa using a) (by simpa using d)
theorem SM {H:(PH Lw)} {w:World} (s:SatH H w) (e:TypeId) (g:List Value) (i:∀ u∈g,u.oneCell'=true) :
  Calm H w (fun b o=>if b=w.heap.size then g[o]? else H b o) (w.alloc (.cells g.toArray e)):=by
 have d:∀ b o v,H b o=some v->b≠w.heap.size:=fun b o v a e=>by
  have:=s.lt a; omega
 refine⟨fun b o v a=>?_,⟨fun b o v a=>?_,s.root.mono (fun b o v a=>by rw[if_neg (d b o v a)]; exact a),by have:=s.low; simp; omega,fun b o v a f=>by
  split at a
  ·rename_i e1; subst e1; exact .of (heap_alloc_new w _)
  exact(s.nf b o v a f).block (heap_alloc_old w _ (s.lt a))⟩,⟨rfl,rfl,rfl,by simp,fun k j _=>Go.RowKit.Below.heap_alloc w _ k j⟩,fun b o v a=>?_⟩
 ·rw[if_neg (d b o v a)]; exact a
 ·split at a
  ·rename_i f
   subst f;refine⟨?_,i v (List.mem_of_getElem? a)⟩;rw[World.cell?_alloc_new];simpa using a
  obtain⟨c,l⟩:=s.cell b o v a;exact⟨by rw[World.cell?_alloc_lt (h:=s.lt a)]; exact c,l⟩
 split at a
 ·rename_i f; exact .inr (by omega)
 exact .inl ⟨v,a⟩
theorem aF {H:(PH Lw)} {z:Nat}:∀ {rows:List (List PV)} {vals:List Value},rows.length=vals.length->(∀ r∈rows,r.length=z) ->
  (∀ (i:Nat) (r:List PV) (v:Value),rows[i]? =some r->vals[i]? =some v->qU H r v.cells.toList)->∀ {b o:Nat} {H':(PH Lw)},PH.le H H' ->
  (∀ (j:Nat) (u:Value),(vals.flatMap (·.cells.toList))[j]? =some u->H' b (o+j)=some u)->ca H' b z o rows
 | [],_,_,_,_,_,_,_,_,_=>by simp[ca]
 | r::rs,[],hl,_,_,_,_,_,_,_=>by simp at hl
 | r::rs,v::vals,hl,hz,c,b,o,H',hle,hc=>by
  have d:=c 0 r v rfl rfl;have hlen:=d.length;have a:=hz r (by simp);simp only[ca];refine⟨a,⟨v.cells.toList,qU.mono hle d,fun j u hu=>hc j u ?_⟩,aF (by simpa using hl) (fun r c=>hz r (by simp[c])) (fun i e v' f g=>c (i+1) e v' (by simpa using f) (by simpa using g)) hle (fun j u hu=>?_)⟩
  ·rw[List.flatMap_cons,jB (jG.1 hu).1]; exact hu
  have:=hc (z+j) u (by rw[List.flatMap_cons,jC (by rw[hlen,a]; omega),hlen,a,Nat.add_sub_cancel_left]; exact hu)
  rwa [← Nat.add_assoc]at this
theorem Ga {E:Env} {g:G} {t:TypeId} {n:Nat} {qZ:List (Nat×Operand)} {R:FV->Prop} (h:cI P E g t n qZ R) :
  ∃ S,R S/\(oZ g->∀ ⦃Lw:Nat⦄ (ρ:List Value) (H:(PH Lw)) (w:World) (eval:Operand->Value),SatH H w->(∀ x∈qZ.map (·.2),qL ρ H (oT (qG E) x) (eval x)) ->
   ∃ v w' H',(Instr.buildSlice t n (qZ.map fun(i,x)=>(i,eval x)).toArray).run P w=.ok v w'/\Calm H w H' w'/\qL ρ H' S v):=by
 unfold cI at h;obtain⟨e,i,hu,B,h⟩:=vh h;split at h
 ·rename_i l
  have l:qZ.length=n:=jm l;split at h
  ·rename_i C
   split at h
   ·rename_i D
    split at h
    case h_2=>exact h.elim
    rename_i z;split at h
    case h_2=>exact h.elim
    rename_i k F;have:k=i:=Option.some.inj (F.symm.trans B);subst this;split at h
    case h_2=>exact h.elim
    rename_i T I;obtain⟨ps,h,a,J⟩:=nV h;obtain⟨rows,h,b,hrows⟩:=Zj h;obtain⟨m,K,L,h⟩:=h;refine⟨_,h,fun V Lw ρ H w eval s X=>?_⟩;obtain⟨vals,ev,U⟩:=J V ρ H eval X;have hcells:=hrows H vals U;have o:vals.length=n:=by rw[U.length,a,l]
    have M:∀ v∈vals,v.cells.size=k.size:=by
     intro v N;obtain⟨j,A⟩:=List.getElem?_of_mem N;have p:=(jG.1 A).1;have d:j<rows.length:=by rw[b,a,l,← o]; exact p
     have:=(hcells j _ v (jf d) A).length;rw[(m _ (List.getElem_mem d)).1]at this;simpa using this
    obtain⟨cells',Y,q⟩:=QP k.size n (fun O=>some (O * k.size,k.size)) (fun j _=>rfl) vals 0 ((Array.range (n * k.size)).map (T.cells[· % T.cells.size]!)) M (by omega) (by simp)
    simp only[Nat.zero_mul,List.take_zero,ju]at q;have hone:∀ u∈cells'.toList,u.oneCell'=true:=by
     rw[q];intro u y;obtain⟨v,N,Q⟩:=List.mem_flatMap.1 y;obtain⟨j,A⟩:=List.getElem?_of_mem N;have p:=(jG.1 A).1;have d:j<rows.length:=by rw[b,a,l,← o]; exact p
     have Z:=hcells j _ v (jf d) A;have h2:=(m _ (List.getElem_mem d)).2;exact qU.one (fun c hc=>(List.all_eq_true.1 h2) c hc) Z u Q
    have f:=SM s e cells'.toList hone;refine⟨.slice (some ⟨w.heap.size,0,none⟩) n n,_,_,?_,f,?_⟩
    ·have h0:n * k.size≠0:=by
      have a1:1<=n:=jh C;have a2:1<=k.size:=jh D;exact Nat.mul_ne_zero (by omega) (by omega)
     have hb:¬ 16777216<n * k.size:=by
      have:=jh z;omega
     simp only[Instr.buildSlice,ka,kru hu,jZ,Go.sizeOf,typeInfo,run_program,B,ke];rw[show(2:Nat) ^ 24=16777216 from rfl];simp only[hb,if_false,gt_iff_lt,h0,ka,zeroValue,typeInfo,run_program,B,I,jZ,ke];rw[ev,Y];simp[newRow]
    simp only[qL];refine eI L ?_;simp only[qu];refine .inr ⟨w.heap.size,0,k.size,n,by rw[b,a,l],by rw[b,a,l]; exact jw _,?_⟩;refine aF (by rw[b,a,l,o]) (fun r hr=>(m r hr).1) hcells f.le (fun j u y=>?_);rw[jx,if_pos rfl,q];exact y
   exact h.elim
  exact h.elim
 exact h.elim
theorem VS {w:World}:∀ {a:List Field},Hr P a=true ->
  (a.mapM (m:=Sem) fun f=>do pure (f.offset,← Go.sizeOf f.type)).run P w=.ok (a.map fun f=>(f.offset,Pb P f.type)) w
 | [],_=>by simp
 | f::a,h=>by
  simp only[Hr]at h;split at h
  ·rename_i i c
   have:=VS (w:=w) h;have b:(Go.sizeOf f.type).run P w=.ok i.size w:=by simp[Go.sizeOf,typeInfo,c]
   simp only[List.mapM_cons,ka,b,jZ,ke,jk,Pb,c];rw[this];rfl
  cases h
theorem Ma {E:Env} {g:G} {t:TypeId} {qZ:List (Nat×Operand)} {R:FV->Prop} (h:RA P E g t qZ R) :
  ∃ Z,R Z/\(oZ g->∀ ⦃Lw:Nat⦄ (ρ:List Value) (H:(PH Lw)) (w:World) (eval:Operand->Value),(∀ x∈qZ.map (·.2),qL ρ H (oT (qG E) x) (eval x)) ->
   ∃ v,(Instr.build t (qZ.map fun(i,x)=>(i,eval x)).toArray).run P w=.ok v w/\qL ρ H Z v):=by
 unfold RA at h;split at h
 ·rename_i i O
  split at h
  ·rename_i vs hz
   obtain⟨zs,h,Q⟩:=sL h;split at h
   ·rename_i fs hu
    split at h
    case h_2=>exact h.elim
    rename_i F;obtain⟨cs,h,hs⟩:=Bt h;refine⟨_,h,fun I Lw ρ H w eval J=>?_⟩;obtain⟨cells',D,rc⟩:=hs I ρ H w eval (fs.map fun f=>(f.offset,Pb P f.type)).toArray vs.toArray J (fun i f hf ti S=>by simp[hf,Pb,S]) (by simpa[Value.cells]using Q H)
    refine⟨.agg cells',?_,by simp only[qL,qu]; exact⟨cells'.toList,by simp,rc⟩⟩;simp only[Instr.build,ka,zeroValue,typeInfo,run_program,O,hz,jZ,ke,kru hu,Value.cells];rw[Array.mapM_eq_mapM_toList];simp only[Sem.run_map];rw[VS F];simp only[jZ];rw[D];rfl
   ·rename_i n e hu
    split at h
    ·rename_i q K
     split at h
     ·rename_i y
      have y:q.size=1:=jm y;obtain⟨T,h,U,z⟩:=nV h;obtain⟨hlen,hone,h⟩:=h;refine⟨_,h,fun I Lw ρ H w eval J=>?_⟩;obtain⟨vals,ev,m⟩:=z I ρ H eval J;have c:∀ v∈vals,v.cells.size=1:=by
       intro v o;obtain⟨j,s⟩:=List.getElem?_of_mem o;have d:=(jG.1 s).1;have b:j<T.length:=by rw[← m.length]; exact d
       obtain⟨v',k,V⟩:=m.get (jf b);rw[s]at k;cases k;rw[(FN (hone _ (List.getElem_mem b)) V).2];rfl
      have p:=m.length;obtain⟨cells',D,A⟩:=QP 1 vals.length (fun B=>some (B * 1,1)) (fun j _=>rfl) vals 0 ⟨vs⟩ c (by omega) (by simp; omega)
      refine⟨.agg cells',?_,?_⟩
      ·simp only[Instr.build,ka,zeroValue,typeInfo,run_program,O,hz,jZ,ke,kru hu,Go.sizeOf,K,y,ev,Value.cells]
       simp only[Nat.mul_one]at D ⊢;rw[D];rfl
      simp only[qL,qu];refine⟨cells'.toList,by simp,?_⟩;have e1:cells'.toList=vals:=by
       rw[A];simp only[Nat.zero_mul,List.take_zero,ju];have:∀ (l:List Value),(∀ v∈l,v∈vals)->l.flatMap (·.cells.toList)=l:=by
        intro l
        induction l with
        | nil=>intro _; rfl
        | cons a l ih=>
         intro L;rw[List.flatMap_cons,ih (fun v o=>L v (by simp[o]))]
         obtain⟨j,s⟩:=List.getElem?_of_mem (L a (by simp));have d:=(jG.1 s).1;have b:j<T.length:=by rw[← m.length]; exact d
         obtain⟨v',k,V⟩:=m.get (jf b);rw[s]at k;cases k;rw[(FN (hone _ (List.getElem_mem b)) V).2];rfl
       exact this vals (fun v o=>o)
      rw[e1];exact m
     obtain⟨T,h,U,z⟩:=nV h;obtain⟨rows,h,C,hrows⟩:=Zj h;obtain⟨M,hlen,h⟩:=h;refine⟨_,h,fun I Lw ρ H w eval J=>?_⟩;obtain⟨vals,ev,m⟩:=z I ρ H eval J;have hcell:=hrows H vals m;have p:=m.length;have c:∀ v∈vals,v.cells.size=q.size:=by
      intro v o;obtain⟨j,s⟩:=List.getElem?_of_mem o;have d:=(jG.1 s).1;have b:j<rows.length:=by rw[C,← p]; exact d
      have l:=(hcell j _ v (jf b) s).length;rw[jK]at l;rw[l];exact M _ (List.getElem_mem b)
     have X:∀ l:List (List PV),(∀ r∈l,r.length=q.size)->l.flatten.length=l.length * q.size:=by
      intro l
      induction l with
      | nil=>intro _; simp
      | cons a l ih=>
       intro L;rw[List.flatten_cons,jb,ih (fun r Y=>L r (by simp[Y])),L a (by simp),ja,Nat.succ_mul]
       omega
     have hvs:vals.length * q.size=vs.length:=by rw[← hlen,X rows M,C,p]
     obtain⟨cells',D,A⟩:=QP q.size vals.length (fun B=>some (B * q.size,q.size)) (fun j _=>rfl) vals 0 ⟨vs⟩ c (by omega) (by simp; omega)
     have key:∀ (l:List (List PV)) (us:List Value),l.length=us.length->(∀ (i:Nat) (r:List PV) (v:Value),l[i]? =some r->us[i]? =some v->qU H r v.cells.toList)->qU H l.flatten (us.flatMap (·.cells.toList)):=by
      intro l
      induction l with
      | nil=>intro us N _; rw[List.length_eq_zero_iff.1 N.symm]; simp[qU]
      | cons a l ih=>
       intro us N h2;cases us with
       | nil=>simp at N
       | cons u us=>
        rw[List.flatten_cons,List.flatMap_cons];exact(h2 0 a u rfl rfl).append (ih us (by simpa using N) fun i r v Y o=>h2 (i+1) r v (by simpa using Y) (by simpa using o))
     refine⟨.agg cells',?_,?_⟩
     ·simp only[Instr.build,ka,zeroValue,typeInfo,run_program,O,hz,jZ,ke,kru hu,Go.sizeOf,K,ev,Value.cells]
      rw[D];rfl
     simp only[qL,qu];refine⟨cells'.toList,by simp,?_⟩;rw[A];simp only[Nat.zero_mul,List.take_zero,ju];exact key rows vals (by rw[C,p]) hcell
    exact h.elim
   exact h.elim
  exact h.elim
 exact h.elim
theorem VX {E:Env} {yes no:Prop}:∀ {qZ:List (Nat×Operand)},DD E qZ yes no->yes\/no
 | [],h=>.inr h
 | (_,x)::l,h=>by
  simp only[DD,Ft]at h;split at h
  ·exact .inl h
  ·exact .inl h
  ·exact .inl h
  ·exact .inl h
  exact VX h
theorem Fo:∀ {c:FV} {R:List FV->Prop},mG c R->∃ cs,R cs/\∀ ⦃Lw:Nat⦄ (ρ:List Value) (H:(PH Lw)) (vs:List Value),qL ρ H c (.tuple vs.toArray)->zJ ρ H cs vs
 | .cap0,R,h=>⟨[],h,fun Lw ρ H vs r=>by
   simp only[qL,Value.tuple.injEq]at r;simpa[zJ]using r⟩
 | .cap a b,R,h=>by
  simp only[mG]at h;obtain⟨i,h,d⟩:=Fo h;refine⟨_,h,fun Lw ρ H vs r=>?_⟩;obtain⟨u,us,e,f,g⟩:=r;have e:vs=u::us:=by simpa using e
  subst e;exact⟨u,us,rfl,f,d _ _ _ g⟩
 | .top,_,h|.p _,_,h|.opt _ _,_,h|.tsl _ _,_,h|.ptr _ _,_,h|.hptr _,_,h|.bself _,_,h|.bsl _ _ _ _,_,h|.vsl _ _,_,h|.eptr _ _ _ _,_,h|.mref _,_,h|.pair _ _,_,h|.stmp _,_,h|.clo _ _,_,h|.fagg _,_,h|.nxt _ _ _,_,h|.asl _ _ _,_,h|.ifs _ _,_,h|.cut _,_,h=>by
  simp[mG]at h
theorem ND {v:FV} {R:List FV->Prop} (h:iH v R):∃ c,R c/\∀ ⦃Lw:Nat⦄ (ρ:List Value) (H:(PH Lw)) (x:Value),qL ρ H v x->zJ ρ H c x.cells.toList:=by
 unfold iH at h;split at h
 ·obtain⟨c,h,b⟩:=Xg h
  have h:=sK h;exact⟨_,h,fun Lw ρ H x r=>zJ.of_RepL (b H x r)⟩
 ·rename_i k rows
  refine⟨_,h,fun Lw ρ H x r=>?_⟩;have e:=(cQ (f:=.tsl k rows) rfl r).1;rw[e];exact⟨x,[],rfl,r,rfl⟩
 ·rename_i k
  refine⟨_,h,fun Lw ρ H x r=>?_⟩;have e:=(cQ (f:=.mref k) rfl r).1;rw[e];exact⟨x,[],rfl,r,rfl⟩
 ·rename_i k o
  refine⟨_,h,fun Lw ρ H x r=>?_⟩;have e:=(cQ (f:=.ptr k o) rfl r).1;rw[e];exact⟨x,[],rfl,r,rfl⟩
 ·rename_i f c
  refine⟨_,h,fun Lw ρ H x r=>?_⟩;have e:=(cQ (f:=.clo f c) rfl r).1;rw[e];exact⟨x,[],rfl,r,rfl⟩
 ·rename_i k o n c
  refine⟨_,h,fun Lw ρ H x r=>?_⟩;have e:=(cQ (f:=.bsl k o n c) rfl r).1;rw[e];exact⟨x,[],rfl,r,rfl⟩
 ·rename_i c
  obtain⟨cs,h,a⟩:=Fo h;refine⟨_,h,fun Lw ρ H x r=>?_⟩;obtain⟨vs,rfl,rc⟩:=r;simpa[Value.cells]using a ρ H vs rc
 exact h.elim
theorem Bs {E:Env} {g:G} {o:List Field}:∀ {qZ:List (Nat×Operand)} {cs:List FV} {R:List FV->Prop},SW P E g o qZ cs R ->
  ∃ a,R a/\(oZ g->∀ ⦃Lw:Nat⦄ (ρ:List Value) (H:(PH Lw)) (w:World) (eval:Operand->Value) (places:Array (Nat×Nat)) (cells:Array Value),(∀ x∈qZ.map (·.2),qL ρ H (oT (qG E) x) (eval x)) ->
   (∀ (i:Nat) (f:Field),o[i]? =some f->∀ d,P.info? f.type=some d->places[i]? =some (f.offset,d.size))->zJ ρ H cs cells.toList ->
   ∃ cells',Instr.fill (places[·]?) cells (qZ.map fun(i,x)=>(i,eval x))=some cells'/\zJ ρ H a cells'.toList)
 | [],cs,R,h=>⟨cs,h,fun _ Lw ρ H w eval places cells _ _ r=>⟨cells,rfl,r⟩⟩
 | (i,x)::l,cs,R,h=>by
  simp only[SW]at h;obtain⟨f,t,h⟩:=zd h;split at h
  ·rename_i d k
   obtain⟨v,h,u⟩:=qB h;obtain⟨c,h,z⟩:=ND h;split at h
   ·rename_i b
    have b:c.length=d.size:=jm b;obtain⟨h,hlen⟩:=ng h;obtain⟨a,h,A⟩:=Bs h;refine⟨a,h,fun p Lw ρ H w eval places cells q e r=>?_⟩;have rc:=z ρ H _ (u ρ H _ p (q x (by simp)));have j:(eval x).cells.size=d.size:=by have:=rc.length; simp at this; omega
    have m:=r.length;simp at m;have n:f.offset+(eval x).cells.size<=cells.size:=by omega
    have B:=DI f.offset (eval x) cells n;obtain⟨cells',C,D⟩:=A p ρ H w eval places ((eval x).cells.zipIdx.foldl (fun(cs:Array Value) (x:Value×Nat)=>cs.setIfInBounds (f.offset+x.2) x.1) cells) (fun y s=>q y (by simp at s ⊢; exact .inr s)) e (by
     rw[B,j,← b];exact((r.take _).append rc).append (r.drop _))
    refine⟨cells',?_,D⟩;simp only[jk,Instr.fill,e i f t d k];rw[if_neg (by simp[j]; omega)];exact C
   exact h.elim
  exact h.elim
theorem Gk {ρ:List Value} {H:(PH Lw)}:∀ {cs:List FV} {vs:List Value},zJ ρ H cs vs->qL ρ H (lT cs) (.tuple vs.toArray)
 | [],vs,r=>by
  simp only[zJ]at r;subst r;simp[lT,qL]
 | c::cs,vs,r=>by
  obtain⟨u,us,rfl,a,rs⟩:=r;exact⟨u,us,rfl,a,Gk rs⟩
theorem QR {E:Env} {g:G} {t:TypeId} {qZ:List (Nat×Operand)} {R:FV->Prop} (h:FA P E g t qZ R) :
  ∃ d,R d/\(oZ g->∀ ⦃Lw:Nat⦄ (ρ:List Value) (H:(PH Lw)) (w:World) (eval:Operand->Value),(∀ x∈qZ.map (·.2),qL ρ H (oT (qG E) x) (eval x)) ->
   ∃ v,(Instr.build t (qZ.map fun(i,x)=>(i,eval x)).toArray).run P w=.ok v w/\qL ρ H d v):=by
 unfold FA at h;split at h
 ·rename_i i e
  split at h
  ·rename_i vs hz
   obtain⟨p,h,b⟩:=sL h;have h:=sK h;split at h
   ·rename_i j hu
    split at h
    case h_2=>exact h.elim
    rename_i a;obtain⟨cs,h,k⟩:=Bs h;refine⟨_,h,fun l Lw ρ H w eval m=>?_⟩;obtain⟨cells',n,rc⟩:=k l ρ H w eval (j.map fun f=>(f.offset,Pb P f.type)).toArray vs.toArray m (fun i f o q c=>by simp[o,Pb,c]) (by simpa[Value.cells]using zJ.of_RepL (b H))
    refine⟨.agg cells',?_,⟨cells'.toList,by simp,Gk rc⟩⟩;simp only[Instr.build,ka,zeroValue,typeInfo,run_program,e,hz,jZ,ke,kru hu,Value.cells];rw[Array.mapM_eq_mapM_toList];simp only[Sem.run_map];rw[VS a];simp only[jZ];rw[n];rfl
   exact h.elim
  exact h.elim
 exact h.elim
theorem tE {op:BinOp} {t:TypeId} {n:Bool} {y:FV} {R:FV->Prop} (h:Bv P op t n y R) :
  ∃ i,R i/\∀ ⦃Lw:Nat⦄ (ρ:List Value) (H:(PH Lw)) (w:World) (d e:Operand) (a b:Value),((n=true/\a=.nilFunc)\/(n=false/\∃ f bs cs,a=.func f bs cs))->qL ρ H y b ->
   ∃ v,(do eqGuard op t d e a b; binOp op t a b:Sem Value).run P w=.ok v w/\qL ρ H i v:=by
 unfold Bv at h;split at h
 ·rename_i l i2 i3 hu
  split at h
  ·have eqN:∀ (w:World) (a:Value),((n=true/\a=.nilFunc)\/(n=false/\∃ f bs cs,a=.func f bs cs))->(Op.equal t a .nilFunc).run P w=.ok n w:=by
    intro w a j;have:∀ k,(Op.equalIn (k+1) t a .nilFunc).run P w=.ok n w:=by
     intro k;rcases j with ⟨rfl,rfl⟩|⟨rfl,f,bs,cs,rfl⟩<;>simp[Op.equalIn,kru hu]
    exact this 9999
   split at h
   ·refine⟨_,h,fun Lw ρ H w d e a b g c=>⟨.bool n,?_,cr⟩⟩
    simp only[qL,qu]at c;subst c;simp[eqGuard,binOp,ka,eqN w a g]
   ·refine⟨_,h,fun Lw ρ H w d e a b g c=>⟨.bool (!n),?_,cr⟩⟩
    simp only[qL,qu]at c;subst c;simp[eqGuard,binOp,ka,eqN w a g]
   exact h.elim
  exact h.elim
 exact h.elim
theorem FF {op:BinOp} {t:TypeId} {x y:FV} {R:FV->Prop} (h:an P op t x y R) :
  ∃ q,R q/\∀ ⦃Lw:Nat⦄ (ρ:List Value) (H:(PH Lw)) (w:World) (d f:Operand) (a b:Value),qL ρ H x a->qL ρ H y b ->
   ∃ v,(do eqGuard op t d f a b; binOp op t a b:Sem Value).run P w=.ok v w/\qL ρ H q v:=by
 unfold an at h;split at h
 ·rename_i e hu
  split at h
  ·rename_i i s
   have eqN:∀ (w:World) (p:Option Addr),(Op.equal t (.pointer p) (.pointer none)).run P w=.ok p.isNone w:=by
    intro w p;have:∀ n,(Op.equalIn (n+1) t (.pointer p) (.pointer none)).run P w=.ok p.isNone w:=by
     intro n;cases p<;>simp[Op.equalIn,kru hu]
    exact this 9999
   have oX:∀ (b:Bool) (w:World) (d f:Operand) (p:Option Addr),(do eqGuard .eql t d f (.pointer p) (.pointer none); binOp .eql t (.pointer p) (.pointer none):Sem Value).run P w=.ok (.bool p.isNone) w /\
     (do eqGuard .neq t d f (.pointer p) (.pointer none); binOp .neq t (.pointer p) (.pointer none):Sem Value).run P w=.ok (.bool (!p.isNone)) w:=by
    intro b w d f p
    constructor
    ·simp only[eqGuard,binOp,ka,eqN]; rfl
    simp only[eqGuard,binOp,ka,eqN]; rfl
   split at h
   ·split at h
    ·refine⟨_,h,fun Lw ρ H w d f a b g c=>?_⟩
     simp only[qL,qu]at g c;subst g; subst c;exact⟨_,(oX true w d f none).1,cr⟩
    ·refine⟨_,h,fun Lw ρ H w d f a b g c=>?_⟩
     obtain⟨j,_,rfl⟩:=g;simp only[qL,qu]at c;subst c;exact⟨_,(oX true w d f _).1,cr⟩
    ·refine⟨_,h,fun Lw ρ H w d f a b g c=>?_⟩
     obtain⟨j,o,vs,rfl,_⟩:=g;simp only[qL,qu]at c;subst c;exact⟨_,(oX true w d f _).1,cr⟩
    exact h.elim
   ·split at h
    ·refine⟨_,h,fun Lw ρ H w d f a b g c=>?_⟩
     simp only[qL,qu]at g c;subst g; subst c;exact⟨_,(oX true w d f none).2,cr⟩
    ·refine⟨_,h,fun Lw ρ H w d f a b g c=>?_⟩
     obtain⟨j,_,rfl⟩:=g;simp only[qL,qu]at c;subst c;exact⟨_,(oX true w d f _).2,cr⟩
    ·refine⟨_,h,fun Lw ρ H w d f a b g c=>?_⟩
     obtain⟨j,o,vs,rfl,_⟩:=g;simp only[qL,qu]at c;subst c;exact⟨_,(oX true w d f _).2,cr⟩
    ·rename_i k off k' r
     split at h
     ·rename_i l
      have l:=jm l;split at h
      ·rename_i m
       have m:=jm m;subst l; subst m;refine⟨_,h,fun Lw ρ H w d f a b g c=>?_⟩;obtain⟨u,e1,rfl⟩:=g;obtain⟨z,e2,rfl⟩:=c;rw[e1]at e2;cases e2;refine⟨.bool false,?_,cr⟩;simp only[eqGuard,ka];exact Lib.run_neq_ptr_same w _ hu s
      exact h.elim
     exact h.elim
    exact h.elim
   exact h.elim
  exact h.elim
 exact h.elim
theorem Zm {src dst:TypeId} {R:Prop} (h:u8T P src dst R):∃ e,P.underlying src=some (.slice e)/\P.underlying e=some (.int .u8)/\P.underlying dst=some .string/\R:=by
 unfold u8T at h;split at h
 ·rename_i e he
  split at h
  ·rename_i a
   split at h
   ·rename_i b; exact⟨e,he,a,b,h⟩
   exact h.elim
  exact h.elim
 exact h.elim
theorem PE {l:List UInt8} {j:Nat} {x:UInt8} (h:l[j]? =some x):(qp l)[j]? =some [.int .u8 x.toNat]:=by simp[qp,h]
theorem BM {H:(PH Lw)} {w:World} (s:SatH H w) {b z o:Nat} {l:List UInt8} (r:ca H b z o (qp l)):∀ j (a:j<l.length),w.cell? ((⟨b,o,none⟩:Addr).add j)=some (.int .u8 (l[j].toNat:Int)):=by
 intro j a;obtain⟨hz,vs,q,c⟩:=r.get (PE (jf a));simp at hz;subst hz;simp only[qU,qu]at q;obtain⟨v,_,rfl,rfl,rfl⟩:=q;have:=c 0 _ rfl;rw[Addr.add_lit];simpa using(s _ _ _ this).1
theorem Sx {src dst:TypeId} {n:Nat} {t:TypeId} {R:Prop} (h:eL P src dst n t R) :
  R/\∀ (w:World) (b:Nat),w.shape? b=some (t,n)->(convert src dst (.pointer (some ⟨b,0,none⟩))).run P w=.ok (.pointer (some ⟨b,0,none⟩)) w:=by
 unfold eL at h;split at h
 ·rename_i u a
  split at h
  ·rename_i c
   split at h
   ·rename_i i e
    exact⟨h.2,fun w b d=>Lib.run_to_unsafe w ⟨b,0,none⟩ a c e h.1.1 d h.1.2⟩
   exact h.elim
  exact h.elim
 ·rename_i a
  split at h
  ·rename_i u c
   split at h
   ·rename_i i e
    exact⟨h.2,fun w b d=>Lib.run_from_unsafe w ⟨b,0,none⟩ a c e d h.1⟩
   exact h.elim
  exact h.elim
 exact h.elim
theorem Xi {g:G} {src dst:TypeId} {lo:List AObj} {x:FV} {R:FV->Prop} (h:FB P g src dst lo x R) :
  ∃ F,R F/\(oZ g->∀ ⦃Lw:Nat⦄ (bs:(Base Lw)) (ρ:List Value) (H:(PH Lw)) (w:World) (v:Value),SatW bs ρ H lo w->qL ρ H x v->∃ u,(convert src dst v).run P w=.ok u w/\qL ρ H F u):=by
 have rowsCase:∀ (e:TypeId) (l:List UInt8),P.underlying src=some (.slice e)->P.underlying e=some (.int .u8)->P.underlying dst=some .string->∀ ⦃Lw:Nat⦄ (H:(PH Lw)) (w:World) (v:Value),SatH H w->qu H (.sl (qp l)) v ->
   (convert src dst v).run P w=.ok (.string ⟨l.toArray⟩) w:=by
  intro e l a he f Lw H w v s d;simp only[qu]at d;rcases d with ⟨C,rfl|⟨V,y,rfl⟩⟩|⟨b,o,z,cap,rfl,hc,X⟩
  ·have:l=[]:=by simpa[qp]using C
   subst this;exact run_convert_bytes_nil w src e a he 0 0 dst f
  ·have:l=[]:=by simpa[qp]using C
   subst this;exact run_convert_bytes_back (P:=P) w src dst e V y [] a he f (fun j A=>absurd A (Nat.not_lt_zero _))
  have:=run_convert_bytes_back (P:=P) w src dst e ⟨b,o,none⟩ cap l a he f (BM s X);simpa[qp]using this
 unfold FB at h;split at h
 ·rename_i rows
  obtain⟨e,a,he,f,l,r,h⟩:=Zm h;refine⟨_,h,fun q Lw bs ρ H w v s d=>⟨_,rowsCase e l a he f H w v s.sath ?_,tO⟩⟩;rw[← gz r q]; exact d
 ·rename_i k rows
  obtain⟨e,a,he,f,l,r,h⟩:=Zm h;refine⟨_,h,fun q Lw bs ρ H w v s d=>⟨_,rowsCase e l a he f H w v s.sath ?_,tO⟩⟩;rw[← gz r q]; exact d.2
 ·obtain⟨e,a,he,f,h⟩:=Zm h
  refine⟨_,h,fun q Lw bs ρ H w v s d=>⟨_,rowsCase e [] a he f H w v s.sath ?_,tO⟩⟩;simp only[qL,qu]at d;simp only[qu];exact .inl ⟨rfl,.inl d⟩
 ·rename_i k off n cap
  obtain⟨e,a,he,f,h⟩:=Zm h;obtain⟨J,m,h⟩:=zd h;split at h
  ·rename_i bt cells
   obtain⟨h,S⟩:=uS h;obtain⟨h,K⟩:=fL h;obtain⟨ps,h,L⟩:=dH h;obtain⟨l,r,h⟩:=h;refine⟨_,h,fun q Lw bs ρ H w v s d=>?_⟩;obtain⟨b,I,_,rfl,_⟩:=d;obtain⟨Y,vs,D,p,t,_⟩:=s.objs k _ _ m I;cases D;have r:=gz r q;have rl:=L _ _ _ ((t.drop off).take n);rw[r]at rl;have hlen:=rl.length;have E:=t.length;simp at hlen K;have M:n=l.length:=by omega
   subst M;refine⟨_,run_convert_bytes_back (P:=P) w src dst e ⟨b,off,none⟩ _ l a he f (fun j A=>?_),tO⟩;obtain⟨u,hu,T⟩:=rl.get (i:=j) (c:=.int .u8 (l[j].toNat:Int)) (by simp[A]);simp only[qu]at T;subst T;rw[Addr.add_lit];rw[jE,if_pos A]at hu;exact cP p off j _ hu
  exact h.elim
 ·rename_i k off
  split at h
  ·rename_i C
   have C:=jm C;subst C;obtain⟨J,m,h⟩:=zd h;split at h
   ·rename_i bt cells
    obtain⟨h,a⟩:=Sx h;refine⟨_,h,fun q Lw bs ρ H w v s d=>?_⟩;obtain⟨b,I,rfl⟩:=d;obtain⟨Y,vs,D,p,t,_⟩:=s.objs k _ _ m I;cases D;have E:=t.length;have N:w.shape? b=some (bt,cells.length):=by simp[World.shape?,p,E]
    exact⟨_,a w b N,b,I,rfl⟩
   exact h.elim
  exact h.elim
 ·rename_i k n
  obtain⟨e,a,he,f,h⟩:=Zm h;obtain⟨J,m,h⟩:=zd h;split at h
  ·rename_i l
   refine⟨_,h.2,fun q Lw bs ρ H w v s d=>?_⟩;have K:=gz h.1 q;obtain⟨b,cs,D,cap,lo',Z,rfl,p,_,O,_⟩:=s.objs k _ _ m d.1;refine⟨_,run_convert_bytes_back (P:=P) w src dst e ⟨b,0,none⟩ cap l a he f (fun j A=>?_),tO⟩;rw[Addr.add_lit];simp only[World.cell?,p,jx];exact O j _ (jf A)
  exact h.elim
 ·rename_i k off n
  obtain⟨e,a,he,f,h⟩:=Zm h;obtain⟨J,m,h⟩:=zd h;split at h
  ·rename_i l
   refine⟨_,h.2,fun q Lw bs ρ H w v s d=>?_⟩;have K:=gz h.1 q;obtain⟨U,n',y,c,hr,rfl⟩:=d;obtain⟨b,cs,D,cap,lo',Z,e1,p,_,O,_⟩:=s.objs k _ _ m hr;obtain rfl:U=b:=by simpa[qI]using congrArg qI e1
   have r:n=((l.drop off).take n).length:=by simp; omega
   have B:=run_convert_bytes_back (P:=P) w src dst e ⟨U,off,none⟩ c ((l.drop off).take n) a he f (fun j A=>by
    rw[Addr.add_lit];simp only[World.cell?,p];have Q:j<n:=by omega
    have:l[off+j]? =some ((l.drop off).take n)[j]:=by
     have h3:=jf A;rw[← h3,jE,if_pos Q,jD]
    exact O _ _ this)
   rw[← r]at B;exact⟨_,B,tO⟩
  exact h.elim
 obtain⟨F,h,a⟩:=DS h;exact⟨F,h,fun q Lw bs ρ H w v s d=>a ρ H w v d⟩
end
end Ax
end
section
namespace Ax
open Go
variable {Lw:Nat}
section
variable {P:Program}
theorem VE {bs:(Base Lw)} {ρ:List Value} {H H':(PH Lw)} {a:FV} {lo:List AObj} {v:Value} {w w':World} (s:SatW bs ρ H lo w) (c:Calm H w H' w') (r:qL ρ H' a v) :
  dJ bs ρ H a lo v w':=⟨ρ,H',jq _,c.le,s.calm c,r⟩
theorem qT {bs:(Base Lw)} {ρ:List Value} {H:(PH Lw)} {a:FV} {lo:List AObj} {v:Value} {w:World} {x:Sem Value} (s:SatW bs ρ H lo w) (b:x.run P w=.ok v w) (r:qL ρ H a v) :
  EU P bs ρ H a lo ((do pure (.value (← x)):Sem Next).run P w):=by
 simp only[ka,b,jZ,ke];exact vS s r
theorem ni {bs:(Base Lw)} {ρ:List Value} {H:(PH Lw)} {lo:List AObj} {r:PV} {w:World} {x:Result Next} (s:SatW bs ρ H lo w) (h:Xs P H w r x):EU P bs ρ H (.p r) lo x:=by
 unfold Xs at h;split at h
 ·obtain⟨H',c,b⟩:=h
  exact VE s c b
 ·obtain⟨rfl,a⟩:=h
  exact a.mono fun f d ⟨v,H',e,c,b⟩=>⟨v,e,VE s c b⟩
 exact h.elim
theorem Bo:∀ {c:FV} {R:List PV->Prop},PO c R->∃ d,R d/\∀ ⦃Lw:Nat⦄ (ρ:List Value) (H:(PH Lw)) (vs:List Value),qL ρ H c (.tuple vs.toArray)->qU H d vs
 | .cap0,R,h=>⟨[],h,fun Lw ρ H vs r=>by
   simp only[qL,Value.tuple.injEq]at r;simpa[qU]using r⟩
 | .cap a b,R,h=>by
  simp only[PO]at h;obtain⟨p,h,hp⟩:=cd h;obtain⟨d,h,f⟩:=Bo h;refine⟨_,h,fun Lw ρ H vs r=>?_⟩;obtain⟨u,us,e,g,i⟩:=r;have e:vs=u::us:=by simpa using e
  subst e;simp only[qU];exact⟨u,us,rfl,hp _ _ _ g,f _ _ _ i⟩
 | .top,_,h|.p _,_,h|.opt _ _,_,h|.tsl _ _,_,h|.ptr _ _,_,h|.hptr _,_,h|.bself _,_,h|.bsl _ _ _ _,_,h|.vsl _ _,_,h|.eptr _ _ _ _,_,h|.mref _,_,h|.pair _ _,_,h|.stmp _,_,h|.clo _ _,_,h|.fagg _,_,h|.nxt _ _ _,_,h=>by
  simp[PO]at h
theorem Hx {dst:Option Tmp} {op:Op} {ty:TypeId} {pos:String} {after:Array Edge} {guard:Option (Nat×Bool)} {E:Env} {g:G} {R:FV->Prop} (h:RJ P op E g R):∃ D,R D/\∀ lo,uR P ⟨dst,op,ty,pos,after,guard⟩ (qG E) lo g D lo:=by
 unfold RJ at h;split at h
 ·rename_i f b bs
  have i:=dG h; clear h; obtain⟨vs,h,l⟩:=i;have i:=dH h; clear h; obtain⟨L,h,o⟩:=i;refine⟨_,h,fun lo d Lw N ρ H w eval s j=>?_⟩;have rl:=o ρ H _ (l ρ H eval d (fun y q=>j y (by simpa[kf]using q)))
  exact qT s (v:=.func (.func f) ((b::bs).map eval).toArray #[]) (by simp[Instr.makeFunc]) (by simp only[qL,qu]; exact⟨_,rfl,rl⟩)
 ·rename_i x U a
  have i:=qB h; clear h; obtain⟨M,h,A⟩:=i;have i:=cd h; clear h; obtain⟨p,h,hp⟩:=i;obtain⟨r,n,h⟩:=h;refine⟨_,h,fun lo d Lw bs ρ H w eval s j=>?_⟩;obtain⟨u,e,O⟩:=gz n d H _ w (hp _ _ _ (A ρ H _ d (j x (by simp[kf]))));exact qT s e O
 ·rename_i f xs
  split at h
  ·refine⟨_,h,fun lo d Lw bs ρ H w eval s j=>?_⟩
   exact qT s (v:=.func (.func f) #[] #[]) (by simp[Instr.makeFunc]) (by simp[qL,qu])
  rename_i x xs;have i:=dG h; clear h; obtain⟨vs,h,l⟩:=i;refine⟨_,h,fun lo d Lw bs ρ H w eval s j=>?_⟩;have rl:=l ρ H eval d (fun y q=>j y (by simpa[kf]using q))
  exact qT s (v:=.func (.func f) #[] ((x::xs).map eval).toArray) (by simp[Instr.makeFunc]) ⟨_,rfl,Gk rl⟩
 ·rename_i t xs F
  have i:=qB h; clear h; obtain⟨D,h,z⟩:=i;have i:=dG h; clear h; obtain⟨vs,h,l⟩:=i;have i:=dH h; clear h; obtain⟨L,h,o⟩:=i;split at h
  ·rename_i f
   obtain⟨r,n,h⟩:=h;refine⟨_,h,fun lo d Lw bs ρ H w eval s j=>?_⟩;have n:=gz n d;have rl:=o ρ H _ (l ρ H eval d (fun y q=>j y (by simp[kf,kg,q])))
   have:=n H w _ s.sath rl;have B:(eval (.tmp t))=.func (.func f) #[] #[]:=by
    have:=z ρ H _ d (j (.tmp t) (by simp[kf,kg]));simpa[qL,qu]using this
   simp only[execOp,resolve,Deferred.ofValue,invoke,B,ka,ke,jZ,jY,Array.empty_append,Array.append_empty];exact ni s this
  ·rename_i f c
   have i:=Bo h; clear h; obtain⟨cs,h,I⟩:=i;obtain⟨r,n,h⟩:=h;refine⟨_,h,fun lo d Lw bs ρ H w eval s j=>?_⟩;have n:=gz n d;have rl:=o ρ H _ (l ρ H eval d (fun y q=>j y (by simp[kf,kg,q])))
   obtain⟨us,B,rc⟩:=z ρ H _ d (j (.tmp t) (by simp[kf,kg]));have:=n H w _ s.sath (rl.append (I _ _ _ rc));simp only[execOp,resolve,Deferred.ofValue,invoke,B,ka,ke,jZ,jY,List.append_toArray];exact ni s this
  ·rename_i f cs
   obtain⟨r,n,h⟩:=h;refine⟨_,h,fun lo d Lw bs ρ H w eval s j=>?_⟩;have n:=gz n d;have rl:=o ρ H _ (l ρ H eval d (fun y q=>j y (by simp[kf,kg,q])))
   have rf:=z ρ H _ d (j (.tmp t) (by simp[kf,kg]));simp only[qL,qu]at rf;obtain⟨us,B,rc⟩:=rf;have:=n H w _ s.sath (rl.append rc);simp only[execOp,resolve,Deferred.ofValue,invoke,B,ka,ke,jZ,jY,List.append_toArray];exact ni s this
  ·rename_i f bs
   obtain⟨r,n,h⟩:=h;refine⟨_,h,fun lo d Lw bs ρ H w eval s j=>?_⟩;have n:=gz n d;have rl:=o ρ H _ (l ρ H eval d (fun y q=>j y (by simp[kf,kg,q])))
   have rf:=z ρ H _ d (j (.tmp t) (by simp[kf,kg]));simp only[qL,qu]at rf;obtain⟨us,B,rc⟩:=rf;have:=n H w _ s.sath (rc.append rl);simp only[execOp,resolve,Deferred.ofValue,invoke,B,ka,ke,jZ,jY,List.append_toArray,Array.append_empty];exact ni s this
  exact h.elim
 ·rename_i Q m xs F
  have i:=qB h; clear h; obtain⟨D,h,z⟩:=i;have i:=dG h; clear h; obtain⟨vs,h,l⟩:=i;have i:=dH h; clear h; obtain⟨L,h,o⟩:=i;split at h
  ·rename_i t v
   obtain⟨f,r,n,h⟩:=h;refine⟨_,h,fun lo d Lw bs ρ H w eval s j=>?_⟩;obtain⟨J,n⟩:=gz n d;have rl:=o ρ H _ (l ρ H eval d (fun y q=>j y (by simp[kf,kg,q])))
   have rr:=z ρ H _ d (j Q (by simp[kf,kg]));simp only[qL,qu]at rr;obtain⟨u,hu,S⟩:=rr;have:=n H w (u::xs.map eval) s.sath (by simp only[qU]; exact⟨u,_,rfl,S,rl⟩);have K:=J u w;simp only[execOp,resolve,invoke,hu,ka,ke,jZ,jY,callMethod];have e:List.take xs.length (xs.map eval)=xs.map eval:=List.take_of_length_le (by simp);simp[K,e];exact ni s this
  exact h.elim
 ·rename_i x y F
  have i:=qB h; clear h; obtain⟨M,h,A⟩:=i;have i:=qB h; clear h; obtain⟨T,h,C⟩:=i;split at h
  ·rename_i k a
   split at h
   ·rename_i k' b
    refine⟨_,h,fun lo d Lw bs ρ H w eval s j=>?_⟩;have r1:=xi (A ρ H _ d (j x (by simp[kf,kg])));have r2:=xi (C ρ H _ d (j y (by simp[kf,kg])));refine qT s (v:=.int k (bif decide (b>a)then b else a)) ?_ fR;simp only[execOp,resolve,invoke,builtin,ka,ke,jZ,jY,jk,jN,r1,r2,Builtin.max_,List.foldlM,Builtin.max2,Bool.cond_decide]
   exact h.elim
  exact h.elim
 ·rename_i x y F
  have i:=qB h; clear h; obtain⟨M,h,A⟩:=i;have i:=qB h; clear h; obtain⟨T,h,C⟩:=i;split at h
  ·rename_i k a
   split at h
   ·rename_i k' b
    refine⟨_,h,fun lo d Lw bs ρ H w eval s j=>?_⟩;have r1:=xi (A ρ H _ d (j x (by simp[kf,kg])));have r2:=xi (C ρ H _ d (j y (by simp[kf,kg])));refine qT s (v:=.int k (bif decide (b<a)then b else a)) ?_ fR;simp only[execOp,resolve,invoke,builtin,ka,ke,jZ,jY,jk,jN,r1,r2,Builtin.min_,List.foldlM,Builtin.min2,Bool.cond_decide]
   exact h.elim
  exact h.elim
 exact h.elim
theorem FG {o:Oper} {E:Env} {g:G} {R:FV->Prop} (h:Te P o.op E g R):∃ A,R A/\∀ lo,uR P o (qG E) lo g A lo:=by
 obtain⟨dst,op,ty,pos,after,guard⟩:=o;simp only at h;unfold Te at h;split at h
 ·
  rename_i x;cases g with
  | none=>
   simp only[Ft]at h;exact⟨_,h,fun lo l Lw bs ρ H w eval s m=>vS s (m x (by simp[kf]))⟩
  | some g=>
   obtain⟨F,h,j⟩:=qB h;exact⟨_,h,fun lo l Lw bs ρ H w eval s m=>vS s (j ρ H _ l (m x (by simp[kf])))⟩
 ·rename_i x
  cases g with
  | none=>
   simp only[Ft]at h;exact⟨_,h,fun lo l Lw bs ρ H w eval s m=>vS s (m x (by simp[kf]))⟩
  | some g=>
   obtain⟨F,h,j⟩:=qB h;exact⟨_,h,fun lo l Lw bs ρ H w eval s m=>vS s (j ρ H _ l (m x (by simp[kf])))⟩
 ·
  rename_i c a b;obtain⟨c',h,N⟩:=qB h;split at h
  ·rename_i V
   have key:∃ A,R A/\(oZ g->∀ ⦃Lw:Nat⦄ (ρ:List Value) (H:(PH Lw)) (X Y:Value),qL ρ H (oT (qG E) a) X->qL ρ H (oT (qG E) b) Y->qL ρ H A (if V then X else Y)):=by
    have oX:∀ (ga gb:Bool) (O Q:FV),oL (some ga) (oT (qG E) a) O->oL (some gb) (oT (qG E) b) Q->(oZ g->V=true->ga=true)->(oZ g->V=false->gb=true) ->
      (match O,Q with
       | .p (.bool a),.p (.bool b)=>R (.p (.bool (bif V then a else b)))
       | _,_=>False)->∃ A,R A/\(oZ g->∀ ⦃Lw:Nat⦄ (ρ:List Value) (H:(PH Lw)) (X Y:Value),qL ρ H (oT (qG E) a) X->qL ρ H (oT (qG E) b) Y->qL ρ H A (if V then X else Y)):=by
     intro ga gb O Q Z J h1 h2 h;split at h
     ·rename_i ab bb
      refine⟨_,h,fun l Lw ρ H X Y I K=>?_⟩;cases V with
      | true=>
       have:=mY (Z ρ H _ (h1 l rfl) I);simp[this,qL,qu]
      | false=>
       have:=mY (J ρ H _ (h2 l rfl) K);simp[this,qL,qu]
     exact h.elim
    split at h
    ·obtain⟨O,h,Z⟩:=qB h
     obtain⟨Q,h,J⟩:=qB h;exact oX _ _ O Q Z J (fun _ h=>h) (fun _ h=>by simp[h]) h
    obtain⟨O,h,Z⟩:=qB h;obtain⟨Q,h,J⟩:=qB h;exact oX _ _ O Q Z J (fun l h=>by simp only[oZ]at l; simp[l,h]) (fun l h=>by simp only[oZ]at l; simp[l,h]) h
   obtain⟨A,h,B⟩:=key;refine⟨_,h,fun lo l Lw bs ρ H w eval s m=>?_⟩;have rc:=mY (N ρ H _ l (m c (by simp[kf])));simp only[execOp,rc,asBool,ka,ke,jZ];exact vS s (B l ρ H _ _ (m a (by simp[kf])) (m b (by simp[kf])))
  exact h.elim
 ·rename_i t x f
  obtain⟨F,h,j⟩:=qB h;obtain⟨A,h,B⟩:=Mf h;refine⟨_,h,fun lo l Lw bs ρ H w eval s m=>?_⟩;obtain⟨v,D,C⟩:=B ρ H w _ (j ρ H _ l (m x (by simp[kf])));exact qT s D C
 ·rename_i t x f
  obtain⟨F,h,j⟩:=qB h;obtain⟨A,h,B⟩:=NQ h;refine⟨_,h,fun lo l Lw bs ρ H w eval s m=>?_⟩;obtain⟨v,D,C⟩:=B ρ H w _ (j ρ H _ l (m x (by simp[kf])));exact qT s D C
 ·rename_i t x i
  obtain⟨F,h,j⟩:=qB h;obtain⟨i',h,S⟩:=qB h;obtain⟨A,h,B⟩:=FC h;refine⟨_,h,fun lo l Lw bs ρ H w eval s m=>?_⟩;obtain⟨v,D,C⟩:=B l ρ H w _ _ (j ρ H _ l (m x (by simp[kf]))) (S ρ H _ l (m i (by simp[kf])));exact qT s D C
 ·rename_i t x i
  obtain⟨F,h,j⟩:=qB h;obtain⟨i',h,S⟩:=qB h;obtain⟨A,h,B⟩:=Mg h;refine⟨_,h,fun lo l Lw bs ρ H w eval s m=>?_⟩;obtain⟨v,D,C⟩:=B l ρ H w _ _ (j ρ H _ l (m x (by simp[kf]))) (S ρ H _ l (m i (by simp[kf])));exact qT s D C
 ·rename_i op t x y t'
  obtain⟨F,h,j⟩:=qB h;obtain⟨y',h,hy'⟩:=qB h;have key:∃ A,R A/\(oZ g->∀ ⦃Lw:Nat⦄ (ρ:List Value) (H:(PH Lw)) (w:World) (L M:Operand) (a b:Value),qL ρ H F a->qL ρ H y' b ->
    ∃ v,(do eqGuard op t L M a b; binOp op t a b:Sem Value).run P w=.ok v w/\qL ρ H A v):=by
   split at h
   ·obtain⟨A,h,B⟩:=FF h; exact⟨A,h,fun _=>B⟩
   ·obtain⟨A,h,B⟩:=FF h; exact⟨A,h,fun _=>B⟩
   ·obtain⟨A,h,B⟩:=FF h; exact⟨A,h,fun _=>B⟩
   ·obtain⟨A,h,B⟩:=tE h; exact⟨A,h,fun _ Lw ρ H w L M a b I K=>B ρ H w L M a b (.inl ⟨rfl,by simpa only[qL,qu]using I⟩) K⟩
   ·obtain⟨A,h,B⟩:=tE h; exact⟨A,h,fun _ Lw ρ H w L M a b I K=>B ρ H w L M a b (.inr ⟨rfl,by simp only[qL,qu]at I; exact⟨_,_,_,I⟩⟩) K⟩
   ·obtain⟨A,h,B⟩:=tE h; exact⟨A,h,fun _ Lw ρ H w L M a b I K=>B ρ H w L M a b (.inr ⟨rfl,by simp only[qL,qu]at I; obtain⟨vs,e,_⟩:=I; exact⟨_,_,_,e⟩⟩) K⟩
   ·obtain⟨A,h,B⟩:=tE h; exact⟨A,h,fun _ Lw ρ H w L M a b I K=>B ρ H w L M a b (.inr ⟨rfl,by simp only[qL,qu]at I; obtain⟨vs,e,_⟩:=I; exact⟨_,_,_,e⟩⟩) K⟩
   exact Rz h
  obtain⟨A,h,B⟩:=key;refine⟨_,h,fun lo l Lw bs ρ H w eval s m=>?_⟩;obtain⟨v,D,C⟩:=B l ρ H w x y _ _ (j ρ H _ l (m x (by simp[kf]))) (hy' ρ H _ l (m y (by simp[kf])));exact qT s D C
 ·rename_i t x
  obtain⟨F,h,j⟩:=qB h;split at h
  ·rename_i b
   refine⟨_,h,fun lo l Lw bs ρ H w eval s m=>?_⟩;have rx:=mY (j ρ H _ l (m x (by simp[kf])));exact qT s (v:=.bool !b) (by simp[rx,Op.unary]) cr
  exact h.elim
 ·rename_i t x
  obtain⟨F,h,j⟩:=qB h;split at h
  ·rename_i k n
   refine⟨_,h,fun lo l Lw bs ρ H w eval s m=>?_⟩;have rx:=xi (j ρ H _ l (m x (by simp[kf])));exact qT s (v:=.int k (k.wrap (0 - n))) (by simp[rx,Op.unary,Op.intArith]) fR
  exact h.elim
 ·rename_i x
  obtain⟨F,h,j⟩:=qB h;split at h
  ·rename_i k off
   refine⟨_,h,fun lo l Lw bs ρ H w eval s m=>?_⟩;have rx:=j ρ H _ l (m x (by simp[kf]));obtain⟨b,J,e⟩:=rx;simp only[execOp,e];exact vS s ⟨b,J,rfl⟩
  ·rename_i row
   refine⟨_,h,fun lo l Lw bs ρ H w eval s m=>?_⟩;have rx:=j ρ H _ l (m x (by simp[kf]));obtain⟨b,o,vs,e,q,c⟩:=rx;simp only[execOp,e];exact vS s ⟨b,o,vs,rfl,q,c⟩
  ·rename_i k z i off
   refine⟨_,h,fun lo l Lw bs ρ H w eval s m=>?_⟩;have rx:=j ρ H _ l (m x (by simp[kf]));obtain⟨b,n,cap,J,e⟩:=rx;simp only[execOp,e];exact vS s ⟨b,n,cap,J,rfl⟩
  exact h.elim
 ·rename_i t x lo hi mx
  obtain⟨F,h,j⟩:=qB h;obtain⟨A,h,B⟩:=Mk h;refine⟨_,h,fun lo' l Lw bs ρ H w eval s m=>?_⟩;obtain⟨u,D,T⟩:=B ρ H w eval _ l (j ρ H _ l (m x (by simp[kf]))) (fun y U=>m y (by simp only[kf]; simp only[Array.mem_append]; exact .inl (.inl (.inr U)))) (fun y U=>m y (by simp only[kf]; simp only[Array.mem_append]; exact .inl (.inr U))) (fun y U=>m y (by simp only[kf]; simp only[Array.mem_append]; exact .inr U))
  exact qT s D T
 ·rename_i t n qZ
  obtain⟨A,h,B⟩:=Ga h;refine⟨_,h,fun lo' l Lw bs ρ H w eval s m=>?_⟩;obtain⟨v,w',H',D,c,C⟩:=B l ρ H w eval s.sath (fun x j=>m x (by simpa[kf]using j))
  simp only[execOp,jY,ka,D,jZ,ke];exact VE s c C
 ·rename_i t qZ
  have key:∃ A,R A/\(oZ g->∀ ⦃Lw:Nat⦄ (ρ:List Value) (H:(PH Lw)) (w:World) (eval:Operand->Value),(∀ x∈qZ.map (·.2),qL ρ H (oT (qG E) x) (eval x)) ->
   ∃ v,(Instr.build t (qZ.map fun(i,x)=>(i,eval x)).toArray).run P w=.ok v w/\qL ρ H A v):=by
   rcases VX h with h|h
   ·exact QR h
   exact Ma h
  clear h;obtain⟨A,h,B⟩:=key;refine⟨_,h,fun lo' l Lw bs ρ H w eval s m=>?_⟩;obtain⟨v,D,C⟩:=B l ρ H w eval (fun x j=>m x (by simpa[kf]using j))
  simp only[execOp,jY];exact qT s D C
 ·rename_i x i
  obtain⟨F,h,j⟩:=qB h;split at h
  ·rename_i vs
   obtain⟨c,N,h⟩:=zd h;refine⟨_,h,fun lo l Lw bs ρ H w eval s m=>?_⟩;have rx:=j ρ H _ l (m x (by simp[kf]));simp only[qL,qu]at rx;obtain⟨us,e,q⟩:=rx;obtain⟨v,hv,C⟩:=q.get N;exact qT s (v:=v) (by simp[e,Instr.extract,hv]) C
  ·rename_i a b
   split at h
   ·refine⟨_,h,fun lo l Lw bs ρ H w eval s m=>?_⟩
    obtain⟨u,v,e,T,C⟩:=j ρ H _ l (m x (by simp[kf]));exact qT s (v:=u) (by simp[e,Instr.extract]) T
   ·refine⟨_,h,fun lo l Lw bs ρ H w eval s m=>?_⟩
    obtain⟨u,v,e,T,C⟩:=j ρ H _ l (m x (by simp[kf]));exact qT s (v:=v) (by simp[e,Instr.extract]) C
   exact h.elim
  ·rename_i ok a b
   have cut:∀ {Lw:Nat} {ρ:List Value} {H:(PH Lw)} {u:Value},ok=true->qL ρ H (.nxt ok a b) u->∃ y z,u=.tuple #[.bool true,y,z]/\qu H a y/\qu H b z:=by
    intro Lw ρ H u hok r;simp only[qL,hok,if_true]at r;exact r
   split at h
   ·refine⟨_,h,fun lo l Lw bs ρ H w eval s m=>?_⟩
    have r:=j ρ H _ l (m x (by simp[kf]));cases ok with
    | true=>
     obtain⟨u,v,e,_,_⟩:=cut rfl r;exact qT s (v:=.bool true) (by simp[e,Instr.extract]) cr
    | false=>
     simp only[qL,Bool.false_eq_true,if_false]at r;exact qT s (v:=.bool false) (by simp[r,Instr.extract]) cr
   ·refine⟨_,h.2,fun lo l Lw bs ρ H w eval s m=>?_⟩
    obtain⟨u,v,e,T,C⟩:=cut (gz h.1 l) (j ρ H _ l (m x (by simp[kf])));exact qT s (v:=u) (by simp[e,Instr.extract]) T
   ·refine⟨_,h.2,fun lo l Lw bs ρ H w eval s m=>?_⟩
    obtain⟨u,v,e,T,C⟩:=cut (gz h.1 l) (j ρ H _ l (m x (by simp[kf])));exact qT s (v:=v) (by simp[e,Instr.extract]) C
   exact h.elim
  exact h.elim
 ·rename_i t x
  obtain⟨F,h,j⟩:=qB h;split at h
  ·exact h.elim
  ·rename_i d hd hu
   split at h
   ·refine⟨_,h,fun lo l Lw bs ρ H w eval s m=>?_⟩
    have rx:=j ρ H _ l (m x (by simp[kf]));refine qT s (v:=.iface t (eval x)) ?_ (by simp only[qL]; exact⟨_,rfl,rx⟩);simp only[Instr.makeInterface,ka,kru hu,jZ];rfl
   obtain⟨p,h,hp⟩:=cd h;refine⟨_,h,fun lo l Lw bs ρ H w eval s m=>?_⟩;have rx:=hp ρ H _ (j ρ H _ l (m x (by simp[kf])));refine qT s (v:=.iface t (eval x)) ?_ (by simp only[qL,qu]; exact⟨_,rfl,rx⟩);simp only[Instr.makeInterface,ka,kru hu,jZ];rfl
  exact h.elim
 ·rename_i x t
  obtain⟨F,h,j⟩:=qB h;obtain⟨A,h,B⟩:=RG h;refine⟨_,h,fun lo l Lw bs ρ H w eval s m=>?_⟩;obtain⟨v,D,C⟩:=B ρ H w ty _ (j ρ H _ l (m x (by simp[kf,kg])));simp only[execOp,resolve,invoke,builtin,ka,ke,jZ,jY,jk,jN,D];exact vS s C
 ·rename_i f xs ts
  obtain⟨vs,h,hvs⟩:=dG h;obtain⟨ps,h,hps⟩:=dH h;obtain⟨r,N,h⟩:=h;refine⟨_,h,fun lo l Lw bs ρ H w eval s m=>?_⟩;have N:=gz N l;have rl:=hps ρ H _ (hvs ρ H eval l (fun y U=>m y (by simp[kf,kg,U])))
  have:=N H w _ s.sath rl;have hf:(eval (.func f))=.func (.func f) #[] #[]:=by
   have:=m (.func f) (by simp[kf,kg]);simpa[oT,qL,qu]using this
  simp only[execOp,resolve,Deferred.ofValue,invoke,hf,ka,ke,jZ,jY,Array.empty_append,Array.append_empty];exact ni s this
 obtain⟨A,h,B⟩:=Hx (dst:=dst) (ty:=ty) (pos:=pos) (after:=after) (guard:=guard) h;exact⟨A,h,B⟩
theorem EX {H:(PH Lw)} {w:World} (s:SatH H w) {b o:Nat} {v:Value} (h:H b o=some v):w.cell? ⟨b,o,none⟩=some v:=(s.cell b o v h).1
theorem gB {w:World} {t:TypeId} {d:TypeDesc} {i:TypeInfo} (f:P.underlying t=some d) (g:P.info? t=some i) {b o:Nat} {vs:List Value}
  (h:∀ j v,vs[j]? =some v->w.cell? ⟨b,o+j,none⟩=some v) (k:i.size<=vs.length) (a:SL d=true) :
  (Instr.loadAt t (.pointer (some ⟨b,o,none⟩))).run P w=.ok (.agg (vs.take i.size).toArray) w:=by
 have e:(loadCells ⟨b,o,none⟩ (vs.take i.size).length).run P w=.ok (vs.take i.size).toArray w:=
  run_loadCells_list (P:=P) w ⟨b,o,none⟩ (vs.take i.size) (fun j v c=>by
   rw[Addr.add_lit];rw[jE]at c;split at c
   ·exact h j v c
   cases c)
 rw[jt,Nat.min_eq_left k]at e;simp[Instr.loadAt,Instr.sureAddr,loadVar,me f,a,Go.sizeOf,typeInfo,g,e]
theorem vX {w:World} {t:TypeId} {d:TypeDesc} (c:P.underlying t=some d) {b o:Nat} {v:Value}
  (e:w.cell? ⟨b,o,none⟩=some v) (a:SL d=false):(Instr.loadAt t (.pointer (some ⟨b,o,none⟩))).run P w=.ok v w:=by
 simp[Instr.loadAt,Instr.sureAddr,loadVar,me c,a,e]
theorem VP {t:TypeId} {lo:List AObj} {F:FV} {R:FV->Prop} (h:tF P t lo F R) :
  ∃ G,R G/\∀ ⦃Lw:Nat⦄ (bs:(Base Lw)) (ρ:List Value) (H:(PH Lw)) (w:World) (v:Value),SatW bs ρ H lo w->qL ρ H F v->∃ a u,v=.pointer (some a)/\(Instr.loadAt t v).run P w=.ok u w/\qL ρ H G u:=by
 unfold tF at h;split at h
 ·rename_i k off
  obtain⟨L,m,h⟩:=zd h;split at h
  ·rename_i bt cells
   obtain⟨h,I⟩:=uS h;obtain⟨d,i,n,y,h⟩:=vk h;split at h
   ·rename_i e
    obtain⟨h,x⟩:=fL h;split at h
    ·refine⟨_,h,fun Lw bs ρ H w v s l=>?_⟩
     obtain⟨b,o,rfl⟩:=l;obtain⟨A,vs,p,g,f,_⟩:=s.objs k _ _ m o;cases p;refine⟨_,_,rfl,gB n y (cP g off) (by rw[jM]at x ⊢; rw[f.length]; exact x) e,?_⟩;exact⟨_,rfl,Gk ((f.drop off).take _)⟩
    obtain⟨M,h,B⟩:=dH h;refine⟨_,h,fun Lw bs ρ H w v s l=>?_⟩;obtain⟨b,o,rfl⟩:=l;obtain⟨A,vs,p,g,f,_⟩:=s.objs k _ _ m o;cases p;refine⟨_,_,rfl,gB n y (cP g off) (by rw[jM]at x ⊢; rw[f.length]; exact x) e,?_⟩;simp only[qL,qu];exact⟨_,rfl,B _ _ _ ((f.drop off).take _)⟩
   rename_i e;split at h
   ·rename_i c r J
    refine⟨_,h,fun Lw bs ρ H w v s l=>?_⟩;obtain⟨b,o,rfl⟩:=l;obtain⟨A,vs,p,g,f,_⟩:=s.objs k _ _ m o;cases p;have z:=f.drop off;rw[J]at z;obtain⟨v,C,e2,D,_⟩:=z;have:=cP g off 0 v (by rw[e2]; simp);exact⟨_,_,rfl,vX n (by simpa using this) e,D⟩
   exact h.elim
  ·rename_i bt c
   split at h
   ·rename_i E
    obtain⟨d,i,n,y,h⟩:=vk h;split at h
    ·exact h.elim
    rename_i e;refine⟨_,h,fun Lw bs ρ H w v s l=>?_⟩;obtain⟨b,o,rfl⟩:=l;obtain⟨A,u,us,p,g,f,_⟩:=s.objs k _ _ m o;cases p;have E:=jm E;have:=cP g 0 0 u (by simp);rw[E];exact⟨_,_,rfl,vX n (by simpa using this) e,f⟩
   exact h.elim
  exact h.elim
 ·rename_i row
  obtain⟨d,i,n,y,h⟩:=vk h;split at h
  ·rename_i e
   obtain⟨h,x⟩:=fL h;refine⟨_,h,fun Lw bs ρ H w v s l=>?_⟩;obtain⟨b,o',vs,rfl,q,c⟩:=l;refine⟨_,_,rfl,gB n y (fun j v K=>EX s.sath (c j v K)) (by rw[q.length]; exact x) e,?_⟩
   simp only[qL,qu];exact⟨_,rfl,q.take _⟩
  rename_i e;split at h
  ·rename_i N r J
   refine⟨_,h,fun Lw bs ρ H w v s l=>?_⟩;obtain⟨b,o',vs,rfl,q,c⟩:=l;simp only[qU]at q;obtain⟨u,C,e2,D,_⟩:=q;have:=EX s.sath (c 0 u (by rw[e2]; simp));exact⟨_,_,rfl,vX n (by simpa using this) e,D⟩
  exact h.elim
 exact h.elim
theorem Mh {o:Oper} {t:TypeId} {x:Operand} (d:o.op=.load t x) {E:Env} {g:G} {lo:List AObj} {R:FV->Prop} (h:oV E g x fun x=>tF P t lo x R) :
  ∃ b,R b/\uR P o (qG E) lo g b lo:=by
 obtain⟨l,h,c⟩:=qB h;obtain⟨b,h,e⟩:=VP h;refine⟨_,h,fun f Lw bs ρ H w eval s i=>?_⟩;obtain⟨a,u,_,j,k⟩:=e bs ρ H w _ s (c ρ H _ f (i x (by simp[d,kf])));simp only[execOp,d];exact qT s j k
theorem Mc {o:Oper} {c d:TypeId} {x:Operand} (e:o.op=.convert c d x) {E:Env} {g:G} {lo:List AObj} {R:FV->Prop} (h:oV E g x fun x=>FB P g c d lo x R) :
  ∃ a,R a/\uR P o (qG E) lo g a lo:=by
 obtain⟨m,h,b⟩:=qB h;obtain⟨a,h,i⟩:=Xi h;refine⟨_,h,fun f Lw bs ρ H w eval s j=>?_⟩;obtain⟨u,k,l⟩:=i f bs ρ H w _ s (b ρ H _ f (j x (by simp[e,kf])));simp only[execOp,e];exact qT s k l
end
end Ax
end
section
namespace Ax
open Go
variable {Lw:Nat}
theorem fp.length {H:(PH Lw)} {z:Nat}:∀ {rows:List (List PV)} {vs:List Value},fp H z rows vs->vs.length=rows.length * z
 | [],_,x=>by simp only[fp]at x; simp[x]
 | r::rs,vs,x=>by
  simp only[fp]at x;obtain⟨hz,a,b,rfl,q,y⟩:=x;rw[jb,q.length,hz,y.length,ja,Nat.add_mul,Nat.one_mul,Nat.add_comm]
theorem fp.append {H:(PH Lw)} {z:Nat}:∀ {rows c:List (List PV)} {vs us:List Value},fp H z rows vs->fp H z c us->fp H z (rows++c) (vs++us)
 | [],_,vs,us,x,y=>by simp only[fp]at x; simpa[x]using y
 | r::rs,_,vs,us,x,y=>by
  obtain⟨hz,a,b,e,q,d⟩:=x;exact⟨hz,a,b++us,by rw[e,js],q,d.append y⟩
theorem ca.flat {H:(PH Lw)} {b z:Nat}:∀ {o:Nat} {rows:List (List PV)},ca H b z o rows->∃ vs,fp H z rows vs/\∀ j v,vs[j]? =some v->H b (o+j)=some v
 | o,[],_=>⟨[],rfl,fun j v h=>by simp at h⟩
 | o,r::rs,x=>by
  simp only[ca]at x;obtain⟨hz,⟨vs,q,c⟩,f⟩:=x;obtain⟨us,y,g⟩:=f.flat;refine⟨vs++us,⟨hz,vs,us,rfl,q,y⟩,fun j v a=>?_⟩;have i:vs.length=z:=by rw[q.length,hz]
  rcases Nat.lt_or_ge j vs.length with d|d
  ·rw[jB d]at a; exact c j v a
  rw[jC d]at a;have:=g _ _ a;have e:o+z+(j - vs.length)=o+j:=by omega
  rwa [e]at this
theorem fp.unflat {H:(PH Lw)} {b z:Nat}:∀ {o:Nat} {rows:List (List PV)} {vs:List Value},fp H z rows vs->(∀ j v,vs[j]? =some v->H b (o+j)=some v)->ca H b z o rows
 | _,[],_,_,_=>by simp[ca]
 | o,r::rs,vs,x,c=>by
  obtain⟨hz,a,f,rfl,q,y⟩:=x;have e:a.length=z:=by rw[q.length,hz]
  simp only[ca];refine⟨hz,⟨a,q,fun j v d=>c j v ?_⟩,y.unflat fun j v d=>?_⟩
  ·have:=(jG.1 d).1
   rw[jB this]; exact d
  have:=c (z+j) v (by rw[jC (by omega)]; rw[e,Nat.add_sub_cancel_left]; exact d)
  rwa [← Nat.add_assoc]at this
theorem tN {H:(PH Lw)} {rows:List (List PV)} {v:Value} {z:Nat} (h:qu H (.sl rows) v) (hz:∀ r∈rows,r.length=z) :
  (rows=[]/\(v=.slice none 0 0\/∃ a cap,v=.slice (some a) 0 cap))\/∃ b o cap vs,v=.slice (some ⟨b,o,none⟩) rows.length cap/\rows.length<=cap/\fp H z rows vs/\∀ j u,vs[j]? =some u->H b (o+j)=some u:=by
 simp only[qu]at h;rcases h with h|⟨b,o,f,cap,e,d,r⟩
 ·exact .inl h
 refine .inr ⟨b,o,cap,?_⟩;cases rows with
 | nil=>exact⟨[],e,d,rfl,fun j u h=>by simp at h⟩
 | cons r0 rs=>
  have:f=z:=by
   simp only[ca]at r;rw[← r.1]; exact hz r0 (by simp)
  subst this;obtain⟨vs,y,c⟩:=r.flat;exact⟨vs,e,d,y,c⟩
theorem SatW.kill {bs:(Base Lw)} {ρ:List Value} {H:(PH Lw)} {lo:List AObj} {w:World} (s:SatW bs ρ H lo w) (k:Nat):SatW bs ρ H (lo.set k .dead) w where
 sath:=s.sath
 hlen:=by simpa using s.hlen
 pre:=s.pre
 objs:=fun i o v a d=>by
  rw[jF]at a;split at a
  ·split at a
   ·cases a; trivial
   cases a
  ·exact s.objs i o v a d
 excl:=fun i j o o' v v' b a c d g h e f l=>by
  rw[jF]at a c;split at a
  ·split at a
   ·cases a; simp[AObj.live]at e
   cases a
  ·split at c
   ·split at c
    ·cases c; simp[AObj.live]at f
    cases c
   ·exact s.excl i j o o' v v' b a c d g h e f l
 own:=fun i o v b a d e l=>by
  rw[jF]at a;split at a
  ·split at a
   ·cases a; simp[AObj.live]at e
   cases a
  ·exact s.own i o v b a d e l
 keep:=s.keep
 leH:=s.leH
 newH:=s.newH
theorem SatW.push {bs:(Base Lw)} {ρ:List Value} {H H':(PH Lw)} {lo:List AObj} {w w':World} (s:SatW bs ρ H lo w) {v:Value} {o:AObj} {g:Nat}
  (d:qI v=some g\/qI v=none)
  (hfree:∀ (k:Nat) (o':AObj) (v':Value),lo[k]? =some o'->ρ[k]? =some v'->o'.live=true->qI v'≠some g)
  (p:bs.S g\/bs.w0.heap.size<=g) (B:PH.le H H') (C:SatH H' w')
  (t:∀ b o v,H' b o=some v->(∃ v,H b o=some v)\/b=g) (hkeep:Keep (fun b=>b=g) w w')
  (K:sD (ρ++[v]) H' w' v o):SatW bs (ρ++[v]) H' (lo++[o]) w' where
 sath:=C
 hlen:=by simp[s.hlen]
 pre:=s.pre.trans (List.prefix_append _ _)
 objs:=fun i q u a hu=>by
  rw[List.getElem?_append]at a hu;rw[s.hlen]at hu;split at a
  ·rename_i f
   simp only[f,if_true]at hu;cases D:q.live with
   | false=>cases q<;>simp[AObj.live]at D; trivial
   | true=>
    refine(s.objs i q u a hu).keep (List.prefix_append _ _) B (fun b c E=>hkeep.block b E (fun e=>hfree i q u a hu D (by rw[c,e]))) (fun b o' c _ O=>?_)
    cases M:H' b o' with
    | none=>rfl
    | some x=>
     rcases t b o' x M with ⟨y,J⟩|e
     ·rw[O]at J; cases J
     exact absurd (by rw[c,e]) (hfree i q u a hu D)
  rename_i f;simp only[f,if_false]at hu;have r:=(jG.1 a).1;simp at r;have F:i - lo.length=0:=by omega
  rw[F]at a hu;simp at a hu;subst a; subst hu;exact K
 excl:=fun i j oi oj vi N b a A l m L G I c=>by
  rw[List.getElem?_append]at a A l m;rw[s.hlen]at l m;have last:∀ {x:Nat} {q:AObj} {u:Value},¬ x<lo.length->[o][x - lo.length]? =some q->[v][x - lo.length]? =some u->x=lo.length/\u=v:=by
   intro x q u M r z;have:=(jG.1 r).1;simp at this;have F:x - lo.length=0:=by omega
   rw[F]at z;simp at z;exact⟨by omega,z.symm⟩
  by_cases r:i<lo.length<;>by_cases z:j<lo.length<;>simp only[r,z,if_true,if_false]at a A l m
  ·exact s.excl i j oi oj vi N b a A l m L G I c
  ·obtain⟨_,rfl⟩:=last z A m
   intro n;rcases d with d|d
   ·rw[d]at n; cases n; exact hfree i oi vi a l G c
   rw[d]at n; cases n
  ·obtain⟨_,rfl⟩:=last r a l
   intro n;rcases d with d|d
   ·rw[d]at c; cases c; exact hfree j oj N A m I n
   rw[d]at c; cases c
  obtain⟨e1,_⟩:=last r a l;obtain⟨e2,_⟩:=last z A m;omega
 own:=fun i q u b a hu D c=>by
  rw[List.getElem?_append]at a hu;rw[s.hlen]at hu;split at a
  ·rename_i f
   simp only[f,if_true]at hu;exact s.own i q u b a hu D c
  rename_i f;simp only[f,if_false]at hu;have r:=(jG.1 a).1;simp at r;have F:i - lo.length=0:=by omega
  rw[F]at hu;simp at hu;subst hu;rcases d with d|d
  ·rw[d]at c; cases c; exact p
  rw[d]at c; cases c
 keep:=s.keep.step hkeep (fun i a=>by
  subst a;rcases p with h|h
  ·exact .inl h
  exact .inr h)
 leH:=s.leH.trans B
 newH:=fun b o v c=>by
  rcases t b o v c with ⟨y,J⟩|e
  ·exact s.newH b o y J
  subst e; exact .inr p
theorem SatW.fresh {bs:(Base Lw)} {ρ:List Value} {H:(PH Lw)} {lo:List AObj} {w:World} (s:SatW bs ρ H lo w) {g:Nat} (q:w.heap.size<=g) :
  ∀ (k:Nat) (o':AObj) (v':Value),lo[k]? =some o'->ρ[k]? =some v'->o'.live=true->qI v'≠some g:=fun k o v i m p a=>by
 have:=s.objs k o v i m;cases o with
 | dead=>simp[AObj.live]at p
 | box t cells=>
  obtain⟨b,vs,rfl,hgt,_⟩:=this;simp[qI]at a;have:=vB hgt;omega
 | tail e z n=>
  obtain⟨xs,f,_⟩:=this;rcases f.2 with ⟨rfl,_⟩|⟨h,cap,cur,rfl,_,hgt,_⟩
  ·simp[qI]at a
  simp[qI]at a;have:=vB hgt;omega
 | vec e z n=>
  obtain⟨xs,f,_⟩:=this;rcases f.2 with ⟨rfl,_⟩|⟨h,cap,cur,rfl,_,hgt,_⟩
  ·simp[qI]at a
  simp[qI]at a;have:=vB hgt;omega
 | mp d es mk=>
  obtain⟨b,ents,clock,rfl,hgt,_⟩:=this;simp[qI]at a;have:=vB hgt;omega
 | sit l pos=>
  obtain⟨b,rfl,hgt,_⟩:=this;simp[qI]at a;have:=vB hgt;omega
 | bv l=>
  obtain⟨b,cs,e,cap,lo,r,rfl,hgt,_⟩:=this;simp[qI]at a;have:=vB hgt;omega
 | pbx t c=>
  obtain⟨b,u,us,rfl,hgt,_⟩:=this;simp[qI]at a;have:=vB hgt;omega
 | vl e z rows j k=>
  obtain⟨xs,f,_⟩:=this;rcases f.2 with ⟨rfl,_⟩|⟨h,cap,cur,rfl,_,hgt,_⟩
  ·simp[qI]at a
  simp[qI]at a;have:=vB hgt;omega
theorem gH (w:World) (o:Obj) (g:Nat):Keep (fun b=>b=g) w (w.alloc o):=
 ⟨rfl,rfl,rfl,by simp,fun k a _=>heap_alloc_old w o a⟩
theorem xC (w:World) (o:Obj) (g:Nat):Keep (fun b=>b=g) w (w.drew.alloc o):=
 ⟨rfl,rfl,rfl,by simp,fun k a _=>heap_alloc_old w.drew o a⟩
theorem gJ {H:(PH Lw)} {w:World} (s:SatH H w) (o:Obj):SatH H (w.alloc o):=⟨fun b p v a=>by
 refine⟨?_,(s.cell b p v a).2⟩;rw[World.cell?_alloc_lt (h:=s.lt a)];exact(s.cell b p v a).1,s.root,by have:=s.low; simp; omega,fun b p v a c=>(s.nf b p v a c).block (heap_alloc_old w o (s.lt a))⟩
theorem SatW.pushBox {bs:(Base Lw)} {ρ:List Value} {H:(PH Lw)} {lo:List AObj} {w:World} (s:SatW bs ρ H lo w) {t:TypeId} {cells:List FV} {vs:List Value} (a:zJ ρ H cells vs) :
  SatW bs (ρ++[.pointer (some ⟨w.heap.size,0,none⟩)]) H (lo++[.box t cells]) (w.alloc (.cells vs.toArray t)):=by
 refine s.push (g:=w.heap.size) (.inl rfl) (s.fresh (jw _)) (.inr s.keep.size) (PH.le.refl H) (gJ s.sath _) (fun b o v h=>.inl ⟨v,h⟩) (gH w _ _) ?_;refine⟨w.heap.size,vs,rfl,heap_alloc_new w _,a.mono (List.prefix_append _ _) (PH.le.refl H),fun o=>?_⟩;cases c:H w.heap.size o with
 | none=>rfl
 | some x=>exact absurd (s.sath.lt c) (jQ _)
theorem Fm {ρ:List Value} {H:(PH Lw)}:∀ {a:List FV} {vs:List Value},XK a=true->zJ ρ H a vs->∀ u∈vs,u.oneCell'=true
 | [],vs,_,r,u,hu=>by simp only[zJ]at r; simp[r]at hu
 | f::a,vs,h,r,u,hu=>by
  simp only[XK]at h;split at h
  ·rename_i b
   obtain⟨v,c,rfl,d,rs⟩:=r;rcases jg.1 hu with rfl|hu
   ·exact(cQ b d).2
   exact Fm h rs u hu
  cases h
theorem bl:∀ {c:FV} {R:List FV->Prop},mG c R->∃ cs,R cs/\∀ ⦃Lw:Nat⦄ (ρ:List Value) (H:(PH Lw)) (vs:List Value),qL ρ H c (.tuple vs.toArray)->zJ ρ H cs vs
 | .cap0,R,h=>⟨[],h,fun Lw ρ H vs r=>by
   simp only[qL,Value.tuple.injEq]at r;simpa[zJ]using r⟩
 | .cap a b,R,h=>by
  simp only[mG]at h;obtain⟨i,h,d⟩:=bl h;refine⟨_,h,fun Lw ρ H vs r=>?_⟩;obtain⟨u,us,e,f,g⟩:=r;have e:vs=u::us:=by simpa using e
  subst e;exact⟨u,us,rfl,f,d _ _ _ g⟩
 | .top,_,h|.p _,_,h|.opt _ _,_,h|.tsl _ _,_,h|.ptr _ _,_,h|.hptr _,_,h|.bself _,_,h|.bsl _ _ _ _,_,h|.vsl _ _,_,h|.eptr _ _ _ _,_,h|.mref _,_,h|.pair _ _,_,h|.stmp _,_,h|.clo _ _,_,h|.fagg _,_,h|.nxt _ _ _,_,h|.asl _ _ _,_,h|.ifs _ _,_,h|.cut _,_,h=>by
  simp[mG]at h
theorem tA {f:FV} {R:List FV->Prop} (h:QN f R):∃ cs,R cs/\∀ ⦃Lw:Nat⦄ (ρ:List Value) (H:(PH Lw)) (x:Value),qL ρ H f x->zJ ρ H cs x.cells.toList:=by
 unfold QN at h;split at h
 ·rename_i cs
  refine⟨_,sK h,fun Lw ρ H x r=>?_⟩;simp only[qL,qu]at r;obtain⟨vs,rfl,q⟩:=r;simpa[Value.cells]using zJ.of_RepL q
 ·rename_i c
  obtain⟨cs,h,a⟩:=bl h;refine⟨_,h,fun Lw ρ H x r=>?_⟩;obtain⟨vs,rfl,rc⟩:=r;simpa[Value.cells]using a ρ H vs rc
 split at h
 ·rename_i b
  refine⟨_,h,fun Lw ρ H x r=>?_⟩;rw[(cQ b r).1];exact⟨x,[],rfl,r,rfl⟩
 exact h.elim
theorem VU {P:Program} {t:TypeId} {R:List PV->Prop} (h:SF P t R):∃ i z a,P.info? t=some i/\i.zero=some z/\R a/\∀ ⦃Lw:Nat⦄ (H:PH Lw),qU H a z.cells.toList:=by
 unfold SF at h;split at h
 ·rename_i i e
  split at h
  ·rename_i vs hz
   obtain⟨a,b,c⟩:=sL h;exact⟨i,_,a,e,hz,b,fun Lw H=>by simpa[Value.cells]using c H⟩
  ·rename_i v d hz
   obtain⟨a,b,c⟩:=sL h;refine⟨i,v,a,e,hz,b,fun Lw H=>?_⟩;have:v.cells = #[v]:=by
    cases v<;>first|rfl|skip
    rename_i cs;exact absurd rfl (d cs.toList)
   rw[this];simpa using c H
  exact h.elim
 exact h.elim
theorem SatW.setBox {bs:(Base Lw)} {ρ:List Value} {H:(PH Lw)} {lo:List AObj} {w:World} (s:SatW bs ρ H lo w) {k b:Nat} {t:TypeId} {old cells:List FV} {p vs:List Value}
  (m:lo[k]? =some (.box t old)) (q:ρ[k]? =some (.pointer (some ⟨b,0,none⟩))) (E:w.heap[b]? =some (.cells p.toArray t (0,0))) (C:∀ o,H b o=none)
  (F:zJ ρ H cells vs):SatW bs ρ H (lo.set k (.box t cells)) (w.setRow b vs.toArray) where
 sath:=s.sath.block (by simp[World.setRow]) fun d o v f=>setRow_other w b d _ (fun e=>by subst e; rw[C o]at f; cases f)
 hlen:=by simpa using s.hlen
 pre:=s.pre
 objs:=fun i o v a c=>by
  rw[jF]at a;split at a
  ·rename_i e
   subst e;split at a
   ·cases a
    rw[q]at c;cases c;exact⟨b,vs,rfl,setRow_heap w b _ _ t _ E,F,C⟩
   cases a
  ·rename_i g
   cases l:o.live with
   | false=>cases o<;>simp[AObj.live]at l; trivial
   | true=>
    have r:=s.excl k i _ o _ v b m a q c g rfl l rfl;exact(s.objs i o v a c).keep (jq _) (PH.le.refl H) (fun d u _=>setRow_other w b d _ (fun e=>r (by rw[u,e]))) (fun d o' _ _ G=>G)
 excl:=fun i j oi oj vi I d a D y z g A B f=>by
  rw[jF]at a D;have live:∀ {x:Nat} {n:AObj},(if k=x then if k<lo.length then some (AObj.box t cells)else none else lo[x]?)=some n->n.live=true->∃ o',lo[x]? =some o'/\o'.live=true:=by
   intro x n h l;split at h
   ·rename_i e; subst e; exact⟨_,m,rfl⟩
   exact⟨n,h,l⟩
  obtain⟨J,K,L⟩:=live a A;obtain⟨M,N,O⟩:=live D B;exact s.excl i j J M vi I d K N y z g L O f
 own:=fun i o v d a c l f=>by
  rw[jF]at a;split at a
  ·rename_i e; subst e; exact s.own k _ v d m c rfl f
  exact s.own i o v d a c l f
 keep:=s.keep.step (S':=fun x=>x=b) ⟨rfl,rfl,rfl,by simp,fun x _ P=>setRow_other w b x _ P⟩ (fun i a=>by
  subst a;exact s.own k _ _ i m q rfl rfl)
 leH:=s.leH
 newH:=s.newH
end Ax
end
section
namespace Ax
open Go
variable {Lw:Nat}
theorem SatW.upd {bs:(Base Lw)} {ρ:List Value} {H:(PH Lw)} {lo:List AObj} {w w':World} (s:SatW bs ρ H lo w) {k b:Nat} {o o':AObj} {v:Value}
  (m:lo[k]? =some o) (r:ρ[k]? =some v) (n:o.live=true) (E:qI v=some b) (G:∀ i,H b i=none) (hkeep:Keep (fun x=>x=b) w w') (t:sD ρ H w' v o'):SatW bs ρ H (lo.set k o') w' where
 sath:=s.sath.block hkeep.size fun f i u hu=>hkeep.block f (s.sath.lt hu) (fun e=>by subst e; rw[G i]at hu; cases hu)
 hlen:=by simpa using s.hlen
 pre:=s.pre
 objs:=fun i oi vi c a=>by
  rw[jF]at c;split at c
  ·rename_i e
   subst e;split at c
   ·cases c
    rw[r]at a;cases a;exact t
   cases c
  ·rename_i l
   cases d:oi.live with
   | false=>cases oi<;>simp[AObj.live]at d; trivial
   | true=>
    have y:=s.excl k i _ oi _ vi b m c r a l n d E;exact(s.objs i oi vi c a).keep (jq _) (PH.le.refl H) (fun f z A=>hkeep.block f A (fun e=>y (by rw[z,e]))) (fun f Q _ _ I=>I)
 excl:=fun i j oi oj vi J f c F a B l d C g=>by
  rw[jF]at c F;have live:∀ {x:Nat} {p:AObj},(if k=x then if k<lo.length then some o' else none else lo[x]?)=some p->p.live=true->∃ q,lo[x]? =some q/\q.live=true:=by
   intro x p h D;split at h
   ·rename_i e; subst e; exact⟨_,m,n⟩
   exact⟨p,h,D⟩
  obtain⟨K,L,M⟩:=live c d;obtain⟨q,N,O⟩:=live F C;exact s.excl i j K q vi J f L N a B l M O g
 own:=fun i oi vi f c a d g=>by
  rw[jF]at c;split at c
  ·rename_i e; subst e; exact s.own k _ vi f m a n g
  exact s.own i oi vi f c a d g
 keep:=s.keep.step hkeep (fun i c=>by
  subst c;exact s.own k _ _ i m r n E)
 leH:=s.leH
 newH:=s.newH
def AObj.boxy:AObj->Bool
 | .box _ _=>true
 | .mp _ _ _=>true
 | .pbx _ _=>true
 | _=>false
def zA (b:Bool) (lo lo':List AObj):Prop:=lo.length<=lo'.length/\(b=true->∀ k a,k<lo.length->a.boxy=true->(lo[k]? =some a↔lo'[k]? =some a))
theorem zA.refl {b:Bool} (lo:List AObj):zA b lo lo:=⟨jw _,fun _ _ _ _ _=>Iff.rfl⟩
theorem zA.push {b:Bool} {lo:List AObj} (o:AObj):zA b lo (lo++[o]):=⟨by simp,fun _ k c a _=>by rw[jB a]⟩
theorem zA.set {lo:List AObj} (k:Nat) (o:AObj):zA false lo (lo.set k o):=⟨by simp,fun h=>by cases h⟩
theorem zA.len {lo lo':List AObj} (h:lo'.length=lo.length):zA false lo lo':=⟨by omega,fun h=>by cases h⟩
theorem zA.kill {b:Bool} {lo:List AObj} {k0:Nat} {c:AObj} (o:AObj) (h:lo[k0]? =some c) (f:c.boxy=false):zA b lo (lo.set k0 .dead++[o]):=⟨by simp,fun _ k g d a=>by
 rw[jB (by simpa using d),jF];split
 ·rename_i e
  subst e;rw[if_pos d,h]
  constructor
  ·intro e; cases e; rw[f]at a; cases a
  intro e; cases e; cases a
 exact Iff.rfl⟩
theorem zA.trans {b:Bool} {a c d:List AObj} (h:zA b a c) (k:zA b c d):zA b a d:=
 ⟨Nat.le_trans h.1 k.1,fun e i f g j=>(h.2 e i f g j).trans (k.2 e i f (Nat.lt_of_lt_of_le g h.1) j)⟩
section
variable {P:Program} {w:World}
theorem NR {c d:TypeDesc} {e:PV} {R:Prop} (h:Mn c d e R):R/\c=d/\∀ ⦃Lw:Nat⦄ (H:(PH Lw)) (v:Value),qu H e v->MapKept.IsKey d v:=by
 unfold Mn at h;split at h
 ·exact⟨h,rfl,fun Lw H v r=>by simp only[qu]at r; subst r; trivial⟩
 ·exact⟨h,rfl,fun Lw H v r=>by simp only[qu]at r; subst r; trivial⟩
 ·split at h
  ·rename_i a
   split at h
   ·rename_i b
    have a:=bn a;have b:=bn b;subst a; subst b;exact⟨h,rfl,fun Lw H v r=>by simp only[qu]at r; subst r; rfl⟩
   exact h.elim
  exact h.elim
 exact h.elim
theorem HE {t:TypeId} {d:TypeDesc} {c:PV} {R:TypeId->Prop} (h:iq P t d c R):∃ a b,R b/\P.underlying t=some (.map a b)/\P.underlying a=some d/\∀ ⦃Lw:Nat⦄ (H:(PH Lw)) (v:Value),qu H c v->MapKept.IsKey d v:=by
 unfold iq at h;split at h
 ·rename_i a b e
  split at h
  ·rename_i j f
   obtain⟨g,rfl,i⟩:=NR h;exact⟨a,b,g,e,f,i⟩
  exact h.elim
 exact h.elim
theorem PN {a b:List UInt8}:(Value.string ⟨a.toArray⟩=Value.string ⟨b.toArray⟩)↔a=b:=by
 constructor
 ·intro h
  injection h with h
  injection h with h
  simpa using h
 rintro rfl; rfl
theorem RD {H:(PH Lw)} {d:TypeDesc} {p q:PV} {x y:Value} (hp:qu H p x) (a:qu H q y) (c:MapKept.IsKey d x) (e:MapKept.IsKey d y):Tc p q=true↔y=x:=by
 have b1:∀ {p:PV} {b:Bool},qu H p (.bool b)->p=.bool b:=by
  intro p b h;cases p<;>simp only[qu]at h<;>(try (obtain⟨_,_,_,h,_,_⟩:=h; cases h; done))<;>(try (obtain⟨_,h,_⟩:=h; cases h))<;>(try (rcases h with ⟨_,h|⟨_,_,h⟩⟩|⟨_,_,_,_,h,_⟩<;>cases h))<;>(try (rcases h with ⟨_,h⟩|⟨_,_,h,_⟩<;>cases h; done))<;>try cases h
  rfl
 have b2:∀ {p:PV} {k:IntKind} {n:Int},qu H p (.int k n)->p=.int k n:=by
  intro p k n h;cases p<;>simp only[qu]at h<;>(try (obtain⟨_,_,_,h,_,_⟩:=h; cases h; done))<;>(try (obtain⟨_,h,_⟩:=h; cases h))<;>(try (rcases h with ⟨_,h|⟨_,_,h⟩⟩|⟨_,_,_,_,h,_⟩<;>cases h))<;>(try (rcases h with ⟨_,h⟩|⟨_,_,h,_⟩<;>cases h; done))<;>try cases h
  rfl
 have b3:∀ {p:PV} {b:ByteArray},qu H p (.string b)->∃ l:List UInt8,p=.str l/\b=⟨l.toArray⟩:=by
  intro p b h;cases p<;>simp only[qu]at h<;>(try (obtain⟨_,_,_,h,_,_⟩:=h; cases h; done))<;>(try (obtain⟨_,h,_⟩:=h; cases h))<;>(try (rcases h with ⟨_,h|⟨_,_,h⟩⟩|⟨_,_,_,_,h,_⟩<;>cases h))<;>(try (rcases h with ⟨_,h⟩|⟨_,_,h,_⟩<;>cases h; done))<;>try cases h
  exact⟨_,rfl,rfl⟩
 cases d<;>cases x<;>cases y<;>simp only[MapKept.IsKey]at c e
 ·rw[b1 hp,b1 a]
  simp only[Tc,beq_iff_eq];exact⟨fun h=>by rw[h],fun h=>by injection h with h; exact h.symm⟩
 ·subst c; subst e
  rw[b2 hp,b2 a];simp only[Tc,beq_iff_eq];exact⟨fun h=>by rw[h],fun h=>by injection h with _ h; exact h.symm⟩
 obtain⟨l,rfl,rfl⟩:=b3 hp;obtain⟨m,rfl,rfl⟩:=b3 a;simp only[Tc,beq_iff_eq,PN];exact eq_comm
theorem Fv {H:(PH Lw)} {d:TypeDesc} {c:PV} {k:Value} (n:qu H c k) (u:MapKept.IsKey d k):∀ (es:List (PV×PV)) (l:List MapEntry) (i:Nat),DC H es l->(∀ x∈l,MapKept.IsKey d x.key) ->
  (HC c es=none/\Instr.findNow d k l i=some none/\(∀ x∈l,x.key≠k)/\∀ f,il c f es=es++[(c,f)]) \/
  ∃ j e p,HC c es=some p/\Instr.findNow d k l i=some (some (i+j,e.val))/\l[j]? =some e/\e.key=k/\qu H p e.val/\∀ f,il c f es=es.set j (c,f)
 | [],l,i,r,_=>by
  simp only[DC]at r;subst r;exact .inl ⟨rfl,rfl,by simp,fun _=>rfl⟩
 | (p,q)::es,l,i,r,h=>by
  obtain⟨e,l',rfl,C,D,E⟩:=r;have he:=h e (.head _);obtain⟨b,v,g⟩:=MapKept.sameNow_of_keys u he;have o:=RD n C u he;cases b with
  | true=>
   have s:=g.1 rfl;have a:Tc c p=true:=o.2 s.symm;exact .inr ⟨0,e,q,by simp[HC,a],by simp[Instr.findNow,v],rfl,s.symm,D,fun f=>by simp[il,a]⟩
  | false=>
   have t:e.key≠k:=fun q=>by have:=g.2 q.symm; cases this
   have a:Tc c p=false:=by
    cases m:Tc c p with
    | false=>rfl
    | true=>exact absurd (o.1 m) t
   rcases Fv n u es l' (i+1) E (fun x m=>h x (.tail _ m))with ⟨y,z,A,B⟩|⟨j,F,G,y,z,A,B,I,J⟩
   ·refine .inl ⟨by simp[HC,a,y],by simp[Instr.findNow,v,z],fun x m=>?_,fun f=>by simp[il,a,B]⟩
    cases m with
    | head=>exact t
    | tail _ m=>exact A x m
   ·exact .inr ⟨j+1,F,G,by simp[HC,a,y],by simp[Instr.findNow,v,z]; omega,by simpa using A,B,I,fun f=>by simp[il,a,J]⟩
theorem DC.length {H:(PH Lw)}:∀ {es:List (PV×PV)} {l:List MapEntry},DC H es l->l.length=es.length
 | [],l,r=>by simp only[DC]at r; simp[r]
 | (_,_)::es,l,r=>by
  obtain⟨e,l',rfl,_,_,a⟩:=r;simp[a.length]
theorem DC.push {H:(PH Lw)}:∀ {es:List (PV×PV)} {l:List MapEntry} {k v:PV} {e:MapEntry},DC H es l->qu H k e.key->qu H v e.val->DC H (es++[(k,v)]) (l++[e])
 | [],l,k,v,e,r,rk,rv=>by
  simp only[DC]at r;subst r;exact⟨e,[],rfl,rk,rv,rfl⟩
 | (_,_)::es,l,k,v,e,r,rk,rv=>by
  obtain⟨a,l',rfl,b,c,d⟩:=r;exact⟨a,l'++[e],rfl,b,c,d.push rk rv⟩
theorem DC.set {H:(PH Lw)}:∀ {es:List (PV×PV)} {l:List MapEntry} {j:Nat} {k v:PV} {e:MapEntry},DC H es l->qu H k e.key->qu H v e.val->DC H (es.set j (k,v)) (l.set j e)
 | [],l,j,k,v,e,r,rk,rv=>by
  simp only[DC]at r;subst r;simp[DC]
 | (_,_)::es,l,j,k,v,e,r,rk,rv=>by
  obtain⟨b,l',rfl,c,d,a⟩:=r;cases j with
  | zero=>exact⟨e,l',rfl,rk,rv,a⟩
  | succ j=>exact⟨b,l'.set j e,rfl,c,d,a.set rk rv⟩
theorem Ph {t:TypeId} {R:PV->Prop} (h:Ll P t R):∃ p z,R p/\(∀ w,(zeroValue t).run P w=.ok z w)/\∀ ⦃Lw:Nat⦄ (H:PH Lw),qu H p z:=by
 unfold Ll at h;split at h
 ·rename_i i b
  split at h
  ·rename_i vs hz
   obtain⟨c,h,a⟩:=sL h;exact⟨.agg c,.agg ⟨vs⟩,h,fun w=>by simp[zeroValue,typeInfo,b,hz],fun Lw H=>by simp only[qu]; exact⟨vs,rfl,a H⟩⟩
  ·rename_i v d hz
   split at h
   ·rename_i p hp
    exact⟨p,v,h,fun w=>by simp[zeroValue,typeInfo,b,hz],fun Lw H=>XU hp H⟩
   exact h.elim
  exact h.elim
 exact h.elim
theorem Hw {g:G} {t:TypeId} {lo:List AObj} {x key:FV} {ok:Bool} {R:FV->Prop} (h:tG P g t lo x key ok R) :
  ∃ D,R D/\((∃ k o,x=.mref k/\lo[k]? =some o/\o.live=true)/\(oZ g->∀ ⦃Lw:Nat⦄ (bs:(Base Lw)) (ρ:List Value) (H:(PH Lw)) (w:World) (a b:Value),SatW bs ρ H lo w->qL ρ H x a->qL ρ H key b ->
   ∃ v,(Instr.lookup t a b ok).run P w=.ok v w/\qL ρ H D v)):=by
 unfold tG at h;split at h
 ·rename_i k T
  have n:=zd h; clear h; obtain⟨o,E,h⟩:=n;split at h
  ·rename_i d es mk
   have n:=HE h; clear h; obtain⟨U,V,h,u,i,q⟩:=n;have n:=Ph h; clear h; obtain⟨z,y,h,hz,F⟩:=n;obtain⟨v,b,A,h⟩:=h;refine⟨_,h,⟨k,_,rfl,E,rfl⟩,fun K Lw bs ρ H w a L s M I=>?_⟩;obtain⟨l,m⟩:=gz A K;obtain⟨X,N,rfl⟩:=M;obtain⟨O,ents,clock,e,c,Q,⟨S,B,_⟩,_⟩:=s.objs k _ _ E N;cases e;have f:=q H L I;rcases Fv I f es ents.toList 0 Q B with ⟨C,r,_,_⟩|⟨j,e,p,C,r,_,_,J,_⟩
   ·rw[C]at l m
    simp only[Option.getD_none,Option.isSome_none]at l m;subst l; subst m;cases ok
    ·exact⟨y,by simp[Instr.lookup,kru u,MapKept.run_getObj_map c,MapKept.run_checkKey i f,MapKept.run_findKey i r,hz],F H⟩
    exact⟨.tuple #[y,.bool false],by simp[Instr.lookup,kru u,MapKept.run_getObj_map c,MapKept.run_checkKey i f,MapKept.run_findKey i r,hz],by
     simp only[qL,qu];exact⟨[y,.bool false],rfl,by simp only[qU]; exact⟨y,_,rfl,F H,.bool false,[],rfl,by simp[qu],rfl⟩⟩⟩
   rw[C]at l m;simp only[Option.getD_some,Option.isSome_some]at l m;subst l; subst m;cases ok
   ·exact⟨e.val,by simp[Instr.lookup,kru u,MapKept.run_getObj_map c,MapKept.run_checkKey i f,MapKept.run_findKey i r],J⟩
   exact⟨.tuple #[e.val,.bool true],by simp[Instr.lookup,kru u,MapKept.run_getObj_map c,MapKept.run_checkKey i f,MapKept.run_findKey i r],by
    simp only[qL,qu];exact⟨[e.val,.bool true],rfl,by simp only[qU]; exact⟨e.val,_,rfl,J,.bool true,[],rfl,by simp[qu],rfl⟩⟩⟩
  exact h.elim
 exact h.elim
theorem NP {t:TypeId} {lo:List AObj} {x:FV} {R:FV->Prop} (h:iQ P t lo x R) :
  ∃ c,R c/\∀ ⦃Lw:Nat⦄ (bs:(Base Lw)) (ρ:List Value) (H:(PH Lw)) (w:World) (ty:TypeId) (a:Value),SatW bs ρ H lo w->qL ρ H x a->∃ v,(Builtin.len_ #[t] ty #[a]).run P w=.ok v w/\qL ρ H c v:=by
 unfold iQ at h;split at h
 ·rename_i k
  have f:=zd h; clear h; obtain⟨o,g,h⟩:=f;split at h
  ·rename_i d es mk
   split at h
   ·rename_i r u i
    obtain⟨n,j,h⟩:=h;refine⟨_,h,fun Lw bs ρ H w ty a s l=>⟨.int .i64 n,?_,fR⟩⟩;obtain⟨y,m,rfl⟩:=l;obtain⟨p,ents,clock,e,b,q,_⟩:=s.objs k _ _ g m;cases e;have:=q.length;simp at this;simp[Builtin.len_,kru i,MapKept.run_getObj_map b,goInt,this,j]
   exact h.elim
  exact h.elim
 exact h.elim
theorem Gg (w:World) (b:Nat) (o:Obj):Keep (fun x=>x=b) w { w with heap:=w.heap.setIfInBounds b o }:=
 ⟨rfl,rfl,rfl,by simp,fun k _ a=>by simp[Ne.symm a]⟩
theorem UZ {es:Array MapEntry} {j:Nat} {f:MapEntry->MapEntry} {e:MapEntry} (h:es[j]? =some e):(es.modify j f).toList=es.toList.set j (f e):=by
 apply List.ext_getElem?;intro i;simp only[Array.getElem?_toList,Array.getElem?_modify,jF];by_cases a:j=i
 ·subst a
  obtain⟨b,c⟩:=jH.1 h;simp[b,c]
 simp[a]
theorem Mq {bs:(Base Lw)} {ρ:List Value} {H:(PH Lw)} {lo:List AObj} (s:SatW bs ρ H lo w) {t F L:TypeId} {d:TypeDesc} (G:P.underlying t=some (.map F L)) (r:P.underlying F=some d)
  {j:Nat} {es:List (PV×PV)} {mk:Option (PV×Nat)} (z:lo[j]? =some (.mp d es mk)) {m k x:Value} (M:qL ρ H (.mref j) m) {I J:PV} (A:qu H I k) (rx:qu H J x) (o:MapKept.IsKey d k) :
  ∃ w',(Instr.mapUpdate t m k x).run P w=.ok () w'/\SatW bs ρ H (lo.set j (.mp d (il I J es) none)) w':=by
 obtain⟨l,B,rfl⟩:=M;obtain⟨N,ents,clock,e,a,f,⟨q,g,_⟩,u⟩:=s.objs j _ _ z B;cases e;rcases Fv A o es ents.toList 0 f g with ⟨_,C,D,O⟩|⟨i,e,p,_,C,D,K,_,Q⟩
 ·refine⟨{ w with heap:=w.heap.setIfInBounds l (.map (ents.push { key:=k,val:=x,born:=clock }) (clock+1)) },?_,s.upd z B rfl rfl u (Gg w l _) ?_⟩
  ·simp[Instr.mapUpdate,kru G,MapKept.run_getObj_map a,MapKept.run_checkKey r o,MapKept.run_findKey r C,MapKept.run_setObj_map _ a]
  refine⟨l,_,_,rfl,(MapKept.heap_set a).1,?_,⟨MapKept.stamped_push q D,?_,fun _ _ h=>by cases h⟩,u⟩
  ·rw[O,Array.toList_push]
   exact f.push A rx
  intro y v;simp only[Array.toList_push,List.mem_append,List.mem_singleton]at v;rcases v with v|rfl
  ·exact g y v
  exact o
 have E:ents[i]? =some e:=by simpa using D
 refine⟨{ w with heap:=w.heap.setIfInBounds l (.map (ents.modify i fun e=>{ e with key:=k,val:=x }) clock) },?_,s.upd z B rfl rfl u (Gg w l _) ?_⟩
 ·simp[Instr.mapUpdate,kru G,MapKept.run_getObj_map a,MapKept.run_checkKey r o,MapKept.run_findKey r C,E,K,MapKept.run_keyThatStays o,MapKept.run_setObj_map _ a]
 have c:∀ n,ents[i]? =some n->({ n with key:=k,val:=x }:MapEntry).key=n.key:=fun n b=>by rw[E]at b; cases b; exact K.symm
 refine⟨l,_,_,rfl,(MapKept.heap_set a).1,?_,⟨MapKept.stamped_modify q _ _ (fun _ _=>rfl) (fun n _ b=>c n b),MapKept.isKey_modify g _ _ c,fun _ _ h=>by cases h⟩,u⟩
 rw[Q,UZ E];exact f.set A rx
theorem SatW.pushMap {bs:(Base Lw)} {ρ:List Value} {H:(PH Lw)} {lo:List AObj} (s:SatW bs ρ H lo w) {d:TypeDesc} :
  SatW bs (ρ++[.map (some w.heap.size)]) H (lo++[.mp d [] none]) (w.alloc (.map #[] 0)):=by
 refine s.push (g:=w.heap.size) (.inl rfl) (s.fresh (jw _)) (.inr s.keep.size) (PH.le.refl H) (gJ s.sath _) (fun b o v h=>.inl ⟨v,h⟩) (gH w _ _) ?_;refine⟨w.heap.size,#[],0,rfl,heap_alloc_new w _,rfl,⟨MapKept.stamped_empty 0,by simp,fun _ _ h=>by cases h⟩,fun o=>?_⟩
 cases a:H w.heap.size o with
 | none=>rfl
 | some x=>exact absurd (s.sath.lt a) (jQ _)
theorem ZG {b:Nat} {l:ByteArray} {p:Nat} (h:w.heap[b]? =some (.stringIter l p)):(getObj b).run P w=.ok (.stringIter l p) w:=by
 simp[getObj,Sem.run,h]
theorem Bj {b:Nat} {l:ByteArray} {p:Nat} (o':Obj) (h:w.heap[b]? =some (.stringIter l p)):(setObj b o').run P w=.ok () { w with heap:=w.heap.setIfInBounds b o' }:=by
 simp[setObj,Sem.run,h]
theorem Hp {b:Nat} {o o':Obj} (h:w.heap[b]? =some o):(w.heap.setIfInBounds b o')[b]? =some o':=by
 have:=(jH.1 h).1;simp[this]
theorem DX {α:Type} {l:List α} {k:Nat} {a:α} (h:l[k]? =some a):l.set k a=l:=by
 apply List.ext_getElem?;intro i;rw[jF];split
 ·rename_i e
  subst e;split
  ·exact h.symm
  rename_i b;simp[List.getElem?_eq_none (Nat.le_of_not_lt b)]
 rfl
theorem SatW.pushSit {bs:(Base Lw)} {ρ:List Value} {H:(PH Lw)} {lo:List AObj} (s:SatW bs ρ H lo w) {l:List UInt8} :
  SatW bs (ρ++[.pointer (some ⟨w.heap.size,0,none⟩)]) H (lo++[.sit l 0]) (w.alloc (.stringIter ⟨l.toArray⟩ 0)):=by
 refine s.push (g:=w.heap.size) (.inl rfl) (s.fresh (jw _)) (.inr s.keep.size) (PH.le.refl H) (gJ s.sath _) (fun b o v h=>.inl ⟨v,h⟩) (gH w _ _) ?_;refine⟨w.heap.size,rfl,heap_alloc_new w _,fun o=>?_⟩;cases a:H w.heap.size o with
 | none=>rfl
 | some x=>exact absurd (s.sath.lt a) (jQ _)
theorem XP {E:Env} {lo:List AObj} {t:TypeId} {m k x:Operand} {R:FV->List AObj->Prop} (h:DT P E lo t m k x R) :
  ∃ n lo',R n lo'/\lo'.length=lo.length/\∀ ⦃Lw:Nat⦄ (bs:(Base Lw)) (ρ:List Value) (H:(PH Lw)) (w:World) (eval:Operand->Value),SatW bs ρ H lo w->qL ρ H (oT (qG E) m) (eval m)->qL ρ H (oT (qG E) k) (eval k)->qL ρ H (oT (qG E) x) (eval x) ->
   ∃ w',(Instr.mapUpdate t (eval m) (eval k) (eval x)).run P w=.ok () w'/\dJ bs ρ H n lo' undef w':=by
 unfold DT at h;have a:=qB h; clear h; obtain⟨B,h,e⟩:=a;have a:=qB h; clear h; obtain⟨k',h,f⟩:=a;have a:=qB h; clear h; obtain⟨C,h,g⟩:=a;have a:=cd h; clear h; obtain⟨D,h,i⟩:=a;split at h
 ·rename_i j F
  have a:=zd h; clear h; obtain⟨o,q,h⟩:=a;split at h
  ·rename_i d es mk
   have a:=HE h; clear h; obtain⟨G,I,h,r,u,b⟩:=a;obtain⟨v,l,h⟩:=h;obtain⟨h,y⟩:=xL h;refine⟨_,_,h,by simp,fun Lw bs ρ H w eval s z c rx=>?_⟩;have c:=f ρ H _ trivial c;obtain⟨w',A,p⟩:=Mq s r u q (e ρ H _ trivial z) c (i ρ H _ (g ρ H _ trivial rx)) (b H _ c);rw[l]at p;exact⟨w',A,ρ,H,jq _,PH.le.refl H,p,by simp[qL,qu,qU,undef]⟩
  exact h.elim
 exact h.elim
theorem RM {d:TypeDesc} {R:Prop} (h:ey d R):R:=by
 unfold ey at h;split at h<;>first|exact h|exact h.elim
theorem Me {o:Oper} {E:Env} {lo:List AObj} {R:FV->List AObj->Prop} (h:iP P o.op E lo R):∃ r lo',R r lo'/\zA (FJ o.op) lo lo'/\uR P o (qG E) lo none r lo':=by
 obtain⟨dst,op,ty,pos,after,guard⟩:=o;simp only at h;unfold iP at h;split at h
 ·rename_i t x
  have n:=qB h; clear h; obtain⟨G,h,i⟩:=n;split at h
  ·rename_i l
   split at h
   ·rename_i z
    have h:=zG h;have h:=zK h;refine⟨_,_,h,zA.push _,fun p Lw bs ρ H w eval s b=>?_⟩;have e:=mB (i ρ H _ p (b x (by simp[kf])));have c:(Instr.range t (eval x)).run P w=.ok (.pointer (some ⟨w.heap.size,0,none⟩)) (w.alloc (.stringIter ⟨l.toArray⟩ 0)):=by
     simp[Instr.range,e,kru z]
    simp only[execOp,ka,c,jZ,ke];refine⟨_,H,List.prefix_append _ _,PH.le.refl H,s.pushSit,w.heap.size,by simp[← s.hlen],rfl⟩
   exact h.elim
  exact h.elim
 ·rename_i x
  have n:=qB h; clear h; obtain⟨G,h,i⟩:=n;split at h
  ·rename_i k
   have n:=zd h; clear h; obtain⟨o,u,h⟩:=n;split at h
   ·rename_i l pos
    obtain⟨ok,I,⟨f,hp⟩,h⟩:=h;obtain⟨h,g⟩:=xL h;refine⟨_,_,h,zA.set _ _,fun p Lw bs ρ H w eval s b=>?_⟩;obtain⟨j,v,ex⟩:=i ρ H _ p (b x (by simp[kf]));obtain⟨A,e,a,y⟩:=s.objs k _ _ u v;cases e;simp only[execOp,ka,ex];by_cases g:pos<l.length
    ·have f:ok=true:=by rw[← f]; simpa using g
     subst f;have c:(Instr.next (.pointer (some ⟨j,0,none⟩)) true ty).run P w=.ok (.tuple #[.bool true,.int .i64 pos,.int .i32 (qN l pos)]) { w with heap:=w.heap.setIfInBounds j (.stringIter ⟨l.toArray⟩ (xe l pos)) }:=by
      have q:pos<(⟨l.toArray⟩:ByteArray).size:=by rw[ByteArray.size_mk_toArray]; exact g
      simp only[Instr.next,ka,ZG a,jZ];simp only[q,if_true,ka,Bj _ a,jZ,ke];rfl
     simp only[c,jZ,ke];refine⟨ρ,H,jq _,PH.le.refl H,?_,?_⟩
     ·refine s.upd u v rfl rfl y (Gg w j _) ⟨j,rfl,?_,y⟩
      rw[← hp];exact Hp a
     simp only[qL,if_true];exact⟨_,_,rfl,by simp[qu],by simp[qu]⟩
    have f:ok=false:=by rw[← f]; simpa using g
    subst f;have c:(Instr.next (.pointer (some ⟨j,0,none⟩)) true ty).run P w=.ok (.tuple #[.bool false]) w:=by
     have q:¬ pos<(⟨l.toArray⟩:ByteArray).size:=by rw[ByteArray.size_mk_toArray]; exact g
     simp only[Instr.next,ka,ZG a,jZ];simp only[q,if_false,ke]
    simp only[c,jZ,ke];refine⟨ρ,H,jq _,PH.le.refl H,?_,by simp[qL]⟩;have B:I=pos:=by rw[← hp]; rfl
    subst B;rw[show lo.set k (.sit l I)=lo from DX u];exact s
   exact h.elim
  exact h.elim
 ·rename_i t
  split at h
  ·rename_i J K z
   split at h
   ·rename_i d M
    have h:=RM h;have h:=zG h;have h:=zK h;refine⟨_,_,h,zA.push _,fun p Lw bs ρ H w eval s b=>?_⟩;have c:(Instr.makeMap t none).run P w=.ok (.map (some w.heap.size)) (w.alloc (.map #[] 0)):=rfl;simp only[execOp,Option.map_none,ka,c,jZ,ke];exact⟨_,H,List.prefix_append _ _,PH.le.refl H,s.pushMap,w.heap.size,by simp[← s.hlen],rfl⟩
   exact h.elim
  exact h.elim
 ·rename_i t m k x
  obtain⟨r,lo',h,C,D⟩:=XP h;refine⟨r,lo',h,zA.len C,fun p Lw bs ρ H w eval s b=>?_⟩;obtain⟨w',c,F⟩:=D bs ρ H w eval s (b m (by simp[kf])) (b k (by simp[kf])) (b x (by simp[kf]));simp only[execOp,ka,c,jZ,ke];exact F
 ·rename_i t m k x
  obtain⟨r,lo',h,C,D⟩:=XP h;refine⟨r,lo',h,zA.len C,fun p Lw bs ρ H w eval s b=>?_⟩;obtain⟨w',c,F⟩:=D bs ρ H w eval s (b m (by simp[kf])) (b k (by simp[kf])) (b x (by simp[kf]));simp only[execOp,ka,c,jZ,ke];exact F
 ·rename_i x t
  have n:=qB h; clear h; obtain⟨G,h,i⟩:=n;split at h
  ·rename_i k
   have n:=zd h; clear h; obtain⟨o,u,h⟩:=n;split at h
   ·rename_i d es mk
    split at h
    ·rename_i J K z
     obtain⟨h,g⟩:=xL h;refine⟨_,_,h,zA.set _ _,fun p Lw bs ρ H w eval s b=>?_⟩;obtain⟨j,v,ex⟩:=i ρ H _ p (b x (by simp[kf,kg]));obtain⟨A,ents,clock,e,a,L,_,y⟩:=s.objs k _ _ u v;cases e;simp only[execOp,resolve,invoke,builtin,ka,ke,jZ,jY,jk,jN,ex];have c:(Builtin.clear_ #[t] ty #[.map (some j)]).run P w=.ok (.tuple #[]) { w with heap:=w.heap.setIfInBounds j (.map #[] clock) }:=by
      simp[Builtin.clear_,kru z,MapKept.run_getObj_map a,MapKept.run_setObj_map _ a]
     simp only[c,jZ];refine⟨ρ,H,jq _,PH.le.refl H,?_,by simp[qL,qu,qU]⟩;refine s.upd u v rfl rfl y (Gg w j (.map #[] clock)) ?_;exact⟨j,#[],clock,rfl,(MapKept.heap_set a).1,rfl,⟨MapKept.stamped_empty clock,by simp,fun _ _ h=>by cases h⟩,y⟩
    exact h.elim
   exact h.elim
  exact h.elim
 exact h.elim
end
end Ax
end
section
namespace Ax
open Go
variable {Lw:Nat}
theorem fp.get {H:(PH Lw)} {z:Nat}:∀ {rows:List (List PV)} {vs:List Value} {i:Nat} {r:List PV},fp H z rows vs->rows[i]? =some r ->
  ∃ a,qU H r a/\∀ j u,a[j]? =some u->vs[i * z+j]? =some u
 | [],_,_,_,_,h=>by simp at h
 | q::rs,vs,i,r,x,h=>by
  obtain⟨hz,a,b,rfl,d,g⟩:=x;have f:a.length=z:=by rw[d.length,hz]
  cases i with
  | zero=>
   simp at h;subst h;refine⟨a,d,fun j u hu=>?_⟩;rw[Nat.zero_mul,jx,jB (jG.1 hu).1];exact hu
  | succ i=>
   obtain⟨c,rc,k⟩:=g.get (i:=i) (by simpa using h);refine⟨c,rc,fun j u hu=>?_⟩;have:=k j u hu;rw[jC (by rw[f,Nat.add_mul]; omega)];have e:(i+1) * z+j - a.length=i * z+j:=by rw[f,Nat.add_mul]; omega
   rw[e];exact this
theorem fp.over {H:(PH Lw)} {z:Nat}:∀ {rows:List (List PV)} {vs:List Value} {i off:Nat} {r f:List PV} {c:List Value},fp H z rows vs->rows[i]? =some r->qU H f c->off+f.length<=r.length ->
  fp H z (rows.set i (r.take off++f++r.drop (off+f.length))) (vs.take (i * z+off)++c++vs.drop (i * z+off+c.length))
 | [],_,_,_,_,_,_,_,h,_,_=>by simp at h
 | q::rs,vs,i,off,r,f,c,x,h,rp,hle=>by
  obtain⟨hz,a,b,rfl,e,j⟩:=x;have l:a.length=z:=by rw[e.length,hz]
  have k:=rp.length;cases i with
  | zero=>
   simp at h;subst h;have g:off<=a.length:=by rw[e.length]; omega
   have d:off+c.length<=a.length:=by rw[e.length,k]; omega
   refine⟨?_,a.take off++c++a.drop (off+c.length),b,?_,?_,j⟩
   ·simp only[jb,jt,jM]; omega
   ·rw[Nat.zero_mul,jx,List.take_append_of_le_length g,List.drop_append_of_le_length d]
    simp
   rw[k];exact((e.take off).append rp).append (e.drop _)
  | succ i=>
   refine⟨hz,a,b.take (i * z+off)++c++b.drop (i * z+off+c.length),?_,e,j.over (by simpa using h) rp hle⟩;have e1:(i+1) * z+off=a.length+(i * z+off):=by rw[l,Nat.add_mul]; omega
   rw[e1,List.take_length_add_append,Nat.add_assoc a.length,List.drop_length_add_append];simp
theorem Su {α:Type} {cur c:List α} {p m N:Nat} (hp:p+m<=N) (hm:c.length=m) (b:N<=cur.length):(cur.take p++c++cur.drop (p+m)).take N=(cur.take N).take p++c++(cur.take N).drop (p+m):=by
 have a:(cur.take p++c).length=p+m:=by simp[jt,hm]; omega
 rw[List.take_append,a,List.take_of_length_le (by omega),List.take_take,Nat.min_eq_left (by omega),List.drop_take]
section
variable {P:Program} {w:World}
theorem Li {ρ:List Value} {H:(PH Lw)} {e:TypeId} {z:Nat} {rows:List (List PV)} {b n cap:Nat} (h:sD ρ H w (.slice (some ⟨b,0,none⟩) n cap) (.vec e z rows)) :
  ∃ (a:Nat) (cur:Array Value) (xs:List Value),n=rows.length/\w.heap[b]? =some (.cells cur e (0,0))/\rows.length<=a/\a<=maxLen/\cur.size=a * z/\cap=a/\cur.toList.take (rows.length * z)=xs/\fp H z rows xs/\(∀ u∈xs,u.oneCell'=true)/\∀ o,H b o=none:=by
 obtain⟨xs,c,d,f,i⟩:=h;rcases c.2 with ⟨e,_⟩|⟨g,a,cur,e,_,j,k,hm,l,m⟩
 ·cases e
 cases e;exact⟨cap,cur,xs,rfl,j,k,hm,l,rfl,m,d,f,i b rfl⟩
theorem Xj {t:TypeId} {lo:List AObj} {k i off z:Nat} {R:FV->Prop} (h:Bw P t lo k z i off R) :
  ∃ fv,R fv/\∀ ⦃Lw:Nat⦄ (bs:(Base Lw)) (ρ:List Value) (H:(PH Lw)) (w:World) (v:Value),SatW bs ρ H lo w->qL ρ H (.eptr k z i off) v->∃ u,(Instr.loadAt t v).run P w=.ok u w/\qL ρ H fv u:=by
 unfold Bw at h;have F:=zd h; clear h; obtain⟨o,U,h⟩:=F;split at h
 ·rename_i e D rows
  obtain⟨row,⟨rfl,x⟩,h⟩:=h;obtain⟨h,G⟩:=uS h;obtain⟨d,ti,B,Q,h⟩:=vk h;have cells:∀ ⦃Lw:Nat⦄ (bs:(Base Lw)) (ρ:List Value) (H:(PH Lw)) (w:World) (v:Value),SatW bs ρ H lo w->qL ρ H (.eptr k D i off) v ->
    ∃ (b:Nat) (a:List Value),v=.pointer (some ⟨b,i * D+off,none⟩)/\qU H row a/\∀ j u,(a.drop off)[j]? =some u->w.cell? ⟨b,i * D+off+j,none⟩=some u:=by
   intro Lw bs ρ H w v s p;obtain⟨b,n,cap,I,rfl⟩:=p;obtain⟨y,cur,xs,rfl,E,J,hm,hs,rfl,S,V,h1,hh⟩:=Li (s.objs k _ _ U I);obtain⟨a,q,m⟩:=V.get x;refine⟨b,a,rfl,q,fun j u hu=>?_⟩;rw[jD]at hu;have:=m _ _ hu;rw[← S,jE]at this;split at this
   ·rw[Nat.add_assoc]
    rw[cell_of_row w b _ _ e _ E];simpa using this
   cases this
  split at h
  ·rename_i f
   obtain⟨h,J⟩:=fL h;refine⟨_,h,fun Lw bs ρ H w v s p=>?_⟩;obtain⟨b,a,rfl,q,m⟩:=cells bs ρ H w v s p;refine⟨_,gB B Q m (by have:=q.length; simp at J ⊢; omega) f,?_⟩;simp only[qL,qu];exact⟨_,rfl,(q.drop off).take _⟩
  rename_i f;split at h
  ·rename_i c r A
   refine⟨_,h,fun Lw bs ρ H w v s p=>?_⟩;obtain⟨b,a,rfl,q,m⟩:=cells bs ρ H w v s p;have rd:=q.drop off;rw[A]at rd;simp only[qU]at rd;obtain⟨u,us,e,K,_⟩:=rd;exact⟨u,vX B (by simpa using m 0 u (by rw[e]; rfl)) f,K⟩
  exact h.elim
 ·rename_i e D rows j kt
  obtain⟨row,⟨rfl,x⟩,h⟩:=h;obtain⟨h,G⟩:=uS h;obtain⟨d,ti,B,Q,h⟩:=vk h;have cells:∀ ⦃Lw:Nat⦄ (bs:(Base Lw)) (ρ:List Value) (H:(PH Lw)) (w:World) (v:Value),SatW bs ρ H lo w->qL ρ H (.eptr k D i off) v ->
    ∃ (b:Nat) (a:List Value),v=.pointer (some ⟨b,i * D+off,none⟩)/\qU H row a/\(∀ j u,(a.drop off)[j]? =some u->w.cell? ⟨b,i * D+off+j,none⟩=some u)/\(i+1=rows.length->off=j->∀ u,(a.drop off)[0]? =some u->ρ[kt]? =some u):=by
   intro Lw bs ρ H w v s p;obtain⟨b,n,cap,I,rfl⟩:=p;obtain⟨L,C,X,Y,Z,hl⟩:=s.objs k _ _ U I;obtain⟨y,cur,xs,rfl,E,J,hm,hs,rfl,S,V,h1,hh⟩:=Li (ρ:=ρ) (H:=H) ⟨L,C,X,Y,Z⟩;obtain⟨a,q,m⟩:=V.get x;have hxx:L=xs:=by
    rcases C.2 with ⟨T,_⟩|⟨g,y,cur',T,_,M,_,_,_,ht'⟩
    ·cases T
    cases T;rw[E]at M;cases M;rw[← ht',← S]
   subst hxx;refine⟨b,a,rfl,q,fun j u hu=>?_,fun N O u hu=>hl u ?_⟩
   ·rw[jD]at hu
    have:=m _ _ hu;rw[← S,jE]at this;split at this
    ·rw[Nat.add_assoc]
     rw[cell_of_row w b _ _ e _ E];simpa using this
    cases this
   ·rw[jD]at hu
    have:=m _ _ hu;rw[← O,show rows.length - 1=i by omega];simpa using this
  split at h
  ·rename_i f
   obtain⟨h,J⟩:=fL h;refine⟨_,h,fun Lw bs ρ H w v s p=>?_⟩;obtain⟨b,a,rfl,q,m,_⟩:=cells bs ρ H w v s p;refine⟨_,gB B Q m (by have:=q.length; simp at J ⊢; omega) f,?_⟩;simp only[qL,qu];exact⟨_,rfl,(q.drop off).take _⟩
  rename_i f;split at h
  ·rename_i c r A
   split at h
   ·rename_i O
    have O:=jm O;obtain⟨N,rs,rfl,h⟩:=h;refine⟨_,h,fun Lw bs ρ H w v s p=>?_⟩;obtain⟨b,a,rfl,q,m,hl⟩:=cells bs ρ H w v s p;have rd:=q.drop off;rw[A]at rd;simp only[qU]at rd;obtain⟨u,us,e,K,_⟩:=rd;exact⟨u,vX B (by simpa using m 0 u (by rw[e]; rfl)) f,hl N O u (by rw[e]; rfl),K⟩
   refine⟨_,h,fun Lw bs ρ H w v s p=>?_⟩;obtain⟨b,a,rfl,q,m,_⟩:=cells bs ρ H w v s p;have rd:=q.drop off;rw[A]at rd;simp only[qU]at rd;obtain⟨u,us,e,K,_⟩:=rd;exact⟨u,vX B (by simpa using m 0 u (by rw[e]; rfl)) f,K⟩
  exact h.elim
 ·rename_i l
  have F:=vk h; clear h; obtain⟨d,ti,B,Q,h⟩:=F;split at h
  ·exact h.elim
  rename_i f;have F:=h; clear h; obtain⟨c,⟨rfl,rfl,m⟩,h⟩:=F;refine⟨_,h,fun Lw bs ρ H w v s p=>?_⟩;obtain⟨b,n,cap,I,rfl⟩:=p;obtain⟨b',cs,T,y,lo',hi',e1,E,_,h2,_⟩:=s.objs k _ _ U I;cases e1;refine⟨.int .u8 c.toNat,vX B ?_ f,by simp[qL,qu]⟩;simp only[World.cell?,E,Nat.mul_one,Nat.add_zero];exact h2 i c m
 exact h.elim
theorem iw {H:(PH Lw)} {z:Nat}:∀ {rows:List (List PV)} {vals:List Value},rows.length=vals.length->(∀ r∈rows,r.length=z) ->
  (∀ (i:Nat) (r:List PV) (v:Value),rows[i]? =some r->vals[i]? =some v->qU H r v.cells.toList)->fp H z rows (vals.flatMap (·.cells.toList))
 | [],[],_,_,_=>rfl
 | [],_::_,hl,_,_=>by simp at hl
 | r::rs,[],hl,_,_=>by simp at hl
 | r::rs,v::vals,hl,hz,a=>⟨hz r (by simp),v.cells.toList,vals.flatMap (·.cells.toList),by rw[List.flatMap_cons],a 0 r v rfl rfl,
   iw (by simpa using hl) (fun r a=>hz r (by simp[a])) (fun i b v' c d=>a (i+1) b v' (by simpa using c) (by simpa using d))⟩
theorem fp.le {H:(PH Lw)} {z:Nat} {p q:List (List PV)} {vs:List Value} (h:p=q\/FL p q) (r:fp H z p vs):fp H z q vs:=by
 rcases h with rfl|h
 ·exact r
 have go:∀ {p q:List (List PV)} {vs:List Value},FL p q->fp H z p vs->fp H z q vs:=by
  intro p
  induction p with
  | nil=>intro q vs h r; cases q with
   | nil=>exact r
   | cons _ _=>simp[FL]at h
  | cons a l ih=>intro q vs h r; cases q with
   | nil=>simp[FL]at h
   | cons b m=>
    simp only[FL]at h;obtain⟨e,x,y,e1,c,d⟩:=r;exact⟨by rw[← e,Xl h.1],x,y,e1,pM h.1 c,ih h.2 d⟩
 exact go h r
theorem tW {E:Env} {g:G} {t:TypeId} {n:Nat} {qZ:List (Nat×Operand)} {R:FV->Prop} (h:cI P E g t n qZ R) :
  ∃ e i rows,P.underlying t=some (.slice e)/\P.info? e=some i/\R (.p (.sl rows))/\rows.length=n/\n<=maxLen/\(oZ g->∀ ⦃Lw:Nat⦄ (ρ:List Value) (H:(PH Lw)) (w:World) (eval:Operand->Value),(∀ x∈qZ.map (·.2),qL ρ H (oT (qG E) x) (eval x)) ->
   ∃ xs:List Value,(Instr.buildSlice t n (qZ.map fun(i,x)=>(i,eval x)).toArray).run P w=.ok (.slice (some ⟨w.heap.size,0,none⟩) n n) (w.alloc (.cells xs.toArray e))/\fp H i.size rows xs/\∀ u∈xs,u.oneCell'=true):=by
 unfold cI at h;obtain⟨e,i,hu,F,h⟩:=vh h;split at h
 ·rename_i o
  have o:qZ.length=n:=jm o;split at h
  ·rename_i I
   split at h
   ·rename_i A
    split at h
    case h_2=>exact h.elim
    rename_i m;split at h
    case h_2=>exact h.elim
    rename_i a J;have:a=i:=Option.some.inj (J.symm.trans F);subst this;split at h
    case h_2=>exact h.elim
    rename_i T K;obtain⟨ps,h,b,L⟩:=nV h;obtain⟨rows,h,k,hrows⟩:=Zj h;obtain⟨q,d,l,h⟩:=h;have B:d.length=rows.length:=by
     rcases l with rfl|l
     ·rfl
     exact(bo l).symm
    have C:n<=maxLen:=by
     have a1:=jh m;have a2:1<=a.size:=jh A;have a3:n * 1<=n * a.size:=Nat.mul_le_mul_left n a2;unfold maxLen;omega
    refine⟨e,a,d,hu,F,h,by rw[B,k,b,o],C,fun V Lw ρ H w eval X=>?_⟩;obtain⟨vals,ev,U⟩:=L V ρ H eval X;have hcells:=hrows H vals U;have s:vals.length=n:=by rw[U.length,b,o]
    have M:∀ v∈vals,v.cells.size=a.size:=by
     intro v N;obtain⟨j,D⟩:=List.getElem?_of_mem N;have y:=(jG.1 D).1;have f:j<rows.length:=by rw[k,b,o,← s]; exact y
     have:=(hcells j _ v (jf f) D).length;rw[(q _ (List.getElem_mem f)).1]at this;simpa using this
    obtain⟨cells',Y,z⟩:=QP a.size n (fun O=>some (O * a.size,a.size)) (fun j _=>rfl) vals 0 ((Array.range (n * a.size)).map (T.cells[· % T.cells.size]!)) M (by omega) (by simp)
    simp only[Nat.zero_mul,List.take_zero,ju]at z;have hone:∀ u∈cells'.toList,u.oneCell'=true:=by
     rw[z];intro u Q;obtain⟨v,N,S⟩:=List.mem_flatMap.1 Q;obtain⟨j,D⟩:=List.getElem?_of_mem N;have y:=(jG.1 D).1;have f:j<rows.length:=by rw[k,b,o,← s]; exact y
     have Z:=hcells j _ v (jf f) D;have h2:=(q _ (List.getElem_mem f)).2;exact qU.one (fun c hc=>(List.all_eq_true.1 h2) c hc) Z u S
    refine⟨cells'.toList,?_,?_,hone⟩
    ·have h0:n * a.size≠0:=by
      have a1:1<=n:=jh I;have a2:1<=a.size:=jh A;exact Nat.mul_ne_zero (by omega) (by omega)
     have hb:¬ 16777216<n * a.size:=by
      have:=jh m;omega
     simp only[Instr.buildSlice,ka,kru hu,jZ,Go.sizeOf,typeInfo,run_program,F,ke];rw[show(2:Nat) ^ 24=16777216 from rfl];simp only[hb,if_false,gt_iff_lt,h0,ka,zeroValue,typeInfo,run_program,F,K,jZ,ke];rw[ev,Y];simp[newRow]
    rw[z];refine fp.le l ?_;exact iw (by rw[k,b,o,s]) (fun r hr=>(q r hr).1) hcells
   exact h.elim
  exact h.elim
 exact h.elim
theorem Hv {E:Env} {lo:List AObj} {t:TypeId} {n:Nat} {qZ:List (Nat×Operand)} {R:FV->List AObj->Prop} (h:LZ P E lo t n qZ R) :
  ∃ p lo',R p lo'/\zA true lo lo'/\∀ ⦃Lw:Nat⦄ (bs:(Base Lw)) (ρ:List Value) (H:(PH Lw)) (w:World) (eval:Operand->Value),SatW bs ρ H lo w->(∀ x∈qZ.map (·.2),qL ρ H (oT (qG E) x) (eval x)) ->
   ∃ v w',(Instr.buildSlice t n (qZ.map fun(i,x)=>(i,eval x)).toArray).run P w=.ok v w'/\dJ bs ρ H p lo' v w':=by
 unfold LZ at h;have k:=vh h; clear h; obtain⟨e,i,hu,r,h⟩:=k;have k:=tW h; clear h; obtain⟨y,z,rows,a,l,h,f,c,A⟩:=k;have e1:y=e:=by rw[hu]at a; cases a; rfl
 subst e1;have e2:z=i:=Option.some.inj (l.symm.trans r);subst e2;simp only at h;have h:=zG h;have h:=zK h;refine⟨_,_,h,zA.push _,fun Lw bs ρ H w eval s m=>?_⟩;obtain⟨xs,B,j,hone⟩:=A trivial ρ H w eval m;refine⟨_,_,B,ρ++[.slice (some ⟨w.heap.size,0,none⟩) n n],H,List.prefix_append _ _,PH.le.refl H,?_,?_⟩
 ·have d:∀ o,H w.heap.size o=none:=fun o=>by
   cases m:H w.heap.size o with
   | none=>rfl
   | some u=>exact absurd (s.sath.lt m) (jQ _)
  refine s.push (g:=w.heap.size) (.inl rfl) (s.fresh (jw _)) (.inr s.keep.size) (PH.le.refl H) (gJ s.sath _) (fun b o v h=>.inl ⟨v,h⟩) (gH w _ _) ?_;refine⟨xs,⟨j.length,.inr ⟨w.heap.size,n,xs.toArray,by rw[f],jR _,heap_alloc_new w _,by rw[f]; exact jw _,c,by simp[j.length,f],?_⟩⟩,j,hone,fun b q=>?_⟩
  ·rw[← j.length]
   exact List.take_length
  simp[qI]at q;subst q;exact d
 exact⟨by simp[← s.hlen],.inr ⟨w.heap.size,n,by rw[f]⟩⟩
end
theorem Nl {α:Type} {R R':α->Prop} (b:∀ a,R a->R' a):∀ {n:Nat} {l:List α},nX n l R->nX n l R'
 | 0,[],h=>by simp[nX]at h
 | 0,a::l,h=>b a h
 | n+1,[],h=>by simp[nX]at h
 | n+1,a::l,h=>Nl b (n:=n) (l:=l) h
theorem Fs {α:Type} {R R':List α->Prop} (b:∀ a,R a->R' a):∀ {n:Nat} {l:List α},Qb n l R->Qb n l R'
 | 0,l,h=>b l h
 | n+1,[],h=>by simp[Qb]at h
 | n+1,a::l,h=>Fs b (n:=n) (l:=l) h
theorem Le {P:Program} {t:TypeId} {R R':Bool->Nat->Prop} (b:∀ a n,R a n->R' a n) (h:bp P t R):bp P t R':=by
 unfold bp at *;split at h
 ·split at h
  ·exact b _ _ h
  exact h.elim
 exact h.elim
theorem Ub {P:Program} {g:Bool} {t:TypeId} {lo:List AObj} {k i off z:Nat} {R:FV->Prop} (h:FD P g t lo k z i off R) :
  ∃ b,R b/\(g=true->∀ ⦃Lw:Nat⦄ (bs:(Base Lw)) (ρ:List Value) (H:(PH Lw)) (w:World) (v:Value),SatW bs ρ H lo w->qL ρ H (.eptr k z i off) v->∃ u,(Instr.loadAt t v).run P w=.ok u w/\qL ρ H b u):=by
 cases g with
 | true=>
  have q:Bw P t lo k z i off R:=by
   unfold FD at h;unfold Bw;refine Nl (fun o j=>?_) h;cases o<;>first|exact False.elim j|skip
   ·obtain⟨row,l,f⟩:=j
    refine⟨row,l rfl,Fs (fun cs m=>Le (fun a n e=>?_) m) f⟩
    cases a
    ·exact e
    exact e.elim
   obtain⟨row,l,f⟩:=j;refine⟨row,l rfl,Fs (fun cs m=>Le (fun a n e=>?_) m) f⟩
   cases a
   ·cases cs with
    | nil=>exact e
    | cons c cs=>
     cases r:Nat.beq off _<;>rw[r]at e
     ·exact e
     exact False.elim e
   exact e.elim
  obtain⟨b,p,s⟩:=Xj q;exact⟨b,p,fun _=>s⟩
 | false=>
  suffices hh:∃ b,R b by
   obtain⟨b,p⟩:=hh;exact⟨b,p,fun x=>by cases x⟩
  unfold FD at h;obtain⟨o,_,h⟩:=zd h;cases o<;>first|exact False.elim h|skip
  ·obtain⟨row,_,f⟩:=h
   obtain⟨h,_⟩:=uS f;obtain⟨d,y,_,_,h⟩:=vk h;split at h
   ·exact h.elim
   split at h
   ·exact⟨_,h⟩
   exact h.elim
  obtain⟨row,_,f⟩:=h;obtain⟨h,_⟩:=uS f;obtain⟨d,y,_,_,h⟩:=vk h;split at h
  ·exact h.elim
  split at h
  ·split at h
   ·exact h.elim
   exact⟨_,h⟩
  exact h.elim
end Ax
end
