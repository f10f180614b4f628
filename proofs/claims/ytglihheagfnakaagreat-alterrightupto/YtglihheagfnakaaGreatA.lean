/- A part of the proof: the abstract execution. -/
import Derived.Still
import Derived.Below
import Derived.Laws.AppendOwnNone
import Derived.MapKept
import Derived.ChangeKeysEq
import Derived.WalkKit
import Derived.Laws.StructEq
import Derived.Laws.IdiomStrings
import Derived.Laws.BytesArg
import Derived.Lib.Builder
import Derived.Carry
import Derived.Lib.AppendStr
import Derived.Laws.IdiomCopy
import Derived.Lib.ConvBytes
set_option linter.unusedVariables false
set_option linter.unusedSimpArgs false
set_option linter.unnecessarySimpa false
set_option linter.deprecated false
set_option linter.unusedSectionVars false
set_option linter.constructorNameAsVariable false
open Go renaming run_underlying->kru
open List renaming length_cons->ja,length_append->jb,length_nil->jc,getElem?_eq_getElem->jf,mem_cons->jg,map_cons->jk,length_map->jl,prefix_refl->jq,append_assoc->js,length_take->jt,nil_append->ju,mem_append->jy,getElem?_append_left->jB,getElem?_append_right->jC,getElem?_drop->jD,getElem?_take->jE,getElem?_set->jF,getElem?_eq_some_iff->jG,eq_nil_of_length_eq_zero->jI,take_left->jJ,size_toArray->jL,length_drop->jM,map_nil->jN,map_toArray->kb
open Nat renaming le_of_ble_eq_true->jh,eq_of_beq_eq_true->jm,le_refl->jw,zero_add->jx,lt_irrefl->jR,zero_le->jS
open Bool renaming and_eq_true->ji
open BitVec renaming ofInt->jr
open Array renaming getElem?_eq_some_iff->jH,length_toList->jK
open Go.Result renaming andThen_ok->ke
open Go.Sem renaming run_bind->kf,run_pure->kg
open Go.Op renaming operands->kh
open Go.Call renaming operands->ki
namespace Ax
theorem kbf {A : Type _} [BEq A] [LawfulBEq A] {a b : A} : (a == b) = false ↔ a ≠ b := beq_eq_false_iff_ne
theorem kod {p : Prop} [i : Decidable p] : decide p = true -> p := of_decide_eq_true
theorem kcf {A : Sort _} (a b : A) : (bif false then a else b) = b := rfl
theorem kct {A : Sort _} (a b : A) : (bif true then a else b) = a := rfl
theorem kdt {p : Prop} [i : Decidable p] : p -> decide p = true := decide_eq_true
theorem kdf {p : Prop} [i : Decidable p] : ¬p -> decide p = false := decide_eq_false
theorem kde {p : Prop} [i : Decidable p] : (decide p = true) = p := decide_eq_true_eq
theorem kbs {A : Type _} [BEq A] [ReflBEq A] (a : A) : (a == a) = true := beq_self_eq_true a
end Ax
section
namespace Ax
open Go
variable {Lw:Nat}
inductive PV where
 | bool (b:Bool)|int (k:IntKind) (n:Int)|str (l:List UInt8)
 | agg (cs:List PV)|tup (vs:List PV)|nilsl|sl (rows:List (List PV))
 | nilp|fn (f:FuncId)|nilfn|nili|ifc (t:TypeId) (v:PV)|nilmap|hp (row:List PV)|clo (f:FuncId) (caps:List PV)|bfn (f:FuncId) (bound:List PV)|ifo (n:Bool) (t:TypeId) (v:PV)
 | nsl (rows:List (List PV))
inductive FV where
 | top
 | p (v:PV)
 | opt (g:Bool) (v:FV)
 | tsl (k:Nat) (rows:List (List PV))
 | ptr (k off:Nat)
 | hptr (row:List PV)
 | bself (k:Nat)
 | bsl (k off len cap:Nat)
 | vsl (k n:Nat)
 | eptr (k z i off:Nat)
 | mref (k:Nat)
 | pair (a b:FV)
 | stmp (k:Nat)
 | clo (f:FuncId) (c:FV)
 | cap0
 | cap (a b:FV)
 | fagg (c:FV)
 | nxt (ok:Bool) (a b:PV)
 | asl (k off n:Nat)
 | ifs (t:TypeId) (c:FV)
 | cut (rows:List (List PV))
inductive AObj where
 | dead
 | box (t:TypeId) (cells:List FV)
 | tail (e:TypeId) (z n:Nat)
 | vec (e:TypeId) (z:Nat) (rows:List (List PV))
 | mp (d:TypeDesc) (es:List (PV×PV)) (mk:Option (PV×Nat))
 | sit (l:List UInt8) (pos:Nat)
 | bv (l:List UInt8)
 | vl (e:TypeId) (z:Nat) (rows:List (List PV)) (j k:Nat)
 | pbx (t:TypeId) (c:FV)
def AObj.live:AObj->Bool
 | .dead=>false
 | _=>true
def PH (Lw:Nat):Type:=Nat->Nat->Option Value
def PH.le (H H':(PH Lw)):Prop:=∀ b o v,H b o=some v->H' b o=some v
theorem PH.le.refl (H:(PH Lw)):PH.le H H:=fun _ _ _ h=>h
theorem PH.le.trans {a b c:(PH Lw)} (h:PH.le a b) (d:PH.le b c):PH.le a c:=fun _ _ _ x=>d _ _ _ (h _ _ _ x)
mutual
def qO (H:(PH Lw)):PV->Value->Prop
 | .bool b,v=>v=.bool b
 | .int k n,v=>v=.int k n
 | .str l,v=>v=.string ⟨l.toArray⟩
 | .agg cs,v=>∃ vs:List Value,v=.agg vs.toArray/\zC H cs vs
 | .tup cs,v=>∃ vs:List Value,v=.tuple vs.toArray/\zC H cs vs
 | .nilsl,v=>v=.slice none 0 0
 | .sl rows,v=>(rows=[]/\(v=.slice none 0 0\/∃ a cap,v=.slice (some a) 0 cap)) \/
   ∃ b o z cap,v=.slice (some ⟨b,o,none⟩) rows.length cap/\rows.length<=cap/\nA H b z o rows
 | .nilp,v=>v=.pointer none
 | .fn f,v=>v=.func (.func f) #[] #[]
 | .nilfn,v=>v=.nilFunc
 | .nili,v=>v=.nilIface
 | .ifc t p,v=>∃ u,v=.iface t u/\qO H p u
 | .nilmap,v=>v=.map none
 | .hp row,v=>∃ b o vs,v=.pointer (some ⟨b,o,none⟩)/\zC H row vs/\∀ j u,vs[j]? =some u->H b (o+j)=some u
 | .clo f cs,v=>∃ vs:List Value,v=.func (.func f) #[] vs.toArray/\zC H cs vs
 | .bfn f cs,v=>∃ vs:List Value,v=.func (.func f) vs.toArray #[]/\zC H cs vs
 | .ifo n t p,v=>(n=true/\v=.nilIface)\/(n=false/\∃ u,v=.iface t u/\qO H p u)
 | .nsl rows,v=>(rows=[]/\(v=.slice none 0 0\/∃ a cap,v=.slice (some a) 0 cap)) \/
   ∃ b o z cap,v=.slice (some ⟨b,o,none⟩) rows.length cap/\rows.length<=cap/\(Lw<=b/\o=0)/\nA H b z o rows
def zC (H:(PH Lw)):List PV->List Value->Prop
 | [],vs=>vs=[]
 | c::cs,vs=>∃ v vs',vs=v::vs'/\qO H c v/\zC H cs vs'
def nA (H:(PH Lw)) (b z:Nat):Nat->List (List PV)->Prop
 | _,[]=>True
 | o,r::rs=>r.length=z/\(∃ vs,zC H r vs/\∀ j v,vs[j]? =some v->H b (o+j)=some v)/\nA H b z (o+z) rs
end
mutual
theorem qO.mono {H H':(PH Lw)} (h:PH.le H H'):∀{p:PV} {v:Value},qO H p v->qO H' p v
 | .bool _,_,x|.int ..,_,x|.str _,_,x|.nilsl,_,x|.nilp,_,x|.fn _,_,x|.nilfn,_,x|.nili,_,x|.nilmap,_,x=>by
  simp only[qO]at *; exact x
 | .agg cs,v,x=>by
  simp only[qO]at *;obtain⟨vs,e,r⟩:=x;exact⟨vs,e,zC.mono h r⟩
 | .tup cs,v,x=>by
  simp only[qO]at *;obtain⟨vs,e,r⟩:=x;exact⟨vs,e,zC.mono h r⟩
 | .sl rows,v,x=>by
  simp only[qO]at *;rcases x with x|⟨b,o,z,cap,e,l,r⟩
  ·exact .inl x
  exact .inr ⟨b,o,z,cap,e,l,nA.mono h r⟩
 | .ifc t p,v,x=>by
  simp only[qO]at *;obtain⟨u,e,r⟩:=x;exact⟨u,e,qO.mono h r⟩
 | .hp row,v,x=>by
  simp only[qO]at *;obtain⟨b,o,vs,e,r,c⟩:=x;exact⟨b,o,vs,e,zC.mono h r,fun j u hu=>h _ _ _ (c j u hu)⟩
 | .clo f cs,v,x=>by
  simp only[qO]at *;obtain⟨vs,e,r⟩:=x;exact⟨vs,e,zC.mono h r⟩
 | .bfn f cs,v,x=>by
  simp only[qO]at *;obtain⟨vs,e,r⟩:=x;exact⟨vs,e,zC.mono h r⟩
 | .ifo n t p,v,x=>by
  simp only[qO]at *;rcases x with x|⟨e,u,e',r⟩
  ·exact .inl x
  exact .inr ⟨e,u,e',qO.mono h r⟩
 | .nsl rows,v,x=>by
  simp only[qO]at *;rcases x with x|⟨b,o,z,cap,e,l,hb,r⟩
  ·exact .inl x
  exact .inr ⟨b,o,z,cap,e,l,hb,nA.mono h r⟩
theorem zC.mono {H H':(PH Lw)} (h:PH.le H H'):∀{cs:List PV} {vs:List Value},zC H cs vs->zC H' cs vs
 | [],_,x=>by simp only[zC]at *; exact x
 | c::cs,vs,x=>by
  simp only[zC]at *;obtain⟨v,vs',e,r,rs⟩:=x;exact⟨v,vs',e,qO.mono h r,zC.mono h rs⟩
theorem nA.mono {H H':(PH Lw)} (h:PH.le H H') {b z:Nat}:∀{o:Nat} {rows:List (List PV)},nA H b z o rows->nA H' b z o rows
 | _,[],_=>by simp only[nA]
 | o,r::rs,x=>by
  simp only[nA]at *;obtain⟨e,⟨vs,q,c⟩,x'⟩:=x;exact⟨e,⟨vs,zC.mono h q,fun j v hv=>h _ _ _ (c j v hv)⟩,nA.mono h x'⟩
end
theorem zC.length {H:(PH Lw)}:∀{cs:List PV} {vs:List Value},zC H cs vs->vs.length=cs.length
 | [],vs,x=>by simp only[zC]at x; simp[x]
 | c::cs,vs,x=>by
  simp only[zC]at x;obtain⟨v,a,e,_,rs⟩:=x;simp[e,zC.length rs]
theorem zC.get {H:(PH Lw)}:∀{cs:List PV} {vs:List Value} {i:Nat} {c:PV},zC H cs vs->cs[i]? =some c->∃ v,vs[i]? =some v/\qO H c v
 | [],_,_,_,_,h=>by simp at h
 | c::cs,vs,i,c',x,h=>by
  simp only[zC]at x;obtain⟨v,a,e,r,rs⟩:=x;subst e;cases i with
  | zero=>simp at h; subst h; exact⟨v,by simp,r⟩
  | succ i=>simp at h; obtain⟨u,hu,b⟩:=rs.get h; exact⟨u,by simpa using hu,b⟩
theorem zC.drop {H:(PH Lw)}:∀{cs:List PV} {vs:List Value} (n:Nat),zC H cs vs->zC H (cs.drop n) (vs.drop n)
 | _,_,0,x=>by simpa using x
 | [],vs,n+1,x=>by simp only[zC]at x; simp[x,zC]
 | c::cs,vs,n+1,x=>by
  simp only[zC]at x;obtain⟨v,a,e,r,rs⟩:=x;subst e;simpa using rs.drop n
theorem zC.take {H:(PH Lw)}:∀{cs:List PV} {vs:List Value} (n:Nat),zC H cs vs->zC H (cs.take n) (vs.take n)
 | _,_,0,x=>by simp[zC]
 | [],vs,n+1,x=>by simp only[zC]at x; simp[x,zC]
 | c::cs,vs,n+1,x=>by
  simp only[zC]at x;obtain⟨v,a,e,r,rs⟩:=x;subst e;simp only[List.take_succ_cons,zC];exact⟨v,_,rfl,r,rs.take n⟩
theorem zC.append {H:(PH Lw)}:∀{cs ds:List PV} {vs us:List Value},zC H cs vs->zC H ds us->zC H (cs++ds) (vs++us)
 | [],_,vs,_,x,y=>by simp only[zC]at x; simpa[x]using y
 | c::cs,ds,vs,us,x,y=>by
  simp only[zC]at x;obtain⟨v,a,e,r,rs⟩:=x;subst e;simp only[List.cons_append,zC];exact⟨v,_,rfl,r,rs.append y⟩
theorem nA.get {H:(PH Lw)} {b z:Nat}:∀{o:Nat} {rows:List (List PV)} {i:Nat} {r:List PV},nA H b z o rows->rows[i]? =some r ->
  r.length=z/\∃ vs,zC H r vs/\∀ j v,vs[j]? =some v->H b (o+i * z+j)=some v
 | _,[],_,_,_,h=>by simp at h
 | o,q::rs,i,r,x,h=>by
  simp only[nA]at x;obtain⟨e,c,a⟩:=x;cases i with
  | zero=>simp at h; subst h; simpa using⟨e,c⟩
  | succ i=>
   simp at h;have:=a.get h;have e2:o+z+i * z=o+(i+1) * z:=by rw[Nat.add_mul]; omega
   rwa [e2]at this
theorem nA.drop {H:(PH Lw)} {b z:Nat}:∀{o:Nat} {rows:List (List PV)} (i:Nat),nA H b z o rows->nA H b z (o+i * z) (rows.drop i)
 | _,_,0,x=>by simpa using x
 | _,[],_+1,_=>by simp[nA]
 | o,q::rs,i+1,x=>by
  simp only[nA]at x;have:=x.2.2.drop i;have e2:o+z+i * z=o+(i+1) * z:=by rw[Nat.add_mul]; omega
  rw[e2]at this;simpa using this
theorem nA.take {H:(PH Lw)} {b z:Nat}:∀{o:Nat} {rows:List (List PV)} (i:Nat),nA H b z o rows->nA H b z o (rows.take i)
 | _,_,0,_=>by simp[nA]
 | _,[],_+1,_=>by simp[nA]
 | o,q::rs,i+1,x=>by
  simp only[nA,List.take_succ_cons]at x ⊢;exact⟨x.1,x.2.1,x.2.2.take i⟩
mutual
def nle:PV->PV->Prop
 | .nilsl,.sl rows=>rows=[]
 | .nilsl,.nsl rows=>rows=[]
 | .agg a,.agg b=>EG a b
 | .tup a,.tup b=>EG a b
 | .hp a,.hp b=>EG a b
 | .clo f a,.clo g b=>f=g/\EG a b
 | .fn f,.clo g b=>f=g/\b=[]
 | .nili,.ifo n _ _=>n=true
 | .ifc t p,.ifo n t' q=>n=false/\t=t'/\nle p q
 | .nsl a,.sl b=>a=b
 | a,b=>a=b
def EG:List PV->List PV->Prop
 | [],[]=>True
 | a::l,b::m=>nle a b/\EG l m
 | _,_=>False
end
mutual
theorem Ge {H:(PH Lw)}:∀{p q:PV} {v:Value},nle p q->qO H p v->qO H q v
 | .nilsl,q,v,h,r=>by
  cases q<;>simp only[nle]at h<;>first|(subst h; simp only[qO]at *; exact .inl ⟨trivial,.inl r⟩)|exact r|cases h
 | .agg a,q,v,h,r=>by
  cases q<;>simp only[nle]at h<;>try cases h
  simp only[qO]at *;obtain⟨vs,e,rr⟩:=r;exact⟨vs,e,tE h rr⟩
 | .tup a,q,v,h,r=>by
  cases q<;>simp only[nle]at h<;>try cases h
  simp only[qO]at *;obtain⟨vs,e,rr⟩:=r;exact⟨vs,e,tE h rr⟩
 | .hp a,q,v,h,r=>by
  cases q with
  | hp b'=>
   simp only[nle]at h;simp only[qO]at *;obtain⟨b,o,vs,e,rr,c⟩:=r;exact⟨b,o,vs,e,tE h rr,c⟩
  | _=>simp only[nle]at h; cases h
 | .clo f a,q,v,h,r=>by
  cases q with
  | clo g b=>
   simp only[nle]at h;obtain⟨rfl,h⟩:=h;simp only[qO]at *;obtain⟨vs,e,rr⟩:=r;exact⟨vs,e,tE h rr⟩
  | _=>simp only[nle]at h; cases h
 | .fn f,q,v,h,r=>by
  cases q with
  | clo g b=>
   simp only[nle]at h;obtain⟨rfl,rfl⟩:=h;simp only[qO]at *;exact⟨[],r,by simp only[zC]⟩
  | fn g=>simp only[nle]at h; cases h; exact r
  | _=>simp only[nle]at h; cases h
 | .bool _,q,v,h,r|.int ..,q,v,h,r|.str _,q,v,h,r|.sl _,q,v,h,r|.nilp,q,v,h,r|.nilfn,q,v,h,r|.nilmap,q,v,h,r|.bfn ..,q,v,h,r|.ifo ..,q,v,h,r=>by
  cases q<;>simp only[nle]at h<;>cases h<;>exact r
 | .nili,q,v,h,r=>by
  cases q with
  | ifo n t q=>
   simp only[nle]at h;simp only[qO]at *;exact .inl ⟨h,r⟩
  | nili=>exact r
  | _=>simp only[nle]at h; cases h
 | .ifc t p,q,v,h,r=>by
  cases q with
  | ifo n t' q=>
   simp only[nle]at h;obtain⟨h1,rfl,h3⟩:=h;simp only[qO]at *;obtain⟨u,e,ru⟩:=r;exact .inr ⟨h1,u,e,Ge h3 ru⟩
  | ifc t' q=>simp only[nle]at h; cases h; exact r
  | _=>simp only[nle]at h; cases h
 | .nsl a,q,v,h,r=>by
  cases q with
  | sl b=>
   simp only[nle]at h;subst h;simp only[qO]at *;rcases r with x|⟨b,o,z,cap,e,l,_,r⟩
   ·exact .inl x
   exact .inr ⟨b,o,z,cap,e,l,r⟩
  | nsl b=>simp only[nle]at h; cases h; exact r
  | _=>simp only[nle]at h; cases h
theorem tE {H:(PH Lw)}:∀{p q:List PV} {v:List Value},EG p q->zC H p v->zC H q v
 | [],[],_,_,r=>r
 | [],_::_,_,h,_=>by simp[EG]at h
 | _::_,[],_,h,_=>by simp[EG]at h
 | a::l,b::m,vs,h,r=>by
  simp only[EG]at h;simp only[zC]at *;obtain⟨v,vs',e,r1,r2⟩:=r;exact⟨v,vs',e,Ge h.1 r1,tE h.2 r2⟩
end
def Vw:List (List PV)->List (List PV)->Prop
 | [],[]=>True
 | a::l,b::m=>EG a b/\Vw l m
 | _,_=>False
theorem Vv:∀{p q:List PV},EG p q->p.length=q.length
 | [],[],_=>rfl
 | [],_::_,h=>by simp[EG]at h
 | _::_,[],h=>by simp[EG]at h
 | a::l,b::m,h=>by simp only[EG]at h; simp[Vv h.2]
theorem Vx:∀{p q:List (List PV)},Vw p q->p.length=q.length
 | [],[],_=>rfl
 | [],_::_,h=>by simp[Vw]at h
 | _::_,[],h=>by simp[Vw]at h
 | a::l,b::m,h=>by simp only[Vw]at h; simp[Vx h.2]
theorem NG {H:(PH Lw)} {b z:Nat}:∀{o:Nat} {p q:List (List PV)},Vw p q->nA H b z o p->nA H b z o q
 | _,[],[],_,_=>by simp only[nA]
 | _,[],_::_,h,_=>by simp[Vw]at h
 | _,_::_,[],h,_=>by simp[Vw]at h
 | o,r::rs,s::ss,h,x=>by
  simp only[Vw]at h;simp only[nA]at *;obtain⟨e,⟨vs,q,c⟩,a⟩:=x;exact⟨by rw[← e,Vv h.1],⟨vs,tE h.1 q,c⟩,NG h.2 a⟩
theorem qfu {H:(PH Lw)} {p q:List (List PV)} {v:Value} (h:p=q\/Vw p q) (r:qO H (.sl p) v):qO H (.sl q) v:=by
 rcases h with rfl|h
 ·exact r
 simp only[qO]at *;rcases r with ⟨rfl,r⟩|⟨b,o,z,cap,e,l,r⟩
 ·cases q with
  | nil=>exact .inl ⟨rfl,r⟩
  | cons _ _=>simp[Vw]at h
 ·have e2:=Vx h
  exact .inr ⟨b,o,z,cap,by rw[← e2]; exact e,by rw[← e2]; exact l,NG h r⟩
def qY (ρ:List Value) (H:(PH Lw)):FV->Value->Prop
 | .top,_=>True
 | .p p,x=>qO H p x
 | .opt g v,x=>if g=true then qY ρ H v x else x=undef
 | .tsl k rows,x=>ρ[k]? =some x/\qO H (.sl rows) x
 | .ptr k off,x=>∃ b,ρ[k]? =some (.pointer (some ⟨b,0,none⟩))/\x=.pointer (some ⟨b,off,none⟩)
 | .hptr row,x=>∃ b o vs,x=.pointer (some ⟨b,o,none⟩)/\zC H row vs/\∀ j v,vs[j]? =some v->H b (o+j)=some v
 | .bself k,x=>∃ b,ρ[k]? =some (.pointer (some ⟨b,0,none⟩))/\(x=.pointer none\/x=.pointer (some ⟨b,0,none⟩))
 | .bsl k off len cap,x=>∃ b,ρ[k]? =some (.pointer (some ⟨b,0,none⟩))/\∃ c,x=.slice (some ⟨b,off,none⟩) len c/\(cap=0\/c=cap)
 | .vsl k n,x=>ρ[k]? =some x/\((n=0/\x=.slice none 0 0)\/∃ b cap,x=.slice (some ⟨b,0,none⟩) n cap)
 | .eptr k z i off,x=>∃ b n cap,ρ[k]? =some (.slice (some ⟨b,0,none⟩) n cap)/\x=.pointer (some ⟨b,i * z+off,none⟩)
 | .mref k,x=>∃ b,ρ[k]? =some (.map (some b))/\x=.map (some b)
 | .pair a b,x=>∃ u v,x=.tuple #[u,v]/\qY ρ H a u/\qY ρ H b v
 | .stmp k,x=>ρ[k]? =some x
 | .clo f c,x=>∃ vs:List Value,x=.func (.func f) #[] vs.toArray/\qY ρ H c (.tuple vs.toArray)
 | .cap0,x=>x=.tuple #[]
 | .cap a b,x=>∃(u:Value) (vs:List Value),x=.tuple (u::vs).toArray/\qY ρ H a u/\qY ρ H b (.tuple vs.toArray)
 | .fagg c,x=>∃ vs:List Value,x=.agg vs.toArray/\qY ρ H c (.tuple vs.toArray)
 | .nxt ok a b,x=>if ok=true then ∃ u v,x=.tuple #[.bool true,u,v]/\qO H a u/\qO H b v else x=.tuple #[.bool false]
 | .asl k off n,x=>∃ b e d c,ρ[k]? =some (.slice (some ⟨b,0,none⟩) e d)/\x=.slice (some ⟨b,off,none⟩) n c
 | .ifs t c,x=>∃ u,x=.iface t u/\qY ρ H c u
 | .cut rows,x=>qO H (.sl rows) x/\∃ p n,x=.slice p n n
theorem qY.mono {ρ ρ':List Value} {H H':(PH Lw)} (d:ρ <+: ρ') (h:PH.le H H'):∀{f:FV} {x:Value},qY ρ H f x->qY ρ' H' f x
 | .top,_,_=>trivial
 | .p p,x,r=>qO.mono h (p:=p) r
 | .opt g v,x,r=>by
  simp only[qY]at *;split
  ·rename_i B; simp only[B,if_true]at r; exact qY.mono d h r
  rename_i B; simpa[B]using r
 | .tsl k rows,x,r=>by
  obtain⟨l,rfl⟩:=d;refine⟨?_,qO.mono h r.2⟩;rw[jB (jG.1 r.1).1]; exact r.1
 | .ptr k off,x,r=>by
  obtain⟨l,rfl⟩:=d;obtain⟨b,e,m⟩:=r;refine⟨b,?_,m⟩;rw[jB (jG.1 e).1]; exact e
 | .hptr row,x,r=>by
  obtain⟨b,o,vs,e,q,c⟩:=r;exact⟨b,o,vs,e,zC.mono h q,fun j v C=>h _ _ _ (c j v C)⟩
 | .bself k,x,r=>by
  obtain⟨l,rfl⟩:=d;obtain⟨b,e,m⟩:=r;refine⟨b,?_,m⟩;rw[jB (jG.1 e).1]; exact e
 | .bsl k off len cap,x,r=>by
  obtain⟨l,rfl⟩:=d;obtain⟨b,e,m⟩:=r;refine⟨b,?_,m⟩;rw[jB (jG.1 e).1]; exact e
 | .vsl k n,x,r=>by
  obtain⟨l,rfl⟩:=d;refine⟨?_,r.2⟩;rw[jB (jG.1 r.1).1]; exact r.1
 | .eptr k z i off,x,r=>by
  obtain⟨l,rfl⟩:=d;obtain⟨b,n,cap,e,m⟩:=r;refine⟨b,n,cap,?_,m⟩;rw[jB (jG.1 e).1]; exact e
 | .mref k,x,r=>by
  obtain⟨l,rfl⟩:=d;obtain⟨b,e,m⟩:=r;refine⟨b,?_,m⟩;rw[jB (jG.1 e).1]; exact e
 | .pair a b,x,r=>by
  obtain⟨u,v,e,w,y⟩:=r;exact⟨u,v,e,w.mono d h,y.mono d h⟩
 | .stmp k,x,r=>by
  obtain⟨l,rfl⟩:=d;simp only[qY]at *;rw[jB (jG.1 r).1]; exact r
 | .clo f c,x,r=>by
  obtain⟨vs,e,rc⟩:=r;exact⟨vs,e,rc.mono d h⟩
 | .cap0,x,r=>r
 | .cap a b,x,r=>by
  obtain⟨u,vs,e,w,y⟩:=r;exact⟨u,vs,e,w.mono d h,y.mono d h⟩
 | .fagg c,x,r=>by
  obtain⟨vs,e,rc⟩:=r;exact⟨vs,e,rc.mono d h⟩
 | .nxt ok a b,x,r=>by
  simp only[qY]at *;split
  ·rename_i s
   simp only[s,if_true]at r;obtain⟨u,v,e,w,y⟩:=r;exact⟨u,v,e,w.mono h,y.mono h⟩
  rename_i s; simpa[s]using r
 | .asl k off n,x,r=>by
  obtain⟨l,rfl⟩:=d;obtain⟨b,D,A,c,e,m⟩:=r;refine⟨b,D,A,c,?_,m⟩;rw[jB (jG.1 e).1]; exact e
 | .ifs t c,x,r=>by
  obtain⟨u,e,rc⟩:=r;exact⟨u,e,rc.mono d h⟩
 | .cut rows,x,r=>⟨qO.mono h r.1,r.2⟩
def xa (ρ:List Value) (H:(PH Lw)):List FV->List Value->Prop
 | [],vs=>vs=[]
 | c::cs,vs=>∃ v a,vs=v::a/\qY ρ H c v/\xa ρ H cs a
theorem xa.mono {ρ ρ':List Value} {H H':(PH Lw)} (b:ρ <+: ρ') (h:PH.le H H'):∀{cs:List FV} {vs:List Value},xa ρ H cs vs->xa ρ' H' cs vs
 | [],_,x=>x
 | c::cs,vs,x=>by
  obtain⟨v,a,e,r,rs⟩:=x;exact⟨v,a,e,r.mono b h,rs.mono b h⟩
theorem xa.length {ρ:List Value} {H:(PH Lw)}:∀{cs:List FV} {vs:List Value},xa ρ H cs vs->vs.length=cs.length
 | [],vs,x=>by simp only[xa]at x; simp[x]
 | c::cs,vs,x=>by
  obtain⟨v,a,e,_,rs⟩:=x;simp[e,xa.length rs]
theorem xa.drop {ρ:List Value} {H:(PH Lw)}:∀{cs:List FV} {vs:List Value} (n:Nat),xa ρ H cs vs->xa ρ H (cs.drop n) (vs.drop n)
 | _,_,0,x=>by simpa using x
 | [],vs,n+1,x=>by simp only[xa]at x; simp[x,xa]
 | c::cs,vs,n+1,x=>by
  obtain⟨v,a,e,r,rs⟩:=x;subst e;simpa using rs.drop n
theorem xa.take {ρ:List Value} {H:(PH Lw)}:∀{cs:List FV} {vs:List Value} (n:Nat),xa ρ H cs vs->xa ρ H (cs.take n) (vs.take n)
 | _,_,0,x=>by simp[xa]
 | [],vs,n+1,x=>by simp only[xa]at x; simp[x,xa]
 | c::cs,vs,n+1,x=>by
  obtain⟨v,a,e,r,rs⟩:=x;subst e;simp only[List.take_succ_cons,xa];exact⟨v,_,rfl,r,rs.take n⟩
theorem xa.of_RepL {ρ:List Value} {H:(PH Lw)}:∀{cs:List PV} {vs:List Value},zC H cs vs->xa ρ H (cs.map .p) vs
 | [],_,x=>by simp only[zC]at x; simpa[xa]using x
 | c::cs,vs,x=>by
  simp only[zC]at x;obtain⟨v,a,e,r,rs⟩:=x;exact⟨v,a,e,r,xa.of_RepL rs⟩
def ML (H:(PH Lw)):Prop:=∃ m,H 0 0=some (.int .i64 m)
def mN (w:World) (b o:Nat) (v:Value):Prop:=(∃ m,v=.int .u8 m)\/w.frozen? ⟨b,o,none⟩=false
theorem mN.block {w w':World} {b o:Nat} {v:Value} (h:mN w b o v) (e:w'.heap[b]? =w.heap[b]?):mN w' b o v:=by
 unfold mN World.frozen? at *;rw[e]; exact h
theorem mN.of {w:World} {b o:Nat} {v:Value} {c:Array Value} {e:TypeId} (h:w.heap[b]? =some (.cells c e (0,0))):mN w b o v:=by
 refine .inr ?_;unfold World.frozen?;rw[h]; simp
structure SatH (H:(PH Lw)) (w:World):Prop where
 cell:∀ b o v,H b o=some v->w.cell? ⟨b,o,none⟩=some v/\v.oneCell'=true
 root:ML H
 low:Lw<=w.heap.size
 nf:∀ b o v,H b o=some v->Lw<=b->mN w b o v
instance {H:(PH Lw)} {w:World}:CoeFun (SatH H w) (fun _=>∀ b o v,H b o=some v->w.cell? ⟨b,o,none⟩=some v/\v.oneCell'=true):=⟨SatH.cell⟩
theorem ML.mono {H H':(PH Lw)} (h:ML H) (a:∀ b o v,H b o=some v->H' b o=some v):ML H':=let ⟨m,hm⟩:=h; ⟨m,a _ _ _ hm⟩
structure Keep (S:Nat->Prop) (w0 w:World):Prop where
 os:w.os=w0.os
 tape:w.tape=w0.tape
 output:w.output=w0.output
 size:w0.heap.size<=w.heap.size
 block:∀ k,k<w0.heap.size->¬ S k->w.heap[k]? =w0.heap[k]?
theorem Keep.refl (S:Nat->Prop) (w:World):Keep S w w:=⟨rfl,rfl,rfl,jw _,fun _ _ _=>rfl⟩
theorem Keep.trans {S:Nat->Prop} {a b c:World} (h:Keep S a b) (k:Keep S b c):Keep S a c:=
 ⟨k.os.trans h.os,k.tape.trans h.tape,k.output.trans h.output,Nat.le_trans h.size k.size,
  fun i d e=>(k.block i (Nat.lt_of_lt_of_le d h.size) e).trans (h.block i d e)⟩
theorem Keep.step {S S':Nat->Prop} {a b c:World} (h:Keep S a b) (k:Keep S' b c) (f:∀ i,S' i->S i\/a.heap.size<=i):Keep S a c:=
 ⟨k.os.trans h.os,k.tape.trans h.tape,k.output.trans h.output,Nat.le_trans h.size k.size,
  fun i d e=>(k.block i (Nat.lt_of_lt_of_le d h.size) (fun x=>(f i x).elim e (by omega))).trans (h.block i d e)⟩
abbrev oy:Nat->Prop:=fun _=>False
structure Base (Lw:Nat) where
 S:Nat->Prop
 w0:World
 H0:(PH Lw)
 r0:List Value
def qR:Value->Option Nat
 | .pointer (some a)=>some a.block
 | .slice (some a) _ _=>some a.block
 | .map r=>r
 | _=>none
def gk (H:(PH Lw)) (z:Nat):List (List PV)->List Value->Prop
 | [],vs=>vs=[]
 | r::rs,vs=>r.length=z/\∃ a b,vs=a++b/\zC H r a/\gk H z rs b
theorem gk.mono {H H':(PH Lw)} (h:PH.le H H') {z:Nat}:∀{rows:List (List PV)} {vs:List Value},gk H z rows vs->gk H' z rows vs
 | [],_,x=>x
 | r::rs,vs,x=>by
  obtain⟨hz,a,b,e,q,y⟩:=x;exact⟨hz,a,b,e,zC.mono h q,y.mono h⟩
def DP (H:(PH Lw)):List (PV×PV)->List MapEntry->Prop
 | [],l=>l=[]
 | (k,p)::es,l=>∃ e l',l=e::l'/\qO H k e.key/\qO H p e.val/\DP H es l'
theorem DP.mono {H H':(PH Lw)} (h:PH.le H H'):∀{es:List (PV×PV)} {l:List MapEntry},DP H es l->DP H' es l
 | [],_,x=>x
 | (k,p)::es,l,x=>by
  obtain⟨e,l',e1,a,b,c⟩:=x;exact⟨e,l',e1,qO.mono h a,qO.mono h b,c.mono h⟩
def MK (ρ:List Value) (H:(PH Lw)) (ents:Array MapEntry) (mk:Option (PV×Nat)):Prop:=
 ∀ key s,mk=some (key,s)->∃(j:Nat) (e:MapEntry),ents[j]? =some e/\qO H key e.key/\ρ[s]? =some (.int .i64 e.born)
theorem MK.mono {ρ ρ':List Value} {H H':(PH Lw)} {ents:Array MapEntry} {mk:Option (PV×Nat)} (b:ρ <+: ρ') (h:PH.le H H') (m:MK ρ H ents mk):MK ρ' H' ents mk:=fun key s e=>by
 obtain⟨j,x,c,d,a⟩:=m key s e;obtain⟨l,rfl⟩:=b;exact⟨j,x,c,qO.mono h d,by rw[jB (jG.1 a).1]; exact a⟩
def Zp (ρ:List Value) (H:(PH Lw)) (w:World) (v:Value):AObj->Prop
 | .dead=>True
 | .box t cells=>∃ b vs,v=.pointer (some ⟨b,0,none⟩)/\w.heap[b]? =some (.cells vs.toArray t (0,0))/\xa ρ H cells vs/\∀ o,H b o=none
 | .tail e z n=>∃ xs,w.ownsRow 0 e z v n xs/\∀ b,qR v=some b->(∀ j u,xs[j]? =some u->H b j=some u)/\∀ o,n * z<=o->H b o=none
 | .vec e z rows=>∃ xs,w.ownsRow 0 e z v rows.length xs/\gk H z rows xs/\(∀ u∈xs,u.oneCell'=true)/\∀ b,qR v=some b->∀ o,H b o=none
 | .mp d es mk=>∃ b ents clock,v=.map (some b)/\w.heap[b]? =some (.map ents clock)/\DP H es ents.toList/\(MapKept.Stamped ents clock/\(∀ x∈ents.toList,MapKept.IsKey d x.key)/\MK ρ H ents mk)/\∀ o,H b o=none
 | .sit l pos=>∃ b,v=.pointer (some ⟨b,0,none⟩)/\w.heap[b]? =some (.stringIter ⟨l.toArray⟩ pos)/\∀ o,H b o=none
 | .bv l=>∃ b cs e cap lo a,v=.slice (some ⟨b,0,none⟩) l.length cap/\w.heap[b]? =some (.cells cs e (lo,a))/\(l.length<=lo\/a<=lo)/\(∀(j:Nat) (c:UInt8),l[j]? =some c->cs[j]? =some (.int .u8 c.toNat))/\∀ o,H b o=none
 | .vl e z rows j k=>∃ xs,w.ownsRow 0 e z v rows.length xs/\gk H z rows xs/\(∀ u∈xs,u.oneCell'=true)/\(∀ b,qR v=some b->∀ o,H b o=none)/\∀ u,xs[(rows.length - 1) * z+j]? =some u->ρ[k]? =some u
 | .pbx t c=>∃ b u us,v=.pointer (some ⟨b,0,none⟩)/\w.heap[b]? =some (.cells (u::us).toArray t (0,0))/\qY ρ H c u/\∀ o,H b o=none
structure SatW (bs:(Base Lw)) (ρ:List Value) (H:(PH Lw)) (lo:List AObj) (w:World):Prop where
 sath:SatH H w
 hlen:ρ.length=lo.length
 pre:bs.r0 <+: ρ
 objs:∀(k:Nat) (o:AObj) (v:Value),lo[k]? =some o->ρ[k]? =some v->Zp ρ H w v o
 excl:∀(k k':Nat) (o o':AObj) (v v':Value) (b:Nat),lo[k]? =some o->lo[k']? =some o'->ρ[k]? =some v->ρ[k']? =some v'->k≠k' ->
  o.live=true->o'.live=true->qR v=some b->qR v'≠some b
 own:∀(k:Nat) (o:AObj) (v:Value) (b:Nat),lo[k]? =some o->ρ[k]? =some v->o.live=true->qR v=some b->bs.S b\/bs.w0.heap.size<=b
 keep:Keep bs.S bs.w0 w
 leH:PH.le bs.H0 H
 newH:∀ b o v,H b o=some v->(∃ v,bs.H0 b o=some v)\/bs.S b\/bs.w0.heap.size<=b
structure Sat (bs:(Base Lw)) (N:Nat) (ρ:List Value) (H:(PH Lw)) (e:Nat->FV) (lo:List AObj) (a:Act) (w:World):Prop extends SatW bs ρ H lo w where
 slots:∀ t,qY ρ H (e t) (a.tmps.getD t undef)
 width:a.tmps.size=N
 defers:a.defers=[]
structure Calm (H:(PH Lw)) (w:World) (H':(PH Lw)) (w':World):Prop where
 le:PH.le H H'
 sat:SatH H' w'
 keep:Keep oy w w'
 new:∀ b o v,H' b o=some v->(∃ v,H b o=some v)\/w.heap.size<=b
theorem Calm.refl {H:(PH Lw)} {w:World} (h:SatH H w):Calm H w H w:=⟨PH.le.refl H,h,Keep.refl _ w,fun _ _ v h=>.inl ⟨v,h⟩⟩
theorem Calm.trans {H H' a:(PH Lw)} {w w' c:World} (h:Calm H w H' w') (k:Calm H' w' a c):Calm H w a c:=
 ⟨h.le.trans k.le,k.sat,h.keep.trans k.keep,fun b o v e=>by
  rcases k.new b o v e with ⟨v',d⟩|f
  ·exact h.new b o v' d
  exact .inr (Nat.le_trans h.keep.size f)⟩
theorem SatH.block {H:(PH Lw)} {w w':World} (h:SatH H w) (c:w.heap.size<=w'.heap.size) (e:∀ b o v,H b o=some v->w'.heap[b]? =w.heap[b]?):SatH H w':=⟨fun b o v d=>by
 rw[World.cell?_of_block (w:=w) (a:=⟨b,o,none⟩) (e b o v d)]; exact h.cell b o v d,h.root,Nat.le_trans h.low c,fun b o v d f=>(h.nf b o v d f).block (e b o v d)⟩
theorem SatH.lt {H:(PH Lw)} {w:World} (h:SatH H w) {b o:Nat} {v:Value} (a:H b o=some v):b<w.heap.size:=
 World.block_lt_of_cell? w ⟨b,o,none⟩ (h.cell b o v a).1
theorem mN.own {w:World} {e:TypeId} {z n:Nat} {v:Value} {xs:List Value} (h:w.ownsRow 0 e z v n xs) {b o:Nat} {u:Value} (a:qR v=some b):mN w b o u:=by
 rcases h.2 with ⟨rfl,_⟩|⟨g,cap,cur,rfl,_,c,_⟩
 ·simp[qR]at a
 simp only[qR,Option.some.injEq]at a;subst a;exact .of c
theorem xn {w:World} {b:Nat} {o:Obj} (h:w.heap[b]? =some o):b<w.heap.size:=(jH.1 h).1
theorem QV {w w':World} {e:TypeId} {z n:Nat} {v:Value} {xs:List Value} (h:w.ownsRow 0 e z v n xs)
  (d:∀ b,qR v=some b->b<w.heap.size->w'.heap[b]? =w.heap[b]?):w'.ownsRow 0 e z v n xs:=by
 refine⟨h.1,?_⟩;rcases h.2 with h2|⟨g,cap,cur,a,f,c,r⟩
 ·exact .inl h2
 refine .inr ⟨g,cap,cur,a,f,?_,r⟩;rw[d g (by simp[a,qR]) (xn c)]; exact c
theorem Zp.keep {ρ ρ':List Value} {H H':(PH Lw)} {w w':World} {v:Value} {o:AObj} (h:Zp ρ H w v o) (y:ρ <+: ρ') (x:PH.le H H')
  (q:∀ b,qR v=some b->b<w.heap.size->w'.heap[b]? =w.heap[b]?) (r:∀ b o',qR v=some b->b<w.heap.size->H b o'=none->H' b o'=none) :
  Zp ρ' H' w' v o:=by
 cases o with
 | dead=>trivial
 | box t cells=>
  obtain⟨b,vs,rfl,f,A,m⟩:=h;have a:=xn f;exact⟨b,vs,rfl,by rw[q b (by simp[qR]) a]; exact f,A.mono y x,fun o=>r b o (by simp[qR]) a (m o)⟩
 | tail e z n=>
  obtain⟨xs,s,m⟩:=h;refine⟨xs,QV s q,fun b i=>⟨fun j u hu=>x _ _ _ ((m b i).1 j u hu),fun o B=>?_⟩⟩
  have a:b<w.heap.size:=by
   rcases s.2 with ⟨rfl,_⟩|⟨g,cap,cur,rfl,_,f,_⟩
   ·simp[qR]at i
   simp[qR]at i; subst i; exact xn f
  exact r b o i a ((m b i).2 o B)
 | vec e z rows=>
  obtain⟨xs,s,p,h1,m⟩:=h;refine⟨xs,QV s q,p.mono x,h1,fun b i o=>?_⟩;have a:b<w.heap.size:=by
   rcases s.2 with ⟨rfl,_⟩|⟨g,cap,cur,rfl,_,f,_⟩
   ·simp[qR]at i
   simp[qR]at i; subst i; exact xn f
  exact r b o i a (m b i o)
 | mp d es mk=>
  obtain⟨b,ents,clock,rfl,f,p,⟨h1,h2,h3⟩,m⟩:=h;have a:=xn f;exact⟨b,ents,clock,rfl,by rw[q b (by simp[qR]) a]; exact f,p.mono x,⟨h1,h2,h3.mono y x⟩,fun o=>r b o (by simp[qR]) a (m o)⟩
 | sit l pos=>
  obtain⟨b,rfl,f,m⟩:=h;have a:=xn f;exact⟨b,rfl,by rw[q b (by simp[qR]) a]; exact f,fun o=>r b o (by simp[qR]) a (m o)⟩
 | bv l=>
  obtain⟨b,cs,e,cap,lo,C,rfl,f,h1,h2,m⟩:=h;have a:=xn f;exact⟨b,cs,e,cap,lo,C,rfl,by rw[q b (by simp[qR]) a]; exact f,h1,h2,fun o=>r b o (by simp[qR]) a (m o)⟩
 | pbx t c=>
  obtain⟨b,u,us,rfl,f,A,m⟩:=h;have a:=xn f;exact⟨b,u,us,rfl,by rw[q b (by simp[qR]) a]; exact f,A.mono y x,fun o=>r b o (by simp[qR]) a (m o)⟩
 | vl e z rows j k=>
  obtain⟨xs,s,p,h1,m,D⟩:=h;refine⟨xs,QV s q,p.mono x,h1,fun b i o=>?_,fun u hu=>?_⟩
  ·have a:b<w.heap.size:=by
    rcases s.2 with ⟨rfl,_⟩|⟨g,cap,cur,rfl,_,f,_⟩
    ·simp[qR]at i
    simp[qR]at i; subst i; exact xn f
   exact r b o i a (m b i o)
  have hu:=D u hu;obtain⟨l,rfl⟩:=y;rw[jB (jG.1 hu).1]; exact hu
theorem SatW.calm {bs:(Base Lw)} {ρ:List Value} {H H':(PH Lw)} {lo:List AObj} {w w':World} (s:SatW bs ρ H lo w) (c:Calm H w H' w'):SatW bs ρ H' lo w' where
 sath:=c.sat
 hlen:=s.hlen
 pre:=s.pre
 objs:=fun k o v g e=>(s.objs k o v g e).keep (jq _) c.le (fun b _ f=>c.keep.block b f id) (fun b o' _ f i=>by
  cases j:H' b o' with
  | none=>rfl
  | some x=>
   rcases c.new b o' x j with ⟨y,d⟩|a
   ·rw[i]at d; cases d
   omega)
 excl:=s.excl
 own:=s.own
 keep:=s.keep.step c.keep (fun _ h=>h.elim)
 leH:=s.leH.trans c.le
 newH:=fun b o v e=>by
  rcases c.new b o v e with ⟨y,d⟩|a
  ·exact s.newH b o y d
  exact .inr (.inr (Nat.le_trans s.keep.size a))
theorem SatW.view {bs:(Base Lw)} {ρ:List Value} {H:(PH Lw)} {lo:List AObj} {w:World} (s:SatW bs ρ H lo w) {k:Nat} {o o':AObj} (y:lo[k]? =some o) (z:o.live=true) (_:o'.live=true) (h:∀ v,ρ[k]? =some v->Zp ρ H w v o->Zp ρ H w v o') :
  SatW bs ρ H (lo.set k o') w:=by
 have old:∀{x:Nat} {c:AObj},(lo.set k o')[x]? =some c->c.live=true->∃ f,lo[x]? =some f/\f.live=true:=by
  intro x c l d;rw[jF]at l;split at l
  ·rename_i e; subst e; exact⟨o,y,z⟩
  exact⟨c,l,d⟩
 refine{ s with hlen:=by simpa using s.hlen,objs:=fun i c v a g=>?_,excl:=fun i j oi oj A B b a C m n p q r t=>?_,own:=fun i c v b a g d t=>?_ }
 ·rw[jF]at a
  split at a
  ·rename_i e
   subst e;split at a
   ·cases a
    exact h v g (s.objs k o v y g)
   cases a
  ·exact s.objs i c v a g
 ·obtain⟨o1,h1,u⟩:=old a q
  obtain⟨o2,h2,D⟩:=old C r;exact s.excl i j o1 o2 A B b h1 h2 m n p u D t
 obtain⟨o1,h1,u⟩:=old a d;exact s.own i o1 v b h1 g u t
theorem qee {ρ:List Value} {H:(PH Lw)} {w:World} {v:Value} {e:TypeId} {z j k:Nat} {rows:List (List PV)} (h:Zp ρ H w v (.vl e z rows j k)):Zp ρ H w v (.vec e z rows):=
 let ⟨xs,h1,h2,h3,h4,_⟩:=h
 ⟨xs,h1,h2,h3,h4⟩
end Ax
end
section
namespace Ax
open Go
variable {Lw:Nat}
abbrev Env:=List (Nat×FV)
def qW:Env->Nat->FV
 | [],_=>.top
 | (t',v)::E,t=>match Nat.beq t t' with|true=>v|false=>qW E t
def ef:Env->Nat->(FV->Prop)->Prop
 | [],_,R=>R .top
 | (t',v)::E,t,R=>match Nat.beq t t' with|true=>R v|false=>ef E t R
def oG (v:PV) (R:PV->Prop):Prop:=
 match v with
 | .bool b=>R (.bool b)|.int k n=>R (.int k n)|.str l=>R (.str l)
 | .agg cs=>R (.agg cs)|.tup vs=>R (.tup vs)|.nilsl=>R .nilsl|.sl rows=>R (.sl rows)
 | .nilp=>R .nilp|.fn f=>R (.fn f)|.nilfn=>R .nilfn|.nili=>R .nili|.ifc t v=>R (.ifc t v)|.nilmap=>R .nilmap|.hp row=>R (.hp row)|.clo f cs=>R (.clo f cs)|.bfn f cs=>R (.bfn f cs)|.ifo n t v=>R (.ifo n t v)|.nsl rows=>R (.nsl rows)
def BX (v:FV) (R:FV->Prop):Prop:=
 match v with
 | .top=>R .top
 | .p v=>oG v fun v=>R (.p v)
 | .opt g v=>R (.opt g v)
 | .tsl k rows=>R (.tsl k rows)
 | .ptr k off=>R (.ptr k off)
 | .hptr row=>R (.hptr row)
 | .bself k=>R (.bself k)
 | .bsl k off len cap=>R (.bsl k off len cap)
 | .vsl k n=>R (.vsl k n)
 | .eptr k z i off=>R (.eptr k z i off)
 | .mref k=>R (.mref k)
 | .pair a b=>R (.pair a b)
 | .stmp k=>R (.stmp k)
 | .clo f c=>R (.clo f c)
 | .cap0=>R .cap0
 | .cap a b=>R (.cap a b)
 | .fagg c=>R (.fagg c)
 | .nxt ok a b=>R (.nxt ok a b)
 | .asl k off n=>R (.asl k off n)
 | .ifs t c=>R (.ifs t c)
 | .cut rows=>R (.cut rows)
theorem SY (v:PV) (R:PV->Prop):oG v R=R v:=by cases v<;>rfl
theorem Xc (v:FV) (R:FV->Prop):BX v R=R v:=by cases v<;>first|rfl|exact SY _ (fun v=>R (.p v))
def qcq:Value->Option PV
 | .bool b=>some (.bool b)
 | .int k n=>some (.int k n)
 | .string ⟨⟨l⟩⟩=>some (.str l)
 | .slice none 0 0=>some .nilsl
 | .pointer none=>some .nilp
 | .nilIface=>some .nili
 | .nilFunc=>some .nilfn
 | .map none=>some .nilmap
 | _=>none
def oV:List Value->(List PV->Prop)->Prop
 | [],R=>R []
 | v::vs,R=>match qcq v with|some p=>oV vs fun l=>R (p::l)|none=>False
def qdu:List Value->Option (List PV)
 | []=>some []
 | v::vs=>match qcq v with
  | some p=>(match qdu vs with|some l=>some (p::l)|none=>none)
  | none=>none
def qe0:Value->FV
 | .tuple ⟨[]⟩=>.p (.tup [])
 | .agg ⟨vs⟩=>match qdu vs with|some ps=>.p (.agg ps)|none=>.top
 | v=>match qcq v with|some p=>.p p|none=>.top
def evF (e:Nat->FV):Operand->FV
 | .tmp t=>e t
 | .const v=>qe0 v
 | .func f=>.p (.fn f)
 | .global _=>.top
def ev (E:Env) (x:Operand) (R:FV->Prop):Prop:=
 match x with
 | .tmp t=>ef E t R
 | .const v=>BX (qe0 v) R
 | .func f=>R (.p (.fn f))
 | .global _=>R .top
abbrev G:=Option Bool
def gOn (g:G):Prop:=match g with|none=>True|some b=>b=true
def gI (g:G) (p:Prop):Prop:=match g with|none=>p|some b=>b=true->p
def evS (E:Env) (g:G) (x:Operand) (R:FV->Prop):Prop:=
 ev E x fun v=>match v with
 | .opt g' v'=>gI g (g'=true)/\R v'
 | v=>R v
def qcs:List FV->FV
 | []=>.cap0
 | v::l=>.cap v (qcs l)
def tA:FV->(List FV->Prop)->Prop
 | .cap0,R=>R []
 | .cap a b,R=>tA b fun l=>R (a::l)
 | _,_=>False
def CR {α:Type}:Nat->List α->(List α->Prop)->Prop
 | 0,_,R=>R []
 | n+1,l,R=>match l with|[]=>False|a::l=>CR n l fun l=>R (a::l)
def BF {α:Type}:Nat->List α->(List α->Prop)->Prop
 | 0,l,R=>R l
 | n+1,l,R=>match l with|[]=>False|_::l=>BF n l R
def Zm {α:Type}:Nat->List α->(α->Prop)->Prop
 | 0,l,R=>match l with|[]=>False|a::_=>R a
 | n+1,l,R=>match l with|[]=>False|_::l=>Zm n l R
def GF {α:Type}:Nat->α->List α->(List α->Prop)->Prop
 | 0,x,l,R=>match l with|[]=>False|_::l=>R (x::l)
 | n+1,x,l,R=>match l with|[]=>False|a::l=>GF n x l fun l=>R (a::l)
def VC {α:Type}:List α->α->(List α->Prop)->Prop
 | [],x,R=>R [x]
 | a::l,x,R=>VC l x fun l=>R (a::l)
def Fj {α:Type}:List α->Nat->(Nat->Prop)->Prop
 | [],n,R=>R n
 | _::l,n,R=>Fj l (n+1) R
def Rs (P:Program) (t:TypeId):Nat:=match P.info? t with|some i=>i.size|none=>0
def lS:TypeDesc->Bool
 | .struct _|.array _ _=>true
 | _=>false
def Qt (P:Program) (t:TypeId) (R:Bool->Nat->Prop):Prop:=
 match P.underlying t with
 | some d=>match P.info? t with
  | some i=>R (lS d) i.size
  | none=>False
 | none=>False
def Nj (P:Program) (t:TypeId) (f:Nat) (R:Nat->TypeId->Prop):Prop:=
 match P.underlying t with
 | some (.struct ⟨fs⟩)=>Zm f fs fun x=>match P.info? x.type with
  | some i=>match Nat.beq i.size 0 with|true=>False|false=>R x.offset x.type
  | none=>False
 | _=>False
def qcn (v:FV) (R:PV->Prop):Prop:=
 match v with
 | .p v=>R v
 | .tsl _ rows=>R (.sl rows)
 | .hptr row=>R (.hp row)
 | _=>False
def UU:FV->(List PV->Prop)->Prop
 | .cap0,R=>R []
 | .cap a b,R=>qcn a fun p=>UU b fun l=>R (p::l)
 | _,_=>False
def Nn (v:FV) (R:PV->Prop):Prop:=
 match v with
 | .p v=>R v
 | .tsl _ rows=>R (.sl rows)
 | .hptr row=>R (.hp row)
 | .clo f c=>UU c fun cs=>R (.clo f cs)
 | .fagg c=>UU c fun cs=>R (.agg cs)
 | _=>False
def No:List FV->(List PV->Prop)->Prop
 | [],R=>R []
 | v::l,R=>Nn v fun v=>No l fun l=>R (v::l)
def evL (E:Env) (g:G):List Operand->(List FV->Prop)->Prop
 | [],R=>R []
 | x::l,R=>evS E g x fun v=>evL E g l fun l=>R (v::l)
def te:Int:=9223372036854775807
def qf7 (op:BinOp) (k:IntKind) (a b:Int) (R:PV->Prop):Prop:=
 match op with
 | .add=>R (.int k (k.wrap (a+b)))
 | .sub=>R (.int k (k.wrap (a - b)))
 | .mul=>R (.int k (k.wrap (a * b)))
 | .eql=>R (.bool (a==b))
 | .neq=>R (.bool (a != b))
 | .lss=>R (.bool (decide (a<b)))
 | .leq=>R (.bool (decide (a<=b)))
 | .gtr=>R (.bool (decide (a>b)))
 | .geq=>R (.bool (decide (a≥b)))
 | .and=>R (.int k (k.wrap (jr k.bits a &&& jr k.bits b).toNat))
 | .or=>R (.int k (k.wrap (jr k.bits a ||| jr k.bits b).toNat))
 | .xor=>R (.int k (k.wrap (jr k.bits a ^^^ jr k.bits b).toNat))
 | _=>False
def qf8 (g:G) (op:BinOp) (a b:List UInt8) (R:PV->Prop):Prop:=
 match op with
 | .add=>gI g (((a.length+b.length:Nat):Int)<=te)/\R (.str (a++b))
 | .eql=>R (.bool (a==b))
 | .neq=>R (.bool (!(a==b)))
 | .lss=>R (.bool (Op.bytesLess a b))
 | .leq=>R (.bool (Op.bytesLess a b||a==b))
 | .gtr=>R (.bool (!(Op.bytesLess a b||a==b)))
 | .geq=>R (.bool (!(Op.bytesLess a b)))
 | _=>False
def qf6 (op:BinOp) (a b:Bool) (R:PV->Prop):Prop:=
 match op with
 | .eql=>R (.bool (a==b))
 | .neq=>R (.bool (!(a==b)))
 | _=>False
def Tx (P:Program) (t:TypeId) (R:Prop):Prop:=
 match P.underlying t with
 | some .bool=>R
 | _=>False
def Gw:IntKind->IntKind->Bool
 | .i8,.i8|.i16,.i16|.i32,.i32|.i64,.i64|.u8,.u8|.u16,.u16|.u32,.u32|.u64,.u64=>true
 | _,_=>false
theorem nD {k k':IntKind} (h:Gw k k'=true):k=k':=by cases k<;>cases k'<;>first|rfl|cases h
def PF (P:Program):List Field->Nat->List PV->Bool
 | [],_,[]=>true
 | f::fs,o,c::cs=>(f.name != "_")&&Nat.beq f.offset o&&(match P.underlying f.type,c with
  | some (.int _),.int _ _=>true
  | some .string,.str _=>true
  | some .bool,.bool _=>true
  | _,_=>false)&&PF P fs (o+1) cs
 | _,_,_=>false
def MQ:List PV->Bool
 | []=>true
 | .bool _::cs=>MQ cs
 | _::_=>false
def MP (P:Program) (t e:TypeId) (n:Nat) (cs:List PV):Bool:=
 !P.eqGuardType P.depth t&&(match P.underlying e with|some .bool=>true|_=>false)&&(P.info? e).isSome&&Nat.beq (P.cellsOf e) 1&&Nat.beq n cs.length&&MQ cs
def aI (P:Program) (t:TypeId) (cs:List PV):Bool:=
 match P.underlying t with
 | some (.array n e)=>MP P t e n cs
 | some (.struct ⟨fs⟩)=>!P.stoodInHeld t&&!P.eqGuardType P.depth t&&PF P fs 0 cs
 | _=>false
def SO:List PV->List PV->(Bool->Prop)->Prop
 | [],[],R=>R true
 | .int k a::az,.int k' b::bs,R=>match Gw k k' with
  | true=>SO az bs fun c=>R (bif a==b then c else false)
  | false=>False
 | .str a::az,.str b::bs,R=>SO az bs fun c=>R (bif a==b then c else false)
 | .bool a::az,.bool b::bs,R=>SO az bs fun c=>R (bif a==b then c else false)
 | _,_,_=>False
def qfh (P:Program) (g:G) (op:BinOp) (t:TypeId) (x y:FV) (R:FV->Prop):Prop:=
 match x with
 | .p (.int k a)=>match y with
  | .p (.int k' b)=>match op with
   | .shl=>gI g (0<=b)/\R (.p (.int k (k.wrap (a * 2 ^ (min b.toNat k.bits)))))
   | .shr=>gI g (0<=b)/\R (.p (.int k (a.fdiv (2 ^ (min b.toNat k.bits)))))
   | .quo=>match Gw k k' with|true=>gI g (b≠0)/\R (.p (.int k (k.wrap (a.tdiv b))))|false=>False
   | .rem=>match Gw k k' with|true=>gI g (b≠0)/\R (.p (.int k (a.tmod b)))|false=>False
   | op=>match Gw k k' with|true=>qf7 op k a b fun v=>R (.p v)|false=>False
  | _=>False
 | .p (.str a)=>match y with
  | .p (.str b)=>qf8 g op a b fun v=>R (.p v)
  | _=>False
 | .p (.bool a)=>match y with
  | .p (.bool b)=>Tx P t (qf6 op a b fun v=>R (.p v))
  | _=>False
 | .p (.agg az)=>match y with
  | .p (.agg bs)=>match op with
   | .eql=>aI P t az=true/\SO az bs fun c=>R (.p (.bool c))
   | .neq=>aI P t az=true/\SO az bs fun c=>R (.p (.bool (!c)))
   | _=>False
  | _=>False
 | _=>False
def TD (P:Program) (t:TypeId) (x:FV) (f:Nat) (R:FV->Prop):Prop:=
 match x with
 | .ptr k off=>Nj P t f fun o _=>R (.ptr k (off+o))
 | .hptr row=>Nj P t f fun o _=>BF o row fun r=>R (.hptr r)
 | .eptr k z i off=>False
 | _=>False
def BG (P:Program) (t:TypeId) (R:TypeId->Nat->Prop):Prop:=
 match P.underlying t with
 | some (.slice e)=>match P.info? e with|some i=>R e i.size|none=>False
 | _=>False
def UZ (P:Program) (g:G) (t:TypeId) (x i:FV) (R:FV->Prop):Prop:=
 match x,i with
 | .p (.sl rows),.p (.int _ i)=>BG P t fun _ z=>∃ row,gI g (0<=i/\rows[i.toNat]? =some row/\row.length=z)/\R (.hptr row)
 | .tsl _ rows,.p (.int _ i)=>BG P t fun _ z=>∃ row,gI g (0<=i/\rows[i.toNat]? =some row/\row.length=z)/\R (.hptr row)
 | .ptr k off,.p (.int _ i)=>match P.underlying t with
  | some (.array n e)=>match P.info? e with
   | some ti=>gI g (0<=i/\i<n)/\R (.ptr k (off+i.toNat * ti.size))
   | none=>False
  | _=>False
 | .vsl k n,.p (.int _ i)=>BG P t fun _ z=>∃ j:Nat,gI g (i=j/\j<n)/\R (.eptr k z j 0)
 | .hptr row,.p (.int _ i)=>False
 | .bsl k off n _,.p (.int _ i)=>False
 | .eptr k z 0 0,.p (.int _ i)=>match P.underlying t with
  | some (.array n e)=>match P.info? e with
   | some ti=>match Nat.beq ti.size 1 with
    | true=>∃ j:Nat,gI g (z=1/\i=j/\j<n)/\R (.eptr k 1 j 0)
    | false=>False
   | none=>False
  | _=>False
 | _,_=>False
def TE (P:Program) (g:G) (t:TypeId) (x i:FV) (R:FV->Prop):Prop:=
 match x,i with
 | .p (.str l),.p (.int _ i)=>match P.underlying t with
  | some .string=>∃ b,gI g (0<=i/\l[i.toNat]? =some b)/\R (.p (.int .u8 b.toNat))
  | _=>False
 | .p (.agg cs),.p (.int _ i)=>match P.underlying t with
  | some (.array n e)=>Qt P e fun agg z=>match agg with
   | false=>match Nat.beq z 1 with
    | true=>∃ c,gI g (0<=i/\i<n/\cs[i.toNat]? =some c)/\R (.p c)
    | false=>False
   | true=>∃ c,gI g (0<=i/\i<n/\(cs.drop (i.toNat * z)).take z=c)/\R (.p (.agg c))
  | _=>False
 | _,_=>False
def Vb (E:Env) (g:G) (x:Option Operand) (d:Nat) (R:Nat->Prop):Prop:=
 match x with
 | none=>R d
 | some x=>evS E g x fun v=>match v with
  | .p (.int _ i)=>∃ n:Nat,gI g (i=n)/\R n
  | _=>False
def qfi (P:Program) (E:Env) (g:G) (t:TypeId) (rows:List (List PV)) (a:Option Operand) (m:Operand) (R:FV->Prop):Prop:=
 match P.underlying t with
 | some (.slice e)=>match P.info? e with
  | some i=>match a with
   | some a=>Vb E g (some a) rows.length fun h=>Vb E g (some m) rows.length fun c=>gI g (h=c/\h<=rows.length/\∀ r∈rows,r.length=i.size)/\R (.cut (rows.take h))
   | none=>False
  | none=>False
 | _=>False
def TK (P:Program) (E:Env) (g:G) (t:TypeId) (x:FV) (lo b c:Option Operand) (R:FV->Prop):Prop:=
 match c with
 | some m=>match lo with
  | none=>match x with
   | .p (.sl rows)=>qfi P E g t rows b m R
   | .p .nilsl=>False
   | .tsl _ rows=>False
   | _=>False
  | some _=>False
 | none=>match x with
  | .p (.str l)=>match P.underlying t with
   | some .string=>Vb E g b l.length fun h=>Vb E g lo 0 fun a=>gI g (a<=h/\h<=l.length)/\R (.p (.str ((l.take h).drop a)))
   | _=>False
  | .p (.sl rows)=>match P.underlying t with
   | some (.slice e)=>match P.info? e with
    | some i=>Vb E g b rows.length fun h=>Vb E g lo 0 fun a=>gI g (a<=h/\h<=rows.length/\∀ r∈rows,r.length=i.size)/\R (.p (.sl ((rows.take h).drop a)))
    | none=>False
   | _=>False
  | .tsl _ rows=>False
  | .ptr k off=>False
  | .eptr k z 0 0=>match P.underlying t with
   | some (.array n e)=>match P.info? e with
    | some i=>match Nat.beq i.size 1 with
     | true=>Vb E g b n fun h=>Vb E g lo 0 fun a=>gI g (z=1/\a<=h/\h<=n/\a<n)/\R (.asl k a (h - a))
     | false=>False
    | none=>False
   | _=>False
  | _=>False
def qfj (P:Program) (t:TypeId) (x:FV) (R:FV->Prop):Prop:=
 match x with
 | .p (.str l)=>match P.underlying t with|some .string=>R (.p (.int .i64 l.length))|_=>False
 | .p (.sl rows)=>match P.underlying t with|some (.slice _)=>R (.p (.int .i64 rows.length))|_=>False
 | .tsl _ rows=>match P.underlying t with|some (.slice _)=>R (.p (.int .i64 rows.length))|_=>False
 | .bsl _ _ n _=>match P.underlying t with|some (.slice _)=>R (.p (.int .i64 n))|_=>False
 | .vsl _ n=>match P.underlying t with|some (.slice _)=>R (.p (.int .i64 n))|_=>False
 | .p .nilsl=>match P.underlying t with|some (.slice _)=>R (.p (.int .i64 0))|_=>False
 | _=>False
def Eg (P:Program) (src dst:TypeId) (x:FV) (R:FV->Prop):Prop:=
 match x with
 | .p (.int _ n)=>match P.underlying src with
  | some (.int _)=>match P.underlying dst with
   | some (.int k)=>R (.p (.int k (k.wrap n)))
   | _=>False
  | _=>False
 | .p (.str l)=>False
 | _=>False
def qo (l:List UInt8):List (List PV):=l.map fun b=>[.int .u8 b.toNat]
def u8T (P:Program) (src dst:TypeId) (R:Prop):Prop:=
 match P.underlying src with
 | some (.slice e)=>match P.underlying e with
  | some (.int .u8)=>match P.underlying dst with
   | some .string=>R
   | _=>False
  | _=>False
 | _=>False
def qfx (P:Program) (src dst:TypeId) (n:Nat) (t:TypeId) (R:Prop):Prop:=
 match P.underlying src with
 | some (.pointer u)=>match P.underlying dst with
  | some .unsafePointer=>match P.info? u with
   | some i=>(i.size≠0/\0<n)/\R
   | none=>False
  | _=>False
 | some .unsafePointer=>match P.underlying dst with
  | some (.pointer u)=>match P.info? u with
   | some _=>liesAt P P.depth t (n / P.cellsOf t) 0 u 1=true/\R
   | none=>False
  | _=>False
 | _=>False
def Nz (P:Program) (g:G) (src dst:TypeId) (lo:List AObj) (x:FV) (R:FV->Prop):Prop:=
 match x with
 | .p (.sl rows)=>False
 | .tsl _ rows=>u8T P src dst (∃ l,gI g (rows=qo l)/\R (.p (.str l)))
 | .p .nilsl=>False
 | .bsl k off n _=>False
 | .ptr k off=>match Nat.beq off 0 with
  | true=>Zm k lo fun o=>match o with
   | .box t cells=>qfx P src dst cells.length t (R (.ptr k 0))
   | _=>False
  | false=>False
 | .vsl k n=>False
 | .asl k off n=>u8T P src dst (Zm k lo fun o=>match o with
   | .bv l=>gI g (off+n<=l.length)/\R (.p (.str ((l.drop off).take n)))
   | _=>False)
 | x=>Eg P src dst x R
def Xn (P:Program) (H:(PH Lw)) (w:World) (r:PV):Result Next->Prop
 | .ok (.value v) w'=>∃ H',Calm H w H' w'/\qO H' r v
 | .ok (.enter f args) w'=>w'=w/\Calls P f args w fun e a=>∃ v H',e=.returned v/\Calm H w H' a/\qO H' r v
 | _=>False
def qh (P:Program) (f:FuncId) (args:List PV) (r:PV):Prop:=
 ∀ ⦃Lw:Nat⦄ (H:PH Lw) (w:World) (vs:List Value),SatH H w->zC H args vs->Xn P H w r ((callFunc f vs.toArray).run P w)
def Dk (E:Env) (g:G):Nat->List (Nat×Operand)->(List PV->Prop)->Prop
 | _,[],R=>R []
 | k,(i,x)::l,R=>match Nat.beq i k with
  | true=>evS E g x fun v=>Nn v fun p=>Dk E g (k+1) l fun a=>R (p::a)
  | false=>False
def EX (p:PV) (R:List PV->Prop):Prop:=
 match p with
 | .agg cs=>R cs
 | .tup _=>False
 | p=>R [p]
def iJ:List PV->(List (List PV)->Prop)->Prop
 | [],R=>R []
 | p::ps,R=>EX p fun c=>iJ ps fun rs=>R (c::rs)
def Uq:PV->Bool
 | .agg _|.tup _=>false
 | _=>true
def Vu (P:Program) (E:Env) (g:G) (t:TypeId) (n:Nat) (xl:List (Nat×Operand)) (R:FV->Prop):Prop:=
 BG P t fun e z=>match Nat.beq xl.length n with
  | true=>match Nat.ble 1 n with
   | true=>match Nat.ble 1 z with
    | true=>match Nat.ble (n * z) 16777216 with
     | true=>match P.info? e with
      | some i=>match i.zero with
       | some _=>Dk E g 0 xl fun b=>iJ b fun rows=>(∀ r∈rows,r.length=z/\r.all Uq=true)/\∃ a,(rows=a\/Vw rows a)/\R (.p (.sl a))
       | none=>False
      | none=>False
     | false=>False
    | false=>False
   | false=>False
  | false=>False
def CI:Nat->List PV->List PV->(List PV->Prop)->Prop
 | 0,[],old,R=>R old
 | 0,v::vs,old,R=>match old with|[]=>False|_::old=>CI 0 vs old fun l=>R (v::l)
 | n+1,vs,old,R=>match old with|[]=>False|a::old=>CI n vs old fun l=>R (a::l)
def aH (P:Program) (E:Env) (g:G) (a:List Field):List (Nat×Operand)->List PV->(List PV->Prop)->Prop
 | [],cs,R=>R cs
 | (i,x)::l,cs,R=>Zm i a fun f=>match P.info? f.type with
  | some ti=>evS E g x fun v=>Nn v fun p=>EX p fun c=>match Nat.beq c.length ti.size with
   | true=>CI f.offset c cs fun cs=>aH P E g a l cs R
   | false=>False
  | none=>False
def Hp (P:Program):List Field->Bool
 | []=>true
 | f::fs=>match P.info? f.type with|some _=>Hp P fs|none=>false
def TA (P:Program) (E:Env) (g:G) (t:TypeId) (xl:List (Nat×Operand)) (R:FV->Prop):Prop:=
 match P.info? t with
 | some i=>match i.zero with
  | some (.agg ⟨vs⟩)=>oV vs fun b=>match P.underlying t with
   | some (.struct ⟨fs⟩)=>match Hp P fs with
    | true=>aH P E g fs xl b fun cs=>R (.p (.agg cs))
    | false=>False
   | some (.array _ e)=>match P.info? e with
    | some ei=>match Nat.beq ei.size 1 with
     | true=>Dk E g 0 xl fun a=>a.length=vs.length/\(∀ c∈a,Uq c=true)/\R (.p (.agg a))
     | false=>Dk E g 0 xl fun a=>iJ a fun rows=>(∀ r∈rows,r.length=ei.size)/\rows.flatten.length=vs.length/\R (.p (.agg rows.flatten))
    | none=>False
   | _=>False
  | _=>False
 | none=>False
def Da (P:Program) (op:BinOp) (t:TypeId) (a:Bool) (y:FV) (R:FV->Prop):Prop:=
 match P.underlying t with
 | some (.func _ _ _)=>match y with
  | .p .nilfn=>match op with
   | .eql=>R (.p (.bool a))
   | .neq=>R (.p (.bool (!a)))
   | _=>False
  | _=>False
 | _=>False
def qdo (P:Program) (op:BinOp) (t:TypeId) (x y:FV) (R:FV->Prop):Prop:=
 match P.underlying t with
 | some (.pointer e)=>match P.info? e with
  | some _=>match op with
   | .eql=>match x,y with
    | .p .nilp,.p .nilp=>R (.p (.bool true))
    | .ptr _ _,.p .nilp=>R (.p (.bool false))
    | .hptr _,.p .nilp=>R (.p (.bool false))
    | _,_=>False
   | .neq=>match x,y with
    | .p .nilp,.p .nilp=>R (.p (.bool false))
    | .ptr _ _,.p .nilp=>R (.p (.bool true))
    | .hptr _,.p .nilp=>R (.p (.bool true))
    | .ptr k off,.ptr k' off'=>match Nat.beq k k' with
     | true=>match Nat.beq off off' with
      | true=>R (.p (.bool false))
      | false=>False
     | false=>False
    | _,_=>False
   | _=>False
  | none=>False
 | _=>False
def DR (E:Env):List (Nat×Operand)->Prop->Prop->Prop
 | [],_,no=>no
 | (_,x)::l,yes,no=>ev E x fun v=>match v with
  | .mref _=>yes
  | .ptr _ _=>yes
  | .clo _ _=>yes
  | .bsl _ _ _ _=>yes
  | _=>DR E l yes no
def el:List PV->(List FV->Prop)->Prop
 | [],R=>R []
 | c::cs,R=>el cs fun l=>R (.p c::l)
def QU:Nat->List FV->List FV->(List FV->Prop)->Prop
 | 0,[],old,R=>R old
 | 0,v::vs,old,R=>match old with|[]=>False|_::old=>QU 0 vs old fun l=>R (v::l)
 | n+1,vs,old,R=>match old with|[]=>False|a::old=>QU n vs old fun l=>R (a::l)
def qau (v:FV) (R:List FV->Prop):Prop:=
 match v with
 | .p p=>EX p fun cs=>el cs R
 | .tsl k rows=>R [.tsl k rows]
 | .mref k=>R [.mref k]
 | .ptr k o=>R [.ptr k o]
 | .clo f c=>R [.clo f c]
 | .bsl k o n c=>R [.bsl k o n c]
 | .fagg c=>tA c R
 | _=>False
def aG (P:Program) (E:Env) (g:G) (a:List Field):List (Nat×Operand)->List FV->(List FV->Prop)->Prop
 | [],cs,R=>R cs
 | (i,x)::l,cs,R=>Zm i a fun f=>match P.info? f.type with
  | some ti=>evS E g x fun v=>qau v fun c=>match Nat.beq c.length ti.size with
   | true=>QU f.offset c cs fun cs=>aG P E g a l cs R
   | false=>False
  | none=>False
def Ef (P:Program) (E:Env) (g:G) (t:TypeId) (xl:List (Nat×Operand)) (R:FV->Prop):Prop:=
 match P.info? t with
 | some i=>match i.zero with
  | some (.agg ⟨vs⟩)=>oV vs fun a=>el a fun a=>match P.underlying t with
   | some (.struct ⟨fs⟩)=>match Hp P fs with
    | true=>aG P E g fs xl a fun cs=>R (.fagg (qcs cs))
    | false=>False
   | _=>False
  | _=>False
 | none=>False
def mf (P:Program) (p:PV) (b a:TypeId) (r:PV):Prop:=∀ ⦃Lw:Nat⦄ (H:PH Lw) (v:Value) (w:World),qO H p v->∃ u,(Instr.typeAssert v b a true).run P w=.ok u w/\qO H r u
def TJ (P:Program) (op:Op) (E:Env) (g:G) (R:FV->Prop):Prop:=
 match op with
 | .makeFunc (.func f) ⟨b::bs⟩ ⟨[]⟩=>evL E g (b::bs) fun vs=>No vs fun d=>R (.p (.bfn f d))
 | .typeAssert x xt a true=>evS E g x fun x=>Nn x fun p=>∃ r,gI g (mf P p xt a r)/\R (.p r)
 | .makeFunc (.func f) ⟨[]⟩ ⟨xs⟩=>match xs with
  | []=>R (.p (.fn f))
  | x::xs=>evL E g (x::xs) fun vs=>R (.clo f (qcs vs))
 | .call { callee:=.value (.tmp t),args:=⟨xs⟩,argTypes:=_ }=>evS E g (.tmp t) fun e=>evL E g xs fun vs=>No vs fun args=>match e with
  | .p (.fn f)=>∃ r,gI g (qh P f args r)/\R (.p r)
  | .clo f c=>False
  | .p (.clo f cs)=>∃ r,gI g (qh P f (args++cs) r)/\R (.p r)
  | .p (.bfn f bs)=>∃ r,gI g (qh P f (bs++args) r)/\R (.p r)
  | _=>False
 | .call { callee:=.invoke r m,args:=⟨xs⟩,argTypes:=_ }=>False
 | .call { callee:=.builtin .max,args:=⟨[x,y]⟩,argTypes:=_ }=>evS E g x fun x=>evS E g y fun y=>match x with
  | .p (.int k a)=>match y with
   | .p (.int _ b)=>R (.p (.int k (bif decide (b>a)then b else a)))
   | _=>False
  | _=>False
 | .call { callee:=.builtin .min,args:=⟨[x,y]⟩,argTypes:=_ }=>evS E g x fun x=>evS E g y fun y=>match x with
  | .p (.int k a)=>match y with
   | .p (.int _ b)=>R (.p (.int k (bif decide (b<a)then b else a)))
   | _=>False
  | _=>False
 | _=>False
def aU (P:Program) (op:Op) (E:Env) (g:G) (R:FV->Prop):Prop:=
 match op with
 | .move x=>match g with|none=>ev E x R|some g=>evS E (some g) x R
 | .assign x=>match g with|none=>ev E x R|some g=>evS E (some g) x R
 | .pick c a b=>evS E g c fun c=>match c with
  | .p (.bool c)=>match g with
   | none=>evS E (some c) a fun a=>evS E (some (!c)) b fun b=>match a,b with
    | .p (.bool a),.p (.bool b)=>R (.p (.bool (bif c then a else b)))
    | _,_=>False
   | some g=>evS E (some (g&&c)) a fun a=>evS E (some (g&&!c)) b fun b=>match a,b with
    | .p (.bool a),.p (.bool b)=>R (.p (.bool (bif c then a else b)))
    | _,_=>False
  | _=>False
 | .fieldAddr t x f=>evS E g x fun x=>TD P t x f R
 | .field t x f=>False
 | .indexAddr t x i=>evS E g x fun x=>evS E g i fun i=>UZ P g t x i R
 | .index t x i=>evS E g x fun x=>evS E g i fun i=>TE P g t x i R
 | .binOp op t x y _=>evS E g x fun x=>evS E g y fun y=>match x with
  | .ptr k off=>qdo P op t (.ptr k off) y R
  | .hptr row=>qdo P op t (.hptr row) y R
  | .p .nilp=>qdo P op t (.p .nilp) y R
  | .p .nilfn=>Da P op t true y R
  | .p (.fn _)=>Da P op t false y R
  | .p (.clo _ _)=>Da P op t false y R
  | .p (.bfn _ _)=>Da P op t false y R
  | x=>qfh P g op t x y R
 | .unOp .not _ x=>evS E g x fun x=>match x with|.p (.bool b)=>R (.p (.bool (!b)))|_=>False
 | .unOp .neg _ x=>evS E g x fun x=>match x with|.p (.int k n)=>R (.p (.int k (k.wrap (0 - n))))|_=>False
 | .nilCheck x=>evS E g x fun x=>match x with
  | .ptr k off=>R (.ptr k off)
  | .hptr row=>R (.hptr row)
  | .eptr k z i off=>R (.eptr k z i off)
  | _=>False
 | .slice t x lo hi mx=>evS E g x fun x=>TK P E g t x lo hi mx R
 | .buildSlice t n ⟨xl⟩=>Vu P E g t n xl R
 | .build t ⟨xl⟩=>DR E xl (Ef P E g t xl R) (TA P E g t xl R)
 | .extract x i=>evS E g x fun x=>match x with
  | .p (.tup vs)=>Zm i vs fun v=>R (.p v)
  | .pair a b=>False
  | .nxt ok a b=>match i with|0=>R (.p (.bool ok))|1=>gI g (ok=true)/\R (.p a)|2=>gI g (ok=true)/\R (.p b)|_=>False
  | _=>False
 | .makeInterface t x=>evS E g x fun x=>match P.underlying t with
  | some (.interface _)=>False
  | some _=>match x with
   | .vsl k n=>R (.ifs t (.vsl k n))
   | x=>Nn x fun v=>R (.p (.ifc t v))
  | none=>False
 | .call { callee:=.builtin .len,args:=⟨[x]⟩,argTypes:=⟨[t]⟩ }=>evS E g x fun x=>qfj P t x R
 | .call { callee:=.value (.func f),args:=⟨xs⟩,argTypes:=_ }=>
   evL E g xs fun vs=>No vs fun args=>∃ r,gI g (qh P f args r)/\R (.p r)
 | op=>TJ P op E g R
def qgj:List FV->Bool
 | []=>false
 | .vsl _ _::_=>true
 | _::l=>qgj l
def qgd:List FV->Bool
 | []=>false
 | .p (.nsl _)::_=>true
 | _::l=>qgd l
def qge:List FV->Bool
 | []=>false
 | .tsl _ _::_=>true
 | _::l=>qge l
def qf3:List FV->Bool
 | []=>true
 | .tsl _ _::l=>qf3 l
 | _::_=>false
def qg8 (cs:List FV):Bool:=match qgj cs with
 | true=>true
 | false=>match qge cs with
  | false=>false
  | true=>match qgd cs with
   | true=>true
   | false=>qf3 cs
def QM (P:Program) (t:TypeId) (lo:List AObj) (x:FV) (R:FV->Prop):Prop:=
 match x with
 | .ptr k off=>Zm k lo fun o=>match o with
  | .box _ cells=>BF off cells fun cs=>Qt P t fun agg n=>match agg with
   | true=>CR n cs fun cs=>match qg8 cs with
    | true=>R (.fagg (qcs cs))
    | false=>No cs fun l=>R (.p (.agg l))
   | false=>match cs with|c::_=>R c|[]=>False
  | .pbx _ c=>match Nat.beq off 0 with
   | true=>Qt P t fun agg _=>match agg with|true=>False|false=>R c
   | false=>False
  | _=>False
 | .hptr row=>Qt P t fun agg n=>match agg with
  | true=>CR n row fun r=>R (.p (.agg r))
  | false=>match row with|c::_=>R (.p c)|[]=>False
 | _=>False
def Gu:Op->Bool
 | .load _ _=>true
 | .convert _ _ _=>true
 | .lookup _ _ _ _=>true
 | _=>false
def rz:Op->Bool
 | .box _ _|.alloc _|.store _ _ _|.makeMap _ _|.mapUpdate _ _ _ _|.insert _ _ _ _|.range _ _|.next _ _=>true
 | .call { callee:=.builtin .append,.. }=>true
 | .call { callee:=.builtin .clear,.. }=>true
 | .call { callee:=.builtin .copy,.. }=>true
 | .makeSlice _ _ _=>true
 | _=>false
def RQ:FV->Bool
 | .p (.agg _)|.p (.tup _)|.top|.opt _ _|.pair _ _|.stmp _|.cap0|.cap _ _|.fagg _|.nxt _ _ _=>false
 | _=>true
def Rx (P:Program) (t:TypeId) (R:List PV->Prop):Prop:=
 match P.info? t with
 | some i=>match i.zero with
  | some (.agg ⟨vs⟩)=>oV vs R
  | some v=>oV [v] R
  | none=>False
 | none=>False
def Xb (v:FV) (R:List FV->Prop):Prop:=
 match v with
 | .p (.agg cs)=>el cs R
 | .fagg c=>tA c R
 | v=>match RQ v with|true=>R [v]|false=>False
def VY:List FV->Bool
 | []=>true
 | v::l=>match RQ v with|true=>VY l|false=>false
def NT (x:FV) (R:List (List PV)->Prop):Prop:=
 match x with
 | .p (.sl rows)=>R rows
 | .tsl _ rows=>R rows
 | .p .nilsl=>R []
 | _=>False
def lN:PV->PV->Bool
 | .str a,.str b=>a==b
 | .int _ a,.int _ b=>a==b
 | .bool a,.bool b=>a==b
 | _,_=>false
def Fk (k:PV):List (PV×PV)->Option PV
 | []=>none
 | (k',v)::es=>bif lN k k' then some v else Fk k es
def lP (k v:PV):List (PV×PV)->List (PV×PV)
 | []=>[(k,v)]
 | (k',v')::es=>bif lN k k' then(k,v)::es else(k',v')::lP k v es
def qbb (a d:TypeDesc) (b:PV) (R:Prop):Prop:=
 match a,d,b with
 | .string,.string,.str _=>R
 | .bool,.bool,.bool _=>R
 | .int k,.int k',.int k'' _=>match Gw k k' with
  | true=>match Gw k k'' with
   | true=>R
   | false=>False
  | false=>False
 | _,_,_=>False
def qfk (d:TypeDesc) (R:Prop):Prop:=
 match d with
 | .string=>R
 | .bool=>R
 | .int _=>R
 | _=>False
def qey (P:Program) (t:TypeId) (d:TypeDesc) (a:PV) (R:TypeId->Prop):Prop:=
 match P.underlying t with
 | some (.map kt et)=>match P.underlying kt with
  | some d'=>qbb d' d a (R et)
  | none=>False
 | _=>False
def qcj (P:Program) (t:TypeId) (R:PV->Prop):Prop:=
 match P.info? t with
 | some i=>match i.zero with
  | some (.agg ⟨vs⟩)=>oV vs fun l=>R (.agg l)
  | some v=>match qcq v with|some p=>R p|none=>False
  | none=>False
 | none=>False
def Ei (P:Program) (g:G) (t:TypeId) (lo:List AObj) (x key:FV) (ok:Bool) (R:FV->Prop):Prop:=
 match x,key with
 | .mref k,.p kp=>Zm k lo fun o=>match o with
  | .mp d es _=>qey P t d kp fun a=>qcj P a fun z=>∃ v b,gI g ((Fk kp es).getD z=v/\(Fk kp es).isSome=b)/\R (match ok with|false=>.p v|true=>.p (.tup [v,.bool b]))
  | _=>False
 | _,_=>False
def Mj (P:Program) (E:Env) (lo:List AObj) (t:TypeId) (m k x:Operand) (R:FV->List AObj->Prop):Prop:=
 evS E none m fun m=>evS E none k fun k=>evS E none x fun x=>Nn x fun b=>match m,k with
  | .mref j,.p kp=>Zm j lo fun o=>match o with
   | .mp d es _=>qey P t d kp fun _=>∃ a,lP kp b es=a/\GF j (.mp d a none) lo fun lo=>R (.p (.tup [])) lo
   | _=>False
  | _,_=>False
def qK (l:List UInt8) (i:Nat):Nat:=(Utf8.decode ⟨l.toArray⟩ i).1
def zY (l:List UInt8) (i:Nat):Nat:=i+(Utf8.decode ⟨l.toArray⟩ i).2
def qa9 (P:Program) (op:Op) (E:Env) (lo:List AObj) (R:FV->List AObj->Prop):Prop:=
 match op with
 | .range t x=>evS E none x fun x=>match x with
  | .p (.str l)=>match P.underlying t with
   | some .string=>Fj lo 0 fun n=>VC lo (.sit l 0) fun lo=>R (.ptr n 0) lo
   | _=>False
  | _=>False
 | .next x true=>evS E none x fun x=>match x with
  | .ptr k 0=>Zm k lo fun o=>match o with
   | .sit l pos=>∃ ok a,(decide (pos<l.length)=ok/\(bif ok then zY l pos else pos)=a)/\GF k (.sit l a) lo fun lo=>R (.nxt ok (.int .i64 pos) (.int .i32 (qK l pos))) lo
   | _=>False
  | _=>False
 | .makeMap t none=>match P.underlying t with
  | some (.map kt _)=>match P.underlying kt with
   | some d=>qfk d (Fj lo 0 fun n=>VC lo (.mp d [] none) fun lo=>R (.mref n) lo)
   | none=>False
  | _=>False
 | .mapUpdate t m k x=>False
 | .insert t m k x=>Mj P E lo t m k x R
 | .call { callee:=.builtin .clear,args:=⟨[x]⟩,argTypes:=⟨[t]⟩ }=>False
 | _=>False
def Mm (P:Program) (t:TypeId) (lo:List AObj) (k z i off:Nat) (x:FV) (R:FV->List AObj->Prop):Prop:=
 Xb x fun vs=>No vs fun d=>Fj d 0 fun n=>Qt P t fun _ m=>match Nat.beq n m with
  | true=>Zm k lo fun o=>match o with
   | .vec e z' rows=>∃ row,(z'=z/\rows[i]? =some row/\d.all Uq=true)/\CI off d row fun f=>∃ a,rows.set i f=a/\GF k (.vec e z' a) lo fun lo=>R (.p (.tup [])) lo
   | .vl e z' rows j kt=>False
   | .bv l=>match d with
    | [.int .u8 n]=>∃(c:UInt8) (l':List UInt8),(z=1/\off=0/\i<l.length/\n=(c.toNat:Int)/\l.set i c=l')/\GF k (.bv l') lo fun lo=>R (.p (.tup [])) lo
    | d=>∃ l':List UInt8,(z=1/\off=0/\i=0/\l'.length=l.length/\d=l'.map fun b=>PV.int .u8 b.toNat)/\GF k (.bv l') lo fun lo=>R (.p (.tup [])) lo
   | _=>False
  | false=>False
def TG (P:Program) (t:TypeId) (lo:List AObj) (k z i off:Nat) (R:FV->Prop):Prop:=
 Zm k lo fun o=>match o with
  | .vec _ z' rows=>∃ row,(z'=z/\rows[i]? =some row)/\BF off row fun cs=>Qt P t fun agg n=>match agg with
   | true=>CR n cs fun l=>R (.p (.agg l))
   | false=>match cs with|c::_=>R (.p c)|[]=>False
  | .vl _ z' rows j kt=>False
  | .bv l=>Qt P t fun agg _=>match agg with
   | true=>False
   | false=>∃ c:UInt8,(z=1/\off=0/\l[i]? =some c)/\R (.p (.int .u8 c.toNat))
  | _=>False
def LW (P:Program) (t:TypeId) (lo:List AObj) (R:FV->List AObj->Prop):Prop:=
 Rx P t fun z=>∃ l:List UInt8,z=l.map (fun b=>PV.int .u8 b.toNat)/\Fj lo 0 fun k=>VC lo (.bv l) fun lo=>R (.eptr k 1 0 0) lo
def Xw:List Nat->Nat->Bool
 | [],_=>false
 | a::l,f=>match Nat.beq f a with|true=>true|false=>Xw l f
def qa1 (inl:List Nat) (d:Option Tmp):Bool:=match d with
 | some d=>Xw inl (30000000+d)
 | none=>false
def oL (P:Program) (op:Op) (E:Env) (lo:List AObj) (R:FV->List AObj->Prop):Prop:=
 match op with
 | .box t x=>evS E none x fun x=>Xb x fun cs=>match VY cs with
  | true=>Fj lo 0 fun n=>VC lo (.box t cs) fun lo=>R (.ptr n 0) lo
  | false=>False
 | .alloc t=>Rx P t fun z=>el z fun cs=>match VY cs with
  | true=>Fj lo 0 fun n=>VC lo (.box t cs) fun lo=>R (.ptr n 0) lo
  | false=>False
 | .store t a x=>evS E none a fun a=>evS E none x fun x=>match a with
  | .ptr k off=>Xb x fun vs=>match VY vs with
   | true=>Fj vs 0 fun n=>Qt P t fun _ m=>match Nat.beq n m with
    | true=>Zm k lo fun o=>match o with
     | .box bt cells=>QU off vs cells fun cells=>GF k (.box bt cells) lo fun lo=>R (.p (.tup [])) lo
     | _=>False
    | false=>False
   | false=>False
  | .eptr k z i off=>Mm P t lo k z i off x R
  | _=>False
 | .call { callee:=.builtin .append,args:=⟨[s,x]⟩,argTypes:=⟨[t,t']⟩ }=>match Nat.beq t t' with
  | true=>evS E none s fun s=>evS E none x fun x=>NT x fun news=>match s with
   | .vsl k0 _=>False
   | s=>BG P t fun e z=>match Nat.beq z 0 with
   | true=>False
   | false=>match P.info? e with
    | some i=>match i.zero with
     | some zv=>match Nat.beq zv.cells.size z with
      | true=>match s with
       | .p .nilsl=>((∀ r∈news,r.length=z)/\news.length * i.bytes<=140737488355328/\news.length<=9223372036854775807) /\
         Fj lo 0 fun k=>VC lo (.tail e z news.length) fun lo=>R (.tsl k news) lo
       | .tsl k0 rows=>((∀ r∈rows++news,r.length=z)/\(rows++news).length * i.bytes<=140737488355328/\(rows++news).length<=9223372036854775807) /\
         Zm k0 lo fun o=>match o with
         | .tail e' z' n=>(e'=e/\z'=z/\n=rows.length) /\
           GF k0 .dead lo fun lo=>Fj lo 0 fun k=>VC lo (.tail e z (rows++news).length) fun lo=>R (.tsl k (rows++news)) lo
         | _=>False
       | .cut rows=>((∀ r∈rows++news,r.length=z)/\(rows++news).length * i.bytes<=140737488355328/\(rows++news).length<=9223372036854775807) /\
         ∃ own:Bool,match own with
         | true=>news≠[]/\Fj lo 0 fun k=>VC lo (.tail e z (rows++news).length) fun lo=>R (.tsl k (rows++news)) lo
         | false=>∃ b,rows++news=b/\R (.p (.sl b)) lo
       | _=>False
      | false=>False
     | none=>False
    | none=>False
  | false=>evS E none s fun s=>evS E none x fun x=>match x with
   | .p (.str str)=>match P.underlying t' with
    | some .string=>BG P t fun e z=>match Nat.beq z 1 with
     | true=>match P.info? e with
      | some i=>match i.zero with
       | some (.int .u8 0)=>match s with
        | .p .nilsl=>False
        | .tsl k0 rows=>((∀ r∈rows,r.length=1)/\(rows++qo str).length * i.bytes<=140737488355328/\(rows++qo str).length<=9223372036854775807) /\
          Zm k0 lo fun o=>match o with
          | .tail e' z' n=>(e'=e/\z'=1/\n=rows.length) /\
            GF k0 .dead lo fun lo=>Fj lo 0 fun k=>VC lo (.tail e z (rows++qo str).length) fun lo=>R (.tsl k (rows++qo str)) lo
          | _=>False
        | _=>False
       | _=>False
      | none=>False
     | false=>False
    | _=>False
   | _=>False
 | op=>qa9 P op E lo R
def Hk (ops:List Oper) (o:Oper) (E:Env) (R:G->Prop):Prop:=
 match o.guard with
 | none=>R none
 | some (j,want)=>Zm j ops fun oj=>match oj.dst with
   | some d=>ef E d fun v=>match v with
    | .p (.bool b)=>match want with|true=>R (some b)|false=>R (some (!b))
    | .opt g' (.p (.bool b))=>match want with|true=>R (some (g'&&b))|false=>R (some (g'&&!b))
    | _=>False
   | none=>False
def Vz (N:Nat) (d:Option Tmp) (v:FV) (E:Env) (R:Env->Prop):Prop:=
 match d with
 | some d=>match Nat.blt d N with
  | true=>BX v fun v=>R ((d,v)::E)
  | false=>False
 | none=>R E
def Xl (g:G) (v:FV):FV:=match g with|none=>v|some g=>.opt g v
def ME (P:Program) (N:Nat) (all:List Oper) (o:Oper) (E:Env) (lo:List AObj) (R:Env->List AObj->Prop):Prop:=
 Hk all o E fun g=>
  match Gu o.op with
  | true=>match o.op with
   | .load t x=>evS E g x fun x=>QM P t lo x fun v=>Vz N o.dst (Xl g v) E fun E=>R E lo
   | .convert s d x=>evS E g x fun x=>Nz P g s d lo x fun v=>Vz N o.dst (Xl g v) E fun E=>R E lo
   | .lookup t x i ok=>evS E g x fun x=>evS E g i fun i=>Ei P g t lo x i ok fun v=>Vz N o.dst (Xl g v) E fun E=>R E lo
   | _=>False
  | false=>match rz o.op with
   | true=>match g with
    | none=>oL P o.op E lo fun v lo=>Vz N o.dst v E fun E=>R E lo
    | some _=>False
   | false=>aU P o.op E g fun v=>Vz N o.dst (Xl g v) E fun E=>R E lo
inductive AX where
 | normal|exit (id:Nat)|ret
def Ri (inl:List Nat) (d:Option Tmp):Bool:=match d with|some d=>Xw inl (10000000+d)|none=>false
def qc4 (inl:List Nat) (t:Tmp):Bool:=Xw inl (20000000+t)
def NA (inl:List Nat) (id:Nat):Bool:=Xw inl (40000000+id)
def gz (inl:List Nat) (o:Oper):Bool:=
 match o.op with
 | .call { callee:=.value (.func f),args:=_,argTypes:=_ }=>Xw inl f
 | .call { callee:=.value (.tmp t),args:=_,argTypes:=_ }=>qc4 inl t
 | .buildSlice _ _ _=>Ri inl o.dst
 | .convert _ _ _=>Ri inl o.dst
 | o=>rz o
def Rh:Op->Bool
 | .box _ _|.alloc _|.makeMap _ _|.buildSlice _ _ _|.makeSlice _ _ _=>true
 | .call { callee:=.builtin .append,.. }=>true
 | _=>false
def mb (inl:List Nat) (o:Oper):Bool:=match o.op with
 | .store _ (.tmp t) _=>Xw inl (50000000+t)
 | .call { callee:=.value (.tmp t),args:=_,argTypes:=_ }=>qc4 inl t&&Xw inl (85000000+t)
 | .call { callee:=.value (.func f),args:=_,argTypes:=_ }=>Xw inl f&&Xw inl (86000000+f)
 | _=>false
def HE (inl:List Nat) (o:Oper):Bool:=Rh o.op||mb inl o
def qdz (sl:List Nat) (n0 k:Nat):Bool:=match Nat.blt k n0 with
 | true=>(match Xw sl (60000000+1000 * n0+k)with|true=>false|false=>true)
 | false=>false
def Gk (inl:List Nat) (o:Oper):Bool:=match o.dst with
 | some d=>Xw inl (70000000+d)
 | none=>false
def SE (inl:List Nat) (m:Bool) (oi oj:Oper):Bool:=gz inl oi&&(gz inl oj||Gu oj.op&&!(m&&HE inl oi&&!Gk inl oj))
def nC (inl:List Nat) (o:Oper):Bool:=match o.op with
 | .call { callee:=.value (.func f),args:=_,argTypes:=_ }=>Xw inl f&&Xw inl (86000000+f)&&Xw inl (87000000+f)
 | _=>false
def Ft (inl:List Nat) (o:Oper):Bool:=match o.op with
 | .alloc _=>!Ri inl o.dst&&(match o.dst with|some d=>Xw inl (88000000+d)|none=>false)
 | _=>false
def Xf (ops:Array Oper) (i:Nat):Nat->Nat->Bool
 | 0,_=>false
 | f+1,j=>match ops[j]? with
  | some oj=>oj.after.any (fun e=>Region.binds .any e&&e.on==i)||oj.after.any (fun e=>Region.binds .any e&&Xf ops i f e.on)
  | none=>false
def Region.effFree (inl:List Nat) (m:Bool) (ops:Array Oper) (listed:Array Bool) (i:Nat):Bool:=
 match ops[i]? with
 | none=>false
 | some oi=>(List.range ops.size).all fun j=>j==i||listed.getD j true||match ops[j]? with
   | some oj=>((!SE inl m oi oj&&!SE inl m oj oi)||(nC inl oi&&Ft inl oj))||Xf ops i ops.size j
   | none=>true
def Region.effFrom (inl:List Nat) (m:Bool) (ops:Array Oper):Nat->Nat->Array Bool->Bool
 | 0,_,_=>true
 | fuel+1,k,listed=>Region.effFree inl m ops listed k&&Region.effFrom inl m ops fuel (k+1) (listed.setIfInBounds k true)
def Hc (inl:List Nat) (m:Bool) (ops:Array Oper):Bool:=Go.Region.lexB .any ops&&Region.effFrom inl m ops ops.size 0 (Array.replicate ops.size false)
end Ax
end
section
namespace Ax
open Go
variable {Lw:Nat}
def tf (bs:(Base Lw)) (ρ:List Value) (H:(PH Lw)) (a:FV) (lo':List AObj) (v:Value) (w':World):Prop:=
 ∃ ρ' H',ρ <+: ρ'/\PH.le H H'/\SatW bs ρ' H' lo' w'/\qY ρ' H' a v
def Lu (P:Program) (bs:(Base Lw)) (ρ:List Value) (H:(PH Lw)) (a:FV) (lo':List AObj):Result Next->Prop
 | .ok (.value v) w'=>tf bs ρ H a lo' v w'
 | .ok .skip w'=>tf bs ρ H a lo' undef w'
 | .ok (.enter f args) w'=>Calls P f args w' fun c b=>∃ v,c=.returned v/\tf bs ρ H a lo' v b
 | _=>False
def gB (P:Program) (o:Oper) (e:Nat->FV) (lo:List AObj) (g:G) (a:FV) (lo':List AObj):Prop:=
 gOn g->∀ ⦃Lw:Nat⦄ (bs:(Base Lw)) (ρ:List Value) (H:(PH Lw)) (w:World) (eval:Operand->Value),SatW bs ρ H lo w ->
  (∀ x∈o.op.operands,qY ρ H (evF e x) (eval x))->Lu P bs ρ H a lo' ((execOp eval o).run P w)
theorem fy {bs:(Base Lw)} {ρ:List Value} {H:(PH Lw)} {a:FV} {lo:List AObj} {v:Value} {w:World} (s:SatW bs ρ H lo w) (r:qY ρ H a v) :
  tf bs ρ H a lo v w:=⟨ρ,H,jq _,PH.le.refl H,s,r⟩
theorem mV {g:G} {p:Prop} (h:gI g p) (a:gOn g):p:=by
 cases g with
 | none=>exact h
 | some b=>exact h a
theorem QP:∀(E:Env) (t:Nat) (R:FV->Prop),ef E t R=R (qW E t)
 | [],_,_=>rfl
 | (t',v)::E,t,R=>by
  simp only[ef,qW];cases Nat.beq t t' with
  | true=>rfl
  | false=>exact QP E t R
theorem Cp (E:Env) (x:Operand) (R:FV->Prop):ev E x R=R (evF (qW E) x):=by
 cases x with
 | tmp t=>exact QP E t R
 | const v=>exact Xc _ _
 | global g=>rfl
 | func f=>rfl
def Str (g:G) (f v:FV):Prop:=∀ ⦃Lw:Nat⦄ (ρ:List Value) (H:PH Lw) (x:Value),gOn g->qY ρ H f x->qY ρ H v x
theorem qU {E:Env} {g:G} {x:Operand} {R:FV->Prop} (h:evS E g x R):∃ v,R v/\Str g (evF (qW E) x) v:=by
 unfold evS at h;rw[Cp]at h;generalize evF (qW E) x=f at *;cases f<;>simp only at h
 case opt g' v'=>
  refine⟨v',h.2,fun Lw ρ H y b a=>?_⟩;have:=mV h.1 b;simpa[qY,this]using a
 all_goals exact⟨_,h,fun _ _ _ _ _ a=>a⟩
theorem Uo {v:Value} {p:PV} (h:qcq v=some p) (H:(PH Lw)):qO H p v:=by
 unfold qcq at h;split at h<;>(cases h)<;>simp[qO]
theorem HK (H:(PH Lw)):∀{vs:List Value} {a:List PV},qdu vs=some a->zC H a vs
 | [],a,h=>by simp only[qdu]at h; cases h; simp[zC]
 | v::vs,a,h=>by
  simp only[qdu]at h;split at h
  ·rename_i p hp
   split at h
   ·rename_i l b
    cases h;simp only[zC];exact⟨v,vs,rfl,Uo hp H,HK H b⟩
   cases h
  ·cases h
theorem iw (v:Value) (ρ:List Value) (H:(PH Lw)):qY ρ H (qe0 v) v:=by
 unfold qe0;split
 ·simp[qY,qO,zC]
 ·split
  ·rename_i h
   simp only[qY,qO];exact⟨_,rfl,HK H h⟩
  trivial
 split
 ·rename_i h; exact Uo h H
 trivial
theorem Vr {ρ:List Value} {H:(PH Lw)} {e:Nat->FV} {a:Act} (h:∀ t,qY ρ H (e t) (a.tmps.getD t undef)) (x:Operand):qY ρ H (evF e x) (a.eval x):=by
 cases x with
 | tmp t=>exact h t
 | const v=>exact iw v ρ H
 | func f=>simp[evF,qY,qO,Act.eval]
 | global g=>trivial
theorem rB {ρ:List Value} {H:(PH Lw)} {b:Bool} {x:Value} (h:qY ρ H (.p (.bool b)) x):x=.bool b:=by simpa[qY,qO]using h
theorem vD {ρ:List Value} {H:(PH Lw)} {k:IntKind} {n:Int} {x:Value} (h:qY ρ H (.p (.int k n)) x):x=.int k n:=by simpa[qY,qO]using h
theorem QX {ρ:List Value} {H:(PH Lw)} {l:List UInt8} {x:Value} (h:qY ρ H (.p (.str l)) x):x=.string ⟨l.toArray⟩:=by simpa[qY,qO]using h
theorem bw {ρ:List Value} {H:(PH Lw)} {b:Bool}:qY ρ H (.p (.bool b)) (.bool b):=by simp[qY,qO]
theorem bJ {ρ:List Value} {H:(PH Lw)} {k:IntKind} {n:Int}:qY ρ H (.p (.int k n)) (.int k n):=by simp[qY,qO]
theorem EB {ρ:List Value} {H:(PH Lw)} {l:List UInt8}:qY ρ H (.p (.str l)) (.string ⟨l.toArray⟩):=by simp[qY,qO]
theorem rO {α:Type}:∀{n:Nat} {l:List α} {R:List α->Prop},CR n l R->R (l.take n)/\n<=l.length
 | 0,l,R,h=>by simpa[CR]using h
 | n+1,[],R,h=>by simp[CR]at h
 | n+1,a::l,R,h=>by
  have:=rO (n:=n) (l:=l) (R:=fun l=>R (a::l)) h
  simpa using this
theorem rJ {α:Type}:∀{n:Nat} {l:List α} {R:List α->Prop},BF n l R->R (l.drop n)/\n<=l.length
 | 0,l,R,h=>by simpa[BF]using h
 | n+1,[],R,h=>by simp[BF]at h
 | n+1,a::l,R,h=>by simpa using rJ (n:=n) (l:=l) (R:=R) h
theorem xg {α:Type}:∀{n:Nat} {l:List α} {R:α->Prop},Zm n l R->∃ a,l[n]? =some a/\R a
 | 0,[],R,h=>by simp[Zm]at h
 | 0,a::l,R,h=>⟨a,by simp,h⟩
 | n+1,[],R,h=>by simp[Zm]at h
 | n+1,a::l,R,h=>by simpa using xg (n:=n) (l:=l) (R:=R) h
theorem gw {α:Type}:∀{n:Nat} {x:α} {l:List α} {R:List α->Prop},GF n x l R->R (l.set n x)/\n<l.length
 | 0,x,[],R,h=>by simp[GF]at h
 | 0,x,a::l,R,h=>by simpa[GF]using h
 | n+1,x,[],R,h=>by simp[GF]at h
 | n+1,x,a::l,R,h=>by simpa using gw (n:=n) (x:=x) (l:=l) (R:=fun l=>R (a::l)) h
theorem gh {α:Type}:∀{l:List α} {x:α} {R:List α->Prop},VC l x R->R (l++[x])
 | [],x,R,h=>by simpa[VC]using h
 | a::l,x,R,h=>gh (l:=l) (x:=x) (R:=fun l=>R (a::l)) h
theorem vC {α:Type}:∀{l:List α} {n:Nat} {R:Nat->Prop},Fj l n R->R (n+l.length)
 | [],n,R,h=>by simpa[Fj]using h
 | a::l,n,R,h=>by
  have:=vC (l:=l) (n:=n+1) (R:=R) h;simpa[Nat.add_comm,Nat.add_left_comm,Nat.add_assoc]using this
theorem Cr {P:Program} {t f:Nat} {R:Nat->TypeId->Prop} (h:Nj P t f R) :
  ∃ b x i,P.underlying t=some (.struct b)/\b[f]? =some x/\P.info? x.type=some i/\i.size≠0/\R x.offset x.type:=by
 unfold Nj at h;split at h
 ·rename_i b hu
  obtain⟨x,c,a⟩:=xg h;split at a
  ·rename_i i d
   split at a
   ·exact a.elim
   rename_i hz;exact⟨_,x,i,hu,by simpa using c,d,fun e=>by simp[e]at hz,a⟩
  exact a.elim
 exact h.elim
theorem fE {P:Program} {t:TypeId} {R:Bool->Nat->Prop} (h:Qt P t R) :
  ∃ d i,P.underlying t=some d/\P.info? t=some i/\R (lS d) i.size:=by
 unfold Qt at h;split at h
 ·rename_i d a
  split at h
  ·rename_i i b; exact⟨d,i,a,b,h⟩
  exact h.elim
 exact h.elim
theorem bW {P:Program} {t:TypeId} {R:TypeId->Nat->Prop} (h:BG P t R) :
  ∃ e i,P.underlying t=some (.slice e)/\P.info? e=some i/\R e i.size:=by
 unfold BG at h;split at h
 ·rename_i e he
  split at h
  ·rename_i i a; exact⟨e,i,he,a,h⟩
  exact h.elim
 exact h.elim
theorem Ta {v:FV} {R:PV->Prop} (h:qcn v R):∃ p,R p/\∀ ⦃Lw:Nat⦄ (ρ:List Value) (H:PH Lw) (x:Value),qY ρ H v x->qO H p x:=by
 cases v<;>simp only[qcn]at h
 case p p=>exact⟨p,h,fun _ _ _ _ r=>r⟩
 case tsl k rows=>exact⟨_,h,fun _ _ _ _ r=>r.2⟩
 case hptr row=>exact⟨_,h,fun _ _ _ _ r=>by simp only[qY]at r; simp only[qO]; exact r⟩
theorem Qf:∀{c:FV} {R:List PV->Prop},UU c R->∃ d,R d/\∀ ⦃Lw:Nat⦄ (ρ:List Value) (H:(PH Lw)) (vs:List Value),qY ρ H c (.tuple vs.toArray)->zC H d vs
 | .cap0,R,h=>⟨[],h,fun Lw ρ H vs r=>by
   simp only[qY,Value.tuple.injEq]at r;simpa[zC]using r⟩
 | .cap a b,R,h=>by
  simp only[UU]at h;obtain⟨p,h,hp⟩:=Ta h;obtain⟨d,h,f⟩:=Qf h;refine⟨_,h,fun Lw ρ H vs r=>?_⟩;obtain⟨u,us,e,g,i⟩:=r;have e:vs=u::us:=by simpa using e
  subst e;simp only[zC];exact⟨u,us,rfl,hp _ _ _ g,f _ _ _ i⟩
 | .top,_,h|.p _,_,h|.opt _ _,_,h|.tsl _ _,_,h|.ptr _ _,_,h|.hptr _,_,h|.bself _,_,h|.bsl _ _ _ _,_,h|.vsl _ _,_,h|.eptr _ _ _ _,_,h|.mref _,_,h|.pair _ _,_,h|.stmp _,_,h|.clo _ _,_,h|.fagg _,_,h|.nxt _ _ _,_,h|.asl _ _ _,_,h|.ifs _ _,_,h|.cut _,_,h=>by
  simp[UU]at h
theorem mU {v:FV} {R:PV->Prop} (h:Nn v R):∃ p,R p/\∀ ⦃Lw:Nat⦄ (ρ:List Value) (H:PH Lw) (x:Value),qY ρ H v x->qO H p x:=by
 cases v<;>simp only[Nn]at h
 case p p=>exact⟨p,h,fun _ _ _ _ r=>r⟩
 case tsl k rows=>exact⟨_,h,fun _ _ _ _ r=>r.2⟩
 case hptr row=>exact⟨_,h,fun _ _ _ _ r=>by simp only[qY]at r; simp only[qO]; exact r⟩
 case clo f c=>
  obtain⟨b,h,a⟩:=Qf h;exact⟨_,h,fun Lw ρ H x r=>by obtain⟨vs,e,rc⟩:=r; simp only[qO]; exact⟨vs,e,a _ _ _ rc⟩⟩
 case fagg c=>
  obtain⟨b,h,a⟩:=Qf h;exact⟨_,h,fun Lw ρ H x r=>by obtain⟨vs,e,rc⟩:=r; simp only[qO]; exact⟨vs,e,a _ _ _ rc⟩⟩
theorem pf:∀{l:List FV} {R:List PV->Prop},No l R->∃ a,R a/\∀ ⦃Lw:Nat⦄ (ρ:List Value) (H:PH Lw) (vs:List Value),xa ρ H l vs->zC H a vs
 | [],R,h=>⟨[],h,fun _ _ vs r=>by simpa[zC,xa]using r⟩
 | v::l,R,h=>by
  simp only[No]at h;obtain⟨p,h1,h2⟩:=mU h;obtain⟨a,h3,h4⟩:=pf h1;refine⟨_,h3,fun Lw ρ H vs r=>?_⟩;obtain⟨x,b,e,c,d⟩:=r;simp only[zC];exact⟨x,b,e,h2 _ _ _ c,h4 _ _ _ d⟩
theorem ry {E:Env} {g:G}:∀{l:List Operand} {R:List FV->Prop},evL E g l R ->
  ∃ vs,R vs/\∀ ⦃Lw:Nat⦄ (ρ:List Value) (H:PH Lw) (eval:Operand->Value),gOn g->(∀ x∈l,qY ρ H (evF (qW E) x) (eval x))->xa ρ H vs (l.map eval)
 | [],R,h=>⟨[],h,fun _ _ _ _ _ _=>by simp[xa]⟩
 | x::l,R,h=>by
  simp only[evL]at h;obtain⟨v,h1,h2⟩:=qU h;obtain⟨vs,h3,h4⟩:=ry h1;refine⟨_,h3,fun Lw ρ H eval a b=>?_⟩;simp only[jk,xa];exact⟨_,_,rfl,h2 _ _ _ a (b x (by simp)),h4 _ _ _ a (fun y c=>b y (by simp[c]))⟩
theorem Za (l:List UInt8):(⟨l.toArray⟩:ByteArray).size=l.length:=ByteArray.size_mk_toArray l
section
variable {P:Program} {bs:(Base Lw)} {ρ:List Value} {H:(PH Lw)} {lo:List AObj} {w:World}
theorem Fm {t:TypeId} (hu:P.underlying t=some .bool) (n:Nat) (a b:Bool):(Op.equalIn (n+1) t (.bool a) (.bool b)).run P w=.ok (a==b) w:=by
 simp[Op.equalIn,kru hu]
theorem BK {t:TypeId} (hu:P.underlying t=some .bool) (a b:Bool):(Op.equal t (.bool a) (.bool b)).run P w=.ok (a==b) w:=
 Fm hu 9999 a b
theorem Qp {t:TypeId} {d:TypeDesc} (hu:P.underlying t=some d):(isAgg t).run P w=.ok (lS d) w:=by
 simp only[isAgg,kf,kru hu,ke];cases d<;>rfl
def eqV:List PV->List PV->Option Bool
 | [],[]=>some true
 | .int k a::az,.int k' b::bs=>match Gw k k' with
  | true=>(eqV az bs).map fun c=>bif a==b then c else false
  | false=>none
 | .str a::az,.str b::bs=>(eqV az bs).map fun c=>bif a==b then c else false
 | .bool a::az,.bool b::bs=>(eqV az bs).map fun c=>bif a==b then c else false
 | _,_=>none
theorem Hf:∀{az bs:List PV} {R:Bool->Prop},SO az bs R->∃ c,R c/\eqV az bs=some c:=by
 intro az
 induction az with
 | nil=>intro bs R h; cases bs with
  | nil=>exact⟨true,h,rfl⟩
  | cons b bs=>simp[SO]at h
 | cons a az ih=>
  intro bs R h;cases bs with
  | nil=>cases a<;>simp[SO]at h
  | cons b bs=>
   cases a<;>cases b<;>first
    | (simp[SO]at h; done)
    | (simp only[SO]at h; obtain⟨c,d,e⟩:=ih h; exact⟨_,d,by simp[eqV,e]⟩)
    | skip
   simp only[SO]at h;split at h
   ·rename_i f
    obtain⟨c,d,e⟩:=ih h;exact⟨_,d,by simp[eqV,f,e]⟩
   exact h.elim
theorem SA (a b:List UInt8):((⟨a.toArray⟩:ByteArray).toList==(⟨b.toArray⟩:ByteArray).toList)=(a==b):=by
 rw[ByteArray.toList_eq,ByteArray.toList_eq]
theorem Lf {H:(PH Lw)} {xs ys:Array Value}:∀{fs:List Field} {o:Nat} {az bs:List PV} {va vb:List Value} {c:Bool},PF P fs o az=true->zC H az va->zC H bs vb ->
  (∀ j v,va[j]? =some v->xs[o+j]? =some v)->(∀ j v,vb[j]? =some v->ys[o+j]? =some v)->eqV az bs=some c->(Op.eqFields 9999 xs ys fs).run P w=.ok c w:=by
 intro fs
 induction fs with
 | nil=>
  intro o az bs va vb c hf ra rb hx hy he;cases az with
  | nil=>cases bs with
   | nil=>simp[eqV]at he; subst he; simp[Op.eqFields]
   | cons b bs=>simp[eqV]at he
  | cons a az=>simp[PF]at hf
 | cons f fs ih=>
  intro o az bs va vb c hf ra rb hx hy he;cases az with
  | nil=>simp[PF]at hf
  | cons a az=>
   cases bs with
   | nil=>cases a<;>simp[eqV]at he
   | cons b bs=>
    simp only[PF,ji]at hf;obtain⟨⟨⟨hn,ho⟩,hk⟩,hf⟩:=hf;have hn:f.name ≠ "_" :=by simpa using hn
    have ho:f.offset=o:=jm ho;simp only[zC]at ra rb;obtain⟨v,va',rfl,rv,ra'⟩:=ra;obtain⟨u,vb',rfl,ru,rb'⟩:=rb;have hxv:=hx 0 v rfl;have hyu:=hy 0 u rfl;simp only[Nat.add_zero]at hxv hyu;have step:∀{x y:Bool},eqV az bs=some y->(Op.eqFields 9999 xs ys fs).run P w=.ok y w:=fun{x y} hxy=>
     ih hf ra' rb' (fun j v hv=>by rw[Nat.add_assoc,Nat.add_comm 1 j]; exact hx (j+1) v hv) (fun j v hv=>by rw[Nat.add_assoc,Nat.add_comm 1 j]; exact hy (j+1) v hv) hxy
    have fin:∀{d:TypeDesc} {q:Bool},P.underlying f.type=some d->lS d=false->(Op.equalIn 9999 f.type v u).run P w=.ok q w->((eqV az bs).map fun c=>bif q then c else false)=some c ->
      (Op.eqFields 9999 xs ys (f::fs)).run P w=.ok c w:=by
     intro d q hu ha hq hc;cases he2:eqV az bs with
     | none=>rw[he2]at hc; cases hc
     | some y=>
      rw[he2]at hc;have hc:(bif q then y else false)=c:=by simpa using hc
      simp only[Op.eqFields,if_pos hn,kf,part,ho,Qp hu,ha,ke,hxv,hyu];simp[hq];cases q with
      | true=>simp at hc; subst hc; simpa using step (x:=true) he2
      | false=>simp at hc; subst hc; simp
    cases a<;>cases b<;>simp only[eqV]at he<;>first|(cases he; done)|skip
    ·split at hk
     all_goals first
      | (cases hk; done)
      | (rename_i hu hq; cases hq; done)
      | (rename_i hu hq; simp only[qO]at rv ru; subst rv ru; exact fin hu rfl (run_equalIn_bool' w _ _ _ _ hu) he)
    ·split at he
     ·rename_i hkk
      have hkk:=nD hkk;subst hkk;split at hk
      all_goals first
       | (cases hk; done)
       | (rename_i hu hq; cases hq; done)
       | (rename_i hu hq; simp only[qO]at rv ru; subst rv ru; exact fin hu rfl (run_equalIn_int w _ _ _ _ _ _ hu) he)
     ·cases he
    split at hk
    all_goals first
     | (cases hk; done)
     | (rename_i hu hq; cases hq; done)
     | (rename_i hu hq; simp only[qO]at rv ru; subst rv ru; exact fin hu rfl (run_equalIn_string w _ _ _ _ hu) (by rw[SA]; exact he))
theorem Mz {H:(PH Lw)} {e:TypeId} (hu:P.underlying e=some .bool) {xs ys:Array Value}:∀{az bs:List PV} {k l:List Value} {o:Nat} {c:Bool},MQ az=true->zC H az k->zC H bs l ->
  (∀ j v,k[j]? =some v->xs[o+j]? =some v)->(∀ j v,l[j]? =some v->ys[o+j]? =some v)->eqV az bs=some c->(Op.eqItems 9999 e 1 xs ys (List.range' o az.length)).run P w=.ok c w:=by
 intro az
 induction az with
 | nil=>
  intro bs k l o c hf m n p q he;cases bs with
  | nil=>simp[eqV]at he; subst he; simp[Op.eqItems]
  | cons b bs=>simp[eqV]at he
 | cons a az ih=>
  intro bs k l o c hf m n p q he;cases bs with
  | nil=>cases a<;>simp[eqV]at he
  | cons b bs=>
   simp only[zC]at m n;obtain⟨v,A,rfl,rv,r⟩:=m;obtain⟨u,B,rfl,z,s⟩:=n;have g:=p 0 v rfl;have i:=q 0 u rfl;simp only[Nat.add_zero]at g i;cases a<;>simp only[MQ]at hf<;>first|(cases hf; done)|skip
   cases b<;>simp only[eqV]at he<;>first|(cases he; done)|skip
   rename_i a b;simp only[qO]at rv z;subst rv z;cases d:eqV az bs with
   | none=>rw[d]at he; cases he
   | some y=>
    rw[d]at he;have f:(bif a==b then y else false)=c:=by simpa using he
    have step:=ih (o:=o+1) hf r s (fun j v t=>by rw[Nat.add_assoc,Nat.add_comm 1 j]; exact p (j+1) v t) (fun j v t=>by rw[Nat.add_assoc,Nat.add_comm 1 j]; exact q (j+1) v t) d
    have C:=run_equalIn_bool' (P:=P) (w:=w) 9998 e a b hu;simp only[ja,List.range'_succ,Op.eqItems,kf,part,Nat.mul_one,Qp hu,lS,ke,g,i];simp[C];cases h:a==b with
    | true=>rw[h]at f; simp at f; subst f; have x:a=b:=(by simpa using h); simpa[x]using step
    | false=>rw[h]at f; simp at f; subst f; have x:¬ a=b:=(by simpa using h); simp[x]
theorem Le {H:(PH Lw)} {t:TypeId} {az bs:List PV} {d f:List Value} {c:Bool} (hf:aI P t az=true) (g:zC H az d) (h:zC H bs f) (he:eqV az bs=some c) :
  P.eqGuardType P.depth t=false/\(Op.equalIn 10000 t (.agg d.toArray) (.agg f.toArray)).run P w=.ok c w:=by
 unfold aI at hf;split at hf
 ·rename_i n e hu
  simp only[MP,ji,Bool.not_eq_true']at hf;obtain⟨⟨⟨⟨⟨h1,h2⟩,h3⟩,h4⟩,h5⟩,k⟩:=hf;refine⟨h1,?_⟩;have l:P.underlying e=some .bool:=by
   split at h2
   ·assumption
   cases h2
  obtain⟨i,m⟩:=Option.isSome_iff_exists.1 h3;rw[run_equalIn_array w 9999 _ _ hu m,jm h4,jm h5,List.range_eq_range'];exact Mz (o:=0) l k g h (fun j v a=>by simpa using a) (fun j v a=>by simpa using a) he
 ·rename_i p hu
  simp only[ji,Bool.not_eq_true']at hf;obtain⟨⟨h1,h2⟩,h3⟩:=hf;refine⟨h2,?_⟩;have b:P.fieldsOf t=⟨p⟩:=by simp[Program.fieldsOf,hu]
  rw[run_equalIn_agg w 9999 t _ _ (by rw[b]; exact hu) h1,b];exact Lf (o:=0) h3 g h (fun j v a=>by simpa using a) (fun j v a=>by simpa using a) he
 cases hf
theorem Tz {g:G} {op:BinOp} {t:TypeId} {x y:FV} {R:FV->Prop} (h:qfh P g op t x y R) :
  ∃ s,R s/\(gOn g->∀ ⦃Lw:Nat⦄ (ρ:List Value) (H:(PH Lw)) (w:World) (i j:Operand) (a b:Value),qY ρ H x a->qY ρ H y b ->
   ∃ v,(do eqGuard op t i j a b; binOp op t a b:Sem Value).run P w=.ok v w/\qY ρ H s v):=by
 unfold qfh at h;split at h
 ·rename_i k n
  split at h
  ·rename_i k' m
   split at h
   ·refine⟨_,h.2,fun f Lw ρ H w i j a b d e=>?_⟩
    rw[vD d,vD e];have p:=mV h.1 f;exact⟨_,by simp[eqGuard,binOp,Op.shift,show ¬ m<0 by omega],bJ⟩
   ·refine⟨_,h.2,fun f Lw ρ H w i j a b d e=>?_⟩
    rw[vD d,vD e];have p:=mV h.1 f;exact⟨_,by simp[eqGuard,binOp,Op.shift,show ¬ m<0 by omega],bJ⟩
   ·split at h
    case h_2=>exact h.elim
    rename_i o;have o:=nD o;obtain⟨p,h⟩:=h;refine⟨_,h,fun f Lw ρ H w i j a b d e=>?_⟩;rw[vD d,vD e];have p:=mV p f;exact⟨_,by simp[eqGuard,binOp,Op.intDiv,o,p],bJ⟩
   ·split at h
    case h_2=>exact h.elim
    rename_i o;have o:=nD o;obtain⟨p,h⟩:=h;refine⟨_,h,fun f Lw ρ H w i j a b d e=>?_⟩;rw[vD d,vD e];have p:=mV p f;exact⟨_,by simp[eqGuard,binOp,Op.intDiv,o,p],bJ⟩
   split at h
   case h_2=>exact h.elim
   rename_i o;have o:=nD o;subst o;unfold qf7 at h;split at h<;>first
    | exact h.elim
    | (refine⟨_,h,fun f Lw ρ H w i j a b d e=>?_⟩; rw[vD d,vD e]; exact⟨_,by simp[eqGuard,binOp,Op.intArith,Op.intBits,Op.intCmp]<;>rfl,by simp[qY,qO]⟩)
  ·exact h.elim
 ·rename_i l
  split at h
  ·rename_i m
   unfold qf8 at h;split at h
   ·obtain⟨q,h⟩:=h
    refine⟨_,h,fun f Lw ρ H w i j a b d e=>?_⟩;rw[QX d,QX e];have q:=mV q f;refine⟨.string ⟨(l++m).toArray⟩,?_,EB⟩;have:=run_string_add_sum (P:=P) w ⟨l.toArray⟩ ⟨m.toArray⟩ (by rw[Za,Za]; unfold te at q; omega);simp[eqGuard,binOp,this,ByteArray.mk_append_mk]
   all_goals first
    | exact h.elim
    | (refine⟨_,h,fun f Lw ρ H w i j a b d e=>?_⟩; rw[QX d,QX e]; exact⟨_,by simp[eqGuard,binOp,Op.stringOp]<;>rfl,by simp[qY,qO]⟩)
  ·exact h.elim
 ·rename_i A
  split at h
  ·rename_i B
   unfold Tx at h;split at h
   ·rename_i hu
    unfold qf6 at h;split at h<;>first
     | exact h.elim
     | (refine⟨_,h,fun f Lw ρ H w i j a b d e=>?_⟩; rw[rB d,rB e]; exact⟨_,by simp only[eqGuard,binOp,kf,BK hu]; rfl,by simp[qY,qO]⟩)
   ·exact h.elim
  exact h.elim
 ·rename_i az
  split at h
  ·rename_i bs
   split at h
   ·obtain⟨hf,h⟩:=h
    obtain⟨c,r,he⟩:=Hf h;refine⟨_,r,fun f Lw ρ H w i j a b d e=>?_⟩;simp only[qY,qO]at d e;obtain⟨u,rfl,d⟩:=d;obtain⟨z,rfl,e⟩:=e;obtain⟨h1,h2⟩:=Le (w:=w) hf d e he;exact⟨.bool c,by rw[kf,run_eqGuard_agg w _ t i j _ _ h1,ke,run_eql_struct,h2]; rfl,by simp[qY,qO]⟩
   ·obtain⟨hf,h⟩:=h
    obtain⟨c,r,he⟩:=Hf h;refine⟨_,r,fun f Lw ρ H w i j a b d e=>?_⟩;simp only[qY,qO]at d e;obtain⟨u,rfl,d⟩:=d;obtain⟨z,rfl,e⟩:=e;obtain⟨h1,h2⟩:=Le (w:=w) hf d e he;exact⟨.bool (!c),by rw[kf,run_eqGuard_agg w _ t i j _ _ h1,ke,run_neq_struct,h2]; rfl,by simp[qY,qO]⟩
   exact h.elim
  exact h.elim
 exact h.elim
theorem Md {t:TypeId} {x:FV} {f:Nat} {R:FV->Prop} (h:TD P t x f R) :
  ∃ l,R l/\∀ ⦃Lw:Nat⦄ (ρ:List Value) (H:(PH Lw)) (w:World) (a:Value),qY ρ H x a->∃ v,(Instr.fieldAt t a f).run P w=.ok v w/\qY ρ H l v:=by
 unfold TD at h;split at h
 ·rename_i k off
  obtain⟨n,y,i,hu,hf,e,hz,d⟩:=Cr h;refine⟨_,d,fun Lw ρ H w a g=>?_⟩;obtain⟨b,p,rfl⟩:=g;exact⟨.pointer (some ⟨b,off+y.offset,none⟩),by simp[Instr.fieldAt,kru hu,hf,Instr.sureAddr,fieldPlace,Go.sizeOf,typeInfo,e,hz,Addr.add_lit],b,p,rfl⟩
 ·rename_i row
  obtain⟨n,y,i,hu,hf,e,hz,d⟩:=Cr h;obtain⟨d,hlen⟩:=rJ d;refine⟨_,d,fun Lw ρ H w a g=>?_⟩;obtain⟨b,o,vs,rfl,q,c⟩:=g;refine⟨.pointer (some ⟨b,o+y.offset,none⟩),by simp[Instr.fieldAt,kru hu,hf,Instr.sureAddr,fieldPlace,Go.sizeOf,typeInfo,e,hz,Addr.add_lit],b,o+y.offset,vs.drop y.offset,rfl,q.drop _,fun j v m=>?_⟩;rw[jD]at m;have:=c _ _ m
  rwa [← Nat.add_assoc]at this
 ·exact h.elim
 exact h.elim
theorem Gs {ρ:List Value} {H:(PH Lw)} {w:World} {t e:TypeId} {f:TypeInfo} (hu:P.underlying t=some (.slice e)) (j:P.info? e=some f) {rows:List (List PV)} {a:Value} (h:qO H (.sl rows) a)
  {k:IntKind} {i:Int} {row:List PV} (l:0<=i) (d:rows[i.toNat]? =some row) (hlen:row.length=f.size) :
  ∃ v,(Instr.indexAt t a (.int k i)).run P w=.ok v w/\qY ρ H (.hptr row) v:=by
 simp only[qO]at h;rcases h with ⟨rfl,_⟩|⟨b,o,z,cap,rfl,n,m⟩
 ·simp at d
 obtain⟨hz,vs,q,c⟩:=m.get d;have g:i<rows.length:=by have:=(jG.1 d).1; omega
 refine⟨.pointer (some ⟨b,o+i.toNat * f.size,none⟩),?_,b,_,vs,rfl,q,?_⟩
 ·simp[Instr.indexAt,kru hu,asIntOf,l,g,Go.sizeOf,typeInfo,j,Addr.add_lit]
 rw[← hlen,hz]; exact c
theorem Cw {g:G} {t:TypeId} {x i:FV} {R:FV->Prop} (h:UZ P g t x i R) :
  ∃ y,R y/\(gOn g->∀ ⦃Lw:Nat⦄ (ρ:List Value) (H:(PH Lw)) (w:World) (a b:Value),qY ρ H x a->qY ρ H i b->∃ v,(Instr.indexAt t a b).run P w=.ok v w/\qY ρ H y v):=by
 unfold UZ at h;split at h
 ·obtain⟨e,q,hu,c,row,d,f⟩:=bW h
  refine⟨_,f,fun l Lw ρ H w a b m o=>?_⟩;obtain⟨r,h1,h2⟩:=mV d l;rw[vD o];exact Gs hu c m r h1 h2
 ·obtain⟨e,q,hu,c,row,d,f⟩:=bW h
  refine⟨_,f,fun l Lw ρ H w a b m o=>?_⟩;obtain⟨r,h1,h2⟩:=mV d l;rw[vD o];exact Gs hu c m.2 r h1 h2
 ·rename_i k off A n
  split at h
  ·rename_i len e hu
   split at h
   ·rename_i q c
    obtain⟨s,f⟩:=h;refine⟨_,f,fun l Lw ρ H w a b m o=>?_⟩;obtain⟨r,h1⟩:=mV s l;obtain⟨p,d,rfl⟩:=m;rw[vD o];refine⟨.pointer (some ⟨p,off+n.toNat * q.size,none⟩),?_,p,d,rfl⟩;simp[Instr.indexAt,kru hu,asIntOf,Instr.sureAddr,r,h1,Go.sizeOf,typeInfo,c,Addr.add_lit]
   exact h.elim
  exact h.elim
 ·rename_i k n A i0
  obtain⟨e,q,hu,c,j,s,f⟩:=bW h;refine⟨_,f,fun l Lw ρ H w a b m o=>?_⟩;obtain⟨rfl,u⟩:=mV s l;obtain⟨d,⟨r,_⟩|⟨p,cap,rfl⟩⟩:=m
  ·omega
  rw[vD o];refine⟨.pointer (some ⟨p,j * q.size,none⟩),?_,p,n,cap,d,by rw[Nat.add_zero]⟩;simp[Instr.indexAt,kru hu,asIntOf,u,Go.sizeOf,typeInfo,c,Addr.add_lit]
 ·exact h.elim
 ·exact h.elim
 ·rename_i k z A i0
  split at h
  ·rename_i len e hu
   split at h
   ·rename_i q c
    split at h
    ·rename_i hz
     have hz:q.size=1:=jm hz;obtain⟨j,s,f⟩:=h;refine⟨_,f,fun l Lw ρ H w a b m o=>?_⟩;obtain⟨rfl,rfl,u⟩:=mV s l;obtain⟨p,n,cap,d,rfl⟩:=m;rw[vD o];refine⟨.pointer (some ⟨p,j,none⟩),?_,p,n,cap,d,by simp⟩;simp[Instr.indexAt,kru hu,asIntOf,Instr.sureAddr,u,Go.sizeOf,typeInfo,c,hz,Addr.add_lit]
    exact h.elim
   exact h.elim
  exact h.elim
 exact h.elim
theorem Me {g:G} {t:TypeId} {x i:FV} {R:FV->Prop} (h:TE P g t x i R) :
  ∃ A,R A/\(gOn g->∀ ⦃Lw:Nat⦄ (ρ:List Value) (H:(PH Lw)) (w:World) (a b:Value),qY ρ H x a->qY ρ H i b->∃ v,(Instr.index t a b).run P w=.ok v w/\qY ρ H A v):=by
 unfold TE at h;split at h
 ·rename_i l k n
  split at h
  ·rename_i hu
   obtain⟨b,m,o⟩:=h;refine⟨_,o,fun p Lw ρ H w x y j r=>?_⟩;obtain⟨s,h1⟩:=mV m p;rw[QX j,vD r];refine⟨_,?_,bJ⟩;have u:=(jG.1 h1).1;have D:(⟨l.toArray⟩:ByteArray)[n.toNat]? =some b:=by
    rw[ByteArray.getElem?_lt' _ _ (by rw[Za]; exact u)];have:=(jG.1 h1).2;rw[← this];rfl
   simp[Instr.index,asIntOf,kru hu,s,D]
  exact h.elim
 ·rename_i cs k n
  split at h
  ·rename_i len e hu
   obtain⟨d,z,B,C,h⟩:=fE h;split at h
   ·rename_i f
    split at h
    ·rename_i hz
     have hz:z.size=1:=jm hz;obtain⟨c,m,o⟩:=h;refine⟨_,o,fun p Lw ρ H w x y j r=>?_⟩;obtain⟨s,h1,h2⟩:=mV m p;simp only[qY,qO]at j;obtain⟨vs,rfl,q⟩:=j;obtain⟨v,E,rv⟩:=q.get h2;rw[vD r];refine⟨v,?_,rv⟩;simp[Instr.index,asIntOf,kru hu,s,h1,Go.sizeOf,typeInfo,C,hz,part,Qp B,f,E]
    exact h.elim
   rename_i f;obtain⟨c,m,o⟩:=h;refine⟨_,o,fun p Lw ρ H w x y j r=>?_⟩;obtain⟨s,h1,h2⟩:=mV m p;simp only[qY,qO]at j;obtain⟨vs,rfl,q⟩:=j;rw[vD r];refine⟨.agg ((vs.drop (n.toNat * z.size)).take z.size).toArray,?_,?_⟩
   ·simp[Instr.index,asIntOf,kru hu,s,h1,Go.sizeOf,typeInfo,C,part,Qp B,f,List.extract_toArray,List.extract_eq_take_drop]
   simp only[qY,qO];exact⟨_,rfl,by rw[← h2]; exact(q.drop _).take _⟩
  exact h.elim
 exact h.elim
theorem TF {t:TypeId} {x:FV} {R:FV->Prop} (h:qfj P t x R) :
  ∃ d,R d/\∀ ⦃Lw:Nat⦄ (ρ:List Value) (H:(PH Lw)) (w:World) (ty:TypeId) (a:Value),qY ρ H x a->∃ v,(Builtin.len_ #[t] ty #[a]).run P w=.ok v w/\qY ρ H d v:=by
 have slice:∀(e:TypeId),P.underlying t=some (.slice e)->∀(rows:List (List PV)) ⦃Lw:Nat⦄ (H:(PH Lw)) (w:World) (ty:TypeId) (a:Value),qO H (.sl rows) a->(Builtin.len_ #[t] ty #[a]).run P w=.ok (.int .i64 rows.length) w:=by
  intro e hu rows Lw H w ty a c;simp only[qO]at c;rcases c with ⟨rfl,rfl|⟨g,f,rfl⟩⟩|⟨b,o,z,cap,rfl,_,_⟩
  ·simp[Builtin.len_,kru hu,goInt]
  ·simp[Builtin.len_,kru hu,goInt]
  simp[Builtin.len_,kru hu,goInt]
 unfold qfj at h;split at h
 ·rename_i l
  split at h
  ·rename_i hu
   refine⟨_,h,fun Lw ρ H w ty a c=>⟨.int .i64 l.length,?_,bJ⟩⟩;rw[QX c];simp[Builtin.len_,kru hu,goInt,Za]
  exact h.elim
 ·rename_i rows
  split at h
  ·rename_i e hu
   exact⟨_,h,fun Lw ρ H w ty a c=>⟨_,slice e hu rows H w ty a c,bJ⟩⟩
  exact h.elim
 ·rename_i k rows
  split at h
  ·rename_i e hu
   exact⟨_,h,fun Lw ρ H w ty a c=>⟨_,slice e hu rows H w ty a c.2,bJ⟩⟩
  exact h.elim
 ·rename_i k off n cap
  split at h
  ·rename_i e hu
   refine⟨_,h,fun Lw ρ H w ty a c=>⟨.int .i64 n,?_,bJ⟩⟩;obtain⟨b,_,_,rfl,_⟩:=c;simp[Builtin.len_,kru hu,goInt]
  exact h.elim
 ·rename_i k n
  split at h
  ·rename_i e hu
   refine⟨_,h,fun Lw ρ H w ty a c=>⟨.int .i64 n,?_,bJ⟩⟩;obtain⟨_,⟨rfl,rfl⟩|⟨b,cap,rfl⟩⟩:=c<;>simp[Builtin.len_,kru hu,goInt]
  exact h.elim
 ·split at h
  ·rename_i e hu
   refine⟨_,h,fun Lw ρ H w ty a c=>⟨.int .i64 0,?_,bJ⟩⟩;simp only[qY,qO]at c;subst c;simp[Builtin.len_,kru hu,goInt]
  exact h.elim
 exact h.elim
theorem Eh {s d:TypeId} {x:FV} {R:FV->Prop} (h:Eg P s d x R) :
  ∃ b,R b/\∀ ⦃Lw:Nat⦄ (ρ:List Value) (H:(PH Lw)) (w:World) (a:Value),qY ρ H x a->∃ v,(convert s d a).run P w=.ok v w/\qY ρ H b v:=by
 unfold Eg at h;split at h
 ·split at h
  ·rename_i hu
   split at h
   ·rename_i k c
    refine⟨_,h,fun Lw ρ H w a e=>⟨_,?_,bJ⟩⟩;rw[vD e];simp[convert,kru hu,kru c,Conv.intToInt]
   exact h.elim
  exact h.elim
 ·exact h.elim
 exact h.elim
theorem cT {E:Env} {g:G} {x:Option Operand} {d:Nat} {R:Nat->Prop} (h:Vb E g x d R) :
  ∃ n,R n/\(∀ ⦃Lw:Nat⦄ (ρ:List Value) (H:(PH Lw)) (eval:Operand->Value),gOn g->(∀ y∈x.toArray,qY ρ H (evF (qW E) y) (eval y))->(x=none/\n=d)\/∃ y k,x=some y/\eval y=.int k n):=by
 unfold Vb at h;split at h
 ·exact⟨d,h,fun _ _ _ _ _ _=>.inl ⟨rfl,rfl⟩⟩
 rename_i y;obtain⟨v,h,b⟩:=qU h;split at h
 ·rename_i k i
  obtain⟨n,c,e⟩:=h;refine⟨n,e,fun Lw ρ H eval a f=>.inr ⟨y,k,rfl,?_⟩⟩;rw[vD (b ρ H _ a (f y (by simp))),mV c a]
 exact h.elim
theorem Qo {isSlice:Bool} {len cap:Nat} {lo b:Option Operand} {eval:Operand->Value} {a h:Nat} (c:(lo=none/\a=0)\/∃ y k,lo=some y/\eval y=.int k a)
  (d:(b=none/\h=len)\/∃ y k,b=some y/\eval y=.int k h) (h1:a<=h) (h2:h<=cap) :
  (Instr.sliceBounds isSlice len cap (lo.map eval) (b.map eval) none).run P w=.ok (a,h,cap) w:=by
 rcases c with ⟨rfl,rfl⟩|⟨y,k,rfl,f⟩<;>rcases d with ⟨rfl,rfl⟩|⟨g,k',rfl,e⟩ <;>
  simp[Instr.sliceBounds,Instr.sliceBound,asIntOf, *,Int.toNat_natCast]
theorem Mk {E:Env} {g:G} {t:TypeId} {x:FV} {lo j N:Option Operand} {R:FV->Prop} (h:TK P E g t x lo j N R) :
  ∃ I,R I/\(∀ ⦃Lw:Nat⦄ (ρ:List Value) (H:(PH Lw)) (w:World) (eval:Operand->Value) (v:Value),gOn g->qY ρ H x v->(∀ y∈lo.toArray,qY ρ H (evF (qW E) y) (eval y))->(∀ y∈j.toArray,qY ρ H (evF (qW E) y) (eval y))->(∀ y∈N.toArray,qY ρ H (evF (qW E) y) (eval y)) ->
   ∃ u,(Instr.sliceAt t v (lo.map eval) (j.map eval) (N.map eval)).run P w=.ok u w/\qY ρ H I u):=by
 have rowsCase:∀(e:TypeId) (i:TypeInfo) (rows:List (List PV)) (a h:Nat),P.underlying t=some (.slice e)->P.info? e=some i->(a<=h/\h<=rows.length/\∀ r∈rows,r.length=i.size) ->
   ∀ ⦃Lw:Nat⦄ (H:(PH Lw)) (w:World) (eval:Operand->Value) (v:Value),qO H (.sl rows) v->((lo=none/\a=0)\/∃ y k,lo=some y/\eval y=.int k a)->((j=none/\h=rows.length)\/∃ y k,j=some y/\eval y=.int k h) ->
   ∃ u,(Instr.sliceAt t v (lo.map eval) (j.map eval) none).run P w=.ok u w/\qO H (.sl ((rows.take h).drop a)) u:=by
  intro e i rows a h hu j O Lw H w eval v rv p c;obtain⟨h1,h2,h3⟩:=O;simp only[qO]at rv ⊢;rcases rv with ⟨rfl,rfl|⟨L,d,rfl⟩⟩|⟨b,o,z,cap,rfl,M,K⟩
  rotate_left
  ·have C:h=0:=by simpa using h2
   subst C;have Q:a=0:=by omega
   subst Q;have:=Qo (P:=P) (w:=w) (isSlice:=true) (len:=0) (cap:=d) p (by simpa using c) (jw 0) (jS _);by_cases f:d=0
   ·subst f
    refine⟨.slice (some L) 0 0,?_,.inl ⟨by simp,.inr ⟨_,_,rfl⟩⟩⟩;simp[Instr.sliceAt,Instr.slice,kru hu,this,Go.sizeOf,typeInfo,j]
   refine⟨.slice (some (L.add 0)) 0 d,?_,.inl ⟨by simp,.inr ⟨_,_,rfl⟩⟩⟩;simp[Instr.sliceAt,Instr.slice,kru hu,this,Go.sizeOf,typeInfo,j,f]
  rotate_right
  ·have C:h=0:=by simpa using h2
   subst C;have Q:a=0:=by omega
   subst Q;have:=Qo (P:=P) (w:=w) (isSlice:=true) (len:=0) (cap:=0) p (by simpa using c) (jw 0) (jw 0);refine⟨.slice none 0 0,?_,.inl ⟨by simp,.inl rfl⟩⟩;simp[Instr.sliceAt,Instr.slice,kru hu,this,Go.sizeOf,typeInfo,j]
  have:=Qo (P:=P) (w:=w) (isSlice:=true) (len:=rows.length) (cap:=cap) p c h1 (by omega);have hlen:((rows.take h).drop a).length=h - a:=by simp; omega
  by_cases f:cap=a
  ·have S:h=a:=by omega
   subst S;refine⟨.slice (some ⟨b,o,none⟩) 0 0,?_,.inr ⟨b,o,z,0,?_,?_,?_⟩⟩
   ·subst f
    simp[Instr.sliceAt,Instr.slice,kru hu,this,Go.sizeOf,typeInfo,j]
   ·rw[hlen]; simp
   ·rw[hlen]; simp
   have e0:(rows.take h).drop h=[]:=by
    apply jI;rw[hlen];omega
   rw[e0];simp[nA]
  refine⟨.slice (some ⟨b,o+a * i.size,none⟩) (h - a) (cap - a),?_,.inr ⟨b,o+a * i.size,z,cap - a,by rw[hlen],by rw[hlen]; omega,?_⟩⟩
  ·simp[Instr.sliceAt,Instr.slice,kru hu,this,Go.sizeOf,typeInfo,j,f,Addr.add_lit]
  have hz:rows=[]\/z=i.size:=by
   cases rows with
   | nil=>exact .inl rfl
   | cons r rs=>
    simp only[nA]at K;exact .inr (by rw[← K.1]; exact h3 r (by simp))
  rcases hz with hz|hz
  ·subst hz; simp[nA]
  rw[← hz]; exact(K.take h).drop a
 unfold TK at h;split at h
 ·rename_i m
  have cutCase:∀(rows:List (List PV)),qfi P E g t rows j m R->∃ I,R I/\(∀ ⦃Lw:Nat⦄ (ρ:List Value) (H:(PH Lw)) (w:World) (eval:Operand->Value) (v:Value),gOn g->qO H (.sl rows) v->(∀ y∈j.toArray,qY ρ H (evF (qW E) y) (eval y))->(∀ y∈(some m).toArray,qY ρ H (evF (qW E) y) (eval y)) ->
    ∃ u,(Instr.sliceAt t v none (j.map eval) (some (eval m))).run P w=.ok u w/\qY ρ H I u):=by
   intro rows h;unfold qfi at h;split at h
   ·rename_i e hu
    split at h
    ·rename_i i D
     obtain⟨T,rfl⟩:∃ y,j=some y:=by
      cases j with
      | none=>exact h.elim
      | some y=>exact⟨y,rfl⟩
     obtain⟨q,h,A⟩:=cT h;obtain⟨Y,h,B⟩:=cT h;refine⟨_,h.2,fun Lw ρ H w eval v s rv c J=>?_⟩;obtain⟨rfl,h2,h3⟩:=mV h.1 s;have em:∃ k,eval m=.int k q:=by
      rcases B ρ H eval s J with ⟨e,_⟩|⟨y,k,e,e2⟩
      ·cases e
      cases e; exact⟨k,e2⟩
     obtain⟨Z,em⟩:=em;have bd:∀ cap:Nat,rows.length<=cap->(Instr.sliceBounds true rows.length cap none (some (eval T)) (some (eval m))).run P w=.ok (0,q,q) w:=by
      intro cap M;rcases A ρ H eval s c with ⟨e,e2⟩|⟨y,k,e,e2⟩
      ·cases e
      cases e;simp[Instr.sliceBounds,Instr.sliceBound,asIntOf,em,e2,Int.toNat_natCast,Nat.le_trans h2 M]
     simp only[qY];have rv0:=rv;simp only[qO]at rv;rcases rv with ⟨rfl,rfl|⟨L,d,rfl⟩⟩|⟨b,o,z,cap,rfl,M,K⟩
     ·have C:q=0:=by simpa using h2
      subst C;have:=bd 0 (jw _);refine⟨.slice none 0 0,?_,by simp[qO],_,_,rfl⟩;simp only[jc]at this;simp[Instr.sliceAt,Instr.slice,kru hu,this,Go.sizeOf,typeInfo,D]
     ·have C:q=0:=by simpa using h2
      subst C;have:=bd d (jS _);simp only[jc]at this;refine⟨.slice (some L) 0 0,?_,by simp[qO],_,_,rfl⟩;simp[Instr.sliceAt,Instr.slice,kru hu,this,Go.sizeOf,typeInfo,D]
     have:=bd cap M;have hlen:(rows.take q).length=q:=by rw[jt]; omega
     refine⟨.slice (some ⟨b,o,none⟩) q q,?_,by simp only[qO]; exact .inr ⟨b,o,z,q,by rw[hlen],by rw[hlen]; exact jw _,K.take q⟩,_,_,rfl⟩;by_cases C:q=0
     ·subst C
      simp[Instr.sliceAt,Instr.slice,kru hu,this,Go.sizeOf,typeInfo,D]
     simp[Instr.sliceAt,Instr.slice,kru hu,this,Go.sizeOf,typeInfo,D,C,Addr.add_lit]
    exact h.elim
   exact h.elim
  split at h
  ·split at h
   ·obtain⟨I,h,U⟩:=cutCase _ h
    exact⟨I,h,fun Lw ρ H w eval v s rv _ c J=>U ρ H w eval v s rv c J⟩
   ·exact h.elim
   ·exact h.elim
   exact h.elim
  exact h.elim
 split at h
 ·rename_i l
  split at h
  ·rename_i hu
   obtain⟨q,h,A⟩:=cT h;obtain⟨F,h,B⟩:=cT h;refine⟨_,h.2,fun Lw ρ H w eval v s rv p c _=>?_⟩;obtain⟨h1,h2⟩:=mV h.1 s;rw[QX rv];have:=Qo (P:=P) (w:=w) (isSlice:=false) (len:=l.length) (cap:=l.length) (B ρ H eval s p) (A ρ H eval s c) h1 h2;refine⟨.string ⟨((l.take q).drop F).toArray⟩,?_,EB⟩;simp[Instr.sliceAt,Instr.slice,kru hu,Za,this,ByteArray.extract_mk,List.drop_take]
  exact h.elim
 ·rename_i rows
  split at h
  ·rename_i e hu
   split at h
   ·rename_i i j
    obtain⟨q,h,A⟩:=cT h;obtain⟨F,h,B⟩:=cT h;refine⟨_,h.2,fun Lw ρ H w eval v s rv p c _=>?_⟩;exact rowsCase e i rows F q hu j (mV h.1 s) H w eval v rv (B ρ H eval s p) (A ρ H eval s c)
   exact h.elim
  exact h.elim
 ·exact h.elim
 ·exact h.elim
 ·rename_i k z
  split at h
  ·rename_i n e hu
   split at h
   ·rename_i i j
    split at h
    ·rename_i hz
     have hz:i.size=1:=jm hz;obtain⟨q,h,A⟩:=cT h;obtain⟨F,h,B⟩:=cT h;refine⟨_,h.2,fun Lw ρ H w eval v s rv p c _=>?_⟩;obtain⟨rfl,h1,h2,h3⟩:=mV h.1 s;obtain⟨b,V,d,X,rfl⟩:=rv;have:=Qo (P:=P) (w:=w) (isSlice:=false) (len:=n) (cap:=n) (B ρ H eval s p) (A ρ H eval s c) h1 h2;have f:¬ n=F:=by omega
     refine⟨.slice (some ⟨b,F,none⟩) (q - F) (n - F),?_,b,V,d,_,X,rfl⟩;simp[Instr.sliceAt,Instr.sureAddr,kru hu,this,Go.sizeOf,typeInfo,j,hz,f,Addr.add_lit]
    exact h.elim
   exact h.elim
  exact h.elim
 exact h.elim
theorem tz {w:World} {b:Nat} {vs:List Value} {t:TypeId} {a:Nat×Nat} (d:w.heap[b]? =some (.cells vs.toArray t a)) (off:Nat) :
  ∀ j v,(vs.drop off)[j]? =some v->w.cell? ⟨b,off+j,none⟩=some v:=fun j v c=>by
 rw[cell_of_row w b (off+j) _ t a d];rw[jD]at c;simpa using c
end
end Ax
end
section
namespace Ax
open Go
variable {Lw:Nat}
section
variable {P:Program}
theorem Nk (off:Nat):∀(l:List Value) (k:Nat) (cs:Array Value),off+k+l.length<=cs.size ->
  ((l.zipIdx k).foldl (fun(cs:Array Value) (x:Value×Nat)=>cs.setIfInBounds (off+x.2) x.1) cs).toList=cs.toList.take (off+k)++l++cs.toList.drop (off+k+l.length)
 | [],k,cs,_=>by simp
 | c::l,k,cs,h=>by
  simp only[ja]at h;rw[List.zipIdx_cons,List.foldl_cons,Nk off l (k+1) _ (by simp; omega)];simp only[Array.toList_setIfInBounds,ja];have e:off+(k+1)=off+k+1:=by omega
  rw[e,List.take_add_one,List.getElem?_set_self (by simpa using(by omega:off+k<cs.size)),List.take_set_of_le (jw _),List.drop_set_of_lt (by omega)];have e2:off+k+1+l.length=off+k+(l.length+1):=by omega
  rw[e2];simp
theorem DW (off:Nat) (v:Value) (cs:Array Value) (h:off+v.cells.size<=cs.size) :
  (v.cells.zipIdx.foldl (fun(cs:Array Value) (x:Value×Nat)=>cs.setIfInBounds (off+x.2) x.1) cs).toList=cs.toList.take off++v.cells.toList++cs.toList.drop (off+v.cells.size):=by
 rw[← Array.foldl_toList,Array.toList_zipIdx];have:=Nk off v.cells.toList 0 cs (by simpa using h);simpa using this
theorem nE {ρ:List Value} {H:(PH Lw)} {f:FV} {x:Value} (h:RQ f=true) (r:qY ρ H f x):x.cells = #[x]/\x.oneCell'=true:=by
 cases f with
 | p p=>
  cases p<;>simp[RQ]at h<;>simp only[qY,qO]at r
  case sl rows=>
   rcases r with ⟨_,rfl|⟨_,_,rfl⟩⟩|⟨b,o,z,cap,rfl,_⟩<;>exact⟨rfl,rfl⟩
  case nsl rows=>
   rcases r with ⟨_,rfl|⟨_,_,rfl⟩⟩|⟨b,o,z,cap,rfl,_⟩<;>exact⟨rfl,rfl⟩
  case ifc t p=>
   obtain⟨u,rfl,_⟩:=r;exact⟨rfl,rfl⟩
  case hp row=>obtain⟨b,o,vs,rfl,_⟩:=r; exact⟨rfl,rfl⟩
  case clo f cs=>obtain⟨vs,rfl,_⟩:=r; exact⟨rfl,rfl⟩
  case bfn f cs=>obtain⟨vs,rfl,_⟩:=r; exact⟨rfl,rfl⟩
  case ifo n t p=>rcases r with ⟨_,rfl⟩|⟨_,u,rfl,_⟩<;>exact⟨rfl,rfl⟩
  all_goals (subst r; exact⟨rfl,rfl⟩)
 | top=>simp[RQ]at h
 | opt g v=>simp[RQ]at h
 | tsl k rows=>
  have:=r.2;simp only[qO]at this;rcases this with ⟨_,rfl|⟨_,_,rfl⟩⟩|⟨b,o,z,cap,rfl,_⟩<;>exact⟨rfl,rfl⟩
 | ptr k off=>
  obtain⟨b,_,rfl⟩:=r;exact⟨rfl,rfl⟩
 | hptr row=>
  obtain⟨b,o,vs,rfl,_⟩:=r;exact⟨rfl,rfl⟩
 | bself k=>
  obtain⟨b,_,rfl|rfl⟩:=r<;>exact⟨rfl,rfl⟩
 | bsl k off len cap=>
  obtain⟨b,_,c,rfl,_⟩:=r;exact⟨rfl,rfl⟩
 | vsl k n=>
  obtain⟨_,⟨_,rfl⟩|⟨b,cap,rfl⟩⟩:=r<;>exact⟨rfl,rfl⟩
 | eptr k z i off=>
  obtain⟨b,n,cap,_,rfl⟩:=r;exact⟨rfl,rfl⟩
 | mref k=>
  obtain⟨b,_,rfl⟩:=r;exact⟨rfl,rfl⟩
 | pair a b=>simp[RQ]at h
 | stmp k=>simp[RQ]at h
 | cap0=>simp[RQ]at h
 | cap a b=>simp[RQ]at h
 | fagg c=>simp[RQ]at h
 | nxt ok a b=>simp[RQ]at h
 | cut rows=>
  obtain⟨_,p,n,rfl⟩:=r;simp[Value.cells,Value.oneCell']
 | ifs t c=>
  obtain⟨u,rfl,_⟩:=r;exact⟨rfl,rfl⟩
 | asl k off n=>
  obtain⟨b,_,_,_,_,rfl⟩:=r;exact⟨rfl,rfl⟩
 | clo f c=>
  obtain⟨vs,rfl,_⟩:=r;exact⟨rfl,rfl⟩
theorem Qj:∀{cs:List PV} {R:List FV->Prop},el cs R->R (cs.map .p)
 | [],R,h=>h
 | c::cs,R,h=>by simpa using Qj (cs:=cs) (R:=fun l=>R (.p c::l)) h
theorem rL:∀{off:Nat} {vs old:List FV} {R:List FV->Prop},QU off vs old R->R (old.take off++vs++old.drop (off+vs.length))/\off+vs.length<=old.length
 | 0,[],old,R,h=>by simpa[QU]using h
 | 0,v::vs,[],R,h=>by simp[QU]at h
 | 0,v::vs,a::old,R,h=>by
  simp only[QU]at h;have:=rL (off:=0) h;simpa using this
 | off+1,vs,[],R,h=>by cases vs<;>simp[QU]at h
 | off+1,vs,a::old,R,h=>by
  have b:QU off vs old fun l=>R (a::l):=by cases vs<;>simpa[QU]using h
  have:=rL b;have e:off+1+vs.length=(off+vs.length)+1:=by omega
  rw[e];simpa using this
theorem xa.append {ρ:List Value} {H:(PH Lw)}:∀{cs ds:List FV} {vs us:List Value},xa ρ H cs vs->xa ρ H ds us->xa ρ H (cs++ds) (vs++us)
 | [],_,vs,_,x,y=>by simp only[xa]at x; simpa[x]using y
 | c::cs,ds,vs,us,x,y=>by
  obtain⟨v,a,rfl,r,rs⟩:=x;exact⟨v,_,rfl,r,rs.append y⟩
theorem Xz:∀{off:Nat} {vs old:List PV} {R:List PV->Prop},CI off vs old R->R (old.take off++vs++old.drop (off+vs.length))/\off+vs.length<=old.length
 | 0,[],old,R,h=>by simpa[CI]using h
 | 0,v::vs,[],R,h=>by simp[CI]at h
 | 0,v::vs,a::old,R,h=>by
  simp only[CI]at h;have:=Xz (off:=0) h;simpa using this
 | off+1,vs,[],R,h=>by cases vs<;>simp[CI]at h
 | off+1,vs,a::old,R,h=>by
  have b:CI off vs old fun l=>R (a::l):=by cases vs<;>simpa[CI]using h
  have:=Xz b;have e:off+1+vs.length=(off+vs.length)+1:=by omega
  rw[e];simpa using this
theorem Vq {p:PV} {R:List PV->Prop} (h:EX p R):∃ c,R c/\∀ ⦃Lw:Nat⦄ (H:(PH Lw)) (x:Value),qO H p x->zC H c x.cells.toList:=by
 unfold EX at h;split at h
 ·rename_i cs
  refine⟨cs,h,fun Lw H x r=>?_⟩;simp only[qO]at r;obtain⟨vs,rfl,q⟩:=r;simpa[Value.cells]using q
 ·exact h.elim
 rename_i h1 h2;refine⟨[p],h,fun Lw H x r=>?_⟩;have a:x.cells = #[x]:=by
  cases p<;>simp only[qO]at r
  case agg cs=>exact absurd rfl (h1 cs)
  case tup cs=>exact absurd rfl (h2 cs)
  case sl rows=>rcases r with ⟨_,rfl|⟨_,_,rfl⟩⟩|⟨_,_,_,_,rfl,_⟩<;>rfl
  case nsl rows=>rcases r with ⟨_,rfl|⟨_,_,rfl⟩⟩|⟨_,_,_,_,rfl,_⟩<;>rfl
  case ifc t p=>obtain⟨_,rfl,_⟩:=r; rfl
  case hp row=>obtain⟨b,o,vs,rfl,_⟩:=r; rfl
  case clo f cs=>obtain⟨vs,rfl,_⟩:=r; rfl
  case bfn f cs=>obtain⟨vs,rfl,_⟩:=r; rfl
  case ifo n t p=>rcases r with ⟨_,rfl⟩|⟨_,u,rfl,_⟩<;>rfl
  all_goals (subst r; rfl)
 rw[a];simp only[zC];exact⟨x,[],rfl,r,rfl⟩
theorem CH {H:(PH Lw)} {p:PV} {x:Value} (h:Uq p=true) (r:qO H p x):x.oneCell'=true/\x.cells = #[x]:=by
 cases p<;>simp only[qO]at r
 case agg cs=>simp[Uq]at h
 case tup cs=>simp[Uq]at h
 case sl rows=>rcases r with ⟨_,rfl|⟨_,_,rfl⟩⟩|⟨_,_,_,_,rfl,_⟩<;>exact⟨rfl,rfl⟩
 case nsl rows=>rcases r with ⟨_,rfl|⟨_,_,rfl⟩⟩|⟨_,_,_,_,rfl,_⟩<;>exact⟨rfl,rfl⟩
 case ifc t p=>obtain⟨_,rfl,_⟩:=r; exact⟨rfl,rfl⟩
 case hp row=>obtain⟨b,o,vs,rfl,_⟩:=r; exact⟨rfl,rfl⟩
 case clo f cs=>obtain⟨vs,rfl,_⟩:=r; exact⟨rfl,rfl⟩
 case bfn f cs=>obtain⟨vs,rfl,_⟩:=r; exact⟨rfl,rfl⟩
 case ifo n t p=>rcases r with ⟨_,rfl⟩|⟨_,u,rfl,_⟩<;>exact⟨rfl,rfl⟩
 all_goals (subst r; exact⟨rfl,rfl⟩)
theorem zC.one {H:(PH Lw)}:∀{cs:List PV} {vs:List Value},(∀ c∈cs,Uq c=true)->zC H cs vs->∀ u∈vs,u.oneCell'=true
 | [],vs,_,r,u,hu=>by simp only[zC]at r; simp[r]at hu
 | c::cs,vs,h,r,u,hu=>by
  simp only[zC]at r;obtain⟨v,a,rfl,b,rs⟩:=r;rcases jg.1 hu with rfl|hu
  ·exact(CH (h c (by simp)) b).1
  exact zC.one (fun c d=>h c (by simp[d])) rs u hu
theorem Qm:∀{vs:List Value} {R:List PV->Prop},oV vs R->∃ a,R a/\∀ ⦃Lw:Nat⦄ (H:PH Lw),zC H a vs
 | [],R,h=>⟨[],h,fun Lw H=>by simp[zC]⟩
 | v::vs,R,h=>by
  simp only[oV]at h;split at h
  ·rename_i p hp
   obtain⟨a,b,c⟩:=Qm h;refine⟨p::a,b,fun Lw H=>?_⟩;simp only[zC];exact⟨v,vs,rfl,Uo hp H,c H⟩
  exact h.elim
theorem BW {E:Env} {g:G} {o:List Field}:∀{xl:List (Nat×Operand)} {cs:List PV} {R:List PV->Prop},aH P E g o xl cs R ->
  ∃ a,R a/\(gOn g->∀ ⦃Lw:Nat⦄ (ρ:List Value) (H:(PH Lw)) (w:World) (eval:Operand->Value) (places:Array (Nat×Nat)) (cells:Array Value),(∀ x∈xl.map (·.2),qY ρ H (evF (qW E) x) (eval x)) ->
   (∀(i:Nat) (f:Field),o[i]? =some f->∀ d,P.info? f.type=some d->places[i]? =some (f.offset,d.size))->zC H cs cells.toList ->
   ∃ cells',Instr.fill (places[·]?) cells (xl.map fun(i,x)=>(i,eval x))=some cells'/\zC H a cells'.toList)
 | [],cs,R,h=>⟨cs,h,fun _ Lw ρ H w eval places cells _ _ r=>⟨cells,rfl,r⟩⟩
 | (i,x)::l,cs,R,h=>by
  simp only[aH]at h;obtain⟨f,hf,h⟩:=xg h;split at h
  ·rename_i d k
   obtain⟨v,h,u⟩:=qU h;obtain⟨p,h,hp⟩:=mU h;obtain⟨c,h,z⟩:=Vq h;split at h
   ·rename_i b
    have b:c.length=d.size:=jm b;obtain⟨h,hlen⟩:=Xz h;obtain⟨a,h,A⟩:=BW h;refine⟨a,h,fun q Lw ρ H w eval places cells s e r=>?_⟩;have rc:=z H _ (hp _ _ _ (u ρ H _ q (s x (by simp))));have j:(eval x).cells.size=d.size:=by have:=rc.length; simp at this; omega
    have m:=r.length;simp at m;have n:f.offset+(eval x).cells.size<=cells.size:=by omega
    have h1:=DW f.offset (eval x) cells n;obtain⟨cells',B,C⟩:=A q ρ H w eval places ((eval x).cells.zipIdx.foldl (fun(cs:Array Value) (x:Value×Nat)=>cs.setIfInBounds (f.offset+x.2) x.1) cells) (fun y t=>s y (by simp at t ⊢; exact .inr t)) e (by
     rw[h1,j,← b];exact((r.take _).append rc).append (r.drop _))
    refine⟨cells',?_,C⟩;simp only[jk,Instr.fill,e i f hf d k];rw[if_neg (by simp[j]; omega)];exact B
   exact h.elim
  exact h.elim
theorem QW {E:Env} {g:G}:∀{xl:List (Nat×Operand)} {k:Nat} {R:List PV->Prop},Dk E g k xl R ->
  ∃ a,R a/\a.length=xl.length/\(gOn g->∀ ⦃Lw:Nat⦄ (ρ:List Value) (H:(PH Lw)) (eval:Operand->Value),(∀ x∈xl.map (·.2),qY ρ H (evF (qW E) x) (eval x)) ->
   ∃ vals,(xl.map fun(i,x)=>(i,eval x))=(vals.zipIdx k).map (fun(v,i)=>(i,v))/\zC H a vals)
 | [],k,R,h=>⟨[],h,rfl,fun _ Lw ρ H eval _=>⟨[],rfl,by simp[zC]⟩⟩
 | (i,x)::l,k,R,h=>by
  simp only[Dk]at h;split at h
  ·rename_i b
   have b:i=k:=jm b;subst b;obtain⟨v,h,j⟩:=qU h;obtain⟨p,h,hp⟩:=mU h;obtain⟨a,h,m,n⟩:=QW h;refine⟨p::a,h,by simp[m],fun c Lw ρ H eval d=>?_⟩;obtain⟨vals,e,r⟩:=n c ρ H eval (fun y f=>d y (by simp at f ⊢; exact .inr f))
   refine⟨eval x::vals,?_,?_⟩
   ·simp only[jk,List.zipIdx_cons,e]
   simp only[zC];exact⟨_,_,rfl,hp _ _ _ (j ρ H _ c (d x (by simp))),r⟩
  exact h.elim
theorem Ue (size:Nat) (n:Nat) (pl:Nat->Option (Nat×Nat)) (a:∀ i,i<n->pl i=some (i * size,size)):∀(vals:List Value) (k:Nat) (cells:Array Value),(∀ v∈vals,v.cells.size=size)->k+vals.length=n->n * size=cells.size ->
  ∃ cells',Instr.fill pl cells ((vals.zipIdx k).map fun(v,i)=>(i,v))=some cells'/\cells'.toList=cells.toList.take (k * size)++vals.flatMap (·.cells.toList)
 | [],k,cells,_,hn,hc=>by
  refine⟨cells,rfl,?_⟩;simp at hn;subst hn;rw[List.take_of_length_le (by simp; omega)];simp
 | v::vals,k,cells,hv,hn,hc=>by
  have h1:=hv v (by simp);simp only[ja]at hn;have b:(k+1) * size<=n * size:=Nat.mul_le_mul_right _ (by omega);have c:k * size+v.cells.size<=cells.size:=by rw[h1,← hc]; rw[Nat.add_mul,Nat.one_mul]at b; exact b
  have hf:=DW (k * size) v cells c;have d:(v.cells.zipIdx.foldl (fun(cs:Array Value) (x:Value×Nat)=>cs.setIfInBounds (k * size+x.2) x.1) cells).size=cells.size:=by
   rw[← jK,hf];simp;omega
  obtain⟨cells',e,h⟩:=Ue size n pl a vals (k+1) _ (fun u hu=>hv u (by simp[hu])) (by omega) (by rw[d]; exact hc)
  refine⟨cells',?_,?_⟩
  ·simp only[List.zipIdx_cons,jk,Instr.fill,a k (by omega)]
   rw[if_neg (by simp[h1]; omega)];exact e
  rw[h,hf];have e1:(k+1) * size=k * size+v.cells.size:=by rw[h1,Nat.add_mul,Nat.one_mul]
  rw[e1,List.flatMap_cons,← js];congr 1;rw[js,List.take_append,List.take_append];simp only[jt,jK];have:min (k * size) cells.size=k * size:=Nat.min_eq_left (by omega);rw[this,List.take_of_length_le (l:=List.take (k * size) cells.toList) (by simp; omega)];simp;exact List.take_of_length_le (by simp)
theorem Gg:∀{b:List PV} {R:List (List PV)->Prop},iJ b R->∃ rows,R rows/\rows.length=b.length/\∀ ⦃Lw:Nat⦄ (H:(PH Lw)) (vals:List Value),zC H b vals ->
  (∀(i:Nat) (r:List PV) (v:Value),rows[i]? =some r->vals[i]? =some v->zC H r v.cells.toList)
 | [],R,h=>⟨[],h,rfl,fun Lw H vals r i f v a=>by simp at a⟩
 | p::b,R,h=>by
  simp only[iJ]at h;obtain⟨c,h,g⟩:=Vq h;obtain⟨rows,h,j,k⟩:=Gg h;refine⟨c::rows,h,by simp[j],fun Lw H vals r i f v a d=>?_⟩;simp only[zC]at r;obtain⟨x,e,rfl,rx,rs⟩:=r;cases i with
  | zero=>simp at a d; subst a; subst d; exact g H x rx
  | succ i=>exact k H e rs i f v (by simpa using a) (by simpa using d)
theorem aq {H:(PH Lw)} {w:World} (s:SatH H w) (e:TypeId) (ys:List Value) (h1:∀ u∈ys,u.oneCell'=true) :
  Calm H w (fun b o=>if b=w.heap.size then ys[o]? else H b o) (w.alloc (.cells ys.toArray e)):=by
 have d:∀ b o v,H b o=some v->b≠w.heap.size:=fun b o v a e=>by
  have:=s.lt a; omega
 refine⟨fun b o v a=>?_,⟨fun b o v a=>?_,s.root.mono (fun b o v a=>by rw[if_neg (d b o v a)]; exact a),by have:=s.low; simp; omega,fun b o v a f=>by
  split at a
  ·rename_i e1; subst e1; exact .of (heap_alloc_new w _)
  exact(s.nf b o v a f).block (heap_alloc_old w _ (s.lt a))⟩,⟨rfl,rfl,rfl,by simp,fun k g _=>Go.RowKit.Below.heap_alloc w _ k g⟩,fun b o v a=>?_⟩
 ·rw[if_neg (d b o v a)]; exact a
 ·split at a
  ·rename_i f
   subst f;refine⟨?_,h1 v (List.mem_of_getElem? a)⟩;rw[World.cell?_alloc_new];simpa using a
  obtain⟨c,o1⟩:=s.cell b o v a;exact⟨by rw[World.cell?_alloc_lt (h:=s.lt a)]; exact c,o1⟩
 split at a
 ·rename_i f; exact .inr (by omega)
 exact .inl ⟨v,a⟩
theorem qd5 {H:(PH Lw)} {z:Nat}:∀{rows:List (List PV)} {vals:List Value},rows.length=vals.length->(∀ r∈rows,r.length=z) ->
  (∀(i:Nat) (r:List PV) (v:Value),rows[i]? =some r->vals[i]? =some v->zC H r v.cells.toList)->∀{b o:Nat} {H':(PH Lw)},PH.le H H' ->
  (∀(j:Nat) (u:Value),(vals.flatMap (·.cells.toList))[j]? =some u->H' b (o+j)=some u)->nA H' b z o rows
 | [],_,_,_,_,_,_,_,_,_=>by simp[nA]
 | r::rs,[],hl,_,_,_,_,_,_,_=>by simp at hl
 | r::rs,v::vals,hl,hz,c,b,o,H',hle,hc=>by
  have d:=c 0 r v rfl rfl;have hlen:=d.length;have a:=hz r (by simp);simp only[nA];refine⟨a,⟨v.cells.toList,zC.mono hle d,fun j u hu=>hc j u ?_⟩,qd5 (by simpa using hl) (fun r c=>hz r (by simp[c])) (fun i e v' h1 h2=>c (i+1) e v' (by simpa using h1) (by simpa using h2)) hle (fun j u hu=>?_)⟩
  ·rw[List.flatMap_cons,jB (jG.1 hu).1]; exact hu
  have:=hc (z+j) u (by rw[List.flatMap_cons,jC (by rw[hlen,a]; omega),hlen,a,Nat.add_sub_cancel_left]; exact hu)
  rwa [← Nat.add_assoc]at this
theorem Fi {E:Env} {g:G} {t:TypeId} {n:Nat} {xl:List (Nat×Operand)} {R:FV->Prop} (h:Vu P E g t n xl R) :
  ∃ S,R S/\(gOn g->∀ ⦃Lw:Nat⦄ (ρ:List Value) (H:(PH Lw)) (w:World) (eval:Operand->Value),SatH H w->(∀ x∈xl.map (·.2),qY ρ H (evF (qW E) x) (eval x)) ->
   ∃ v w' H',(Instr.buildSlice t n (xl.map fun(i,x)=>(i,eval x)).toArray).run P w=.ok v w'/\Calm H w H' w'/\qY ρ H' S v):=by
 unfold Vu at h;obtain⟨e,i,hu,B,h⟩:=bW h;split at h
 ·rename_i l
  have l:xl.length=n:=jm l;split at h
  ·rename_i C
   split at h
   ·rename_i D
    split at h
    case h_2=>exact h.elim
    rename_i z;split at h
    case h_2=>exact h.elim
    rename_i k F;have:k=i:=Option.some.inj (F.symm.trans B);subst this;split at h
    case h_2=>exact h.elim
    rename_i T I;obtain⟨ps,h,a,J⟩:=QW h;obtain⟨rows,h,b,hrows⟩:=Gg h;obtain⟨m,K,L,h⟩:=h;refine⟨_,h,fun U Lw ρ H w eval s V=>?_⟩;obtain⟨vals,ev,rv⟩:=J U ρ H eval V;have hcells:=hrows H vals rv;have o:vals.length=n:=by rw[rv.length,a,l]
    have M:∀ v∈vals,v.cells.size=k.size:=by
     intro v N;obtain⟨j,A⟩:=List.getElem?_of_mem N;have p:=(jG.1 A).1;have d:j<rows.length:=by rw[b,a,l,← o]; exact p
     have:=(hcells j _ v (jf d) A).length;rw[(m _ (List.getElem_mem d)).1]at this;simpa using this
    obtain⟨cells',X,q⟩:=Ue k.size n (fun O=>some (O * k.size,k.size)) (fun j _=>rfl) vals 0 ((Array.range (n * k.size)).map (T.cells[· % T.cells.size]!)) M (by omega) (by simp)
    simp only[Nat.zero_mul,List.take_zero,ju]at q;have hone:∀ u∈cells'.toList,u.oneCell'=true:=by
     rw[q];intro u y;obtain⟨v,N,Q⟩:=List.mem_flatMap.1 y;obtain⟨j,A⟩:=List.getElem?_of_mem N;have p:=(jG.1 A).1;have d:j<rows.length:=by rw[b,a,l,← o]; exact p
     have h1:=hcells j _ v (jf d) A;have h2:=(m _ (List.getElem_mem d)).2;exact zC.one (fun c Y=>(List.all_eq_true.1 h2) c Y) h1 u Q
    have f:=aq s e cells'.toList hone;refine⟨.slice (some ⟨w.heap.size,0,none⟩) n n,_,_,?_,f,?_⟩
    ·have Z:n * k.size≠0:=by
      have a1:1<=n:=jh C;have a2:1<=k.size:=jh D;exact Nat.mul_ne_zero (by omega) (by omega)
     have hb:¬ 16777216<n * k.size:=by
      have:=jh z;omega
     simp only[Instr.buildSlice,kf,kru hu,ke,Go.sizeOf,typeInfo,run_program,B,kg];rw[show(2:Nat) ^ 24=16777216 from rfl];simp only[hb,if_false,gt_iff_lt,Z,kf,zeroValue,typeInfo,run_program,B,I,ke,kg];rw[ev,X];simp[newRow]
    simp only[qY];refine qfu L ?_;simp only[qO];refine .inr ⟨w.heap.size,0,k.size,n,by rw[b,a,l],by rw[b,a,l]; exact jw _,?_⟩;refine qd5 (by rw[b,a,l,o]) (fun r hr=>(m r hr).1) hcells f.le (fun j u y=>?_);rw[jx,if_pos rfl,q];exact y
   exact h.elim
  exact h.elim
 exact h.elim
theorem Gh {w:World}:∀{a:List Field},Hp P a=true ->
  (a.mapM (m:=Sem) fun f=>do pure (f.offset,← Go.sizeOf f.type)).run P w=.ok (a.map fun f=>(f.offset,Rs P f.type)) w
 | [],_=>by simp
 | f::a,h=>by
  simp only[Hp]at h;split at h
  ·rename_i i c
   have:=Gh (w:=w) h;have b:(Go.sizeOf f.type).run P w=.ok i.size w:=by simp[Go.sizeOf,typeInfo,c]
   simp only[List.mapM_cons,kf,b,ke,kg,jk,Rs,c];rw[this];rfl
  cases h
theorem LY {E:Env} {g:G} {t:TypeId} {xl:List (Nat×Operand)} {R:FV->Prop} (h:TA P E g t xl R) :
  ∃ X,R X/\(gOn g->∀ ⦃Lw:Nat⦄ (ρ:List Value) (H:(PH Lw)) (w:World) (eval:Operand->Value),(∀ x∈xl.map (·.2),qY ρ H (evF (qW E) x) (eval x)) ->
   ∃ v,(Instr.build t (xl.map fun(i,x)=>(i,eval x)).toArray).run P w=.ok v w/\qY ρ H X v):=by
 unfold TA at h;split at h
 ·rename_i i M
  split at h
  ·rename_i vs hz
   obtain⟨zs,h,N⟩:=Qm h;split at h
   ·rename_i Y hu
    split at h
    case h_2=>exact h.elim
    rename_i D;obtain⟨cs,h,Z⟩:=BW h;refine⟨_,h,fun F Lw ρ H w eval I=>?_⟩;obtain⟨cells',C,rc⟩:=Z F ρ H w eval (Y.map fun f=>(f.offset,Rs P f.type)).toArray vs.toArray I (fun i f hf ti O=>by simp[hf,Rs,O]) (by simpa[Value.cells]using N H)
    refine⟨.agg cells',?_,by simp only[qY,qO]; exact⟨cells'.toList,by simp,rc⟩⟩;simp only[Instr.build,kf,zeroValue,typeInfo,run_program,M,hz,ke,kg,kru hu,Value.cells];rw[Array.mapM_eq_mapM_toList];simp only[Sem.run_map];rw[Gh D];simp only[ke];rw[C];rfl
   ·rename_i n e hu
    split at h
    ·rename_i p J
     split at h
     ·rename_i s
      have s:p.size=1:=jm s;obtain⟨Q,h,S,y⟩:=QW h;obtain⟨hlen,hone,h⟩:=h;refine⟨_,h,fun F Lw ρ H w eval I=>?_⟩;obtain⟨vals,ev,rv⟩:=y F ρ H eval I;have c:∀ v∈vals,v.cells.size=1:=by
       intro v m;obtain⟨j,q⟩:=List.getElem?_of_mem m;have d:=(jG.1 q).1;have b:j<Q.length:=by rw[← rv.length]; exact d
       obtain⟨v',k,T⟩:=rv.get (jf b);rw[q]at k;cases k;rw[(CH (hone _ (List.getElem_mem b)) T).2];rfl
      have o:=rv.length;obtain⟨cells',C,z⟩:=Ue 1 vals.length (fun A=>some (A * 1,1)) (fun j _=>rfl) vals 0 ⟨vs⟩ c (by omega) (by simp; omega)
      refine⟨.agg cells',?_,?_⟩
      ·simp only[Instr.build,kf,zeroValue,typeInfo,run_program,M,hz,ke,kg,kru hu,Go.sizeOf,J,s,ev,Value.cells]
       simp only[Nat.mul_one]at C ⊢;rw[C];rfl
      simp only[qY,qO];refine⟨cells'.toList,by simp,?_⟩;have e1:cells'.toList=vals:=by
       rw[z];simp only[Nat.zero_mul,List.take_zero,ju];have:∀(l:List Value),(∀ v∈l,v∈vals)->l.flatMap (·.cells.toList)=l:=by
        intro l
        induction l with
        | nil=>intro _; rfl
        | cons a l ih=>
         intro K;rw[List.flatMap_cons,ih (fun v m=>K v (by simp[m]))]
         obtain⟨j,q⟩:=List.getElem?_of_mem (K a (by simp));have d:=(jG.1 q).1;have b:j<Q.length:=by rw[← rv.length]; exact d
         obtain⟨v',k,T⟩:=rv.get (jf b);rw[q]at k;cases k;rw[(CH (hone _ (List.getElem_mem b)) T).2];rfl
       exact this vals (fun v m=>m)
      rw[e1];exact rv
     obtain⟨Q,h,S,y⟩:=QW h;obtain⟨rows,h,B,hrows⟩:=Gg h;obtain⟨L,hlen,h⟩:=h;refine⟨_,h,fun F Lw ρ H w eval I=>?_⟩;obtain⟨vals,ev,rv⟩:=y F ρ H eval I;have hcell:=hrows H vals rv;have o:=rv.length;have c:∀ v∈vals,v.cells.size=p.size:=by
      intro v m;obtain⟨j,q⟩:=List.getElem?_of_mem m;have d:=(jG.1 q).1;have b:j<rows.length:=by rw[B,← o]; exact d
      have l:=(hcell j _ v (jf b) q).length;rw[jK]at l;rw[l];exact L _ (List.getElem_mem b)
     have U:∀ l:List (List PV),(∀ r∈l,r.length=p.size)->l.flatten.length=l.length * p.size:=by
      intro l
      induction l with
      | nil=>intro _; simp
      | cons a l ih=>
       intro K;rw[List.flatten_cons,jb,ih (fun r V=>K r (by simp[V])),K a (by simp),ja,Nat.succ_mul]
       omega
     have hvs:vals.length * p.size=vs.length:=by rw[← hlen,U rows L,B,o]
     obtain⟨cells',C,z⟩:=Ue p.size vals.length (fun A=>some (A * p.size,p.size)) (fun j _=>rfl) vals 0 ⟨vs⟩ c (by omega) (by simp; omega)
     have key:∀(l:List (List PV)) (us:List Value),l.length=us.length->(∀(i:Nat) (r:List PV) (v:Value),l[i]? =some r->us[i]? =some v->zC H r v.cells.toList)->zC H l.flatten (us.flatMap (·.cells.toList)):=by
      intro l
      induction l with
      | nil=>intro us h1 _; rw[List.length_eq_zero_iff.1 h1.symm]; simp[zC]
      | cons a l ih=>
       intro us h1 h2;cases us with
       | nil=>simp at h1
       | cons u us=>
        rw[List.flatten_cons,List.flatMap_cons];exact(h2 0 a u rfl rfl).append (ih us (by simpa using h1) fun i r v V m=>h2 (i+1) r v (by simpa using V) (by simpa using m))
     refine⟨.agg cells',?_,?_⟩
     ·simp only[Instr.build,kf,zeroValue,typeInfo,run_program,M,hz,ke,kg,kru hu,Go.sizeOf,J,ev,Value.cells]
      rw[C];rfl
     simp only[qY,qO];refine⟨cells'.toList,by simp,?_⟩;rw[z];simp only[Nat.zero_mul,List.take_zero,ju];exact key rows vals (by rw[B,o]) hcell
    exact h.elim
   exact h.elim
  exact h.elim
 exact h.elim
theorem Gq {E:Env} {yes no:Prop}:∀{xl:List (Nat×Operand)},DR E xl yes no->yes\/no
 | [],h=>.inr h
 | (_,x)::l,h=>by
  simp only[DR,Cp]at h;split at h
  ·exact .inl h
  ·exact .inl h
  ·exact .inl h
  ·exact .inl h
  exact Gq h
theorem Ck:∀{c:FV} {R:List FV->Prop},tA c R->∃ cs,R cs/\∀ ⦃Lw:Nat⦄ (ρ:List Value) (H:(PH Lw)) (vs:List Value),qY ρ H c (.tuple vs.toArray)->xa ρ H cs vs
 | .cap0,R,h=>⟨[],h,fun Lw ρ H vs r=>by
   simp only[qY,Value.tuple.injEq]at r;simpa[xa]using r⟩
 | .cap a b,R,h=>by
  simp only[tA]at h;obtain⟨i,h,d⟩:=Ck h;refine⟨_,h,fun Lw ρ H vs r=>?_⟩;obtain⟨u,us,e,f,g⟩:=r;have e:vs=u::us:=by simpa using e
  subst e;exact⟨u,us,rfl,f,d _ _ _ g⟩
 | .top,_,h|.p _,_,h|.opt _ _,_,h|.tsl _ _,_,h|.ptr _ _,_,h|.hptr _,_,h|.bself _,_,h|.bsl _ _ _ _,_,h|.vsl _ _,_,h|.eptr _ _ _ _,_,h|.mref _,_,h|.pair _ _,_,h|.stmp _,_,h|.clo _ _,_,h|.fagg _,_,h|.nxt _ _ _,_,h|.asl _ _ _,_,h|.ifs _ _,_,h|.cut _,_,h=>by
  simp[tA]at h
theorem Py {v:FV} {R:List FV->Prop} (h:qau v R):∃ c,R c/\∀ ⦃Lw:Nat⦄ (ρ:List Value) (H:(PH Lw)) (x:Value),qY ρ H v x->xa ρ H c x.cells.toList:=by
 unfold qau at h;split at h
 ·obtain⟨c,h,b⟩:=Vq h
  have h:=Qj h;exact⟨_,h,fun Lw ρ H x r=>xa.of_RepL (b H x r)⟩
 ·rename_i k rows
  refine⟨_,h,fun Lw ρ H x r=>?_⟩;have e:=(nE (f:=.tsl k rows) rfl r).1;rw[e];exact⟨x,[],rfl,r,rfl⟩
 ·rename_i k
  refine⟨_,h,fun Lw ρ H x r=>?_⟩;have e:=(nE (f:=.mref k) rfl r).1;rw[e];exact⟨x,[],rfl,r,rfl⟩
 ·rename_i k o
  refine⟨_,h,fun Lw ρ H x r=>?_⟩;have e:=(nE (f:=.ptr k o) rfl r).1;rw[e];exact⟨x,[],rfl,r,rfl⟩
 ·rename_i f c
  refine⟨_,h,fun Lw ρ H x r=>?_⟩;have e:=(nE (f:=.clo f c) rfl r).1;rw[e];exact⟨x,[],rfl,r,rfl⟩
 ·rename_i k o n c
  refine⟨_,h,fun Lw ρ H x r=>?_⟩;have e:=(nE (f:=.bsl k o n c) rfl r).1;rw[e];exact⟨x,[],rfl,r,rfl⟩
 ·rename_i c
  obtain⟨cs,h,a⟩:=Ck h;refine⟨_,h,fun Lw ρ H x r=>?_⟩;obtain⟨vs,rfl,rc⟩:=r;simpa[Value.cells]using a ρ H vs rc
 exact h.elim
theorem BV {E:Env} {g:G} {o:List Field}:∀{xl:List (Nat×Operand)} {cs:List FV} {R:List FV->Prop},aG P E g o xl cs R ->
  ∃ a,R a/\(gOn g->∀ ⦃Lw:Nat⦄ (ρ:List Value) (H:(PH Lw)) (w:World) (eval:Operand->Value) (places:Array (Nat×Nat)) (cells:Array Value),(∀ x∈xl.map (·.2),qY ρ H (evF (qW E) x) (eval x)) ->
   (∀(i:Nat) (f:Field),o[i]? =some f->∀ d,P.info? f.type=some d->places[i]? =some (f.offset,d.size))->xa ρ H cs cells.toList ->
   ∃ cells',Instr.fill (places[·]?) cells (xl.map fun(i,x)=>(i,eval x))=some cells'/\xa ρ H a cells'.toList)
 | [],cs,R,h=>⟨cs,h,fun _ Lw ρ H w eval places cells _ _ r=>⟨cells,rfl,r⟩⟩
 | (i,x)::l,cs,R,h=>by
  simp only[aG]at h;obtain⟨f,hf,h⟩:=xg h;split at h
  ·rename_i d k
   obtain⟨v,h,t⟩:=qU h;obtain⟨c,h,u⟩:=Py h;split at h
   ·rename_i b
    have b:c.length=d.size:=jm b;obtain⟨h,hlen⟩:=rL h;obtain⟨a,h,z⟩:=BV h;refine⟨a,h,fun p Lw ρ H w eval places cells q e r=>?_⟩;have rc:=u ρ H _ (t ρ H _ p (q x (by simp)));have j:(eval x).cells.size=d.size:=by have:=rc.length; simp at this; omega
    have m:=r.length;simp at m;have n:f.offset+(eval x).cells.size<=cells.size:=by omega
    have h1:=DW f.offset (eval x) cells n;obtain⟨cells',A,B⟩:=z p ρ H w eval places ((eval x).cells.zipIdx.foldl (fun(cs:Array Value) (x:Value×Nat)=>cs.setIfInBounds (f.offset+x.2) x.1) cells) (fun y s=>q y (by simp at s ⊢; exact .inr s)) e (by
     rw[h1,j,← b];exact((r.take _).append rc).append (r.drop _))
    refine⟨cells',?_,B⟩;simp only[jk,Instr.fill,e i f hf d k];rw[if_neg (by simp[j]; omega)];exact A
   exact h.elim
  exact h.elim
theorem Fw {ρ:List Value} {H:(PH Lw)}:∀{cs:List FV} {vs:List Value},xa ρ H cs vs->qY ρ H (qcs cs) (.tuple vs.toArray)
 | [],vs,r=>by
  simp only[xa]at r;subst r;simp[qcs,qY]
 | c::cs,vs,r=>by
  obtain⟨u,us,rfl,a,rs⟩:=r;exact⟨u,us,rfl,a,Fw rs⟩
theorem Gv {E:Env} {g:G} {t:TypeId} {xl:List (Nat×Operand)} {R:FV->Prop} (h:Ef P E g t xl R) :
  ∃ d,R d/\(gOn g->∀ ⦃Lw:Nat⦄ (ρ:List Value) (H:(PH Lw)) (w:World) (eval:Operand->Value),(∀ x∈xl.map (·.2),qY ρ H (evF (qW E) x) (eval x)) ->
   ∃ v,(Instr.build t (xl.map fun(i,x)=>(i,eval x)).toArray).run P w=.ok v w/\qY ρ H d v):=by
 unfold Ef at h;split at h
 ·rename_i i e
  split at h
  ·rename_i vs hz
   obtain⟨o,h,b⟩:=Qm h;have h:=Qj h;split at h
   ·rename_i j hu
    split at h
    case h_2=>exact h.elim
    rename_i a;obtain⟨cs,h,k⟩:=BV h;refine⟨_,h,fun l Lw ρ H w eval m=>?_⟩;obtain⟨cells',n,rc⟩:=k l ρ H w eval (j.map fun f=>(f.offset,Rs P f.type)).toArray vs.toArray m (fun i f hf p c=>by simp[hf,Rs,c]) (by simpa[Value.cells]using xa.of_RepL (b H))
    refine⟨.agg cells',?_,⟨cells'.toList,by simp,Fw rc⟩⟩;simp only[Instr.build,kf,zeroValue,typeInfo,run_program,e,hz,ke,kg,kru hu,Value.cells];rw[Array.mapM_eq_mapM_toList];simp only[Sem.run_map];rw[Gh a];simp only[ke];rw[n];rfl
   exact h.elim
  exact h.elim
 exact h.elim
theorem QL {op:BinOp} {t:TypeId} {n:Bool} {y:FV} {R:FV->Prop} (h:Da P op t n y R) :
  ∃ i,R i/\∀ ⦃Lw:Nat⦄ (ρ:List Value) (H:(PH Lw)) (w:World) (d e:Operand) (a b:Value),((n=true/\a=.nilFunc)\/(n=false/\∃ f bs cs,a=.func f bs cs))->qY ρ H y b ->
   ∃ v,(do eqGuard op t d e a b; binOp op t a b:Sem Value).run P w=.ok v w/\qY ρ H i v:=by
 unfold Da at h;split at h
 ·rename_i l i2 i3 hu
  split at h
  ·have eqN:∀(w:World) (a:Value),((n=true/\a=.nilFunc)\/(n=false/\∃ f bs cs,a=.func f bs cs))->(Op.equal t a .nilFunc).run P w=.ok n w:=by
    intro w a j;have:∀ k,(Op.equalIn (k+1) t a .nilFunc).run P w=.ok n w:=by
     intro k;rcases j with ⟨rfl,rfl⟩|⟨rfl,f,bs,cs,rfl⟩<;>simp[Op.equalIn,kru hu]
    exact this 9999
   split at h
   ·refine⟨_,h,fun Lw ρ H w d e a b g c=>⟨.bool n,?_,bw⟩⟩
    simp only[qY,qO]at c;subst c;simp[eqGuard,binOp,kf,eqN w a g]
   ·refine⟨_,h,fun Lw ρ H w d e a b g c=>⟨.bool (!n),?_,bw⟩⟩
    simp only[qY,qO]at c;subst c;simp[eqGuard,binOp,kf,eqN w a g]
   exact h.elim
  exact h.elim
 exact h.elim
theorem Cx {op:BinOp} {t:TypeId} {x y:FV} {R:FV->Prop} (h:qdo P op t x y R) :
  ∃ q,R q/\∀ ⦃Lw:Nat⦄ (ρ:List Value) (H:(PH Lw)) (w:World) (d f:Operand) (a b:Value),qY ρ H x a->qY ρ H y b ->
   ∃ v,(do eqGuard op t d f a b; binOp op t a b:Sem Value).run P w=.ok v w/\qY ρ H q v:=by
 unfold qdo at h;split at h
 ·rename_i e hu
  split at h
  ·rename_i i s
   have eqN:∀(w:World) (p:Option Addr),(Op.equal t (.pointer p) (.pointer none)).run P w=.ok p.isNone w:=by
    intro w p;have:∀ n,(Op.equalIn (n+1) t (.pointer p) (.pointer none)).run P w=.ok p.isNone w:=by
     intro n;cases p<;>simp[Op.equalIn,kru hu]
    exact this 9999
   have fin:∀(b:Bool) (w:World) (d f:Operand) (p:Option Addr),(do eqGuard .eql t d f (.pointer p) (.pointer none); binOp .eql t (.pointer p) (.pointer none):Sem Value).run P w=.ok (.bool p.isNone) w /\
     (do eqGuard .neq t d f (.pointer p) (.pointer none); binOp .neq t (.pointer p) (.pointer none):Sem Value).run P w=.ok (.bool (!p.isNone)) w:=by
    intro b w d f p
    constructor
    ·simp only[eqGuard,binOp,kf,eqN]; rfl
    simp only[eqGuard,binOp,kf,eqN]; rfl
   split at h
   ·split at h
    ·refine⟨_,h,fun Lw ρ H w d f a b g c=>?_⟩
     simp only[qY,qO]at g c;subst g; subst c;exact⟨_,(fin true w d f none).1,bw⟩
    ·refine⟨_,h,fun Lw ρ H w d f a b g c=>?_⟩
     obtain⟨j,_,rfl⟩:=g;simp only[qY,qO]at c;subst c;exact⟨_,(fin true w d f _).1,bw⟩
    ·refine⟨_,h,fun Lw ρ H w d f a b g c=>?_⟩
     obtain⟨j,o,vs,rfl,_⟩:=g;simp only[qY,qO]at c;subst c;exact⟨_,(fin true w d f _).1,bw⟩
    exact h.elim
   ·split at h
    ·refine⟨_,h,fun Lw ρ H w d f a b g c=>?_⟩
     simp only[qY,qO]at g c;subst g; subst c;exact⟨_,(fin true w d f none).2,bw⟩
    ·refine⟨_,h,fun Lw ρ H w d f a b g c=>?_⟩
     obtain⟨j,_,rfl⟩:=g;simp only[qY,qO]at c;subst c;exact⟨_,(fin true w d f _).2,bw⟩
    ·refine⟨_,h,fun Lw ρ H w d f a b g c=>?_⟩
     obtain⟨j,o,vs,rfl,_⟩:=g;simp only[qY,qO]at c;subst c;exact⟨_,(fin true w d f _).2,bw⟩
    ·rename_i k off k' r
     split at h
     ·rename_i l
      have l:=jm l;split at h
      ·rename_i m
       have m:=jm m;subst l; subst m;refine⟨_,h,fun Lw ρ H w d f a b g c=>?_⟩;obtain⟨u,e1,rfl⟩:=g;obtain⟨z,e2,rfl⟩:=c;rw[e1]at e2;cases e2;refine⟨.bool false,?_,bw⟩;simp only[eqGuard,kf];exact Lib.run_neq_ptr_same w _ hu s
      exact h.elim
     exact h.elim
    exact h.elim
   exact h.elim
  exact h.elim
 exact h.elim
theorem Ph {src dst:TypeId} {R:Prop} (h:u8T P src dst R):∃ e,P.underlying src=some (.slice e)/\P.underlying e=some (.int .u8)/\P.underlying dst=some .string/\R:=by
 unfold u8T at h;split at h
 ·rename_i e he
  split at h
  ·rename_i a
   split at h
   ·rename_i b; exact⟨e,he,a,b,h⟩
   exact h.elim
  exact h.elim
 exact h.elim
theorem Su {l:List UInt8} {j:Nat} {x:UInt8} (h:l[j]? =some x):(qo l)[j]? =some [.int .u8 x.toNat]:=by simp[qo,h]
theorem Dv {H:(PH Lw)} {w:World} (s:SatH H w) {b z o:Nat} {l:List UInt8} (r:nA H b z o (qo l)):∀ j (a:j<l.length),w.cell? ((⟨b,o,none⟩:Addr).add j)=some (.int .u8 (l[j].toNat:Int)):=by
 intro j a;obtain⟨hz,vs,q,c⟩:=r.get (Su (jf a));simp at hz;subst hz;simp only[zC,qO]at q;obtain⟨v,_,rfl,rfl,rfl⟩:=q;have:=c 0 _ rfl;rw[Addr.add_lit];simpa using(s _ _ _ this).1
theorem lk {src dst:TypeId} {n:Nat} {t:TypeId} {R:Prop} (h:qfx P src dst n t R) :
  R/\∀(w:World) (b:Nat),w.shape? b=some (t,n)->(convert src dst (.pointer (some ⟨b,0,none⟩))).run P w=.ok (.pointer (some ⟨b,0,none⟩)) w:=by
 unfold qfx at h;split at h
 ·rename_i u a
  split at h
  ·rename_i c
   split at h
   ·rename_i i e
    exact⟨h.2,fun w b d=>Lib.run_to_unsafe w ⟨b,0,none⟩ a c e h.1.1 d h.1.2⟩
   exact h.elim
  exact h.elim
 ·rename_i a
  split at h
  ·rename_i u c
   split at h
   ·rename_i i e
    exact⟨h.2,fun w b d=>Lib.run_from_unsafe w ⟨b,0,none⟩ a c e d h.1⟩
   exact h.elim
  exact h.elim
 exact h.elim
theorem LZ {g:G} {src dst:TypeId} {lo:List AObj} {x:FV} {R:FV->Prop} (h:Nz P g src dst lo x R) :
  ∃ t,R t/\(gOn g->∀ ⦃Lw:Nat⦄ (bs:(Base Lw)) (ρ:List Value) (H:(PH Lw)) (w:World) (v:Value),SatW bs ρ H lo w->qY ρ H x v->∃ u,(convert src dst v).run P w=.ok u w/\qY ρ H t u):=by
 have rowsCase:∀(e:TypeId) (l:List UInt8),P.underlying src=some (.slice e)->P.underlying e=some (.int .u8)->P.underlying dst=some .string->∀ ⦃Lw:Nat⦄ (H:(PH Lw)) (w:World) (v:Value),SatH H w->qO H (.sl (qo l)) v ->
   (convert src dst v).run P w=.ok (.string ⟨l.toArray⟩) w:=by
  intro e l a he i Lw H w v s rv;simp only[qO]at rv;rcases rv with ⟨q,rfl|⟨K,d,rfl⟩⟩|⟨b,o,z,cap,rfl,O,L⟩
  ·have:l=[]:=by simpa[qo]using q
   subst this;exact run_convert_bytes_nil w src e a he 0 0 dst i
  ·have:l=[]:=by simpa[qo]using q
   subst this;exact run_convert_bytes_back (P:=P) w src dst e K d [] a he i (fun j y=>absurd y (Nat.not_lt_zero _))
  have:=run_convert_bytes_back (P:=P) w src dst e ⟨b,o,none⟩ cap l a he i (Dv s L);simpa[qo]using this
 unfold Nz at h;split at h
 ·exact h.elim
 ·rename_i k rows
  obtain⟨e,a,he,i,l,A,h⟩:=Ph h;refine⟨_,h,fun r Lw bs ρ H w v s rv=>⟨_,rowsCase e l a he i H w v s.sath ?_,EB⟩⟩;rw[← mV A r]; exact rv.2
 ·exact h.elim
 ·exact h.elim
 ·rename_i k off
  split at h
  ·rename_i q
   have q:=jm q;subst q;obtain⟨M,m,h⟩:=xg h;split at h
   ·rename_i bt cells
    obtain⟨h,a⟩:=lk h;refine⟨_,h,fun r Lw bs ρ H w v s rv=>?_⟩;obtain⟨b,F,rfl⟩:=rv;obtain⟨Q,vs,I,p,B,_⟩:=s.objs k _ _ m F;cases I;have C:=B.length;have D:w.shape? b=some (bt,cells.length):=by simp[World.shape?,p,C]
    exact⟨_,a w b D,b,F,rfl⟩
   exact h.elim
  exact h.elim
 ·exact h.elim
 ·rename_i k off n
  obtain⟨e,a,he,i,h⟩:=Ph h;obtain⟨M,m,h⟩:=xg h;split at h
  ·rename_i l
   refine⟨_,h.2,fun r Lw bs ρ H w v s rv=>?_⟩;have S:=mV h.1 r;obtain⟨J,T,d,c,N,rfl⟩:=rv;obtain⟨b,cs,I,cap,lo',U,e1,p,_,h2,_⟩:=s.objs k _ _ m N;obtain rfl:J=b:=by simpa[qR]using congrArg qR e1
   have A:n=((l.drop off).take n).length:=by simp; omega
   have f:=run_convert_bytes_back (P:=P) w src dst e ⟨J,off,none⟩ c ((l.drop off).take n) a he i (fun j y=>by
    rw[Addr.add_lit];simp only[World.cell?,p];have E:j<n:=by omega
    have:l[off+j]? =some ((l.drop off).take n)[j]:=by
     have h3:=jf y;rw[← h3,jE,if_pos E,jD]
    exact h2 _ _ this)
   rw[← A]at f;exact⟨_,f,EB⟩
  exact h.elim
 obtain⟨t,h,a⟩:=Eh h;exact⟨t,h,fun r Lw bs ρ H w v s rv=>a ρ H w v rv⟩
end
end Ax
end
section
namespace Ax
open Go
variable {Lw:Nat}
section
variable {P:Program}
theorem Qe {bs:(Base Lw)} {ρ:List Value} {H H':(PH Lw)} {a:FV} {lo:List AObj} {v:Value} {w w':World} (s:SatW bs ρ H lo w) (c:Calm H w H' w') (r:qY ρ H' a v) :
  tf bs ρ H a lo v w':=⟨ρ,H',jq _,c.le,s.calm c,r⟩
theorem upon_value {bs:(Base Lw)} {ρ:List Value} {H:(PH Lw)} {a:FV} {lo:List AObj} {v:Value} {w:World} {x:Sem Value} (s:SatW bs ρ H lo w) (b:x.run P w=.ok v w) (r:qY ρ H a v) :
  Lu P bs ρ H a lo ((do pure (.value (← x)):Sem Next).run P w):=by
 simp only[kf,b,ke,kg];exact fy s r
theorem XD {bs:(Base Lw)} {ρ:List Value} {H:(PH Lw)} {lo:List AObj} {r:PV} {w:World} {x:Result Next} (s:SatW bs ρ H lo w) (h:Xn P H w r x):Lu P bs ρ H (.p r) lo x:=by
 unfold Xn at h;split at h
 ·obtain⟨H',c,rv⟩:=h
  exact Qe s c rv
 ·obtain⟨rfl,a⟩:=h
  exact a.mono fun d b ⟨v,H',e,c,rv⟩=>⟨v,e,Qe s c rv⟩
 exact h.elim
theorem Hu {dst:Option Tmp} {op:Op} {ty:TypeId} {pos:String} {after:Array Edge} {guard:Option (Nat×Bool)} {E:Env} {g:G} {R:FV->Prop} (h:TJ P op E g R):∃ A,R A/\∀ lo,gB P ⟨dst,op,ty,pos,after,guard⟩ (qW E) lo g A lo:=by
 unfold TJ at h;split at h
 ·rename_i f b bs
  have d:=ry h; clear h; obtain⟨vs,h,j⟩:=d;have d:=pf h; clear h; obtain⟨D,h,m⟩:=d;refine⟨_,h,fun lo c Lw F ρ H w eval s i=>?_⟩;have rl:=m ρ H _ (j ρ H eval c (fun y o=>i y (by simpa[kh]using o)))
  exact upon_value s (v:=.func (.func f) ((b::bs).map eval).toArray #[]) (by simp[Instr.makeFunc]) (by simp only[qY,qO]; exact⟨_,rfl,rl⟩)
 ·rename_i x K a
  have d:=qU h; clear h; obtain⟨B,h,n⟩:=d;have d:=mU h; clear h; obtain⟨p,h,hp⟩:=d;obtain⟨r,l,h⟩:=h;refine⟨_,h,fun lo c Lw bs ρ H w eval s i=>?_⟩;obtain⟨u,e,I⟩:=mV l c H _ w (hp _ _ _ (n ρ H _ c (i x (by simp[kh]))));exact upon_value s e I
 ·rename_i f xs
  split at h
  ·refine⟨_,h,fun lo c Lw bs ρ H w eval s i=>?_⟩
   exact upon_value s (v:=.func (.func f) #[] #[]) (by simp[Instr.makeFunc]) (by simp[qY,qO])
  rename_i x xs;have d:=ry h; clear h; obtain⟨vs,h,j⟩:=d;refine⟨_,h,fun lo c Lw bs ρ H w eval s i=>?_⟩;have rl:=j ρ H eval c (fun y o=>i y (by simpa[kh]using o))
  exact upon_value s (v:=.func (.func f) #[] ((x::xs).map eval).toArray) (by simp[Instr.makeFunc]) ⟨_,rfl,Fw rl⟩
 ·rename_i t xs C
  have d:=qU h; clear h; obtain⟨A,h,q⟩:=d;have d:=ry h; clear h; obtain⟨vs,h,j⟩:=d;have d:=pf h; clear h; obtain⟨D,h,m⟩:=d;split at h
  ·rename_i f
   obtain⟨r,l,h⟩:=h;refine⟨_,h,fun lo c Lw bs ρ H w eval s i=>?_⟩;have l:=mV l c;have rl:=m ρ H _ (j ρ H eval c (fun y o=>i y (by simp[kh,ki,o])))
   have:=l H w _ s.sath rl;have hf:(eval (.tmp t))=.func (.func f) #[] #[]:=by
    have:=q ρ H _ c (i (.tmp t) (by simp[kh,ki]));simpa[qY,qO]using this
   simp only[execOp,resolve,Deferred.ofValue,invoke,hf,kf,kg,ke,kb,Array.empty_append,Array.append_empty];exact XD s this
  ·exact h.elim
  ·rename_i f cs
   obtain⟨r,l,h⟩:=h;refine⟨_,h,fun lo c Lw bs ρ H w eval s i=>?_⟩;have l:=mV l c;have rl:=m ρ H _ (j ρ H eval c (fun y o=>i y (by simp[kh,ki,o])))
   have rf:=q ρ H _ c (i (.tmp t) (by simp[kh,ki]));simp only[qY,qO]at rf;obtain⟨us,hf,rc⟩:=rf;have:=l H w _ s.sath (rl.append rc);simp only[execOp,resolve,Deferred.ofValue,invoke,hf,kf,kg,ke,kb,List.append_toArray];exact XD s this
  ·rename_i f bs
   obtain⟨r,l,h⟩:=h;refine⟨_,h,fun lo c Lw bs ρ H w eval s i=>?_⟩;have l:=mV l c;have rl:=m ρ H _ (j ρ H eval c (fun y o=>i y (by simp[kh,ki,o])))
   have rf:=q ρ H _ c (i (.tmp t) (by simp[kh,ki]));simp only[qY,qO]at rf;obtain⟨us,hf,rc⟩:=rf;have:=l H w _ s.sath (rc.append rl);simp only[execOp,resolve,Deferred.ofValue,invoke,hf,kf,kg,ke,kb,List.append_toArray,Array.append_empty];exact XD s this
  exact h.elim
 ·exact h.elim
 ·rename_i x y C
  have d:=qU h; clear h; obtain⟨B,h,n⟩:=d;have d:=qU h; clear h; obtain⟨J,h,z⟩:=d;split at h
  ·rename_i k a
   split at h
   ·rename_i k' b
    refine⟨_,h,fun lo c Lw bs ρ H w eval s i=>?_⟩;have r1:=vD (n ρ H _ c (i x (by simp[kh,ki])));have r2:=vD (z ρ H _ c (i y (by simp[kh,ki])));refine upon_value s (v:=.int k (bif decide (b>a)then b else a)) ?_ bJ;simp only[execOp,resolve,invoke,builtin,kf,kg,ke,kb,jk,jN,r1,r2,Builtin.max_,List.foldlM,Builtin.max2,Bool.cond_decide]
   exact h.elim
  exact h.elim
 ·rename_i x y C
  have d:=qU h; clear h; obtain⟨B,h,n⟩:=d;have d:=qU h; clear h; obtain⟨J,h,z⟩:=d;split at h
  ·rename_i k a
   split at h
   ·rename_i k' b
    refine⟨_,h,fun lo c Lw bs ρ H w eval s i=>?_⟩;have r1:=vD (n ρ H _ c (i x (by simp[kh,ki])));have r2:=vD (z ρ H _ c (i y (by simp[kh,ki])));refine upon_value s (v:=.int k (bif decide (b<a)then b else a)) ?_ bJ;simp only[execOp,resolve,invoke,builtin,kf,kg,ke,kb,jk,jN,r1,r2,Builtin.min_,List.foldlM,Builtin.min2,Bool.cond_decide]
   exact h.elim
  exact h.elim
 exact h.elim
theorem Cy {o:Oper} {E:Env} {g:G} {R:FV->Prop} (h:aU P o.op E g R):∃ A,R A/\∀ lo,gB P o (qW E) lo g A lo:=by
 obtain⟨dst,op,ty,pos,after,guard⟩:=o;simp only at h;unfold aU at h;split at h
 ·
  rename_i x;cases g with
  | none=>
   simp only[Cp]at h;exact⟨_,h,fun lo l Lw bs ρ H w eval s m=>fy s (m x (by simp[kh]))⟩
  | some g=>
   obtain⟨D,h,j⟩:=qU h;exact⟨_,h,fun lo l Lw bs ρ H w eval s m=>fy s (j ρ H _ l (m x (by simp[kh])))⟩
 ·rename_i x
  cases g with
  | none=>
   simp only[Cp]at h;exact⟨_,h,fun lo l Lw bs ρ H w eval s m=>fy s (m x (by simp[kh]))⟩
  | some g=>
   obtain⟨D,h,j⟩:=qU h;exact⟨_,h,fun lo l Lw bs ρ H w eval s m=>fy s (j ρ H _ l (m x (by simp[kh])))⟩
 ·
  rename_i c a b;obtain⟨c',h,M⟩:=qU h;split at h
  ·rename_i T
   have key:∃ A,R A/\(gOn g->∀ ⦃Lw:Nat⦄ (ρ:List Value) (H:(PH Lw)) (U V:Value),qY ρ H (evF (qW E) a) U->qY ρ H (evF (qW E) b) V->qY ρ H A (if T then U else V)):=by
    have fin:∀(Z gb:Bool) (N O:FV),Str (some Z) (evF (qW E) a) N->Str (some gb) (evF (qW E) b) O->(gOn g->T=true->Z=true)->(gOn g->T=false->gb=true) ->
      (match N,O with
       | .p (.bool a),.p (.bool b)=>R (.p (.bool (bif T then a else b)))
       | _,_=>False)->∃ A,R A/\(gOn g->∀ ⦃Lw:Nat⦄ (ρ:List Value) (H:(PH Lw)) (U V:Value),qY ρ H (evF (qW E) a) U->qY ρ H (evF (qW E) b) V->qY ρ H A (if T then U else V)):=by
     intro Z gb N O X I h1 h2 h;split at h
     ·rename_i ab bb
      refine⟨_,h,fun l Lw ρ H U V F J=>?_⟩;cases T with
      | true=>
       have:=rB (X ρ H _ (h1 l rfl) F);simp[this,qY,qO]
      | false=>
       have:=rB (I ρ H _ (h2 l rfl) J);simp[this,qY,qO]
     exact h.elim
    split at h
    ·obtain⟨N,h,X⟩:=qU h
     obtain⟨O,h,I⟩:=qU h;exact fin _ _ N O X I (fun _ h=>h) (fun _ h=>by simp[h]) h
    obtain⟨N,h,X⟩:=qU h;obtain⟨O,h,I⟩:=qU h;exact fin _ _ N O X I (fun l h=>by simp only[gOn]at l; simp[l,h]) (fun l h=>by simp only[gOn]at l; simp[l,h]) h
   obtain⟨A,h,B⟩:=key;refine⟨_,h,fun lo l Lw bs ρ H w eval s m=>?_⟩;have rc:=rB (M ρ H _ l (m c (by simp[kh])));simp only[execOp,rc,asBool,kf,kg,ke];exact fy s (B l ρ H _ _ (m a (by simp[kh])) (m b (by simp[kh])))
  exact h.elim
 ·rename_i t x f
  obtain⟨D,h,j⟩:=qU h;obtain⟨A,h,B⟩:=Md h;refine⟨_,h,fun lo l Lw bs ρ H w eval s m=>?_⟩;obtain⟨v,C,rv⟩:=B ρ H w _ (j ρ H _ l (m x (by simp[kh])));exact upon_value s C rv
 ·exact h.elim
 ·rename_i t x i
  obtain⟨D,h,j⟩:=qU h;obtain⟨i',h,Q⟩:=qU h;obtain⟨A,h,B⟩:=Cw h;refine⟨_,h,fun lo l Lw bs ρ H w eval s m=>?_⟩;obtain⟨v,C,rv⟩:=B l ρ H w _ _ (j ρ H _ l (m x (by simp[kh]))) (Q ρ H _ l (m i (by simp[kh])));exact upon_value s C rv
 ·rename_i t x i
  obtain⟨D,h,j⟩:=qU h;obtain⟨i',h,Q⟩:=qU h;obtain⟨A,h,B⟩:=Me h;refine⟨_,h,fun lo l Lw bs ρ H w eval s m=>?_⟩;obtain⟨v,C,rv⟩:=B l ρ H w _ _ (j ρ H _ l (m x (by simp[kh]))) (Q ρ H _ l (m i (by simp[kh])));exact upon_value s C rv
 ·rename_i op t x y t'
  obtain⟨D,h,j⟩:=qU h;obtain⟨y',h,hy'⟩:=qU h;have key:∃ A,R A/\(gOn g->∀ ⦃Lw:Nat⦄ (ρ:List Value) (H:(PH Lw)) (w:World) (K L:Operand) (a b:Value),qY ρ H D a->qY ρ H y' b ->
    ∃ v,(do eqGuard op t K L a b; binOp op t a b:Sem Value).run P w=.ok v w/\qY ρ H A v):=by
   split at h
   ·obtain⟨A,h,B⟩:=Cx h; exact⟨A,h,fun _=>B⟩
   ·obtain⟨A,h,B⟩:=Cx h; exact⟨A,h,fun _=>B⟩
   ·obtain⟨A,h,B⟩:=Cx h; exact⟨A,h,fun _=>B⟩
   ·obtain⟨A,h,B⟩:=QL h; exact⟨A,h,fun _ Lw ρ H w K L a b F J=>B ρ H w K L a b (.inl ⟨rfl,by simpa only[qY,qO]using F⟩) J⟩
   ·obtain⟨A,h,B⟩:=QL h; exact⟨A,h,fun _ Lw ρ H w K L a b F J=>B ρ H w K L a b (.inr ⟨rfl,by simp only[qY,qO]at F; exact⟨_,_,_,F⟩⟩) J⟩
   ·obtain⟨A,h,B⟩:=QL h; exact⟨A,h,fun _ Lw ρ H w K L a b F J=>B ρ H w K L a b (.inr ⟨rfl,by simp only[qY,qO]at F; obtain⟨vs,e,_⟩:=F; exact⟨_,_,_,e⟩⟩) J⟩
   ·obtain⟨A,h,B⟩:=QL h; exact⟨A,h,fun _ Lw ρ H w K L a b F J=>B ρ H w K L a b (.inr ⟨rfl,by simp only[qY,qO]at F; obtain⟨vs,e,_⟩:=F; exact⟨_,_,_,e⟩⟩) J⟩
   exact Tz h
  obtain⟨A,h,B⟩:=key;refine⟨_,h,fun lo l Lw bs ρ H w eval s m=>?_⟩;obtain⟨v,C,rv⟩:=B l ρ H w x y _ _ (j ρ H _ l (m x (by simp[kh]))) (hy' ρ H _ l (m y (by simp[kh])));exact upon_value s C rv
 ·rename_i t x
  obtain⟨D,h,j⟩:=qU h;split at h
  ·rename_i b
   refine⟨_,h,fun lo l Lw bs ρ H w eval s m=>?_⟩;have rx:=rB (j ρ H _ l (m x (by simp[kh])));exact upon_value s (v:=.bool !b) (by simp[rx,Op.unary]) bw
  exact h.elim
 ·rename_i t x
  obtain⟨D,h,j⟩:=qU h;split at h
  ·rename_i k n
   refine⟨_,h,fun lo l Lw bs ρ H w eval s m=>?_⟩;have rx:=vD (j ρ H _ l (m x (by simp[kh])));exact upon_value s (v:=.int k (k.wrap (0 - n))) (by simp[rx,Op.unary,Op.intArith]) bJ
  exact h.elim
 ·rename_i x
  obtain⟨D,h,j⟩:=qU h;split at h
  ·rename_i k off
   refine⟨_,h,fun lo l Lw bs ρ H w eval s m=>?_⟩;have rx:=j ρ H _ l (m x (by simp[kh]));obtain⟨b,I,e⟩:=rx;simp only[execOp,e];exact fy s ⟨b,I,rfl⟩
  ·rename_i row
   refine⟨_,h,fun lo l Lw bs ρ H w eval s m=>?_⟩;have rx:=j ρ H _ l (m x (by simp[kh]));obtain⟨b,o,vs,e,q,c⟩:=rx;simp only[execOp,e];exact fy s ⟨b,o,vs,rfl,q,c⟩
  ·rename_i k z i off
   refine⟨_,h,fun lo l Lw bs ρ H w eval s m=>?_⟩;have rx:=j ρ H _ l (m x (by simp[kh]));obtain⟨b,n,cap,I,e⟩:=rx;simp only[execOp,e];exact fy s ⟨b,n,cap,I,rfl⟩
  exact h.elim
 ·rename_i t x lo hi mx
  obtain⟨D,h,j⟩:=qU h;obtain⟨A,h,B⟩:=Mk h;refine⟨_,h,fun lo' l Lw bs ρ H w eval s m=>?_⟩;obtain⟨u,C,Y⟩:=B ρ H w eval _ l (j ρ H _ l (m x (by simp[kh]))) (fun y S=>m y (by simp only[kh]; simp only[Array.mem_append]; exact .inl (.inl (.inr S)))) (fun y S=>m y (by simp only[kh]; simp only[Array.mem_append]; exact .inl (.inr S))) (fun y S=>m y (by simp only[kh]; simp only[Array.mem_append]; exact .inr S))
  exact upon_value s C Y
 ·rename_i t n xl
  obtain⟨A,h,B⟩:=Fi h;refine⟨_,h,fun lo' l Lw bs ρ H w eval s m=>?_⟩;obtain⟨v,w',H',C,c,rv⟩:=B l ρ H w eval s.sath (fun x j=>m x (by simpa[kh]using j))
  simp only[execOp,kb,kf,C,ke,kg];exact Qe s c rv
 ·rename_i t xl
  have key:∃ A,R A/\(gOn g->∀ ⦃Lw:Nat⦄ (ρ:List Value) (H:(PH Lw)) (w:World) (eval:Operand->Value),(∀ x∈xl.map (·.2),qY ρ H (evF (qW E) x) (eval x)) ->
   ∃ v,(Instr.build t (xl.map fun(i,x)=>(i,eval x)).toArray).run P w=.ok v w/\qY ρ H A v):=by
   rcases Gq h with h|h
   ·exact Gv h
   exact LY h
  clear h;obtain⟨A,h,B⟩:=key;refine⟨_,h,fun lo' l Lw bs ρ H w eval s m=>?_⟩;obtain⟨v,C,rv⟩:=B l ρ H w eval (fun x j=>m x (by simpa[kh]using j))
  simp only[execOp,kb];exact upon_value s C rv
 ·rename_i x i
  obtain⟨D,h,j⟩:=qU h;split at h
  ·rename_i vs
   obtain⟨c,M,h⟩:=xg h;refine⟨_,h,fun lo l Lw bs ρ H w eval s m=>?_⟩;have rx:=j ρ H _ l (m x (by simp[kh]));simp only[qY,qO]at rx;obtain⟨us,e,q⟩:=rx;obtain⟨v,hv,rv⟩:=q.get M;exact upon_value s (v:=v) (by simp[e,Instr.extract,hv]) rv
  ·exact h.elim
  ·rename_i ok a b
   have cut:∀{Lw:Nat} {ρ:List Value} {H:(PH Lw)} {u:Value},ok=true->qY ρ H (.nxt ok a b) u->∃ y z,u=.tuple #[.bool true,y,z]/\qO H a y/\qO H b z:=by
    intro Lw ρ H u hok r;simp only[qY,hok,if_true]at r;exact r
   split at h
   ·refine⟨_,h,fun lo l Lw bs ρ H w eval s m=>?_⟩
    have r:=j ρ H _ l (m x (by simp[kh]));cases ok with
    | true=>
     obtain⟨u,v,e,_,_⟩:=cut rfl r;exact upon_value s (v:=.bool true) (by simp[e,Instr.extract]) bw
    | false=>
     simp only[qY,Bool.false_eq_true,if_false]at r;exact upon_value s (v:=.bool false) (by simp[r,Instr.extract]) bw
   ·refine⟨_,h.2,fun lo l Lw bs ρ H w eval s m=>?_⟩
    obtain⟨u,v,e,Y,rv⟩:=cut (mV h.1 l) (j ρ H _ l (m x (by simp[kh])));exact upon_value s (v:=u) (by simp[e,Instr.extract]) Y
   ·refine⟨_,h.2,fun lo l Lw bs ρ H w eval s m=>?_⟩
    obtain⟨u,v,e,Y,rv⟩:=cut (mV h.1 l) (j ρ H _ l (m x (by simp[kh])));exact upon_value s (v:=v) (by simp[e,Instr.extract]) rv
   exact h.elim
  exact h.elim
 ·rename_i t x
  obtain⟨D,h,j⟩:=qU h;split at h
  ·exact h.elim
  ·rename_i d hd hu
   split at h
   ·refine⟨_,h,fun lo l Lw bs ρ H w eval s m=>?_⟩
    have rx:=j ρ H _ l (m x (by simp[kh]));refine upon_value s (v:=.iface t (eval x)) ?_ (by simp only[qY]; exact⟨_,rfl,rx⟩);simp only[Instr.makeInterface,kf,kru hu,ke];rfl
   obtain⟨p,h,hp⟩:=mU h;refine⟨_,h,fun lo l Lw bs ρ H w eval s m=>?_⟩;have rx:=hp ρ H _ (j ρ H _ l (m x (by simp[kh])));refine upon_value s (v:=.iface t (eval x)) ?_ (by simp only[qY,qO]; exact⟨_,rfl,rx⟩);simp only[Instr.makeInterface,kf,kru hu,ke];rfl
  exact h.elim
 ·rename_i x t
  obtain⟨D,h,j⟩:=qU h;obtain⟨A,h,B⟩:=TF h;refine⟨_,h,fun lo l Lw bs ρ H w eval s m=>?_⟩;obtain⟨v,C,rv⟩:=B ρ H w ty _ (j ρ H _ l (m x (by simp[kh,ki])));simp only[execOp,resolve,invoke,builtin,kf,kg,ke,kb,jk,jN,C];exact fy s rv
 ·rename_i f xs ts
  obtain⟨vs,h,hvs⟩:=ry h;obtain⟨ps,h,hps⟩:=pf h;obtain⟨r,M,h⟩:=h;refine⟨_,h,fun lo l Lw bs ρ H w eval s m=>?_⟩;have M:=mV M l;have rl:=hps ρ H _ (hvs ρ H eval l (fun y S=>m y (by simp[kh,ki,S])))
  have:=M H w _ s.sath rl;have hf:(eval (.func f))=.func (.func f) #[] #[]:=by
   have:=m (.func f) (by simp[kh,ki]);simpa[evF,qY,qO]using this
  simp only[execOp,resolve,Deferred.ofValue,invoke,hf,kf,kg,ke,kb,Array.empty_append,Array.append_empty];exact XD s this
 obtain⟨A,h,B⟩:=Hu (dst:=dst) (ty:=ty) (pos:=pos) (after:=after) (guard:=guard) h;exact⟨A,h,B⟩
theorem EW {H:(PH Lw)} {w:World} (s:SatH H w) {b o:Nat} {v:Value} (h:H b o=some v):w.cell? ⟨b,o,none⟩=some v:=(s.cell b o v h).1
theorem bB {w:World} {t:TypeId} {d:TypeDesc} {i:TypeInfo} (f:P.underlying t=some d) (g:P.info? t=some i) {b o:Nat} {vs:List Value}
  (h:∀ j v,vs[j]? =some v->w.cell? ⟨b,o+j,none⟩=some v) (k:i.size<=vs.length) (a:lS d=true) :
  (Instr.loadAt t (.pointer (some ⟨b,o,none⟩))).run P w=.ok (.agg (vs.take i.size).toArray) w:=by
 have e:(loadCells ⟨b,o,none⟩ (vs.take i.size).length).run P w=.ok (vs.take i.size).toArray w:=
  run_loadCells_list (P:=P) w ⟨b,o,none⟩ (vs.take i.size) (fun j v c=>by
   rw[Addr.add_lit];rw[jE]at c;split at c
   ·exact h j v c
   cases c)
 rw[jt,Nat.min_eq_left k]at e;simp[Instr.loadAt,Instr.sureAddr,loadVar,Qp f,a,Go.sizeOf,typeInfo,g,e]
theorem cW {w:World} {t:TypeId} {d:TypeDesc} (c:P.underlying t=some d) {b o:Nat} {v:Value}
  (e:w.cell? ⟨b,o,none⟩=some v) (a:lS d=false):(Instr.loadAt t (.pointer (some ⟨b,o,none⟩))).run P w=.ok v w:=by
 simp[Instr.loadAt,Instr.sureAddr,loadVar,Qp c,a,e]
theorem Ga {t:TypeId} {lo:List AObj} {E:FV} {R:FV->Prop} (h:QM P t lo E R) :
  ∃ F,R F/\∀ ⦃Lw:Nat⦄ (bs:(Base Lw)) (ρ:List Value) (H:(PH Lw)) (w:World) (v:Value),SatW bs ρ H lo w->qY ρ H E v->∃ a u,v=.pointer (some a)/\(Instr.loadAt t v).run P w=.ok u w/\qY ρ H F u:=by
 unfold QM at h;split at h
 ·rename_i k off
  obtain⟨K,m,h⟩:=xg h;split at h
  ·rename_i bt cells
   obtain⟨h,G⟩:=rJ h;obtain⟨d,i,n,y,h⟩:=fE h;split at h
   ·rename_i e
    obtain⟨h,x⟩:=rO h;split at h
    ·refine⟨_,h,fun Lw bs ρ H w v s l=>?_⟩
     obtain⟨b,o,rfl⟩:=l;obtain⟨A,vs,p,g,f,_⟩:=s.objs k _ _ m o;cases p;refine⟨_,_,rfl,bB n y (tz g off) (by rw[jM]at x ⊢; rw[f.length]; exact x) e,?_⟩;exact⟨_,rfl,Fw ((f.drop off).take _)⟩
    obtain⟨L,h,B⟩:=pf h;refine⟨_,h,fun Lw bs ρ H w v s l=>?_⟩;obtain⟨b,o,rfl⟩:=l;obtain⟨A,vs,p,g,f,_⟩:=s.objs k _ _ m o;cases p;refine⟨_,_,rfl,bB n y (tz g off) (by rw[jM]at x ⊢; rw[f.length]; exact x) e,?_⟩;simp only[qY,qO];exact⟨_,rfl,B _ _ _ ((f.drop off).take _)⟩
   rename_i e;split at h
   ·rename_i c r I
    refine⟨_,h,fun Lw bs ρ H w v s l=>?_⟩;obtain⟨b,o,rfl⟩:=l;obtain⟨A,vs,p,g,f,_⟩:=s.objs k _ _ m o;cases p;have z:=f.drop off;rw[I]at z;obtain⟨v,C,e2,rv,_⟩:=z;have:=tz g off 0 v (by rw[e2]; simp);exact⟨_,_,rfl,cW n (by simpa using this) e,rv⟩
   exact h.elim
  ·rename_i bt c
   split at h
   ·rename_i D
    obtain⟨d,i,n,y,h⟩:=fE h;split at h
    ·exact h.elim
    rename_i e;refine⟨_,h,fun Lw bs ρ H w v s l=>?_⟩;obtain⟨b,o,rfl⟩:=l;obtain⟨A,u,us,p,g,f,_⟩:=s.objs k _ _ m o;cases p;have D:=jm D;have:=tz g 0 0 u (by simp);rw[D];exact⟨_,_,rfl,cW n (by simpa using this) e,f⟩
   exact h.elim
  exact h.elim
 ·rename_i row
  obtain⟨d,i,n,y,h⟩:=fE h;split at h
  ·rename_i e
   obtain⟨h,x⟩:=rO h;refine⟨_,h,fun Lw bs ρ H w v s l=>?_⟩;obtain⟨b,o',vs,rfl,q,c⟩:=l;refine⟨_,_,rfl,bB n y (fun j v J=>EW s.sath (c j v J)) (by rw[q.length]; exact x) e,?_⟩
   simp only[qY,qO];exact⟨_,rfl,q.take _⟩
  rename_i e;split at h
  ·rename_i M r I
   refine⟨_,h,fun Lw bs ρ H w v s l=>?_⟩;obtain⟨b,o',vs,rfl,q,c⟩:=l;simp only[zC]at q;obtain⟨u,C,e2,rv,_⟩:=q;have:=EW s.sath (c 0 u (by rw[e2]; simp));exact⟨_,_,rfl,cW n (by simpa using this) e,rv⟩
  exact h.elim
 exact h.elim
theorem Mg {o:Oper} {t:TypeId} {x:Operand} (d:o.op=.load t x) {E:Env} {g:G} {lo:List AObj} {R:FV->Prop} (h:evS E g x fun x=>QM P t lo x R) :
  ∃ b,R b/\gB P o (qW E) lo g b lo:=by
 obtain⟨l,h,c⟩:=qU h;obtain⟨b,h,e⟩:=Ga h;refine⟨_,h,fun f Lw bs ρ H w eval s i=>?_⟩;obtain⟨a,u,_,j,k⟩:=e bs ρ H w _ s (c ρ H _ f (i x (by simp[d,kh])));simp only[execOp,d];exact upon_value s j k
theorem Ma {o:Oper} {c d:TypeId} {x:Operand} (e:o.op=.convert c d x) {E:Env} {g:G} {lo:List AObj} {R:FV->Prop} (h:evS E g x fun x=>Nz P g c d lo x R) :
  ∃ a,R a/\gB P o (qW E) lo g a lo:=by
 obtain⟨m,h,b⟩:=qU h;obtain⟨a,h,i⟩:=LZ h;refine⟨_,h,fun f Lw bs ρ H w eval s j=>?_⟩;obtain⟨u,k,l⟩:=i f bs ρ H w _ s (b ρ H _ f (j x (by simp[e,kh])));simp only[execOp,e];exact upon_value s k l
end
end Ax
end
section
namespace Ax
open Go
variable {Lw:Nat}
theorem gk.length {H:(PH Lw)} {z:Nat}:∀{rows:List (List PV)} {vs:List Value},gk H z rows vs->vs.length=rows.length * z
 | [],_,x=>by simp only[gk]at x; simp[x]
 | r::rs,vs,x=>by
  simp only[gk]at x;obtain⟨hz,a,b,rfl,q,y⟩:=x;rw[jb,q.length,hz,y.length,ja,Nat.add_mul,Nat.one_mul,Nat.add_comm]
theorem gk.append {H:(PH Lw)} {z:Nat}:∀{rows c:List (List PV)} {vs us:List Value},gk H z rows vs->gk H z c us->gk H z (rows++c) (vs++us)
 | [],_,vs,us,x,y=>by simp only[gk]at x; simpa[x]using y
 | r::rs,_,vs,us,x,y=>by
  obtain⟨hz,a,b,e,q,d⟩:=x;exact⟨hz,a,b++us,by rw[e,js],q,d.append y⟩
theorem nA.flat {H:(PH Lw)} {b z:Nat}:∀{o:Nat} {rows:List (List PV)},nA H b z o rows->∃ vs,gk H z rows vs/\∀ j v,vs[j]? =some v->H b (o+j)=some v
 | o,[],_=>⟨[],rfl,fun j v h=>by simp at h⟩
 | o,r::rs,x=>by
  simp only[nA]at x;obtain⟨hz,⟨vs,q,c⟩,f⟩:=x;obtain⟨us,y,g⟩:=f.flat;refine⟨vs++us,⟨hz,vs,us,rfl,q,y⟩,fun j v a=>?_⟩;have i:vs.length=z:=by rw[q.length,hz]
  rcases Nat.lt_or_ge j vs.length with d|d
  ·rw[jB d]at a; exact c j v a
  rw[jC d]at a;have:=g _ _ a;have e:o+z+(j - vs.length)=o+j:=by omega
  rwa [e]at this
theorem gk.unflat {H:(PH Lw)} {b z:Nat}:∀{o:Nat} {rows:List (List PV)} {vs:List Value},gk H z rows vs->(∀ j v,vs[j]? =some v->H b (o+j)=some v)->nA H b z o rows
 | _,[],_,_,_=>by simp[nA]
 | o,r::rs,vs,x,c=>by
  obtain⟨hz,a,f,rfl,q,y⟩:=x;have e:a.length=z:=by rw[q.length,hz]
  simp only[nA];refine⟨hz,⟨a,q,fun j v d=>c j v ?_⟩,y.unflat fun j v d=>?_⟩
  ·have:=(jG.1 d).1
   rw[jB this]; exact d
  have:=c (z+j) v (by rw[jC (by omega)]; rw[e,Nat.add_sub_cancel_left]; exact d)
  rwa [← Nat.add_assoc]at this
theorem Xi {H:(PH Lw)} {rows:List (List PV)} {v:Value} {z:Nat} (h:qO H (.sl rows) v) (hz:∀ r∈rows,r.length=z) :
  (rows=[]/\(v=.slice none 0 0\/∃ a cap,v=.slice (some a) 0 cap))\/∃ b o cap vs,v=.slice (some ⟨b,o,none⟩) rows.length cap/\rows.length<=cap/\gk H z rows vs/\∀ j u,vs[j]? =some u->H b (o+j)=some u:=by
 simp only[qO]at h;rcases h with h|⟨b,o,f,cap,e,d,r⟩
 ·exact .inl h
 refine .inr ⟨b,o,cap,?_⟩;cases rows with
 | nil=>exact⟨[],e,d,rfl,fun j u h=>by simp at h⟩
 | cons r0 rs=>
  have:f=z:=by
   simp only[nA]at r;rw[← r.1]; exact hz r0 (by simp)
  subst this;obtain⟨vs,y,c⟩:=r.flat;exact⟨vs,e,d,y,c⟩
theorem SatW.kill {bs:(Base Lw)} {ρ:List Value} {H:(PH Lw)} {lo:List AObj} {w:World} (s:SatW bs ρ H lo w) (k:Nat):SatW bs ρ H (lo.set k .dead) w where
 sath:=s.sath
 hlen:=by simpa using s.hlen
 pre:=s.pre
 objs:=fun i o v a d=>by
  rw[jF]at a;split at a
  ·split at a
   ·cases a; trivial
   cases a
  ·exact s.objs i o v a d
 excl:=fun i j o o' v v' b a c d g h e f l=>by
  rw[jF]at a c;split at a
  ·split at a
   ·cases a; simp[AObj.live]at e
   cases a
  ·split at c
   ·split at c
    ·cases c; simp[AObj.live]at f
    cases c
   ·exact s.excl i j o o' v v' b a c d g h e f l
 own:=fun i o v b a d e l=>by
  rw[jF]at a;split at a
  ·split at a
   ·cases a; simp[AObj.live]at e
   cases a
  ·exact s.own i o v b a d e l
 keep:=s.keep
 leH:=s.leH
 newH:=s.newH
theorem SatW.push {bs:(Base Lw)} {ρ:List Value} {H H':(PH Lw)} {lo:List AObj} {w w':World} (s:SatW bs ρ H lo w) {v:Value} {o:AObj} {g:Nat}
  (d:qR v=some g\/qR v=none)
  (hfree:∀(k:Nat) (o':AObj) (v':Value),lo[k]? =some o'->ρ[k]? =some v'->o'.live=true->qR v'≠some g)
  (p:bs.S g\/bs.w0.heap.size<=g) (z:PH.le H H') (A:SatH H' w')
  (r:∀ b o v,H' b o=some v->(∃ v,H b o=some v)\/b=g) (hkeep:Keep (fun b=>b=g) w w')
  (I:Zp (ρ++[v]) H' w' v o):SatW bs (ρ++[v]) H' (lo++[o]) w' where
 sath:=A
 hlen:=by simp[s.hlen]
 pre:=s.pre.trans (List.prefix_append _ _)
 objs:=fun i q u a hu=>by
  rw[List.getElem?_append]at a hu;rw[s.hlen]at hu;split at a
  ·rename_i f
   simp only[f,if_true]at hu;cases B:q.live with
   | false=>cases q<;>simp[AObj.live]at B; trivial
   | true=>
    refine(s.objs i q u a hu).keep (List.prefix_append _ _) z (fun b c C=>hkeep.block b C (fun e=>hfree i q u a hu B (by rw[c,e]))) (fun b o' c _ N=>?_)
    cases K:H' b o' with
    | none=>rfl
    | some x=>
     rcases r b o' x K with ⟨y,G⟩|e
     ·rw[N]at G; cases G
     exact absurd (by rw[c,e]) (hfree i q u a hu B)
  rename_i f;simp only[f,if_false]at hu;have h1:=(jG.1 a).1;simp at h1;have D:i - lo.length=0:=by omega
  rw[D]at a hu;simp at a hu;subst a; subst hu;exact I
 excl:=fun i j oi oj L M b a t l m J E F c=>by
  rw[List.getElem?_append]at a t l m;rw[s.hlen]at l m;have last:∀{x:Nat} {q:AObj} {u:Value},¬ x<lo.length->[o][x - lo.length]? =some q->[v][x - lo.length]? =some u->x=lo.length/\u=v:=by
   intro x q u K h1 h2;have:=(jG.1 h1).1;simp at this;have D:x - lo.length=0:=by omega
   rw[D]at h2;simp at h2;exact⟨by omega,h2.symm⟩
  by_cases h1:i<lo.length<;>by_cases h2:j<lo.length<;>simp only[h1,h2,if_true,if_false]at a t l m
  ·exact s.excl i j oi oj L M b a t l m J E F c
  ·obtain⟨_,rfl⟩:=last h2 t m
   intro n;rcases d with d|d
   ·rw[d]at n; cases n; exact hfree i oi L a l E c
   rw[d]at n; cases n
  ·obtain⟨_,rfl⟩:=last h1 a l
   intro n;rcases d with d|d
   ·rw[d]at c; cases c; exact hfree j oj M t m F n
   rw[d]at c; cases c
  obtain⟨e1,_⟩:=last h1 a l;obtain⟨e2,_⟩:=last h2 t m;omega
 own:=fun i q u b a hu B c=>by
  rw[List.getElem?_append]at a hu;rw[s.hlen]at hu;split at a
  ·rename_i f
   simp only[f,if_true]at hu;exact s.own i q u b a hu B c
  rename_i f;simp only[f,if_false]at hu;have h1:=(jG.1 a).1;simp at h1;have D:i - lo.length=0:=by omega
  rw[D]at hu;simp at hu;subst hu;rcases d with d|d
  ·rw[d]at c; cases c; exact p
  rw[d]at c; cases c
 keep:=s.keep.step hkeep (fun i a=>by
  subst a;rcases p with h|h
  ·exact .inl h
  exact .inr h)
 leH:=s.leH.trans z
 newH:=fun b o v c=>by
  rcases r b o v c with ⟨y,G⟩|e
  ·exact s.newH b o y G
  subst e; exact .inr p
theorem SatW.fresh {bs:(Base Lw)} {ρ:List Value} {H:(PH Lw)} {lo:List AObj} {w:World} (s:SatW bs ρ H lo w) {g:Nat} (q:w.heap.size<=g) :
  ∀(k:Nat) (o':AObj) (v':Value),lo[k]? =some o'->ρ[k]? =some v'->o'.live=true->qR v'≠some g:=fun k o v i m p a=>by
 have:=s.objs k o v i m;cases o with
 | dead=>simp[AObj.live]at p
 | box t cells=>
  obtain⟨b,vs,rfl,hgt,_⟩:=this;simp[qR]at a;have:=xn hgt;omega
 | tail e z n=>
  obtain⟨xs,f,_⟩:=this;rcases f.2 with ⟨rfl,_⟩|⟨h,cap,cur,rfl,_,hgt,_⟩
  ·simp[qR]at a
  simp[qR]at a;have:=xn hgt;omega
 | vec e z n=>
  obtain⟨xs,f,_⟩:=this;rcases f.2 with ⟨rfl,_⟩|⟨h,cap,cur,rfl,_,hgt,_⟩
  ·simp[qR]at a
  simp[qR]at a;have:=xn hgt;omega
 | mp d es mk=>
  obtain⟨b,ents,clock,rfl,hgt,_⟩:=this;simp[qR]at a;have:=xn hgt;omega
 | sit l pos=>
  obtain⟨b,rfl,hgt,_⟩:=this;simp[qR]at a;have:=xn hgt;omega
 | bv l=>
  obtain⟨b,cs,e,cap,lo,r,rfl,hgt,_⟩:=this;simp[qR]at a;have:=xn hgt;omega
 | pbx t c=>
  obtain⟨b,u,us,rfl,hgt,_⟩:=this;simp[qR]at a;have:=xn hgt;omega
 | vl e z rows j k=>
  obtain⟨xs,f,_⟩:=this;rcases f.2 with ⟨rfl,_⟩|⟨h,cap,cur,rfl,_,hgt,_⟩
  ·simp[qR]at a
  simp[qR]at a;have:=xn hgt;omega
theorem nB (w:World) (o:Obj) (g:Nat):Keep (fun b=>b=g) w (w.alloc o):=
 ⟨rfl,rfl,rfl,by simp,fun k a _=>heap_alloc_old w o a⟩
theorem gu (w:World) (o:Obj) (g:Nat):Keep (fun b=>b=g) w (w.drew.alloc o):=
 ⟨rfl,rfl,rfl,by simp,fun k a _=>heap_alloc_old w.drew o a⟩
theorem ma {H:(PH Lw)} {w:World} (s:SatH H w) (o:Obj):SatH H (w.alloc o):=⟨fun b p v a=>by
 refine⟨?_,(s.cell b p v a).2⟩;rw[World.cell?_alloc_lt (h:=s.lt a)];exact(s.cell b p v a).1,s.root,by have:=s.low; simp; omega,fun b p v a c=>(s.nf b p v a c).block (heap_alloc_old w o (s.lt a))⟩
theorem SatW.pushBox {bs:(Base Lw)} {ρ:List Value} {H:(PH Lw)} {lo:List AObj} {w:World} (s:SatW bs ρ H lo w) {t:TypeId} {cells:List FV} {vs:List Value} (a:xa ρ H cells vs) :
  SatW bs (ρ++[.pointer (some ⟨w.heap.size,0,none⟩)]) H (lo++[.box t cells]) (w.alloc (.cells vs.toArray t)):=by
 refine s.push (g:=w.heap.size) (.inl rfl) (s.fresh (jw _)) (.inr s.keep.size) (PH.le.refl H) (ma s.sath _) (fun b o v h=>.inl ⟨v,h⟩) (nB w _ _) ?_;refine⟨w.heap.size,vs,rfl,heap_alloc_new w _,a.mono (List.prefix_append _ _) (PH.le.refl H),fun o=>?_⟩;cases c:H w.heap.size o with
 | none=>rfl
 | some x=>exact absurd (s.sath.lt c) (jR _)
theorem Ci {ρ:List Value} {H:(PH Lw)}:∀{a:List FV} {vs:List Value},VY a=true->xa ρ H a vs->∀ u∈vs,u.oneCell'=true
 | [],vs,_,r,u,hu=>by simp only[xa]at r; simp[r]at hu
 | f::a,vs,h,r,u,hu=>by
  simp only[VY]at h;split at h
  ·rename_i h1
   obtain⟨v,b,rfl,c,rs⟩:=r;rcases jg.1 hu with rfl|hu
   ·exact(nE h1 c).2
   exact Ci h rs u hu
  cases h
theorem QJ:∀{c:FV} {R:List FV->Prop},tA c R->∃ cs,R cs/\∀ ⦃Lw:Nat⦄ (ρ:List Value) (H:(PH Lw)) (vs:List Value),qY ρ H c (.tuple vs.toArray)->xa ρ H cs vs
 | .cap0,R,h=>⟨[],h,fun Lw ρ H vs r=>by
   simp only[qY,Value.tuple.injEq]at r;simpa[xa]using r⟩
 | .cap a b,R,h=>by
  simp only[tA]at h;obtain⟨i,h,d⟩:=QJ h;refine⟨_,h,fun Lw ρ H vs r=>?_⟩;obtain⟨u,us,e,f,g⟩:=r;have e:vs=u::us:=by simpa using e
  subst e;exact⟨u,us,rfl,f,d _ _ _ g⟩
 | .top,_,h|.p _,_,h|.opt _ _,_,h|.tsl _ _,_,h|.ptr _ _,_,h|.hptr _,_,h|.bself _,_,h|.bsl _ _ _ _,_,h|.vsl _ _,_,h|.eptr _ _ _ _,_,h|.mref _,_,h|.pair _ _,_,h|.stmp _,_,h|.clo _ _,_,h|.fagg _,_,h|.nxt _ _ _,_,h|.asl _ _ _,_,h|.ifs _ _,_,h|.cut _,_,h=>by
  simp[tA]at h
theorem QI {f:FV} {R:List FV->Prop} (h:Xb f R):∃ cs,R cs/\∀ ⦃Lw:Nat⦄ (ρ:List Value) (H:(PH Lw)) (x:Value),qY ρ H f x->xa ρ H cs x.cells.toList:=by
 unfold Xb at h;split at h
 ·rename_i cs
  refine⟨_,Qj h,fun Lw ρ H x r=>?_⟩;simp only[qY,qO]at r;obtain⟨vs,rfl,q⟩:=r;simpa[Value.cells]using xa.of_RepL q
 ·rename_i c
  obtain⟨cs,h,a⟩:=QJ h;refine⟨_,h,fun Lw ρ H x r=>?_⟩;obtain⟨vs,rfl,rc⟩:=r;simpa[Value.cells]using a ρ H vs rc
 split at h
 ·rename_i h1
  refine⟨_,h,fun Lw ρ H x r=>?_⟩;rw[(nE h1 r).1];exact⟨x,[],rfl,r,rfl⟩
 exact h.elim
theorem XG {P:Program} {t:TypeId} {R:List PV->Prop} (h:Rx P t R):∃ i z a,P.info? t=some i/\i.zero=some z/\R a/\∀ ⦃Lw:Nat⦄ (H:PH Lw),zC H a z.cells.toList:=by
 unfold Rx at h;split at h
 ·rename_i i e
  split at h
  ·rename_i vs hz
   obtain⟨a,b,c⟩:=Qm h;exact⟨i,_,a,e,hz,b,fun Lw H=>by simpa[Value.cells]using c H⟩
  ·rename_i v d hz
   obtain⟨a,b,c⟩:=Qm h;refine⟨i,v,a,e,hz,b,fun Lw H=>?_⟩;have:v.cells = #[v]:=by
    cases v<;>first|rfl|skip
    rename_i cs;exact absurd rfl (d cs.toList)
   rw[this];simpa using c H
  exact h.elim
 exact h.elim
theorem SatW.setBox {bs:(Base Lw)} {ρ:List Value} {H:(PH Lw)} {lo:List AObj} {w:World} (s:SatW bs ρ H lo w) {k b:Nat} {t:TypeId} {old cells:List FV} {p vs:List Value}
  (m:lo[k]? =some (.box t old)) (q:ρ[k]? =some (.pointer (some ⟨b,0,none⟩))) (E:w.heap[b]? =some (.cells p.toArray t (0,0))) (C:∀ o,H b o=none)
  (F:xa ρ H cells vs):SatW bs ρ H (lo.set k (.box t cells)) (w.setRow b vs.toArray) where
 sath:=s.sath.block (by simp[World.setRow]) fun d o v f=>setRow_other w b d _ (fun e=>by subst e; rw[C o]at f; cases f)
 hlen:=by simpa using s.hlen
 pre:=s.pre
 objs:=fun i o v a c=>by
  rw[jF]at a;split at a
  ·rename_i e
   subst e;split at a
   ·cases a
    rw[q]at c;cases c;exact⟨b,vs,rfl,setRow_heap w b _ _ t _ E,F,C⟩
   cases a
  ·rename_i g
   cases l:o.live with
   | false=>cases o<;>simp[AObj.live]at l; trivial
   | true=>
    have r:=s.excl k i _ o _ v b m a q c g rfl l rfl;exact(s.objs i o v a c).keep (jq _) (PH.le.refl H) (fun d u _=>setRow_other w b d _ (fun e=>r (by rw[u,e]))) (fun d o' _ _ G=>G)
 excl:=fun i j oi oj I J d a D y z g A B f=>by
  rw[jF]at a D;have live:∀{x:Nat} {n:AObj},(if k=x then if k<lo.length then some (AObj.box t cells)else none else lo[x]?)=some n->n.live=true->∃ o',lo[x]? =some o'/\o'.live=true:=by
   intro x n h l;split at h
   ·rename_i e; subst e; exact⟨_,m,rfl⟩
   exact⟨n,h,l⟩
  obtain⟨o1,h1,K⟩:=live a A;obtain⟨o2,h2,L⟩:=live D B;exact s.excl i j o1 o2 I J d h1 h2 y z g K L f
 own:=fun i o v d a c l f=>by
  rw[jF]at a;split at a
  ·rename_i e; subst e; exact s.own k _ v d m c rfl f
  exact s.own i o v d a c l f
 keep:=s.keep.step (S':=fun x=>x=b) ⟨rfl,rfl,rfl,by simp,fun x _ M=>setRow_other w b x _ M⟩ (fun i a=>by
  subst a;exact s.own k _ _ i m q rfl rfl)
 leH:=s.leH
 newH:=s.newH
end Ax
end
section
namespace Ax
open Go
variable {Lw:Nat}
theorem SatW.upd {bs:(Base Lw)} {ρ:List Value} {H:(PH Lw)} {lo:List AObj} {w w':World} (s:SatW bs ρ H lo w) {k b:Nat} {o o':AObj} {v:Value}
  (n:lo[k]? =some o) (r:ρ[k]? =some v) (p:o.live=true) (E:qR v=some b) (G:∀ i,H b i=none) (hkeep:Keep (fun x=>x=b) w w') (t:Zp ρ H w' v o'):SatW bs ρ H (lo.set k o') w' where
 sath:=s.sath.block hkeep.size fun f i u hu=>hkeep.block f (s.sath.lt hu) (fun e=>by subst e; rw[G i]at hu; cases hu)
 hlen:=by simpa using s.hlen
 pre:=s.pre
 objs:=fun i oi l c a=>by
  rw[jF]at c;split at c
  ·rename_i e
   subst e;split at c
   ·cases c
    rw[r]at a;cases a;exact t
   cases c
  ·rename_i m
   cases d:oi.live with
   | false=>cases oi<;>simp[AObj.live]at d; trivial
   | true=>
    have y:=s.excl k i _ oi _ l b n c r a m p d E;exact(s.objs i oi l c a).keep (jq _) (PH.le.refl H) (fun f z A=>hkeep.block f A (fun e=>y (by rw[z,e]))) (fun f M _ _ I=>I)
 excl:=fun i j oi oj l J f c F a B m d C g=>by
  rw[jF]at c F;have live:∀{x:Nat} {q:AObj},(if k=x then if k<lo.length then some o' else none else lo[x]?)=some q->q.live=true->∃ o2,lo[x]? =some o2/\o2.live=true:=by
   intro x q h D;split at h
   ·rename_i e; subst e; exact⟨_,n,p⟩
   exact⟨q,h,D⟩
  obtain⟨o1,h1,K⟩:=live c d;obtain⟨o2,h2,L⟩:=live F C;exact s.excl i j o1 o2 l J f h1 h2 a B m K L g
 own:=fun i oi l f c a d g=>by
  rw[jF]at c;split at c
  ·rename_i e; subst e; exact s.own k _ l f n a p g
  exact s.own i oi l f c a d g
 keep:=s.keep.step hkeep (fun i c=>by
  subst c;exact s.own k _ _ i n r p E)
 leH:=s.leH
 newH:=s.newH
def AObj.boxy:AObj->Bool
 | .box _ _=>true
 | .mp _ _ _=>true
 | .pbx _ _=>true
 | _=>false
def xS (b:Bool) (lo lo':List AObj):Prop:=lo.length<=lo'.length/\(b=true->∀ k a,k<lo.length->a.boxy=true->(lo[k]? =some a↔lo'[k]? =some a))
theorem xS.refl {b:Bool} (lo:List AObj):xS b lo lo:=⟨jw _,fun _ _ _ _ _=>Iff.rfl⟩
theorem xS.push {b:Bool} {lo:List AObj} (o:AObj):xS b lo (lo++[o]):=⟨by simp,fun _ k c a _=>by rw[jB a]⟩
theorem xS.set {lo:List AObj} (k:Nat) (o:AObj):xS false lo (lo.set k o):=⟨by simp,fun h=>by cases h⟩
theorem xS.len {lo lo':List AObj} (h:lo'.length=lo.length):xS false lo lo':=⟨by omega,fun h=>by cases h⟩
theorem xS.kill {b:Bool} {lo:List AObj} {c:Nat} {d:AObj} (o:AObj) (h:lo[c]? =some d) (g:d.boxy=false):xS b lo (lo.set c .dead++[o]):=⟨by simp,fun _ k i f a=>by
 rw[jB (by simpa using f),jF];split
 ·rename_i e
  subst e;rw[if_pos f,h]
  constructor
  ·intro e; cases e; rw[g]at a; cases a
  intro e; cases e; cases a
 exact Iff.rfl⟩
theorem xS.trans {b:Bool} {a c d:List AObj} (h:xS b a c) (k:xS b c d):xS b a d:=
 ⟨Nat.le_trans h.1 k.1,fun e i f g j=>(h.2 e i f g j).trans (k.2 e i f (Nat.lt_of_lt_of_le g h.1) j)⟩
section
variable {P:Program} {w:World}
theorem PU {a d:TypeDesc} {b:PV} {R:Prop} (h:qbb a d b R):R/\a=d/\∀ ⦃Lw:Nat⦄ (H:(PH Lw)) (v:Value),qO H b v->MapKept.IsKey d v:=by
 unfold qbb at h;split at h
 ·exact⟨h,rfl,fun Lw H v r=>by simp only[qO]at r; subst r; trivial⟩
 ·exact⟨h,rfl,fun Lw H v r=>by simp only[qO]at r; subst r; trivial⟩
 ·split at h
  ·rename_i h1
   split at h
   ·rename_i h2
    have h1:=nD h1;have h2:=nD h2;subst h1; subst h2;exact⟨h,rfl,fun Lw H v r=>by simp only[qO]at r; subst r; rfl⟩
   exact h.elim
  exact h.elim
 exact h.elim
theorem HB {t:TypeId} {d:TypeDesc} {c:PV} {R:TypeId->Prop} (h:qey P t d c R):∃ a b,R b/\P.underlying t=some (.map a b)/\P.underlying a=some d/\∀ ⦃Lw:Nat⦄ (H:(PH Lw)) (v:Value),qO H c v->MapKept.IsKey d v:=by
 unfold qey at h;split at h
 ·rename_i a b e
  split at h
  ·rename_i i f
   obtain⟨h2,rfl,g⟩:=PU h;exact⟨a,b,h2,e,f,g⟩
  exact h.elim
 exact h.elim
theorem SB {a b:List UInt8}:(Value.string ⟨a.toArray⟩=Value.string ⟨b.toArray⟩)↔a=b:=by
 constructor
 ·intro h
  injection h with h
  injection h with h
  simpa using h
 rintro rfl; rfl
theorem TC {H:(PH Lw)} {d:TypeDesc} {p q:PV} {x y:Value} (hp:qO H p x) (a:qO H q y) (c:MapKept.IsKey d x) (e:MapKept.IsKey d y):lN p q=true↔y=x:=by
 have b1:∀{p:PV} {b:Bool},qO H p (.bool b)->p=.bool b:=by
  intro p b h;cases p<;>simp only[qO]at h<;>(try (obtain⟨_,_,_,h,_,_⟩:=h; cases h; done))<;>(try (obtain⟨_,h,_⟩:=h; cases h))<;>(try (rcases h with ⟨_,h|⟨_,_,h⟩⟩|⟨_,_,_,_,h,_⟩<;>cases h))<;>(try (rcases h with ⟨_,h⟩|⟨_,_,h,_⟩<;>cases h; done))<;>try cases h
  rfl
 have b2:∀{p:PV} {k:IntKind} {n:Int},qO H p (.int k n)->p=.int k n:=by
  intro p k n h;cases p<;>simp only[qO]at h<;>(try (obtain⟨_,_,_,h,_,_⟩:=h; cases h; done))<;>(try (obtain⟨_,h,_⟩:=h; cases h))<;>(try (rcases h with ⟨_,h|⟨_,_,h⟩⟩|⟨_,_,_,_,h,_⟩<;>cases h))<;>(try (rcases h with ⟨_,h⟩|⟨_,_,h,_⟩<;>cases h; done))<;>try cases h
  rfl
 have b3:∀{p:PV} {b:ByteArray},qO H p (.string b)->∃ l:List UInt8,p=.str l/\b=⟨l.toArray⟩:=by
  intro p b h;cases p<;>simp only[qO]at h<;>(try (obtain⟨_,_,_,h,_,_⟩:=h; cases h; done))<;>(try (obtain⟨_,h,_⟩:=h; cases h))<;>(try (rcases h with ⟨_,h|⟨_,_,h⟩⟩|⟨_,_,_,_,h,_⟩<;>cases h))<;>(try (rcases h with ⟨_,h⟩|⟨_,_,h,_⟩<;>cases h; done))<;>try cases h
  exact⟨_,rfl,rfl⟩
 cases d<;>cases x<;>cases y<;>simp only[MapKept.IsKey]at c e
 ·rw[b1 hp,b1 a]
  simp only[lN,beq_iff_eq];exact⟨fun h=>by rw[h],fun h=>by injection h with h; exact h.symm⟩
 ·subst c; subst e
  rw[b2 hp,b2 a];simp only[lN,beq_iff_eq];exact⟨fun h=>by rw[h],fun h=>by injection h with _ h; exact h.symm⟩
 obtain⟨l,rfl,rfl⟩:=b3 hp;obtain⟨m,rfl,rfl⟩:=b3 a;simp only[lN,beq_iff_eq,SB];exact eq_comm
theorem Cs {H:(PH Lw)} {d:TypeDesc} {c:PV} {k:Value} (n:qO H c k) (u:MapKept.IsKey d k):∀(es:List (PV×PV)) (l:List MapEntry) (i:Nat),DP H es l->(∀ x∈l,MapKept.IsKey d x.key) ->
  (Fk c es=none/\Instr.findNow d k l i=some none/\(∀ x∈l,x.key≠k)/\∀ f,lP c f es=es++[(c,f)]) \/
  ∃ j e p,Fk c es=some p/\Instr.findNow d k l i=some (some (i+j,e.val))/\l[j]? =some e/\e.key=k/\qO H p e.val/\∀ f,lP c f es=es.set j (c,f)
 | [],l,i,r,_=>by
  simp only[DP]at r;subst r;exact .inl ⟨rfl,rfl,by simp,fun _=>rfl⟩
 | (p,q)::es,l,i,r,h=>by
  obtain⟨e,l',rfl,y,rv,z⟩:=r;have he:=h e (.head _);obtain⟨b,v,g⟩:=MapKept.sameNow_of_keys u he;have o:=TC n y u he;cases b with
  | true=>
   have s:=g.1 rfl;have a:lN c p=true:=o.2 s.symm;exact .inr ⟨0,e,q,by simp[Fk,a],by simp[Instr.findNow,v],rfl,s.symm,rv,fun f=>by simp[lP,a]⟩
  | false=>
   have t:e.key≠k:=fun q=>by have:=g.2 q.symm; cases this
   have a:lN c p=false:=by
    cases m:lN c p with
    | false=>rfl
    | true=>exact absurd (o.1 m) t
   rcases Cs n u es l' (i+1) z (fun x m=>h x (.tail _ m))with ⟨h1,h2,h3,h4⟩|⟨j,A,B,h1,h2,h3,h4,h5,C⟩
   ·refine .inl ⟨by simp[Fk,a,h1],by simp[Instr.findNow,v,h2],fun x m=>?_,fun f=>by simp[lP,a,h4]⟩
    cases m with
    | head=>exact t
    | tail _ m=>exact h3 x m
   ·exact .inr ⟨j+1,A,B,by simp[Fk,a,h1],by simp[Instr.findNow,v,h2]; omega,by simpa using h3,h4,h5,fun f=>by simp[lP,a,C]⟩
theorem DP.length {H:(PH Lw)}:∀{es:List (PV×PV)} {l:List MapEntry},DP H es l->l.length=es.length
 | [],l,r=>by simp only[DP]at r; simp[r]
 | (_,_)::es,l,r=>by
  obtain⟨e,l',rfl,_,_,a⟩:=r;simp[a.length]
theorem DP.push {H:(PH Lw)}:∀{es:List (PV×PV)} {l:List MapEntry} {k v:PV} {e:MapEntry},DP H es l->qO H k e.key->qO H v e.val->DP H (es++[(k,v)]) (l++[e])
 | [],l,k,v,e,r,rk,rv=>by
  simp only[DP]at r;subst r;exact⟨e,[],rfl,rk,rv,rfl⟩
 | (_,_)::es,l,k,v,e,r,rk,rv=>by
  obtain⟨a,l',rfl,b,c,d⟩:=r;exact⟨a,l'++[e],rfl,b,c,d.push rk rv⟩
theorem DP.set {H:(PH Lw)}:∀{es:List (PV×PV)} {l:List MapEntry} {j:Nat} {k v:PV} {e:MapEntry},DP H es l->qO H k e.key->qO H v e.val->DP H (es.set j (k,v)) (l.set j e)
 | [],l,j,k,v,e,r,rk,rv=>by
  simp only[DP]at r;subst r;simp[DP]
 | (_,_)::es,l,j,k,v,e,r,rk,rv=>by
  obtain⟨b,l',rfl,c,d,a⟩:=r;cases j with
  | zero=>exact⟨e,l',rfl,rk,rv,a⟩
  | succ j=>exact⟨b,l'.set j e,rfl,c,d,a.set rk rv⟩
theorem Ry {t:TypeId} {R:PV->Prop} (h:qcj P t R):∃ p z,R p/\(∀ w,(zeroValue t).run P w=.ok z w)/\∀ ⦃Lw:Nat⦄ (H:PH Lw),qO H p z:=by
 unfold qcj at h;split at h
 ·rename_i i b
  split at h
  ·rename_i vs hz
   obtain⟨c,h,a⟩:=Qm h;exact⟨.agg c,.agg ⟨vs⟩,h,fun w=>by simp[zeroValue,typeInfo,b,hz],fun Lw H=>by simp only[qO]; exact⟨vs,rfl,a H⟩⟩
  ·rename_i v d hz
   split at h
   ·rename_i p hp
    exact⟨p,v,h,fun w=>by simp[zeroValue,typeInfo,b,hz],fun Lw H=>Uo hp H⟩
   exact h.elim
  exact h.elim
 exact h.elim
theorem Ht {g:G} {t:TypeId} {lo:List AObj} {x key:FV} {ok:Bool} {R:FV->Prop} (h:Ei P g t lo x key ok R) :
  ∃ B,R B/\((∃ k o,x=.mref k/\lo[k]? =some o/\o.live=true)/\(gOn g->∀ ⦃Lw:Nat⦄ (bs:(Base Lw)) (ρ:List Value) (H:(PH Lw)) (w:World) (a b:Value),SatW bs ρ H lo w->qY ρ H x a->qY ρ H key b ->
   ∃ v,(Instr.lookup t a b ok).run P w=.ok v w/\qY ρ H B v)):=by
 unfold Ei at h;split at h
 ·rename_i k O
  have n:=xg h; clear h; obtain⟨o,C,h⟩:=n;split at h
  ·rename_i d es mk
   have n:=HB h; clear h; obtain⟨Q,S,h,r,i,q⟩:=n;have n:=Ry h; clear h; obtain⟨z,u,h,hz,D⟩:=n;obtain⟨v,b,y,h⟩:=h;refine⟨_,h,⟨k,_,rfl,C,rfl⟩,fun F Lw bs ρ H w a I s J E=>?_⟩;obtain⟨l,m⟩:=mV y F;obtain⟨T,K,rfl⟩:=J;obtain⟨L,ents,clock,e,c,M,⟨N,A,_⟩,_⟩:=s.objs k _ _ C K;cases e;have f:=q H I E;rcases Cs E f es ents.toList 0 M A with ⟨h1,h2,_,_⟩|⟨j,e,p,h1,h2,_,_,h5,_⟩
   ·rw[h1]at l m
    simp only[Option.getD_none,Option.isSome_none]at l m;subst l; subst m;cases ok
    ·exact⟨u,by simp[Instr.lookup,kru r,MapKept.run_getObj_map c,MapKept.run_checkKey i f,MapKept.run_findKey i h2,hz],D H⟩
    exact⟨.tuple #[u,.bool false],by simp[Instr.lookup,kru r,MapKept.run_getObj_map c,MapKept.run_checkKey i f,MapKept.run_findKey i h2,hz],by
     simp only[qY,qO];exact⟨[u,.bool false],rfl,by simp only[zC]; exact⟨u,_,rfl,D H,.bool false,[],rfl,by simp[qO],rfl⟩⟩⟩
   rw[h1]at l m;simp only[Option.getD_some,Option.isSome_some]at l m;subst l; subst m;cases ok
   ·exact⟨e.val,by simp[Instr.lookup,kru r,MapKept.run_getObj_map c,MapKept.run_checkKey i f,MapKept.run_findKey i h2],h5⟩
   exact⟨.tuple #[e.val,.bool true],by simp[Instr.lookup,kru r,MapKept.run_getObj_map c,MapKept.run_checkKey i f,MapKept.run_findKey i h2],by
    simp only[qY,qO];exact⟨[e.val,.bool true],rfl,by simp only[zC]; exact⟨e.val,_,rfl,h5,.bool true,[],rfl,by simp[qO],rfl⟩⟩⟩
  exact h.elim
 exact h.elim
theorem El (w:World) (b:Nat) (o:Obj):Keep (fun x=>x=b) w { w with heap:=w.heap.setIfInBounds b o }:=
 ⟨rfl,rfl,rfl,by simp,fun k _ a=>by simp[Ne.symm a]⟩
theorem Fh {es:Array MapEntry} {j:Nat} {f:MapEntry->MapEntry} {e:MapEntry} (h:es[j]? =some e):(es.modify j f).toList=es.toList.set j (f e):=by
 apply List.ext_getElem?;intro i;simp only[Array.getElem?_toList,Array.getElem?_modify,jF];by_cases a:j=i
 ·subst a
  obtain⟨h1,h2⟩:=jH.1 h;simp[h1,h2]
 simp[a]
theorem Mp {bs:(Base Lw)} {ρ:List Value} {H:(PH Lw)} {lo:List AObj} (s:SatW bs ρ H lo w) {t D I:TypeId} {d:TypeDesc} (E:P.underlying t=some (.map D I)) (r:P.underlying D=some d)
  {j:Nat} {es:List (PV×PV)} {mk:Option (PV×Nat)} (z:lo[j]? =some (.mp d es mk)) {m k x:Value} (J:qY ρ H (.mref j) m) {F G:PV} (A:qO H F k) (rx:qO H G x) (o:MapKept.IsKey d k) :
  ∃ w',(Instr.mapUpdate t m k x).run P w=.ok () w'/\SatW bs ρ H (lo.set j (.mp d (lP F G es) none)) w':=by
 obtain⟨l,B,rfl⟩:=J;obtain⟨K,ents,clock,e,a,f,⟨q,g,_⟩,u⟩:=s.objs j _ _ z B;cases e;rcases Cs A o es ents.toList 0 f g with ⟨_,h2,h3,h4⟩|⟨i,e,p,_,h2,h3,h5,_,L⟩
 ·refine⟨{ w with heap:=w.heap.setIfInBounds l (.map (ents.push { key:=k,val:=x,born:=clock }) (clock+1)) },?_,s.upd z B rfl rfl u (El w l _) ?_⟩
  ·simp[Instr.mapUpdate,kru E,MapKept.run_getObj_map a,MapKept.run_checkKey r o,MapKept.run_findKey r h2,MapKept.run_setObj_map _ a]
  refine⟨l,_,_,rfl,(MapKept.heap_set a).1,?_,⟨MapKept.stamped_push q h3,?_,fun _ _ h=>by cases h⟩,u⟩
  ·rw[h4,Array.toList_push]
   exact f.push A rx
  intro y v;simp only[Array.toList_push,jy,List.mem_singleton]at v;rcases v with v|rfl
  ·exact g y v
  exact o
 have C:ents[i]? =some e:=by simpa using h3
 refine⟨{ w with heap:=w.heap.setIfInBounds l (.map (ents.modify i fun e=>{ e with key:=k,val:=x }) clock) },?_,s.upd z B rfl rfl u (El w l _) ?_⟩
 ·simp[Instr.mapUpdate,kru E,MapKept.run_getObj_map a,MapKept.run_checkKey r o,MapKept.run_findKey r h2,C,h5,MapKept.run_keyThatStays o,MapKept.run_setObj_map _ a]
 have c:∀ n,ents[i]? =some n->({ n with key:=k,val:=x }:MapEntry).key=n.key:=fun n b=>by rw[C]at b; cases b; exact h5.symm
 refine⟨l,_,_,rfl,(MapKept.heap_set a).1,?_,⟨MapKept.stamped_modify q _ _ (fun _ _=>rfl) (fun n _ b=>c n b),MapKept.isKey_modify g _ _ c,fun _ _ h=>by cases h⟩,u⟩
 rw[L,Fh C];exact f.set A rx
theorem SatW.pushMap {bs:(Base Lw)} {ρ:List Value} {H:(PH Lw)} {lo:List AObj} (s:SatW bs ρ H lo w) {d:TypeDesc} :
  SatW bs (ρ++[.map (some w.heap.size)]) H (lo++[.mp d [] none]) (w.alloc (.map #[] 0)):=by
 refine s.push (g:=w.heap.size) (.inl rfl) (s.fresh (jw _)) (.inr s.keep.size) (PH.le.refl H) (ma s.sath _) (fun b o v h=>.inl ⟨v,h⟩) (nB w _ _) ?_;refine⟨w.heap.size,#[],0,rfl,heap_alloc_new w _,rfl,⟨MapKept.stamped_empty 0,by simp,fun _ _ h=>by cases h⟩,fun o=>?_⟩
 cases a:H w.heap.size o with
 | none=>rfl
 | some x=>exact absurd (s.sath.lt a) (jR _)
theorem Ve {b:Nat} {l:ByteArray} {p:Nat} (h:w.heap[b]? =some (.stringIter l p)):(getObj b).run P w=.ok (.stringIter l p) w:=by
 simp[getObj,Sem.run,h]
theorem BL {b:Nat} {l:ByteArray} {p:Nat} (o':Obj) (h:w.heap[b]? =some (.stringIter l p)):(setObj b o').run P w=.ok () { w with heap:=w.heap.setIfInBounds b o' }:=by
 simp[setObj,Sem.run,h]
theorem Hm {b:Nat} {o o':Obj} (h:w.heap[b]? =some o):(w.heap.setIfInBounds b o')[b]? =some o':=by
 have:=(jH.1 h).1;simp[this]
theorem Eo {α:Type} {l:List α} {k:Nat} {a:α} (h:l[k]? =some a):l.set k a=l:=by
 apply List.ext_getElem?;intro i;rw[jF];split
 ·rename_i e
  subst e;split
  ·exact h.symm
  rename_i b;simp[List.getElem?_eq_none (Nat.le_of_not_lt b)]
 rfl
theorem SatW.pushSit {bs:(Base Lw)} {ρ:List Value} {H:(PH Lw)} {lo:List AObj} (s:SatW bs ρ H lo w) {l:List UInt8} :
  SatW bs (ρ++[.pointer (some ⟨w.heap.size,0,none⟩)]) H (lo++[.sit l 0]) (w.alloc (.stringIter ⟨l.toArray⟩ 0)):=by
 refine s.push (g:=w.heap.size) (.inl rfl) (s.fresh (jw _)) (.inr s.keep.size) (PH.le.refl H) (ma s.sath _) (fun b o v h=>.inl ⟨v,h⟩) (nB w _ _) ?_;refine⟨w.heap.size,rfl,heap_alloc_new w _,fun o=>?_⟩;cases a:H w.heap.size o with
 | none=>rfl
 | some x=>exact absurd (s.sath.lt a) (jR _)
theorem Ej {E:Env} {lo:List AObj} {t:TypeId} {m k x:Operand} {R:FV->List AObj->Prop} (h:Mj P E lo t m k x R) :
  ∃ n lo',R n lo'/\lo'.length=lo.length/\∀ ⦃Lw:Nat⦄ (bs:(Base Lw)) (ρ:List Value) (H:(PH Lw)) (w:World) (eval:Operand->Value),SatW bs ρ H lo w->qY ρ H (evF (qW E) m) (eval m)->qY ρ H (evF (qW E) k) (eval k)->qY ρ H (evF (qW E) x) (eval x) ->
   ∃ w',(Instr.mapUpdate t (eval m) (eval k) (eval x)).run P w=.ok () w'/\tf bs ρ H n lo' undef w':=by
 unfold Mj at h;have a:=qU h; clear h; obtain⟨B,h,e⟩:=a;have a:=qU h; clear h; obtain⟨k',h,f⟩:=a;have a:=qU h; clear h; obtain⟨C,h,g⟩:=a;have a:=mU h; clear h; obtain⟨D,h,i⟩:=a;split at h
 ·rename_i j F
  have a:=xg h; clear h; obtain⟨o,q,h⟩:=a;split at h
  ·rename_i d es mk
   have a:=HB h; clear h; obtain⟨G,I,h,r,u,b⟩:=a;obtain⟨v,l,h⟩:=h;obtain⟨h,y⟩:=gw h;refine⟨_,_,h,by simp,fun Lw bs ρ H w eval s z c rx=>?_⟩;have c:=f ρ H _ trivial c;obtain⟨w',A,p⟩:=Mp s r u q (e ρ H _ trivial z) c (i ρ H _ (g ρ H _ trivial rx)) (b H _ c);rw[l]at p;exact⟨w',A,ρ,H,jq _,PH.le.refl H,p,by simp[qY,qO,zC,undef]⟩
  exact h.elim
 exact h.elim
theorem TL {d:TypeDesc} {R:Prop} (h:qfk d R):R:=by
 unfold qfk at h;split at h<;>first|exact h|exact h.elim
theorem Mc {o:Oper} {E:Env} {lo:List AObj} {R:FV->List AObj->Prop} (h:qa9 P o.op E lo R):∃ r lo',R r lo'/\xS (Rh o.op) lo lo'/\gB P o (qW E) lo none r lo':=by
 obtain⟨dst,op,ty,pos,after,guard⟩:=o;simp only at h;unfold qa9 at h;split at h
 ·rename_i t x
  have n:=qU h; clear h; obtain⟨C,h,i⟩:=n;split at h
  ·rename_i l
   split at h
   ·rename_i y
    have h:=vC h;have h:=gh h;refine⟨_,_,h,xS.push _,fun p Lw bs ρ H w eval s g=>?_⟩;have e:=QX (i ρ H _ p (g x (by simp[kh])));have f:(Instr.range t (eval x)).run P w=.ok (.pointer (some ⟨w.heap.size,0,none⟩)) (w.alloc (.stringIter ⟨l.toArray⟩ 0)):=by
     simp[Instr.range,e,kru y]
    simp only[execOp,kf,f,ke,kg];refine⟨_,H,List.prefix_append _ _,PH.le.refl H,s.pushSit,w.heap.size,by simp[← s.hlen],rfl⟩
   exact h.elim
  exact h.elim
 ·rename_i x
  have n:=qU h; clear h; obtain⟨C,h,i⟩:=n;split at h
  ·rename_i k
   have n:=xg h; clear h; obtain⟨o,u,h⟩:=n;split at h
   ·rename_i l pos
    obtain⟨ok,z,⟨b,hp⟩,h⟩:=h;obtain⟨h,c⟩:=gw h;refine⟨_,_,h,xS.set _ _,fun p Lw bs ρ H w eval s g=>?_⟩;obtain⟨q,A,ex⟩:=i ρ H _ p (g x (by simp[kh]));obtain⟨D,e,a,B⟩:=s.objs k _ _ u A;cases e;simp only[execOp,kf,ex];by_cases c:pos<l.length
    ·have b:ok=true:=by rw[← b]; simpa using c
     subst b;have f:(Instr.next (.pointer (some ⟨q,0,none⟩)) true ty).run P w=.ok (.tuple #[.bool true,.int .i64 pos,.int .i32 (qK l pos)]) { w with heap:=w.heap.setIfInBounds q (.stringIter ⟨l.toArray⟩ (zY l pos)) }:=by
      have j:pos<(⟨l.toArray⟩:ByteArray).size:=by rw[ByteArray.size_mk_toArray]; exact c
      simp only[Instr.next,kf,Ve a,ke];simp only[j,if_true,kf,BL _ a,ke,kg];rfl
     simp only[f,ke,kg];refine⟨ρ,H,jq _,PH.le.refl H,?_,?_⟩
     ·refine s.upd u A rfl rfl B (El w q _) ⟨q,rfl,?_,B⟩
      rw[← hp];exact Hm a
     simp only[qY,if_true];exact⟨_,_,rfl,by simp[qO],by simp[qO]⟩
    have b:ok=false:=by rw[← b]; simpa using c
    subst b;have f:(Instr.next (.pointer (some ⟨q,0,none⟩)) true ty).run P w=.ok (.tuple #[.bool false]) w:=by
     have j:¬ pos<(⟨l.toArray⟩:ByteArray).size:=by rw[ByteArray.size_mk_toArray]; exact c
     simp only[Instr.next,kf,Ve a,ke];simp only[j,if_false,kg]
    simp only[f,ke,kg];refine⟨ρ,H,jq _,PH.le.refl H,?_,by simp[qY]⟩;have v:z=pos:=by rw[← hp]; rfl
    subst v;rw[show lo.set k (.sit l z)=lo from Eo u];exact s
   exact h.elim
  exact h.elim
 ·rename_i t
  split at h
  ·rename_i J K y
   split at h
   ·rename_i d L
    have h:=TL h;have h:=vC h;have h:=gh h;refine⟨_,_,h,xS.push _,fun p Lw bs ρ H w eval s g=>?_⟩;have f:(Instr.makeMap t none).run P w=.ok (.map (some w.heap.size)) (w.alloc (.map #[] 0)):=rfl;simp only[execOp,Option.map_none,kf,f,ke,kg];exact⟨_,H,List.prefix_append _ _,PH.le.refl H,s.pushMap,w.heap.size,by simp[← s.hlen],rfl⟩
   exact h.elim
  exact h.elim
 ·exact h.elim
 ·rename_i t m k x
  obtain⟨r,lo',h,F,G⟩:=Ej h;refine⟨r,lo',h,xS.len F,fun p Lw bs ρ H w eval s g=>?_⟩;obtain⟨w',f,I⟩:=G bs ρ H w eval s (g m (by simp[kh])) (g k (by simp[kh])) (g x (by simp[kh]));simp only[execOp,kf,f,ke,kg];exact I
 ·exact h.elim
 exact h.elim
end
end Ax
end
section
namespace Ax
open Go
variable {Lw:Nat}
theorem gk.get {H:(PH Lw)} {z:Nat}:∀{rows:List (List PV)} {vs:List Value} {i:Nat} {r:List PV},gk H z rows vs->rows[i]? =some r ->
  ∃ a,zC H r a/\∀ j u,a[j]? =some u->vs[i * z+j]? =some u
 | [],_,_,_,_,h=>by simp at h
 | q::rs,vs,i,r,x,h=>by
  obtain⟨hz,a,b,rfl,d,g⟩:=x;have f:a.length=z:=by rw[d.length,hz]
  cases i with
  | zero=>
   simp at h;subst h;refine⟨a,d,fun j u hu=>?_⟩;rw[Nat.zero_mul,jx,jB (jG.1 hu).1];exact hu
  | succ i=>
   obtain⟨c,rc,k⟩:=g.get (i:=i) (by simpa using h);refine⟨c,rc,fun j u hu=>?_⟩;have:=k j u hu;rw[jC (by rw[f,Nat.add_mul]; omega)];have e:(i+1) * z+j - a.length=i * z+j:=by rw[f,Nat.add_mul]; omega
   rw[e];exact this
theorem gk.over {H:(PH Lw)} {z:Nat}:∀{rows:List (List PV)} {vs:List Value} {i off:Nat} {r f:List PV} {c:List Value},gk H z rows vs->rows[i]? =some r->zC H f c->off+f.length<=r.length ->
  gk H z (rows.set i (r.take off++f++r.drop (off+f.length))) (vs.take (i * z+off)++c++vs.drop (i * z+off+c.length))
 | [],_,_,_,_,_,_,_,h,_,_=>by simp at h
 | q::rs,vs,i,off,r,f,c,x,h,rp,hle=>by
  obtain⟨hz,a,b,rfl,e,j⟩:=x;have l:a.length=z:=by rw[e.length,hz]
  have k:=rp.length;cases i with
  | zero=>
   simp at h;subst h;have g:off<=a.length:=by rw[e.length]; omega
   have d:off+c.length<=a.length:=by rw[e.length,k]; omega
   refine⟨?_,a.take off++c++a.drop (off+c.length),b,?_,?_,j⟩
   ·simp only[jb,jt,jM]; omega
   ·rw[Nat.zero_mul,jx,List.take_append_of_le_length g,List.drop_append_of_le_length d]
    simp
   rw[k];exact((e.take off).append rp).append (e.drop _)
  | succ i=>
   refine⟨hz,a,b.take (i * z+off)++c++b.drop (i * z+off+c.length),?_,e,j.over (by simpa using h) rp hle⟩;have e1:(i+1) * z+off=a.length+(i * z+off):=by rw[l,Nat.add_mul]; omega
   rw[e1,List.take_length_add_append,Nat.add_assoc a.length,List.drop_length_add_append];simp
theorem lg {α:Type} {cur c:List α} {p m N:Nat} (hp:p+m<=N) (hm:c.length=m) (a:N<=cur.length):(cur.take p++c++cur.drop (p+m)).take N=(cur.take N).take p++c++(cur.take N).drop (p+m):=by
 have h1:(cur.take p++c).length=p+m:=by simp[jt,hm]; omega
 rw[List.take_append,h1,List.take_of_length_le (by omega),List.take_take,Nat.min_eq_left (by omega),List.drop_take]
section
variable {P:Program} {w:World}
theorem lr {ρ:List Value} {H:(PH Lw)} {e:TypeId} {z:Nat} {rows:List (List PV)} {b n cap:Nat} (h:Zp ρ H w (.slice (some ⟨b,0,none⟩) n cap) (.vec e z rows)) :
  ∃(a:Nat) (cur:Array Value) (xs:List Value),n=rows.length/\w.heap[b]? =some (.cells cur e (0,0))/\rows.length<=a/\a<=maxLen/\cur.size=a * z/\cap=a/\cur.toList.take (rows.length * z)=xs/\gk H z rows xs/\(∀ u∈xs,u.oneCell'=true)/\∀ o,H b o=none:=by
 obtain⟨xs,c,d,h1,f⟩:=h;rcases c.2 with ⟨e,_⟩|⟨g,a,cur,e,_,i,j,hm,k,l⟩
 ·cases e
 cases e;exact⟨cap,cur,xs,rfl,i,j,hm,k,rfl,l,d,h1,f b rfl⟩
theorem Mf {t:TypeId} {lo:List AObj} {k i off z:Nat} {R:FV->Prop} (h:TG P t lo k z i off R) :
  ∃ F,R F/\∀ ⦃Lw:Nat⦄ (bs:(Base Lw)) (ρ:List Value) (H:(PH Lw)) (w:World) (v:Value),SatW bs ρ H lo w->qY ρ H (.eptr k z i off) v->∃ u,(Instr.loadAt t v).run P w=.ok u w/\qY ρ H F u:=by
 unfold TG at h;have q:=xg h; clear h; obtain⟨o,G,h⟩:=q;split at h
 ·rename_i e B rows
  obtain⟨row,⟨rfl,x⟩,h⟩:=h;obtain⟨h,I⟩:=rJ h;obtain⟨d,L,A,J,h⟩:=fE h;have cells:∀ ⦃Lw:Nat⦄ (bs:(Base Lw)) (ρ:List Value) (H:(PH Lw)) (w:World) (v:Value),SatW bs ρ H lo w->qY ρ H (.eptr k B i off) v ->
    ∃(b:Nat) (a:List Value),v=.pointer (some ⟨b,i * B+off,none⟩)/\zC H row a/\∀ j u,(a.drop off)[j]? =some u->w.cell? ⟨b,i * B+off+j,none⟩=some u:=by
   intro Lw bs ρ H w v s g;obtain⟨b,n,cap,C,rfl⟩:=g;obtain⟨y,cur,xs,rfl,D,K,hm,S,rfl,M,N,h1,T⟩:=lr (s.objs k _ _ G C);obtain⟨a,p,m⟩:=N.get x;refine⟨b,a,rfl,p,fun j u hu=>?_⟩;rw[jD]at hu;have:=m _ _ hu;rw[← M,jE]at this;split at this
   ·rw[Nat.add_assoc]
    rw[cell_of_row w b _ _ e _ D];simpa using this
   cases this
  split at h
  ·rename_i f
   obtain⟨h,K⟩:=rO h;refine⟨_,h,fun Lw bs ρ H w v s g=>?_⟩;obtain⟨b,a,rfl,p,m⟩:=cells bs ρ H w v s g;refine⟨_,bB A J m (by have:=p.length; simp at K ⊢; omega) f,?_⟩;simp only[qY,qO];exact⟨_,rfl,(p.drop off).take _⟩
  rename_i f;split at h
  ·rename_i c r E
   refine⟨_,h,fun Lw bs ρ H w v s g=>?_⟩;obtain⟨b,a,rfl,p,m⟩:=cells bs ρ H w v s g;have rd:=p.drop off;rw[E]at rd;simp only[zC]at rd;obtain⟨u,us,e,O,_⟩:=rd;exact⟨u,cW A (by simpa using m 0 u (by rw[e]; rfl)) f,O⟩
  exact h.elim
 ·exact h.elim
 ·rename_i l
  have q:=fE h; clear h; obtain⟨d,L,A,J,h⟩:=q;split at h
  ·exact h.elim
  rename_i f;have q:=h; clear h; obtain⟨c,⟨rfl,rfl,m⟩,h⟩:=q;refine⟨_,h,fun Lw bs ρ H w v s g=>?_⟩;obtain⟨b,n,cap,C,rfl⟩:=g;obtain⟨U,cs,V,y,lo',Q,e1,D,_,h2,_⟩:=s.objs k _ _ G C;cases e1;refine⟨.int .u8 c.toNat,cW A ?_ f,by simp[qY,qO]⟩;simp only[World.cell?,D,Nat.mul_one,Nat.add_zero];exact h2 i c m
 exact h.elim
theorem gk.le {H:(PH Lw)} {z:Nat} {p q:List (List PV)} {vs:List Value} (h:p=q\/Vw p q) (r:gk H z p vs):gk H z q vs:=by
 rcases h with rfl|h
 ·exact r
 have go:∀{p q:List (List PV)} {vs:List Value},Vw p q->gk H z p vs->gk H z q vs:=by
  intro p
  induction p with
  | nil=>intro q vs h r; cases q with
   | nil=>exact r
   | cons _ _=>simp[Vw]at h
  | cons a l ih=>intro q vs h r; cases q with
   | nil=>simp[Vw]at h
   | cons b m=>
    simp only[Vw]at h;obtain⟨e,x,y,e1,c,d⟩:=r;exact⟨by rw[← e,Vv h.1],x,y,e1,tE h.1 c,ih h.2 d⟩
 exact go h r
end
end Ax
end
section
namespace Ax
open Go
variable {Lw:Nat}
section
variable {P:Program} {w:World}
theorem BQ {t ty e:TypeId} {i:TypeInfo} {z:Value} (r:P.underlying t=some (.slice e)) (s:P.info? e=some i) (hz:i.zero=some z) (E:z.cells.size=i.size)
  {v:Value} {n:Nat} {xs:List Value} (d:w.ownsRow 0 e i.size v n xs)
  {x:Value} {m:Nat} {news:List Value} (o:news.length=m * i.size) (h1:∀ u∈news,u.oneCell'=true)
  (M:(m=0/\x=.slice none 0 0)\/∃ a c,x=.slice (some a) m c/\∀ j u,news[j]? =some u->w.cell? (a.add j)=some u)
  (N:n+m<=9223372036854775807) (hbytes:(n+m) * i.bytes<=140737488355328) :
  ∃ v' w',(Builtin.append_ #[t,t] ty #[v,x]).run P w=.ok v' w'/\w'.ownsRow 0 e i.size v' (n+m) (xs++news) /\
   ((qR v'=qR v/\(∀ g,qR v=some g->Keep (fun b=>b=g) w w')/\(qR v=none->w'=w))\/(qR v'=some w.heap.size/\Keep (fun b=>b=w.heap.size) w w')):=by
 have hlen:(xs++news).length=(n+m) * i.size:=by rw[jb,d.1,o,Nat.add_mul]
 have y:n+m<=maxLen:=by unfold maxLen; omega
 rcases M with ⟨rfl,rfl⟩|⟨F,c,rfl,f⟩
 ·have G:news=[]:=jI (by simpa using o)
  subst G;refine⟨v,w,run_append_owned_none (P:=P) (w:=w) 0 t ty e i i.size r s v n xs d,by simpa using d,.inl ⟨rfl,fun g _=>Keep.refl _ w,fun _=>rfl⟩⟩
 have grown:∀(old:Nat),(w.drew.alloc (.cells (xs.toArray++news.toArray++Builtin.zeroCells z.cells (grownCap w (n+m) old e - (n+m))) e)).ownsRow 0 e i.size
    (.slice (some ⟨w.heap.size,0,none⟩) (n+m) (grownCap w (n+m) old e)) (n+m) (xs++news):=by
  intro old;have H:=grownCap_ge w (n+m) old e;have p:grownCap w (n+m) old e<=maxLen:=grownCap_le_maxLen w (n+m) old e y;refine⟨hlen,.inr ⟨w.heap.size,_,_,rfl,jS _,heap_alloc_new w.drew _,H,p,?_,?_⟩⟩
  ·simp only[Array.size_append,jL,size_zeroCells,E,d.1,o,← Nat.add_mul]
   congr 1;omega
  simp only[Array.toList_append,js];rw[← js,← hlen];exact jJ
 rcases d.2 with ⟨rfl,rfl⟩|⟨g,cap,cur,rfl,I,L,O,p,J,q⟩
 ·have K:xs=[]:=jI (by simpa using d.1)
  subst K;by_cases hm:m=0
  ·subst hm
   have G:news=[]:=jI (by simpa using o);subst G;refine⟨.slice none 0 0,w,?_,World.ownsRow_nil w 0 e i.size,.inl ⟨rfl,fun g _=>Keep.refl _ w,fun _=>rfl⟩⟩
   simp[Builtin.append_,kru r,Go.sizeOf,typeInfo,s,Builtin.lenOf,Builtin.firstCells,loadCells,loadCellsFrom]
  have A:=run_append_nil (P:=P) w t ty e i z r s hz F m c news o f (by omega) (by omega) (by have Q:=hbytes; simp only[jx]at Q; omega);have B:=grown 0;simp only[jx,ju,Array.empty_append]at B ⊢;exact⟨_,_,A,B,.inr ⟨rfl,gu w _ _⟩⟩
 by_cases l:n+m<=cap
 ·have C:n * i.size+news.length<=cur.size:=by rw[o,J,← Nat.add_mul]; exact Nat.mul_le_mul_right _ l
  have A:=run_append_room (P:=P) w t ty e i r s g n cap cur L F m c news o f h1 l C;refine⟨_,_,A,⟨hlen,.inr ⟨g,cap,_,rfl,I,setRow_heap w g cur _ e _ L,l,p,?_,?_⟩⟩,.inl ⟨rfl,fun S D=>?_,fun h=>by simp[qR]at h⟩⟩
  ·simp only[jL,jb,jt,jM,jK]
   omega
  ·rw[q,← hlen]
   exact jJ
  simp[qR]at D;subst D;exact⟨rfl,rfl,rfl,by simp,fun k _ R=>setRow_other w g k _ R⟩
 have holds:∀ j u,xs[j]? =some u->w.cell? ((⟨g,0,none⟩:Addr).add j)=some u:=d.cells (g:=g) rfl;have A:=run_append_grow (P:=P) w t ty e i z r s hz ⟨g,0,none⟩ n cap xs d.1 holds F m c news o f (by omega) (by omega) (growslice_fits (by omega) hbytes);exact⟨_,_,A,grown cap,.inr ⟨rfl,gu w _ _⟩⟩
theorem UQ {t u ty e:TypeId} {i:TypeInfo} (x:P.underlying t=some (.slice e)) (hu:P.underlying u=some .string) (y:P.info? e=some i) (hz:i.zero=some (.int .u8 0)) (o:i.size=1)
  {v:Value} {n:Nat} {xs:List Value} (a:w.ownsRow 0 e 1 v n xs) (str:List UInt8)
  (E:n+str.length<=9223372036854775807) (hbytes:(n+str.length) * i.bytes<=140737488355328) :
  ∃ v' w',(Builtin.append_ #[t,u] ty #[v,.string ⟨str.toArray⟩]).run P w=.ok v' w'/\w'.ownsRow 0 e 1 v' (n+str.length) (xs++Lib.strCells ⟨str.toArray⟩) /\
   ((qR v'=qR v/\(∀ g,qR v=some g->Keep (fun b=>b=g) w w')/\(qR v=none->w'=w))\/(qR v'=some w.heap.size/\Keep (fun b=>b=w.heap.size) w w')):=by
 have d:(⟨str.toArray⟩:ByteArray).size=str.length:=Za str;generalize hsg:(⟨str.toArray⟩:ByteArray)=sb at *;have z:(Lib.strCells sb).length=str.length:=by rw[Lib.strCells_length,d]
 have hlen:(xs++Lib.strCells sb).length=(n+str.length) * 1:=by rw[jb,a.1,z,Nat.mul_one,Nat.mul_one]
 have p:n+str.length<=maxLen:=by unfold maxLen; omega
 have grown:∀(old:Nat),(w.drew.alloc (.cells (xs.toArray++(Lib.strCells sb).toArray++Builtin.zeroCells (Value.int .u8 0).cells (grownCap w (n+str.length) old e - (n+str.length))) e)).ownsRow 0 e 1
    (.slice (some ⟨w.heap.size,0,none⟩) (n+str.length) (grownCap w (n+str.length) old e)) (n+str.length) (xs++Lib.strCells sb):=by
  intro old;have A:=grownCap_ge w (n+str.length) old e;have l:grownCap w (n+str.length) old e<=maxLen:=grownCap_le_maxLen w (n+str.length) old e p;refine⟨hlen,.inr ⟨w.heap.size,_,_,rfl,jS _,heap_alloc_new w.drew _,A,l,?_,?_⟩⟩
  ·have h1:(Value.int .u8 0).cells.size=1:=rfl
   simp only[Array.size_append,jL,size_zeroCells,h1,a.1,z];omega
  simp only[Array.toList_append,js];rw[← js,← hlen];exact jJ
 rcases a.2 with ⟨rfl,rfl⟩|⟨g,cap,cur,rfl,B,D,F,l,G,c⟩
 ·have C:xs=[]:=jI (by simpa using a.1)
  subst C;by_cases hm:str.length=0
  ·have H:Lib.strCells sb=[]:=jI (by omega)
   refine⟨.slice none 0 0,w,?_,by rw[hm,H]; exact World.ownsRow_nil w 0 e 1,.inl ⟨rfl,fun g _=>Keep.refl _ w,fun _=>rfl⟩⟩
   simp[Builtin.append_,kru x,kru hu,Go.sizeOf,typeInfo,y,Builtin.lenOf,Builtin.firstCells,d,hm]
  have f:=run_append_nil_string (P:=P) w t u ty e i (.int .u8 0) x hu y hz sb (by omega) (by omega) (by rw[d]; have I:=hbytes; simp only[jx]at I; omega);have q:=grown 0;simp only[jx,ju,Array.empty_append]at q ⊢;have e1:sb.data.map (fun b=>Value.int .u8 b.toNat)=(Lib.strCells sb).toArray:=by
   apply Array.ext';simp[Lib.strCells]
  rw[e1,d]at f;exact⟨_,_,f,q,.inr ⟨rfl,gu w _ _⟩⟩
 by_cases m:n+str.length<=cap
 ·have r:n+sb.size<=cur.size:=by rw[d]; omega
  have f:=Lib.run_append_room_string (P:=P) w t u ty e i x hu y o g n cap cur D sb (by omega) r;rw[d]at f;refine⟨_,_,f,⟨hlen,.inr ⟨g,cap,_,rfl,B,setRow_heap w g cur _ e _ D,m,l,?_,?_⟩⟩,.inl ⟨rfl,fun K s=>?_,fun h=>by simp[qR]at h⟩⟩
  ·simp only[jL,jb,jt,jM,jK,z]
   omega
  ·rw[Nat.mul_one]at c
   rw[c,← hlen];exact jJ
  simp[qR]at s;subst s;exact⟨rfl,rfl,rfl,by simp,fun k _ J=>setRow_other w g k _ J⟩
 have holds:∀ j u,xs[j]? =some u->w.cell? ((⟨g,0,none⟩:Addr).add j)=some u:=a.cells (g:=g) rfl;have f:=Lib.run_append_grow_string (P:=P) w t u ty e i (.int .u8 0) x hu y hz ⟨g,0,none⟩ n cap xs (by rw[o]; exact a.1) holds sb (by omega) (by omega) (growslice_fits (by omega) (by rw[d]; exact hbytes));rw[d]at f;exact⟨_,_,f,grown cap,.inr ⟨rfl,gu w _ _⟩⟩
theorem St (H:(PH Lw)):∀(l:List UInt8),gk H 1 (qo l) (Lib.strCells ⟨l.toArray⟩)
 | []=>by simp[qo,gk,Lib.strCells]
 | b::l=>by
  have:=St H l;simp only[qo,jk,gk];refine⟨rfl,[.int .u8 b.toNat],Lib.strCells ⟨l.toArray⟩,by simp[Lib.strCells],?_,this⟩;simp[zC,qO]
theorem CN {f:FV} {R:List (List PV)->Prop} (h:NT f R):∃ rows,R rows/\∀ ⦃Lw:Nat⦄ (ρ:List Value) (H:(PH Lw)) (x:Value),qY ρ H f x->qO H (.sl rows) x:=by
 unfold NT at h;split at h
 ·exact⟨_,h,fun _ _ _ _ r=>r⟩
 ·exact⟨_,h,fun _ _ _ _ r=>r.2⟩
 ·refine⟨[],h,fun _ _ _ _ r=>?_⟩
  simp only[qY,qO]at r ⊢;exact .inl ⟨trivial,.inl r⟩
 exact h.elim
def xe (H:(PH Lw)) (v:Value) (ys:List Value):(PH Lw):=fun b o=>if qR v=some b/\o<ys.length then ys[o]? else H b o
theorem pc {bs:(Base Lw)} {ρ:List Value} {H:(PH Lw)} {lo:List AObj} (s:SatW bs ρ H lo w) {e:TypeId} {z:Nat} {v:Value} {n:Nat} {xs:List Value} (x:w.ownsRow 0 e z v n xs)
  (F:∀ b,qR v=some b->(∀ j u,xs[j]? =some u->H b j=some u)/\∀ o,n * z<=o->H b o=none)
  (hfree:∀(g:Nat),qR v=some g->∀(k:Nat) (o':AObj) (v':Value),lo[k]? =some o'->ρ[k]? =some v'->o'.live=true->qR v'≠some g)
  (howns:∀ g,qR v=some g->bs.S g\/bs.w0.heap.size<=g)
  {w':World} {v':Value} {m:Nat} {news:List Value} (I:news.length=m * z) (h1:∀ u∈xs++news,u.oneCell'=true)
  (c:w'.ownsRow 0 e z v' (n+m) (xs++news))
  (D:(qR v'=qR v/\(∀ g,qR v=some g->Keep (fun b=>b=g) w w')/\(qR v=none->w'=w))\/(qR v'=some w.heap.size/\Keep (fun b=>b=w.heap.size) w w')) :
  PH.le H (xe H v' (xs++news))/\SatW bs (ρ++[v']) (xe H v' (xs++news)) (lo++[.tail e z (n+m)]) w':=by
 have hlen:(xs++news).length=(n+m) * z:=c.1;have y:∀ b o u,qR v'=some b->H b o=some u->o<xs.length/\(xs++news)[o]? =some u:=by
  intro b o u r hu;rcases D with ⟨e1,_⟩|⟨e1,_⟩
  ·rw[e1]at r
   obtain⟨h2,h3⟩:=F b r;have d:o<xs.length:=by
    rw[x.1];rcases Nat.lt_or_ge o (n * z)with h|h
    ·exact h
    rw[h3 o h]at hu; cases hu
   refine⟨d,?_⟩;rw[jB d];have:=h2 o _ (jf d);rw[hu]at this;rw[jf d,← Option.some.inj this]
  rw[e1]at r;cases r;exact absurd (s.sath.lt hu) (jR _)
 have l:PH.le H (xe H v' (xs++news)):=by
  intro b o u hu;unfold xe;split
  ·rename_i t; exact(y b o u t.1 hu).2
  exact hu
 refine⟨l,?_⟩;have hcell:∀ g,qR v'=some g->∀ o u,(xs++news)[o]? =some u->w'.cell? ⟨g,o,none⟩=some u:=by
  intro g G o u hu;have:=c.cells (g:=g) (by
   rcases c.2 with ⟨rfl,_⟩|⟨L,cap,cur,rfl,_⟩
   ·simp[qR]at G
   simpa[qR,Value.ownBlock]using G) o u hu
  rwa [Addr.add_lit,jx]at this
 have p:SatH (xe H v' (xs++news)) w':=by
  refine⟨?_,s.sath.root.mono l,by rcases D with ⟨_,i,k2⟩|⟨_,i⟩; { cases f:qR v with|none=>rw[k2 f]; exact s.sath.low|some g=>exact Nat.le_trans s.sath.low (i g f).size }; { exact Nat.le_trans s.sath.low i.size },?_⟩
  rotate_left
  ·intro b o u hu J
   by_cases A:qR v'=some b
   ·exact .own c A
   unfold xe at hu;rw[if_neg (fun t=>A t.1)]at hu
   have d:=s.sath.lt hu;refine(s.sath.nf b o u hu J).block ?_;rcases D with ⟨e1,i,k2⟩|⟨e1,i⟩
   ·cases f:qR v with
    | none=>rw[k2 f]
    | some g=>exact(i g f).block b d (fun e=>A (by rw[e1,f,e]))
   ·exact i.block b d (by omega)
  intro b o u hu;unfold xe at hu;split at hu
  ·rename_i t
   exact⟨hcell b t.1 o u hu,h1 u (List.mem_of_getElem? hu)⟩
  rename_i t;obtain⟨B,hone⟩:=s.sath.cell b o u hu;refine⟨?_,hone⟩;have E:qR v'≠some b:=fun r=>t ⟨r,by have:=(y b o u r hu).1; rw[jb]; omega⟩
  have d:=s.sath.lt hu;rcases D with ⟨e1,i,k2⟩|⟨e1,i⟩
  ·cases f:qR v with
   | none=>rw[k2 f]; exact B
   | some g=>
    rw[World.cell?_of_block (w:=w) (a:=⟨b,o,none⟩) ((i g f).block b d (fun e=>E (by rw[e1,f,e])))]
    exact B
  rw[World.cell?_of_block (w:=w) (a:=⟨b,o,none⟩) (i.block b d (by omega))];exact B
 have C:∀ ρ,Zp ρ (xe H v' (xs++news)) w' v' (.tail e z (n+m)):=by
  intro ρ;refine⟨xs++news,c,fun b r=>⟨fun j u hu=>?_,fun o M=>?_⟩⟩
  ·unfold xe
   rw[if_pos ⟨r,(jG.1 hu).1⟩];exact hu
  unfold xe;rw[if_neg (by rw[hlen]; omega)];cases K:H b o with
  | none=>rfl
  | some u=>
   have:=(y b o u r K).1;rw[x.1]at this;have:n * z<=(n+m) * z:=Nat.mul_le_mul_right _ (by omega);omega
 have q:∀ b o u,xe H v' (xs++news) b o=some u->(∃ u,H b o=some u)\/qR v'=some b:=by
  intro b o u hu;unfold xe at hu;split at hu
  ·rename_i t; exact .inr t.1
  exact .inl ⟨u,hu⟩
 rcases D with ⟨e1,i,k2⟩|⟨e1,i⟩
 ·cases f:qR v with
  | none=>
   have hw:=k2 f;subst hw;rw[f]at e1;refine s.push (g:=w'.heap.size) (.inr e1) (s.fresh (jw _)) (.inr s.keep.size) l p (fun b o u hu=>?_) (Keep.refl _ _) (C _);rcases q b o u hu with h|h
   ·exact .inl h
   rw[e1]at h; cases h
  | some g=>
   rw[f]at e1;refine s.push (g:=g) (.inl e1) (hfree g f) (howns g f) l p (fun b o u hu=>?_) (i g f) (C _);rcases q b o u hu with h|h
   ·exact .inl h
   rw[e1]at h; exact .inr (Option.some.inj h).symm
 refine s.push (g:=w.heap.size) (.inl e1) (s.fresh (jw _)) (.inr s.keep.size) l p (fun b o u hu=>?_) i (C _);rcases q b o u hu with h|h
 ·exact .inl h
 rw[e1]at h; exact .inr (Option.some.inj h).symm
theorem fz {H:(PH Lw)} {v':Value} {e:TypeId} {z:Nat} {rows:List (List PV)} {ys:List Value} {w':World} (d:gk H z rows ys) (b:PH.le H (xe H v' ys))
  (a:w'.ownsRow 0 e z v' rows.length ys):qO (xe H v' ys) (.sl rows) v':=by
 simp only[qO];rcases a.2 with ⟨rfl,f⟩|⟨g,cap,cur,rfl,_,_,c,_⟩
 ·exact .inl ⟨jI f,.inl rfl⟩
 refine .inr ⟨g,0,z,cap,rfl,c,(d.mono b).unflat fun j u hu=>?_⟩;unfold xe;rw[if_pos ⟨by simp[qR],by have:=(jG.1 hu).1; omega⟩];simpa using hu
theorem gk.one {H:(PH Lw)} {w:World} (s:SatH H w) {b o:Nat} {vs:List Value} (c:∀ j u,vs[j]? =some u->H b (o+j)=some u):∀ u∈vs,u.oneCell'=true:=fun u hu=>by
 obtain⟨j,a⟩:=List.getElem?_of_mem hu;exact(s _ _ _ (c j u a)).2
theorem SH {H:PH Lw} (sath:SatH H w) {t ty e:TypeId} {i:TypeInfo} {z:Value} (x:P.underlying t=some (.slice e)) (y:P.info? e=some i) (hz:i.zero=some z) (B:z.cells.size=i.size)
  {rows news:List (List PV)} {A xv:Value} (rs:qO H (.sl rows) A) (hp:∃ p n,A=.slice p n n) (rx:qO H (.sl news) xv) (f:∀ r∈rows++news,r.length=i.size)
  (g:(rows++news).length<=9223372036854775807) (hbytes:(rows++news).length * i.bytes<=140737488355328) :
  ∃ v' w',(Builtin.append_ #[t,t] ty #[A,xv]).run P w=.ok v' w'/\((news=[]/\v'=A/\w'=w) \/
   ∃ ys:List Value,gk H i.size (rows++news) ys/\(∀ u∈ys,u.oneCell'=true)/\w'.ownsRow 0 e i.size v' (rows++news).length ys/\qR v'=some w.heap.size/\Keep (fun b=>b=w.heap.size) w w'):=by
 obtain⟨p,n,rfl⟩:=hp;have nothing:∀(q:Option Addr) (c:Nat),xv=.slice q 0 c->(Builtin.append_ #[t,t] ty #[.slice p n n,xv]).run P w=.ok (.slice p n n) w:=by
  rintro q c rfl;cases p<;>cases q<;>simp[Builtin.append_,kru x,Go.sizeOf,typeInfo,y,Builtin.lenOf,Builtin.firstCells,loadCells,loadCellsFrom,storeCells]
 rcases Xi rx (fun r d=>f r (by simp[d]))with ⟨rfl,rfl|⟨C,a,rfl⟩⟩|⟨b,o,cap,vs,rfl,_,k,G⟩
 ·exact⟨_,_,nothing none 0 rfl,.inl ⟨rfl,rfl,rfl⟩⟩
 ·exact⟨_,_,nothing (some C) a rfl,.inl ⟨rfl,rfl,rfl⟩⟩
 by_cases l:news=[]
 ·subst l
  exact⟨_,_,nothing _ _ rfl,.inl ⟨rfl,rfl,rfl⟩⟩
 have m:0<news.length:=List.length_pos_iff.2 l;rw[jb]at g hbytes;have hcell:∀ j u,vs[j]? =some u->w.cell? ((⟨b,o,none⟩:Addr).add j)=some u:=fun j u hu=>by rw[Addr.add_lit]; exact(sath.cell _ _ _ (G j u hu)).1
 have hone:=gk.one sath G;have grown:∀(xs:List Value) (old:Nat),gk H i.size rows xs->(∀ u∈xs,u.oneCell'=true)->∃ ys:List Value,gk H i.size (rows++news) ys/\(∀ u∈ys,u.oneCell'=true) /\
   (w.drew.alloc (.cells (xs.toArray++vs.toArray++Builtin.zeroCells z.cells (grownCap w (rows.length+news.length) old e - (rows.length+news.length))) e)).ownsRow 0 e i.size
    (.slice (some ⟨w.heap.size,0,none⟩) (rows.length+news.length) (grownCap w (rows.length+news.length) old e)) (rows++news).length ys:=by
  intro xs old D h1;have E:=grownCap_ge w (rows.length+news.length) old e;have F:grownCap w (rows.length+news.length) old e<=maxLen:=grownCap_le_maxLen w (rows.length+news.length) old e (by unfold maxLen; omega);have s:=(D.append k).length;refine⟨xs++vs,D.append k,fun u hu=>(jy.1 hu).elim (h1 u) (hone u),s,.inr ⟨w.heap.size,_,_,by rw[jb],jS _,heap_alloc_new w.drew _,by rw[jb]; exact E,F,?_,?_⟩⟩
  ·simp only[Array.size_append,jL,size_zeroCells,B,D.length,k.length,← Nat.add_mul]
   congr 1;omega
  simp only[Array.toList_append,js];rw[← js,← s];exact jJ
 rcases Xi rs (fun r d=>f r (by simp[d]))with ⟨rfl,e1|⟨C,a,e1⟩⟩|⟨I,o',a,us,e1,_,hu,v⟩
 ·cases e1
  have d:=run_append_nil (P:=P) w t ty e i z x y hz ⟨b,o,none⟩ news.length cap vs k.length hcell m (by simp at g; omega) (by simp at hbytes; omega);obtain⟨ys,h1,h2,h3⟩:=grown [] 0 rfl (by simp);simp only[jc,jx,ju,Array.empty_append]at h1 h2 h3 ⊢;exact⟨_,_,d,.inr ⟨ys,h1,h2,h3,rfl,gu w _ _⟩⟩
 ·cases e1
  have d:=run_append_grow (P:=P) w t ty e i z x y hz C 0 0 [] (by simp) (fun j u hu=>by simp at hu) ⟨b,o,none⟩ news.length cap vs k.length hcell (by omega) (by simp at g; omega) (growslice_fits (by omega) (by simpa using hbytes))
  obtain⟨ys,h1,h2,h3⟩:=grown [] 0 rfl (by simp);simp only[jc,ju]at d h1 h2 h3 ⊢;exact⟨_,_,d,.inr ⟨ys,h1,h2,h3,rfl,gu w _ _⟩⟩
 cases e1;have d:=run_append_grow (P:=P) w t ty e i z x y hz ⟨I,o',none⟩ rows.length rows.length us hu.length (fun j u h=>by rw[Addr.add_lit]; exact(sath.cell _ _ _ (v j u h)).1) ⟨b,o,none⟩ news.length cap vs k.length hcell (by omega) (by omega) (growslice_fits (by omega) hbytes)
 obtain⟨ys,h1,h2,h3⟩:=grown us rows.length hu (gk.one sath v);exact⟨_,_,d,.inr ⟨ys,h1,h2,h3,rfl,gu w _ _⟩⟩
theorem Qq {w:World} {t:TypeId} {v:Value}:(newVar t v).run P w=.ok ⟨w.heap.size,0,none⟩ (w.alloc (.cells v.cells t)):=by
 simp[newVar,newRow]
theorem GD {w:World} {t bt:TypeId} {i:TypeInfo} (d:P.info? t=some i) {b off:Nat} {cur:List Value} (e:w.heap[b]? =some (.cells cur.toArray bt (0,0))) {x:Value}
  (c:x.cells.size=i.size) (a:off+x.cells.size<=cur.length) (h1:∀ u∈x.cells.toList,u.oneCell'=true) :
  (Instr.storeAt t (.pointer (some ⟨b,off,none⟩)) x).run P w=.ok () (w.setRow b (cur.take off++x.cells.toList++cur.drop (off+x.cells.size)).toArray):=by
 have:=run_storeCells_at P b off bt x.cells.toList 0 cur.toArray w e (by simpa using a) h1;simp only[Nat.add_zero,jK]at this;simp[Instr.storeAt,Instr.sureAddr,storeVar,Go.sizeOf,typeInfo,d,c];rw[this];simp[c]
theorem ER {a b:Nat} (h:Nat.beq a b=true):a=b:=jm h
theorem Ze {H:(PH Lw)}:∀{l:List UInt8} {vs:List Value},zC H (l.map fun b=>PV.int .u8 b.toNat) vs->∀(j:Nat) (c:UInt8),l[j]? =some c->vs[j]? =some (.int .u8 (c.toNat:Int))
 | [],_,_,j,c,h=>by simp at h
 | b::l,vs,r,j,c,h=>by
  simp only[jk,zC,qO]at r;obtain⟨v,a,rfl,rfl,rs⟩:=r;cases j with
  | zero=>simp at h; subst h; rfl
  | succ j=>simpa using Ze rs j c (by simpa using h)
theorem Hr {t:TypeId} {lo:List AObj} {R:FV->List AObj->Prop} (h:LW P t lo R) :
  ∃ d lo',R d lo'/\xS true lo lo'/\∀ ⦃Lw:Nat⦄ (bs:(Base Lw)) (ρ:List Value) (H:(PH Lw)) (w:World),SatW bs ρ H lo w->∃ v w',(Instr.alloc t true (.tuple #[])).run P w=.ok v w'/\tf bs ρ H d lo' v w':=by
 unfold LW at h;obtain⟨i,z,m,e,hz,h,a⟩:=XG h;obtain⟨l,rfl,h⟩:=h;have h:=vC h;have h:=gh h;refine⟨_,_,h,xS.push _,fun Lw bs ρ H w s=>?_⟩;refine⟨.pointer (some ⟨w.heap.size,0,none⟩),w.alloc (.cells z.cells t),?_,ρ++[.slice (some ⟨w.heap.size,0,none⟩) l.length l.length],H,List.prefix_append _ _,PH.le.refl H,?_,?_⟩
 ·simp only[Instr.alloc,kf,zeroValue,typeInfo,run_program,e,hz,Qq,ke,kg]
 ·refine s.push (g:=w.heap.size) (.inl rfl) (s.fresh (jw _)) (.inr s.keep.size) (PH.le.refl H) (ma s.sath _) (fun b o v h=>.inl ⟨v,h⟩) (nB w _ _) ?_
  refine⟨w.heap.size,z.cells,t,l.length,0,0,rfl,heap_alloc_new w _,.inr (jw _),fun j c f=>?_,fun o=>?_⟩
  ·have:=Ze (a H) j c f
   simpa using this
  cases k:H w.heap.size o with
  | none=>rfl
  | some x=>exact absurd (s.sath.lt k) (jR _)
 ·exact⟨w.heap.size,l.length,l.length,by simp[← s.hlen],by simp⟩
theorem MB {bs:(Base Lw)} {ρ:List Value} {H:(PH Lw)} {lo:List AObj} (s:SatW bs ρ H lo w) {t:TypeId} {L:TypeInfo} (O:P.info? t=some L) {k i off b n cap z:Nat} {e:TypeId} {o:AObj} {rows:List (List PV)} {row a:List PV} {xv:Value} {xs:List Value}
  (Q:lo[k]? =some o) (D:o.live=true) (R:ρ[k]? =some (.slice (some ⟨b,0,none⟩) n cap)) (m:w.ownsRow 0 e z (.slice (some ⟨b,0,none⟩) n cap) rows.length xs) (h:gk H z rows xs) (h1:∀ u∈xs,u.oneCell'=true) (S:∀ o,H b o=none)
  (d:rows[i]? =some row) (hone:a.all Uq=true) (T:off+a.length<=row.length) (hn:a.length=L.size) (E:zC H a xv.cells.toList) :
  ∃ w',(Instr.storeAt t (.pointer (some ⟨b,i * z+off,none⟩)) xv).run P w=.ok () w'/\(∀ o',Zp ρ H w' (.slice (some ⟨b,0,none⟩) n cap) o'->SatW bs ρ H (lo.set k o') w') /\
   w'.ownsRow 0 e z (.slice (some ⟨b,0,none⟩) n cap) (rows.set i (row.take off++a++row.drop (off+a.length))).length (xs.take (i * z+off)++xv.cells.toList++xs.drop (i * z+off+xv.cells.size)) /\
   gk H z (rows.set i (row.take off++a++row.drop (off+a.length))) (xs.take (i * z+off)++xv.cells.toList++xs.drop (i * z+off+xv.cells.size)) /\
   (∀ u∈xs.take (i * z+off)++xv.cells.toList++xs.drop (i * z+off+xv.cells.size),u.oneCell'=true)/\i * z+off+a.length<=xs.length/\xv.cells.size=a.length/\row.length=z:=by
 rcases m.2 with ⟨F,_⟩|⟨g,M,cur,F,_,N,p,hm,U,V⟩
 ·cases F
 cases F;have hlen:=E.length;have G:row.length=z:=by
  have v:=List.mem_of_getElem? d;have:∀{rows:List (List PV)} {vs:List Value},gk H z rows vs->∀ r∈rows,r.length=z:=by
   intro rows
   induction rows with
   | nil=>intro vs _ r h; cases h
   | cons q qs ih=>
    intro vs x r h;obtain⟨hz,_,_,_,_,y⟩:=x;rcases jg.1 h with rfl|h
    ·exact hz
    exact ih y r h
  exact this h row v
 have I:i<rows.length:=(jG.1 d).1;have X:xs.length=rows.length * z:=h.length;have Y:i * z+z<=rows.length * z:=by
  rw[← Nat.succ_mul]; exact Nat.mul_le_mul_right _ I
 have A:rows.length * z<=cur.toList.length:=by
  have h2:cur.toList.length=cur.size:=by simp
  rw[h2,U]; exact Nat.mul_le_mul_right _ p
 have J:xv.cells.size=a.length:=by simpa using hlen
 have f:∀ u∈xv.cells.toList,u.oneCell'=true:=zC.one (fun c Z=>(List.all_eq_true.1 hone) c Z) E;have B:=GD (P:=P) (w:=w) (t:=t) (bt:=e) (cur:=cur.toList) O (by simpa using N) (x:=xv) (off:=i * z+off) (by omega) (by omega) f;have C:(cur.toList.take (i * z+off)++xv.cells.toList++cur.toList.drop (i * z+off+xv.cells.size)).take (rows.length * z)=xs.take (i * z+off)++xv.cells.toList++xs.drop (i * z+off+xv.cells.size):=by
  rw[lg (by omega) (by simp) A,V]
 have l:=h.over (off:=off) d E (by omega);have j:(rows.set i (row.take off++a++row.drop (off+a.length))).length=rows.length:=by simp
 refine⟨_,B,fun o' K=>s.upd (k:=k) (b:=b) Q R D rfl S ⟨rfl,rfl,rfl,by simp,fun x _ hx=>setRow_other w b x _ hx⟩ K,?_,?_,?_,by omega,J,G⟩
 ·refine⟨?_,.inr ⟨b,cap,(cur.toList.take (i * z+off)++xv.cells.toList++cur.toList.drop (i * z+off+xv.cells.size)).toArray,by rw[j],jS _,setRow_heap w b _ _ e _ (by simpa using N),by rw[j]; exact p,hm,?_,?_⟩⟩
  ·rw[j]
   simp only[jb,jt,jM,jK];omega
  ·simp only[jL,jb,jt,jM,jK]at A ⊢
   omega
  rw[j]; exact C
 ·simpa using l
 intro u hu;rcases jy.1 hu with hu|hu
 ·rcases jy.1 hu with hu|hu
  ·exact h1 u (List.mem_of_mem_take hu)
  exact f u hu
 exact h1 u (List.mem_of_mem_drop hu)
theorem QY {b:Nat} {e:TypeId} {c:Nat×Nat}:∀(vs:List Value) (o:Nat) (w:World) (cs:Array Value),w.heap[b]? =some (.cells cs e c) ->
  ∃ a,(w.setCells b o vs).heap[b]? =some (.cells a e c)/\a.size=cs.size/\(∀ k,k<o->a[k]? =cs[k]?)/\(∀ j v,vs[j]? =some v->o+j<cs.size->a[o+j]? =some v)/\Keep (fun x=>x=b) w (w.setCells b o vs)
 | [],o,w,cs,h=>⟨cs,h,rfl,fun _ _=>rfl,fun j v g=>by simp at g,Keep.refl _ _⟩
 | v::vs,o,w,cs,h=>by
  have h1:(w.setCell ⟨b,o,none⟩ v).heap[b]? =some (.cells (cs.setIfInBounds o v) e c):=by
   simp[World.setCell,Array.getElem?_modify,h]
  have d:Keep (fun x=>x=b) w (w.setCell ⟨b,o,none⟩ v):=⟨rfl,rfl,rfl,by simp[World.setCell],fun x _ i=>by
   have:b≠x:=fun e=>i e.symm
   simp[World.setCell,Array.getElem?_modify,this]⟩
  obtain⟨a,l,a2,a3,a4,a5⟩:=QY vs (o+1) (w.setCell ⟨b,o,none⟩ v) _ h1;refine⟨a,l,by simpa using a2,fun k d=>?_,fun j u hu f=>?_,d.trans a5⟩
  ·rw[a3 k (by omega),Array.getElem?_setIfInBounds,if_neg (by omega)]
  cases j with
  | zero=>
   simp only[List.getElem?_cons_zero,Option.some.injEq]at hu;subst hu;rw[Nat.add_zero]at f ⊢;rw[a3 o (by omega),Array.getElem?_setIfInBounds,if_pos rfl,if_pos f]
  | succ j=>
   rw[show o+(j+1)=o+1+j from by omega];exact a4 j u (by simpa using hu) (by simpa using(by omega:o+1+j<cs.size))
theorem Ek {lo:List AObj} {t:TypeId} {k z i off:Nat} {x:FV} {R:FV->List AObj->Prop} (h:Mm P t lo k z i off x R) :
  ∃ fv lo',R fv lo'/\lo'.length=lo.length/\∀ ⦃Lw:Nat⦄ (bs:(Base Lw)) (ρ:List Value) (H:(PH Lw)) (w:World) (a xv:Value),SatW bs ρ H lo w->qY ρ H (.eptr k z i off) a->qY ρ H x xv ->
   ∃ w',(Instr.storeAt t a xv).run P w=.ok () w'/\tf bs ρ H fv lo' undef w':=by
 unfold Mm at h;have f:=QI h; clear h; obtain⟨cs,h,y⟩:=f;have f:=pf h; clear h; obtain⟨ps,h,A⟩:=f;have f:=vC h; clear h; have h:=f; clear f;have f:=fE h; clear h; obtain⟨d,U,hd,Y,h⟩:=f;split at h
 ·rename_i V
  have V:=ER V;have f:=xg h; clear h; obtain⟨o,I,h⟩:=f;split at h
  ·rename_i e z' rows
   obtain⟨row,⟨rfl,J,hone⟩,h⟩:=h;obtain⟨h,Z⟩:=Xz h;obtain⟨rows',hrows,h⟩:=h;obtain⟨h,hk⟩:=gw h;refine⟨_,_,h,by simp,fun Lw bs ρ H w a xv s K rx=>?_⟩;obtain⟨b,n,cap,v,rfl⟩:=K;obtain⟨xs,L,hr,h1,hh⟩:=s.objs k _ _ I v;obtain⟨w',g,hup,c1,c2,c3,_⟩:=MB s Y I rfl v L hr h1 (hh b rfl) J hone Z (by omega) (A ρ H _ (y ρ H xv rx));subst hrows;exact⟨w',g,ρ,H,jq _,PH.le.refl H,hup _ ⟨_,c1,c2,c3,fun b' hb'=>by cases hb'; exact hh b rfl⟩,by simp[qY,qO,zC,undef]⟩
  ·exact h.elim
  ·rename_i l
   split at h
   ·have f:=h; clear h; obtain⟨c,l',⟨rfl,rfl,M,hnc,hl'⟩,h⟩:=f
    have f:=gw h; clear h; obtain⟨h,hk⟩:=f;subst hnc;refine⟨_,_,h,by simp,fun Lw bs ρ H w a xv s K rx=>?_⟩;obtain⟨b,n0,cap,v,rfl⟩:=K;obtain⟨b',cs,X,N,lo',p,e1,B,C,h2,O⟩:=s.objs k _ _ I v;cases e1;have rl:=A ρ H _ (y ρ H xv rx);simp only[zC,qO]at rl;obtain⟨v0,vs',ev,rfl,rfl⟩:=rl;have D:xv.cells.size=1:=by
     have:xv.cells.toList.length=1:=by rw[ev]; rfl
     simpa using this
    have hcell:(w.cell? ⟨b,i,none⟩).isSome=true:=by
     simp only[World.cell?,B];rw[h2 i _ (jf M)];rfl
    have hfz:w.frozen? ⟨b,i,none⟩=false:=by
     simp only[World.frozen?,B];have:¬ (lo'<=i/\i<p):=by omega
     simpa using fun h1=>Nat.le_of_not_lt fun h2=>this ⟨h1,h2⟩
    have g:(Instr.storeAt t (.pointer (some ⟨b,i * 1+0,none⟩)) xv).run P w=.ok () (w.setCell ⟨b,i,none⟩ (.int .u8 (c.toNat:Int))):=by
     have h3:=run_storeCells_cells (P:=P) b i [.int .u8 (c.toNat:Int)] 0 w (fun j q=>by
      have:j=0:=by simpa using q
      subst this;simpa using hcell) (fun j q=>by
      have:j=0:=by simpa using q
      subst this;simpa using hfz) (by simp[Value.oneCell'])
     simp only[Nat.add_zero]at h3;have E:U.size=1:=by
      have:[PV.int .u8 (c.toNat:Int)].length=U.size:=by simpa using V
      simpa using this.symm
     simp[Instr.storeAt,Instr.sureAddr,storeVar,Go.sizeOf,typeInfo,Y,E,D,ev,h3,World.setCells]
    have Q:(w.setCell ⟨b,i,none⟩ (.int .u8 (c.toNat:Int))).heap[b]? =some (.cells (cs.setIfInBounds i (.int .u8 (c.toNat:Int))) X (lo',p)):=by
     simp[World.setCell,Array.getElem?_modify,B]
    refine⟨_,g,ρ,H,jq _,PH.le.refl H,?_,by simp[qY,qO,zC,undef]⟩;refine s.upd (k:=k) (b:=b) I v rfl rfl O ⟨rfl,rfl,rfl,by simp[World.setCell],fun x _ hx=>?_⟩ ?_
    ·have:b≠x:=fun e=>hx e.symm
     simp[World.setCell,Array.getElem?_modify,this]
    subst hl';refine⟨b,_,X,cap,lo',p,by simp,Q,by simpa using C,fun j c' m=>?_,O⟩;rw[jF]at m;rw[Array.getElem?_setIfInBounds];split at m
    ·rename_i F
     subst F;cases m;have S:i<cs.size:=by
      have:=h2 i _ (jf M);exact(jH.1 this).1
     simp[S]
    rename_i F;simp only[F,if_false];exact h2 j c' m
   have f:=h; clear h; obtain⟨l',⟨rfl,rfl,rfl,r,T⟩,h⟩:=f;have f:=gw h; clear h; obtain⟨h,hk⟩:=f;refine⟨_,_,h,by simp,fun Lw bs ρ H w a xv s K rx=>?_⟩;obtain⟨b,n0,cap,v,rfl⟩:=K;obtain⟨b',cs,X,N,lo',p,e1,B,C,h2,O⟩:=s.objs k _ _ I v;cases e1;have rl:=A ρ H _ (y ρ H xv rx);rw[T]at rl;have hvl:xv.cells.toList.length=l.length:=by rw[rl.length,jl,r]
   have D:xv.cells.size=l.length:=by simpa using hvl
   have hcz:l.length<=cs.size:=by
    rcases Nat.eq_zero_or_pos l.length with f|f
    ·omega
    have:=h2 (l.length - 1) _ (jf (by omega));have:=(jH.1 this).1;omega
   have G:∀ u∈xv.cells.toList,u.oneCell'=true:=by
    intro u hu;obtain⟨j,q⟩:=List.getElem?_of_mem hu;have hjl:j<l'.length:=by have:=(jG.1 q).1; omega
    have:=Ze rl j _ (jf hjl);rw[q]at this;cases this;rfl
   have g:(Instr.storeAt t (.pointer (some ⟨b,0 * 1+0,none⟩)) xv).run P w=.ok () (w.setCells b 0 xv.cells.toList):=by
    have h3:=run_storeCells_cells (P:=P) b 0 xv.cells.toList 0 w (fun j q=>by
     simp only[World.cell?,B];have:j<l.length:=by omega
     rw[show 0+0+j=j from by omega];rw[h2 j _ (jf this)];rfl) (fun j q=>by
     simp only[World.frozen?,B];have:¬ (lo'<=0+0+j/\0+0+j<p):=by omega
     simpa using fun h1=>Nat.le_of_not_lt fun h2=>this ⟨by simpa using h1,by simpa using h2⟩) G
    have E:U.size=l.length:=by
     have:ps.length=U.size:=by simpa using V
     rw[← this,T,jl,r]
    simp only[Nat.add_zero]at h3;simp[Instr.storeAt,Instr.sureAddr,storeVar,Go.sizeOf,typeInfo,Y,E,D,h3]
   obtain⟨cs',a1,a2,_,a4,a5⟩:=QY xv.cells.toList 0 w cs B;refine⟨_,g,ρ,H,jq _,PH.le.refl H,?_,by simp[qY,qO,zC,undef]⟩;refine s.upd (k:=k) (b:=b) I v rfl rfl O a5 ?_;refine⟨b,cs',X,cap,lo',p,by rw[r],a1,by rw[r]; exact C,fun j c' m=>?_,O⟩;have q:=(jG.1 m).1;have:=a4 j _ (Ze rl j c' m) (by omega);simpa using this
  exact h.elim
 exact h.elim
theorem UY {o:Oper} {E:Env} {lo:List AObj} {R:FV->List AObj->Prop} (h:oL P o.op E lo R):∃ fv lo',R fv lo'/\xS (Rh o.op) lo lo'/\gB P o (qW E) lo none fv lo':=by
 obtain⟨dst,op,ty,pos,after,guard⟩:=o;simp only at h;unfold oL at h;split at h
 ·
  rename_i t x;have v:=qU h; clear h; obtain⟨x',h,C⟩:=v;have v:=QI h; clear h; obtain⟨cs,h,hcs⟩:=v;split at h
  ·rename_i h1
   have h:=vC h;have h:=gh h;refine⟨_,_,h,xS.push _,fun l Lw bs ρ H w eval s D=>?_⟩;have rc:=hcs ρ H _ (C ρ H _ l (D x (by simp[kh])));simp only[execOp,Instr.box,kf,Qq,ke,kg];refine⟨_,H,List.prefix_append _ _,PH.le.refl H,s.pushBox (t:=t) rc,?_⟩;exact⟨w.heap.size,by simp[← s.hlen],rfl⟩
  exact h.elim
 ·
  rename_i t;obtain⟨i,z,ps,hi,hz,h,hps⟩:=XG h;have h:=Qj h;split at h
  ·rename_i h1
   have h:=vC h;have h:=gh h;refine⟨_,_,h,xS.push _,fun l Lw bs ρ H w eval s D=>?_⟩;simp only[execOp,Instr.alloc,kf,zeroValue,typeInfo,run_program,hi,hz,Qq,ke,kg];refine⟨_,H,List.prefix_append _ _,PH.le.refl H,s.pushBox (t:=t) (xa.of_RepL (hps H)),?_⟩;exact⟨w.heap.size,by simp[← s.hlen],rfl⟩
  exact h.elim
 ·
  rename_i t a x;have v:=qU h; clear h; obtain⟨a',h,ha'⟩:=v;have v:=qU h; clear h; obtain⟨x',h,C⟩:=v;split at h
  ·rename_i k off
   have v:=QI h; clear h; obtain⟨cs,h,hcs⟩:=v;split at h
   ·rename_i h1
    have h:=vC h;obtain⟨d,i,hd,hi,h⟩:=fE h;split at h
    ·rename_i hn
     have hn:=ER hn;have v:=xg h; clear h; obtain⟨ob,B,h⟩:=v;split at h
     ·rename_i bt cells
      obtain⟨h,hlen⟩:=rL h;obtain⟨h,S⟩:=gw h;refine⟨_,_,h,xS.set _ _,fun l Lw bs ρ H w eval s D=>?_⟩;obtain⟨b,G,e⟩:=ha' ρ H _ l (D a (by simp[kh]));have rc:=hcs ρ H _ (C ρ H _ l (D x (by simp[kh])));obtain⟨b',vs,e',hg',I,hH⟩:=s.objs k _ _ B G;cases e';have hsz:(eval x).cells.size=cs.length:=by have:=rc.length; simpa using this
      have M:=GD (P:=P) (w:=w) (t:=t) (bt:=bt) hi hg' (x:=eval x) (off:=off) (by omega) (by rw[I.length]; omega) (Ci h1 rc);simp only[execOp,e,kf,M,ke,kg];refine⟨ρ,H,jq _,PH.le.refl H,s.setBox B G hg' hH ?_,by simp[qY,qO,zC,undef]⟩;rw[hsz];exact((I.take off).append rc).append (I.drop _)
     exact h.elim
    exact h.elim
   exact h.elim
  ·rename_i k z i off
   have v:=Ek h; clear h; obtain⟨fv,lo',h,hl,hs⟩:=v;refine⟨fv,lo',h,xS.len hl,fun l Lw bs ρ H w eval s D=>?_⟩;obtain⟨w',M,af⟩:=hs bs ρ H w _ _ s (ha' ρ H _ l (D a (by simp[kh]))) (C ρ H _ l (D x (by simp[kh])));simp only[execOp,kf,M,ke,kg];exact af
  exact h.elim
 ·
  rename_i sx xx t t';split at h
  ·rename_i htt
   have htt:=ER htt;subst htt;have v:=qU h; clear h; obtain⟨s',h,X⟩:=v;have v:=qU h; clear h; obtain⟨x',h,C⟩:=v;have v:=CN h; clear h; obtain⟨news,h,J⟩:=v;split at h
   ·exact h.elim
   have v:=bW h; clear h; obtain⟨e,i,hu,hi,h⟩:=v;split at h
   ·exact h.elim
   split at h
   ·rename_i i' hi'
    have:i'=i:=Option.some.inj (hi'.symm.trans hi);subst this;split at h
    ·rename_i zv Y
     split at h
     ·rename_i Z
      have Z:=ER Z;split at h
      ·
       obtain⟨⟨A,G,K⟩,h⟩:=h;have h:=vC h;have h:=gh h;refine⟨_,_,h,xS.push _,fun l Lw bs ρ H w eval s D=>?_⟩;have es:eval sx=.slice none 0 0:=by
        have:=X ρ H _ l (D sx (by simp[kh,ki]));simpa[qY,qO]using this
       have rx:=J ρ H _ (C ρ H _ l (D xx (by simp[kh,ki])));have run:∃ vs:List Value,gk H i'.size news vs/\(∀ u∈vs,u.oneCell'=true) /\
         ((news.length=0/\eval xx=.slice none 0 0)\/∃ a c,eval xx=.slice (some a) news.length c/\∀ j u,vs[j]? =some u->w.cell? (a.add j)=some u):=by
        rcases Xi rx A with ⟨rfl,ex|⟨a',N,ex⟩⟩|⟨b,o,cap,vs,ex,_,L,V⟩
        ·exact⟨[],rfl,by simp,.inl ⟨rfl,ex⟩⟩
        ·exact⟨[],rfl,by simp,.inr ⟨a',N,ex,fun j u hu=>by simp at hu⟩⟩
        exact⟨vs,L,gk.one s.sath V,.inr ⟨⟨b,o,none⟩,cap,ex,fun j u hu=>by rw[Addr.add_lit]; exact(s.sath.cell _ _ _ (V j u hu)).1⟩⟩
       obtain⟨vs,L,hone,hxx⟩:=run;obtain⟨v',w',M,f,S⟩:=BQ (P:=P) (w:=w) (ty:=ty) hu hi Y Z (World.ownsRow_nil w 0 e i'.size) L.length hone hxx (by omega) (by simpa using G);obtain⟨p,sat⟩:=pc s (World.ownsRow_nil w 0 e i'.size) (fun b G=>by simp[qR]at G) (fun g l=>by simp[qR]at l) (fun g l=>by simp[qR]at l) L.length (by simpa using hone) f S
       simp only[execOp,resolve,invoke,builtin,kf,kg,ke,kb,jk,jN,es,M];simp only[jx,ju]at f sat p;refine⟨_,_,List.prefix_append _ _,p,sat,by simp[← s.hlen],fz L p f⟩
      ·
       rename_i k0 rows _;obtain⟨⟨A,G,K⟩,h⟩:=h;have v:=xg h; clear h; obtain⟨ob,B,h⟩:=v;split at h
       ·rename_i e' z' n
        obtain⟨⟨he,hz,hn⟩,h⟩:=h;subst he; subst hz; subst hn;obtain⟨h,hk0⟩:=gw h;have h:=vC h;have h:=gh h;refine⟨_,_,h,xS.kill _ B rfl,fun l Lw bs ρ H w eval s D=>?_⟩;have rs:=X ρ H _ l (D sx (by simp[kh,ki]));obtain⟨F,O⟩:=rs;have rx:=J ρ H _ (C ρ H _ l (D xx (by simp[kh,ki])));obtain⟨xs,q,hxs⟩:=s.objs k0 _ _ B F;have run:∃ vs:List Value,gk H i'.size news vs/\(∀ u∈vs,u.oneCell'=true) /\
          ((news.length=0/\eval xx=.slice none 0 0)\/∃ a c,eval xx=.slice (some a) news.length c/\∀ j u,vs[j]? =some u->w.cell? (a.add j)=some u):=by
         rcases Xi rx (fun r M=>A r (by simp[M]))with ⟨rfl,ex|⟨a',N,ex⟩⟩|⟨b,o,cap,vs,ex,_,L,V⟩
         ·exact⟨[],rfl,by simp,.inl ⟨rfl,ex⟩⟩
         ·exact⟨[],rfl,by simp,.inr ⟨a',N,ex,fun j u hu=>by simp at hu⟩⟩
         exact⟨vs,L,gk.one s.sath V,.inr ⟨⟨b,o,none⟩,cap,ex,fun j u hu=>by rw[Addr.add_lit]; exact(s.sath.cell _ _ _ (V j u hu)).1⟩⟩
        obtain⟨vs,L,hone,hxx⟩:=run;have old:gk H i'.size rows xs/\∀ u∈xs,u.oneCell'=true:=by
         rcases Xi O (fun r M=>A r (by simp[M]))with ⟨rfl,ex⟩|⟨b,o,cap,us,ex,_,hv',V⟩
         ·have:xs=[]:=jI (by simpa using q.1)
          subst this;exact⟨rfl,by simp⟩
         have Q:qR (eval sx)=some b:=by rw[ex]; rfl
         have ho:o=0:=by
          rcases q.2 with ⟨e1,_⟩|⟨g,N,cur,e1,_⟩
          ·rw[ex]at e1; cases e1
          rw[ex]at e1; injection e1 with e1; injection e1 with e1; injection e1
         subst ho;have:xs=us:=by
          refine List.ext_getElem? fun j=>?_;have l1:xs.length=us.length:=by rw[q.1,hv'.length]
          rcases Nat.lt_or_ge j xs.length with hj|hj
          ·have h1:=(hxs b Q).1 j _ (jf hj)
           have h2:=V j _ (jf (show j<us.length by omega));rw[jx]at h2;rw[jf hj,jf (show j<us.length by omega),← h1,← h2]
          rw[List.getElem?_eq_none hj,List.getElem?_eq_none (by omega)]
         subst this;exact⟨hv',gk.one s.sath V⟩
        obtain⟨hvo,T⟩:=old;obtain⟨v',w',M,f,S⟩:=BQ (P:=P) (w:=w) (ty:=ty) hu hi Y Z q L.length hone hxx (by rw[jb]at K; exact K) (by rw[jb]at G; exact G);have sk:=s.kill k0;obtain⟨p,sat⟩:=pc sk q hxs (fun g l k o' u y U hl=>by
          rw[jF]at y;split at y
          ·first
            | (cases y; simp[AObj.live]at hl; done)
            | (split at y<;>first|(cases y; done)|(cases y; simp[AObj.live]at hl))
          ·rename_i hne
           exact s.excl k0 k _ o' _ u g B y F U hne rfl hl l)
         (fun g l=>s.own k0 _ _ g B F rfl l) L.length (fun u U=>by
          rcases jy.1 U with h|h
          ·exact T u h
          exact hone u h) f S
        simp only[execOp,resolve,invoke,builtin,kf,kg,ke,kb,jk,jN,M];refine⟨_,_,List.prefix_append _ _,p,by rw[jb]; exact sat,?_,fz (hvo.append L) p (by rw[jb]; exact f)⟩;have:(0+(lo.set k0 AObj.dead).length)=ρ.length:=by simp[s.hlen]
        rw[this];simp
       exact h.elim
      ·
       rename_i rows _;obtain⟨⟨A,G,K⟩,own,h⟩:=h;cases own with
       | true=>
        obtain⟨hne,h⟩:=h;have h:=vC h;have h:=gh h;refine⟨_,_,h,xS.push _,fun l Lw bs ρ H w eval s D=>?_⟩;obtain⟨O,hp⟩:=X ρ H _ l (D sx (by simp[kh,ki]));have rx:=J ρ H _ (C ρ H _ l (D xx (by simp[kh,ki])));obtain⟨v',w',M,⟨v,_⟩|⟨ys,L,hone,f,Q,S⟩⟩:=SH (P:=P) (ty:=ty) s.sath hu hi Y Z O hp rx A K G
        ·exact absurd v hne
        obtain⟨p,sat⟩:=pc (m:=(rows++news).length) (news:=ys) s (World.ownsRow_nil w 0 e i'.size) (fun b G=>by simp[qR]at G) (fun g l=>by simp[qR]at l) (fun g l=>by simp[qR]at l) L.length (by simpa using hone) (by simpa using f) (.inr ⟨Q,S⟩)
        simp only[execOp,resolve,invoke,builtin,kf,kg,ke,kb,jk,jN,M];simp only[jx,ju]at sat p;refine⟨_,_,List.prefix_append _ _,p,sat,by simp[← s.hlen],fz L p f⟩
       | false=>
        obtain⟨rows',rfl,h⟩:=h;refine⟨_,_,h,xS.refl _,fun l Lw bs ρ H w eval s D=>?_⟩;obtain⟨O,hp⟩:=X ρ H _ l (D sx (by simp[kh,ki]));have rx:=J ρ H _ (C ρ H _ l (D xx (by simp[kh,ki])));obtain⟨v',w',M,⟨rfl,rfl,rfl⟩|⟨ys,L,hone,f,Q,S⟩⟩:=SH (P:=P) (ty:=ty) s.sath hu hi Y Z O hp rx A K G
        ·simp only[execOp,resolve,invoke,builtin,kf,kg,ke,kb,jk,jN,M]
         refine⟨ρ,H,jq _,PH.le.refl H,s,?_⟩;simp only[qY,List.append_nil];exact O
        obtain⟨p,sat⟩:=pc (m:=(rows++news).length) (news:=ys) s (World.ownsRow_nil w 0 e i'.size) (fun b G=>by simp[qR]at G) (fun g l=>by simp[qR]at l) (fun g l=>by simp[qR]at l) L.length (by simpa using hone) (by simpa using f) (.inr ⟨Q,S⟩)
        simp only[ju]at sat p;have calm:Calm H w (xe H v' ys) w':=⟨p,sat.sath,⟨S.os,S.tape,S.output,S.size,fun k hk1 _=>S.block k hk1 (by omega)⟩,fun b o u hu=>by
         unfold xe at hu;split at hu
         ·rename_i V
          rw[Q]at V;exact .inr (by have:=Option.some.inj V.1; omega)
         exact .inl ⟨u,hu⟩⟩
        simp only[execOp,resolve,invoke,builtin,kf,kg,ke,kb,jk,jN,M];exact⟨ρ,_,jq _,p,s.calm calm,fz L p f⟩
      exact h.elim
     exact h.elim
    exact h.elim
   exact h.elim
  have v:=qU h; clear h; obtain⟨s',h,X⟩:=v;have v:=qU h; clear h; obtain⟨x',h,C⟩:=v;split at h
  case h_2=>exact h.elim
  rename_i str;split at h
  case h_2=>exact h.elim
  rename_i hut;have v:=bW h; clear h; obtain⟨e,i,hu,hi,h⟩:=v;split at h
  case h_2=>exact h.elim
  rename_i hz1;have hz1:=ER hz1;split at h
  case h_2=>exact h.elim
  rename_i i' hi';have:i'=i:=Option.some.inj (hi'.symm.trans hi);subst this;split at h
  case h_2=>exact h.elim
  rename_i Y;have hbl:(qo str).length=str.length:=by simp[qo]
  split at h
  ·exact h.elim
  ·rename_i k0 rows
   obtain⟨⟨A,G,K⟩,h⟩:=h;have v:=xg h; clear h; obtain⟨ob,B,h⟩:=v;split at h
   case h_2=>exact h.elim
   rename_i e' z' n;obtain⟨⟨he,hz,hn⟩,h⟩:=h;subst he; subst hz; subst hn;obtain⟨h,hk0⟩:=gw h;have h:=vC h;have h:=gh h;refine⟨_,_,h,xS.kill _ B rfl,fun l Lw bs ρ H w eval s D=>?_⟩;have rs:=X ρ H _ l (D sx (by simp[kh,ki]));obtain⟨F,O⟩:=rs;have ex:=QX (C ρ H _ l (D xx (by simp[kh,ki])));obtain⟨xs,q,hxs⟩:=s.objs k0 _ _ B F;have old:gk H 1 rows xs/\∀ u∈xs,u.oneCell'=true:=by
    rcases Xi O A with ⟨rfl,ex⟩|⟨b,o,cap,us,ex,_,hv',V⟩
    ·have:xs=[]:=jI (by simpa using q.1)
     subst this;exact⟨rfl,by simp⟩
    have Q:qR (eval sx)=some b:=by rw[ex]; rfl
    have ho:o=0:=by
     rcases q.2 with ⟨e1,_⟩|⟨g,N,cur,e1,_⟩
     ·rw[ex]at e1; cases e1
     rw[ex]at e1; injection e1 with e1; injection e1 with e1; injection e1
    subst ho;have:xs=us:=by
     refine List.ext_getElem? fun j=>?_;have l1:xs.length=us.length:=by rw[q.1,hv'.length]
     rcases Nat.lt_or_ge j xs.length with hj|hj
     ·have h1:=(hxs b Q).1 j _ (jf hj)
      have h2:=V j _ (jf (show j<us.length by omega));rw[jx]at h2;rw[jf hj,jf (show j<us.length by omega),← h1,← h2]
     rw[List.getElem?_eq_none hj,List.getElem?_eq_none (by omega)]
    subst this;exact⟨hv',gk.one s.sath V⟩
   obtain⟨hvo,T⟩:=old;rw[jb,hbl]at G K;obtain⟨v',w',M,f,S⟩:=UQ (P:=P) (w:=w) (ty:=ty) hu hut hi Y hz1 q str K G;have L:=St H str;have sk:=s.kill k0;obtain⟨p,sat⟩:=pc sk q hxs (fun g l k o' u y U hl=>by
     rw[jF]at y;split at y
     ·first
       | (cases y; simp[AObj.live]at hl; done)
       | (split at y<;>first|(cases y; done)|(cases y; simp[AObj.live]at hl))
     ·rename_i hne
      exact s.excl k0 k _ o' _ u g B y F U hne rfl hl l)
    (fun g l=>s.own k0 _ _ g B F rfl l) (by rw[Lib.strCells_length,Za,Nat.mul_one]) (fun u U=>by
     rcases jy.1 U with h|h
     ·exact T u h
     exact Lib.strCells_oneCell _ u h) f S
   simp only[execOp,resolve,invoke,builtin,kf,kg,ke,kb,jk,jN,ex,M];refine⟨_,_,List.prefix_append _ _,p,by rw[hz1,jb,hbl]; exact sat,?_,fz (hvo.append L) p (by rw[jb,hbl]; exact f)⟩;have:(0+(lo.set k0 AObj.dead).length)=ρ.length:=by simp[s.hlen]
   rw[this];simp
  exact h.elim
 exact Mc (o:=⟨dst,_,ty,pos,after,guard⟩) h
end
end Ax
end
