/- A part of the proof: the abstract execution. -/
import Derived.Still
import Derived.Below
import Derived.Laws.AppendOwnNone
import Derived.MapKept
import Derived.WalkKit
import Derived.Laws.IdiomStrings
import Derived.Laws.BytesArg
import Derived.Lib.Builder
import Derived.Carry
import Derived.Lib.AppendStr
import Derived.Laws.IdiomCopy
import Derived.Lib.ConvBytes
set_option linter.unusedVariables false
set_option linter.unusedSimpArgs false
set_option linter.unnecessarySimpa false
set_option linter.deprecated false
set_option linter.unusedSectionVars false
set_option linter.constructorNameAsVariable false
section
namespace Ax
open Go
inductive PV where
 | bool (b:Bool)|int (k:IntKind) (n:Int)|str (l:List UInt8)
 | agg (cs:List PV)|tup (vs:List PV)|nilsl|sl (rows:List (List PV))
 | nilp|fn (f:FuncId)|nilfn|nili|ifc (t:TypeId) (v:PV)|nilmap
inductive FV where
 | top
 | p (v:PV)
 | opt (g:Bool) (v:FV)
 | tsl (k:Nat) (rows:List (List PV))
 | ptr (k off:Nat)
 | hptr (row:List PV)
 | bself (k:Nat)
 | bsl (k off len cap:Nat)
 | vsl (k n:Nat)
 | eptr (k z i off:Nat)
 | mref (k:Nat)
 | pair (a b:FV)
 | stmp (k:Nat)
 | clo (f:FuncId) (c:FV)
 | cap0
 | cap (a b:FV)
 | fagg (c:FV)
 | nxt (ok:Bool) (a b:PV)
inductive AObj where
 | dead
 | box (t:TypeId) (cells:List FV)
 | tail (e:TypeId) (z n:Nat)
 | vec (e:TypeId) (z:Nat) (rows:List (List PV))
 | mp (d:TypeDesc) (es:List (PV×PV)) (mk:Option (PV×Nat))
 | sit (l:List UInt8) (pos:Nat)
 | bv (l:List UInt8)
def AObj.live:AObj->Bool
 | .dead=>false
 | _=>true
abbrev PH:=Nat->Nat->Option Value
def PH.le (H H':PH):Prop:=∀ b o v,H b o=some v->H' b o=some v
theorem PH.le.refl (H:PH):PH.le H H:=fun _ _ _ h=>h
theorem PH.le.trans {a b c:PH} (h:PH.le a b) (h':PH.le b c):PH.le a c:=fun _ _ _ x=>h' _ _ _ (h _ _ _ x)
mutual
def qcp (H:PH):PV->Value->Prop
 | .bool b,v=>v=.bool b
 | .int k n,v=>v=.int k n
 | .str l,v=>v=.string ⟨l.toArray⟩
 | .agg cs,v=>∃ vs:List Value,v=.agg vs.toArray/\qec H cs vs
 | .tup cs,v=>∃ vs:List Value,v=.tuple vs.toArray/\qec H cs vs
 | .nilsl,v=>v=.slice none 0 0
 | .sl rows,v=>(rows=[]/\(v=.slice none 0 0\/∃ a cap,v=.slice (some a) 0 cap)) \/
   ∃ b o z cap,v=.slice (some ⟨b,o,none⟩) rows.length cap/\rows.length<=cap/\qsl H b z o rows
 | .nilp,v=>v=.pointer none
 | .fn f,v=>v=.func (.func f) #[] #[]
 | .nilfn,v=>v=.nilFunc
 | .nili,v=>v=.nilIface
 | .ifc t p,v=>∃ u,v=.iface t u/\qcp H p u
 | .nilmap,v=>v=.map none
def qec (H:PH):List PV->List Value->Prop
 | [],vs=>vs=[]
 | c::cs,vs=>∃ v vs',vs=v::vs'/\qcp H c v/\qec H cs vs'
def qsl (H:PH) (b z:Nat):Nat->List (List PV)->Prop
 | _,[]=>True
 | o,r::rs=>r.length=z/\(∃ vs,qec H r vs/\∀ j v,vs[j]? =some v->H b (o+j)=some v)/\qsl H b z (o+z) rs
end
mutual
theorem qcp.mono {H H':PH} (h:PH.le H H'):∀ {p:PV} {v:Value},qcp H p v->qcp H' p v
 | .bool _,_,x|.int ..,_,x|.str _,_,x|.nilsl,_,x|.nilp,_,x|.fn _,_,x|.nilfn,_,x|.nili,_,x|.nilmap,_,x=>by
  simp only[qcp]at *; exact x
 | .agg cs,v,x=>by
  simp only[qcp]at *
  obtain⟨vs,e,r⟩:=x
  exact⟨vs,e,qec.mono h r⟩
 | .tup cs,v,x=>by
  simp only[qcp]at *
  obtain⟨vs,e,r⟩:=x
  exact⟨vs,e,qec.mono h r⟩
 | .sl rows,v,x=>by
  simp only[qcp]at *
  rcases x with x|⟨b,o,z,cap,e,l,r⟩
  ·exact .inl x
  ·exact .inr ⟨b,o,z,cap,e,l,qsl.mono h r⟩
 | .ifc t p,v,x=>by
  simp only[qcp]at *
  obtain⟨u,e,r⟩:=x
  exact⟨u,e,qcp.mono h r⟩
theorem qec.mono {H H':PH} (h:PH.le H H'):∀ {cs:List PV} {vs:List Value},qec H cs vs->qec H' cs vs
 | [],_,x=>by simp only[qec]at *; exact x
 | c::cs,vs,x=>by
  simp only[qec]at *
  obtain⟨v,vs',e,r,rs⟩:=x
  exact⟨v,vs',e,qcp.mono h r,qec.mono h rs⟩
theorem qsl.mono {H H':PH} (h:PH.le H H') {b z:Nat}:∀ {o:Nat} {rows:List (List PV)},qsl H b z o rows->qsl H' b z o rows
 | _,[],_=>by simp only[qsl]
 | o,r::rs,x=>by
  simp only[qsl]at *
  obtain⟨e,⟨vs,q,c⟩,x'⟩:=x
  exact⟨e,⟨vs,qec.mono h q,fun j v hv=>h _ _ _ (c j v hv)⟩,qsl.mono h x'⟩
end
theorem qec.length {H:PH}:∀ {cs:List PV} {vs:List Value},qec H cs vs->vs.length=cs.length
 | [],vs,x=>by simp only[qec]at x; simp[x]
 | c::cs,vs,x=>by
  simp only[qec]at x
  obtain⟨v,vs',e,_,rs⟩:=x
  simp[e,qec.length rs]
theorem qec.get {H:PH}:∀ {cs:List PV} {vs:List Value} {i:Nat} {c:PV},qec H cs vs->cs[i]? =some c->∃ v,vs[i]? =some v/\qcp H c v
 | [],_,_,_,_,h=>by simp at h
 | c::cs,vs,i,c',x,h=>by
  simp only[qec]at x
  obtain⟨v,vs',e,r,rs⟩:=x
  subst e
  cases i with
  | zero=>simp at h; subst h; exact⟨v,by simp,r⟩
  | succ i=>simp at h; obtain⟨u,hu,ru⟩:=rs.get h; exact⟨u,by simpa using hu,ru⟩
theorem qec.drop {H:PH}:∀ {cs:List PV} {vs:List Value} (n:Nat),qec H cs vs->qec H (cs.drop n) (vs.drop n)
 | _,_,0,x=>by simpa using x
 | [],vs,n+1,x=>by simp only[qec]at x; simp[x,qec]
 | c::cs,vs,n+1,x=>by
  simp only[qec]at x
  obtain⟨v,vs',e,r,rs⟩:=x
  subst e
  simpa using rs.drop n
theorem qec.take {H:PH}:∀ {cs:List PV} {vs:List Value} (n:Nat),qec H cs vs->qec H (cs.take n) (vs.take n)
 | _,_,0,x=>by simp[qec]
 | [],vs,n+1,x=>by simp only[qec]at x; simp[x,qec]
 | c::cs,vs,n+1,x=>by
  simp only[qec]at x
  obtain⟨v,vs',e,r,rs⟩:=x
  subst e
  simp only[List.take_succ_cons,qec]
  exact⟨v,_,rfl,r,rs.take n⟩
theorem qec.append {H:PH}:∀ {cs ds:List PV} {vs us:List Value},qec H cs vs->qec H ds us->qec H (cs++ds) (vs++us)
 | [],_,vs,_,x,y=>by simp only[qec]at x; simpa[x]using y
 | c::cs,ds,vs,us,x,y=>by
  simp only[qec]at x
  obtain⟨v,vs',e,r,rs⟩:=x
  subst e
  simp only[List.cons_append,qec]
  exact⟨v,_,rfl,r,rs.append y⟩
theorem qsl.get {H:PH} {b z:Nat}:∀ {o:Nat} {rows:List (List PV)} {i:Nat} {r:List PV},qsl H b z o rows->rows[i]? =some r ->
  r.length=z/\∃ vs,qec H r vs/\∀ j v,vs[j]? =some v->H b (o+i * z+j)=some v
 | _,[],_,_,_,h=>by simp at h
 | o,q::rs,i,r,x,h=>by
  simp only[qsl]at x
  obtain⟨e,c,x'⟩:=x
  cases i with
  | zero=>simp at h; subst h; simpa using⟨e,c⟩
  | succ i=>
   simp at h
   have:=x'.get h
   have e2:o+z+i * z=o+(i+1) * z:=by rw[Nat.add_mul]; omega
   rwa [e2]at this
theorem qsl.drop {H:PH} {b z:Nat}:∀ {o:Nat} {rows:List (List PV)} (i:Nat),qsl H b z o rows->qsl H b z (o+i * z) (rows.drop i)
 | _,_,0,x=>by simpa using x
 | _,[],_+1,_=>by simp[qsl]
 | o,q::rs,i+1,x=>by
  simp only[qsl]at x
  have:=x.2.2.drop i
  have e2:o+z+i * z=o+(i+1) * z:=by rw[Nat.add_mul]; omega
  rw[e2]at this
  simpa using this
theorem qsl.take {H:PH} {b z:Nat}:∀ {o:Nat} {rows:List (List PV)} (i:Nat),qsl H b z o rows->qsl H b z o (rows.take i)
 | _,_,0,_=>by simp[qsl]
 | _,[],_+1,_=>by simp[qsl]
 | o,q::rs,i+1,x=>by
  simp only[qsl,List.take_succ_cons]at x ⊢
  exact⟨x.1,x.2.1,x.2.2.take i⟩
mutual
def nle:PV->PV->Prop
 | .nilsl,.sl rows=>rows=[]
 | .agg a,.agg b=>zgs a b
 | .tup a,.tup b=>zgs a b
 | a,b=>a=b
def zgs:List PV->List PV->Prop
 | [],[]=>True
 | a::l,b::m=>nle a b/\zgs l m
 | _,_=>False
end
mutual
theorem q6o {H:PH}:∀ {p q:PV} {v:Value},nle p q->qcp H p v->qcp H q v
 | .nilsl,q,v,h,r=>by
  cases q<;>simp only[nle]at h<;>first|(subst h; simp only[qcp]at *; exact .inl ⟨trivial,.inl r⟩)|exact r|cases h
 | .agg a,q,v,h,r=>by
  cases q<;>simp only[nle]at h<;>try cases h
  simp only[qcp]at *
  obtain⟨vs,e,rr⟩:=r
  exact⟨vs,e,qxr h rr⟩
 | .tup a,q,v,h,r=>by
  cases q<;>simp only[nle]at h<;>try cases h
  simp only[qcp]at *
  obtain⟨vs,e,rr⟩:=r
  exact⟨vs,e,qxr h rr⟩
 | .bool _,q,v,h,r|.int ..,q,v,h,r|.str _,q,v,h,r|.sl _,q,v,h,r|.nilp,q,v,h,r|.fn _,q,v,h,r|.nilfn,q,v,h,r|.nili,q,v,h,r|.ifc ..,q,v,h,r|.nilmap,q,v,h,r=>by
  cases q<;>simp only[nle]at h<;>cases h<;>exact r
theorem qxr {H:PH}:∀ {p q:List PV} {v:List Value},zgs p q->qec H p v->qec H q v
 | [],[],_,_,r=>r
 | [],_::_,_,h,_=>by simp[zgs]at h
 | _::_,[],_,h,_=>by simp[zgs]at h
 | a::l,b::m,vs,h,r=>by
  simp only[zgs]at h
  simp only[qec]at *
  obtain⟨v,vs',e,r1,r2⟩:=r
  exact⟨v,vs',e,q6o h.1 r1,qxr h.2 r2⟩
end
def zc1:List (List PV)->List (List PV)->Prop
 | [],[]=>True
 | a::l,b::m=>zgs a b/\zc1 l m
 | _,_=>False
theorem q0a:∀ {p q:List PV},zgs p q->p.length=q.length
 | [],[],_=>rfl
 | [],_::_,h=>by simp[zgs]at h
 | _::_,[],h=>by simp[zgs]at h
 | a::l,b::m,h=>by simp only[zgs]at h; simp[q0a h.2]
theorem q0b:∀ {p q:List (List PV)},zc1 p q->p.length=q.length
 | [],[],_=>rfl
 | [],_::_,h=>by simp[zc1]at h
 | _::_,[],h=>by simp[zc1]at h
 | a::l,b::m,h=>by simp only[zc1]at h; simp[q0b h.2]
theorem zfy {H:PH} {b z:Nat}:∀ {o:Nat} {p q:List (List PV)},zc1 p q->qsl H b z o p->qsl H b z o q
 | _,[],[],_,_=>by simp only[qsl]
 | _,[],_::_,h,_=>by simp[zc1]at h
 | _,_::_,[],h,_=>by simp[zc1]at h
 | o,r::rs,s::ss,h,x=>by
  simp only[zc1]at h
  simp only[qsl]at *
  obtain⟨e,⟨vs,q,c⟩,x'⟩:=x
  exact⟨by rw[← e,q0a h.1],⟨vs,qxr h.1 q,c⟩,zfy h.2 x'⟩
theorem zq9 {H:PH} {p q:List (List PV)} {v:Value} (h:p=q\/zc1 p q) (r:qcp H (.sl p) v):qcp H (.sl q) v:=by
 rcases h with rfl|h
 ·exact r
 ·simp only[qcp]at *
  rcases r with ⟨rfl,r⟩|⟨b,o,z,cap,e,l,r⟩
  ·cases q with
   | nil=>exact .inl ⟨rfl,r⟩
   | cons _ _=>simp[zc1]at h
  ·have e2:=q0b h
   exact .inr ⟨b,o,z,cap,by rw[← e2]; exact e,by rw[← e2]; exact l,zfy h r⟩
def qcc (ρ:List Value) (H:PH):FV->Value->Prop
 | .top,_=>True
 | .p p,x=>qcp H p x
 | .opt g v,x=>if g=true then qcc ρ H v x else x=undef
 | .tsl k rows,x=>ρ[k]? =some x/\qcp H (.sl rows) x
 | .ptr k off,x=>∃ b,ρ[k]? =some (.pointer (some ⟨b,0,none⟩))/\x=.pointer (some ⟨b,off,none⟩)
 | .hptr row,x=>∃ b o vs,x=.pointer (some ⟨b,o,none⟩)/\qec H row vs/\∀ j v,vs[j]? =some v->H b (o+j)=some v
 | .bself k,x=>∃ b,ρ[k]? =some (.pointer (some ⟨b,0,none⟩))/\(x=.pointer none\/x=.pointer (some ⟨b,0,none⟩))
 | .bsl k off len cap,x=>∃ b,ρ[k]? =some (.pointer (some ⟨b,0,none⟩))/\x=.slice (some ⟨b,off,none⟩) len cap
 | .vsl k n,x=>ρ[k]? =some x/\((n=0/\x=.slice none 0 0)\/∃ b cap,x=.slice (some ⟨b,0,none⟩) n cap)
 | .eptr k z i off,x=>∃ b n cap,ρ[k]? =some (.slice (some ⟨b,0,none⟩) n cap)/\x=.pointer (some ⟨b,i * z+off,none⟩)
 | .mref k,x=>∃ b,ρ[k]? =some (.map (some b))/\x=.map (some b)
 | .pair a b,x=>∃ u v,x=.tuple #[u,v]/\qcc ρ H a u/\qcc ρ H b v
 | .stmp k,x=>ρ[k]? =some x
 | .clo f c,x=>∃ vs:List Value,x=.func (.func f) #[] vs.toArray/\qcc ρ H c (.tuple vs.toArray)
 | .cap0,x=>x=.tuple #[]
 | .cap a b,x=>∃ (u:Value) (vs:List Value),x=.tuple (u::vs).toArray/\qcc ρ H a u/\qcc ρ H b (.tuple vs.toArray)
 | .fagg c,x=>∃ vs:List Value,x=.agg vs.toArray/\qcc ρ H c (.tuple vs.toArray)
 | .nxt ok a b,x=>if ok=true then ∃ u v,x=.tuple #[.bool true,u,v]/\qcp H a u/\qcp H b v else x=.tuple #[.bool false]
theorem qcc.mono {ρ ρ':List Value} {H H':PH} (hr:ρ <+: ρ') (h:PH.le H H'):∀ {f:FV} {x:Value},qcc ρ H f x->qcc ρ' H' f x
 | .top,_,_=>trivial
 | .p p,x,r=>qcp.mono h (p:=p) r
 | .opt g v,x,r=>by
  simp only[qcc]at *
  split
  ·rename_i hg; simp only[hg,if_true]at r; exact qcc.mono hr h r
  ·rename_i hg; simpa[hg]using r
 | .tsl k rows,x,r=>by
  obtain⟨l,rfl⟩:=hr
  refine⟨?_,qcp.mono h r.2⟩
  rw[List.getElem?_append_left (List.getElem?_eq_some_iff.1 r.1).1]; exact r.1
 | .ptr k off,x,r=>by
  obtain⟨l,rfl⟩:=hr
  obtain⟨b,e,e'⟩:=r
  refine⟨b,?_,e'⟩
  rw[List.getElem?_append_left (List.getElem?_eq_some_iff.1 e).1]; exact e
 | .hptr row,x,r=>by
  obtain⟨b,o,vs,e,q,c⟩:=r
  exact⟨b,o,vs,e,qec.mono h q,fun j v hv=>h _ _ _ (c j v hv)⟩
 | .bself k,x,r=>by
  obtain⟨l,rfl⟩:=hr
  obtain⟨b,e,e'⟩:=r
  refine⟨b,?_,e'⟩
  rw[List.getElem?_append_left (List.getElem?_eq_some_iff.1 e).1]; exact e
 | .bsl k off len cap,x,r=>by
  obtain⟨l,rfl⟩:=hr
  obtain⟨b,e,e'⟩:=r
  refine⟨b,?_,e'⟩
  rw[List.getElem?_append_left (List.getElem?_eq_some_iff.1 e).1]; exact e
 | .vsl k n,x,r=>by
  obtain⟨l,rfl⟩:=hr
  refine⟨?_,r.2⟩
  rw[List.getElem?_append_left (List.getElem?_eq_some_iff.1 r.1).1]; exact r.1
 | .eptr k z i off,x,r=>by
  obtain⟨l,rfl⟩:=hr
  obtain⟨b,n,cap,e,e'⟩:=r
  refine⟨b,n,cap,?_,e'⟩
  rw[List.getElem?_append_left (List.getElem?_eq_some_iff.1 e).1]; exact e
 | .mref k,x,r=>by
  obtain⟨l,rfl⟩:=hr
  obtain⟨b,e,e'⟩:=r
  refine⟨b,?_,e'⟩
  rw[List.getElem?_append_left (List.getElem?_eq_some_iff.1 e).1]; exact e
 | .pair a b,x,r=>by
  obtain⟨u,v,e,ra,rb⟩:=r
  exact⟨u,v,e,ra.mono hr h,rb.mono hr h⟩
 | .stmp k,x,r=>by
  obtain⟨l,rfl⟩:=hr
  simp only[qcc]at *
  rw[List.getElem?_append_left (List.getElem?_eq_some_iff.1 r).1]; exact r
 | .clo f c,x,r=>by
  obtain⟨vs,e,rc⟩:=r
  exact⟨vs,e,rc.mono hr h⟩
 | .cap0,x,r=>r
 | .cap a b,x,r=>by
  obtain⟨u,vs,e,ra,rb⟩:=r
  exact⟨u,vs,e,ra.mono hr h,rb.mono hr h⟩
 | .fagg c,x,r=>by
  obtain⟨vs,e,rc⟩:=r
  exact⟨vs,e,rc.mono hr h⟩
 | .nxt ok a b,x,r=>by
  simp only[qcc]at *
  split
  ·rename_i hok
   simp only[hok,if_true]at r
   obtain⟨u,v,e,ra,rb⟩:=r
   exact⟨u,v,e,ra.mono h,rb.mono h⟩
  ·rename_i hok; simpa[hok]using r
def qd9 (ρ:List Value) (H:PH):List FV->List Value->Prop
 | [],vs=>vs=[]
 | c::cs,vs=>∃ v vs',vs=v::vs'/\qcc ρ H c v/\qd9 ρ H cs vs'
theorem qd9.mono {ρ ρ':List Value} {H H':PH} (hr:ρ <+: ρ') (h:PH.le H H'):∀ {cs:List FV} {vs:List Value},qd9 ρ H cs vs->qd9 ρ' H' cs vs
 | [],_,x=>x
 | c::cs,vs,x=>by
  obtain⟨v,vs',e,r,rs⟩:=x
  exact⟨v,vs',e,r.mono hr h,rs.mono hr h⟩
theorem qd9.length {ρ:List Value} {H:PH}:∀ {cs:List FV} {vs:List Value},qd9 ρ H cs vs->vs.length=cs.length
 | [],vs,x=>by simp only[qd9]at x; simp[x]
 | c::cs,vs,x=>by
  obtain⟨v,vs',e,_,rs⟩:=x
  simp[e,qd9.length rs]
theorem qd9.drop {ρ:List Value} {H:PH}:∀ {cs:List FV} {vs:List Value} (n:Nat),qd9 ρ H cs vs->qd9 ρ H (cs.drop n) (vs.drop n)
 | _,_,0,x=>by simpa using x
 | [],vs,n+1,x=>by simp only[qd9]at x; simp[x,qd9]
 | c::cs,vs,n+1,x=>by
  obtain⟨v,vs',e,r,rs⟩:=x
  subst e
  simpa using rs.drop n
theorem qd9.take {ρ:List Value} {H:PH}:∀ {cs:List FV} {vs:List Value} (n:Nat),qd9 ρ H cs vs->qd9 ρ H (cs.take n) (vs.take n)
 | _,_,0,x=>by simp[qd9]
 | [],vs,n+1,x=>by simp only[qd9]at x; simp[x,qd9]
 | c::cs,vs,n+1,x=>by
  obtain⟨v,vs',e,r,rs⟩:=x
  subst e
  simp only[List.take_succ_cons,qd9]
  exact⟨v,_,rfl,r,rs.take n⟩
theorem qd9.of_RepL {ρ:List Value} {H:PH}:∀ {cs:List PV} {vs:List Value},qec H cs vs->qd9 ρ H (cs.map .p) vs
 | [],_,x=>by simp only[qec]at x; simpa[qd9]using x
 | c::cs,vs,x=>by
  simp only[qec]at x
  obtain⟨v,vs',e,r,rs⟩:=x
  exact⟨v,vs',e,r,qd9.of_RepL rs⟩
def zfe (H:PH):Prop:=∃ m,H 0 0=some (.int .i64 m)
structure SatH (H:PH) (w:World):Prop where
 cell:∀ b o v,H b o=some v->w.cell? ⟨b,o,none⟩=some v/\v.oneCell'=true
 root:zfe H
instance {H:PH} {w:World}:CoeFun (SatH H w) (fun _=>∀ b o v,H b o=some v->w.cell? ⟨b,o,none⟩=some v/\v.oneCell'=true):=⟨SatH.cell⟩
theorem zfe.mono {H H':PH} (h:zfe H) (hle:∀ b o v,H b o=some v->H' b o=some v):zfe H':=let ⟨m,hm⟩:=h; ⟨m,hle _ _ _ hm⟩
structure Keep (S:Nat->Prop) (w0 w:World):Prop where
 os:w.os=w0.os
 tape:w.tape=w0.tape
 output:w.output=w0.output
 size:w0.heap.size<=w.heap.size
 block:∀ k,k<w0.heap.size->¬ S k->w.heap[k]? =w0.heap[k]?
theorem Keep.refl (S:Nat->Prop) (w:World):Keep S w w:=⟨rfl,rfl,rfl,Nat.le_refl _,fun _ _ _=>rfl⟩
theorem Keep.trans {S:Nat->Prop} {a b c:World} (h:Keep S a b) (k:Keep S b c):Keep S a c:=
 ⟨k.os.trans h.os,k.tape.trans h.tape,k.output.trans h.output,Nat.le_trans h.size k.size,
  fun i hi hs=>(k.block i (Nat.lt_of_lt_of_le hi h.size) hs).trans (h.block i hi hs)⟩
theorem Keep.step {S S':Nat->Prop} {a b c:World} (h:Keep S a b) (k:Keep S' b c) (hs:∀ i,S' i->S i\/a.heap.size<=i):Keep S a c:=
 ⟨k.os.trans h.os,k.tape.trans h.tape,k.output.trans h.output,Nat.le_trans h.size k.size,
  fun i hi hn=>(k.block i (Nat.lt_of_lt_of_le hi h.size) (fun x=>(hs i x).elim hn (by omega))).trans (h.block i hi hn)⟩
abbrev zfc:Nat->Prop:=fun _=>False
structure Base where
 S:Nat->Prop
 w0:World
 H0:PH
 r0:List Value
def qcs:Value->Option Nat
 | .pointer (some a)=>some a.block
 | .slice (some a) _ _=>some a.block
 | .map r=>r
 | _=>none
def qr9 (H:PH) (z:Nat):List (List PV)->List Value->Prop
 | [],vs=>vs=[]
 | r::rs,vs=>r.length=z/\∃ a b,vs=a++b/\qec H r a/\qr9 H z rs b
theorem qr9.mono {H H':PH} (h:PH.le H H') {z:Nat}:∀ {rows:List (List PV)} {vs:List Value},qr9 H z rows vs->qr9 H' z rows vs
 | [],_,x=>x
 | r::rs,vs,x=>by
  obtain⟨hz,a,b,e,q,y⟩:=x
  exact⟨hz,a,b,e,qec.mono h q,y.mono h⟩
def zag (H:PH):List (PV×PV)->List MapEntry->Prop
 | [],l=>l=[]
 | (k,p)::es,l=>∃ e l',l=e::l'/\qcp H k e.key/\qcp H p e.val/\zag H es l'
theorem zag.mono {H H':PH} (h:PH.le H H'):∀ {es:List (PV×PV)} {l:List MapEntry},zag H es l->zag H' es l
 | [],_,x=>x
 | (k,p)::es,l,x=>by
  obtain⟨e,l',e1,rk,rp,rr⟩:=x
  exact⟨e,l',e1,qcp.mono h rk,qcp.mono h rp,rr.mono h⟩
def zfa (ρ:List Value) (H:PH) (ents:Array MapEntry) (mk:Option (PV×Nat)):Prop:=
 ∀ key s,mk=some (key,s)->∃ (j:Nat) (e:MapEntry),ents[j]? =some e/\qcp H key e.key/\ρ[s]? =some (.int .i64 e.born)
theorem zfa.mono {ρ ρ':List Value} {H H':PH} {ents:Array MapEntry} {mk:Option (PV×Nat)} (hr:ρ <+: ρ') (h:PH.le H H') (m:zfa ρ H ents mk):zfa ρ' H' ents mk:=fun key s e=>by
 obtain⟨j,x,hj,hk,hs⟩:=m key s e
 obtain⟨l,rfl⟩:=hr
 exact⟨j,x,hj,qcp.mono h hk,by rw[List.getElem?_append_left (List.getElem?_eq_some_iff.1 hs).1]; exact hs⟩
def q30 (ρ:List Value) (H:PH) (w:World) (v:Value):AObj->Prop
 | .dead=>True
 | .box t cells=>∃ b vs,v=.pointer (some ⟨b,0,none⟩)/\w.heap[b]? =some (.cells vs.toArray t (0,0))/\qd9 ρ H cells vs/\∀ o,H b o=none
 | .tail e z n=>∃ xs,w.ownsRow 0 e z v n xs/\∀ b,qcs v=some b->(∀ j u,xs[j]? =some u->H b j=some u)/\∀ o,n * z<=o->H b o=none
 | .vec e z rows=>∃ xs,w.ownsRow 0 e z v rows.length xs/\qr9 H z rows xs/\(∀ u∈xs,u.oneCell'=true)/\∀ b,qcs v=some b->∀ o,H b o=none
 | .mp d es mk=>∃ b ents clock,v=.map (some b)/\w.heap[b]? =some (.map ents clock)/\zag H es ents.toList/\(MapKept.Stamped ents clock/\(∀ x∈ents.toList,MapKept.IsKey d x.key)/\zfa ρ H ents mk)/\∀ o,H b o=none
 | .sit l pos=>∃ b,v=.pointer (some ⟨b,0,none⟩)/\w.heap[b]? =some (.stringIter ⟨l.toArray⟩ pos)/\∀ o,H b o=none
 | .bv l=>∃ b cs e cap lo hi,v=.slice (some ⟨b,0,none⟩) l.length cap/\w.heap[b]? =some (.cells cs e (lo,hi))/\l.length<=lo/\(∀ (j:Nat) (c:UInt8),l[j]? =some c->cs[j]? =some (.int .u8 c.toNat))/\∀ o,H b o=none
structure SatW (bs:Base) (ρ:List Value) (H:PH) (lo:List AObj) (w:World):Prop where
 sath:SatH H w
 hlen:ρ.length=lo.length
 pre:bs.r0 <+: ρ
 objs:∀ (k:Nat) (o:AObj) (v:Value),lo[k]? =some o->ρ[k]? =some v->q30 ρ H w v o
 excl:∀ (k k':Nat) (o o':AObj) (v v':Value) (b:Nat),lo[k]? =some o->lo[k']? =some o'->ρ[k]? =some v->ρ[k']? =some v'->k≠k' ->
  o.live=true->o'.live=true->qcs v=some b->qcs v'≠some b
 own:∀ (k:Nat) (o:AObj) (v:Value) (b:Nat),lo[k]? =some o->ρ[k]? =some v->o.live=true->qcs v=some b->bs.S b\/bs.w0.heap.size<=b
 keep:Keep bs.S bs.w0 w
 leH:PH.le bs.H0 H
 newH:∀ b o v,H b o=some v->(∃ v,bs.H0 b o=some v)\/bs.S b\/bs.w0.heap.size<=b
structure Sat (bs:Base) (N:Nat) (ρ:List Value) (H:PH) (e:Nat->FV) (lo:List AObj) (a:Act) (w:World):Prop extends SatW bs ρ H lo w where
 slots:∀ t,qcc ρ H (e t) (a.tmps.getD t undef)
 width:a.tmps.size=N
 defers:a.defers=[]
structure Calm (H:PH) (w:World) (H':PH) (w':World):Prop where
 le:PH.le H H'
 sat:SatH H' w'
 keep:Keep zfc w w'
 new:∀ b o v,H' b o=some v->(∃ v,H b o=some v)\/w.heap.size<=b
theorem Calm.refl {H:PH} {w:World} (h:SatH H w):Calm H w H w:=⟨PH.le.refl H,h,Keep.refl _ w,fun _ _ v h=>.inl ⟨v,h⟩⟩
theorem Calm.trans {H H' H'':PH} {w w' w'':World} (h:Calm H w H' w') (k:Calm H' w' H'' w''):Calm H w H'' w'':=
 ⟨h.le.trans k.le,k.sat,h.keep.trans k.keep,fun b o v hv=>by
  rcases k.new b o v hv with ⟨v',hv'⟩|hb
  ·exact h.new b o v' hv'
  ·exact .inr (Nat.le_trans h.keep.size hb)⟩
theorem SatH.block {H:PH} {w w':World} (h:SatH H w) (e:∀ b o v,H b o=some v->w'.heap[b]? =w.heap[b]?):SatH H w':=⟨fun b o v hv=>by
 rw[World.cell?_of_block (w:=w) (a:=⟨b,o,none⟩) (e b o v hv)]; exact h.cell b o v hv,h.root⟩
theorem SatH.lt {H:PH} {w:World} (h:SatH H w) {b o:Nat} {v:Value} (hv:H b o=some v):b<w.heap.size:=
 World.block_lt_of_cell? w ⟨b,o,none⟩ (h.cell b o v hv).1
theorem qkh {w:World} {b:Nat} {o:Obj} (h:w.heap[b]? =some o):b<w.heap.size:=(Array.getElem?_eq_some_iff.1 h).1
theorem q1l {w w':World} {e:TypeId} {z n:Nat} {v:Value} {xs:List Value} (h:w.ownsRow 0 e z v n xs)
  (hb:∀ b,qcs v=some b->b<w.heap.size->w'.heap[b]? =w.heap[b]?):w'.ownsRow 0 e z v n xs:=by
 refine⟨h.1,?_⟩
 rcases h.2 with h2|⟨g,cap,cur,hv,h0,hg,r⟩
 ·exact .inl h2
 ·refine .inr ⟨g,cap,cur,hv,h0,?_,r⟩
  rw[hb g (by simp[hv,qcs]) (qkh hg)]; exact hg
theorem q30.keep {ρ ρ':List Value} {H H':PH} {w w':World} {v:Value} {o:AObj} (h:q30 ρ H w v o) (hr:ρ <+: ρ') (hH:PH.le H H')
  (hb:∀ b,qcs v=some b->b<w.heap.size->w'.heap[b]? =w.heap[b]?) (hn:∀ b o',qcs v=some b->b<w.heap.size->H b o'=none->H' b o'=none) :
  q30 ρ' H' w' v o:=by
 cases o with
 | dead=>trivial
 | box t cells=>
  obtain⟨b,vs,rfl,hg,hc,hh⟩:=h
  have hlt:=qkh hg
  exact⟨b,vs,rfl,by rw[hb b (by simp[qcs]) hlt]; exact hg,hc.mono hr hH,fun o=>hn b o (by simp[qcs]) hlt (hh o)⟩
 | tail e z n=>
  obtain⟨xs,ho,hh⟩:=h
  refine⟨xs,q1l ho hb,fun b hv=>⟨fun j u hu=>hH _ _ _ ((hh b hv).1 j u hu),fun o hno=>?_⟩⟩
  have hlt:b<w.heap.size:=by
   rcases ho.2 with ⟨rfl,_⟩|⟨g,cap,cur,rfl,_,hg,_⟩
   ·simp[qcs]at hv
   ·simp[qcs]at hv; subst hv; exact qkh hg
  exact hn b o hv hlt ((hh b hv).2 o hno)
 | vec e z rows=>
  obtain⟨xs,ho,hr',h1,hh⟩:=h
  refine⟨xs,q1l ho hb,hr'.mono hH,h1,fun b hv o=>?_⟩
  have hlt:b<w.heap.size:=by
   rcases ho.2 with ⟨rfl,_⟩|⟨g,cap,cur,rfl,_,hg,_⟩
   ·simp[qcs]at hv
   ·simp[qcs]at hv; subst hv; exact qkh hg
  exact hn b o hv hlt (hh b hv o)
 | mp d es mk=>
  obtain⟨b,ents,clock,rfl,hg,hr',⟨h1,h2,h3⟩,hh⟩:=h
  have hlt:=qkh hg
  exact⟨b,ents,clock,rfl,by rw[hb b (by simp[qcs]) hlt]; exact hg,hr'.mono hH,⟨h1,h2,h3.mono hr hH⟩,fun o=>hn b o (by simp[qcs]) hlt (hh o)⟩
 | sit l pos=>
  obtain⟨b,rfl,hg,hh⟩:=h
  have hlt:=qkh hg
  exact⟨b,rfl,by rw[hb b (by simp[qcs]) hlt]; exact hg,fun o=>hn b o (by simp[qcs]) hlt (hh o)⟩
 | bv l=>
  obtain⟨b,cs,e,cap,lo,hi,rfl,hg,h1,h2,hh⟩:=h
  have hlt:=qkh hg
  exact⟨b,cs,e,cap,lo,hi,rfl,by rw[hb b (by simp[qcs]) hlt]; exact hg,h1,h2,fun o=>hn b o (by simp[qcs]) hlt (hh o)⟩
theorem SatW.calm {bs:Base} {ρ:List Value} {H H':PH} {lo:List AObj} {w w':World} (s:SatW bs ρ H lo w) (c:Calm H w H' w'):SatW bs ρ H' lo w' where
 sath:=c.sat
 hlen:=s.hlen
 pre:=s.pre
 objs:=fun k o v hk hv=>(s.objs k o v hk hv).keep (List.prefix_refl _) c.le (fun b _ hb=>c.keep.block b hb id) (fun b o' _ hb hn=>by
  cases hx:H' b o' with
  | none=>rfl
  | some x=>
   rcases c.new b o' x hx with ⟨y,hy⟩|hge
   ·rw[hn]at hy; cases hy
   ·omega)
 excl:=s.excl
 own:=s.own
 keep:=s.keep.step c.keep (fun _ h=>h.elim)
 leH:=s.leH.trans c.le
 newH:=fun b o v hv=>by
  rcases c.new b o v hv with ⟨y,hy⟩|hge
  ·exact s.newH b o y hy
  ·exact .inr (.inr (Nat.le_trans s.keep.size hge))
end Ax
end
section
namespace Ax
open Go
abbrev Env:=List (Nat×FV)
def qb7:Env->Nat->FV
 | [],_=>.top
 | (t',v)::E,t=>match Nat.beq t t' with|true=>v|false=>qb7 E t
def zm7:Env->Nat->(FV->Prop)->Prop
 | [],_,R=>R .top
 | (t',v)::E,t,R=>match Nat.beq t t' with|true=>R v|false=>zm7 E t R
def zmx (v:PV) (R:PV->Prop):Prop:=
 match v with
 | .bool b=>R (.bool b)|.int k n=>R (.int k n)|.str l=>R (.str l)
 | .agg cs=>R (.agg cs)|.tup vs=>R (.tup vs)|.nilsl=>R .nilsl|.sl rows=>R (.sl rows)
 | .nilp=>R .nilp|.fn f=>R (.fn f)|.nilfn=>R .nilfn|.nili=>R .nili|.ifc t v=>R (.ifc t v)|.nilmap=>R .nilmap
def zio (v:FV) (R:FV->Prop):Prop:=
 match v with
 | .top=>R .top
 | .p v=>zmx v fun v=>R (.p v)
 | .opt g v=>R (.opt g v)
 | .tsl k rows=>R (.tsl k rows)
 | .ptr k off=>R (.ptr k off)
 | .hptr row=>R (.hptr row)
 | .bself k=>R (.bself k)
 | .bsl k off len cap=>R (.bsl k off len cap)
 | .vsl k n=>R (.vsl k n)
 | .eptr k z i off=>R (.eptr k z i off)
 | .mref k=>R (.mref k)
 | .pair a b=>R (.pair a b)
 | .stmp k=>R (.stmp k)
 | .clo f c=>R (.clo f c)
 | .cap0=>R .cap0
 | .cap a b=>R (.cap a b)
 | .fagg c=>R (.fagg c)
 | .nxt ok a b=>R (.nxt ok a b)
theorem ziq (v:PV) (R:PV->Prop):zmx v R=R v:=by cases v<;>rfl
theorem zcb (v:FV) (R:FV->Prop):zio v R=R v:=by cases v<;>first|rfl|exact ziq _ (fun v=>R (.p v))
def zpr:Value->Option PV
 | .bool b=>some (.bool b)
 | .int k n=>some (.int k n)
 | .string ⟨⟨l⟩⟩=>some (.str l)
 | .slice none 0 0=>some .nilsl
 | .pointer none=>some .nilp
 | .nilIface=>some .nili
 | .nilFunc=>some .nilfn
 | .map none=>some .nilmap
 | _=>none
def zhp:List Value->(List PV->Prop)->Prop
 | [],R=>R []
 | v::vs,R=>match zpr v with|some p=>zhp vs fun l=>R (p::l)|none=>False
def zqk:Value->FV
 | .tuple ⟨[]⟩=>.p (.tup [])
 | v=>match zpr v with|some p=>.p p|none=>.top
def evF (e:Nat->FV):Operand->FV
 | .tmp t=>e t
 | .const v=>zqk v
 | .func f=>.p (.fn f)
 | .global _=>.top
def ev (E:Env) (x:Operand) (R:FV->Prop):Prop:=
 match x with
 | .tmp t=>zm7 E t R
 | .const v=>zio (zqk v) R
 | .func f=>R (.p (.fn f))
 | .global _=>R .top
abbrev G:=Option Bool
def gOn (g:G):Prop:=match g with|none=>True|some b=>b=true
def gI (g:G) (p:Prop):Prop:=match g with|none=>p|some b=>b=true->p
def evS (E:Env) (g:G) (x:Operand) (R:FV->Prop):Prop:=
 ev E x fun v=>match v with
 | .opt g' v'=>gI g (g'=true)/\R v'
 | v=>R v
def zqa:List FV->FV
 | []=>.cap0
 | v::l=>.cap v (zqa l)
def q02:FV->(List FV->Prop)->Prop
 | .cap0,R=>R []
 | .cap a b,R=>q02 b fun l=>R (a::l)
 | _,_=>False
def q2y {α:Type}:Nat->List α->(List α->Prop)->Prop
 | 0,_,R=>R []
 | n+1,l,R=>match l with|[]=>False|a::l=>q2y n l fun l=>R (a::l)
def q4h {α:Type}:Nat->List α->(List α->Prop)->Prop
 | 0,l,R=>R l
 | n+1,l,R=>match l with|[]=>False|_::l=>q4h n l R
def qy6 {α:Type}:Nat->List α->(α->Prop)->Prop
 | 0,l,R=>match l with|[]=>False|a::_=>R a
 | n+1,l,R=>match l with|[]=>False|_::l=>qy6 n l R
def q4u {α:Type}:Nat->α->List α->(List α->Prop)->Prop
 | 0,x,l,R=>match l with|[]=>False|_::l=>R (x::l)
 | n+1,x,l,R=>match l with|[]=>False|a::l=>q4u n x l fun l=>R (a::l)
def q0d {α:Type}:List α->α->(List α->Prop)->Prop
 | [],x,R=>R [x]
 | a::l,x,R=>q0d l x fun l=>R (a::l)
def q4r {α:Type}:List α->Nat->(Nat->Prop)->Prop
 | [],n,R=>R n
 | _::l,n,R=>q4r l (n+1) R
def zg4 (P:Program) (t:TypeId):Nat:=match P.info? t with|some i=>i.size|none=>0
def znh:TypeDesc->Bool
 | .struct _|.array _ _=>true
 | _=>false
def qvv (P:Program) (t:TypeId) (R:Bool->Nat->Prop):Prop:=
 match P.underlying t with
 | some d=>match P.info? t with
  | some i=>R (znh d) i.size
  | none=>False
 | none=>False
def q8n (P:Program) (t:TypeId) (f:Nat) (R:Nat->TypeId->Prop):Prop:=
 match P.underlying t with
 | some (.struct ⟨fs⟩)=>qy6 f fs fun x=>match P.info? x.type with
  | some i=>match Nat.beq i.size 0 with|true=>False|false=>R x.offset x.type
  | none=>False
 | _=>False
def zir (v:FV) (R:PV->Prop):Prop:=
 match v with
 | .p v=>R v
 | .tsl _ rows=>R (.sl rows)
 | _=>False
def zhn:List FV->(List PV->Prop)->Prop
 | [],R=>R []
 | v::l,R=>zir v fun v=>zhn l fun l=>R (v::l)
def evL (E:Env) (g:G):List Operand->(List FV->Prop)->Prop
 | [],R=>R []
 | x::l,R=>evS E g x fun v=>evL E g l fun l=>R (v::l)
def q1g:Int:=9223372036854775807
def zrc (op:BinOp) (k:IntKind) (a b:Int) (R:PV->Prop):Prop:=
 match op with
 | .add=>R (.int k (k.wrap (a+b)))
 | .sub=>R (.int k (k.wrap (a - b)))
 | .mul=>R (.int k (k.wrap (a * b)))
 | .eql=>R (.bool (a==b))
 | .neq=>R (.bool (a != b))
 | .lss=>R (.bool (decide (a<b)))
 | .leq=>R (.bool (decide (a<=b)))
 | .gtr=>R (.bool (decide (a>b)))
 | .geq=>R (.bool (decide (a≥b)))
 | .and=>R (.int k (k.wrap (BitVec.ofInt k.bits a &&& BitVec.ofInt k.bits b).toNat))
 | .or=>R (.int k (k.wrap (BitVec.ofInt k.bits a ||| BitVec.ofInt k.bits b).toNat))
 | .xor=>R (.int k (k.wrap (BitVec.ofInt k.bits a ^^^ BitVec.ofInt k.bits b).toNat))
 | _=>False
def zrd (g:G) (op:BinOp) (a b:List UInt8) (R:PV->Prop):Prop:=
 match op with
 | .add=>gI g (((a.length+b.length:Nat):Int)<=q1g)/\R (.str (a++b))
 | .eql=>R (.bool (a==b))
 | .neq=>R (.bool (!(a==b)))
 | .lss=>R (.bool (Op.bytesLess a b))
 | .leq=>R (.bool (Op.bytesLess a b||a==b))
 | .gtr=>R (.bool (!(Op.bytesLess a b||a==b)))
 | .geq=>R (.bool (!(Op.bytesLess a b)))
 | _=>False
def zrb (op:BinOp) (a b:Bool) (R:PV->Prop):Prop:=
 match op with
 | .eql=>R (.bool (a==b))
 | .neq=>R (.bool (!(a==b)))
 | _=>False
def zi4 (P:Program) (t:TypeId) (R:Prop):Prop:=
 match P.underlying t with
 | some .bool=>R
 | _=>False
def q8s:IntKind->IntKind->Bool
 | .i8,.i8|.i16,.i16|.i32,.i32|.i64,.i64|.u8,.u8|.u16,.u16|.u32,.u32|.u64,.u64=>true
 | _,_=>false
theorem qtd {k k':IntKind} (h:q8s k k'=true):k=k':=by cases k<;>cases k'<;>first|rfl|cases h
def zqz (P:Program) (g:G) (op:BinOp) (t:TypeId) (x y:FV) (R:FV->Prop):Prop:=
 match x with
 | .p (.int k a)=>match y with
  | .p (.int k' b)=>match op with
   | .shl=>gI g (0<=b)/\R (.p (.int k (k.wrap (a * 2 ^ (min b.toNat k.bits)))))
   | .shr=>gI g (0<=b)/\R (.p (.int k (a.fdiv (2 ^ (min b.toNat k.bits)))))
   | .quo=>match q8s k k' with|true=>gI g (b≠0)/\R (.p (.int k (k.wrap (a.tdiv b))))|false=>False
   | .rem=>match q8s k k' with|true=>gI g (b≠0)/\R (.p (.int k (a.tmod b)))|false=>False
   | op=>match q8s k k' with|true=>zrc op k a b fun v=>R (.p v)|false=>False
  | _=>False
 | .p (.str a)=>match y with
  | .p (.str b)=>zrd g op a b fun v=>R (.p v)
  | _=>False
 | .p (.bool a)=>match y with
  | .p (.bool b)=>zi4 P t (zrb op a b fun v=>R (.p v))
  | _=>False
 | _=>False
def zja (P:Program) (t:TypeId) (x:FV) (f:Nat) (R:FV->Prop):Prop:=
 match x with
 | .ptr k off=>q8n P t f fun o _=>R (.ptr k (off+o))
 | .hptr row=>q8n P t f fun o _=>q4h o row fun r=>R (.hptr r)
 | .eptr k z i off=>q8n P t f fun o _=>R (.eptr k z i (off+o))
 | _=>False
def znu (P:Program) (t:TypeId) (x:FV) (f:Nat) (R:FV->Prop):Prop:=
 match x with
 | .p (.agg cs)=>q8n P t f fun o u=>q4h o cs fun r=>qvv P u fun agg n=>match agg with
  | true=>q2y n r fun r=>R (.p (.agg r))
  | false=>match r with|c::_=>R (.p c)|[]=>False
 | _=>False
def q59 (P:Program) (t:TypeId) (R:TypeId->Nat->Prop):Prop:=
 match P.underlying t with
 | some (.slice e)=>match P.info? e with|some i=>R e i.size|none=>False
 | _=>False
def q2l (P:Program) (g:G) (t:TypeId) (x i:FV) (R:FV->Prop):Prop:=
 match x,i with
 | .p (.sl rows),.p (.int _ i)=>q59 P t fun _ z=>∃ row,gI g (0<=i/\rows[i.toNat]? =some row/\row.length=z)/\R (.hptr row)
 | .tsl _ rows,.p (.int _ i)=>q59 P t fun _ z=>∃ row,gI g (0<=i/\rows[i.toNat]? =some row/\row.length=z)/\R (.hptr row)
 | .ptr k off,.p (.int _ i)=>match P.underlying t with
  | some (.array n e)=>match P.info? e with
   | some ti=>gI g (0<=i/\i<n)/\R (.ptr k (off+i.toNat * ti.size))
   | none=>False
  | _=>False
 | .vsl k n,.p (.int _ i)=>q59 P t fun _ z=>∃ j:Nat,gI g (i=j/\j<n)/\R (.eptr k z j 0)
 | _,_=>False
def zjb (P:Program) (g:G) (t:TypeId) (x i:FV) (R:FV->Prop):Prop:=
 match x,i with
 | .p (.str l),.p (.int _ i)=>match P.underlying t with
  | some .string=>∃ b,gI g (0<=i/\l[i.toNat]? =some b)/\R (.p (.int .u8 b.toNat))
  | _=>False
 | .p (.agg cs),.p (.int _ i)=>match P.underlying t with
  | some (.array n e)=>qvv P e fun agg z=>match agg with
   | false=>match Nat.beq z 1 with
    | true=>∃ c,gI g (0<=i/\i<n/\cs[i.toNat]? =some c)/\R (.p c)
    | false=>False
   | true=>∃ c,gI g (0<=i/\i<n/\(cs.drop (i.toNat * z)).take z=c)/\R (.p (.agg c))
  | _=>False
 | _,_=>False
def qy1 (E:Env) (g:G) (x:Option Operand) (d:Nat) (R:Nat->Prop):Prop:=
 match x with
 | none=>R d
 | some x=>evS E g x fun v=>match v with
  | .p (.int _ i)=>∃ n:Nat,gI g (i=n)/\R n
  | _=>False
def zjg (P:Program) (E:Env) (g:G) (t:TypeId) (x:FV) (lo hi mx:Option Operand) (R:FV->Prop):Prop:=
 match mx with
 | some _=>False
 | none=>match x with
  | .p (.str l)=>match P.underlying t with
   | some .string=>qy1 E g hi l.length fun h=>qy1 E g lo 0 fun a=>gI g (a<=h/\h<=l.length)/\R (.p (.str ((l.take h).drop a)))
   | _=>False
  | .p (.sl rows)=>match P.underlying t with
   | some (.slice e)=>match P.info? e with
    | some i=>qy1 E g hi rows.length fun h=>qy1 E g lo 0 fun a=>gI g (a<=h/\h<=rows.length/\∀ r∈rows,r.length=i.size)/\R (.p (.sl ((rows.take h).drop a)))
    | none=>False
   | _=>False
  | .tsl _ rows=>match P.underlying t with
   | some (.slice e)=>match P.info? e with
    | some i=>qy1 E g hi rows.length fun h=>qy1 E g lo 0 fun a=>gI g (a<=h/\h<=rows.length/\∀ r∈rows,r.length=i.size)/\R (.p (.sl ((rows.take h).drop a)))
    | none=>False
   | _=>False
  | .ptr k off=>match P.underlying t with
   | some (.array n e)=>match P.info? e with
    | some i=>match Nat.beq i.size 1 with
     | true=>qy1 E g hi n fun h=>qy1 E g lo 0 fun a=>gI g (a<=h/\h<=n/\a<n)/\R (.bsl k (off+a) (h - a) (n - a))
     | false=>False
    | none=>False
   | _=>False
  | _=>False
def zq0 (P:Program) (t:TypeId) (x:FV) (R:FV->Prop):Prop:=
 match x with
 | .p (.str l)=>match P.underlying t with|some .string=>R (.p (.int .i64 l.length))|_=>False
 | .p (.sl rows)=>match P.underlying t with|some (.slice _)=>R (.p (.int .i64 rows.length))|_=>False
 | .tsl _ rows=>match P.underlying t with|some (.slice _)=>R (.p (.int .i64 rows.length))|_=>False
 | .bsl _ _ n _=>match P.underlying t with|some (.slice _)=>R (.p (.int .i64 n))|_=>False
 | .vsl _ n=>match P.underlying t with|some (.slice _)=>R (.p (.int .i64 n))|_=>False
 | .p .nilsl=>match P.underlying t with|some (.slice _)=>R (.p (.int .i64 0))|_=>False
 | _=>False
def zas (P:Program) (src dst:TypeId) (x:FV) (R:FV->Prop):Prop:=
 match x with
 | .p (.int _ n)=>match P.underlying src with
  | some (.int _)=>match P.underlying dst with
   | some (.int k)=>R (.p (.int k (k.wrap n)))
   | _=>False
  | _=>False
 | .p (.str l)=>match P.underlying src with
  | some .string=>match P.underlying dst with
   | some .string=>R (.p (.str l))
   | _=>False
  | _=>False
 | _=>False
def qea (l:List UInt8):List (List PV):=l.map fun b=>[.int .u8 b.toNat]
def u8T (P:Program) (src dst:TypeId) (R:Prop):Prop:=
 match P.underlying src with
 | some (.slice e)=>match P.underlying e with
  | some (.int .u8)=>match P.underlying dst with
   | some .string=>R
   | _=>False
  | _=>False
 | _=>False
def zra (P:Program) (src dst:TypeId) (n:Nat) (t:TypeId) (R:Prop):Prop:=
 match P.underlying src with
 | some (.pointer u)=>match P.underlying dst with
  | some .unsafePointer=>match P.info? u with
   | some i=>(i.size≠0/\0<n)/\R
   | none=>False
  | _=>False
 | some .unsafePointer=>match P.underlying dst with
  | some (.pointer u)=>match P.info? u with
   | some _=>liesAt P P.depth t (n / P.cellsOf t) 0 u 1=true/\R
   | none=>False
  | _=>False
 | _=>False
def q6f (P:Program) (g:G) (src dst:TypeId) (lo:List AObj) (x:FV) (R:FV->Prop):Prop:=
 match x with
 | .p (.sl rows)=>u8T P src dst (∃ l,gI g (rows=qea l)/\R (.p (.str l)))
 | .tsl _ rows=>u8T P src dst (∃ l,gI g (rows=qea l)/\R (.p (.str l)))
 | .p .nilsl=>u8T P src dst (R (.p (.str [])))
 | .bsl k off n _=>u8T P src dst (qy6 k lo fun o=>match o with
   | .box _ cells=>q4h off cells fun cs=>q2y n cs fun cs=>zhn cs fun ps=>∃ l:List UInt8,gI g (ps=l.map fun b=>PV.int .u8 b.toNat)/\R (.p (.str l))
   | _=>False)
 | .ptr k off=>match Nat.beq off 0 with
  | true=>qy6 k lo fun o=>match o with
   | .box t cells=>zra P src dst cells.length t (R (.ptr k 0))
   | _=>False
  | false=>False
 | .vsl k n=>u8T P src dst (qy6 k lo fun o=>match o with
   | .bv l=>gI g (n=l.length)/\R (.p (.str l))
   | _=>False)
 | x=>zas P src dst x R
def q0h (P:Program) (H:PH) (w:World) (r:PV):Result Next->Prop
 | .ok (.value v) w'=>∃ H',Calm H w H' w'/\qcp H' r v
 | .ok (.enter f args) w'=>w'=w/\Calls P f args w fun e w''=>∃ v H',e=.returned v/\Calm H w H' w''/\qcp H' r v
 | _=>False
def qae (P:Program) (f:FuncId) (args:List PV) (r:PV):Prop:=
 ∀ (H:PH) (w:World) (vs:List Value),SatH H w->qec H args vs->q0h P H w r ((callFunc f vs.toArray).run P w)
def zc5 (E:Env) (g:G):Nat->List (Nat×Operand)->(List PV->Prop)->Prop
 | _,[],R=>R []
 | k,(i,x)::l,R=>match Nat.beq i k with
  | true=>evS E g x fun v=>zir v fun p=>zc5 E g (k+1) l fun ps=>R (p::ps)
  | false=>False
def zb2 (p:PV) (R:List PV->Prop):Prop:=
 match p with
 | .agg cs=>R cs
 | .tup _=>False
 | p=>R [p]
def zmg:List PV->(List (List PV)->Prop)->Prop
 | [],R=>R []
 | p::ps,R=>zb2 p fun c=>zmg ps fun rs=>R (c::rs)
def zj6:PV->Bool
 | .agg _|.tup _=>false
 | _=>true
def qpd (P:Program) (E:Env) (g:G) (t:TypeId) (n:Nat) (parts:List (Nat×Operand)) (R:FV->Prop):Prop:=
 q59 P t fun e z=>match Nat.beq parts.length n with
  | true=>match Nat.ble 1 n with
   | true=>match Nat.ble 1 z with
    | true=>match Nat.ble (n * z) 16777216 with
     | true=>match P.info? e with
      | some i=>match i.zero with
       | some _=>zc5 E g 0 parts fun ps=>zmg ps fun rows=>(∀ r∈rows,r.length=z/\r.all zj6=true)/\∃ rows',(rows=rows'\/zc1 rows rows')/\R (.p (.sl rows'))
       | none=>False
      | none=>False
     | false=>False
    | false=>False
   | false=>False
  | false=>False
def q6u:Nat->List PV->List PV->(List PV->Prop)->Prop
 | 0,[],old,R=>R old
 | 0,v::vs,old,R=>match old with|[]=>False|_::old=>q6u 0 vs old fun l=>R (v::l)
 | n+1,vs,old,R=>match old with|[]=>False|a::old=>q6u n vs old fun l=>R (a::l)
def zll (P:Program) (E:Env) (g:G) (fs:List Field):List (Nat×Operand)->List PV->(List PV->Prop)->Prop
 | [],cs,R=>R cs
 | (i,x)::l,cs,R=>qy6 i fs fun f=>match P.info? f.type with
  | some ti=>evS E g x fun v=>zir v fun p=>zb2 p fun c=>match Nat.beq c.length ti.size with
   | true=>q6u f.offset c cs fun cs=>zll P E g fs l cs R
   | false=>False
  | none=>False
def zch (P:Program):List Field->Bool
 | []=>true
 | f::fs=>match P.info? f.type with|some _=>zch P fs|none=>false
def zi7 (P:Program) (E:Env) (g:G) (t:TypeId) (parts:List (Nat×Operand)) (R:FV->Prop):Prop:=
 match P.info? t with
 | some i=>match i.zero with
  | some (.agg ⟨vs⟩)=>zhp vs fun zs=>match P.underlying t with
   | some (.struct ⟨fs⟩)=>match zch P fs with
    | true=>zll P E g fs parts zs fun cs=>R (.p (.agg cs))
    | false=>False
   | some (.array _ e)=>match P.info? e with
    | some ei=>match Nat.beq ei.size 1 with
     | true=>zc5 E g 0 parts fun ps=>ps.length=vs.length/\(∀ c∈ps,zj6 c=true)/\R (.p (.agg ps))
     | false=>False
    | none=>False
   | _=>False
  | _=>False
 | none=>False
def zpn (P:Program) (op:BinOp) (t:TypeId) (x y:FV) (R:FV->Prop):Prop:=
 match P.underlying t with
 | some (.pointer e)=>match P.info? e with
  | some _=>match op with
   | .eql=>match x,y with
    | .p .nilp,.p .nilp=>R (.p (.bool true))
    | .ptr _ _,.p .nilp=>R (.p (.bool false))
    | .hptr _,.p .nilp=>R (.p (.bool false))
    | _,_=>False
   | .neq=>match x,y with
    | .p .nilp,.p .nilp=>R (.p (.bool false))
    | .ptr _ _,.p .nilp=>R (.p (.bool true))
    | .hptr _,.p .nilp=>R (.p (.bool true))
    | .ptr k off,.ptr k' off'=>match Nat.beq k k' with
     | true=>match Nat.beq off off' with
      | true=>R (.p (.bool false))
      | false=>False
     | false=>False
    | _,_=>False
   | _=>False
  | none=>False
 | _=>False
def zai (E:Env):List (Nat×Operand)->Prop->Prop->Prop
 | [],_,no=>no
 | (_,x)::l,yes,no=>ev E x fun v=>match v with
  | .mref _=>yes
  | .ptr _ _=>yes
  | .clo _ _=>yes
  | _=>zai E l yes no
def zm9:List PV->(List FV->Prop)->Prop
 | [],R=>R []
 | c::cs,R=>zm9 cs fun l=>R (.p c::l)
def qxc:Nat->List FV->List FV->(List FV->Prop)->Prop
 | 0,[],old,R=>R old
 | 0,v::vs,old,R=>match old with|[]=>False|_::old=>qxc 0 vs old fun l=>R (v::l)
 | n+1,vs,old,R=>match old with|[]=>False|a::old=>qxc n vs old fun l=>R (a::l)
def znl (v:FV) (R:List FV->Prop):Prop:=
 match v with
 | .p p=>zb2 p fun cs=>zm9 cs R
 | .tsl k rows=>R [.tsl k rows]
 | .mref k=>R [.mref k]
 | .ptr k o=>R [.ptr k o]
 | .clo f c=>R [.clo f c]
 | _=>False
def zlk (P:Program) (E:Env) (g:G) (fs:List Field):List (Nat×Operand)->List FV->(List FV->Prop)->Prop
 | [],cs,R=>R cs
 | (i,x)::l,cs,R=>qy6 i fs fun f=>match P.info? f.type with
  | some ti=>evS E g x fun v=>znl v fun c=>match Nat.beq c.length ti.size with
   | true=>qxc f.offset c cs fun cs=>zlk P E g fs l cs R
   | false=>False
  | none=>False
def zaq (P:Program) (E:Env) (g:G) (t:TypeId) (parts:List (Nat×Operand)) (R:FV->Prop):Prop:=
 match P.info? t with
 | some i=>match i.zero with
  | some (.agg ⟨vs⟩)=>zhp vs fun zs=>zm9 zs fun zs=>match P.underlying t with
   | some (.struct ⟨fs⟩)=>match zch P fs with
    | true=>zlk P E g fs parts zs fun cs=>R (.fagg (zqa cs))
    | false=>False
   | _=>False
  | _=>False
 | none=>False
def zh7:FV->(List PV->Prop)->Prop
 | .cap0,R=>R []
 | .cap a b,R=>zir a fun p=>zh7 b fun l=>R (p::l)
 | _,_=>False
def zfb (P:Program) (t:TypeId) (m:String) (f:FuncId):Prop:=∀ v w,(method (P.types.size+Made.depth) t v m).run P w=.ok (f,v) w
def zjf (P:Program) (op:Op) (E:Env) (g:G) (R:FV->Prop):Prop:=
 match op with
 | .makeFunc (.func f) ⟨[]⟩ ⟨xs⟩=>match xs with
  | []=>R (.p (.fn f))
  | x::xs=>evL E g (x::xs) fun vs=>R (.clo f (zqa vs))
 | .call { callee:=.value (.tmp t),args:=⟨xs⟩,argTypes:=_ }=>evS E g (.tmp t) fun fv=>evL E g xs fun vs=>zhn vs fun args=>match fv with
  | .p (.fn f)=>∃ r,gI g (qae P f args r)/\R (.p r)
  | .clo f c=>zh7 c fun cs=>∃ r,gI g (qae P f (args++cs) r)/\R (.p r)
  | _=>False
 | .call { callee:=.invoke r m,args:=⟨xs⟩,argTypes:=_ }=>evS E g r fun rv=>evL E g xs fun vs=>zhn vs fun args=>match rv with
  | .p (.ifc t v)=>∃ f r,gI g (zfb P t m f/\qae P f (v::args) r)/\R (.p r)
  | _=>False
 | _=>False
def zlp (P:Program) (op:Op) (E:Env) (g:G) (R:FV->Prop):Prop:=
 match op with
 | .move x=>match g with|none=>ev E x R|some g=>evS E (some g) x R
 | .assign x=>match g with|none=>ev E x R|some g=>evS E (some g) x R
 | .pick c a b=>evS E g c fun c=>match c with
  | .p (.bool c)=>match g with
   | none=>evS E (some c) a fun a=>evS E (some (!c)) b fun b=>match a,b with
    | .p (.bool a),.p (.bool b)=>R (.p (.bool (bif c then a else b)))
    | _,_=>False
   | some g=>evS E (some (g&&c)) a fun a=>evS E (some (g&&!c)) b fun b=>match a,b with
    | .p (.bool a),.p (.bool b)=>R (.p (.bool (bif c then a else b)))
    | _,_=>False
  | _=>False
 | .fieldAddr t x f=>evS E g x fun x=>zja P t x f R
 | .field t x f=>evS E g x fun x=>znu P t x f R
 | .indexAddr t x i=>evS E g x fun x=>evS E g i fun i=>q2l P g t x i R
 | .index t x i=>evS E g x fun x=>evS E g i fun i=>zjb P g t x i R
 | .binOp op t x y _=>evS E g x fun x=>evS E g y fun y=>match x with
  | .ptr k off=>zpn P op t (.ptr k off) y R
  | .hptr row=>zpn P op t (.hptr row) y R
  | .p .nilp=>zpn P op t (.p .nilp) y R
  | x=>zqz P g op t x y R
 | .unOp .not _ x=>evS E g x fun x=>match x with|.p (.bool b)=>R (.p (.bool (!b)))|_=>False
 | .unOp .neg _ x=>evS E g x fun x=>match x with|.p (.int k n)=>R (.p (.int k (k.wrap (0 - n))))|_=>False
 | .nilCheck x=>evS E g x fun x=>match x with
  | .ptr k off=>R (.ptr k off)
  | .hptr row=>R (.hptr row)
  | .eptr k z i off=>R (.eptr k z i off)
  | _=>False
 | .slice t x lo hi mx=>evS E g x fun x=>zjg P E g t x lo hi mx R
 | .buildSlice t n ⟨parts⟩=>qpd P E g t n parts R
 | .build t ⟨parts⟩=>zai E parts (zaq P E g t parts R) (zi7 P E g t parts R)
 | .extract x i=>evS E g x fun x=>match x with
  | .p (.tup vs)=>qy6 i vs fun v=>R (.p v)
  | .pair a b=>match i with|0=>R a|1=>R b|_=>False
  | .nxt ok a b=>match i with|0=>R (.p (.bool ok))|1=>gI g (ok=true)/\R (.p a)|2=>gI g (ok=true)/\R (.p b)|_=>False
  | _=>False
 | .makeInterface t x=>evS E g x fun x=>zir x fun v=>match P.underlying t with
  | some (.interface _)=>False
  | some _=>R (.p (.ifc t v))
  | none=>False
 | .call { callee:=.builtin .len,args:=⟨[x]⟩,argTypes:=⟨[t]⟩ }=>evS E g x fun x=>zq0 P t x R
 | .call { callee:=.value (.func f),args:=⟨xs⟩,argTypes:=_ }=>
   evL E g xs fun vs=>zhn vs fun args=>∃ r,gI g (qae P f args r)/\R (.p r)
 | op=>zjf P op E g R
def qw5 (P:Program) (t:TypeId) (lo:List AObj) (x:FV) (R:FV->Prop):Prop:=
 match x with
 | .ptr k off=>qy6 k lo fun o=>match o with
  | .box _ cells=>q4h off cells fun cs=>qvv P t fun agg n=>match agg with
   | true=>q2y n cs fun cs=>zhn cs fun l=>R (.p (.agg l))
   | false=>match cs with|c::_=>R c|[]=>False
  | _=>False
 | .hptr row=>qvv P t fun agg n=>match agg with
  | true=>q2y n row fun r=>R (.p (.agg r))
  | false=>match row with|c::_=>R (.p c)|[]=>False
 | _=>False
def q6e:Op->Bool
 | .load _ _=>true
 | .convert _ _ _=>true
 | .lookup _ _ _ _=>true
 | _=>false
def qw4:Op->Bool
 | .box _ _|.alloc _|.store _ _ _|.makeMap _ _|.mapUpdate _ _ _ _|.insert _ _ _ _|.range _ _|.next _ _=>true
 | .call { callee:=.builtin .append,.. }=>true
 | .call { callee:=.builtin .clear,.. }=>true
 | _=>false
def zhq:FV->Bool
 | .p (.agg _)|.p (.tup _)|.top|.opt _ _|.pair _ _|.stmp _|.cap0|.cap _ _|.fagg _|.nxt _ _ _=>false
 | _=>true
def zou (P:Program) (t:TypeId) (R:List PV->Prop):Prop:=
 match P.info? t with
 | some i=>match i.zero with
  | some (.agg ⟨vs⟩)=>zhp vs R
  | some v=>zhp [v] R
  | none=>False
 | none=>False
def qy2 (v:FV) (R:List FV->Prop):Prop:=
 match v with
 | .p (.agg cs)=>zm9 cs R
 | .fagg c=>q02 c R
 | v=>match zhq v with|true=>R [v]|false=>False
def q24:List FV->Bool
 | []=>true
 | v::l=>match zhq v with|true=>q24 l|false=>false
def zkh (x:FV) (R:List (List PV)->Prop):Prop:=
 match x with
 | .p (.sl rows)=>R rows
 | .tsl _ rows=>R rows
 | .p .nilsl=>R []
 | _=>False
def zk4:PV->PV->Bool
 | .str a,.str b=>a==b
 | .int _ a,.int _ b=>a==b
 | .bool a,.bool b=>a==b
 | _,_=>false
def q4k (k:PV):List (PV×PV)->Option PV
 | []=>none
 | (k',v)::es=>bif zk4 k k' then some v else q4k k es
def zk5 (k v:PV):List (PV×PV)->List (PV×PV)
 | []=>[(k,v)]
 | (k',v')::es=>bif zk4 k k' then(k,v)::es else(k',v')::zk5 k v es
def zen (d' d:TypeDesc) (kp:PV) (R:Prop):Prop:=
 match d',d,kp with
 | .string,.string,.str _=>R
 | .bool,.bool,.bool _=>R
 | .int k,.int k',.int k'' _=>match q8s k k' with
  | true=>match q8s k k'' with
   | true=>R
   | false=>False
  | false=>False
 | _,_,_=>False
def zq1 (d:TypeDesc) (R:Prop):Prop:=
 match d with
 | .string=>R
 | .bool=>R
 | .int _=>R
 | _=>False
def zm8 (P:Program) (t:TypeId) (d:TypeDesc) (kp:PV) (R:TypeId->Prop):Prop:=
 match P.underlying t with
 | some (.map kt et)=>match P.underlying kt with
  | some d'=>zen d' d kp (R et)
  | none=>False
 | _=>False
def zdo (P:Program) (t:TypeId) (R:PV->Prop):Prop:=
 match P.info? t with
 | some i=>match i.zero with
  | some (.agg ⟨vs⟩)=>zhp vs fun l=>R (.agg l)
  | some v=>match zpr v with|some p=>R p|none=>False
  | none=>False
 | none=>False
def qvk (P:Program) (g:G) (t:TypeId) (lo:List AObj) (x key:FV) (ok:Bool) (R:FV->Prop):Prop:=
 match x,key with
 | .mref k,.p kp=>qy6 k lo fun o=>match o with
  | .mp d es _=>zm8 P t d kp fun et=>zdo P et fun z=>∃ v b,gI g ((q4k kp es).getD z=v/\(q4k kp es).isSome=b)/\R (match ok with|false=>.p v|true=>.p (.tup [v,.bool b]))
  | _=>False
 | _,_=>False
def znt (P:Program) (t:TypeId) (lo:List AObj) (x:FV) (R:FV->Prop):Prop:=
 match x with
 | .mref k=>qy6 k lo fun o=>match o with
  | .mp _ es _=>match P.underlying t with
   | some (.map _ _)=>∃ n:Nat,es.length=n/\R (.p (.int .i64 n))
   | _=>False
  | _=>False
 | _=>False
def zau (P:Program) (E:Env) (lo:List AObj) (t:TypeId) (m k x:Operand) (R:FV->List AObj->Prop):Prop:=
 evS E none m fun m=>evS E none k fun k=>evS E none x fun x=>zir x fun vp=>match m,k with
  | .mref j,.p kp=>qy6 j lo fun o=>match o with
   | .mp d es _=>zm8 P t d kp fun _=>∃ es',zk5 kp vp es=es'/\q4u j (.mp d es' none) lo fun lo=>R (.p (.tup [])) lo
   | _=>False
  | _,_=>False
def qor (l:List UInt8) (i:Nat):Nat:=(Utf8.decode ⟨l.toArray⟩ i).1
def q0c (l:List UInt8) (i:Nat):Nat:=i+(Utf8.decode ⟨l.toArray⟩ i).2
def zns (P:Program) (op:Op) (E:Env) (lo:List AObj) (R:FV->List AObj->Prop):Prop:=
 match op with
 | .range t x=>evS E none x fun x=>match x with
  | .p (.str l)=>match P.underlying t with
   | some .string=>q4r lo 0 fun n=>q0d lo (.sit l 0) fun lo=>R (.ptr n 0) lo
   | _=>False
  | _=>False
 | .next x true=>evS E none x fun x=>match x with
  | .ptr k 0=>qy6 k lo fun o=>match o with
   | .sit l pos=>∃ ok p',(decide (pos<l.length)=ok/\(bif ok then q0c l pos else pos)=p')/\q4u k (.sit l p') lo fun lo=>R (.nxt ok (.int .i64 pos) (.int .i32 (qor l pos))) lo
   | _=>False
  | _=>False
 | .makeMap t none=>match P.underlying t with
  | some (.map kt _)=>match P.underlying kt with
   | some d=>zq1 d (q4r lo 0 fun n=>q0d lo (.mp d [] none) fun lo=>R (.mref n) lo)
   | none=>False
  | _=>False
 | .mapUpdate t m k x=>zau P E lo t m k x R
 | .insert t m k x=>zau P E lo t m k x R
 | .call { callee:=.builtin .clear,args:=⟨[x]⟩,argTypes:=⟨[t]⟩ }=>evS E none x fun x=>match x with
  | .mref k=>qy6 k lo fun o=>match o with
   | .mp d _ _=>match P.underlying t with
    | some (.map _ _)=>q4u k (.mp d [] none) lo fun lo=>R (.p (.tup [])) lo
    | _=>False
   | _=>False
  | _=>False
 | _=>False
def zem (P:Program) (t:TypeId) (lo:List AObj) (k z i off:Nat) (x:FV) (R:FV->List AObj->Prop):Prop:=
 qy2 x fun vs=>zhn vs fun ps=>q4r ps 0 fun n=>qvv P t fun _ m=>match Nat.beq n m with
  | true=>qy6 k lo fun o=>match o with
   | .vec e z' rows=>∃ row,(z'=z/\rows[i]? =some row/\ps.all zj6=true)/\q6u off ps row fun row'=>∃ rows',rows.set i row'=rows'/\q4u k (.vec e z' rows') lo fun lo=>R (.p (.tup [])) lo
   | .bv l=>match ps with
    | [.int .u8 n]=>∃ (c:UInt8) (l':List UInt8),(z=1/\off=0/\i<l.length/\n=(c.toNat:Int)/\l.set i c=l')/\q4u k (.bv l') lo fun lo=>R (.p (.tup [])) lo
    | _=>False
   | _=>False
  | false=>False
def zjd (P:Program) (t:TypeId) (lo:List AObj) (k z i off:Nat) (R:FV->Prop):Prop:=
 qy6 k lo fun o=>match o with
  | .vec _ z' rows=>∃ row,(z'=z/\rows[i]? =some row)/\q4h off row fun cs=>qvv P t fun agg n=>match agg with
   | true=>q2y n cs fun l=>R (.p (.agg l))
   | false=>match cs with|c::_=>R (.p c)|[]=>False
  | .bv l=>qvv P t fun agg _=>match agg with
   | true=>False
   | false=>∃ c:UInt8,(z=1/\off=0/\l[i]? =some c)/\R (.p (.int .u8 c.toNat))
  | _=>False
def zi8 (P:Program) (src dst:TypeId) (lo:List AObj) (x:FV) (R:FV->List AObj->Prop):Prop:=
 match x with
 | .p (.str l)=>match P.underlying src with
  | some _=>match P.underlying dst with
   | some (.slice e)=>match P.underlying e with
    | some (.int .u8)=>q4r lo 0 fun n=>q0d lo (.bv l) fun lo=>R (.vsl n l.length) lo
    | _=>False
   | _=>False
  | none=>False
 | _=>False
def zfr (P:Program) (t:TypeId) (lo:List AObj) (k0:Nat) (news:List (List PV)) (R:FV->List AObj->Prop):Prop:=
 q59 P t fun e z=>match Nat.beq z 0 with
 | true=>False
 | false=>match P.info? e with
  | some i=>match i.zero with
   | some zv=>match Nat.beq zv.cells.size z with
    | true=>qy6 k0 lo fun o=>match o with
     | .vec e' z' rows=>∃ rows',(rows++news=rows'/\e'=e/\z'=z/\(∀ r∈news,r.length=z)/\rows'.length * i.bytes<=140737488355328/\rows'.length<=9223372036854775807) /\
       q4u k0 .dead lo fun lo=>q4r lo 0 fun k=>q0d lo (.vec e z rows') fun lo=>R (.vsl k rows'.length) lo
     | _=>False
    | false=>False
   | none=>False
  | none=>False
def zea (P:Program) (E:Env) (lo:List AObj) (t:TypeId) (n:Nat) (parts:List (Nat×Operand)) (R:FV->List AObj->Prop):Prop:=
 q59 P t fun e z=>qpd P E none t n parts fun v=>match v with
  | .p (.sl rows)=>q4r lo 0 fun k=>q0d lo (.vec e z rows) fun lo=>R (.vsl k rows.length) lo
  | _=>False
def zaz:List Nat->Nat->Bool
 | [],_=>false
 | a::l,f=>match Nat.beq f a with|true=>true|false=>zaz l f
def zd9 (P:Program) (E:Env) (lo:List AObj) (t:TypeId) (n:Nat) (parts:List (Nat×Operand)) (R:FV->List AObj->Prop):Prop:=
 q59 P t fun e z=>qpd P E none t n parts fun v=>match v with
  | .p (.sl rows)=>q4r lo 0 fun k=>q0d lo (.tail e z rows.length) fun lo=>R (.tsl k rows) lo
  | _=>False
def znp (inl:List Nat) (d:Option Tmp):Bool:=match d with
 | some d=>zaz inl (30000000+d)
 | none=>false
def zar (P:Program) (g:Bool) (E:Env) (lo:List AObj) (t:TypeId) (n:Nat) (parts:List (Nat×Operand)) (R:FV->List AObj->Prop):Prop:=
 match g with
 | true=>zd9 P E lo t n parts R
 | false=>zea P E lo t n parts R
def zm3 (P:Program) (op:Op) (E:Env) (lo:List AObj) (R:FV->List AObj->Prop):Prop:=
 match op with
 | .box t x=>evS E none x fun x=>qy2 x fun cs=>match q24 cs with
  | true=>q4r lo 0 fun n=>q0d lo (.box t cs) fun lo=>R (.ptr n 0) lo
  | false=>False
 | .alloc t=>zou P t fun z=>zm9 z fun cs=>match q24 cs with
  | true=>q4r lo 0 fun n=>q0d lo (.box t cs) fun lo=>R (.ptr n 0) lo
  | false=>False
 | .store t a x=>evS E none a fun a=>evS E none x fun x=>match a with
  | .ptr k off=>qy2 x fun vs=>match q24 vs with
   | true=>q4r vs 0 fun n=>qvv P t fun _ m=>match Nat.beq n m with
    | true=>qy6 k lo fun o=>match o with
     | .box bt cells=>qxc off vs cells fun cells=>q4u k (.box bt cells) lo fun lo=>R (.p (.tup [])) lo
     | _=>False
    | false=>False
   | false=>False
  | .eptr k z i off=>zem P t lo k z i off x R
  | _=>False
 | .call { callee:=.builtin .append,args:=⟨[s,x]⟩,argTypes:=⟨[t,t']⟩ }=>match Nat.beq t t' with
  | true=>evS E none s fun s=>evS E none x fun x=>zkh x fun news=>match s with
   | .vsl k0 _=>zfr P t lo k0 news R
   | s=>q59 P t fun e z=>match Nat.beq z 0 with
   | true=>False
   | false=>match P.info? e with
    | some i=>match i.zero with
     | some zv=>match Nat.beq zv.cells.size z with
      | true=>match s with
       | .p .nilsl=>((∀ r∈news,r.length=z)/\news.length * i.bytes<=140737488355328/\news.length<=9223372036854775807) /\
         q4r lo 0 fun k=>q0d lo (.tail e z news.length) fun lo=>R (.tsl k news) lo
       | .tsl k0 rows=>((∀ r∈rows++news,r.length=z)/\(rows++news).length * i.bytes<=140737488355328/\(rows++news).length<=9223372036854775807) /\
         qy6 k0 lo fun o=>match o with
         | .tail e' z' n=>(e'=e/\z'=z/\n=rows.length) /\
           q4u k0 .dead lo fun lo=>q4r lo 0 fun k=>q0d lo (.tail e z (rows++news).length) fun lo=>R (.tsl k (rows++news)) lo
         | _=>False
       | _=>False
      | false=>False
     | none=>False
    | none=>False
  | false=>evS E none s fun s=>evS E none x fun x=>match x with
   | .p (.str str)=>match P.underlying t' with
    | some .string=>q59 P t fun e z=>match Nat.beq z 1 with
     | true=>match P.info? e with
      | some i=>match i.zero with
       | some (.int .u8 0)=>match s with
        | .p .nilsl=>((qea str).length * i.bytes<=140737488355328/\(qea str).length<=9223372036854775807) /\
          q4r lo 0 fun k=>q0d lo (.tail e z (qea str).length) fun lo=>R (.tsl k (qea str)) lo
        | .tsl k0 rows=>((∀ r∈rows,r.length=1)/\(rows++qea str).length * i.bytes<=140737488355328/\(rows++qea str).length<=9223372036854775807) /\
          qy6 k0 lo fun o=>match o with
          | .tail e' z' n=>(e'=e/\z'=1/\n=rows.length) /\
            q4u k0 .dead lo fun lo=>q4r lo 0 fun k=>q0d lo (.tail e z (rows++qea str).length) fun lo=>R (.tsl k (rows++qea str)) lo
          | _=>False
        | _=>False
       | _=>False
      | none=>False
     | false=>False
    | _=>False
   | _=>False
 | op=>zns P op E lo R
def zce (ops:List Oper) (o:Oper) (E:Env) (R:G->Prop):Prop:=
 match o.guard with
 | none=>R none
 | some (j,want)=>qy6 j ops fun oj=>match oj.dst with
   | some d=>zm7 E d fun v=>match v with
    | .p (.bool b)=>match want with|true=>R (some b)|false=>R (some (!b))
    | .opt g' (.p (.bool b))=>match want with|true=>R (some (g'&&b))|false=>R (some (g'&&!b))
    | _=>False
   | none=>False
def qy7 (N:Nat) (d:Option Tmp) (v:FV) (E:Env) (R:Env->Prop):Prop:=
 match d with
 | some d=>match Nat.blt d N with
  | true=>zio v fun v=>R ((d,v)::E)
  | false=>False
 | none=>R E
def quc (g:G) (v:FV):FV:=match g with|none=>v|some g=>.opt g v
def zg6 (P:Program) (N:Nat) (all:List Oper) (o:Oper) (E:Env) (lo:List AObj) (R:Env->List AObj->Prop):Prop:=
 zce all o E fun g=>
  match q6e o.op with
  | true=>match o.op with
   | .load t x=>evS E g x fun x=>qw5 P t lo x fun v=>qy7 N o.dst (quc g v) E fun E=>R E lo
   | .convert s d x=>evS E g x fun x=>q6f P g s d lo x fun v=>qy7 N o.dst (quc g v) E fun E=>R E lo
   | .lookup t x i ok=>evS E g x fun x=>evS E g i fun i=>qvk P g t lo x i ok fun v=>qy7 N o.dst (quc g v) E fun E=>R E lo
   | _=>False
  | false=>match qw4 o.op with
   | true=>match g with
    | none=>zm3 P o.op E lo fun v lo=>qy7 N o.dst v E fun E=>R E lo
    | some _=>False
   | false=>zlp P o.op E g fun v=>qy7 N o.dst (quc g v) E fun E=>R E lo
inductive AX where
 | normal|exit (id:Nat)|ret
def zna (inl:List Nat) (d:Option Tmp):Bool:=match d with|some d=>zaz inl (10000000+d)|none=>false
def zqj (inl:List Nat) (t:Tmp):Bool:=zaz inl (20000000+t)
def zjv (inl:List Nat) (id:Nat):Bool:=zaz inl (40000000+id)
def qqv (inl:List Nat) (o:Oper):Bool:=
 match o.op with
 | .call { callee:=.value (.func f),args:=_,argTypes:=_ }=>zaz inl f
 | .call { callee:=.value (.tmp t),args:=_,argTypes:=_ }=>zqj inl t
 | .buildSlice _ _ _=>zna inl o.dst
 | .convert _ _ _=>zna inl o.dst
 | o=>qw4 o
def zeu:Op->Bool
 | .box _ _|.alloc _|.makeMap _ _|.buildSlice _ _ _=>true
 | .call { callee:=.builtin .append,.. }=>true
 | _=>false
def qv5 (inl:List Nat) (o:Oper):Bool:=match o.op with
 | .store _ (.tmp t) _=>zaz inl (50000000+t)
 | _=>false
def zcw (inl:List Nat) (o:Oper):Bool:=zeu o.op||qv5 inl o
def zoy (sl:List Nat) (n0 k:Nat):Bool:=match Nat.blt k n0 with
 | true=>(match zaz sl (60000000+1000 * n0+k)with|true=>false|false=>true)
 | false=>false
def zh8 (inl:List Nat) (m:Bool) (oi oj:Oper):Bool:=qqv inl oi&&(qqv inl oj||q6e oj.op&&!(m&&zcw inl oi))
def Region.effFree (inl:List Nat) (m:Bool) (ops:Array Oper) (listed:Array Bool) (i:Nat):Bool:=
 match ops[i]? with
 | none=>false
 | some oi=>(List.range ops.size).all fun j=>j==i||listed.getD j true||match ops[j]? with
   | some oj=>oj.after.any (fun e=>Region.binds .any e&&e.on==i)||(!zh8 inl m oi oj&&!zh8 inl m oj oi)
   | none=>true
def Region.effFrom (inl:List Nat) (m:Bool) (ops:Array Oper):Nat->Nat->Array Bool->Bool
 | 0,_,_=>true
 | fuel+1,k,listed=>Region.effFree inl m ops listed k&&Region.effFrom inl m ops fuel (k+1) (listed.setIfInBounds k true)
def zfi (inl:List Nat) (m:Bool) (ops:Array Oper):Bool:=Go.Region.lexB .any ops&&Region.effFrom inl m ops ops.size 0 (Array.replicate ops.size false)
end Ax
end
section
namespace Ax
open Go
def que (bs:Base) (ρ:List Value) (H:PH) (fv:FV) (lo':List AObj) (v:Value) (w':World):Prop:=
 ∃ ρ' H',ρ <+: ρ'/\PH.le H H'/\SatW bs ρ' H' lo' w'/\qcc ρ' H' fv v
def zd2 (P:Program) (bs:Base) (ρ:List Value) (H:PH) (fv:FV) (lo':List AObj):Result Next->Prop
 | .ok (.value v) w'=>que bs ρ H fv lo' v w'
 | .ok .skip w'=>que bs ρ H fv lo' undef w'
 | .ok (.enter f args) w'=>Calls P f args w' fun en w''=>∃ v,en=.returned v/\que bs ρ H fv lo' v w''
 | _=>False
def qk2 (P:Program) (o:Oper) (e:Nat->FV) (lo:List AObj) (g:G) (fv:FV) (lo':List AObj):Prop:=
 gOn g->∀ (bs:Base) (ρ:List Value) (H:PH) (w:World) (eval:Operand->Value),SatW bs ρ H lo w ->
  (∀ x∈o.op.operands,qcc ρ H (evF e x) (eval x))->zd2 P bs ρ H fv lo' ((execOp eval o).run P w)
theorem qhu {bs:Base} {ρ:List Value} {H:PH} {fv:FV} {lo:List AObj} {v:Value} {w:World} (s:SatW bs ρ H lo w) (r:qcc ρ H fv v) :
  que bs ρ H fv lo v w:=⟨ρ,H,List.prefix_refl _,PH.le.refl H,s,r⟩
theorem qqi {g:G} {p:Prop} (h:gI g p) (hg:gOn g):p:=by
 cases g with
 | none=>exact h
 | some b=>exact h hg
theorem qw7:∀ (E:Env) (t:Nat) (R:FV->Prop),zm7 E t R=R (qb7 E t)
 | [],_,_=>rfl
 | (t',v)::E,t,R=>by
  simp only[zm7,qb7]
  cases Nat.beq t t' with
  | true=>rfl
  | false=>exact qw7 E t R
theorem zal (E:Env) (x:Operand) (R:FV->Prop):ev E x R=R (evF (qb7 E) x):=by
 cases x with
 | tmp t=>exact qw7 E t R
 | const v=>exact zcb _ _
 | global g=>rfl
 | func f=>rfl
def Str (g:G) (f v:FV):Prop:=∀ ρ H x,gOn g->qcc ρ H f x->qcc ρ H v x
theorem qbm {E:Env} {g:G} {x:Operand} {R:FV->Prop} (h:evS E g x R):∃ v,R v/\Str g (evF (qb7 E) x) v:=by
 unfold evS at h
 rw[zal]at h
 generalize evF (qb7 E) x=f at *
 cases f<;>simp only at h
 case opt g' v'=>
  refine⟨v',h.2,fun ρ H y hg hy=>?_⟩
  have:=qqi h.1 hg
  simpa[qcc,this]using hy
 all_goals exact⟨_,h,fun _ _ _ _ hy=>hy⟩
theorem q6q {v:Value} {p:PV} (h:zpr v=some p) (H:PH):qcp H p v:=by
 unfold zpr at h
 split at h<;>(cases h)<;>simp[qcp]
theorem zj5 (v:Value) (ρ:List Value) (H:PH):qcc ρ H (zqk v) v:=by
 unfold zqk
 split
 ·simp[qcc,qcp,qec]
 ·split
  ·rename_i h; exact q6q h H
  ·trivial
theorem qs8 {ρ:List Value} {H:PH} {e:Nat->FV} {a:Act} (h:∀ t,qcc ρ H (e t) (a.tmps.getD t undef)) (x:Operand):qcc ρ H (evF e x) (a.eval x):=by
 cases x with
 | tmp t=>exact h t
 | const v=>exact zj5 v ρ H
 | func f=>simp[evF,qcc,qcp,Act.eval]
 | global g=>trivial
theorem qso {ρ:List Value} {H:PH} {b:Bool} {x:Value} (h:qcc ρ H (.p (.bool b)) x):x=.bool b:=by simpa[qcc,qcp]using h
theorem qki {ρ:List Value} {H:PH} {k:IntKind} {n:Int} {x:Value} (h:qcc ρ H (.p (.int k n)) x):x=.int k n:=by simpa[qcc,qcp]using h
theorem qsb {ρ:List Value} {H:PH} {l:List UInt8} {x:Value} (h:qcc ρ H (.p (.str l)) x):x=.string ⟨l.toArray⟩:=by simpa[qcc,qcp]using h
theorem qrh {ρ:List Value} {H:PH} {b:Bool}:qcc ρ H (.p (.bool b)) (.bool b):=by simp[qcc,qcp]
theorem qqk {ρ:List Value} {H:PH} {k:IntKind} {n:Int}:qcc ρ H (.p (.int k n)) (.int k n):=by simp[qcc,qcp]
theorem qxf {ρ:List Value} {H:PH} {l:List UInt8}:qcc ρ H (.p (.str l)) (.string ⟨l.toArray⟩):=by simp[qcc,qcp]
theorem qp0 {α:Type}:∀ {n:Nat} {l:List α} {R:List α->Prop},q2y n l R->R (l.take n)/\n<=l.length
 | 0,l,R,h=>by simpa[q2y]using h
 | n+1,[],R,h=>by simp[q2y]at h
 | n+1,a::l,R,h=>by
  have:=qp0 (n:=n) (l:=l) (R:=fun l=>R (a::l)) h
  simpa using this
theorem qpu {α:Type}:∀ {n:Nat} {l:List α} {R:List α->Prop},q4h n l R->R (l.drop n)/\n<=l.length
 | 0,l,R,h=>by simpa[q4h]using h
 | n+1,[],R,h=>by simp[q4h]at h
 | n+1,a::l,R,h=>by simpa using qpu (n:=n) (l:=l) (R:=R) h
theorem qdt {α:Type}:∀ {n:Nat} {l:List α} {R:α->Prop},qy6 n l R->∃ a,l[n]? =some a/\R a
 | 0,[],R,h=>by simp[qy6]at h
 | 0,a::l,R,h=>⟨a,by simp,h⟩
 | n+1,[],R,h=>by simp[qy6]at h
 | n+1,a::l,R,h=>by simpa using qdt (n:=n) (l:=l) (R:=R) h
theorem qkj {α:Type}:∀ {n:Nat} {x:α} {l:List α} {R:List α->Prop},q4u n x l R->R (l.set n x)/\n<l.length
 | 0,x,[],R,h=>by simp[q4u]at h
 | 0,x,a::l,R,h=>by simpa[q4u]using h
 | n+1,x,[],R,h=>by simp[q4u]at h
 | n+1,x,a::l,R,h=>by simpa using qkj (n:=n) (x:=x) (l:=l) (R:=fun l=>R (a::l)) h
theorem qhv {α:Type}:∀ {l:List α} {x:α} {R:List α->Prop},q0d l x R->R (l++[x])
 | [],x,R,h=>by simpa[q0d]using h
 | a::l,x,R,h=>qhv (l:=l) (x:=x) (R:=fun l=>R (a::l)) h
theorem qfz {α:Type}:∀ {l:List α} {n:Nat} {R:Nat->Prop},q4r l n R->R (n+l.length)
 | [],n,R,h=>by simpa[q4r]using h
 | a::l,n,R,h=>by
  have:=qfz (l:=l) (n:=n+1) (R:=R) h
  simpa[Nat.add_comm,Nat.add_left_comm,Nat.add_assoc]using this
theorem qvf {P:Program} {t f:Nat} {R:Nat->TypeId->Prop} (h:q8n P t f R) :
  ∃ fs x i,P.underlying t=some (.struct fs)/\fs[f]? =some x/\P.info? x.type=some i/\i.size≠0/\R x.offset x.type:=by
 unfold q8n at h
 split at h
 ·rename_i fs hu
  obtain⟨x,hx,hr⟩:=qdt h
  split at hr
  ·rename_i i hi
   split at hr
   ·exact hr.elim
   ·rename_i hz
    exact⟨_,x,i,hu,by simpa using hx,hi,fun e=>by simp[e]at hz,hr⟩
  ·exact hr.elim
 ·exact h.elim
theorem ql7 {P:Program} {t:TypeId} {R:Bool->Nat->Prop} (h:qvv P t R) :
  ∃ d i,P.underlying t=some d/\P.info? t=some i/\R (znh d) i.size:=by
 unfold qvv at h
 split at h
 ·rename_i d hd
  split at h
  ·rename_i i hi; exact⟨d,i,hd,hi,h⟩
  ·exact h.elim
 ·exact h.elim
theorem ql5 {P:Program} {t:TypeId} {R:TypeId->Nat->Prop} (h:q59 P t R) :
  ∃ e i,P.underlying t=some (.slice e)/\P.info? e=some i/\R e i.size:=by
 unfold q59 at h
 split at h
 ·rename_i e he
  split at h
  ·rename_i i hi; exact⟨e,i,he,hi,h⟩
  ·exact h.elim
 ·exact h.elim
theorem qr2 {v:FV} {R:PV->Prop} (h:zir v R):∃ p,R p/\∀ ρ H x,qcc ρ H v x->qcp H p x:=by
 cases v<;>simp only[zir]at h
 case p p=>exact⟨p,h,fun _ _ _ r=>r⟩
 case tsl k rows=>exact⟨_,h,fun _ _ _ r=>r.2⟩
theorem qta:∀ {l:List FV} {R:List PV->Prop},zhn l R->∃ ps,R ps/\∀ ρ H vs,qd9 ρ H l vs->qec H ps vs
 | [],R,h=>⟨[],h,fun _ _ vs r=>by simpa[qec,qd9]using r⟩
 | v::l,R,h=>by
  simp only[zhn]at h
  obtain⟨p,h1,h2⟩:=qr2 h
  obtain⟨ps,h3,h4⟩:=qta h1
  refine⟨_,h3,fun ρ H vs r=>?_⟩
  obtain⟨x,vs',e,r1,r2⟩:=r
  simp only[qec]
  exact⟨x,vs',e,h2 _ _ _ r1,h4 _ _ _ r2⟩
theorem qsm {E:Env} {g:G}:∀ {l:List Operand} {R:List FV->Prop},evL E g l R ->
  ∃ vs,R vs/\∀ ρ H (eval:Operand->Value),gOn g->(∀ x∈l,qcc ρ H (evF (qb7 E) x) (eval x))->qd9 ρ H vs (l.map eval)
 | [],R,h=>⟨[],h,fun _ _ _ _ _=>by simp[qd9]⟩
 | x::l,R,h=>by
  simp only[evL]at h
  obtain⟨v,h1,h2⟩:=qbm h
  obtain⟨vs,h3,h4⟩:=qsm h1
  refine⟨_,h3,fun ρ H eval hg hx=>?_⟩
  simp only[List.map_cons,qd9]
  exact⟨_,_,rfl,h2 _ _ _ hg (hx x (by simp)),h4 _ _ _ hg (fun y hy=>hx y (by simp[hy]))⟩
theorem qtx (l:List UInt8):(⟨l.toArray⟩:ByteArray).size=l.length:=ByteArray.size_mk_toArray l
section
variable {P:Program} {bs:Base} {ρ:List Value} {H:PH} {lo:List AObj} {w:World}
theorem q4m {t:TypeId} (hu:P.underlying t=some .bool) (n:Nat) (a b:Bool):(Op.equalIn (n+1) t (.bool a) (.bool b)).run P w=.ok (a==b) w:=by
 simp[Op.equalIn,run_underlying hu]
theorem q8b {t:TypeId} (hu:P.underlying t=some .bool) (a b:Bool):(Op.equal t (.bool a) (.bool b)).run P w=.ok (a==b) w:=
 q4m hu 9999 a b
theorem zi6 {g:G} {op:BinOp} {t:TypeId} {x y:FV} {R:FV->Prop} (h:zqz P g op t x y R) :
  ∃ fv,R fv/\(gOn g->∀ (ρ:List Value) (H:PH) (w:World) (xo yo:Operand) (a b:Value),qcc ρ H x a->qcc ρ H y b ->
   ∃ v,(do eqGuard op t xo yo a b; binOp op t a b:Sem Value).run P w=.ok v w/\qcc ρ H fv v):=by
 unfold zqz at h
 split at h
 ·rename_i k n
  split at h
  ·rename_i k' m
   split at h
   ·refine⟨_,h.2,fun hg ρ H w xo yo a b ra rb=>?_⟩
    rw[qki ra,qki rb]
    have h0:=qqi h.1 hg
    exact⟨_,by simp[eqGuard,binOp,Op.shift,show ¬ m<0 by omega],qqk⟩
   ·refine⟨_,h.2,fun hg ρ H w xo yo a b ra rb=>?_⟩
    rw[qki ra,qki rb]
    have h0:=qqi h.1 hg
    exact⟨_,by simp[eqGuard,binOp,Op.shift,show ¬ m<0 by omega],qqk⟩
   ·split at h
    case h_2=>exact h.elim
    rename_i hk
    have hk:=qtd hk
    obtain⟨h0,h⟩:=h
    refine⟨_,h,fun hg ρ H w xo yo a b ra rb=>?_⟩
    rw[qki ra,qki rb]
    have h0:=qqi h0 hg
    exact⟨_,by simp[eqGuard,binOp,Op.intDiv,hk,h0],qqk⟩
   ·split at h
    case h_2=>exact h.elim
    rename_i hk
    have hk:=qtd hk
    obtain⟨h0,h⟩:=h
    refine⟨_,h,fun hg ρ H w xo yo a b ra rb=>?_⟩
    rw[qki ra,qki rb]
    have h0:=qqi h0 hg
    exact⟨_,by simp[eqGuard,binOp,Op.intDiv,hk,h0],qqk⟩
   ·split at h
    case h_2=>exact h.elim
    rename_i hk
    have hk:=qtd hk
    subst hk
    unfold zrc at h
    split at h<;>first
     | exact h.elim
     | (refine⟨_,h,fun hg ρ H w xo yo a b ra rb=>?_⟩; rw[qki ra,qki rb]; exact⟨_,by simp[eqGuard,binOp,Op.intArith,Op.intBits,Op.intCmp]<;>rfl,by simp[qcc,qcp]⟩)
  ·exact h.elim
 ·rename_i l
  split at h
  ·rename_i m
   unfold zrd at h
   split at h
   ·obtain⟨hs,h⟩:=h
    refine⟨_,h,fun hg ρ H w xo yo a b ra rb=>?_⟩
    rw[qsb ra,qsb rb]
    have hs:=qqi hs hg
    refine⟨.string ⟨(l++m).toArray⟩,?_,qxf⟩
    have:=run_string_add_sum (P:=P) w ⟨l.toArray⟩ ⟨m.toArray⟩ (by rw[qtx,qtx]; unfold q1g at hs; omega)
    simp[eqGuard,binOp,this,ByteArray.mk_append_mk]
   all_goals first
    | exact h.elim
    | (refine⟨_,h,fun hg ρ H w xo yo a b ra rb=>?_⟩; rw[qsb ra,qsb rb]; exact⟨_,by simp[eqGuard,binOp,Op.stringOp]<;>rfl,by simp[qcc,qcp]⟩)
  ·exact h.elim
 ·rename_i a'
  split at h
  ·rename_i b'
   unfold zi4 at h
   split at h
   ·rename_i hu
    unfold zrb at h
    split at h<;>first
     | exact h.elim
     | (refine⟨_,h,fun hg ρ H w xo yo a b ra rb=>?_⟩; rw[qso ra,qso rb]; exact⟨_,by simp only[eqGuard,binOp,Sem.run_bind,q8b hu]; rfl,by simp[qcc,qcp]⟩)
   ·exact h.elim
  ·exact h.elim
 ·exact h.elim
theorem zef {t:TypeId} {x:FV} {f:Nat} {R:FV->Prop} (h:zja P t x f R) :
  ∃ fv,R fv/\∀ (ρ:List Value) (H:PH) (w:World) (a:Value),qcc ρ H x a->∃ v,(Instr.fieldAt t a f).run P w=.ok v w/\qcc ρ H fv v:=by
 unfold zja at h
 split at h
 ·rename_i k off
  obtain⟨fs,y,i,hu,hf,hi,hz,hr⟩:=qvf h
  refine⟨_,hr,fun ρ H w a ra=>?_⟩
  obtain⟨b,hb,rfl⟩:=ra
  exact⟨.pointer (some ⟨b,off+y.offset,none⟩),by simp[Instr.fieldAt,run_underlying hu,hf,Instr.sureAddr,fieldPlace,Go.sizeOf,typeInfo,hi,hz,Addr.add_lit],b,hb,rfl⟩
 ·rename_i row
  obtain⟨fs,y,i,hu,hf,hi,hz,hr⟩:=qvf h
  obtain⟨hr,hlen⟩:=qpu hr
  refine⟨_,hr,fun ρ H w a ra=>?_⟩
  obtain⟨b,o,vs,rfl,q,c⟩:=ra
  refine⟨.pointer (some ⟨b,o+y.offset,none⟩),by simp[Instr.fieldAt,run_underlying hu,hf,Instr.sureAddr,fieldPlace,Go.sizeOf,typeInfo,hi,hz,Addr.add_lit],b,o+y.offset,vs.drop y.offset,rfl,q.drop _,fun j v hv=>?_⟩
  rw[List.getElem?_drop]at hv
  have:=c _ _ hv
  rwa [← Nat.add_assoc]at this
 ·rename_i k z i' off
  obtain⟨fs,y,i,hu,hf,hi,hz,hr⟩:=qvf h
  refine⟨_,hr,fun ρ H w a ra=>?_⟩
  obtain⟨b,n,cap,hb,rfl⟩:=ra
  exact⟨.pointer (some ⟨b,i' * z+off+y.offset,none⟩),by simp[Instr.fieldAt,run_underlying hu,hf,Instr.sureAddr,fieldPlace,Go.sizeOf,typeInfo,hi,hz,Addr.add_lit],b,n,cap,hb,by rw[Nat.add_assoc]⟩
 ·exact h.elim
theorem quy {t:TypeId} {d:TypeDesc} (hu:P.underlying t=some d):(isAgg t).run P w=.ok (znh d) w:=by
 simp only[isAgg,Sem.run_bind,run_underlying hu,Result.andThen_ok]
 cases d<;>rfl
theorem zgl {t:TypeId} {x:FV} {f:Nat} {R:FV->Prop} (h:znu P t x f R) :
  ∃ fv,R fv/\∀ (ρ:List Value) (H:PH) (w:World) (a:Value),qcc ρ H x a->∃ v,(Instr.field t a f).run P w=.ok v w/\qcc ρ H fv v:=by
 unfold znu at h
 split at h
 ·rename_i cs
  obtain⟨fs,y,i,hu,hf,hi,hz,hr⟩:=qvf h
  obtain⟨hr,hlen⟩:=qpu hr
  obtain⟨d,i',hd,hi',hr⟩:=ql7 hr
  have hii:i'=i:=Option.some.inj (hi'.symm.trans hi)
  subst hii
  split at hr
  ·rename_i hagg
   obtain⟨hr,hl⟩:=qp0 hr
   refine⟨_,hr,fun ρ H w a ra=>?_⟩
   simp only[qcc,qcp]at ra
   obtain⟨vs,rfl,q⟩:=ra
   refine⟨.agg ((vs.drop y.offset).take i'.size).toArray,?_,?_⟩
   ·simp[Instr.field,run_underlying hu,hf,asAgg,part,quy hd,hagg,Go.sizeOf,typeInfo,hi',List.extract_toArray,List.extract_eq_take_drop]
   ·simp only[qcc,qcp]; exact⟨_,rfl,(q.drop _).take _⟩
  ·rename_i hagg
   split at hr
   ·rename_i c r hc
    refine⟨_,hr,fun ρ H w a ra=>?_⟩
    simp only[qcc,qcp]at ra
    obtain⟨vs,rfl,q⟩:=ra
    have hg:cs[y.offset]? =some c:=by
     have:=congrArg (fun l=>l[0]?) hc
     simpa[List.getElem?_drop]using this
    obtain⟨v,hv,rv⟩:=q.get hg
    exact⟨v,by simp[Instr.field,run_underlying hu,hf,asAgg,part,quy hd,hagg,hv],rv⟩
   ·exact hr.elim
 ·exact h.elim
theorem q28 {ρ:List Value} {H:PH} {w:World} {t e:TypeId} {ti:TypeInfo} (hu:P.underlying t=some (.slice e)) (hi:P.info? e=some ti) {rows:List (List PV)} {a:Value} (ra:qcp H (.sl rows) a)
  {k:IntKind} {i:Int} {row:List PV} (h0:0<=i) (hrow:rows[i.toNat]? =some row) (hlen:row.length=ti.size) :
  ∃ v,(Instr.indexAt t a (.int k i)).run P w=.ok v w/\qcc ρ H (.hptr row) v:=by
 simp only[qcp]at ra
 rcases ra with ⟨rfl,_⟩|⟨b,o,z,cap,rfl,hc,rr⟩
 ·simp at hrow
 ·obtain⟨hz,vs,q,c⟩:=rr.get hrow
  have hlt:i<rows.length:=by have:=(List.getElem?_eq_some_iff.1 hrow).1; omega
  refine⟨.pointer (some ⟨b,o+i.toNat * ti.size,none⟩),?_,b,_,vs,rfl,q,?_⟩
  ·simp[Instr.indexAt,run_underlying hu,asIntOf,h0,hlt,Go.sizeOf,typeInfo,hi,Addr.add_lit]
  ·rw[← hlen,hz]; exact c
theorem q6g {g:G} {t:TypeId} {x i:FV} {R:FV->Prop} (h:q2l P g t x i R) :
  ∃ fv,R fv/\(gOn g->∀ (ρ:List Value) (H:PH) (w:World) (a b:Value),qcc ρ H x a->qcc ρ H i b->∃ v,(Instr.indexAt t a b).run P w=.ok v w/\qcc ρ H fv v):=by
 unfold q2l at h
 split at h
 ·obtain⟨e,ti,hu,hi,row,hr,hR⟩:=ql5 h
  refine⟨_,hR,fun hg ρ H w a b ra rb=>?_⟩
  obtain⟨h0,h1,h2⟩:=qqi hr hg
  rw[qki rb]
  exact q28 hu hi ra h0 h1 h2
 ·obtain⟨e,ti,hu,hi,row,hr,hR⟩:=ql5 h
  refine⟨_,hR,fun hg ρ H w a b ra rb=>?_⟩
  obtain⟨h0,h1,h2⟩:=qqi hr hg
  rw[qki rb]
  exact q28 hu hi ra.2 h0 h1 h2
 ·rename_i k off kk n
  split at h
  ·rename_i len e hu
   split at h
   ·rename_i ti hi
    obtain⟨hb,hR⟩:=h
    refine⟨_,hR,fun hg ρ H w a b ra rb=>?_⟩
    obtain⟨h0,h1⟩:=qqi hb hg
    obtain⟨bl,hr,rfl⟩:=ra
    rw[qki rb]
    refine⟨.pointer (some ⟨bl,off+n.toNat * ti.size,none⟩),?_,bl,hr,rfl⟩
    simp[Instr.indexAt,run_underlying hu,asIntOf,Instr.sureAddr,h0,h1,Go.sizeOf,typeInfo,hi,Addr.add_lit]
   ·exact h.elim
  ·exact h.elim
 ·rename_i k n kk i0
  obtain⟨e,ti,hu,hi,j,hb,hR⟩:=ql5 h
  refine⟨_,hR,fun hg ρ H w a b ra rb=>?_⟩
  obtain⟨rfl,hj⟩:=qqi hb hg
  obtain⟨hr,⟨h0,_⟩|⟨bl,cap,rfl⟩⟩:=ra
  ·omega
  ·rw[qki rb]
   refine⟨.pointer (some ⟨bl,j * ti.size,none⟩),?_,bl,n,cap,hr,by rw[Nat.add_zero]⟩
   simp[Instr.indexAt,run_underlying hu,asIntOf,hj,Go.sizeOf,typeInfo,hi,Addr.add_lit]
 ·exact h.elim
theorem zeg {g:G} {t:TypeId} {x i:FV} {R:FV->Prop} (h:zjb P g t x i R) :
  ∃ fv,R fv/\(gOn g->∀ (ρ:List Value) (H:PH) (w:World) (a b:Value),qcc ρ H x a->qcc ρ H i b->∃ v,(Instr.index t a b).run P w=.ok v w/\qcc ρ H fv v):=by
 unfold zjb at h
 split at h
 ·rename_i l k n
  split at h
  ·rename_i hu
   obtain⟨b,hb,hR⟩:=h
   refine⟨_,hR,fun hg ρ H w x y ra rb=>?_⟩
   obtain⟨h0,h1⟩:=qqi hb hg
   rw[qsb ra,qki rb]
   refine⟨_,?_,qqk⟩
   have hlt:=(List.getElem?_eq_some_iff.1 h1).1
   have hs:(⟨l.toArray⟩:ByteArray)[n.toNat]? =some b:=by
    rw[ByteArray.getElem?_lt' _ _ (by rw[qtx]; exact hlt)]
    have:=(List.getElem?_eq_some_iff.1 h1).2
    rw[← this]
    rfl
   simp[Instr.index,asIntOf,run_underlying hu,h0,hs]
  ·exact h.elim
 ·rename_i cs k n
  split at h
  ·rename_i len e hu
   obtain⟨d,ti,hd,hi,h⟩:=ql7 h
   split at h
   ·rename_i hagg
    split at h
    ·rename_i hz
     have hz:ti.size=1:=Nat.eq_of_beq_eq_true hz
     obtain⟨c,hb,hR⟩:=h
     refine⟨_,hR,fun hg ρ H w x y ra rb=>?_⟩
     obtain⟨h0,h1,h2⟩:=qqi hb hg
     simp only[qcc,qcp]at ra
     obtain⟨vs,rfl,q⟩:=ra
     obtain⟨v,hv,rv⟩:=q.get h2
     rw[qki rb]
     refine⟨v,?_,rv⟩
     simp[Instr.index,asIntOf,run_underlying hu,h0,h1,Go.sizeOf,typeInfo,hi,hz,part,quy hd,hagg,hv]
    ·exact h.elim
   ·rename_i hagg
    obtain⟨c,hb,hR⟩:=h
    refine⟨_,hR,fun hg ρ H w x y ra rb=>?_⟩
    obtain⟨h0,h1,h2⟩:=qqi hb hg
    simp only[qcc,qcp]at ra
    obtain⟨vs,rfl,q⟩:=ra
    rw[qki rb]
    refine⟨.agg ((vs.drop (n.toNat * ti.size)).take ti.size).toArray,?_,?_⟩
    ·simp[Instr.index,asIntOf,run_underlying hu,h0,h1,Go.sizeOf,typeInfo,hi,part,quy hd,hagg,List.extract_toArray,List.extract_eq_take_drop]
    ·simp only[qcc,qcp]
     exact⟨_,rfl,by rw[← h2]; exact(q.drop _).take _⟩
  ·exact h.elim
 ·exact h.elim
theorem zjc {t:TypeId} {x:FV} {R:FV->Prop} (h:zq0 P t x R) :
  ∃ fv,R fv/\∀ (ρ:List Value) (H:PH) (w:World) (ty:TypeId) (a:Value),qcc ρ H x a->∃ v,(Builtin.len_ #[t] ty #[a]).run P w=.ok v w/\qcc ρ H fv v:=by
 have slice:∀ (e:TypeId),P.underlying t=some (.slice e)->∀ (rows:List (List PV)) (H:PH) (w:World) (ty:TypeId) (a:Value),qcp H (.sl rows) a->(Builtin.len_ #[t] ty #[a]).run P w=.ok (.int .i64 rows.length) w:=by
  intro e hu rows H w ty a ra
  simp only[qcp]at ra
  rcases ra with ⟨rfl,rfl|⟨a',cap',rfl⟩⟩|⟨b,o,z,cap,rfl,_,_⟩
  ·simp[Builtin.len_,run_underlying hu,goInt]
  ·simp[Builtin.len_,run_underlying hu,goInt]
  ·simp[Builtin.len_,run_underlying hu,goInt]
 unfold zq0 at h
 split at h
 ·rename_i l
  split at h
  ·rename_i hu
   refine⟨_,h,fun ρ H w ty a ra=>⟨.int .i64 l.length,?_,qqk⟩⟩
   rw[qsb ra]
   simp[Builtin.len_,run_underlying hu,goInt,qtx]
  ·exact h.elim
 ·rename_i rows
  split at h
  ·rename_i e hu
   exact⟨_,h,fun ρ H w ty a ra=>⟨_,slice e hu rows H w ty a ra,qqk⟩⟩
  ·exact h.elim
 ·rename_i k rows
  split at h
  ·rename_i e hu
   exact⟨_,h,fun ρ H w ty a ra=>⟨_,slice e hu rows H w ty a ra.2,qqk⟩⟩
  ·exact h.elim
 ·rename_i k off n cap
  split at h
  ·rename_i e hu
   refine⟨_,h,fun ρ H w ty a ra=>⟨.int .i64 n,?_,qqk⟩⟩
   obtain⟨b,_,rfl⟩:=ra
   simp[Builtin.len_,run_underlying hu,goInt]
  ·exact h.elim
 ·rename_i k n
  split at h
  ·rename_i e hu
   refine⟨_,h,fun ρ H w ty a ra=>⟨.int .i64 n,?_,qqk⟩⟩
   obtain⟨_,⟨rfl,rfl⟩|⟨b,cap,rfl⟩⟩:=ra<;>simp[Builtin.len_,run_underlying hu,goInt]
  ·exact h.elim
 ·split at h
  ·rename_i e hu
   refine⟨_,h,fun ρ H w ty a ra=>⟨.int .i64 0,?_,qqk⟩⟩
   simp only[qcc,qcp]at ra
   subst ra
   simp[Builtin.len_,run_underlying hu,goInt]
  ·exact h.elim
 ·exact h.elim
theorem zat {s d:TypeId} {x:FV} {R:FV->Prop} (h:zas P s d x R) :
  ∃ fv,R fv/\∀ (ρ:List Value) (H:PH) (w:World) (a:Value),qcc ρ H x a->∃ v,(convert s d a).run P w=.ok v w/\qcc ρ H fv v:=by
 unfold zas at h
 split at h
 ·split at h
  ·rename_i hu
   split at h
   ·rename_i k hv
    refine⟨_,h,fun ρ H w a ra=>⟨_,?_,qqk⟩⟩
    rw[qki ra]
    simp[convert,run_underlying hu,run_underlying hv,Conv.intToInt]
   ·exact h.elim
  ·exact h.elim
 ·split at h
  ·rename_i hu
   split at h
   ·rename_i hv
    refine⟨_,h,fun ρ H w a ra=>⟨_,?_,qxf⟩⟩
    rw[qsb ra]
    simp[convert,run_underlying hu,run_underlying hv]
   ·exact h.elim
  ·exact h.elim
 ·exact h.elim
theorem qm6 {E:Env} {g:G} {x:Option Operand} {d:Nat} {R:Nat->Prop} (h:qy1 E g x d R) :
  ∃ n,R n/\(∀ (ρ:List Value) (H:PH) (eval:Operand->Value),gOn g->(∀ y∈x.toArray,qcc ρ H (evF (qb7 E) y) (eval y))->(x=none/\n=d)\/∃ y k,x=some y/\eval y=.int k n):=by
 unfold qy1 at h
 split at h
 ·exact⟨d,h,fun _ _ _ _ _=>.inl ⟨rfl,rfl⟩⟩
 ·rename_i y
  obtain⟨v,h,hs⟩:=qbm h
  split at h
  ·rename_i k i
   obtain⟨n,hn,hR⟩:=h
   refine⟨n,hR,fun ρ H eval hg hy=>.inr ⟨y,k,rfl,?_⟩⟩
   rw[qki (hs ρ H _ hg (hy y (by simp))),qqi hn hg]
  ·exact h.elim
theorem qux {isSlice:Bool} {len cap:Nat} {lo hi:Option Operand} {eval:Operand->Value} {a h:Nat} (hlo:(lo=none/\a=0)\/∃ y k,lo=some y/\eval y=.int k a)
  (hhi:(hi=none/\h=len)\/∃ y k,hi=some y/\eval y=.int k h) (h1:a<=h) (h2:h<=cap) :
  (Instr.sliceBounds isSlice len cap (lo.map eval) (hi.map eval) none).run P w=.ok (a,h,cap) w:=by
 rcases hlo with ⟨rfl,rfl⟩|⟨y,k,rfl,hy⟩<;>rcases hhi with ⟨rfl,rfl⟩|⟨y',k',rfl,hy'⟩ <;>
  simp[Instr.sliceBounds,Instr.sliceBound,asIntOf, *,Int.toNat_natCast]
theorem zek {E:Env} {g:G} {t:TypeId} {x:FV} {lo hi mx:Option Operand} {R:FV->Prop} (h:zjg P E g t x lo hi mx R) :
  ∃ fv,R fv/\(∀ (ρ:List Value) (H:PH) (w:World) (eval:Operand->Value) (v:Value),gOn g->qcc ρ H x v->(∀ y∈lo.toArray,qcc ρ H (evF (qb7 E) y) (eval y))->(∀ y∈hi.toArray,qcc ρ H (evF (qb7 E) y) (eval y)) ->
   mx=none/\∃ u,(Instr.sliceAt t v (lo.map eval) (hi.map eval) none).run P w=.ok u w/\qcc ρ H fv u):=by
 have rowsCase:∀ (e:TypeId) (i:TypeInfo) (rows:List (List PV)) (a h:Nat),P.underlying t=some (.slice e)->P.info? e=some i->(a<=h/\h<=rows.length/\∀ r∈rows,r.length=i.size) ->
   ∀ (H:PH) (w:World) (eval:Operand->Value) (v:Value),qcp H (.sl rows) v->((lo=none/\a=0)\/∃ y k,lo=some y/\eval y=.int k a)->((hi=none/\h=rows.length)\/∃ y k,hi=some y/\eval y=.int k h) ->
   ∃ u,(Instr.sliceAt t v (lo.map eval) (hi.map eval) none).run P w=.ok u w/\qcp H (.sl ((rows.take h).drop a)) u:=by
  intro e i rows a h hu hi hah H w eval v rv hlo hhi
  obtain⟨h1,h2,h3⟩:=hah
  simp only[qcp]at rv ⊢
  rcases rv with ⟨rfl,rfl|⟨a',cap',rfl⟩⟩|⟨b,o,z,cap,rfl,hc,rr⟩
  rotate_left
  ·have h0:h=0:=by simpa using h2
   subst h0
   have ha:a=0:=by omega
   subst ha
   have:=qux (P:=P) (w:=w) (isSlice:=true) (len:=0) (cap:=cap') hlo (by simpa using hhi) (Nat.le_refl 0) (Nat.zero_le _)
   by_cases hcap:cap'=0
   ·subst hcap
    refine⟨.slice (some a') 0 0,?_,.inl ⟨by simp,.inr ⟨_,_,rfl⟩⟩⟩
    simp[Instr.sliceAt,Instr.slice,run_underlying hu,this,Go.sizeOf,typeInfo,hi]
   ·refine⟨.slice (some (a'.add 0)) 0 cap',?_,.inl ⟨by simp,.inr ⟨_,_,rfl⟩⟩⟩
    simp[Instr.sliceAt,Instr.slice,run_underlying hu,this,Go.sizeOf,typeInfo,hi,hcap]
  rotate_right
  ·have h0:h=0:=by simpa using h2
   subst h0
   have ha:a=0:=by omega
   subst ha
   have:=qux (P:=P) (w:=w) (isSlice:=true) (len:=0) (cap:=0) hlo (by simpa using hhi) (Nat.le_refl 0) (Nat.le_refl 0)
   refine⟨.slice none 0 0,?_,.inl ⟨by simp,.inl rfl⟩⟩
   simp[Instr.sliceAt,Instr.slice,run_underlying hu,this,Go.sizeOf,typeInfo,hi]
  ·have:=qux (P:=P) (w:=w) (isSlice:=true) (len:=rows.length) (cap:=cap) hlo hhi h1 (by omega)
   have hlen:((rows.take h).drop a).length=h - a:=by simp; omega
   by_cases hcap:cap=a
   ·have hha:h=a:=by omega
    subst hha
    refine⟨.slice (some ⟨b,o,none⟩) 0 0,?_,.inr ⟨b,o,z,0,?_,?_,?_⟩⟩
    ·subst hcap
     simp[Instr.sliceAt,Instr.slice,run_underlying hu,this,Go.sizeOf,typeInfo,hi]
    ·rw[hlen]; simp
    ·rw[hlen]; simp
    ·have e0:(rows.take h).drop h=[]:=by
      apply List.eq_nil_of_length_eq_zero
      rw[hlen]
      omega
     rw[e0]
     simp[qsl]
   ·refine⟨.slice (some ⟨b,o+a * i.size,none⟩) (h - a) (cap - a),?_,.inr ⟨b,o+a * i.size,z,cap - a,by rw[hlen],by rw[hlen]; omega,?_⟩⟩
    ·simp[Instr.sliceAt,Instr.slice,run_underlying hu,this,Go.sizeOf,typeInfo,hi,hcap,Addr.add_lit]
    ·have hz:rows=[]\/z=i.size:=by
      cases rows with
      | nil=>exact .inl rfl
      | cons r rs=>
       simp only[qsl]at rr
       exact .inr (by rw[← rr.1]; exact h3 r (by simp))
     rcases hz with hz|hz
     ·subst hz; simp[qsl]
     ·rw[← hz]; exact(rr.take h).drop a
 unfold zjg at h
 split at h
 ·exact h.elim
 ·split at h
  ·rename_i l
   split at h
   ·rename_i hu
    obtain⟨hh,h,hb1⟩:=qm6 h
    obtain⟨aa,h,hb2⟩:=qm6 h
    refine⟨_,h.2,fun ρ H w eval v hg rv hlo hhi=>⟨rfl,?_⟩⟩
    obtain⟨h1,h2⟩:=qqi h.1 hg
    rw[qsb rv]
    have:=qux (P:=P) (w:=w) (isSlice:=false) (len:=l.length) (cap:=l.length) (hb2 ρ H eval hg hlo) (hb1 ρ H eval hg hhi) h1 h2
    refine⟨.string ⟨((l.take hh).drop aa).toArray⟩,?_,qxf⟩
    simp[Instr.sliceAt,Instr.slice,run_underlying hu,qtx,this,ByteArray.extract_mk,List.drop_take]
   ·exact h.elim
  ·rename_i rows
   split at h
   ·rename_i e hu
    split at h
    ·rename_i i hi
     obtain⟨hh,h,hb1⟩:=qm6 h
     obtain⟨aa,h,hb2⟩:=qm6 h
     refine⟨_,h.2,fun ρ H w eval v hg rv hlo hhi=>⟨rfl,?_⟩⟩
     exact rowsCase e i rows aa hh hu hi (qqi h.1 hg) H w eval v rv (hb2 ρ H eval hg hlo) (hb1 ρ H eval hg hhi)
    ·exact h.elim
   ·exact h.elim
  ·rename_i k rows
   split at h
   ·rename_i e hu
    split at h
    ·rename_i i hi
     obtain⟨hh,h,hb1⟩:=qm6 h
     obtain⟨aa,h,hb2⟩:=qm6 h
     refine⟨_,h.2,fun ρ H w eval v hg rv hlo hhi=>⟨rfl,?_⟩⟩
     exact rowsCase e i rows aa hh hu hi (qqi h.1 hg) H w eval v rv.2 (hb2 ρ H eval hg hlo) (hb1 ρ H eval hg hhi)
    ·exact h.elim
   ·exact h.elim
  ·rename_i k off
   split at h
   ·rename_i n e hu
    split at h
    ·rename_i i hi
     split at h
     ·rename_i hz
      have hz:i.size=1:=Nat.eq_of_beq_eq_true hz
      obtain⟨hh,h,hb1⟩:=qm6 h
      obtain⟨aa,h,hb2⟩:=qm6 h
      refine⟨_,h.2,fun ρ H w eval v hg rv hlo hhi=>⟨rfl,?_⟩⟩
      obtain⟨h1,h2,h3⟩:=qqi h.1 hg
      obtain⟨b,hr,rfl⟩:=rv
      have:=qux (P:=P) (w:=w) (isSlice:=false) (len:=n) (cap:=n) (hb2 ρ H eval hg hlo) (hb1 ρ H eval hg hhi) h1 h2
      have hcap:¬ n=aa:=by omega
      refine⟨.slice (some ⟨b,off+aa,none⟩) (hh - aa) (n - aa),?_,b,hr,rfl⟩
      simp[Instr.sliceAt,Instr.sureAddr,run_underlying hu,this,Go.sizeOf,typeInfo,hi,hz,hcap,Addr.add_lit]
     ·exact h.elim
    ·exact h.elim
   ·exact h.elim
  ·exact h.elim
theorem qw3 {w:World} {b:Nat} {vs:List Value} {t:TypeId} {fr:Nat×Nat} (hg:w.heap[b]? =some (.cells vs.toArray t fr)) (off:Nat) :
  ∀ j v,(vs.drop off)[j]? =some v->w.cell? ⟨b,off+j,none⟩=some v:=fun j v hv=>by
 rw[cell_of_row w b (off+j) _ t fr hg]
 rw[List.getElem?_drop]at hv
 simpa using hv
end
end Ax
end
section
namespace Ax
open Go
section
variable {P:Program}
theorem zfl (off:Nat):∀ (l:List Value) (k:Nat) (cs:Array Value),off+k+l.length<=cs.size ->
  ((l.zipIdx k).foldl (fun(cs:Array Value) (x:Value×Nat)=>cs.setIfInBounds (off+x.2) x.1) cs).toList=cs.toList.take (off+k)++l++cs.toList.drop (off+k+l.length)
 | [],k,cs,_=>by simp
 | c::l,k,cs,h=>by
  simp only[List.length_cons]at h
  rw[List.zipIdx_cons,List.foldl_cons,zfl off l (k+1) _ (by simp; omega)]
  simp only[Array.toList_setIfInBounds,List.length_cons]
  have e:off+(k+1)=off+k+1:=by omega
  rw[e,List.take_add_one,List.getElem?_set_self (by simpa using(by omega:off+k<cs.size)),List.take_set_of_le (Nat.le_refl _),List.drop_set_of_lt (by omega)]
  have e2:off+k+1+l.length=off+k+(l.length+1):=by omega
  rw[e2]
  simp
theorem zan (off:Nat) (v:Value) (cs:Array Value) (h:off+v.cells.size<=cs.size) :
  (v.cells.zipIdx.foldl (fun(cs:Array Value) (x:Value×Nat)=>cs.setIfInBounds (off+x.2) x.1) cs).toList=cs.toList.take off++v.cells.toList++cs.toList.drop (off+v.cells.size):=by
 rw[← Array.foldl_toList,Array.toList_zipIdx]
 have:=zfl off v.cells.toList 0 cs (by simpa using h)
 simpa using this
theorem qsu {ρ:List Value} {H:PH} {f:FV} {x:Value} (h:zhq f=true) (r:qcc ρ H f x):x.cells = #[x]/\x.oneCell'=true:=by
 cases f with
 | p p=>
  cases p<;>simp[zhq]at h<;>simp only[qcc,qcp]at r
  case sl rows=>
   rcases r with ⟨_,rfl|⟨_,_,rfl⟩⟩|⟨b,o,z,cap,rfl,_⟩<;>exact⟨rfl,rfl⟩
  case ifc t p=>
   obtain⟨u,rfl,_⟩:=r
   exact⟨rfl,rfl⟩
  all_goals (subst r; exact⟨rfl,rfl⟩)
 | top=>simp[zhq]at h
 | opt g v=>simp[zhq]at h
 | tsl k rows=>
  have:=r.2
  simp only[qcp]at this
  rcases this with ⟨_,rfl|⟨_,_,rfl⟩⟩|⟨b,o,z,cap,rfl,_⟩<;>exact⟨rfl,rfl⟩
 | ptr k off=>
  obtain⟨b,_,rfl⟩:=r
  exact⟨rfl,rfl⟩
 | hptr row=>
  obtain⟨b,o,vs,rfl,_⟩:=r
  exact⟨rfl,rfl⟩
 | bself k=>
  obtain⟨b,_,rfl|rfl⟩:=r<;>exact⟨rfl,rfl⟩
 | bsl k off len cap=>
  obtain⟨b,_,rfl⟩:=r
  exact⟨rfl,rfl⟩
 | vsl k n=>
  obtain⟨_,⟨_,rfl⟩|⟨b,cap,rfl⟩⟩:=r<;>exact⟨rfl,rfl⟩
 | eptr k z i off=>
  obtain⟨b,n,cap,_,rfl⟩:=r
  exact⟨rfl,rfl⟩
 | mref k=>
  obtain⟨b,_,rfl⟩:=r
  exact⟨rfl,rfl⟩
 | pair a b=>simp[zhq]at h
 | stmp k=>simp[zhq]at h
 | cap0=>simp[zhq]at h
 | cap a b=>simp[zhq]at h
 | fagg c=>simp[zhq]at h
 | nxt ok a b=>simp[zhq]at h
 | clo f c=>
  obtain⟨vs,rfl,_⟩:=r
  exact⟨rfl,rfl⟩
theorem qw8:∀ {cs:List PV} {R:List FV->Prop},zm9 cs R->R (cs.map .p)
 | [],R,h=>h
 | c::cs,R,h=>by simpa using qw8 (cs:=cs) (R:=fun l=>R (.p c::l)) h
theorem qsv:∀ {off:Nat} {vs old:List FV} {R:List FV->Prop},qxc off vs old R->R (old.take off++vs++old.drop (off+vs.length))/\off+vs.length<=old.length
 | 0,[],old,R,h=>by simpa[qxc]using h
 | 0,v::vs,[],R,h=>by simp[qxc]at h
 | 0,v::vs,a::old,R,h=>by
  simp only[qxc]at h
  have:=qsv (off:=0) h
  simpa using this
 | off+1,vs,[],R,h=>by cases vs<;>simp[qxc]at h
 | off+1,vs,a::old,R,h=>by
  have h':qxc off vs old fun l=>R (a::l):=by cases vs<;>simpa[qxc]using h
  have:=qsv h'
  have e:off+1+vs.length=(off+vs.length)+1:=by omega
  rw[e]
  simpa using this
theorem qd9.append {ρ:List Value} {H:PH}:∀ {cs ds:List FV} {vs us:List Value},qd9 ρ H cs vs->qd9 ρ H ds us->qd9 ρ H (cs++ds) (vs++us)
 | [],_,vs,_,x,y=>by simp only[qd9]at x; simpa[x]using y
 | c::cs,ds,vs,us,x,y=>by
  obtain⟨v,vs',rfl,r,rs⟩:=x
  exact⟨v,_,rfl,r,rs.append y⟩
theorem qxu:∀ {off:Nat} {vs old:List PV} {R:List PV->Prop},q6u off vs old R->R (old.take off++vs++old.drop (off+vs.length))/\off+vs.length<=old.length
 | 0,[],old,R,h=>by simpa[q6u]using h
 | 0,v::vs,[],R,h=>by simp[q6u]at h
 | 0,v::vs,a::old,R,h=>by
  simp only[q6u]at h
  have:=qxu (off:=0) h
  simpa using this
 | off+1,vs,[],R,h=>by cases vs<;>simp[q6u]at h
 | off+1,vs,a::old,R,h=>by
  have h':q6u off vs old fun l=>R (a::l):=by cases vs<;>simpa[q6u]using h
  have:=qxu h'
  have e:off+1+vs.length=(off+vs.length)+1:=by omega
  rw[e]
  simpa using this
theorem qz1 {p:PV} {R:List PV->Prop} (h:zb2 p R):∃ c,R c/\∀ (H:PH) (x:Value),qcp H p x->qec H c x.cells.toList:=by
 unfold zb2 at h
 split at h
 ·rename_i cs
  refine⟨cs,h,fun H x r=>?_⟩
  simp only[qcp]at r
  obtain⟨vs,rfl,q⟩:=r
  simpa[Value.cells]using q
 ·exact h.elim
 ·rename_i h1 h2
  refine⟨[p],h,fun H x r=>?_⟩
  have hc:x.cells = #[x]:=by
   cases p<;>simp only[qcp]at r
   case agg cs=>exact absurd rfl (h1 cs)
   case tup cs=>exact absurd rfl (h2 cs)
   case sl rows=>rcases r with ⟨_,rfl|⟨_,_,rfl⟩⟩|⟨_,_,_,_,rfl,_⟩<;>rfl
   case ifc t p=>obtain⟨_,rfl,_⟩:=r; rfl
   all_goals (subst r; rfl)
  rw[hc]
  simp only[qec]
  exact⟨x,[],rfl,r,rfl⟩
theorem q6s {H:PH} {p:PV} {x:Value} (h:zj6 p=true) (r:qcp H p x):x.oneCell'=true/\x.cells = #[x]:=by
 cases p<;>simp only[qcp]at r
 case agg cs=>simp[zj6]at h
 case tup cs=>simp[zj6]at h
 case sl rows=>rcases r with ⟨_,rfl|⟨_,_,rfl⟩⟩|⟨_,_,_,_,rfl,_⟩<;>exact⟨rfl,rfl⟩
 case ifc t p=>obtain⟨_,rfl,_⟩:=r; exact⟨rfl,rfl⟩
 all_goals (subst r; exact⟨rfl,rfl⟩)
theorem qec.one {H:PH}:∀ {cs:List PV} {vs:List Value},(∀ c∈cs,zj6 c=true)->qec H cs vs->∀ u∈vs,u.oneCell'=true
 | [],vs,_,r,u,hu=>by simp only[qec]at r; simp[r]at hu
 | c::cs,vs,h,r,u,hu=>by
  simp only[qec]at r
  obtain⟨v,vs',rfl,r1,rs⟩:=r
  rcases List.mem_cons.1 hu with rfl|hu
  ·exact(q6s (h c (by simp)) r1).1
  ·exact qec.one (fun c hc=>h c (by simp[hc])) rs u hu
theorem quv:∀ {vs:List Value} {R:List PV->Prop},zhp vs R->∃ ps,R ps/\∀ H,qec H ps vs
 | [],R,h=>⟨[],h,fun H=>by simp[qec]⟩
 | v::vs,R,h=>by
  simp only[zhp]at h
  split at h
  ·rename_i p hp
   obtain⟨ps,hr,hs⟩:=quv h
   refine⟨p::ps,hr,fun H=>?_⟩
   simp only[qec]
   exact⟨v,vs,rfl,q6q hp H,hs H⟩
  ·exact h.elim
theorem q8p {E:Env} {g:G} {fs:List Field}:∀ {parts:List (Nat×Operand)} {cs:List PV} {R:List PV->Prop},zll P E g fs parts cs R ->
  ∃ cs',R cs'/\(gOn g->∀ (ρ:List Value) (H:PH) (w:World) (eval:Operand->Value) (places:Array (Nat×Nat)) (cells:Array Value),(∀ x∈parts.map (·.2),qcc ρ H (evF (qb7 E) x) (eval x)) ->
   (∀ (i:Nat) (f:Field),fs[i]? =some f->∀ ti,P.info? f.type=some ti->places[i]? =some (f.offset,ti.size))->qec H cs cells.toList ->
   ∃ cells',Instr.fill (places[·]?) cells (parts.map fun(i,x)=>(i,eval x))=some cells'/\qec H cs' cells'.toList)
 | [],cs,R,h=>⟨cs,h,fun _ ρ H w eval places cells _ _ r=>⟨cells,rfl,r⟩⟩
 | (i,x)::l,cs,R,h=>by
  simp only[zll]at h
  obtain⟨f,hf,h⟩:=qdt h
  split at h
  ·rename_i ti hti
   obtain⟨v,h,hv⟩:=qbm h
   obtain⟨p,h,hp⟩:=qr2 h
   obtain⟨c,h,hc⟩:=qz1 h
   split at h
   ·rename_i hsz
    have hsz:c.length=ti.size:=Nat.eq_of_beq_eq_true hsz
    obtain⟨h,hlen⟩:=qxu h
    obtain⟨cs',h,hs⟩:=q8p h
    refine⟨cs',h,fun hg ρ H w eval places cells hx hpl r=>?_⟩
    have rc:=hc H _ (hp _ _ _ (hv ρ H _ hg (hx x (by simp))))
    have hvs:(eval x).cells.size=ti.size:=by have:=rc.length; simp at this; omega
    have hcl:=r.length
    simp at hcl
    have hle:f.offset+(eval x).cells.size<=cells.size:=by omega
    have h1:=zan f.offset (eval x) cells hle
    obtain⟨cells',e',r'⟩:=hs hg ρ H w eval places ((eval x).cells.zipIdx.foldl (fun(cs:Array Value) (x:Value×Nat)=>cs.setIfInBounds (f.offset+x.2) x.1) cells) (fun y hy=>hx y (by simp at hy ⊢; exact .inr hy)) hpl (by
     rw[h1,hvs,← hsz]
     exact((r.take _).append rc).append (r.drop _))
    refine⟨cells',?_,r'⟩
    simp only[List.map_cons,Instr.fill,hpl i f hf ti hti]
    rw[if_neg (by simp[hvs]; omega)]
    exact e'
   ·exact h.elim
  ·exact h.elim
theorem qvo {E:Env} {g:G}:∀ {parts:List (Nat×Operand)} {k:Nat} {R:List PV->Prop},zc5 E g k parts R ->
  ∃ ps,R ps/\ps.length=parts.length/\(gOn g->∀ (ρ:List Value) (H:PH) (eval:Operand->Value),(∀ x∈parts.map (·.2),qcc ρ H (evF (qb7 E) x) (eval x)) ->
   ∃ vals,(parts.map fun(i,x)=>(i,eval x))=(vals.zipIdx k).map (fun(v,i)=>(i,v))/\qec H ps vals)
 | [],k,R,h=>⟨[],h,rfl,fun _ ρ H eval _=>⟨[],rfl,by simp[qec]⟩⟩
 | (i,x)::l,k,R,h=>by
  simp only[zc5]at h
  split at h
  ·rename_i hi
   have hi:i=k:=Nat.eq_of_beq_eq_true hi
   subst hi
   obtain⟨v,h,hv⟩:=qbm h
   obtain⟨p,h,hp⟩:=qr2 h
   obtain⟨ps,h,hl,hs⟩:=qvo h
   refine⟨p::ps,h,by simp[hl],fun hg ρ H eval hx=>?_⟩
   obtain⟨vals,e,r⟩:=hs hg ρ H eval (fun y hy=>hx y (by simp at hy ⊢; exact .inr hy))
   refine⟨eval x::vals,?_,?_⟩
   ·simp only[List.map_cons,List.zipIdx_cons,e]
   ·simp only[qec]
    exact⟨_,_,rfl,hp _ _ _ (hv ρ H _ hg (hx x (by simp))),r⟩
  ·exact h.elim
theorem q06 (size:Nat) (n:Nat) (pl:Nat->Option (Nat×Nat)) (hpl:∀ i,i<n->pl i=some (i * size,size)):∀ (vals:List Value) (k:Nat) (cells:Array Value),(∀ v∈vals,v.cells.size=size)->k+vals.length=n->n * size=cells.size ->
  ∃ cells',Instr.fill pl cells ((vals.zipIdx k).map fun(v,i)=>(i,v))=some cells'/\cells'.toList=cells.toList.take (k * size)++vals.flatMap (·.cells.toList)
 | [],k,cells,_,hn,hc=>by
  refine⟨cells,rfl,?_⟩
  simp at hn
  subst hn
  rw[List.take_of_length_le (by simp; omega)]
  simp
 | v::vals,k,cells,hv,hn,hc=>by
  have h1:=hv v (by simp)
  simp only[List.length_cons]at hn
  have hkn:(k+1) * size<=n * size:=Nat.mul_le_mul_right _ (by omega)
  have hle:k * size+v.cells.size<=cells.size:=by rw[h1,← hc]; rw[Nat.add_mul,Nat.one_mul]at hkn; exact hkn
  have hf:=zan (k * size) v cells hle
  have hsz:(v.cells.zipIdx.foldl (fun(cs:Array Value) (x:Value×Nat)=>cs.setIfInBounds (k * size+x.2) x.1) cells).size=cells.size:=by
   rw[← Array.length_toList,hf]
   simp
   omega
  obtain⟨cells',e,h⟩:=q06 size n pl hpl vals (k+1) _ (fun u hu=>hv u (by simp[hu])) (by omega) (by rw[hsz]; exact hc)
  refine⟨cells',?_,?_⟩
  ·simp only[List.zipIdx_cons,List.map_cons,Instr.fill,hpl k (by omega)]
   rw[if_neg (by simp[h1]; omega)]
   exact e
  ·rw[h,hf]
   have e1:(k+1) * size=k * size+v.cells.size:=by rw[h1,Nat.add_mul,Nat.one_mul]
   rw[e1,List.flatMap_cons,← List.append_assoc]
   congr 1
   rw[List.append_assoc,List.take_append,List.take_append]
   simp only[List.length_take,Array.length_toList]
   have:min (k * size) cells.size=k * size:=Nat.min_eq_left (by omega)
   rw[this,List.take_of_length_le (l:=List.take (k * size) cells.toList) (by simp; omega)]
   simp
   exact List.take_of_length_le (by simp)
theorem q2w:∀ {ps:List PV} {R:List (List PV)->Prop},zmg ps R->∃ rows,R rows/\rows.length=ps.length/\∀ (H:PH) (vals:List Value),qec H ps vals ->
  (∀ (i:Nat) (r:List PV) (v:Value),rows[i]? =some r->vals[i]? =some v->qec H r v.cells.toList)
 | [],R,h=>⟨[],h,rfl,fun H vals r i r' v hr=>by simp at hr⟩
 | p::ps,R,h=>by
  simp only[zmg]at h
  obtain⟨c,h,hc⟩:=qz1 h
  obtain⟨rows,h,hl,hs⟩:=q2w h
  refine⟨c::rows,h,by simp[hl],fun H vals r i r' v hr hv=>?_⟩
  simp only[qec]at r
  obtain⟨x,vs',rfl,rx,rs⟩:=r
  cases i with
  | zero=>simp at hr hv; subst hr; subst hv; exact hc H x rx
  | succ i=>exact hs H vs' rs i r' v (by simpa using hr) (by simpa using hv)
theorem zlb {H:PH} {w:World} (s:SatH H w) (e:TypeId) (ys:List Value) (h1:∀ u∈ys,u.oneCell'=true) :
  Calm H w (fun b o=>if b=w.heap.size then ys[o]? else H b o) (w.alloc (.cells ys.toArray e)):=by
 have hlt:∀ b o v,H b o=some v->b≠w.heap.size:=fun b o v hv e=>by
  have:=s.lt hv; omega
 refine⟨fun b o v hv=>?_,⟨fun b o v hv=>?_,s.root.mono fun b o v hv=>by rw[if_neg (hlt b o v hv)]; exact hv⟩,⟨rfl,rfl,rfl,by simp,fun k hk _=>Go.RowKit.Below.heap_alloc w _ k hk⟩,fun b o v hv=>?_⟩
 ·rw[if_neg (hlt b o v hv)]; exact hv
 ·split at hv
  ·rename_i hb
   subst hb
   refine⟨?_,h1 v (List.mem_of_getElem? hv)⟩
   rw[World.cell?_alloc_new]
   simpa using hv
  ·obtain⟨c,o1⟩:=s.cell b o v hv
   exact⟨by rw[World.cell?_alloc_lt (h:=s.lt hv)]; exact c,o1⟩
 ·split at hv
  ·rename_i hb; exact .inr (by omega)
  ·exact .inl ⟨v,hv⟩
theorem zp6 {H:PH} {z:Nat}:∀ {rows:List (List PV)} {vals:List Value},rows.length=vals.length->(∀ r∈rows,r.length=z) ->
  (∀ (i:Nat) (r:List PV) (v:Value),rows[i]? =some r->vals[i]? =some v->qec H r v.cells.toList)->∀ {b o:Nat} {H':PH},PH.le H H' ->
  (∀ (j:Nat) (u:Value),(vals.flatMap (·.cells.toList))[j]? =some u->H' b (o+j)=some u)->qsl H' b z o rows
 | [],_,_,_,_,_,_,_,_,_=>by simp[qsl]
 | r::rs,[],hl,_,_,_,_,_,_,_=>by simp at hl
 | r::rs,v::vals,hl,hz,hr,b,o,H',hle,hc=>by
  have h0:=hr 0 r v rfl rfl
  have hlen:=h0.length
  have hrz:=hz r (by simp)
  simp only[qsl]
  refine⟨hrz,⟨v.cells.toList,qec.mono hle h0,fun j u hu=>hc j u ?_⟩,zp6 (by simpa using hl) (fun r hr=>hz r (by simp[hr])) (fun i r' v' h1 h2=>hr (i+1) r' v' (by simpa using h1) (by simpa using h2)) hle (fun j u hu=>?_)⟩
  ·rw[List.flatMap_cons,List.getElem?_append_left (List.getElem?_eq_some_iff.1 hu).1]; exact hu
  ·have:=hc (z+j) u (by rw[List.flatMap_cons,List.getElem?_append_right (by rw[hlen,hrz]; omega),hlen,hrz,Nat.add_sub_cancel_left]; exact hu)
   rwa [← Nat.add_assoc]at this
theorem q4j {E:Env} {g:G} {t:TypeId} {n:Nat} {parts:List (Nat×Operand)} {R:FV->Prop} (h:qpd P E g t n parts R) :
  ∃ fv,R fv/\(gOn g->∀ (ρ:List Value) (H:PH) (w:World) (eval:Operand->Value),SatH H w->(∀ x∈parts.map (·.2),qcc ρ H (evF (qb7 E) x) (eval x)) ->
   ∃ v w' H',(Instr.buildSlice t n (parts.map fun(i,x)=>(i,eval x)).toArray).run P w=.ok v w'/\Calm H w H' w'/\qcc ρ H' fv v):=by
 unfold qpd at h
 obtain⟨e,i,hu,hi,h⟩:=ql5 h
 split at h
 ·rename_i hn
  have hn:parts.length=n:=Nat.eq_of_beq_eq_true hn
  split at h
  ·rename_i h1n
   split at h
   ·rename_i h1z
    split at h
    case h_2=>exact h.elim
    rename_i hbig
    split at h
    case h_2=>exact h.elim
    rename_i i' hi'
    have:i'=i:=Option.some.inj (hi'.symm.trans hi)
    subst this
    split at h
    case h_2=>exact h.elim
    rename_i zv hzv
    obtain⟨ps,h,hpl,hps⟩:=qvo h
    obtain⟨rows,h,hrl,hrows⟩:=q2w h
    obtain⟨hok,rows',hle,h⟩:=h
    refine⟨_,h,fun hg ρ H w eval s hx=>?_⟩
    obtain⟨vals,ev,rv⟩:=hps hg ρ H eval hx
    have hcells:=hrows H vals rv
    have hvl:vals.length=n:=by rw[rv.length,hpl,hn]
    have hsz:∀ v∈vals,v.cells.size=i'.size:=by
     intro v hv
     obtain⟨j,hj⟩:=List.getElem?_of_mem hv
     have hjl:=(List.getElem?_eq_some_iff.1 hj).1
     have hrj:j<rows.length:=by rw[hrl,hpl,hn,← hvl]; exact hjl
     have:=(hcells j _ v (List.getElem?_eq_getElem hrj) hj).length
     rw[(hok _ (List.getElem_mem hrj)).1]at this
     simpa using this
    obtain⟨cells',ef,hc'⟩:=q06 i'.size n (fun i_1=>some (i_1 * i'.size,i'.size)) (fun j _=>rfl) vals 0 ((Array.range (n * i'.size)).map (zv.cells[· % zv.cells.size]!)) hsz (by omega) (by simp)
    simp only[Nat.zero_mul,List.take_zero,List.nil_append]at hc'
    have hone:∀ u∈cells'.toList,u.oneCell'=true:=by
     rw[hc']
     intro u hu'
     obtain⟨v,hv,huv⟩:=List.mem_flatMap.1 hu'
     obtain⟨j,hj⟩:=List.getElem?_of_mem hv
     have hjl:=(List.getElem?_eq_some_iff.1 hj).1
     have hrj:j<rows.length:=by rw[hrl,hpl,hn,← hvl]; exact hjl
     have h1:=hcells j _ v (List.getElem?_eq_getElem hrj) hj
     have h2:=(hok _ (List.getElem_mem hrj)).2
     exact qec.one (fun c hc=>(List.all_eq_true.1 h2) c hc) h1 u huv
    have hcalm:=zlb s e cells'.toList hone
    refine⟨.slice (some ⟨w.heap.size,0,none⟩) n n,_,_,?_,hcalm,?_⟩
    ·have h0:n * i'.size≠0:=by
      have a1:1<=n:=Nat.le_of_ble_eq_true h1n
      have a2:1<=i'.size:=Nat.le_of_ble_eq_true h1z
      exact Nat.mul_ne_zero (by omega) (by omega)
     have hb:¬ 16777216<n * i'.size:=by
      have:=Nat.le_of_ble_eq_true hbig
      omega
     simp only[Instr.buildSlice,Sem.run_bind,run_underlying hu,Result.andThen_ok,Go.sizeOf,typeInfo,run_program,hi,Sem.run_pure]
     rw[show(2:Nat) ^ 24=16777216 from rfl]
     simp only[hb,if_false,gt_iff_lt,h0,Sem.run_bind,zeroValue,typeInfo,run_program,hi,hzv,Result.andThen_ok,Sem.run_pure]
     rw[ev,ef]
     simp[newRow]
    ·simp only[qcc]
     refine zq9 hle ?_
     simp only[qcp]
     refine .inr ⟨w.heap.size,0,i'.size,n,by rw[hrl,hpl,hn],by rw[hrl,hpl,hn]; exact Nat.le_refl _,?_⟩
     refine zp6 (by rw[hrl,hpl,hn,hvl]) (fun r hr=>(hok r hr).1) hcells hcalm.le (fun j u hu'=>?_)
     rw[Nat.zero_add,if_pos rfl,hc']
     exact hu'
   ·exact h.elim
  ·exact h.elim
 ·exact h.elim
theorem q2x {w:World}:∀ {fs:List Field},zch P fs=true ->
  (fs.mapM (m:=Sem) fun f=>do pure (f.offset,← Go.sizeOf f.type)).run P w=.ok (fs.map fun f=>(f.offset,zg4 P f.type)) w
 | [],_=>by simp
 | f::fs,h=>by
  simp only[zch]at h
  split at h
  ·rename_i i hi
   have:=q2x (w:=w) h
   have hsz:(Go.sizeOf f.type).run P w=.ok i.size w:=by simp[Go.sizeOf,typeInfo,hi]
   simp only[List.mapM_cons,Sem.run_bind,hsz,Result.andThen_ok,Sem.run_pure,List.map_cons,zg4,hi]
   rw[this]
   rfl
  ·cases h
theorem zeb {E:Env} {g:G} {t:TypeId} {parts:List (Nat×Operand)} {R:FV->Prop} (h:zi7 P E g t parts R) :
  ∃ fv,R fv/\(gOn g->∀ (ρ:List Value) (H:PH) (w:World) (eval:Operand->Value),(∀ x∈parts.map (·.2),qcc ρ H (evF (qb7 E) x) (eval x)) ->
   ∃ v,(Instr.build t (parts.map fun(i,x)=>(i,eval x)).toArray).run P w=.ok v w/\qcc ρ H fv v):=by
 unfold zi7 at h
 split at h
 ·rename_i i hi
  split at h
  ·rename_i vs hz
   obtain⟨zs,h,hzs⟩:=quv h
   split at h
   ·rename_i fs hu
    split at h
    case h_2=>exact h.elim
    rename_i hinf
    obtain⟨cs,h,hs⟩:=q8p h
    refine⟨_,h,fun hg ρ H w eval hx=>?_⟩
    obtain⟨cells',ef,rc⟩:=hs hg ρ H w eval (fs.map fun f=>(f.offset,zg4 P f.type)).toArray vs.toArray hx (fun i f hf ti hti=>by simp[hf,zg4,hti]) (by simpa[Value.cells]using hzs H)
    refine⟨.agg cells',?_,by simp only[qcc,qcp]; exact⟨cells'.toList,by simp,rc⟩⟩
    simp only[Instr.build,Sem.run_bind,zeroValue,typeInfo,run_program,hi,hz,Result.andThen_ok,Sem.run_pure,run_underlying hu,Value.cells]
    rw[Array.mapM_eq_mapM_toList]
    simp only[Sem.run_map]
    rw[q2x hinf]
    simp only[Result.andThen_ok]
    rw[ef]
    rfl
   ·rename_i n e hu
    split at h
    ·rename_i ei hei
     split at h
     ·rename_i hsz
      have hsz:ei.size=1:=Nat.eq_of_beq_eq_true hsz
      obtain⟨ps,h,hpl,hps⟩:=qvo h
      obtain⟨hlen,hone,h⟩:=h
      refine⟨_,h,fun hg ρ H w eval hx=>?_⟩
      obtain⟨vals,ev,rv⟩:=hps hg ρ H eval hx
      have hsz':∀ v∈vals,v.cells.size=1:=by
       intro v hv
       obtain⟨j,hj⟩:=List.getElem?_of_mem hv
       have hjl:=(List.getElem?_eq_some_iff.1 hj).1
       have hpj:j<ps.length:=by rw[← rv.length]; exact hjl
       obtain⟨v',hv',r'⟩:=rv.get (List.getElem?_eq_getElem hpj)
       rw[hj]at hv'
       cases hv'
       rw[(q6s (hone _ (List.getElem_mem hpj)) r').2]
       rfl
      have hvl:=rv.length
      obtain⟨cells',ef,hc'⟩:=q06 1 vals.length (fun i_1=>some (i_1 * 1,1)) (fun j _=>rfl) vals 0 ⟨vs⟩ hsz' (by omega) (by simp; omega)
      refine⟨.agg cells',?_,?_⟩
      ·simp only[Instr.build,Sem.run_bind,zeroValue,typeInfo,run_program,hi,hz,Result.andThen_ok,Sem.run_pure,run_underlying hu,Go.sizeOf,hei,hsz,ev,Value.cells]
       simp only[Nat.mul_one]at ef ⊢
       rw[ef]
       rfl
      ·simp only[qcc,qcp]
       refine⟨cells'.toList,by simp,?_⟩
       have e1:cells'.toList=vals:=by
        rw[hc']
        simp only[Nat.zero_mul,List.take_zero,List.nil_append]
        have:∀ (l:List Value),(∀ v∈l,v∈vals)->l.flatMap (·.cells.toList)=l:=by
         intro l
         induction l with
         | nil=>intro _; rfl
         | cons a l ih=>
          intro hl
          rw[List.flatMap_cons,ih (fun v hv=>hl v (by simp[hv]))]
          obtain⟨j,hj⟩:=List.getElem?_of_mem (hl a (by simp))
          have hjl:=(List.getElem?_eq_some_iff.1 hj).1
          have hpj:j<ps.length:=by rw[← rv.length]; exact hjl
          obtain⟨v',hv',r'⟩:=rv.get (List.getElem?_eq_getElem hpj)
          rw[hj]at hv'
          cases hv'
          rw[(q6s (hone _ (List.getElem_mem hpj)) r').2]
          rfl
        exact this vals (fun v hv=>hv)
       rw[e1]
       exact rv
     ·exact h.elim
    ·exact h.elim
   ·exact h.elim
  ·exact h.elim
 ·exact h.elim
theorem q25 {E:Env} {yes no:Prop}:∀ {parts:List (Nat×Operand)},zai E parts yes no->yes\/no
 | [],h=>.inr h
 | (_,x)::l,h=>by
  simp only[zai,zal]at h
  split at h
  ·exact .inl h
  ·exact .inl h
  ·exact .inl h
  ·exact q25 h
theorem zge {v:FV} {R:List FV->Prop} (h:znl v R):∃ c,R c/\∀ (ρ:List Value) (H:PH) (x:Value),qcc ρ H v x->qd9 ρ H c x.cells.toList:=by
 unfold znl at h
 split at h
 ·obtain⟨c,h,hc⟩:=qz1 h
  have h:=qw8 h
  exact⟨_,h,fun ρ H x r=>qd9.of_RepL (hc H x r)⟩
 ·rename_i k rows
  refine⟨_,h,fun ρ H x r=>?_⟩
  have e:=(qsu (f:=.tsl k rows) rfl r).1
  rw[e]
  exact⟨x,[],rfl,r,rfl⟩
 ·rename_i k
  refine⟨_,h,fun ρ H x r=>?_⟩
  have e:=(qsu (f:=.mref k) rfl r).1
  rw[e]
  exact⟨x,[],rfl,r,rfl⟩
 ·rename_i k o
  refine⟨_,h,fun ρ H x r=>?_⟩
  have e:=(qsu (f:=.ptr k o) rfl r).1
  rw[e]
  exact⟨x,[],rfl,r,rfl⟩
 ·rename_i f c
  refine⟨_,h,fun ρ H x r=>?_⟩
  have e:=(qsu (f:=.clo f c) rfl r).1
  rw[e]
  exact⟨x,[],rfl,r,rfl⟩
 ·exact h.elim
theorem q8o {E:Env} {g:G} {fs:List Field}:∀ {parts:List (Nat×Operand)} {cs:List FV} {R:List FV->Prop},zlk P E g fs parts cs R ->
  ∃ cs',R cs'/\(gOn g->∀ (ρ:List Value) (H:PH) (w:World) (eval:Operand->Value) (places:Array (Nat×Nat)) (cells:Array Value),(∀ x∈parts.map (·.2),qcc ρ H (evF (qb7 E) x) (eval x)) ->
   (∀ (i:Nat) (f:Field),fs[i]? =some f->∀ ti,P.info? f.type=some ti->places[i]? =some (f.offset,ti.size))->qd9 ρ H cs cells.toList ->
   ∃ cells',Instr.fill (places[·]?) cells (parts.map fun(i,x)=>(i,eval x))=some cells'/\qd9 ρ H cs' cells'.toList)
 | [],cs,R,h=>⟨cs,h,fun _ ρ H w eval places cells _ _ r=>⟨cells,rfl,r⟩⟩
 | (i,x)::l,cs,R,h=>by
  simp only[zlk]at h
  obtain⟨f,hf,h⟩:=qdt h
  split at h
  ·rename_i ti hti
   obtain⟨v,h,hv⟩:=qbm h
   obtain⟨c,h,hc⟩:=zge h
   split at h
   ·rename_i hsz
    have hsz:c.length=ti.size:=Nat.eq_of_beq_eq_true hsz
    obtain⟨h,hlen⟩:=qsv h
    obtain⟨cs',h,hs⟩:=q8o h
    refine⟨cs',h,fun hg ρ H w eval places cells hx hpl r=>?_⟩
    have rc:=hc ρ H _ (hv ρ H _ hg (hx x (by simp)))
    have hvs:(eval x).cells.size=ti.size:=by have:=rc.length; simp at this; omega
    have hcl:=r.length
    simp at hcl
    have hle:f.offset+(eval x).cells.size<=cells.size:=by omega
    have h1:=zan f.offset (eval x) cells hle
    obtain⟨cells',e',r'⟩:=hs hg ρ H w eval places ((eval x).cells.zipIdx.foldl (fun(cs:Array Value) (x:Value×Nat)=>cs.setIfInBounds (f.offset+x.2) x.1) cells) (fun y hy=>hx y (by simp at hy ⊢; exact .inr hy)) hpl (by
     rw[h1,hvs,← hsz]
     exact((r.take _).append rc).append (r.drop _))
    refine⟨cells',?_,r'⟩
    simp only[List.map_cons,Instr.fill,hpl i f hf ti hti]
    rw[if_neg (by simp[hvs]; omega)]
    exact e'
   ·exact h.elim
  ·exact h.elim
theorem za9 {ρ:List Value} {H:PH}:∀ {cs:List FV} {vs:List Value},qd9 ρ H cs vs->qcc ρ H (zqa cs) (.tuple vs.toArray)
 | [],vs,r=>by
  simp only[qd9]at r
  subst r
  simp[zqa,qcc]
 | c::cs,vs,r=>by
  obtain⟨u,us,rfl,r1,rs⟩:=r
  exact⟨u,us,rfl,r1,za9 rs⟩
theorem q29 {E:Env} {g:G} {t:TypeId} {parts:List (Nat×Operand)} {R:FV->Prop} (h:zaq P E g t parts R) :
  ∃ fv,R fv/\(gOn g->∀ (ρ:List Value) (H:PH) (w:World) (eval:Operand->Value),(∀ x∈parts.map (·.2),qcc ρ H (evF (qb7 E) x) (eval x)) ->
   ∃ v,(Instr.build t (parts.map fun(i,x)=>(i,eval x)).toArray).run P w=.ok v w/\qcc ρ H fv v):=by
 unfold zaq at h
 split at h
 ·rename_i i hi
  split at h
  ·rename_i vs hz
   obtain⟨zs,h,hzs⟩:=quv h
   have h:=qw8 h
   split at h
   ·rename_i fs hu
    split at h
    case h_2=>exact h.elim
    rename_i hinf
    obtain⟨cs,h,hs⟩:=q8o h
    refine⟨_,h,fun hg ρ H w eval hx=>?_⟩
    obtain⟨cells',ef,rc⟩:=hs hg ρ H w eval (fs.map fun f=>(f.offset,zg4 P f.type)).toArray vs.toArray hx (fun i f hf ti hti=>by simp[hf,zg4,hti]) (by simpa[Value.cells]using qd9.of_RepL (hzs H))
    refine⟨.agg cells',?_,⟨cells'.toList,by simp,za9 rc⟩⟩
    simp only[Instr.build,Sem.run_bind,zeroValue,typeInfo,run_program,hi,hz,Result.andThen_ok,Sem.run_pure,run_underlying hu,Value.cells]
    rw[Array.mapM_eq_mapM_toList]
    simp only[Sem.run_map]
    rw[q2x hinf]
    simp only[Result.andThen_ok]
    rw[ef]
    rfl
   ·exact h.elim
  ·exact h.elim
 ·exact h.elim
theorem q6i {op:BinOp} {t:TypeId} {x y:FV} {R:FV->Prop} (h:zpn P op t x y R) :
  ∃ fv,R fv/\∀ (ρ:List Value) (H:PH) (w:World) (xo yo:Operand) (a b:Value),qcc ρ H x a->qcc ρ H y b ->
   ∃ v,(do eqGuard op t xo yo a b; binOp op t a b:Sem Value).run P w=.ok v w/\qcc ρ H fv v:=by
 unfold zpn at h
 split at h
 ·rename_i e hu
  split at h
  ·rename_i i hi
   have eqN:∀ (w:World) (p:Option Addr),(Op.equal t (.pointer p) (.pointer none)).run P w=.ok p.isNone w:=by
    intro w p
    have:∀ n,(Op.equalIn (n+1) t (.pointer p) (.pointer none)).run P w=.ok p.isNone w:=by
     intro n
     cases p<;>simp[Op.equalIn,run_underlying hu]
    exact this 9999
   have fin:∀ (b:Bool) (w:World) (xo yo:Operand) (p:Option Addr),(do eqGuard .eql t xo yo (.pointer p) (.pointer none); binOp .eql t (.pointer p) (.pointer none):Sem Value).run P w=.ok (.bool p.isNone) w /\
     (do eqGuard .neq t xo yo (.pointer p) (.pointer none); binOp .neq t (.pointer p) (.pointer none):Sem Value).run P w=.ok (.bool (!p.isNone)) w:=by
    intro b w xo yo p
    constructor
    ·simp only[eqGuard,binOp,Sem.run_bind,eqN]; rfl
    ·simp only[eqGuard,binOp,Sem.run_bind,eqN]; rfl
   split at h
   ·split at h
    ·refine⟨_,h,fun ρ H w xo yo a b ra rb=>?_⟩
     simp only[qcc,qcp]at ra rb
     subst ra; subst rb
     exact⟨_,(fin true w xo yo none).1,qrh⟩
    ·refine⟨_,h,fun ρ H w xo yo a b ra rb=>?_⟩
     obtain⟨bl,_,rfl⟩:=ra
     simp only[qcc,qcp]at rb
     subst rb
     exact⟨_,(fin true w xo yo _).1,qrh⟩
    ·refine⟨_,h,fun ρ H w xo yo a b ra rb=>?_⟩
     obtain⟨bl,o,vs,rfl,_⟩:=ra
     simp only[qcc,qcp]at rb
     subst rb
     exact⟨_,(fin true w xo yo _).1,qrh⟩
    ·exact h.elim
   ·split at h
    ·refine⟨_,h,fun ρ H w xo yo a b ra rb=>?_⟩
     simp only[qcc,qcp]at ra rb
     subst ra; subst rb
     exact⟨_,(fin true w xo yo none).2,qrh⟩
    ·refine⟨_,h,fun ρ H w xo yo a b ra rb=>?_⟩
     obtain⟨bl,_,rfl⟩:=ra
     simp only[qcc,qcp]at rb
     subst rb
     exact⟨_,(fin true w xo yo _).2,qrh⟩
    ·refine⟨_,h,fun ρ H w xo yo a b ra rb=>?_⟩
     obtain⟨bl,o,vs,rfl,_⟩:=ra
     simp only[qcc,qcp]at rb
     subst rb
     exact⟨_,(fin true w xo yo _).2,qrh⟩
    ·rename_i k off k' off'
     split at h
     ·rename_i hk
      have hk:=Nat.eq_of_beq_eq_true hk
      split at h
      ·rename_i ho
       have ho:=Nat.eq_of_beq_eq_true ho
       subst hk; subst ho
       refine⟨_,h,fun ρ H w xo yo a b ra rb=>?_⟩
       obtain⟨b1,e1,rfl⟩:=ra
       obtain⟨b2,e2,rfl⟩:=rb
       rw[e1]at e2
       cases e2
       refine⟨.bool false,?_,qrh⟩
       simp only[eqGuard,Sem.run_bind]
       exact Lib.run_neq_ptr_same w _ hu hi
      ·exact h.elim
     ·exact h.elim
    ·exact h.elim
   ·exact h.elim
  ·exact h.elim
 ·exact h.elim
theorem q1q {src dst:TypeId} {R:Prop} (h:u8T P src dst R):∃ e,P.underlying src=some (.slice e)/\P.underlying e=some (.int .u8)/\P.underlying dst=some .string/\R:=by
 unfold u8T at h
 split at h
 ·rename_i e he
  split at h
  ·rename_i h8
   split at h
   ·rename_i hs; exact⟨e,he,h8,hs,h⟩
   ·exact h.elim
  ·exact h.elim
 ·exact h.elim
theorem zh2 {l:List UInt8} {j:Nat} {x:UInt8} (h:l[j]? =some x):(qea l)[j]? =some [.int .u8 x.toNat]:=by simp[qea,h]
theorem q82 {H:PH} {w:World} (s:SatH H w) {b z o:Nat} {l:List UInt8} (r:qsl H b z o (qea l)):∀ j (hj:j<l.length),w.cell? ((⟨b,o,none⟩:Addr).add j)=some (.int .u8 (l[j].toNat:Int)):=by
 intro j hj
 obtain⟨hz,vs,q,c⟩:=r.get (zh2 (List.getElem?_eq_getElem hj))
 simp at hz
 subst hz
 simp only[qec,qcp]at q
 obtain⟨v,_,rfl,rfl,rfl⟩:=q
 have:=c 0 _ rfl
 rw[Addr.add_lit]
 simpa using(s _ _ _ this).1
theorem zkv {src dst:TypeId} {n:Nat} {t:TypeId} {R:Prop} (h:zra P src dst n t R) :
  R/\∀ (w:World) (b:Nat),w.shape? b=some (t,n)->(convert src dst (.pointer (some ⟨b,0,none⟩))).run P w=.ok (.pointer (some ⟨b,0,none⟩)) w:=by
 unfold zra at h
 split at h
 ·rename_i u hsrc
  split at h
  ·rename_i hdst
   split at h
   ·rename_i i hi
    exact⟨h.2,fun w b hsh=>Lib.run_to_unsafe w ⟨b,0,none⟩ hsrc hdst hi h.1.1 hsh h.1.2⟩
   ·exact h.elim
  ·exact h.elim
 ·rename_i hsrc
  split at h
  ·rename_i u hdst
   split at h
   ·rename_i i hi
    exact⟨h.2,fun w b hsh=>Lib.run_from_unsafe w ⟨b,0,none⟩ hsrc hdst hi hsh h.1⟩
   ·exact h.elim
  ·exact h.elim
 ·exact h.elim
theorem qz5 {g:G} {src dst:TypeId} {lo:List AObj} {x:FV} {R:FV->Prop} (h:q6f P g src dst lo x R) :
  ∃ fv,R fv/\(gOn g->∀ (bs:Base) (ρ:List Value) (H:PH) (w:World) (v:Value),SatW bs ρ H lo w->qcc ρ H x v->∃ u,(convert src dst v).run P w=.ok u w/\qcc ρ H fv u):=by
 have rowsCase:∀ (e:TypeId) (l:List UInt8),P.underlying src=some (.slice e)->P.underlying e=some (.int .u8)->P.underlying dst=some .string->∀ (H:PH) (w:World) (v:Value),SatH H w->qcp H (.sl (qea l)) v ->
   (convert src dst v).run P w=.ok (.string ⟨l.toArray⟩) w:=by
  intro e l hs he hd H w v s rv
  simp only[qcp]at rv
  rcases rv with ⟨h0,rfl|⟨a',cap',rfl⟩⟩|⟨b,o,z,cap,rfl,hc,rr⟩
  ·have:l=[]:=by simpa[qea]using h0
   subst this
   exact run_convert_bytes_nil w src e hs he 0 0 dst hd
  ·have:l=[]:=by simpa[qea]using h0
   subst this
   exact run_convert_bytes_back (P:=P) w src dst e a' cap' [] hs he hd (fun j hj=>absurd hj (Nat.not_lt_zero _))
  ·have:=run_convert_bytes_back (P:=P) w src dst e ⟨b,o,none⟩ cap l hs he hd (q82 s rr)
   simpa[qea]using this
 unfold q6f at h
 split at h
 ·rename_i rows
  obtain⟨e,hs,he,hd,l,hl,h⟩:=q1q h
  refine⟨_,h,fun hg bs ρ H w v s rv=>⟨_,rowsCase e l hs he hd H w v s.sath ?_,qxf⟩⟩
  rw[← qqi hl hg]; exact rv
 ·rename_i k rows
  obtain⟨e,hs,he,hd,l,hl,h⟩:=q1q h
  refine⟨_,h,fun hg bs ρ H w v s rv=>⟨_,rowsCase e l hs he hd H w v s.sath ?_,qxf⟩⟩
  rw[← qqi hl hg]; exact rv.2
 ·obtain⟨e,hs,he,hd,h⟩:=q1q h
  refine⟨_,h,fun hg bs ρ H w v s rv=>⟨_,rowsCase e [] hs he hd H w v s.sath ?_,qxf⟩⟩
  simp only[qcc,qcp]at rv
  simp only[qcp]
  exact .inl ⟨rfl,.inl rv⟩
 ·rename_i k off n cap
  obtain⟨e,hs,he,hd,h⟩:=q1q h
  obtain⟨ob,hob,h⟩:=qdt h
  split at h
  ·rename_i bt cells
   obtain⟨h,hoff⟩:=qpu h
   obtain⟨h,hn⟩:=qp0 h
   obtain⟨ps,h,hps⟩:=qta h
   obtain⟨l,hl,h⟩:=h
   refine⟨_,h,fun hg bs ρ H w v s rv=>?_⟩
   obtain⟨b,hb,rfl⟩:=rv
   obtain⟨b',vs,e',hg',hcs,_⟩:=s.objs k _ _ hob hb
   cases e'
   have hl:=qqi hl hg
   have rl:=hps _ _ _ ((hcs.drop off).take n)
   rw[hl]at rl
   have hlen:=rl.length
   have hvl:=hcs.length
   simp at hlen hn
   have hnl:n=l.length:=by omega
   subst hnl
   refine⟨_,run_convert_bytes_back (P:=P) w src dst e ⟨b,off,none⟩ cap l hs he hd (fun j hj=>?_),qxf⟩
   obtain⟨u,hu,ru⟩:=rl.get (i:=j) (c:=.int .u8 (l[j].toNat:Int)) (by simp[hj])
   simp only[qcp]at ru
   subst ru
   rw[Addr.add_lit]
   rw[List.getElem?_take,if_pos hj]at hu
   exact qw3 hg' off j _ hu
  ·exact h.elim
 ·rename_i k off
  split at h
  ·rename_i h0
   have h0:=Nat.eq_of_beq_eq_true h0
   subst h0
   obtain⟨ob,hob,h⟩:=qdt h
   split at h
   ·rename_i bt cells
    obtain⟨h,hs⟩:=zkv h
    refine⟨_,h,fun hg bs ρ H w v s rv=>?_⟩
    obtain⟨b,hb,rfl⟩:=rv
    obtain⟨b',vs,e',hg',hcs,_⟩:=s.objs k _ _ hob hb
    cases e'
    have hvl:=hcs.length
    have hsh:w.shape? b=some (bt,cells.length):=by simp[World.shape?,hg',hvl]
    exact⟨_,hs w b hsh,b,hb,rfl⟩
   ·exact h.elim
  ·exact h.elim
 ·rename_i k n
  obtain⟨e,hs,he,hd,h⟩:=q1q h
  obtain⟨ob,hob,h⟩:=qdt h
  split at h
  ·rename_i l
   refine⟨_,h.2,fun hg bs ρ H w v s rv=>?_⟩
   have hn:=qqi h.1 hg
   obtain⟨b,cs,e',cap,lo',hi,rfl,hg',_,h2,_⟩:=s.objs k _ _ hob rv.1
   refine⟨_,run_convert_bytes_back (P:=P) w src dst e ⟨b,0,none⟩ cap l hs he hd (fun j hj=>?_),qxf⟩
   rw[Addr.add_lit]
   simp only[World.cell?,hg',Nat.zero_add]
   exact h2 j _ (List.getElem?_eq_getElem hj)
  ·exact h.elim
 ·obtain⟨fv,h,hs⟩:=zat h
  exact⟨fv,h,fun hg bs ρ H w v s rv=>hs ρ H w v rv⟩
end
end Ax
end
section
namespace Ax
open Go
section
variable {P:Program}
theorem q2d {bs:Base} {ρ:List Value} {H H':PH} {fv:FV} {lo:List AObj} {v:Value} {w w':World} (s:SatW bs ρ H lo w) (c:Calm H w H' w') (r:qcc ρ H' fv v) :
  que bs ρ H fv lo v w':=⟨ρ,H',List.prefix_refl _,c.le,s.calm c,r⟩
theorem qcz {bs:Base} {ρ:List Value} {H:PH} {fv:FV} {lo:List AObj} {v:Value} {w:World} {x:Sem Value} (s:SatW bs ρ H lo w) (hr:x.run P w=.ok v w) (r:qcc ρ H fv v) :
  zd2 P bs ρ H fv lo ((do pure (.value (← x)):Sem Next).run P w):=by
 simp only[Sem.run_bind,hr,Result.andThen_ok,Sem.run_pure]
 exact qhu s r
theorem qxx {bs:Base} {ρ:List Value} {H:PH} {lo:List AObj} {r:PV} {w:World} {x:Result Next} (s:SatW bs ρ H lo w) (h:q0h P H w r x):zd2 P bs ρ H (.p r) lo x:=by
 unfold q0h at h
 split at h
 ·obtain⟨H',c,rv⟩:=h
  exact q2d s c rv
 ·obtain⟨rfl,hcall⟩:=h
  exact hcall.mono fun en w'' ⟨v,H',e,c,rv⟩=>⟨v,e,q2d s c rv⟩
 ·exact h.elim
theorem q8k:∀ {c:FV} {R:List PV->Prop},zh7 c R->∃ ps,R ps/\∀ (ρ:List Value) (H:PH) (vs:List Value),qcc ρ H c (.tuple vs.toArray)->qec H ps vs
 | .cap0,R,h=>⟨[],h,fun ρ H vs r=>by
   simp only[qcc,Value.tuple.injEq]at r
   simpa[qec]using r⟩
 | .cap a b,R,h=>by
  simp only[zh7]at h
  obtain⟨p,h,hp⟩:=qr2 h
  obtain⟨ps,h,hps⟩:=q8k h
  refine⟨_,h,fun ρ H vs r=>?_⟩
  obtain⟨u,us,e,ra,rb⟩:=r
  have e:vs=u::us:=by simpa using e
  subst e
  simp only[qec]
  exact⟨u,us,rfl,hp _ _ _ ra,hps _ _ _ rb⟩
 | .top,_,h|.p _,_,h|.opt _ _,_,h|.tsl _ _,_,h|.ptr _ _,_,h|.hptr _,_,h|.bself _,_,h|.bsl _ _ _ _,_,h|.vsl _ _,_,h|.eptr _ _ _ _,_,h|.mref _,_,h|.pair _ _,_,h|.stmp _,_,h|.clo _ _,_,h|.fagg _,_,h|.nxt _ _ _,_,h=>by
  simp[zh7]at h
theorem zcm {dst:Option Tmp} {op:Op} {ty:TypeId} {pos:String} {after:Array Edge} {guard:Option (Nat×Bool)} {E:Env} {g:G} {R:FV->Prop} (h:zjf P op E g R):∃ fv,R fv/\∀ lo,qk2 P ⟨dst,op,ty,pos,after,guard⟩ (qb7 E) lo g fv lo:=by
 unfold zjf at h
 split at h
 ·rename_i f xs
  split at h
  ·refine⟨_,h,fun lo hg bs ρ H w eval s hx=>?_⟩
   exact qcz s (v:=.func (.func f) #[] #[]) (by simp[Instr.makeFunc]) (by simp[qcc,qcp])
  ·rename_i x xs
   have h0:=qsm h; clear h; obtain⟨vs,h,hvs⟩:=h0
   refine⟨_,h,fun lo hg bs ρ H w eval s hx=>?_⟩
   have rl:=hvs ρ H eval hg (fun y hy=>hx y (by simpa[Op.operands]using hy))
   exact qcz s (v:=.func (.func f) #[] ((x::xs).map eval).toArray) (by simp[Instr.makeFunc]) ⟨_,rfl,za9 rl⟩
 ·rename_i t xs ts
  have h0:=qbm h; clear h; obtain⟨fv,h,hfv⟩:=h0
  have h0:=qsm h; clear h; obtain⟨vs,h,hvs⟩:=h0
  have h0:=qta h; clear h; obtain⟨ps,h,hps⟩:=h0
  split at h
  ·rename_i f
   obtain⟨r,hc,h⟩:=h
   refine⟨_,h,fun lo hg bs ρ H w eval s hx=>?_⟩
   have hc:=qqi hc hg
   have rl:=hps ρ H _ (hvs ρ H eval hg (fun y hy=>hx y (by simp[Op.operands,Call.operands,hy])))
   have:=hc H w _ s.sath rl
   have hf:(eval (.tmp t))=.func (.func f) #[] #[]:=by
    have:=hfv ρ H _ hg (hx (.tmp t) (by simp[Op.operands,Call.operands]))
    simpa[qcc,qcp]using this
   simp only[execOp,resolve,Deferred.ofValue,invoke,hf,Sem.run_bind,Sem.run_pure,Result.andThen_ok,List.map_toArray,Array.empty_append,Array.append_empty]
   exact qxx s this
  ·rename_i f c
   have h0:=q8k h; clear h; obtain⟨cs,h,hcs⟩:=h0
   obtain⟨r,hc,h⟩:=h
   refine⟨_,h,fun lo hg bs ρ H w eval s hx=>?_⟩
   have hc:=qqi hc hg
   have rl:=hps ρ H _ (hvs ρ H eval hg (fun y hy=>hx y (by simp[Op.operands,Call.operands,hy])))
   obtain⟨us,hf,rc⟩:=hfv ρ H _ hg (hx (.tmp t) (by simp[Op.operands,Call.operands]))
   have:=hc H w _ s.sath (rl.append (hcs _ _ _ rc))
   simp only[execOp,resolve,Deferred.ofValue,invoke,hf,Sem.run_bind,Sem.run_pure,Result.andThen_ok,List.map_toArray,List.append_toArray]
   exact qxx s this
  ·exact h.elim
 ·rename_i rv m xs ts
  have h0:=qbm h; clear h; obtain⟨fv,h,hfv⟩:=h0
  have h0:=qsm h; clear h; obtain⟨vs,h,hvs⟩:=h0
  have h0:=qta h; clear h; obtain⟨ps,h,hps⟩:=h0
  split at h
  ·rename_i t v
   obtain⟨f,r,hc,h⟩:=h
   refine⟨_,h,fun lo hg bs ρ H w eval s hx=>?_⟩
   obtain⟨hmt,hc⟩:=qqi hc hg
   have rl:=hps ρ H _ (hvs ρ H eval hg (fun y hy=>hx y (by simp[Op.operands,Call.operands,hy])))
   have rr:=hfv ρ H _ hg (hx rv (by simp[Op.operands,Call.operands]))
   simp only[qcc,qcp]at rr
   obtain⟨u,hu,ru⟩:=rr
   have:=hc H w (u::xs.map eval) s.sath (by simp only[qec]; exact⟨u,_,rfl,ru,rl⟩)
   have hme:=hmt u w
   simp only[execOp,resolve,invoke,hu,Sem.run_bind,Sem.run_pure,Result.andThen_ok,List.map_toArray,callMethod]
   have e:List.take xs.length (xs.map eval)=xs.map eval:=List.take_of_length_le (by simp)
   simp[hme,e]
   exact qxx s this
  ·exact h.elim
 ·exact h.elim
theorem q6j {o:Oper} {E:Env} {g:G} {R:FV->Prop} (h:zlp P o.op E g R):∃ fv,R fv/\∀ lo,qk2 P o (qb7 E) lo g fv lo:=by
 obtain⟨dst,op,ty,pos,after,guard⟩:=o
 simp only at h
 unfold zlp at h
 split at h
 ·
  rename_i x
  cases g with
  | none=>
   simp only[zal]at h
   exact⟨_,h,fun lo hg bs ρ H w eval s hx=>qhu s (hx x (by simp[Op.operands]))⟩
  | some g=>
   obtain⟨x',h,hx'⟩:=qbm h
   exact⟨_,h,fun lo hg bs ρ H w eval s hx=>qhu s (hx' ρ H _ hg (hx x (by simp[Op.operands])))⟩
 ·rename_i x
  cases g with
  | none=>
   simp only[zal]at h
   exact⟨_,h,fun lo hg bs ρ H w eval s hx=>qhu s (hx x (by simp[Op.operands]))⟩
  | some g=>
   obtain⟨x',h,hx'⟩:=qbm h
   exact⟨_,h,fun lo hg bs ρ H w eval s hx=>qhu s (hx' ρ H _ hg (hx x (by simp[Op.operands])))⟩
 ·
  rename_i c a b
  obtain⟨c',h,hc⟩:=qbm h
  split at h
  ·rename_i cb
   have key:∃ fv,R fv/\(gOn g->∀ (ρ:List Value) (H:PH) (va vb:Value),qcc ρ H (evF (qb7 E) a) va->qcc ρ H (evF (qb7 E) b) vb->qcc ρ H fv (if cb then va else vb)):=by
    have fin:∀ (ga gb:Bool) (a' b':FV),Str (some ga) (evF (qb7 E) a) a'->Str (some gb) (evF (qb7 E) b) b'->(gOn g->cb=true->ga=true)->(gOn g->cb=false->gb=true) ->
      (match a',b' with
       | .p (.bool a),.p (.bool b)=>R (.p (.bool (bif cb then a else b)))
       | _,_=>False)->∃ fv,R fv/\(gOn g->∀ (ρ:List Value) (H:PH) (va vb:Value),qcc ρ H (evF (qb7 E) a) va->qcc ρ H (evF (qb7 E) b) vb->qcc ρ H fv (if cb then va else vb)):=by
     intro ga gb a' b' ha hb h1 h2 h
     split at h
     ·rename_i ab bb
      refine⟨_,h,fun hg ρ H va vb ra rb=>?_⟩
      cases cb with
      | true=>
       have:=qso (ha ρ H _ (h1 hg rfl) ra)
       simp[this,qcc,qcp]
      | false=>
       have:=qso (hb ρ H _ (h2 hg rfl) rb)
       simp[this,qcc,qcp]
     ·exact h.elim
    split at h
    ·obtain⟨a',h,ha⟩:=qbm h
     obtain⟨b',h,hb⟩:=qbm h
     exact fin _ _ a' b' ha hb (fun _ h=>h) (fun _ h=>by simp[h]) h
    ·obtain⟨a',h,ha⟩:=qbm h
     obtain⟨b',h,hb⟩:=qbm h
     exact fin _ _ a' b' ha hb (fun hg h=>by simp only[gOn]at hg; simp[hg,h]) (fun hg h=>by simp only[gOn]at hg; simp[hg,h]) h
   obtain⟨fv,h,hs⟩:=key
   refine⟨_,h,fun lo hg bs ρ H w eval s hx=>?_⟩
   have rc:=qso (hc ρ H _ hg (hx c (by simp[Op.operands])))
   simp only[execOp,rc,asBool,Sem.run_bind,Sem.run_pure,Result.andThen_ok]
   exact qhu s (hs hg ρ H _ _ (hx a (by simp[Op.operands])) (hx b (by simp[Op.operands])))
  ·exact h.elim
 ·rename_i t x f
  obtain⟨x',h,hx'⟩:=qbm h
  obtain⟨fv,h,hs⟩:=zef h
  refine⟨_,h,fun lo hg bs ρ H w eval s hx=>?_⟩
  obtain⟨v,hr,rv⟩:=hs ρ H w _ (hx' ρ H _ hg (hx x (by simp[Op.operands])))
  exact qcz s hr rv
 ·rename_i t x f
  obtain⟨x',h,hx'⟩:=qbm h
  obtain⟨fv,h,hs⟩:=zgl h
  refine⟨_,h,fun lo hg bs ρ H w eval s hx=>?_⟩
  obtain⟨v,hr,rv⟩:=hs ρ H w _ (hx' ρ H _ hg (hx x (by simp[Op.operands])))
  exact qcz s hr rv
 ·rename_i t x i
  obtain⟨x',h,hx'⟩:=qbm h
  obtain⟨i',h,hi'⟩:=qbm h
  obtain⟨fv,h,hs⟩:=q6g h
  refine⟨_,h,fun lo hg bs ρ H w eval s hx=>?_⟩
  obtain⟨v,hr,rv⟩:=hs hg ρ H w _ _ (hx' ρ H _ hg (hx x (by simp[Op.operands]))) (hi' ρ H _ hg (hx i (by simp[Op.operands])))
  exact qcz s hr rv
 ·rename_i t x i
  obtain⟨x',h,hx'⟩:=qbm h
  obtain⟨i',h,hi'⟩:=qbm h
  obtain⟨fv,h,hs⟩:=zeg h
  refine⟨_,h,fun lo hg bs ρ H w eval s hx=>?_⟩
  obtain⟨v,hr,rv⟩:=hs hg ρ H w _ _ (hx' ρ H _ hg (hx x (by simp[Op.operands]))) (hi' ρ H _ hg (hx i (by simp[Op.operands])))
  exact qcz s hr rv
 ·rename_i op t x y t'
  obtain⟨x',h,hx'⟩:=qbm h
  obtain⟨y',h,hy'⟩:=qbm h
  have key:∃ fv,R fv/\(gOn g->∀ (ρ:List Value) (H:PH) (w:World) (xo yo:Operand) (a b:Value),qcc ρ H x' a->qcc ρ H y' b ->
    ∃ v,(do eqGuard op t xo yo a b; binOp op t a b:Sem Value).run P w=.ok v w/\qcc ρ H fv v):=by
   split at h
   ·obtain⟨fv,h,hs⟩:=q6i h; exact⟨fv,h,fun _=>hs⟩
   ·obtain⟨fv,h,hs⟩:=q6i h; exact⟨fv,h,fun _=>hs⟩
   ·obtain⟨fv,h,hs⟩:=q6i h; exact⟨fv,h,fun _=>hs⟩
   ·exact zi6 h
  obtain⟨fv,h,hs⟩:=key
  refine⟨_,h,fun lo hg bs ρ H w eval s hx=>?_⟩
  obtain⟨v,hr,rv⟩:=hs hg ρ H w x y _ _ (hx' ρ H _ hg (hx x (by simp[Op.operands]))) (hy' ρ H _ hg (hx y (by simp[Op.operands])))
  exact qcz s hr rv
 ·rename_i t x
  obtain⟨x',h,hx'⟩:=qbm h
  split at h
  ·rename_i b
   refine⟨_,h,fun lo hg bs ρ H w eval s hx=>?_⟩
   have rx:=qso (hx' ρ H _ hg (hx x (by simp[Op.operands])))
   exact qcz s (v:=.bool !b) (by simp[rx,Op.unary]) qrh
  ·exact h.elim
 ·rename_i t x
  obtain⟨x',h,hx'⟩:=qbm h
  split at h
  ·rename_i k n
   refine⟨_,h,fun lo hg bs ρ H w eval s hx=>?_⟩
   have rx:=qki (hx' ρ H _ hg (hx x (by simp[Op.operands])))
   exact qcz s (v:=.int k (k.wrap (0 - n))) (by simp[rx,Op.unary,Op.intArith]) qqk
  ·exact h.elim
 ·rename_i x
  obtain⟨x',h,hx'⟩:=qbm h
  split at h
  ·rename_i k off
   refine⟨_,h,fun lo hg bs ρ H w eval s hx=>?_⟩
   have rx:=hx' ρ H _ hg (hx x (by simp[Op.operands]))
   obtain⟨b,hb,e⟩:=rx
   simp only[execOp,e]
   exact qhu s ⟨b,hb,rfl⟩
  ·rename_i row
   refine⟨_,h,fun lo hg bs ρ H w eval s hx=>?_⟩
   have rx:=hx' ρ H _ hg (hx x (by simp[Op.operands]))
   obtain⟨b,o,vs,e,q,c⟩:=rx
   simp only[execOp,e]
   exact qhu s ⟨b,o,vs,rfl,q,c⟩
  ·rename_i k z i off
   refine⟨_,h,fun lo hg bs ρ H w eval s hx=>?_⟩
   have rx:=hx' ρ H _ hg (hx x (by simp[Op.operands]))
   obtain⟨b,n,cap,hb,e⟩:=rx
   simp only[execOp,e]
   exact qhu s ⟨b,n,cap,hb,rfl⟩
  ·exact h.elim
 ·rename_i t x lo hi mx
  obtain⟨x',h,hx'⟩:=qbm h
  obtain⟨fv,h,hs⟩:=zek h
  refine⟨_,h,fun lo' hg bs ρ H w eval s hx=>?_⟩
  obtain⟨hmx,u,hr,ru⟩:=hs ρ H w eval _ hg (hx' ρ H _ hg (hx x (by simp[Op.operands]))) (fun y hy=>hx y (by simp only[Op.operands]; simp only[Array.mem_append]; exact .inl (.inl (.inr hy)))) (fun y hy=>hx y (by simp only[Op.operands]; simp only[Array.mem_append]; exact .inl (.inr hy)))
  subst hmx
  exact qcz s hr ru
 ·rename_i t n parts
  obtain⟨fv,h,hs⟩:=q4j h
  refine⟨_,h,fun lo' hg bs ρ H w eval s hx=>?_⟩
  obtain⟨v,w',H',hr,c,rv⟩:=hs hg ρ H w eval s.sath (fun x hx'=>hx x (by simpa[Op.operands]using hx'))
  simp only[execOp,List.map_toArray,Sem.run_bind,hr,Result.andThen_ok,Sem.run_pure]
  exact q2d s c rv
 ·rename_i t parts
  have key:∃ fv,R fv/\(gOn g->∀ (ρ:List Value) (H:PH) (w:World) (eval:Operand->Value),(∀ x∈parts.map (·.2),qcc ρ H (evF (qb7 E) x) (eval x)) ->
   ∃ v,(Instr.build t (parts.map fun(i,x)=>(i,eval x)).toArray).run P w=.ok v w/\qcc ρ H fv v):=by
   rcases q25 h with h|h
   ·exact q29 h
   ·exact zeb h
  clear h
  obtain⟨fv,h,hs⟩:=key
  refine⟨_,h,fun lo' hg bs ρ H w eval s hx=>?_⟩
  obtain⟨v,hr,rv⟩:=hs hg ρ H w eval (fun x hx'=>hx x (by simpa[Op.operands]using hx'))
  simp only[execOp,List.map_toArray]
  exact qcz s hr rv
 ·rename_i x i
  obtain⟨x',h,hx'⟩:=qbm h
  split at h
  ·rename_i vs
   obtain⟨c,hc,h⟩:=qdt h
   refine⟨_,h,fun lo hg bs ρ H w eval s hx=>?_⟩
   have rx:=hx' ρ H _ hg (hx x (by simp[Op.operands]))
   simp only[qcc,qcp]at rx
   obtain⟨us,e,q⟩:=rx
   obtain⟨v,hv,rv⟩:=q.get hc
   exact qcz s (v:=v) (by simp[e,Instr.extract,hv]) rv
  ·rename_i a b
   split at h
   ·refine⟨_,h,fun lo hg bs ρ H w eval s hx=>?_⟩
    obtain⟨u,v,e,ru,rv⟩:=hx' ρ H _ hg (hx x (by simp[Op.operands]))
    exact qcz s (v:=u) (by simp[e,Instr.extract]) ru
   ·refine⟨_,h,fun lo hg bs ρ H w eval s hx=>?_⟩
    obtain⟨u,v,e,ru,rv⟩:=hx' ρ H _ hg (hx x (by simp[Op.operands]))
    exact qcz s (v:=v) (by simp[e,Instr.extract]) rv
   ·exact h.elim
  ·rename_i ok a b
   have cut:∀ {ρ:List Value} {H:PH} {u:Value},ok=true->qcc ρ H (.nxt ok a b) u->∃ y z,u=.tuple #[.bool true,y,z]/\qcp H a y/\qcp H b z:=by
    intro ρ H u hok r
    simp only[qcc,hok,if_true]at r
    exact r
   split at h
   ·refine⟨_,h,fun lo hg bs ρ H w eval s hx=>?_⟩
    have r:=hx' ρ H _ hg (hx x (by simp[Op.operands]))
    cases ok with
    | true=>
     obtain⟨u,v,e,_,_⟩:=cut rfl r
     exact qcz s (v:=.bool true) (by simp[e,Instr.extract]) qrh
    | false=>
     simp only[qcc,Bool.false_eq_true,if_false]at r
     exact qcz s (v:=.bool false) (by simp[r,Instr.extract]) qrh
   ·refine⟨_,h.2,fun lo hg bs ρ H w eval s hx=>?_⟩
    obtain⟨u,v,e,ru,rv⟩:=cut (qqi h.1 hg) (hx' ρ H _ hg (hx x (by simp[Op.operands])))
    exact qcz s (v:=u) (by simp[e,Instr.extract]) ru
   ·refine⟨_,h.2,fun lo hg bs ρ H w eval s hx=>?_⟩
    obtain⟨u,v,e,ru,rv⟩:=cut (qqi h.1 hg) (hx' ρ H _ hg (hx x (by simp[Op.operands])))
    exact qcz s (v:=v) (by simp[e,Instr.extract]) rv
   ·exact h.elim
  ·exact h.elim
 ·rename_i t x
  obtain⟨x',h,hx'⟩:=qbm h
  obtain⟨p,h,hp⟩:=qr2 h
  split at h
  ·exact h.elim
  ·rename_i d hd hu
   refine⟨_,h,fun lo hg bs ρ H w eval s hx=>?_⟩
   have rx:=hp ρ H _ (hx' ρ H _ hg (hx x (by simp[Op.operands])))
   refine qcz s (v:=.iface t (eval x)) ?_ (by simp only[qcc,qcp]; exact⟨_,rfl,rx⟩)
   simp only[Instr.makeInterface,Sem.run_bind,run_underlying hu,Result.andThen_ok]
   rfl
  ·exact h.elim
 ·rename_i x t
  obtain⟨x',h,hx'⟩:=qbm h
  obtain⟨fv,h,hs⟩:=zjc h
  refine⟨_,h,fun lo hg bs ρ H w eval s hx=>?_⟩
  obtain⟨v,hr,rv⟩:=hs ρ H w ty _ (hx' ρ H _ hg (hx x (by simp[Op.operands,Call.operands])))
  simp only[execOp,resolve,invoke,builtin,Sem.run_bind,Sem.run_pure,Result.andThen_ok,List.map_toArray,List.map_cons,List.map_nil,hr]
  exact qhu s rv
 ·rename_i f xs ts
  obtain⟨vs,h,hvs⟩:=qsm h
  obtain⟨ps,h,hps⟩:=qta h
  obtain⟨r,hc,h⟩:=h
  refine⟨_,h,fun lo hg bs ρ H w eval s hx=>?_⟩
  have hc:=qqi hc hg
  have rl:=hps ρ H _ (hvs ρ H eval hg (fun y hy=>hx y (by simp[Op.operands,Call.operands,hy])))
  have:=hc H w _ s.sath rl
  have hf:(eval (.func f))=.func (.func f) #[] #[]:=by
   have:=hx (.func f) (by simp[Op.operands,Call.operands])
   simpa[evF,qcc,qcp]using this
  simp only[execOp,resolve,Deferred.ofValue,invoke,hf,Sem.run_bind,Sem.run_pure,Result.andThen_ok,List.map_toArray,Array.empty_append,Array.append_empty]
  exact qxx s this
 ·obtain⟨fv,h,hs⟩:=zcm (dst:=dst) (ty:=ty) (pos:=pos) (after:=after) (guard:=guard) h
  exact⟨fv,h,hs⟩
theorem zb1 {H:PH} {w:World} (s:SatH H w) {b o:Nat} {v:Value} (h:H b o=some v):w.cell? ⟨b,o,none⟩=some v:=(s.cell b o v h).1
theorem qsc {w:World} {t:TypeId} {d:TypeDesc} {i:TypeInfo} (hd:P.underlying t=some d) (hi:P.info? t=some i) {b o:Nat} {vs:List Value}
  (hc:∀ j v,vs[j]? =some v->w.cell? ⟨b,o+j,none⟩=some v) (hn:i.size<=vs.length) (hagg:znh d=true) :
  (Instr.loadAt t (.pointer (some ⟨b,o,none⟩))).run P w=.ok (.agg (vs.take i.size).toArray) w:=by
 have hl:(loadCells ⟨b,o,none⟩ (vs.take i.size).length).run P w=.ok (vs.take i.size).toArray w:=
  run_loadCells_list (P:=P) w ⟨b,o,none⟩ (vs.take i.size) (fun j v hv=>by
   rw[Addr.add_lit]
   rw[List.getElem?_take]at hv
   split at hv
   ·exact hc j v hv
   ·cases hv)
 rw[List.length_take,Nat.min_eq_left hn]at hl
 simp[Instr.loadAt,Instr.sureAddr,loadVar,quy hd,hagg,Go.sizeOf,typeInfo,hi,hl]
theorem qqp {w:World} {t:TypeId} {d:TypeDesc} (hd:P.underlying t=some d) {b o:Nat} {v:Value}
  (hc:w.cell? ⟨b,o,none⟩=some v) (hagg:znh d=false):(Instr.loadAt t (.pointer (some ⟨b,o,none⟩))).run P w=.ok v w:=by
 simp[Instr.loadAt,Instr.sureAddr,loadVar,quy hd,hagg,hc]
theorem q2m {t:TypeId} {lo:List AObj} {x':FV} {R:FV->Prop} (h:qw5 P t lo x' R) :
  ∃ fv,R fv/\∀ (bs:Base) (ρ:List Value) (H:PH) (w:World) (v:Value),SatW bs ρ H lo w->qcc ρ H x' v->∃ a u,v=.pointer (some a)/\(Instr.loadAt t v).run P w=.ok u w/\qcc ρ H fv u:=by
 unfold qw5 at h
 split at h
 ·rename_i k off
  obtain⟨ob,hob,h⟩:=qdt h
  split at h
  ·rename_i bt cells
   obtain⟨h,hoff⟩:=qpu h
   obtain⟨d,i,hd,hi,h⟩:=ql7 h
   split at h
   ·rename_i hagg
    obtain⟨h,hn⟩:=qp0 h
    obtain⟨ps,h,hps⟩:=qta h
    refine⟨_,h,fun bs ρ H w v s hx=>?_⟩
    obtain⟨b,hb,rfl⟩:=hx
    obtain⟨b',vs,e',hg',hcs,_⟩:=s.objs k _ _ hob hb
    cases e'
    refine⟨_,_,rfl,qsc hd hi (qw3 hg' off) (by rw[List.length_drop]at hn ⊢; rw[hcs.length]; exact hn) hagg,?_⟩
    simp only[qcc,qcp]
    exact⟨_,rfl,hps _ _ _ ((hcs.drop off).take _)⟩
   ·rename_i hagg
    split at h
    ·rename_i c r hc
     refine⟨_,h,fun bs ρ H w v s hx=>?_⟩
     obtain⟨b,hb,rfl⟩:=hx
     obtain⟨b',vs,e',hg',hcs,_⟩:=s.objs k _ _ hob hb
     cases e'
     have hd2:=hcs.drop off
     rw[hc]at hd2
     obtain⟨v,vs',e2,rv,_⟩:=hd2
     have:=qw3 hg' off 0 v (by rw[e2]; simp)
     exact⟨_,_,rfl,qqp hd (by simpa using this) hagg,rv⟩
    ·exact h.elim
  ·exact h.elim
 ·rename_i row
  obtain⟨d,i,hd,hi,h⟩:=ql7 h
  split at h
  ·rename_i hagg
   obtain⟨h,hn⟩:=qp0 h
   refine⟨_,h,fun bs ρ H w v s hx=>?_⟩
   obtain⟨b,o',vs,rfl,q,c⟩:=hx
   refine⟨_,_,rfl,qsc hd hi (fun j v hv=>zb1 s.sath (c j v hv)) (by rw[q.length]; exact hn) hagg,?_⟩
   simp only[qcc,qcp]
   exact⟨_,rfl,q.take _⟩
  ·rename_i hagg
   split at h
   ·rename_i c0 r hc
    refine⟨_,h,fun bs ρ H w v s hx=>?_⟩
    obtain⟨b,o',vs,rfl,q,c⟩:=hx
    simp only[qec]at q
    obtain⟨u,vs',e2,rv,_⟩:=q
    have:=zb1 s.sath (c 0 u (by rw[e2]; simp))
    exact⟨_,_,rfl,qqp hd (by simpa using this) hagg,rv⟩
   ·exact h.elim
 ·exact h.elim
theorem zei {o:Oper} {t:TypeId} {x:Operand} (ho:o.op=.load t x) {E:Env} {g:G} {lo:List AObj} {R:FV->Prop} (h:evS E g x fun x=>qw5 P t lo x R) :
  ∃ fv,R fv/\qk2 P o (qb7 E) lo g fv lo:=by
 obtain⟨x',h,hx'⟩:=qbm h
 obtain⟨fv,h,hs⟩:=q2m h
 refine⟨_,h,fun hg bs ρ H w eval s hx=>?_⟩
 obtain⟨a,u,_,hr,ru⟩:=hs bs ρ H w _ s (hx' ρ H _ hg (hx x (by simp[ho,Op.operands])))
 simp only[execOp,ho]
 exact qcz s hr ru
theorem zed {o:Oper} {sr d:TypeId} {x:Operand} (ho:o.op=.convert sr d x) {E:Env} {g:G} {lo:List AObj} {R:FV->Prop} (h:evS E g x fun x=>q6f P g sr d lo x R) :
  ∃ fv,R fv/\qk2 P o (qb7 E) lo g fv lo:=by
 obtain⟨x',h,hx'⟩:=qbm h
 obtain⟨fv,h,hs⟩:=qz5 h
 refine⟨_,h,fun hg bs ρ H w eval s hx=>?_⟩
 obtain⟨u,hr,ru⟩:=hs hg bs ρ H w _ s (hx' ρ H _ hg (hx x (by simp[ho,Op.operands])))
 simp only[execOp,ho]
 exact qcz s hr ru
end
end Ax
end
section
namespace Ax
open Go
theorem qr9.length {H:PH} {z:Nat}:∀ {rows:List (List PV)} {vs:List Value},qr9 H z rows vs->vs.length=rows.length * z
 | [],_,x=>by simp only[qr9]at x; simp[x]
 | r::rs,vs,x=>by
  simp only[qr9]at x
  obtain⟨hz,a,b,rfl,q,y⟩:=x
  rw[List.length_append,q.length,hz,y.length,List.length_cons,Nat.add_mul,Nat.one_mul,Nat.add_comm]
theorem qr9.append {H:PH} {z:Nat}:∀ {rows rows':List (List PV)} {vs us:List Value},qr9 H z rows vs->qr9 H z rows' us->qr9 H z (rows++rows') (vs++us)
 | [],_,vs,us,x,y=>by simp only[qr9]at x; simpa[x]using y
 | r::rs,_,vs,us,x,y=>by
  obtain⟨hz,a,b,e,q,x'⟩:=x
  exact⟨hz,a,b++us,by rw[e,List.append_assoc],q,x'.append y⟩
theorem qsl.flat {H:PH} {b z:Nat}:∀ {o:Nat} {rows:List (List PV)},qsl H b z o rows->∃ vs,qr9 H z rows vs/\∀ j v,vs[j]? =some v->H b (o+j)=some v
 | o,[],_=>⟨[],rfl,fun j v h=>by simp at h⟩
 | o,r::rs,x=>by
  simp only[qsl]at x
  obtain⟨hz,⟨vs,q,c⟩,x'⟩:=x
  obtain⟨us,y,c'⟩:=x'.flat
  refine⟨vs++us,⟨hz,vs,us,rfl,q,y⟩,fun j v hv=>?_⟩
  have hl:vs.length=z:=by rw[q.length,hz]
  rcases Nat.lt_or_ge j vs.length with hj|hj
  ·rw[List.getElem?_append_left hj]at hv; exact c j v hv
  ·rw[List.getElem?_append_right hj]at hv
   have:=c' _ _ hv
   have e:o+z+(j - vs.length)=o+j:=by omega
   rwa [e]at this
theorem qr9.unflat {H:PH} {b z:Nat}:∀ {o:Nat} {rows:List (List PV)} {vs:List Value},qr9 H z rows vs->(∀ j v,vs[j]? =some v->H b (o+j)=some v)->qsl H b z o rows
 | _,[],_,_,_=>by simp[qsl]
 | o,r::rs,vs,x,c=>by
  obtain⟨hz,a,b',rfl,q,y⟩:=x
  have hl:a.length=z:=by rw[q.length,hz]
  simp only[qsl]
  refine⟨hz,⟨a,q,fun j v hv=>c j v ?_⟩,y.unflat fun j v hv=>?_⟩
  ·have:=(List.getElem?_eq_some_iff.1 hv).1
   rw[List.getElem?_append_left this]; exact hv
  ·have:=c (z+j) v (by rw[List.getElem?_append_right (by omega)]; rw[hl,Nat.add_sub_cancel_left]; exact hv)
   rwa [← Nat.add_assoc]at this
theorem q6x {H:PH} {rows:List (List PV)} {v:Value} {z:Nat} (h:qcp H (.sl rows) v) (hz:∀ r∈rows,r.length=z) :
  (rows=[]/\(v=.slice none 0 0\/∃ a cap,v=.slice (some a) 0 cap))\/∃ b o cap vs,v=.slice (some ⟨b,o,none⟩) rows.length cap/\rows.length<=cap/\qr9 H z rows vs/\∀ j u,vs[j]? =some u->H b (o+j)=some u:=by
 simp only[qcp]at h
 rcases h with h|⟨b,o,z',cap,e,hc,r⟩
 ·exact .inl h
 ·refine .inr ⟨b,o,cap,?_⟩
  cases rows with
  | nil=>exact⟨[],e,hc,rfl,fun j u h=>by simp at h⟩
  | cons r0 rs=>
   have:z'=z:=by
    simp only[qsl]at r
    rw[← r.1]; exact hz r0 (by simp)
   subst this
   obtain⟨vs,y,c⟩:=r.flat
   exact⟨vs,e,hc,y,c⟩
theorem SatW.kill {bs:Base} {ρ:List Value} {H:PH} {lo:List AObj} {w:World} (s:SatW bs ρ H lo w) (k:Nat):SatW bs ρ H (lo.set k .dead) w where
 sath:=s.sath
 hlen:=by simpa using s.hlen
 pre:=s.pre
 objs:=fun i o v hi hv=>by
  rw[List.getElem?_set]at hi
  split at hi
  ·split at hi
   ·cases hi; trivial
   ·cases hi
  ·exact s.objs i o v hi hv
 excl:=fun i j o o' v v' b hi hj hv hv' hne hl hl' hb=>by
  rw[List.getElem?_set]at hi hj
  split at hi
  ·split at hi
   ·cases hi; simp[AObj.live]at hl
   ·cases hi
  ·split at hj
   ·split at hj
    ·cases hj; simp[AObj.live]at hl'
    ·cases hj
   ·exact s.excl i j o o' v v' b hi hj hv hv' hne hl hl' hb
 own:=fun i o v b hi hv hl hb=>by
  rw[List.getElem?_set]at hi
  split at hi
  ·split at hi
   ·cases hi; simp[AObj.live]at hl
   ·cases hi
  ·exact s.own i o v b hi hv hl hb
 keep:=s.keep
 leH:=s.leH
 newH:=s.newH
theorem SatW.push {bs:Base} {ρ:List Value} {H H':PH} {lo:List AObj} {w w':World} (s:SatW bs ρ H lo w) {v:Value} {o:AObj} {g:Nat}
  (hv:qcs v=some g\/qcs v=none)
  (hfree:∀ (k:Nat) (o':AObj) (v':Value),lo[k]? =some o'->ρ[k]? =some v'->o'.live=true->qcs v'≠some g)
  (hown:bs.S g\/bs.w0.heap.size<=g) (hle:PH.le H H') (hsat:SatH H' w')
  (hnew:∀ b o v,H' b o=some v->(∃ v,H b o=some v)\/b=g) (hkeep:Keep (fun b=>b=g) w w')
  (hok:q30 (ρ++[v]) H' w' v o):SatW bs (ρ++[v]) H' (lo++[o]) w' where
 sath:=hsat
 hlen:=by simp[s.hlen]
 pre:=s.pre.trans (List.prefix_append _ _)
 objs:=fun i ob u hi hu=>by
  rw[List.getElem?_append]at hi hu
  rw[s.hlen]at hu
  split at hi
  ·rename_i hlt
   simp only[hlt,if_true]at hu
   cases hl:ob.live with
   | false=>cases ob<;>simp[AObj.live]at hl; trivial
   | true=>
    refine(s.objs i ob u hi hu).keep (List.prefix_append _ _) hle (fun b hb hlt'=>hkeep.block b hlt' (fun e=>hfree i ob u hi hu hl (by rw[hb,e]))) (fun b o' hb _ hn=>?_)
    cases hx:H' b o' with
    | none=>rfl
    | some x=>
     rcases hnew b o' x hx with ⟨y,hy⟩|e
     ·rw[hn]at hy; cases hy
     ·exact absurd (by rw[hb,e]) (hfree i ob u hi hu hl)
  ·rename_i hlt
   simp only[hlt,if_false]at hu
   have h1:=(List.getElem?_eq_some_iff.1 hi).1
   simp at h1
   have h0:i - lo.length=0:=by omega
   rw[h0]at hi hu
   simp at hi hu
   subst hi; subst hu
   exact hok
 excl:=fun i j oi oj vi vj b hi hj hvi hvj hne hli hlj hb=>by
  rw[List.getElem?_append]at hi hj hvi hvj
  rw[s.hlen]at hvi hvj
  have last:∀ {x:Nat} {ob:AObj} {u:Value},¬ x<lo.length->[o][x - lo.length]? =some ob->[v][x - lo.length]? =some u->x=lo.length/\u=v:=by
   intro x ob u hx h1 h2
   have:=(List.getElem?_eq_some_iff.1 h1).1
   simp at this
   have h0:x - lo.length=0:=by omega
   rw[h0]at h2
   simp at h2
   exact⟨by omega,h2.symm⟩
  by_cases h1:i<lo.length<;>by_cases h2:j<lo.length<;>simp only[h1,h2,if_true,if_false]at hi hj hvi hvj
  ·exact s.excl i j oi oj vi vj b hi hj hvi hvj hne hli hlj hb
  ·obtain⟨_,rfl⟩:=last h2 hj hvj
   intro hb'
   rcases hv with hv|hv
   ·rw[hv]at hb'; cases hb'; exact hfree i oi vi hi hvi hli hb
   ·rw[hv]at hb'; cases hb'
  ·obtain⟨_,rfl⟩:=last h1 hi hvi
   intro hb'
   rcases hv with hv|hv
   ·rw[hv]at hb; cases hb; exact hfree j oj vj hj hvj hlj hb'
   ·rw[hv]at hb; cases hb
  ·obtain⟨e1,_⟩:=last h1 hi hvi
   obtain⟨e2,_⟩:=last h2 hj hvj
   omega
 own:=fun i ob u b hi hu hl hb=>by
  rw[List.getElem?_append]at hi hu
  rw[s.hlen]at hu
  split at hi
  ·rename_i hlt
   simp only[hlt,if_true]at hu
   exact s.own i ob u b hi hu hl hb
  ·rename_i hlt
   simp only[hlt,if_false]at hu
   have h1:=(List.getElem?_eq_some_iff.1 hi).1
   simp at h1
   have h0:i - lo.length=0:=by omega
   rw[h0]at hu
   simp at hu
   subst hu
   rcases hv with hv|hv
   ·rw[hv]at hb; cases hb; exact hown
   ·rw[hv]at hb; cases hb
 keep:=s.keep.step hkeep (fun i hi=>by
  subst hi
  rcases hown with h|h
  ·exact .inl h
  ·exact .inr h)
 leH:=s.leH.trans hle
 newH:=fun b o v hb=>by
  rcases hnew b o v hb with ⟨y,hy⟩|e
  ·exact s.newH b o y hy
  ·subst e; exact .inr hown
theorem SatW.fresh {bs:Base} {ρ:List Value} {H:PH} {lo:List AObj} {w:World} (s:SatW bs ρ H lo w) {g:Nat} (hg:w.heap.size<=g) :
  ∀ (k:Nat) (o':AObj) (v':Value),lo[k]? =some o'->ρ[k]? =some v'->o'.live=true->qcs v'≠some g:=fun k o v hk hv hl hb=>by
 have:=s.objs k o v hk hv
 cases o with
 | dead=>simp[AObj.live]at hl
 | box t cells=>
  obtain⟨b,vs,rfl,hgt,_⟩:=this
  simp[qcs]at hb
  have:=qkh hgt
  omega
 | tail e z n=>
  obtain⟨xs,ho,_⟩:=this
  rcases ho.2 with ⟨rfl,_⟩|⟨g',cap,cur,rfl,_,hgt,_⟩
  ·simp[qcs]at hb
  ·simp[qcs]at hb
   have:=qkh hgt
   omega
 | vec e z n=>
  obtain⟨xs,ho,_⟩:=this
  rcases ho.2 with ⟨rfl,_⟩|⟨g',cap,cur,rfl,_,hgt,_⟩
  ·simp[qcs]at hb
  ·simp[qcs]at hb
   have:=qkh hgt
   omega
 | mp d es mk=>
  obtain⟨b,ents,clock,rfl,hgt,_⟩:=this
  simp[qcs]at hb
  have:=qkh hgt
  omega
 | sit l pos=>
  obtain⟨b,rfl,hgt,_⟩:=this
  simp[qcs]at hb
  have:=qkh hgt
  omega
 | bv l=>
  obtain⟨b,cs,e,cap,lo,hi,rfl,hgt,_⟩:=this
  simp[qcs]at hb
  have:=qkh hgt
  omega
theorem qut (w:World) (o:Obj) (g:Nat):Keep (fun b=>b=g) w (w.alloc o):=
 ⟨rfl,rfl,rfl,by simp,fun k hk _=>heap_alloc_old w o hk⟩
theorem qql (w:World) (o:Obj) (g:Nat):Keep (fun b=>b=g) w (w.drew.alloc o):=
 ⟨rfl,rfl,rfl,by simp,fun k hk _=>heap_alloc_old w.drew o hk⟩
theorem qxw {H:PH} {w:World} (s:SatH H w) (o:Obj):SatH H (w.alloc o):=⟨fun b p v hv=>by
 refine⟨?_,(s.cell b p v hv).2⟩
 rw[World.cell?_alloc_lt (h:=s.lt hv)]
 exact(s.cell b p v hv).1,s.root⟩
theorem SatW.pushBox {bs:Base} {ρ:List Value} {H:PH} {lo:List AObj} {w:World} (s:SatW bs ρ H lo w) {t:TypeId} {cells:List FV} {vs:List Value} (hc:qd9 ρ H cells vs) :
  SatW bs (ρ++[.pointer (some ⟨w.heap.size,0,none⟩)]) H (lo++[.box t cells]) (w.alloc (.cells vs.toArray t)):=by
 refine s.push (g:=w.heap.size) (.inl rfl) (s.fresh (Nat.le_refl _)) (.inr s.keep.size) (PH.le.refl H) (qxw s.sath _) (fun b o v h=>.inl ⟨v,h⟩) (qut w _ _) ?_
 refine⟨w.heap.size,vs,rfl,heap_alloc_new w _,hc.mono (List.prefix_append _ _) (PH.le.refl H),fun o=>?_⟩
 cases hx:H w.heap.size o with
 | none=>rfl
 | some x=>exact absurd (s.sath.lt hx) (Nat.lt_irrefl _)
theorem q52 {ρ:List Value} {H:PH}:∀ {fs:List FV} {vs:List Value},q24 fs=true->qd9 ρ H fs vs->∀ u∈vs,u.oneCell'=true
 | [],vs,_,r,u,hu=>by simp only[qd9]at r; simp[r]at hu
 | f::fs,vs,h,r,u,hu=>by
  simp only[q24]at h
  split at h
  ·rename_i h1
   obtain⟨v,vs',rfl,r1,rs⟩:=r
   rcases List.mem_cons.1 hu with rfl|hu
   ·exact(qsu h1 r1).2
   ·exact q52 h rs u hu
  ·cases h
theorem qz2:∀ {c:FV} {R:List FV->Prop},q02 c R->∃ cs,R cs/\∀ (ρ:List Value) (H:PH) (vs:List Value),qcc ρ H c (.tuple vs.toArray)->qd9 ρ H cs vs
 | .cap0,R,h=>⟨[],h,fun ρ H vs r=>by
   simp only[qcc,Value.tuple.injEq]at r
   simpa[qd9]using r⟩
 | .cap a b,R,h=>by
  simp only[q02]at h
  obtain⟨ps,h,hps⟩:=qz2 h
  refine⟨_,h,fun ρ H vs r=>?_⟩
  obtain⟨u,us,e,ra,rb⟩:=r
  have e:vs=u::us:=by simpa using e
  subst e
  exact⟨u,us,rfl,ra,hps _ _ _ rb⟩
 | .top,_,h|.p _,_,h|.opt _ _,_,h|.tsl _ _,_,h|.ptr _ _,_,h|.hptr _,_,h|.bself _,_,h|.bsl _ _ _ _,_,h|.vsl _ _,_,h|.eptr _ _ _ _,_,h|.mref _,_,h|.pair _ _,_,h|.stmp _,_,h|.clo _ _,_,h|.fagg _,_,h|.nxt _ _ _,_,h=>by
  simp[q02]at h
theorem qz0 {f:FV} {R:List FV->Prop} (h:qy2 f R):∃ cs,R cs/\∀ (ρ:List Value) (H:PH) (x:Value),qcc ρ H f x->qd9 ρ H cs x.cells.toList:=by
 unfold qy2 at h
 split at h
 ·rename_i cs
  refine⟨_,qw8 h,fun ρ H x r=>?_⟩
  simp only[qcc,qcp]at r
  obtain⟨vs,rfl,q⟩:=r
  simpa[Value.cells]using qd9.of_RepL q
 ·rename_i c
  obtain⟨cs,h,hcs⟩:=qz2 h
  refine⟨_,h,fun ρ H x r=>?_⟩
  obtain⟨vs,rfl,rc⟩:=r
  simpa[Value.cells]using hcs ρ H vs rc
 ·split at h
  ·rename_i h1
   refine⟨_,h,fun ρ H x r=>?_⟩
   rw[(qsu h1 r).1]
   exact⟨x,[],rfl,r,rfl⟩
  ·exact h.elim
theorem zhb {P:Program} {t:TypeId} {R:List PV->Prop} (h:zou P t R):∃ i z ps,P.info? t=some i/\i.zero=some z/\R ps/\∀ H,qec H ps z.cells.toList:=by
 unfold zou at h
 split at h
 ·rename_i i hi
  split at h
  ·rename_i vs hz
   obtain⟨ps,hr,hs⟩:=quv h
   exact⟨i,_,ps,hi,hz,hr,fun H=>by simpa[Value.cells]using hs H⟩
  ·rename_i v hne hz
   obtain⟨ps,hr,hs⟩:=quv h
   refine⟨i,v,ps,hi,hz,hr,fun H=>?_⟩
   have:v.cells = #[v]:=by
    cases v<;>first|rfl|skip
    rename_i cs
    exact absurd rfl (hne cs.toList)
   rw[this]
   simpa using hs H
  ·exact h.elim
 ·exact h.elim
theorem SatW.setBox {bs:Base} {ρ:List Value} {H:PH} {lo:List AObj} {w:World} (s:SatW bs ρ H lo w) {k b:Nat} {t:TypeId} {old cells:List FV} {vs0 vs:List Value}
  (hk:lo[k]? =some (.box t old)) (hv:ρ[k]? =some (.pointer (some ⟨b,0,none⟩))) (hg:w.heap[b]? =some (.cells vs0.toArray t (0,0))) (hH:∀ o,H b o=none)
  (hc:qd9 ρ H cells vs):SatW bs ρ H (lo.set k (.box t cells)) (w.setRow b vs.toArray) where
 sath:=s.sath.block fun b' o v hb=>setRow_other w b b' _ (fun e=>by subst e; rw[hH o]at hb; cases hb)
 hlen:=by simpa using s.hlen
 pre:=s.pre
 objs:=fun i o v hi hv'=>by
  rw[List.getElem?_set]at hi
  split at hi
  ·rename_i e
   subst e
   split at hi
   ·cases hi
    rw[hv]at hv'
    cases hv'
    exact⟨b,vs,rfl,setRow_heap w b _ _ t _ hg,hc,hH⟩
   ·cases hi
  ·rename_i hne
   cases hl:o.live with
   | false=>cases o<;>simp[AObj.live]at hl; trivial
   | true=>
    have hex:=s.excl k i _ o _ v b hk hi hv hv' hne rfl hl rfl
    exact(s.objs i o v hi hv').keep (List.prefix_refl _) (PH.le.refl H) (fun b' hb' _=>setRow_other w b b' _ (fun e=>hex (by rw[hb',e]))) (fun b' o' _ _ hn=>hn)
 excl:=fun i j oi oj vi vj b' hi hj hvi hvj hne hli hlj hb=>by
  rw[List.getElem?_set]at hi hj
  have live:∀ {x:Nat} {ob:AObj},(if k=x then if k<lo.length then some (AObj.box t cells)else none else lo[x]?)=some ob->ob.live=true->∃ o',lo[x]? =some o'/\o'.live=true:=by
   intro x ob h hl
   split at h
   ·rename_i e; subst e; exact⟨_,hk,rfl⟩
   ·exact⟨ob,h,hl⟩
  obtain⟨o1,h1,l1⟩:=live hi hli
  obtain⟨o2,h2,l2⟩:=live hj hlj
  exact s.excl i j o1 o2 vi vj b' h1 h2 hvi hvj hne l1 l2 hb
 own:=fun i o v b' hi hv' hl hb=>by
  rw[List.getElem?_set]at hi
  split at hi
  ·rename_i e; subst e; exact s.own k _ v b' hk hv' rfl hb
  ·exact s.own i o v b' hi hv' hl hb
 keep:=s.keep.step (S':=fun x=>x=b) ⟨rfl,rfl,rfl,by simp,fun x _ hx=>setRow_other w b x _ hx⟩ (fun i hi=>by
  subst hi
  exact s.own k _ _ i hk hv rfl rfl)
 leH:=s.leH
 newH:=s.newH
end Ax
end
section
namespace Ax
open Go
theorem SatW.upd {bs:Base} {ρ:List Value} {H:PH} {lo:List AObj} {w w':World} (s:SatW bs ρ H lo w) {k b:Nat} {o o':AObj} {v:Value}
  (hk:lo[k]? =some o) (hv:ρ[k]? =some v) (hl:o.live=true) (hb:qcs v=some b) (hH:∀ i,H b i=none) (hkeep:Keep (fun x=>x=b) w w') (hob:q30 ρ H w' v o'):SatW bs ρ H (lo.set k o') w' where
 sath:=s.sath.block fun b' i u hu=>hkeep.block b' (s.sath.lt hu) (fun e=>by subst e; rw[hH i]at hu; cases hu)
 hlen:=by simpa using s.hlen
 pre:=s.pre
 objs:=fun i oi vi hi hvi=>by
  rw[List.getElem?_set]at hi
  split at hi
  ·rename_i e
   subst e
   split at hi
   ·cases hi
    rw[hv]at hvi
    cases hvi
    exact hob
   ·cases hi
  ·rename_i hne
   cases hli:oi.live with
   | false=>cases oi<;>simp[AObj.live]at hli; trivial
   | true=>
    have hex:=s.excl k i _ oi _ vi b hk hi hv hvi hne hl hli hb
    exact(s.objs i oi vi hi hvi).keep (List.prefix_refl _) (PH.le.refl H) (fun b' hb' hlt=>hkeep.block b' hlt (fun e=>hex (by rw[hb',e]))) (fun b' i' _ _ hn=>hn)
 excl:=fun i j oi oj vi vj b' hi hj hvi hvj hne hli hlj hbi=>by
  rw[List.getElem?_set]at hi hj
  have live:∀ {x:Nat} {ob:AObj},(if k=x then if k<lo.length then some o' else none else lo[x]?)=some ob->ob.live=true->∃ o2,lo[x]? =some o2/\o2.live=true:=by
   intro x ob h hl'
   split at h
   ·rename_i e; subst e; exact⟨_,hk,hl⟩
   ·exact⟨ob,h,hl'⟩
  obtain⟨o1,h1,l1⟩:=live hi hli
  obtain⟨o2,h2,l2⟩:=live hj hlj
  exact s.excl i j o1 o2 vi vj b' h1 h2 hvi hvj hne l1 l2 hbi
 own:=fun i oi vi b' hi hvi hli hbi=>by
  rw[List.getElem?_set]at hi
  split at hi
  ·rename_i e; subst e; exact s.own k _ vi b' hk hvi hl hbi
  ·exact s.own i oi vi b' hi hvi hli hbi
 keep:=s.keep.step hkeep (fun i hi=>by
  subst hi
  exact s.own k _ _ i hk hv hl hb)
 leH:=s.leH
 newH:=s.newH
def AObj.boxy:AObj->Bool
 | .box _ _=>true
 | .mp _ _ _=>true
 | _=>false
def qg4 (b:Bool) (lo lo':List AObj):Prop:=lo.length<=lo'.length/\(b=true->∀ k ob,k<lo.length->ob.boxy=true->(lo[k]? =some ob↔lo'[k]? =some ob))
theorem qg4.push {b:Bool} {lo:List AObj} (o:AObj):qg4 b lo (lo++[o]):=⟨by simp,fun _ k ob hk _=>by rw[List.getElem?_append_left hk]⟩
theorem qg4.set {lo:List AObj} (k:Nat) (o:AObj):qg4 false lo (lo.set k o):=⟨by simp,fun h=>by cases h⟩
theorem qg4.len {lo lo':List AObj} (h:lo'.length=lo.length):qg4 false lo lo':=⟨by omega,fun h=>by cases h⟩
theorem qg4.kill {b:Bool} {lo:List AObj} {k0:Nat} {o0:AObj} (o:AObj) (h:lo[k0]? =some o0) (h0:o0.boxy=false):qg4 b lo (lo.set k0 .dead++[o]):=⟨by simp,fun _ k ob hk hb=>by
 rw[List.getElem?_append_left (by simpa using hk),List.getElem?_set]
 split
 ·rename_i e
  subst e
  rw[if_pos hk,h]
  constructor
  ·intro e; cases e; rw[h0]at hb; cases hb
  ·intro e; cases e; cases hb
 ·exact Iff.rfl⟩
section
variable {P:Program} {w:World}
theorem zgm {d' d:TypeDesc} {kp:PV} {R:Prop} (h:zen d' d kp R):R/\d'=d/\∀ (H:PH) (v:Value),qcp H kp v->MapKept.IsKey d v:=by
 unfold zen at h
 split at h
 ·exact⟨h,rfl,fun H v r=>by simp only[qcp]at r; subst r; trivial⟩
 ·exact⟨h,rfl,fun H v r=>by simp only[qcp]at r; subst r; trivial⟩
 ·split at h
  ·rename_i h1
   split at h
   ·rename_i h2
    have h1:=qtd h1
    have h2:=qtd h2
    subst h1; subst h2
    exact⟨h,rfl,fun H v r=>by simp only[qcp]at r; subst r; rfl⟩
   ·exact h.elim
  ·exact h.elim
 ·exact h.elim
theorem zcs {t:TypeId} {d:TypeDesc} {kp:PV} {R:TypeId->Prop} (h:zm8 P t d kp R):∃ kt et,R et/\P.underlying t=some (.map kt et)/\P.underlying kt=some d/\∀ (H:PH) (v:Value),qcp H kp v->MapKept.IsKey d v:=by
 unfold zm8 at h
 split at h
 ·rename_i kt et ht
  split at h
  ·rename_i d' hd
   obtain⟨h2,rfl,hk⟩:=zgm h
   exact⟨kt,et,h2,ht,hd,hk⟩
  ·exact h.elim
 ·exact h.elim
theorem zh6 {a b:List UInt8}:(Value.string ⟨a.toArray⟩=Value.string ⟨b.toArray⟩)↔a=b:=by
 constructor
 ·intro h
  injection h with h
  injection h with h
  simpa using h
 ·rintro rfl; rfl
theorem zi9 {H:PH} {d:TypeDesc} {p q:PV} {x y:Value} (hp:qcp H p x) (hq:qcp H q y) (hx:MapKept.IsKey d x) (hy:MapKept.IsKey d y):zk4 p q=true↔y=x:=by
 have b1:∀ {p:PV} {b:Bool},qcp H p (.bool b)->p=.bool b:=by
  intro p b h
  cases p<;>simp only[qcp]at h<;>(try (obtain⟨_,h,_⟩:=h; cases h))<;>(try (rcases h with ⟨_,h|⟨_,_,h⟩⟩|⟨_,_,_,_,h,_⟩<;>cases h))<;>try cases h
  rfl
 have b2:∀ {p:PV} {k:IntKind} {n:Int},qcp H p (.int k n)->p=.int k n:=by
  intro p k n h
  cases p<;>simp only[qcp]at h<;>(try (obtain⟨_,h,_⟩:=h; cases h))<;>(try (rcases h with ⟨_,h|⟨_,_,h⟩⟩|⟨_,_,_,_,h,_⟩<;>cases h))<;>try cases h
  rfl
 have b3:∀ {p:PV} {b:ByteArray},qcp H p (.string b)->∃ l:List UInt8,p=.str l/\b=⟨l.toArray⟩:=by
  intro p b h
  cases p<;>simp only[qcp]at h<;>(try (obtain⟨_,h,_⟩:=h; cases h))<;>(try (rcases h with ⟨_,h|⟨_,_,h⟩⟩|⟨_,_,_,_,h,_⟩<;>cases h))<;>try cases h
  exact⟨_,rfl,rfl⟩
 cases d<;>cases x<;>cases y<;>simp only[MapKept.IsKey]at hx hy
 ·rw[b1 hp,b1 hq]
  simp only[zk4,beq_iff_eq]
  exact⟨fun h=>by rw[h],fun h=>by injection h with h; exact h.symm⟩
 ·subst hx; subst hy
  rw[b2 hp,b2 hq]
  simp only[zk4,beq_iff_eq]
  exact⟨fun h=>by rw[h],fun h=>by injection h with _ h; exact h.symm⟩
 ·obtain⟨l,rfl,rfl⟩:=b3 hp
  obtain⟨m,rfl,rfl⟩:=b3 hq
  simp only[zk4,beq_iff_eq,zh6]
  exact eq_comm
theorem q6c {H:PH} {d:TypeDesc} {kp:PV} {k:Value} (hkp:qcp H kp k) (hk:MapKept.IsKey d k):∀ (es:List (PV×PV)) (l:List MapEntry) (i:Nat),zag H es l->(∀ x∈l,MapKept.IsKey d x.key) ->
  (q4k kp es=none/\Instr.findNow d k l i=some none/\(∀ x∈l,x.key≠k)/\∀ vp,zk5 kp vp es=es++[(kp,vp)]) \/
  ∃ j e p,q4k kp es=some p/\Instr.findNow d k l i=some (some (i+j,e.val))/\l[j]? =some e/\e.key=k/\qcp H p e.val/\∀ vp,zk5 kp vp es=es.set j (kp,vp)
 | [],l,i,r,_=>by
  simp only[zag]at r
  subst r
  exact .inl ⟨rfl,rfl,by simp,fun _=>rfl⟩
 | (p,q)::es,l,i,r,h=>by
  obtain⟨e,l',rfl,rk,rv,rr⟩:=r
  have he:=h e (.head _)
  obtain⟨b,hb,hiff⟩:=MapKept.sameNow_of_keys hk he
  have hke:=zi9 hkp rk hk he
  cases b with
  | true=>
   have heq:=hiff.1 rfl
   have hkk:zk4 kp p=true:=hke.2 heq.symm
   exact .inr ⟨0,e,q,by simp[q4k,hkk],by simp[Instr.findNow,hb],rfl,heq.symm,rv,fun vp=>by simp[zk5,hkk]⟩
  | false=>
   have hne:e.key≠k:=fun q=>by have:=hiff.2 q.symm; cases this
   have hkk:zk4 kp p=false:=by
    cases hx:zk4 kp p with
    | false=>rfl
    | true=>exact absurd (hke.1 hx) hne
   rcases q6c hkp hk es l' (i+1) rr (fun x hx=>h x (.tail _ hx))with ⟨h1,h2,h3,h4⟩|⟨j,e',p',h1,h2,h3,h4,h5,h6⟩
   ·refine .inl ⟨by simp[q4k,hkk,h1],by simp[Instr.findNow,hb,h2],fun x hx=>?_,fun vp=>by simp[zk5,hkk,h4]⟩
    cases hx with
    | head=>exact hne
    | tail _ hx=>exact h3 x hx
   ·exact .inr ⟨j+1,e',p',by simp[q4k,hkk,h1],by simp[Instr.findNow,hb,h2]; omega,by simpa using h3,h4,h5,fun vp=>by simp[zk5,hkk,h6]⟩
theorem zag.length {H:PH}:∀ {es:List (PV×PV)} {l:List MapEntry},zag H es l->l.length=es.length
 | [],l,r=>by simp only[zag]at r; simp[r]
 | (_,_)::es,l,r=>by
  obtain⟨e,l',rfl,_,_,rr⟩:=r
  simp[rr.length]
theorem zag.push {H:PH}:∀ {es:List (PV×PV)} {l:List MapEntry} {k v:PV} {e:MapEntry},zag H es l->qcp H k e.key->qcp H v e.val->zag H (es++[(k,v)]) (l++[e])
 | [],l,k,v,e,r,rk,rv=>by
  simp only[zag]at r
  subst r
  exact⟨e,[],rfl,rk,rv,rfl⟩
 | (_,_)::es,l,k,v,e,r,rk,rv=>by
  obtain⟨e',l',rfl,r1,r2,rr⟩:=r
  exact⟨e',l'++[e],rfl,r1,r2,rr.push rk rv⟩
theorem zag.set {H:PH}:∀ {es:List (PV×PV)} {l:List MapEntry} {j:Nat} {k v:PV} {e:MapEntry},zag H es l->qcp H k e.key->qcp H v e.val->zag H (es.set j (k,v)) (l.set j e)
 | [],l,j,k,v,e,r,rk,rv=>by
  simp only[zag]at r
  subst r
  simp[zag]
 | (_,_)::es,l,j,k,v,e,r,rk,rv=>by
  obtain⟨e',l',rfl,r1,r2,rr⟩:=r
  cases j with
  | zero=>exact⟨e,l',rfl,rk,rv,rr⟩
  | succ j=>exact⟨e',l'.set j e,rfl,r1,r2,rr.set rk rv⟩
theorem zhc {t:TypeId} {R:PV->Prop} (h:zdo P t R):∃ p z,R p/\(∀ w,(zeroValue t).run P w=.ok z w)/\∀ H,qcp H p z:=by
 unfold zdo at h
 split at h
 ·rename_i i hi
  split at h
  ·rename_i vs hz
   obtain⟨ps,h,hps⟩:=quv h
   exact⟨.agg ps,.agg ⟨vs⟩,h,fun w=>by simp[zeroValue,typeInfo,hi,hz],fun H=>by simp only[qcp]; exact⟨vs,rfl,hps H⟩⟩
  ·rename_i v hne hz
   split at h
   ·rename_i p hp
    exact⟨p,v,h,fun w=>by simp[zeroValue,typeInfo,hi,hz],fun H=>q6q hp H⟩
   ·exact h.elim
  ·exact h.elim
 ·exact h.elim
theorem zcl {g:G} {t:TypeId} {lo:List AObj} {x key:FV} {ok:Bool} {R:FV->Prop} (h:qvk P g t lo x key ok R) :
  ∃ fv,R fv/\((∃ k o,x=.mref k/\lo[k]? =some o/\o.live=true)/\(gOn g->∀ (bs:Base) (ρ:List Value) (H:PH) (w:World) (a b:Value),SatW bs ρ H lo w->qcc ρ H x a->qcc ρ H key b ->
   ∃ v,(Instr.lookup t a b ok).run P w=.ok v w/\qcc ρ H fv v)):=by
 unfold qvk at h
 split at h
 ·rename_i k kp
  have h0:=qdt h; clear h; obtain⟨o,ho,h⟩:=h0
  split at h
  ·rename_i d es mk
   have h0:=zcs h; clear h; obtain⟨kt,et,h,ht,hd,hkey⟩:=h0
   have h0:=zhc h; clear h; obtain⟨z,zv,h,hz,rz⟩:=h0
   obtain⟨v,b,hvb,h⟩:=h
   refine⟨_,h,⟨k,_,rfl,ho,rfl⟩,fun hg bs ρ H w a kv s ra rk=>?_⟩
   obtain⟨hv,hb⟩:=qqi hvb hg
   obtain⟨bl,hρ,rfl⟩:=ra
   obtain⟨bl',ents,clock,e,hheap,rm,⟨hst,hks,_⟩,_⟩:=s.objs k _ _ ho hρ
   cases e
   have hik:=hkey H kv rk
   rcases q6c rk hik es ents.toList 0 rm hks with ⟨h1,h2,_,_⟩|⟨j,e,p,h1,h2,_,_,h5,_⟩
   ·rw[h1]at hv hb
    simp only[Option.getD_none,Option.isSome_none]at hv hb
    subst hv; subst hb
    cases ok
    ·exact⟨zv,by simp[Instr.lookup,run_underlying ht,MapKept.run_getObj_map hheap,MapKept.run_checkKey hd hik,MapKept.run_findKey hd h2,hz],rz H⟩
    ·exact⟨.tuple #[zv,.bool false],by simp[Instr.lookup,run_underlying ht,MapKept.run_getObj_map hheap,MapKept.run_checkKey hd hik,MapKept.run_findKey hd h2,hz],by
      simp only[qcc,qcp]
      exact⟨[zv,.bool false],rfl,by simp only[qec]; exact⟨zv,_,rfl,rz H,.bool false,[],rfl,by simp[qcp],rfl⟩⟩⟩
   ·rw[h1]at hv hb
    simp only[Option.getD_some,Option.isSome_some]at hv hb
    subst hv; subst hb
    cases ok
    ·exact⟨e.val,by simp[Instr.lookup,run_underlying ht,MapKept.run_getObj_map hheap,MapKept.run_checkKey hd hik,MapKept.run_findKey hd h2],h5⟩
    ·exact⟨.tuple #[e.val,.bool true],by simp[Instr.lookup,run_underlying ht,MapKept.run_getObj_map hheap,MapKept.run_checkKey hd hik,MapKept.run_findKey hd h2],by
      simp only[qcc,qcp]
      exact⟨[e.val,.bool true],rfl,by simp only[qec]; exact⟨e.val,_,rfl,h5,.bool true,[],rfl,by simp[qcp],rfl⟩⟩⟩
  ·exact h.elim
 ·exact h.elim
theorem zgk {t:TypeId} {lo:List AObj} {x:FV} {R:FV->Prop} (h:znt P t lo x R) :
  ∃ fv,R fv/\∀ (bs:Base) (ρ:List Value) (H:PH) (w:World) (ty:TypeId) (a:Value),SatW bs ρ H lo w->qcc ρ H x a->∃ v,(Builtin.len_ #[t] ty #[a]).run P w=.ok v w/\qcc ρ H fv v:=by
 unfold znt at h
 split at h
 ·rename_i k
  have h0:=qdt h; clear h; obtain⟨o,ho,h⟩:=h0
  split at h
  ·rename_i d es mk
   split at h
   ·rename_i kt et ht
    obtain⟨n,hn,h⟩:=h
    refine⟨_,h,fun bs ρ H w ty a s ra=>⟨.int .i64 n,?_,qqk⟩⟩
    obtain⟨bl,hρ,rfl⟩:=ra
    obtain⟨bl',ents,clock,e,hheap,rm,_⟩:=s.objs k _ _ ho hρ
    cases e
    have:=rm.length
    simp at this
    simp[Builtin.len_,run_underlying ht,MapKept.run_getObj_map hheap,goInt,this,hn]
   ·exact h.elim
  ·exact h.elim
 ·exact h.elim
theorem q4q (w:World) (b:Nat) (o:Obj):Keep (fun x=>x=b) w { w with heap:=w.heap.setIfInBounds b o }:=
 ⟨rfl,rfl,rfl,by simp,fun k _ hk=>by simp[Ne.symm hk]⟩
theorem q4i {es:Array MapEntry} {j:Nat} {f:MapEntry->MapEntry} {e:MapEntry} (h:es[j]? =some e):(es.modify j f).toList=es.toList.set j (f e):=by
 apply List.ext_getElem?
 intro i
 simp only[Array.getElem?_toList,Array.getElem?_modify,List.getElem?_set]
 by_cases hij:j=i
 ·subst hij
  obtain⟨h1,h2⟩:=Array.getElem?_eq_some_iff.1 h
  simp[h1,h2]
 ·simp[hij]
theorem zer {bs:Base} {ρ:List Value} {H:PH} {lo:List AObj} (s:SatW bs ρ H lo w) {t kt et:TypeId} {d:TypeDesc} (ht:P.underlying t=some (.map kt et)) (hd:P.underlying kt=some d)
  {j:Nat} {es:List (PV×PV)} {mk:Option (PV×Nat)} (ho:lo[j]? =some (.mp d es mk)) {m k x:Value} (rm:qcc ρ H (.mref j) m) {kp vp:PV} (rk:qcp H kp k) (rx:qcp H vp x) (hk:MapKept.IsKey d k) :
  ∃ w',(Instr.mapUpdate t m k x).run P w=.ok () w'/\SatW bs ρ H (lo.set j (.mp d (zk5 kp vp es) none)) w':=by
 obtain⟨bl,hρ,rfl⟩:=rm
 obtain⟨bl',ents,clock,e,hheap,rmm,⟨hst,hks,_⟩,hH⟩:=s.objs j _ _ ho hρ
 cases e
 rcases q6c rk hk es ents.toList 0 rmm hks with ⟨_,h2,h3,h4⟩|⟨i,e,p,_,h2,h3,h5,_,h6⟩
 ·refine⟨{ w with heap:=w.heap.setIfInBounds bl (.map (ents.push { key:=k,val:=x,born:=clock }) (clock+1)) },?_,s.upd ho hρ rfl rfl hH (q4q w bl _) ?_⟩
  ·simp[Instr.mapUpdate,run_underlying ht,MapKept.run_getObj_map hheap,MapKept.run_checkKey hd hk,MapKept.run_findKey hd h2,MapKept.run_setObj_map _ hheap]
  ·refine⟨bl,_,_,rfl,(MapKept.heap_set hheap).1,?_,⟨MapKept.stamped_push hst h3,?_,fun _ _ h=>by cases h⟩,hH⟩
   ·rw[h4,Array.toList_push]
    exact rmm.push rk rx
   ·intro y hy
    simp only[Array.toList_push,List.mem_append,List.mem_singleton]at hy
    rcases hy with hy|rfl
    ·exact hks y hy
    ·exact hk
 ·have hi:ents[i]? =some e:=by simpa using h3
  refine⟨{ w with heap:=w.heap.setIfInBounds bl (.map (ents.modify i fun e=>{ e with key:=k,val:=x }) clock) },?_,s.upd ho hρ rfl rfl hH (q4q w bl _) ?_⟩
  ·simp[Instr.mapUpdate,run_underlying ht,MapKept.run_getObj_map hheap,MapKept.run_checkKey hd hk,MapKept.run_findKey hd h2,hi,h5,MapKept.run_keyThatStays hk,MapKept.run_setObj_map _ hheap]
  ·have hkey:∀ e',ents[i]? =some e'->({ e' with key:=k,val:=x }:MapEntry).key=e'.key:=fun e' he'=>by rw[hi]at he'; cases he'; exact h5.symm
   refine⟨bl,_,_,rfl,(MapKept.heap_set hheap).1,?_,⟨MapKept.stamped_modify hst _ _ (fun _ _=>rfl) (fun e' _ he'=>hkey e' he'),MapKept.isKey_modify hks _ _ hkey,fun _ _ h=>by cases h⟩,hH⟩
   rw[h6,q4i hi]
   exact rmm.set rk rx
theorem SatW.pushMap {bs:Base} {ρ:List Value} {H:PH} {lo:List AObj} (s:SatW bs ρ H lo w) {d:TypeDesc} :
  SatW bs (ρ++[.map (some w.heap.size)]) H (lo++[.mp d [] none]) (w.alloc (.map #[] 0)):=by
 refine s.push (g:=w.heap.size) (.inl rfl) (s.fresh (Nat.le_refl _)) (.inr s.keep.size) (PH.le.refl H) (qxw s.sath _) (fun b o v h=>.inl ⟨v,h⟩) (qut w _ _) ?_
 refine⟨w.heap.size,#[],0,rfl,heap_alloc_new w _,rfl,⟨MapKept.stamped_empty 0,by simp,fun _ _ h=>by cases h⟩,fun o=>?_⟩
 cases hx:H w.heap.size o with
 | none=>rfl
 | some x=>exact absurd (s.sath.lt hx) (Nat.lt_irrefl _)
theorem qy9 {b:Nat} {l:ByteArray} {p:Nat} (h:w.heap[b]? =some (.stringIter l p)):(getObj b).run P w=.ok (.stringIter l p) w:=by
 simp[getObj,Sem.run,h]
theorem q8c {b:Nat} {l:ByteArray} {p:Nat} (o':Obj) (h:w.heap[b]? =some (.stringIter l p)):(setObj b o').run P w=.ok () { w with heap:=w.heap.setIfInBounds b o' }:=by
 simp[setObj,Sem.run,h]
theorem zcg {b:Nat} {o o':Obj} (h:w.heap[b]? =some o):(w.heap.setIfInBounds b o')[b]? =some o':=by
 have:=(Array.getElem?_eq_some_iff.1 h).1
 simp[this]
theorem zax {α:Type} {l:List α} {k:Nat} {a:α} (h:l[k]? =some a):l.set k a=l:=by
 apply List.ext_getElem?
 intro i
 rw[List.getElem?_set]
 split
 ·rename_i e
  subst e
  split
  ·exact h.symm
  ·rename_i hn
   simp[List.getElem?_eq_none (Nat.le_of_not_lt hn)]
 ·rfl
theorem SatW.pushSit {bs:Base} {ρ:List Value} {H:PH} {lo:List AObj} (s:SatW bs ρ H lo w) {l:List UInt8} :
  SatW bs (ρ++[.pointer (some ⟨w.heap.size,0,none⟩)]) H (lo++[.sit l 0]) (w.alloc (.stringIter ⟨l.toArray⟩ 0)):=by
 refine s.push (g:=w.heap.size) (.inl rfl) (s.fresh (Nat.le_refl _)) (.inr s.keep.size) (PH.le.refl H) (qxw s.sath _) (fun b o v h=>.inl ⟨v,h⟩) (qut w _ _) ?_
 refine⟨w.heap.size,rfl,heap_alloc_new w _,fun o=>?_⟩
 cases hx:H w.heap.size o with
 | none=>rfl
 | some x=>exact absurd (s.sath.lt hx) (Nat.lt_irrefl _)
theorem q1c {E:Env} {lo:List AObj} {t:TypeId} {m k x:Operand} {R:FV->List AObj->Prop} (h:zau P E lo t m k x R) :
  ∃ fv lo',R fv lo'/\lo'.length=lo.length/\∀ (bs:Base) (ρ:List Value) (H:PH) (w:World) (eval:Operand->Value),SatW bs ρ H lo w->qcc ρ H (evF (qb7 E) m) (eval m)->qcc ρ H (evF (qb7 E) k) (eval k)->qcc ρ H (evF (qb7 E) x) (eval x) ->
   ∃ w',(Instr.mapUpdate t (eval m) (eval k) (eval x)).run P w=.ok () w'/\que bs ρ H fv lo' undef w':=by
 unfold zau at h
 have h0:=qbm h; clear h; obtain⟨m',h,hm'⟩:=h0
 have h0:=qbm h; clear h; obtain⟨k',h,hk'⟩:=h0
 have h0:=qbm h; clear h; obtain⟨x',h,hx'⟩:=h0
 have h0:=qr2 h; clear h; obtain⟨vp,h,hvp⟩:=h0
 split at h
 ·rename_i j kp
  have h0:=qdt h; clear h; obtain⟨o,ho,h⟩:=h0
  split at h
  ·rename_i d es mk
   have h0:=zcs h; clear h; obtain⟨kt,et,h,ht,hd,hkey⟩:=h0
   obtain⟨es',hes,h⟩:=h
   obtain⟨h,hlt⟩:=qkj h
   refine⟨_,_,h,by simp,fun bs ρ H w eval s rm rk rx=>?_⟩
   have rk:=hk' ρ H _ trivial rk
   obtain⟨w',hr,s'⟩:=zer s ht hd ho (hm' ρ H _ trivial rm) rk (hvp ρ H _ (hx' ρ H _ trivial rx)) (hkey H _ rk)
   rw[hes]at s'
   exact⟨w',hr,ρ,H,List.prefix_refl _,PH.le.refl H,s',by simp[qcc,qcp,qec,undef]⟩
  ·exact h.elim
 ·exact h.elim
theorem zjh {d:TypeDesc} {R:Prop} (h:zq1 d R):R:=by
 unfold zq1 at h
 split at h<;>first|exact h|exact h.elim
theorem zee {o:Oper} {E:Env} {lo:List AObj} {R:FV->List AObj->Prop} (h:zns P o.op E lo R):∃ fv lo',R fv lo'/\qg4 (zeu o.op) lo lo'/\qk2 P o (qb7 E) lo none fv lo':=by
 obtain⟨dst,op,ty,pos,after,guard⟩:=o
 simp only at h
 unfold zns at h
 split at h
 ·rename_i t x
  have h0:=qbm h; clear h; obtain⟨x',h,hx'⟩:=h0
  split at h
  ·rename_i l
   split at h
   ·rename_i ht
    have h:=qfz h
    have h:=qhv h
    refine⟨_,_,h,qg4.push _,fun hg bs ρ H w eval s hx=>?_⟩
    have e:=qsb (hx' ρ H _ hg (hx x (by simp[Op.operands])))
    have hr:(Instr.range t (eval x)).run P w=.ok (.pointer (some ⟨w.heap.size,0,none⟩)) (w.alloc (.stringIter ⟨l.toArray⟩ 0)):=by
     simp[Instr.range,e,run_underlying ht]
    simp only[execOp,Sem.run_bind,hr,Result.andThen_ok,Sem.run_pure]
    refine⟨_,H,List.prefix_append _ _,PH.le.refl H,s.pushSit,w.heap.size,by simp[← s.hlen],rfl⟩
   ·exact h.elim
  ·exact h.elim
 ·rename_i x
  have h0:=qbm h; clear h; obtain⟨x',h,hx'⟩:=h0
  split at h
  ·rename_i k
   have h0:=qdt h; clear h; obtain⟨o,ho,h⟩:=h0
   split at h
   ·rename_i l pos
    obtain⟨ok,p',⟨hok,hp⟩,h⟩:=h
    obtain⟨h,hlt⟩:=qkj h
    refine⟨_,_,h,qg4.set _ _,fun hg bs ρ H w eval s hx=>?_⟩
    obtain⟨bl,hρ,ex⟩:=hx' ρ H _ hg (hx x (by simp[Op.operands]))
    obtain⟨bl',e,hheap,hH⟩:=s.objs k _ _ ho hρ
    cases e
    simp only[execOp,Sem.run_bind,ex]
    by_cases hlt:pos<l.length
    ·have hok:ok=true:=by rw[← hok]; simpa using hlt
     subst hok
     have hr:(Instr.next (.pointer (some ⟨bl,0,none⟩)) true ty).run P w=.ok (.tuple #[.bool true,.int .i64 pos,.int .i32 (qor l pos)]) { w with heap:=w.heap.setIfInBounds bl (.stringIter ⟨l.toArray⟩ (q0c l pos)) }:=by
      have hsz:pos<(⟨l.toArray⟩:ByteArray).size:=by rw[ByteArray.size_mk_toArray]; exact hlt
      simp only[Instr.next,Sem.run_bind,qy9 hheap,Result.andThen_ok]
      simp only[hsz,if_true,Sem.run_bind,q8c _ hheap,Result.andThen_ok,Sem.run_pure]
      rfl
     simp only[hr,Result.andThen_ok,Sem.run_pure]
     refine⟨ρ,H,List.prefix_refl _,PH.le.refl H,?_,?_⟩
     ·refine s.upd ho hρ rfl rfl hH (q4q w bl _) ⟨bl,rfl,?_,hH⟩
      rw[← hp]
      exact zcg hheap
     ·simp only[qcc,if_true]
      exact⟨_,_,rfl,by simp[qcp],by simp[qcp]⟩
    ·have hok:ok=false:=by rw[← hok]; simpa using hlt
     subst hok
     have hr:(Instr.next (.pointer (some ⟨bl,0,none⟩)) true ty).run P w=.ok (.tuple #[.bool false]) w:=by
      have hsz:¬ pos<(⟨l.toArray⟩:ByteArray).size:=by rw[ByteArray.size_mk_toArray]; exact hlt
      simp only[Instr.next,Sem.run_bind,qy9 hheap,Result.andThen_ok]
      simp only[hsz,if_false,Sem.run_pure]
     simp only[hr,Result.andThen_ok,Sem.run_pure]
     refine⟨ρ,H,List.prefix_refl _,PH.le.refl H,?_,by simp[qcc]⟩
     have hpp:p'=pos:=by rw[← hp]; rfl
     subst hpp
     rw[show lo.set k (.sit l p')=lo from zax ho]
     exact s
   ·exact h.elim
  ·exact h.elim
 ·rename_i t
  split at h
  ·rename_i kt et ht
   split at h
   ·rename_i d hd
    have h:=zjh h
    have h:=qfz h
    have h:=qhv h
    refine⟨_,_,h,qg4.push _,fun hg bs ρ H w eval s hx=>?_⟩
    have hr:(Instr.makeMap t none).run P w=.ok (.map (some w.heap.size)) (w.alloc (.map #[] 0)):=rfl
    simp only[execOp,Option.map_none,Sem.run_bind,hr,Result.andThen_ok,Sem.run_pure]
    exact⟨_,H,List.prefix_append _ _,PH.le.refl H,s.pushMap,w.heap.size,by simp[← s.hlen],rfl⟩
   ·exact h.elim
  ·exact h.elim
 ·rename_i t m k x
  obtain⟨fv,lo',h,hl,hs⟩:=q1c h
  refine⟨fv,lo',h,qg4.len hl,fun hg bs ρ H w eval s hx=>?_⟩
  obtain⟨w',hr,af⟩:=hs bs ρ H w eval s (hx m (by simp[Op.operands])) (hx k (by simp[Op.operands])) (hx x (by simp[Op.operands]))
  simp only[execOp,Sem.run_bind,hr,Result.andThen_ok,Sem.run_pure]
  exact af
 ·rename_i t m k x
  obtain⟨fv,lo',h,hl,hs⟩:=q1c h
  refine⟨fv,lo',h,qg4.len hl,fun hg bs ρ H w eval s hx=>?_⟩
  obtain⟨w',hr,af⟩:=hs bs ρ H w eval s (hx m (by simp[Op.operands])) (hx k (by simp[Op.operands])) (hx x (by simp[Op.operands]))
  simp only[execOp,Sem.run_bind,hr,Result.andThen_ok,Sem.run_pure]
  exact af
 ·rename_i x t
  have h0:=qbm h; clear h; obtain⟨x',h,hx'⟩:=h0
  split at h
  ·rename_i k
   have h0:=qdt h; clear h; obtain⟨o,ho,h⟩:=h0
   split at h
   ·rename_i d es mk
    split at h
    ·rename_i kt et ht
     obtain⟨h,hlt⟩:=qkj h
     refine⟨_,_,h,qg4.set _ _,fun hg bs ρ H w eval s hx=>?_⟩
     obtain⟨bl,hρ,ex⟩:=hx' ρ H _ hg (hx x (by simp[Op.operands,Call.operands]))
     obtain⟨bl',ents,clock,e,hheap,rmm,_,hH⟩:=s.objs k _ _ ho hρ
     cases e
     simp only[execOp,resolve,invoke,builtin,Sem.run_bind,Sem.run_pure,Result.andThen_ok,List.map_toArray,List.map_cons,List.map_nil,ex]
     have hr:(Builtin.clear_ #[t] ty #[.map (some bl)]).run P w=.ok (.tuple #[]) { w with heap:=w.heap.setIfInBounds bl (.map #[] clock) }:=by
      simp[Builtin.clear_,run_underlying ht,MapKept.run_getObj_map hheap,MapKept.run_setObj_map _ hheap]
     simp only[hr,Result.andThen_ok]
     refine⟨ρ,H,List.prefix_refl _,PH.le.refl H,?_,by simp[qcc,qcp,qec]⟩
     refine s.upd ho hρ rfl rfl hH (q4q w bl (.map #[] clock)) ?_
     exact⟨bl,#[],clock,rfl,(MapKept.heap_set hheap).1,rfl,⟨MapKept.stamped_empty clock,by simp,fun _ _ h=>by cases h⟩,hH⟩
    ·exact h.elim
   ·exact h.elim
  ·exact h.elim
 ·exact h.elim
end
end Ax
end
section
namespace Ax
open Go
theorem qr9.get {H:PH} {z:Nat}:∀ {rows:List (List PV)} {vs:List Value} {i:Nat} {r:List PV},qr9 H z rows vs->rows[i]? =some r ->
  ∃ a,qec H r a/\∀ j u,a[j]? =some u->vs[i * z+j]? =some u
 | [],_,_,_,_,h=>by simp at h
 | q::rs,vs,i,r,x,h=>by
  obtain⟨hz,a,b,rfl,ra,rb⟩:=x
  have hl:a.length=z:=by rw[ra.length,hz]
  cases i with
  | zero=>
   simp at h
   subst h
   refine⟨a,ra,fun j u hu=>?_⟩
   rw[Nat.zero_mul,Nat.zero_add,List.getElem?_append_left (List.getElem?_eq_some_iff.1 hu).1]
   exact hu
  | succ i=>
   obtain⟨c,rc,hc⟩:=rb.get (i:=i) (by simpa using h)
   refine⟨c,rc,fun j u hu=>?_⟩
   have:=hc j u hu
   rw[List.getElem?_append_right (by rw[hl,Nat.add_mul]; omega)]
   have e:(i+1) * z+j - a.length=i * z+j:=by rw[hl,Nat.add_mul]; omega
   rw[e]
   exact this
theorem qr9.over {H:PH} {z:Nat}:∀ {rows:List (List PV)} {vs:List Value} {i off:Nat} {r ps:List PV} {c:List Value},qr9 H z rows vs->rows[i]? =some r->qec H ps c->off+ps.length<=r.length ->
  qr9 H z (rows.set i (r.take off++ps++r.drop (off+ps.length))) (vs.take (i * z+off)++c++vs.drop (i * z+off+c.length))
 | [],_,_,_,_,_,_,_,h,_,_=>by simp at h
 | q::rs,vs,i,off,r,ps,c,x,h,rp,hle=>by
  obtain⟨hz,a,b,rfl,ra,rb⟩:=x
  have hl:a.length=z:=by rw[ra.length,hz]
  have hc:=rp.length
  cases i with
  | zero=>
   simp at h
   subst h
   have hoff:off<=a.length:=by rw[ra.length]; omega
   have hoff2:off+c.length<=a.length:=by rw[ra.length,hc]; omega
   refine⟨?_,a.take off++c++a.drop (off+c.length),b,?_,?_,rb⟩
   ·simp only[List.length_append,List.length_take,List.length_drop]; omega
   ·rw[Nat.zero_mul,Nat.zero_add,List.take_append_of_le_length hoff,List.drop_append_of_le_length hoff2]
    simp
   ·rw[hc]
    exact((ra.take off).append rp).append (ra.drop _)
  | succ i=>
   refine⟨hz,a,b.take (i * z+off)++c++b.drop (i * z+off+c.length),?_,ra,rb.over (by simpa using h) rp hle⟩
   have e1:(i+1) * z+off=a.length+(i * z+off):=by rw[hl,Nat.add_mul]; omega
   rw[e1,List.take_length_add_append,Nat.add_assoc a.length,List.drop_length_add_append]
   simp
theorem zkt {α:Type} {cur c:List α} {p m N:Nat} (hp:p+m<=N) (hm:c.length=m) (hN:N<=cur.length):(cur.take p++c++cur.drop (p+m)).take N=(cur.take N).take p++c++(cur.take N).drop (p+m):=by
 have h1:(cur.take p++c).length=p+m:=by simp[List.length_take,hm]; omega
 rw[List.take_append,h1,List.take_of_length_le (by omega),List.take_take,Nat.min_eq_left (by omega),List.drop_take]
section
variable {P:Program} {w:World}
theorem zdm {ρ:List Value} {H:PH} {e:TypeId} {z:Nat} {rows:List (List PV)} {b n cap:Nat} (h:q30 ρ H w (.slice (some ⟨b,0,none⟩) n cap) (.vec e z rows)) :
  ∃ (cap':Nat) (cur:Array Value) (xs:List Value),n=rows.length/\w.heap[b]? =some (.cells cur e (0,0))/\rows.length<=cap'/\cap'<=maxLen/\cur.size=cap' * z/\cap=cap'/\cur.toList.take (rows.length * z)=xs/\qr9 H z rows xs/\(∀ u∈xs,u.oneCell'=true)/\∀ o,H b o=none:=by
 obtain⟨xs,ho,hr,h1,hh⟩:=h
 rcases ho.2 with ⟨e,_⟩|⟨g,cap',cur,e,_,hg,hn,hm,hs,ht⟩
 ·cases e
 ·cases e
  exact⟨cap,cur,xs,rfl,hg,hn,hm,hs,rfl,ht,hr,h1,hh b rfl⟩
theorem zeh {t:TypeId} {lo:List AObj} {k i off z:Nat} {R:FV->Prop} (h:zjd P t lo k z i off R) :
  ∃ fv,R fv/\∀ (bs:Base) (ρ:List Value) (H:PH) (w:World) (v:Value),SatW bs ρ H lo w->qcc ρ H (.eptr k z i off) v->∃ u,(Instr.loadAt t v).run P w=.ok u w/\qcc ρ H fv u:=by
 unfold zjd at h
 have h0:=qdt h; clear h; obtain⟨o,ho,h⟩:=h0
 split at h
 ·rename_i e z' rows
  obtain⟨row,⟨rfl,hrow⟩,h⟩:=h
  obtain⟨h,hoff⟩:=qpu h
  obtain⟨d,ti,hd,hi,h⟩:=ql7 h
  have cells:∀ (bs:Base) (ρ:List Value) (H:PH) (w:World) (v:Value),SatW bs ρ H lo w->qcc ρ H (.eptr k z' i off) v ->
    ∃ (b:Nat) (a:List Value),v=.pointer (some ⟨b,i * z'+off,none⟩)/\qec H row a/\∀ j u,(a.drop off)[j]? =some u->w.cell? ⟨b,i * z'+off+j,none⟩=some u:=by
   intro bs ρ H w v s hx
   obtain⟨b,n,cap,hρ,rfl⟩:=hx
   obtain⟨cap',cur,xs,rfl,hg,hn,hm,hs,rfl,ht,hr,h1,hh⟩:=zdm (s.objs k _ _ ho hρ)
   obtain⟨a,ra,hc⟩:=hr.get hrow
   refine⟨b,a,rfl,ra,fun j u hu=>?_⟩
   rw[List.getElem?_drop]at hu
   have:=hc _ _ hu
   rw[← ht,List.getElem?_take]at this
   split at this
   ·rw[Nat.add_assoc]
    rw[cell_of_row w b _ _ e _ hg]
    simpa using this
   ·cases this
  split at h
  ·rename_i hagg
   obtain⟨h,hn⟩:=qp0 h
   refine⟨_,h,fun bs ρ H w v s hx=>?_⟩
   obtain⟨b,a,rfl,ra,hc⟩:=cells bs ρ H w v s hx
   refine⟨_,qsc hd hi hc (by have:=ra.length; simp at hn ⊢; omega) hagg,?_⟩
   simp only[qcc,qcp]
   exact⟨_,rfl,(ra.drop off).take _⟩
  ·rename_i hagg
   split at h
   ·rename_i c r hcr
    refine⟨_,h,fun bs ρ H w v s hx=>?_⟩
    obtain⟨b,a,rfl,ra,hc⟩:=cells bs ρ H w v s hx
    have rd:=ra.drop off
    rw[hcr]at rd
    simp only[qec]at rd
    obtain⟨u,us,e,ru,_⟩:=rd
    exact⟨u,qqp hd (by simpa using hc 0 u (by rw[e]; rfl)) hagg,ru⟩
   ·exact h.elim
 ·rename_i l
  have h0:=ql7 h; clear h; obtain⟨d,ti,hd,hi,h⟩:=h0
  split at h
  ·exact h.elim
  ·rename_i hagg
   have h0:=h; clear h; obtain⟨c,⟨rfl,rfl,hc⟩,h⟩:=h0
   refine⟨_,h,fun bs ρ H w v s hx=>?_⟩
   obtain⟨b,n,cap,hρ,rfl⟩:=hx
   obtain⟨b',cs,e',cap',lo',hi',e1,hg,_,h2,_⟩:=s.objs k _ _ ho hρ
   cases e1
   refine⟨.int .u8 c.toNat,qqp hd ?_ hagg,by simp[qcc,qcp]⟩
   simp only[World.cell?,hg,Nat.mul_one,Nat.add_zero]
   exact h2 i c hc
 ·exact h.elim
theorem znc {H:PH} {z:Nat}:∀ {rows:List (List PV)} {vals:List Value},rows.length=vals.length->(∀ r∈rows,r.length=z) ->
  (∀ (i:Nat) (r:List PV) (v:Value),rows[i]? =some r->vals[i]? =some v->qec H r v.cells.toList)->qr9 H z rows (vals.flatMap (·.cells.toList))
 | [],[],_,_,_=>rfl
 | [],_::_,hl,_,_=>by simp at hl
 | r::rs,[],hl,_,_=>by simp at hl
 | r::rs,v::vals,hl,hz,hr=>⟨hz r (by simp),v.cells.toList,vals.flatMap (·.cells.toList),by rw[List.flatMap_cons],hr 0 r v rfl rfl,
   znc (by simpa using hl) (fun r hr=>hz r (by simp[hr])) (fun i r' v' h1 h2=>hr (i+1) r' v' (by simpa using h1) (by simpa using h2))⟩
theorem qr9.le {H:PH} {z:Nat} {p q:List (List PV)} {vs:List Value} (h:p=q\/zc1 p q) (r:qr9 H z p vs):qr9 H z q vs:=by
 rcases h with rfl|h
 ·exact r
 ·have go:∀ {p q:List (List PV)} {vs:List Value},zc1 p q->qr9 H z p vs->qr9 H z q vs:=by
   intro p
   induction p with
   | nil=>intro q vs h r; cases q with
    | nil=>exact r
    | cons _ _=>simp[zc1]at h
   | cons a l ih=>intro q vs h r; cases q with
    | nil=>simp[zc1]at h
    | cons b m=>
     simp only[zc1]at h
     obtain⟨e,x,y,e1,q1,q2⟩:=r
     exact⟨by rw[← e,q0a h.1],x,y,e1,qxr h.1 q1,ih h.2 q2⟩
  exact go h r
theorem qv4 {E:Env} {g:G} {t:TypeId} {n:Nat} {parts:List (Nat×Operand)} {R:FV->Prop} (h:qpd P E g t n parts R) :
  ∃ e i rows,P.underlying t=some (.slice e)/\P.info? e=some i/\R (.p (.sl rows))/\rows.length=n/\n<=maxLen/\(gOn g->∀ (ρ:List Value) (H:PH) (w:World) (eval:Operand->Value),(∀ x∈parts.map (·.2),qcc ρ H (evF (qb7 E) x) (eval x)) ->
   ∃ xs:List Value,(Instr.buildSlice t n (parts.map fun(i,x)=>(i,eval x)).toArray).run P w=.ok (.slice (some ⟨w.heap.size,0,none⟩) n n) (w.alloc (.cells xs.toArray e))/\qr9 H i.size rows xs/\∀ u∈xs,u.oneCell'=true):=by
 unfold qpd at h
 obtain⟨e,i,hu,hi,h⟩:=ql5 h
 split at h
 ·rename_i hn
  have hn:parts.length=n:=Nat.eq_of_beq_eq_true hn
  split at h
  ·rename_i h1n
   split at h
   ·rename_i h1z
    split at h
    case h_2=>exact h.elim
    rename_i hbig
    split at h
    case h_2=>exact h.elim
    rename_i i' hi'
    have:i'=i:=Option.some.inj (hi'.symm.trans hi)
    subst this
    split at h
    case h_2=>exact h.elim
    rename_i zv hzv
    obtain⟨ps,h,hpl,hps⟩:=qvo h
    obtain⟨rows,h,hrl,hrows⟩:=q2w h
    obtain⟨hok,rows',hle,h⟩:=h
    have hrl2:rows'.length=rows.length:=by
     rcases hle with rfl|hle
     ·rfl
     ·exact(q0b hle).symm
    have hn24:n<=maxLen:=by
     have a1:=Nat.le_of_ble_eq_true hbig
     have a2:1<=i'.size:=Nat.le_of_ble_eq_true h1z
     have a3:n * 1<=n * i'.size:=Nat.mul_le_mul_left n a2
     unfold maxLen
     omega
    refine⟨e,i',rows',hu,hi,h,by rw[hrl2,hrl,hpl,hn],hn24,fun hg ρ H w eval hx=>?_⟩
    obtain⟨vals,ev,rv⟩:=hps hg ρ H eval hx
    have hcells:=hrows H vals rv
    have hvl:vals.length=n:=by rw[rv.length,hpl,hn]
    have hsz:∀ v∈vals,v.cells.size=i'.size:=by
     intro v hv
     obtain⟨j,hj⟩:=List.getElem?_of_mem hv
     have hjl:=(List.getElem?_eq_some_iff.1 hj).1
     have hrj:j<rows.length:=by rw[hrl,hpl,hn,← hvl]; exact hjl
     have:=(hcells j _ v (List.getElem?_eq_getElem hrj) hj).length
     rw[(hok _ (List.getElem_mem hrj)).1]at this
     simpa using this
    obtain⟨cells',ef,hc'⟩:=q06 i'.size n (fun i_1=>some (i_1 * i'.size,i'.size)) (fun j _=>rfl) vals 0 ((Array.range (n * i'.size)).map (zv.cells[· % zv.cells.size]!)) hsz (by omega) (by simp)
    simp only[Nat.zero_mul,List.take_zero,List.nil_append]at hc'
    have hone:∀ u∈cells'.toList,u.oneCell'=true:=by
     rw[hc']
     intro u hu'
     obtain⟨v,hv,huv⟩:=List.mem_flatMap.1 hu'
     obtain⟨j,hj⟩:=List.getElem?_of_mem hv
     have hjl:=(List.getElem?_eq_some_iff.1 hj).1
     have hrj:j<rows.length:=by rw[hrl,hpl,hn,← hvl]; exact hjl
     have h1:=hcells j _ v (List.getElem?_eq_getElem hrj) hj
     have h2:=(hok _ (List.getElem_mem hrj)).2
     exact qec.one (fun c hc=>(List.all_eq_true.1 h2) c hc) h1 u huv
    refine⟨cells'.toList,?_,?_,hone⟩
    ·have h0:n * i'.size≠0:=by
      have a1:1<=n:=Nat.le_of_ble_eq_true h1n
      have a2:1<=i'.size:=Nat.le_of_ble_eq_true h1z
      exact Nat.mul_ne_zero (by omega) (by omega)
     have hb:¬ 16777216<n * i'.size:=by
      have:=Nat.le_of_ble_eq_true hbig
      omega
     simp only[Instr.buildSlice,Sem.run_bind,run_underlying hu,Result.andThen_ok,Go.sizeOf,typeInfo,run_program,hi,Sem.run_pure]
     rw[show(2:Nat) ^ 24=16777216 from rfl]
     simp only[hb,if_false,gt_iff_lt,h0,Sem.run_bind,zeroValue,typeInfo,run_program,hi,hzv,Result.andThen_ok,Sem.run_pure]
     rw[ev,ef]
     simp[newRow]
    ·rw[hc']
     refine qr9.le hle ?_
     exact znc (by rw[hrl,hpl,hn,hvl]) (fun r hr=>(hok r hr).1) hcells
   ·exact h.elim
  ·exact h.elim
 ·exact h.elim
theorem zck {E:Env} {lo:List AObj} {t:TypeId} {n:Nat} {parts:List (Nat×Operand)} {R:FV->List AObj->Prop} (h:zea P E lo t n parts R) :
  ∃ fv lo',R fv lo'/\qg4 true lo lo'/\∀ (bs:Base) (ρ:List Value) (H:PH) (w:World) (eval:Operand->Value),SatW bs ρ H lo w->(∀ x∈parts.map (·.2),qcc ρ H (evF (qb7 E) x) (eval x)) ->
   ∃ v w',(Instr.buildSlice t n (parts.map fun(i,x)=>(i,eval x)).toArray).run P w=.ok v w'/\que bs ρ H fv lo' v w':=by
 unfold zea at h
 have h0:=ql5 h; clear h; obtain⟨e,i,hu,hi,h⟩:=h0
 have h0:=qv4 h; clear h; obtain⟨e',i',rows,hu',hi',h,hn,hmax,hs⟩:=h0
 have e1:e'=e:=by rw[hu]at hu'; cases hu'; rfl
 subst e1
 have e2:i'=i:=Option.some.inj (hi'.symm.trans hi)
 subst e2
 simp only at h
 have h:=qfz h
 have h:=qhv h
 refine⟨_,_,h,qg4.push _,fun bs ρ H w eval s hx=>?_⟩
 obtain⟨xs,hr,hv,hone⟩:=hs trivial ρ H w eval hx
 refine⟨_,_,hr,ρ++[.slice (some ⟨w.heap.size,0,none⟩) n n],H,List.prefix_append _ _,PH.le.refl H,?_,?_⟩
 ·have hnew:∀ o,H w.heap.size o=none:=fun o=>by
   cases hx:H w.heap.size o with
   | none=>rfl
   | some u=>exact absurd (s.sath.lt hx) (Nat.lt_irrefl _)
  refine s.push (g:=w.heap.size) (.inl rfl) (s.fresh (Nat.le_refl _)) (.inr s.keep.size) (PH.le.refl H) (qxw s.sath _) (fun b o v h=>.inl ⟨v,h⟩) (qut w _ _) ?_
  refine⟨xs,⟨hv.length,.inr ⟨w.heap.size,n,xs.toArray,by rw[hn],Nat.zero_le _,heap_alloc_new w _,by rw[hn]; exact Nat.le_refl _,hmax,by simp[hv.length,hn],?_⟩⟩,hv,hone,fun b hb=>?_⟩
  ·rw[← hv.length]
   exact List.take_length
  ·simp[qcs]at hb
   subst hb
   exact hnew
 ·exact⟨by simp[← s.hlen],.inr ⟨w.heap.size,n,by rw[hn]⟩⟩
end
end Ax
end
section
namespace Ax
open Go
section
variable {P:Program} {w:World}
theorem q2e {t ty e:TypeId} {i:TypeInfo} {z:Value} (ht:P.underlying t=some (.slice e)) (hi:P.info? e=some i) (hz:i.zero=some z) (hzs:z.cells.size=i.size)
  {v:Value} {n:Nat} {xs:List Value} (hown:w.ownsRow 0 e i.size v n xs)
  {x:Value} {m:Nat} {news:List Value} (hl:news.length=m * i.size) (h1:∀ u∈news,u.oneCell'=true)
  (hx:(m=0/\x=.slice none 0 0)\/∃ a c,x=.slice (some a) m c/\∀ j u,news[j]? =some u->w.cell? (a.add j)=some u)
  (h63:n+m<=9223372036854775807) (hbytes:(n+m) * i.bytes<=140737488355328) :
  ∃ v' w',(Builtin.append_ #[t,t] ty #[v,x]).run P w=.ok v' w'/\w'.ownsRow 0 e i.size v' (n+m) (xs++news) /\
   ((qcs v'=qcs v/\(∀ g,qcs v=some g->Keep (fun b=>b=g) w w')/\(qcs v=none->w'=w))\/(qcs v'=some w.heap.size/\Keep (fun b=>b=w.heap.size) w w')):=by
 have hlen:(xs++news).length=(n+m) * i.size:=by rw[List.length_append,hown.1,hl,Nat.add_mul]
 have h63':n+m<=maxLen:=by unfold maxLen; omega
 rcases hx with ⟨rfl,rfl⟩|⟨ad,c,rfl,hnews⟩
 ·have hn:news=[]:=List.eq_nil_of_length_eq_zero (by simpa using hl)
  subst hn
  refine⟨v,w,run_append_owned_none (P:=P) (w:=w) 0 t ty e i i.size ht hi v n xs hown,by simpa using hown,.inl ⟨rfl,fun g _=>Keep.refl _ w,fun _=>rfl⟩⟩
 have grown:∀ (old:Nat),(w.drew.alloc (.cells (xs.toArray++news.toArray++Builtin.zeroCells z.cells (grownCap w (n+m) old e - (n+m))) e)).ownsRow 0 e i.size
    (.slice (some ⟨w.heap.size,0,none⟩) (n+m) (grownCap w (n+m) old e)) (n+m) (xs++news):=by
  intro old
  have hge:=grownCap_ge w (n+m) old e
  have hcm:grownCap w (n+m) old e<=maxLen:=grownCap_le_maxLen w (n+m) old e h63'
  refine⟨hlen,.inr ⟨w.heap.size,_,_,rfl,Nat.zero_le _,heap_alloc_new w.drew _,hge,hcm,?_,?_⟩⟩
  ·simp only[Array.size_append,List.size_toArray,size_zeroCells,hzs,hown.1,hl,← Nat.add_mul]
   congr 1
   omega
  ·simp only[Array.toList_append,List.append_assoc]
   rw[← List.append_assoc,← hlen]
   exact List.take_left
 rcases hown.2 with ⟨rfl,rfl⟩|⟨g,cap,cur,rfl,hbg,hg,hnc,hcm,hcs,htake⟩
 ·have hxs:xs=[]:=List.eq_nil_of_length_eq_zero (by simpa using hown.1)
  subst hxs
  by_cases hm:m=0
  ·subst hm
   have hn:news=[]:=List.eq_nil_of_length_eq_zero (by simpa using hl)
   subst hn
   refine⟨.slice none 0 0,w,?_,World.ownsRow_nil w 0 e i.size,.inl ⟨rfl,fun g _=>Keep.refl _ w,fun _=>rfl⟩⟩
   simp[Builtin.append_,run_underlying ht,Go.sizeOf,typeInfo,hi,Builtin.lenOf,Builtin.firstCells,loadCells,loadCellsFrom]
  ·have hr:=run_append_nil (P:=P) w t ty e i z ht hi hz ad m c news hl hnews (by omega) (by omega) (by have hb:=hbytes; simp only[Nat.zero_add]at hb; omega)
   have hgr:=grown 0
   simp only[Nat.zero_add,List.nil_append,Array.empty_append]at hgr ⊢
   exact⟨_,_,hr,hgr,.inr ⟨rfl,qql w _ _⟩⟩
 ·by_cases hroom:n+m<=cap
  ·have hfit:n * i.size+news.length<=cur.size:=by rw[hl,hcs,← Nat.add_mul]; exact Nat.mul_le_mul_right _ hroom
   have hr:=run_append_room (P:=P) w t ty e i ht hi g n cap cur hg ad m c news hl hnews h1 hroom hfit
   refine⟨_,_,hr,⟨hlen,.inr ⟨g,cap,_,rfl,hbg,setRow_heap w g cur _ e _ hg,hroom,hcm,?_,?_⟩⟩,.inl ⟨rfl,fun g' hg'=>?_,fun h=>by simp[qcs]at h⟩⟩
   ·simp only[List.size_toArray,List.length_append,List.length_take,List.length_drop,Array.length_toList]
    omega
   ·rw[htake,← hlen]
    exact List.take_left
   ·simp[qcs]at hg'
    subst hg'
    exact⟨rfl,rfl,rfl,by simp,fun k _ hk=>setRow_other w g k _ hk⟩
  ·have holds:∀ j u,xs[j]? =some u->w.cell? ((⟨g,0,none⟩:Addr).add j)=some u:=hown.cells (g:=g) rfl
   have hr:=run_append_grow (P:=P) w t ty e i z ht hi hz ⟨g,0,none⟩ n cap xs hown.1 holds ad m c news hl hnews (by omega) (by omega) (growslice_fits (by omega) hbytes)
   exact⟨_,_,hr,grown cap,.inr ⟨rfl,qql w _ _⟩⟩
theorem qup {t u ty e:TypeId} {i:TypeInfo} (ht:P.underlying t=some (.slice e)) (hu:P.underlying u=some .string) (hi:P.info? e=some i) (hz:i.zero=some (.int .u8 0)) (hsz:i.size=1)
  {v:Value} {n:Nat} {xs:List Value} (hown:w.ownsRow 0 e 1 v n xs) (str:List UInt8)
  (h63:n+str.length<=9223372036854775807) (hbytes:(n+str.length) * i.bytes<=140737488355328) :
  ∃ v' w',(Builtin.append_ #[t,u] ty #[v,.string ⟨str.toArray⟩]).run P w=.ok v' w'/\w'.ownsRow 0 e 1 v' (n+str.length) (xs++Lib.strCells ⟨str.toArray⟩) /\
   ((qcs v'=qcs v/\(∀ g,qcs v=some g->Keep (fun b=>b=g) w w')/\(qcs v=none->w'=w))\/(qcs v'=some w.heap.size/\Keep (fun b=>b=w.heap.size) w w')):=by
 have hs:(⟨str.toArray⟩:ByteArray).size=str.length:=qtx str
 generalize hsg:(⟨str.toArray⟩:ByteArray)=sb at *
 have hl:(Lib.strCells sb).length=str.length:=by rw[Lib.strCells_length,hs]
 have hlen:(xs++Lib.strCells sb).length=(n+str.length) * 1:=by rw[List.length_append,hown.1,hl,Nat.mul_one,Nat.mul_one]
 have h63':n+str.length<=maxLen:=by unfold maxLen; omega
 have grown:∀ (old:Nat),(w.drew.alloc (.cells (xs.toArray++(Lib.strCells sb).toArray++Builtin.zeroCells (Value.int .u8 0).cells (grownCap w (n+str.length) old e - (n+str.length))) e)).ownsRow 0 e 1
    (.slice (some ⟨w.heap.size,0,none⟩) (n+str.length) (grownCap w (n+str.length) old e)) (n+str.length) (xs++Lib.strCells sb):=by
  intro old
  have hge:=grownCap_ge w (n+str.length) old e
  have hcm:grownCap w (n+str.length) old e<=maxLen:=grownCap_le_maxLen w (n+str.length) old e h63'
  refine⟨hlen,.inr ⟨w.heap.size,_,_,rfl,Nat.zero_le _,heap_alloc_new w.drew _,hge,hcm,?_,?_⟩⟩
  ·have h1:(Value.int .u8 0).cells.size=1:=rfl
   simp only[Array.size_append,List.size_toArray,size_zeroCells,h1,hown.1,hl]
   omega
  ·simp only[Array.toList_append,List.append_assoc]
   rw[← List.append_assoc,← hlen]
   exact List.take_left
 rcases hown.2 with ⟨rfl,rfl⟩|⟨g,cap,cur,rfl,hbg,hg,hnc,hcm,hcs,htake⟩
 ·have hxs:xs=[]:=List.eq_nil_of_length_eq_zero (by simpa using hown.1)
  subst hxs
  by_cases hm:str.length=0
  ·have hn:Lib.strCells sb=[]:=List.eq_nil_of_length_eq_zero (by omega)
   refine⟨.slice none 0 0,w,?_,by rw[hm,hn]; exact World.ownsRow_nil w 0 e 1,.inl ⟨rfl,fun g _=>Keep.refl _ w,fun _=>rfl⟩⟩
   simp[Builtin.append_,run_underlying ht,run_underlying hu,Go.sizeOf,typeInfo,hi,Builtin.lenOf,Builtin.firstCells,hs,hm]
  ·have hr:=run_append_nil_string (P:=P) w t u ty e i (.int .u8 0) ht hu hi hz sb (by omega) (by omega) (by rw[hs]; have hb:=hbytes; simp only[Nat.zero_add]at hb; omega)
   have hgr:=grown 0
   simp only[Nat.zero_add,List.nil_append,Array.empty_append]at hgr ⊢
   have e1:sb.data.map (fun b=>Value.int .u8 b.toNat)=(Lib.strCells sb).toArray:=by
    apply Array.ext'
    simp[Lib.strCells]
   rw[e1,hs]at hr
   exact⟨_,_,hr,hgr,.inr ⟨rfl,qql w _ _⟩⟩
 ·by_cases hroom:n+str.length<=cap
  ·have hfit:n+sb.size<=cur.size:=by rw[hs]; omega
   have hr:=Lib.run_append_room_string (P:=P) w t u ty e i ht hu hi hsz g n cap cur hg sb (by omega) hfit
   rw[hs]at hr
   refine⟨_,_,hr,⟨hlen,.inr ⟨g,cap,_,rfl,hbg,setRow_heap w g cur _ e _ hg,hroom,hcm,?_,?_⟩⟩,.inl ⟨rfl,fun g' hg'=>?_,fun h=>by simp[qcs]at h⟩⟩
   ·simp only[List.size_toArray,List.length_append,List.length_take,List.length_drop,Array.length_toList,hl]
    omega
   ·rw[Nat.mul_one]at htake
    rw[htake,← hlen]
    exact List.take_left
   ·simp[qcs]at hg'
    subst hg'
    exact⟨rfl,rfl,rfl,by simp,fun k _ hk=>setRow_other w g k _ hk⟩
  ·have holds:∀ j u,xs[j]? =some u->w.cell? ((⟨g,0,none⟩:Addr).add j)=some u:=hown.cells (g:=g) rfl
   have hr:=Lib.run_append_grow_string (P:=P) w t u ty e i (.int .u8 0) ht hu hi hz ⟨g,0,none⟩ n cap xs (by rw[hsz]; exact hown.1) holds sb (by omega) (by omega) (growslice_fits (by omega) (by rw[hs]; exact hbytes))
   rw[hs]at hr
   exact⟨_,_,hr,grown cap,.inr ⟨rfl,qql w _ _⟩⟩
theorem zd3 (H:PH):∀ (l:List UInt8),qr9 H 1 (qea l) (Lib.strCells ⟨l.toArray⟩)
 | []=>by simp[qea,qr9,Lib.strCells]
 | b::l=>by
  have:=zd3 H l
  simp only[qea,List.map_cons,qr9]
  refine⟨rfl,[.int .u8 b.toNat],Lib.strCells ⟨l.toArray⟩,by simp[Lib.strCells],?_,this⟩
  simp[qec,qcp]
theorem ze2 {f:FV} {R:List (List PV)->Prop} (h:zkh f R):∃ rows,R rows/\∀ (ρ:List Value) (H:PH) (x:Value),qcc ρ H f x->qcp H (.sl rows) x:=by
 unfold zkh at h
 split at h
 ·exact⟨_,h,fun _ _ _ r=>r⟩
 ·exact⟨_,h,fun _ _ _ r=>r.2⟩
 ·refine⟨[],h,fun _ _ _ r=>?_⟩
  simp only[qcc,qcp]at r ⊢
  exact .inl ⟨trivial,.inl r⟩
 ·exact h.elim
def qpw (H:PH) (v:Value) (ys:List Value):PH:=fun b o=>if qcs v=some b/\o<ys.length then ys[o]? else H b o
theorem qrz {bs:Base} {ρ:List Value} {H:PH} {lo:List AObj} (s:SatW bs ρ H lo w) {e:TypeId} {z:Nat} {v:Value} {n:Nat} {xs:List Value} (hown:w.ownsRow 0 e z v n xs)
  (hxs:∀ b,qcs v=some b->(∀ j u,xs[j]? =some u->H b j=some u)/\∀ o,n * z<=o->H b o=none)
  (hfree:∀ (g:Nat),qcs v=some g->∀ (k:Nat) (o':AObj) (v':Value),lo[k]? =some o'->ρ[k]? =some v'->o'.live=true->qcs v'≠some g)
  (howns:∀ g,qcs v=some g->bs.S g\/bs.w0.heap.size<=g)
  {w':World} {v':Value} {m:Nat} {news:List Value} (hnl:news.length=m * z) (h1:∀ u∈xs++news,u.oneCell'=true)
  (hown':w'.ownsRow 0 e z v' (n+m) (xs++news))
  (hk:(qcs v'=qcs v/\(∀ g,qcs v=some g->Keep (fun b=>b=g) w w')/\(qcs v=none->w'=w))\/(qcs v'=some w.heap.size/\Keep (fun b=>b=w.heap.size) w w')) :
  PH.le H (qpw H v' (xs++news))/\SatW bs (ρ++[v']) (qpw H v' (xs++news)) (lo++[.tail e z (n+m)]) w':=by
 have hlen:(xs++news).length=(n+m) * z:=hown'.1
 have hin:∀ b o u,qcs v'=some b->H b o=some u->o<xs.length/\(xs++news)[o]? =some u:=by
  intro b o u hb hu
  rcases hk with ⟨e1,_⟩|⟨e1,_⟩
  ·rw[e1]at hb
   obtain⟨h2,h3⟩:=hxs b hb
   have hlt:o<xs.length:=by
    rw[hown.1]
    rcases Nat.lt_or_ge o (n * z)with h|h
    ·exact h
    ·rw[h3 o h]at hu; cases hu
   refine⟨hlt,?_⟩
   rw[List.getElem?_append_left hlt]
   have:=h2 o _ (List.getElem?_eq_getElem hlt)
   rw[hu]at this
   rw[List.getElem?_eq_getElem hlt,← Option.some.inj this]
  ·rw[e1]at hb
   cases hb
   exact absurd (s.sath.lt hu) (Nat.lt_irrefl _)
 have hle:PH.le H (qpw H v' (xs++news)):=by
  intro b o u hu
  unfold qpw
  split
  ·rename_i hc; exact(hin b o u hc.1 hu).2
  ·exact hu
 refine⟨hle,?_⟩
 have hcell:∀ g,qcs v'=some g->∀ o u,(xs++news)[o]? =some u->w'.cell? ⟨g,o,none⟩=some u:=by
  intro g hg o u hu
  have:=hown'.cells (g:=g) (by
   rcases hown'.2 with ⟨rfl,_⟩|⟨g',cap,cur,rfl,_⟩
   ·simp[qcs]at hg
   ·simpa[qcs,Value.ownBlock]using hg) o u hu
  rwa [Addr.add_lit,Nat.zero_add]at this
 have hsat:SatH (qpw H v' (xs++news)) w':=by
  refine⟨?_,s.sath.root.mono hle⟩
  intro b o u hu
  unfold qpw at hu
  split at hu
  ·rename_i hc
   exact⟨hcell b hc.1 o u hu,h1 u (List.mem_of_getElem? hu)⟩
  ·rename_i hc
   obtain⟨hcl,hone⟩:=s.sath.cell b o u hu
   refine⟨?_,hone⟩
   have hbne:qcs v'≠some b:=fun hb=>hc ⟨hb,by have:=(hin b o u hb hu).1; rw[List.length_append]; omega⟩
   have hlt:=s.sath.lt hu
   rcases hk with ⟨e1,k1,k2⟩|⟨e1,k1⟩
   ·cases hv:qcs v with
    | none=>rw[k2 hv]; exact hcl
    | some g=>
     rw[World.cell?_of_block (w:=w) (a:=⟨b,o,none⟩) ((k1 g hv).block b hlt (fun e=>hbne (by rw[e1,hv,e])))]
     exact hcl
   ·rw[World.cell?_of_block (w:=w) (a:=⟨b,o,none⟩) (k1.block b hlt (by omega))]
    exact hcl
 have hok:∀ ρ,q30 ρ (qpw H v' (xs++news)) w' v' (.tail e z (n+m)):=by
  intro ρ
  refine⟨xs++news,hown',fun b hb=>⟨fun j u hu=>?_,fun o ho=>?_⟩⟩
  ·unfold qpw
   rw[if_pos ⟨hb,(List.getElem?_eq_some_iff.1 hu).1⟩]
   exact hu
  ·unfold qpw
   rw[if_neg (by rw[hlen]; omega)]
   cases hx:H b o with
   | none=>rfl
   | some u=>
    have:=(hin b o u hb hx).1
    rw[hown.1]at this
    have:n * z<=(n+m) * z:=Nat.mul_le_mul_right _ (by omega)
    omega
 have hnew:∀ b o u,qpw H v' (xs++news) b o=some u->(∃ u,H b o=some u)\/qcs v'=some b:=by
  intro b o u hu
  unfold qpw at hu
  split at hu
  ·rename_i hc; exact .inr hc.1
  ·exact .inl ⟨u,hu⟩
 rcases hk with ⟨e1,k1,k2⟩|⟨e1,k1⟩
 ·cases hv:qcs v with
  | none=>
   have hw:=k2 hv
   subst hw
   rw[hv]at e1
   refine s.push (g:=w'.heap.size) (.inr e1) (s.fresh (Nat.le_refl _)) (.inr s.keep.size) hle hsat (fun b o u hu=>?_) (Keep.refl _ _) (hok _)
   rcases hnew b o u hu with h|h
   ·exact .inl h
   ·rw[e1]at h; cases h
  | some g=>
   rw[hv]at e1
   refine s.push (g:=g) (.inl e1) (hfree g hv) (howns g hv) hle hsat (fun b o u hu=>?_) (k1 g hv) (hok _)
   rcases hnew b o u hu with h|h
   ·exact .inl h
   ·rw[e1]at h; exact .inr (Option.some.inj h).symm
 ·refine s.push (g:=w.heap.size) (.inl e1) (s.fresh (Nat.le_refl _)) (.inr s.keep.size) hle hsat (fun b o u hu=>?_) k1 (hok _)
  rcases hnew b o u hu with h|h
  ·exact .inl h
  ·rw[e1]at h; exact .inr (Option.some.inj h).symm
theorem qsr {H:PH} {v':Value} {e:TypeId} {z:Nat} {rows:List (List PV)} {ys:List Value} {w':World} (hv:qr9 H z rows ys) (hle:PH.le H (qpw H v' ys))
  (hown:w'.ownsRow 0 e z v' rows.length ys):qcp (qpw H v' ys) (.sl rows) v':=by
 simp only[qcp]
 rcases hown.2 with ⟨rfl,hn⟩|⟨g,cap,cur,rfl,_,_,hnc,_⟩
 ·exact .inl ⟨List.eq_nil_of_length_eq_zero hn,.inl rfl⟩
 ·refine .inr ⟨g,0,z,cap,rfl,hnc,(hv.mono hle).unflat fun j u hu=>?_⟩
  unfold qpw
  rw[if_pos ⟨by simp[qcs],by have:=(List.getElem?_eq_some_iff.1 hu).1; omega⟩]
  simpa using hu
theorem qr9.one {H:PH} {w:World} (s:SatH H w) {b o:Nat} {vs:List Value} (c:∀ j u,vs[j]? =some u->H b (o+j)=some u):∀ u∈vs,u.oneCell'=true:=fun u hu=>by
 obtain⟨j,hj⟩:=List.getElem?_of_mem hu
 exact(s _ _ _ (c j u hj)).2
theorem q83 {w:World} {t:TypeId} {v:Value}:(newVar t v).run P w=.ok ⟨w.heap.size,0,none⟩ (w.alloc (.cells v.cells t)):=by
 simp[newVar,newRow]
theorem q3e {w:World} {t bt:TypeId} {i:TypeInfo} (hi:P.info? t=some i) {b off:Nat} {cur:List Value} (hg:w.heap[b]? =some (.cells cur.toArray bt (0,0))) {x:Value}
  (hn:x.cells.size=i.size) (hoff:off+x.cells.size<=cur.length) (h1:∀ u∈x.cells.toList,u.oneCell'=true) :
  (Instr.storeAt t (.pointer (some ⟨b,off,none⟩)) x).run P w=.ok () (w.setRow b (cur.take off++x.cells.toList++cur.drop (off+x.cells.size)).toArray):=by
 have:=run_storeCells_at P b off bt x.cells.toList 0 cur.toArray w hg (by simpa using hoff) h1
 simp only[Nat.add_zero,Array.length_toList]at this
 simp[Instr.storeAt,Instr.sureAddr,storeVar,Go.sizeOf,typeInfo,hi,hn]
 rw[this]
 simp[hn]
theorem q8i {a b:Nat} (h:Nat.beq a b=true):a=b:=Nat.eq_of_beq_eq_true h
theorem zav {lo:List AObj} {t:TypeId} {k z i off:Nat} {x:FV} {R:FV->List AObj->Prop} (h:zem P t lo k z i off x R) :
  ∃ fv lo',R fv lo'/\lo'.length=lo.length/\∀ (bs:Base) (ρ:List Value) (H:PH) (w:World) (a xv:Value),SatW bs ρ H lo w->qcc ρ H (.eptr k z i off) a->qcc ρ H x xv ->
   ∃ w',(Instr.storeAt t a xv).run P w=.ok () w'/\que bs ρ H fv lo' undef w':=by
 unfold zem at h
 have h0:=qz0 h; clear h; obtain⟨cs,h,hcs⟩:=h0
 have h0:=qta h; clear h; obtain⟨ps,h,hps⟩:=h0
 have h0:=qfz h; clear h; have h:=h0; clear h0
 have h0:=ql7 h; clear h; obtain⟨d,ti,hd,hi,h⟩:=h0
 split at h
 ·rename_i hn
  have hn:=q8i hn
  have h0:=qdt h; clear h; obtain⟨o,ho,h⟩:=h0
  split at h
  ·rename_i e z' rows
   obtain⟨row,⟨rfl,hrow,hone⟩,h⟩:=h
   obtain⟨h,hle⟩:=qxu h
   obtain⟨rows',hrows,h⟩:=h
   obtain⟨h,hk⟩:=qkj h
   refine⟨_,_,h,by simp,fun bs ρ H w a xv s ra rx=>?_⟩
   obtain⟨b,n,cap,hρ,rfl⟩:=ra
   have hob:=s.objs k _ _ ho hρ
   obtain⟨cap',cur,xs,rfl,hg,hnc,hm,hs,rfl,ht,hr,h1,hh⟩:=zdm hob
   have rl:=hps ρ H _ (hcs ρ H xv rx)
   have hlen:=rl.length
   have hzr:row.length=z':=by
    have hmem:=List.mem_of_getElem? hrow
    have:∀ {rows:List (List PV)} {vs:List Value},qr9 H z' rows vs->∀ r∈rows,r.length=z':=by
     intro rows
     induction rows with
     | nil=>intro vs _ r hr; cases hr
     | cons q qs ih=>
      intro vs x r hr
      obtain⟨hz,_,_,_,_,y⟩:=x
      rcases List.mem_cons.1 hr with rfl|hr
      ·exact hz
      ·exact ih y r hr
    exact this hr row hmem
   have hil:i<rows.length:=(List.getElem?_eq_some_iff.1 hrow).1
   have hxl:xs.length=rows.length * z':=hr.length
   have hiz:i * z'+z'<=rows.length * z':=by
    rw[← Nat.succ_mul]; exact Nat.mul_le_mul_right _ hil
   have hcl:rows.length * z'<=cur.toList.length:=by
    have h2:cur.toList.length=cur.size:=by simp
    rw[h2,hs]; exact Nat.mul_le_mul_right _ hnc
   have hsz:xv.cells.size=ps.length:=by simpa using hlen
   have hone':∀ u∈xv.cells.toList,u.oneCell'=true:=qec.one (fun c hc=>(List.all_eq_true.1 hone) c hc) rl
   have hrun:=q3e (P:=P) (w:=w) (t:=t) (bt:=e) (cur:=cur.toList) hi (by simpa using hg) (x:=xv) (off:=i * z'+off) (by omega) (by omega) hone'
   refine⟨_,hrun,ρ,H,List.prefix_refl _,PH.le.refl H,?_,by simp[qcc,qcp,qec,undef]⟩
   have hnew:(cur.toList.take (i * z'+off)++xv.cells.toList++cur.toList.drop (i * z'+off+xv.cells.size)).take (rows.length * z')=xs.take (i * z'+off)++xv.cells.toList++xs.drop (i * z'+off+xv.cells.size):=by
    rw[zkt (by omega) (by simp) hcl,ht]
   have hover:=hr.over (off:=off) hrow rl (by omega)
   have hrl:rows'.length=rows.length:=by rw[← hrows]; simp
   refine s.upd (k:=k) (b:=b) ho hρ rfl rfl hh ⟨rfl,rfl,rfl,by simp,fun x _ hx=>setRow_other w b x _ hx⟩ ?_
   refine⟨xs.take (i * z'+off)++xv.cells.toList++xs.drop (i * z'+off+xv.cells.size),?_,?_,?_,fun b' hb'=>?_⟩
   ·refine⟨?_,.inr ⟨b,cap,(cur.toList.take (i * z'+off)++xv.cells.toList++cur.toList.drop (i * z'+off+xv.cells.size)).toArray,by rw[hrl],Nat.zero_le _,setRow_heap w b _ _ e _ (by simpa using hg),by rw[hrl]; exact hnc,hm,?_,?_⟩⟩
    ·rw[hrl]
     simp only[List.length_append,List.length_take,List.length_drop,Array.length_toList]
     omega
    ·simp only[List.size_toArray,List.length_append,List.length_take,List.length_drop,Array.length_toList]at hcl ⊢
     omega
    ·rw[hrl]; exact hnew
   ·rw[← hrows]
    simpa using hover
   ·intro u hu
    rcases List.mem_append.1 hu with hu|hu
    ·rcases List.mem_append.1 hu with hu|hu
     ·exact h1 u (List.mem_of_mem_take hu)
     ·exact hone' u hu
    ·exact h1 u (List.mem_of_mem_drop hu)
   ·simp[qcs]at hb'
    subst hb'
    exact hh
  ·rename_i l
   split at h
   ·have h0:=h; clear h; obtain⟨c,l',⟨rfl,rfl,hil,hnc,hl'⟩,h⟩:=h0
    have h0:=qkj h; clear h; obtain⟨h,hk⟩:=h0
    subst hnc
    refine⟨_,_,h,by simp,fun bs ρ H w a xv s ra rx=>?_⟩
    obtain⟨b,n0,cap,hρ,rfl⟩:=ra
    obtain⟨b',cs,e',cap',lo',hi',e1,hg,hlo,h2,hH⟩:=s.objs k _ _ ho hρ
    cases e1
    have rl:=hps ρ H _ (hcs ρ H xv rx)
    simp only[qec,qcp]at rl
    obtain⟨v0,vs',ev,rfl,rfl⟩:=rl
    have hsz:xv.cells.size=1:=by
     have:xv.cells.toList.length=1:=by rw[ev]; rfl
     simpa using this
    have hcell:(w.cell? ⟨b,i,none⟩).isSome=true:=by
     simp only[World.cell?,hg]
     rw[h2 i _ (List.getElem?_eq_getElem hil)]
     rfl
    have hfz:w.frozen? ⟨b,i,none⟩=false:=by
     simp only[World.frozen?,hg]
     have:¬ lo'<=i:=by omega
     simp[this]
    have hrun:(Instr.storeAt t (.pointer (some ⟨b,i * 1+0,none⟩)) xv).run P w=.ok () (w.setCell ⟨b,i,none⟩ (.int .u8 (c.toNat:Int))):=by
     have h3:=run_storeCells_cells (P:=P) b i [.int .u8 (c.toNat:Int)] 0 w (fun j hj=>by
      have:j=0:=by simpa using hj
      subst this
      simpa using hcell) (fun j hj=>by
      have:j=0:=by simpa using hj
      subst this
      simpa using hfz) (by simp[Value.oneCell'])
     simp only[Nat.add_zero]at h3
     have hti:ti.size=1:=by
      have:[PV.int .u8 (c.toNat:Int)].length=ti.size:=by simpa using hn
      simpa using this.symm
     simp[Instr.storeAt,Instr.sureAddr,storeVar,Go.sizeOf,typeInfo,hi,hti,hsz,ev,h3,World.setCells]
    have hset:(w.setCell ⟨b,i,none⟩ (.int .u8 (c.toNat:Int))).heap[b]? =some (.cells (cs.setIfInBounds i (.int .u8 (c.toNat:Int))) e' (lo',hi')):=by
     simp[World.setCell,Array.getElem?_modify,hg]
    refine⟨_,hrun,ρ,H,List.prefix_refl _,PH.le.refl H,?_,by simp[qcc,qcp,qec,undef]⟩
    refine s.upd (k:=k) (b:=b) ho hρ rfl rfl hH ⟨rfl,rfl,rfl,by simp[World.setCell],fun x _ hx=>?_⟩ ?_
    ·have:b≠x:=fun e=>hx e.symm
     simp[World.setCell,Array.getElem?_modify,this]
    ·subst hl'
     refine⟨b,_,e',cap,lo',hi',by simp,hset,by simpa using hlo,fun j c' hc'=>?_,hH⟩
     rw[List.getElem?_set]at hc'
     rw[Array.getElem?_setIfInBounds]
     split at hc'
     ·rename_i hij
      subst hij
      cases hc'
      have hcs':i<cs.size:=by
       have:=h2 i _ (List.getElem?_eq_getElem hil)
       exact(Array.getElem?_eq_some_iff.1 this).1
      simp[hcs']
     ·rename_i hij
      simp only[hij,if_false]
      exact h2 j c' hc'
   ·exact h.elim
  ·exact h.elim
 ·exact h.elim
theorem zcj {E:Env} {lo:List AObj} {t:TypeId} {n:Nat} {parts:List (Nat×Operand)} {R:FV->List AObj->Prop} (h:zd9 P E lo t n parts R) :
  ∃ fv lo',R fv lo'/\qg4 true lo lo'/\∀ (bs:Base) (ρ:List Value) (H:PH) (w:World) (eval:Operand->Value),SatW bs ρ H lo w->(∀ x∈parts.map (·.2),qcc ρ H (evF (qb7 E) x) (eval x)) ->
   ∃ v w',(Instr.buildSlice t n (parts.map fun(i,x)=>(i,eval x)).toArray).run P w=.ok v w'/\que bs ρ H fv lo' v w':=by
 unfold zd9 at h
 have h0:=ql5 h; clear h; obtain⟨e,i,hu,hi,h⟩:=h0
 have h0:=qv4 h; clear h; obtain⟨e',i',rows,hu',hi',h,hn,hmax,hs⟩:=h0
 have e1:e'=e:=by rw[hu]at hu'; cases hu'; rfl
 subst e1
 have e2:i'=i:=Option.some.inj (hi'.symm.trans hi)
 subst e2
 simp only at h
 have h:=qfz h
 have h:=qhv h
 refine⟨_,_,h,qg4.push _,fun bs ρ H w eval s hx=>?_⟩
 obtain⟨xs,hr,hv,hone⟩:=hs trivial ρ H w eval hx
 have hown':(w.alloc (.cells xs.toArray e')).ownsRow 0 e' i'.size (.slice (some ⟨w.heap.size,0,none⟩) n n) (0+rows.length) ([]++xs):=by
  rw[Nat.zero_add,List.nil_append]
  refine⟨hv.length,.inr ⟨w.heap.size,n,xs.toArray,by rw[hn],Nat.zero_le _,heap_alloc_new w _,by rw[hn]; exact Nat.le_refl _,hmax,by simp[hv.length,hn],?_⟩⟩
  rw[← hv.length]
  exact List.take_length
 obtain⟨hle,sat⟩:=qrz s (World.ownsRow_nil w 0 e' i'.size) (fun b hb=>by simp[qcs]at hb) (fun g hg=>by simp[qcs]at hg) (fun g hg=>by simp[qcs]at hg) hv.length (by simpa using hone) hown' (.inr ⟨rfl,qut w _ _⟩)
 simp only[Nat.zero_add,List.nil_append]at hown' sat hle
 exact⟨_,_,hr,_,_,List.prefix_append _ _,hle,sat,by simp[← s.hlen],qsr hv hle hown'⟩
theorem q1b {gr:Bool} {E:Env} {lo:List AObj} {t:TypeId} {n:Nat} {parts:List (Nat×Operand)} {R:FV->List AObj->Prop} (h:zar P gr E lo t n parts R) :
  ∃ fv lo',R fv lo'/\qg4 true lo lo'/\∀ (bs:Base) (ρ:List Value) (H:PH) (w:World) (eval:Operand->Value),SatW bs ρ H lo w->(∀ x∈parts.map (·.2),qcc ρ H (evF (qb7 E) x) (eval x)) ->
   ∃ v w',(Instr.buildSlice t n (parts.map fun(i,x)=>(i,eval x)).toArray).run P w=.ok v w'/\que bs ρ H fv lo' v w':=by
 cases gr with
 | true=>exact zcj h
 | false=>exact zck h
theorem zec {src dst:TypeId} {lo:List AObj} {x:FV} {R:FV->List AObj->Prop} (h:zi8 P src dst lo x R) :
  ∃ fv lo',R fv lo'/\∀ (bs:Base) (ρ:List Value) (H:PH) (w:World) (v:Value),SatW bs ρ H lo w->qcc ρ H x v->∃ u w',(convert src dst v).run P w=.ok u w'/\que bs ρ H fv lo' u w':=by
 unfold zi8 at h
 split at h
 ·rename_i l
  split at h
  ·rename_i us hs
   split at h
   ·rename_i e hd
    split at h
    ·rename_i he
     have h0:=qfz h; clear h; have h:=h0; clear h0
     have h0:=qhv h; clear h; have h:=h0; clear h0
     refine⟨_,_,h,fun bs ρ H w v s rx=>?_⟩
     have ev:=qsb rx
     subst ev
     refine⟨_,_,Lib.run_convert_string_bytes w src dst e ⟨l.toArray⟩ hs hd he,?_⟩
     have hk:Keep (fun b=>b=w.heap.size) w (Lib.bytesWorld w e ⟨l.toArray⟩):=by
      refine⟨?_,?_,?_,by rw[Lib.bytesWorld_size]; omega,fun k hk _=>Lib.bytesWorld_at_old w e _ k hk⟩<;>simp[Lib.bytesWorld,World.freeze,World.alloc,World.drew,-World.alloc_eq,-World.drew_eq]
     have hz:(⟨l.toArray⟩:ByteArray).size=l.length:=ByteArray.size_mk_toArray l
     refine⟨ρ++[.slice (some ⟨w.heap.size,0,none⟩) (⟨l.toArray⟩:ByteArray).size (grownCap w (⟨l.toArray⟩:ByteArray).size 0 e)],H,List.prefix_append _ _,PH.le.refl H,?_,?_⟩
     ·refine s.push (g:=w.heap.size) (.inl rfl) (s.fresh (Nat.le_refl _)) (.inr s.keep.size) (PH.le.refl H) (s.sath.block fun b o v hv=>Lib.bytesWorld_at_old w e _ b (s.sath.lt hv)) (fun b o v h=>.inl ⟨v,h⟩) hk ?_
      refine⟨w.heap.size,_,e,_,_,_,by rw[hz],Lib.bytesWorld_at_new w e _,?_,?_,fun o=>?_⟩
      ·simp[Lib.bytesCells]
      ·intro j c hc
       have hj:=(List.getElem?_eq_some_iff.1 hc).1
       simp only[Lib.bytesCells]
       rw[Array.getElem?_append_left (by simpa using hj)]
       simp[hc]
      ·cases hx:H w.heap.size o with
       | none=>rfl
       | some x=>exact absurd (s.sath.lt hx) (Nat.lt_irrefl _)
     ·simp only[qcc]
      refine⟨by simp[← s.hlen],.inr ⟨w.heap.size,_,by rw[hz]⟩⟩
    ·exact h.elim
   ·exact h.elim
  ·exact h.elim
 ·exact h.elim
theorem zgb {bs:Base} {ρ:List Value} {H:PH} {lo:List AObj} (s:SatW bs ρ H lo w) {t ty e:TypeId} {i:TypeInfo} {zv:Value} (hu:P.underlying t=some (.slice e)) (hi:P.info? e=some i) (hz:i.zero=some zv) (hzs:zv.cells.size=i.size)
  {k0:Nat} {rows:List (List PV)} {v:Value} (ho:lo[k0]? =some (.vec e i.size rows)) (hρ:ρ[k0]? =some v) {news:List (List PV)} {x:Value} (rx:qcp H (.sl news) x) (hall:∀ r∈news,r.length=i.size)
  (hb:(rows++news).length * i.bytes<=140737488355328) (h63:(rows++news).length<=9223372036854775807) :
  ∃ v' w',(Builtin.append_ #[t,t] ty #[v,x]).run P w=.ok v' w'/\que bs ρ H (.vsl (lo.set k0 .dead).length (rows++news).length) (lo.set k0 .dead++[.vec e i.size (rows++news)]) v' w':=by
 obtain⟨xs,hown,hrv,h1,hh⟩:=s.objs k0 _ _ ho hρ
 have run:∃ vs:List Value,qr9 H i.size news vs/\(∀ u∈vs,u.oneCell'=true) /\
   ((news.length=0/\x=.slice none 0 0)\/∃ a c,x=.slice (some a) news.length c/\∀ j u,vs[j]? =some u->w.cell? (a.add j)=some u):=by
  rcases q6x rx hall with ⟨rfl,ex|⟨a',cap',ex⟩⟩|⟨b,o,cap,vs,ex,_,hv,hc⟩
  ·exact⟨[],rfl,by simp,.inl ⟨rfl,ex⟩⟩
  ·exact⟨[],rfl,by simp,.inr ⟨a',cap',ex,fun j u hu=>by simp at hu⟩⟩
  ·exact⟨vs,hv,qr9.one s.sath hc,.inr ⟨⟨b,o,none⟩,cap,ex,fun j u hu=>by rw[Addr.add_lit]; exact(s.sath.cell _ _ _ (hc j u hu)).1⟩⟩
 obtain⟨vs,hv,hone,hxx⟩:=run
 rw[List.length_append]at hb h63
 obtain⟨v',w',hr,hown',hk⟩:=q2e (P:=P) (w:=w) (ty:=ty) hu hi hz hzs hown hv.length hone hxx h63 hb
 refine⟨v',w',hr,?_⟩
 have sk:=s.kill k0
 have hfree:∀ g,qcs v=some g->∀ (k:Nat) (o':AObj) (u:Value),(lo.set k0 .dead)[k]? =some o'->ρ[k]? =some u->o'.live=true->qcs u≠some g:=by
  intro g hg k o' u hk' hu' hl
  rw[List.getElem?_set]at hk'
  split at hk'
  ·split at hk'
   ·cases hk'; simp[AObj.live]at hl
   ·cases hk'
  ·rename_i hne
   exact s.excl k0 k _ o' _ u g ho hk' hρ hu' hne rfl hl hg
 have hV:∀ {a b:List (List PV)} {us ws:List Value},qr9 H i.size a us->qr9 H i.size b ws->qr9 H i.size (a++b) (us++ws):=fun x y=>x.append y
 have hall1:∀ u∈xs++vs,u.oneCell'=true:=fun u hu'=>by
  rcases List.mem_append.1 hu' with h|h
  ·exact h1 u h
  ·exact hone u h
 have hvsl:qcc (ρ++[v']) H (.vsl (lo.set k0 .dead).length (rows++news).length) v':=by
  refine⟨by simp[← s.hlen],?_⟩
  rw[List.length_append]
  rcases hown'.2 with ⟨rfl,h0⟩|⟨g,cap,cur,rfl,_⟩
  ·exact .inl ⟨h0,rfl⟩
  ·exact .inr ⟨g,cap,rfl⟩
 have hok:(∀ b,qcs v'=some b->∀ o,H b o=none)->q30 (ρ++[v']) H w' v' (.vec e i.size (rows++news)):=fun hn=>
  ⟨xs++vs,by rw[List.length_append]; exact hown',hV hrv hv,hall1,hn⟩
 refine⟨ρ++[v'],H,List.prefix_append _ _,PH.le.refl H,?_,hvsl⟩
 rcases hk with ⟨e1,k1,k2⟩|⟨e1,k1⟩
 ·cases hvb:qcs v with
  | none=>
   have hw:=k2 hvb
   subst hw
   rw[hvb]at e1
   exact sk.push (g:=w'.heap.size) (.inr e1) (sk.fresh (Nat.le_refl _)) (.inr sk.keep.size) (PH.le.refl H) sk.sath (fun b o u hu=>.inl ⟨u,hu⟩) (Keep.refl _ _) (hok (fun b hb'=>by rw[e1]at hb'; cases hb'))
  | some g=>
   rw[hvb]at e1
   refine sk.push (g:=g) (.inl e1) (hfree g hvb) (s.own k0 _ _ g ho hρ rfl hvb) (PH.le.refl H) (s.sath.block fun b o u hu'=>(k1 g hvb).block b (s.sath.lt hu') (fun e=>by subst e; rw[hh _ hvb o]at hu'; cases hu')) (fun b o u hu=>.inl ⟨u,hu⟩) (k1 g hvb) (hok (fun b hb'=>by rw[e1]at hb'; cases hb'; exact hh _ hvb))
 ·have hnew:∀ o,H w.heap.size o=none:=fun o=>by
   cases hx:H w.heap.size o with
   | none=>rfl
   | some u=>exact absurd (s.sath.lt hx) (Nat.lt_irrefl _)
  refine sk.push (g:=w.heap.size) (.inl e1) (sk.fresh (Nat.le_refl _)) (.inr sk.keep.size) (PH.le.refl H) (s.sath.block fun b o u hu'=>k1.block b (s.sath.lt hu') (fun e=>by have:=s.sath.lt hu'; omega)) (fun b o u hu=>.inl ⟨u,hu⟩) k1 (hok (fun b hb'=>by rw[e1]at hb'; cases hb'; exact hnew))
theorem q2k {o:Oper} {E:Env} {lo:List AObj} {R:FV->List AObj->Prop} (h:zm3 P o.op E lo R):∃ fv lo',R fv lo'/\qg4 (zeu o.op) lo lo'/\qk2 P o (qb7 E) lo none fv lo':=by
 obtain⟨dst,op,ty,pos,after,guard⟩:=o
 simp only at h
 unfold zm3 at h
 split at h
 ·
  rename_i t x
  have h0:=qbm h; clear h; obtain⟨x',h,hx'⟩:=h0
  have h0:=qz0 h; clear h; obtain⟨cs,h,hcs⟩:=h0
  split at h
  ·rename_i h1
   have h:=qfz h
   have h:=qhv h
   refine⟨_,_,h,qg4.push _,fun hg bs ρ H w eval s hx=>?_⟩
   have rc:=hcs ρ H _ (hx' ρ H _ hg (hx x (by simp[Op.operands])))
   simp only[execOp,Instr.box,Sem.run_bind,q83,Result.andThen_ok,Sem.run_pure]
   refine⟨_,H,List.prefix_append _ _,PH.le.refl H,s.pushBox (t:=t) rc,?_⟩
   exact⟨w.heap.size,by simp[← s.hlen],rfl⟩
  ·exact h.elim
 ·
  rename_i t
  obtain⟨i,z,ps,hi,hz,h,hps⟩:=zhb h
  have h:=qw8 h
  split at h
  ·rename_i h1
   have h:=qfz h
   have h:=qhv h
   refine⟨_,_,h,qg4.push _,fun hg bs ρ H w eval s hx=>?_⟩
   simp only[execOp,Instr.alloc,Sem.run_bind,zeroValue,typeInfo,run_program,hi,hz,q83,Result.andThen_ok,Sem.run_pure]
   refine⟨_,H,List.prefix_append _ _,PH.le.refl H,s.pushBox (t:=t) (qd9.of_RepL (hps H)),?_⟩
   exact⟨w.heap.size,by simp[← s.hlen],rfl⟩
  ·exact h.elim
 ·
  rename_i t a x
  have h0:=qbm h; clear h; obtain⟨a',h,ha'⟩:=h0
  have h0:=qbm h; clear h; obtain⟨x',h,hx'⟩:=h0
  split at h
  ·rename_i k off
   have h0:=qz0 h; clear h; obtain⟨cs,h,hcs⟩:=h0
   split at h
   ·rename_i h1
    have h:=qfz h
    obtain⟨d,i,hd,hi,h⟩:=ql7 h
    split at h
    ·rename_i hn
     have hn:=q8i hn
     have h0:=qdt h; clear h; obtain⟨ob,hob,h⟩:=h0
     split at h
     ·rename_i bt cells
      obtain⟨h,hlen⟩:=qsv h
      obtain⟨h,hk⟩:=qkj h
      refine⟨_,_,h,qg4.set _ _,fun hg bs ρ H w eval s hx=>?_⟩
      obtain⟨b,hb,e⟩:=ha' ρ H _ hg (hx a (by simp[Op.operands]))
      have rc:=hcs ρ H _ (hx' ρ H _ hg (hx x (by simp[Op.operands])))
      obtain⟨b',vs,e',hg',rcells,hH⟩:=s.objs k _ _ hob hb
      cases e'
      have hsz:(eval x).cells.size=cs.length:=by have:=rc.length; simpa using this
      have hr:=q3e (P:=P) (w:=w) (t:=t) (bt:=bt) hi hg' (x:=eval x) (off:=off) (by omega) (by rw[rcells.length]; omega) (q52 h1 rc)
      simp only[execOp,e,Sem.run_bind,hr,Result.andThen_ok,Sem.run_pure]
      refine⟨ρ,H,List.prefix_refl _,PH.le.refl H,s.setBox hob hb hg' hH ?_,by simp[qcc,qcp,qec,undef]⟩
      rw[hsz]
      exact((rcells.take off).append rc).append (rcells.drop _)
     ·exact h.elim
    ·exact h.elim
   ·exact h.elim
  ·rename_i k z i off
   have h0:=zav h; clear h; obtain⟨fv,lo',h,hl,hs⟩:=h0
   refine⟨fv,lo',h,qg4.len hl,fun hg bs ρ H w eval s hx=>?_⟩
   obtain⟨w',hr,af⟩:=hs bs ρ H w _ _ s (ha' ρ H _ hg (hx a (by simp[Op.operands]))) (hx' ρ H _ hg (hx x (by simp[Op.operands])))
   simp only[execOp,Sem.run_bind,hr,Result.andThen_ok,Sem.run_pure]
   exact af
  ·exact h.elim
 ·
  rename_i sx xx t t'
  split at h
  ·rename_i htt
   have htt:=q8i htt
   subst htt
   have h0:=qbm h; clear h; obtain⟨s',h,hs'⟩:=h0
   have h0:=qbm h; clear h; obtain⟨x',h,hx'⟩:=h0
   have h0:=ze2 h; clear h; obtain⟨news,h,hnews⟩:=h0
   split at h
   ·rename_i k0 n0
    unfold zfr at h
    have h0:=ql5 h; clear h; obtain⟨e,i,hu,hi,h⟩:=h0
    split at h
    ·exact h.elim
    ·split at h
     ·rename_i i' hi'
      have:i'=i:=Option.some.inj (hi'.symm.trans hi)
      subst this
      split at h
      ·rename_i zv hzv
       split at h
       ·rename_i hzs
        have hzs:=q8i hzs
        have h0:=qdt h; clear h; obtain⟨ob,hob,h⟩:=h0
        split at h
        ·rename_i e' z' rows
         obtain⟨rows',⟨rfl,he,hz,hall,hb,h63⟩,h⟩:=h
         subst he; subst hz
         obtain⟨h,hk0⟩:=qkj h
         have h:=qfz h
         have h:=qhv h
         refine⟨_,_,h,qg4.kill _ hob rfl,fun hg bs ρ H w eval s hx=>?_⟩
         obtain⟨hρ,_⟩:=hs' ρ H _ hg (hx sx (by simp[Op.operands,Call.operands]))
         have rx:=hnews ρ H _ (hx' ρ H _ hg (hx xx (by simp[Op.operands,Call.operands])))
         obtain⟨v',w',hr,af⟩:=zgb (ty:=ty) s hu hi hzv hzs hob hρ rx hall hb h63
         simp only[execOp,resolve,invoke,builtin,Sem.run_bind,Sem.run_pure,Result.andThen_ok,List.map_toArray,List.map_cons,List.map_nil,hr]
         rw[Nat.zero_add]
         exact af
        ·exact h.elim
       ·exact h.elim
      ·exact h.elim
     ·exact h.elim
   have h0:=ql5 h; clear h; obtain⟨e,i,hu,hi,h⟩:=h0
   split at h
   ·exact h.elim
   ·split at h
    ·rename_i i' hi'
     have:i'=i:=Option.some.inj (hi'.symm.trans hi)
     subst this
     split at h
     ·rename_i zv hzv
      split at h
      ·rename_i hzs
       have hzs:=q8i hzs
       split at h
       ·
        obtain⟨⟨hall,hb,h63⟩,h⟩:=h
        have h:=qfz h
        have h:=qhv h
        refine⟨_,_,h,qg4.push _,fun hg bs ρ H w eval s hx=>?_⟩
        have es:eval sx=.slice none 0 0:=by
         have:=hs' ρ H _ hg (hx sx (by simp[Op.operands,Call.operands]))
         simpa[qcc,qcp]using this
        have rx:=hnews ρ H _ (hx' ρ H _ hg (hx xx (by simp[Op.operands,Call.operands])))
        have run:∃ vs:List Value,qr9 H i'.size news vs/\(∀ u∈vs,u.oneCell'=true) /\
          ((news.length=0/\eval xx=.slice none 0 0)\/∃ a c,eval xx=.slice (some a) news.length c/\∀ j u,vs[j]? =some u->w.cell? (a.add j)=some u):=by
         rcases q6x rx hall with ⟨rfl,ex|⟨a',cap',ex⟩⟩|⟨b,o,cap,vs,ex,_,hv,hc⟩
         ·exact⟨[],rfl,by simp,.inl ⟨rfl,ex⟩⟩
         ·exact⟨[],rfl,by simp,.inr ⟨a',cap',ex,fun j u hu=>by simp at hu⟩⟩
         ·exact⟨vs,hv,qr9.one s.sath hc,.inr ⟨⟨b,o,none⟩,cap,ex,fun j u hu=>by rw[Addr.add_lit]; exact(s.sath.cell _ _ _ (hc j u hu)).1⟩⟩
        obtain⟨vs,hv,hone,hxx⟩:=run
        obtain⟨v',w',hr,hown',hk⟩:=q2e (P:=P) (w:=w) (ty:=ty) hu hi hzv hzs (World.ownsRow_nil w 0 e i'.size) hv.length hone hxx (by omega) (by simpa using hb)
        obtain⟨hle,sat⟩:=qrz s (World.ownsRow_nil w 0 e i'.size) (fun b hb=>by simp[qcs]at hb) (fun g hg=>by simp[qcs]at hg) (fun g hg=>by simp[qcs]at hg) hv.length (by simpa using hone) hown' hk
        simp only[execOp,resolve,invoke,builtin,Sem.run_bind,Sem.run_pure,Result.andThen_ok,List.map_toArray,List.map_cons,List.map_nil,es,hr]
        simp only[Nat.zero_add,List.nil_append]at hown' sat hle
        refine⟨_,_,List.prefix_append _ _,hle,sat,by simp[← s.hlen],qsr hv hle hown'⟩
       ·
        rename_i k0 rows _
        obtain⟨⟨hall,hb,h63⟩,h⟩:=h
        have h0:=qdt h; clear h; obtain⟨ob,hob,h⟩:=h0
        split at h
        ·rename_i e' z' n
         obtain⟨⟨he,hz,hn⟩,h⟩:=h
         subst he; subst hz; subst hn
         obtain⟨h,hk0⟩:=qkj h
         have h:=qfz h
         have h:=qhv h
         refine⟨_,_,h,qg4.kill _ hob rfl,fun hg bs ρ H w eval s hx=>?_⟩
         have rs:=hs' ρ H _ hg (hx sx (by simp[Op.operands,Call.operands]))
         obtain⟨hrho,rsl⟩:=rs
         have rx:=hnews ρ H _ (hx' ρ H _ hg (hx xx (by simp[Op.operands,Call.operands])))
         obtain⟨xs,hown,hxs⟩:=s.objs k0 _ _ hob hrho
         have run:∃ vs:List Value,qr9 H i'.size news vs/\(∀ u∈vs,u.oneCell'=true) /\
           ((news.length=0/\eval xx=.slice none 0 0)\/∃ a c,eval xx=.slice (some a) news.length c/\∀ j u,vs[j]? =some u->w.cell? (a.add j)=some u):=by
          rcases q6x rx (fun r hr=>hall r (by simp[hr]))with ⟨rfl,ex|⟨a',cap',ex⟩⟩|⟨b,o,cap,vs,ex,_,hv,hc⟩
          ·exact⟨[],rfl,by simp,.inl ⟨rfl,ex⟩⟩
          ·exact⟨[],rfl,by simp,.inr ⟨a',cap',ex,fun j u hu=>by simp at hu⟩⟩
          ·exact⟨vs,hv,qr9.one s.sath hc,.inr ⟨⟨b,o,none⟩,cap,ex,fun j u hu=>by rw[Addr.add_lit]; exact(s.sath.cell _ _ _ (hc j u hu)).1⟩⟩
         obtain⟨vs,hv,hone,hxx⟩:=run
         have old:qr9 H i'.size rows xs/\∀ u∈xs,u.oneCell'=true:=by
          rcases q6x rsl (fun r hr=>hall r (by simp[hr]))with ⟨rfl,ex⟩|⟨b,o,cap,us,ex,_,hv',hc⟩
          ·have:xs=[]:=List.eq_nil_of_length_eq_zero (by simpa using hown.1)
           subst this
           exact⟨rfl,by simp⟩
          ·have hbk:qcs (eval sx)=some b:=by rw[ex]; rfl
           have ho:o=0:=by
            rcases hown.2 with ⟨e1,_⟩|⟨g,cap',cur,e1,_⟩
            ·rw[ex]at e1; cases e1
            ·rw[ex]at e1; injection e1 with e1; injection e1 with e1; injection e1
           subst ho
           have:xs=us:=by
            refine List.ext_getElem? fun j=>?_
            have l1:xs.length=us.length:=by rw[hown.1,hv'.length]
            rcases Nat.lt_or_ge j xs.length with hj|hj
            ·have h1:=(hxs b hbk).1 j _ (List.getElem?_eq_getElem hj)
             have h2:=hc j _ (List.getElem?_eq_getElem (show j<us.length by omega))
             rw[Nat.zero_add]at h2
             rw[List.getElem?_eq_getElem hj,List.getElem?_eq_getElem (show j<us.length by omega),← h1,← h2]
            ·rw[List.getElem?_eq_none hj,List.getElem?_eq_none (by omega)]
           subst this
           exact⟨hv',qr9.one s.sath hc⟩
         obtain⟨hvo,honeo⟩:=old
         obtain⟨v',w',hr,hown',hk⟩:=q2e (P:=P) (w:=w) (ty:=ty) hu hi hzv hzs hown hv.length hone hxx (by rw[List.length_append]at h63; exact h63) (by rw[List.length_append]at hb; exact hb)
         have sk:=s.kill k0
         obtain⟨hle,sat⟩:=qrz sk hown hxs (fun g hg k o' u hk' hu' hl=>by
           rw[List.getElem?_set]at hk'
           split at hk'
           ·first
             | (cases hk'; simp[AObj.live]at hl; done)
             | (split at hk'<;>first|(cases hk'; done)|(cases hk'; simp[AObj.live]at hl))
           ·rename_i hne
            exact s.excl k0 k _ o' _ u g hob hk' hrho hu' hne rfl hl hg)
          (fun g hg=>s.own k0 _ _ g hob hrho rfl hg) hv.length (fun u hu'=>by
           rcases List.mem_append.1 hu' with h|h
           ·exact honeo u h
           ·exact hone u h) hown' hk
         simp only[execOp,resolve,invoke,builtin,Sem.run_bind,Sem.run_pure,Result.andThen_ok,List.map_toArray,List.map_cons,List.map_nil,hr]
         refine⟨_,_,List.prefix_append _ _,hle,by rw[List.length_append]; exact sat,?_,qsr (hvo.append hv) hle (by rw[List.length_append]; exact hown')⟩
         have:(0+(lo.set k0 AObj.dead).length)=ρ.length:=by simp[s.hlen]
         rw[this]
         simp
        ·exact h.elim
       ·exact h.elim
      ·exact h.elim
     ·exact h.elim
    ·exact h.elim
  ·have h0:=qbm h; clear h; obtain⟨s',h,hs'⟩:=h0
   have h0:=qbm h; clear h; obtain⟨x',h,hx'⟩:=h0
   split at h
   case h_2=>exact h.elim
   rename_i str
   split at h
   case h_2=>exact h.elim
   rename_i hut
   have h0:=ql5 h; clear h; obtain⟨e,i,hu,hi,h⟩:=h0
   split at h
   case h_2=>exact h.elim
   rename_i hz1
   have hz1:=q8i hz1
   split at h
   case h_2=>exact h.elim
   rename_i i' hi'
   have:i'=i:=Option.some.inj (hi'.symm.trans hi)
   subst this
   split at h
   case h_2=>exact h.elim
   rename_i hzv
   have hbl:(qea str).length=str.length:=by simp[qea]
   split at h
   ·obtain⟨⟨hb,h63⟩,h⟩:=h
    have h:=qfz h
    have h:=qhv h
    refine⟨_,_,h,qg4.push _,fun hg bs ρ H w eval s hx=>?_⟩
    have es:eval sx=.slice none 0 0:=by
     have:=hs' ρ H _ hg (hx sx (by simp[Op.operands,Call.operands]))
     simpa[qcc,qcp]using this
    have ex:=qsb (hx' ρ H _ hg (hx xx (by simp[Op.operands,Call.operands])))
    obtain⟨v',w',hr,hown',hk⟩:=qup (P:=P) (w:=w) (ty:=ty) hu hut hi hzv hz1 (World.ownsRow_nil w 0 e 1) str (by omega) (by rw[hbl]at hb; simpa using hb)
    have hv:=zd3 H str
    obtain⟨hle,sat⟩:=qrz s (World.ownsRow_nil w 0 e 1) (fun b hb=>by simp[qcs]at hb) (fun g hg=>by simp[qcs]at hg) (fun g hg=>by simp[qcs]at hg) (by rw[Lib.strCells_length,qtx,Nat.mul_one]) (by simpa using Lib.strCells_oneCell _) hown' hk
    simp only[execOp,resolve,invoke,builtin,Sem.run_bind,Sem.run_pure,Result.andThen_ok,List.map_toArray,List.map_cons,List.map_nil,es,ex,hr]
    simp only[Nat.zero_add,List.nil_append]at hown' sat hle
    refine⟨_,_,List.prefix_append _ _,hle,by rw[hz1,hbl]; exact sat,by simp[← s.hlen],qsr hv hle (by rw[hbl]; exact hown')⟩
   ·rename_i k0 rows
    obtain⟨⟨hall,hb,h63⟩,h⟩:=h
    have h0:=qdt h; clear h; obtain⟨ob,hob,h⟩:=h0
    split at h
    case h_2=>exact h.elim
    rename_i e' z' n
    obtain⟨⟨he,hz,hn⟩,h⟩:=h
    subst he; subst hz; subst hn
    obtain⟨h,hk0⟩:=qkj h
    have h:=qfz h
    have h:=qhv h
    refine⟨_,_,h,qg4.kill _ hob rfl,fun hg bs ρ H w eval s hx=>?_⟩
    have rs:=hs' ρ H _ hg (hx sx (by simp[Op.operands,Call.operands]))
    obtain⟨hrho,rsl⟩:=rs
    have ex:=qsb (hx' ρ H _ hg (hx xx (by simp[Op.operands,Call.operands])))
    obtain⟨xs,hown,hxs⟩:=s.objs k0 _ _ hob hrho
    have old:qr9 H 1 rows xs/\∀ u∈xs,u.oneCell'=true:=by
     rcases q6x rsl hall with ⟨rfl,ex⟩|⟨b,o,cap,us,ex,_,hv',hc⟩
     ·have:xs=[]:=List.eq_nil_of_length_eq_zero (by simpa using hown.1)
      subst this
      exact⟨rfl,by simp⟩
     ·have hbk:qcs (eval sx)=some b:=by rw[ex]; rfl
      have ho:o=0:=by
       rcases hown.2 with ⟨e1,_⟩|⟨g,cap',cur,e1,_⟩
       ·rw[ex]at e1; cases e1
       ·rw[ex]at e1; injection e1 with e1; injection e1 with e1; injection e1
      subst ho
      have:xs=us:=by
       refine List.ext_getElem? fun j=>?_
       have l1:xs.length=us.length:=by rw[hown.1,hv'.length]
       rcases Nat.lt_or_ge j xs.length with hj|hj
       ·have h1:=(hxs b hbk).1 j _ (List.getElem?_eq_getElem hj)
        have h2:=hc j _ (List.getElem?_eq_getElem (show j<us.length by omega))
        rw[Nat.zero_add]at h2
        rw[List.getElem?_eq_getElem hj,List.getElem?_eq_getElem (show j<us.length by omega),← h1,← h2]
       ·rw[List.getElem?_eq_none hj,List.getElem?_eq_none (by omega)]
      subst this
      exact⟨hv',qr9.one s.sath hc⟩
    obtain⟨hvo,honeo⟩:=old
    rw[List.length_append,hbl]at hb h63
    obtain⟨v',w',hr,hown',hk⟩:=qup (P:=P) (w:=w) (ty:=ty) hu hut hi hzv hz1 hown str h63 hb
    have hv:=zd3 H str
    have sk:=s.kill k0
    obtain⟨hle,sat⟩:=qrz sk hown hxs (fun g hg k o' u hk' hu' hl=>by
      rw[List.getElem?_set]at hk'
      split at hk'
      ·first
        | (cases hk'; simp[AObj.live]at hl; done)
        | (split at hk'<;>first|(cases hk'; done)|(cases hk'; simp[AObj.live]at hl))
      ·rename_i hne
       exact s.excl k0 k _ o' _ u g hob hk' hrho hu' hne rfl hl hg)
     (fun g hg=>s.own k0 _ _ g hob hrho rfl hg) (by rw[Lib.strCells_length,qtx,Nat.mul_one]) (fun u hu'=>by
      rcases List.mem_append.1 hu' with h|h
      ·exact honeo u h
      ·exact Lib.strCells_oneCell _ u h) hown' hk
    simp only[execOp,resolve,invoke,builtin,Sem.run_bind,Sem.run_pure,Result.andThen_ok,List.map_toArray,List.map_cons,List.map_nil,ex,hr]
    refine⟨_,_,List.prefix_append _ _,hle,by rw[hz1,List.length_append,hbl]; exact sat,?_,qsr (hvo.append hv) hle (by rw[List.length_append,hbl]; exact hown')⟩
    have:(0+(lo.set k0 AObj.dead).length)=ρ.length:=by simp[s.hlen]
    rw[this]
    simp
   ·exact h.elim
 ·exact zee (o:=⟨dst,_,ty,pos,after,guard⟩) h
end
end Ax
end
