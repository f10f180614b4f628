/- A part of the proof: the abstract execution. -/
import Derived.Still
import Derived.Below
import Derived.Laws.AppendOwnNone
import Derived.MapKept
import Derived.WalkKit
import Derived.Laws.IdiomStrings
import Derived.Laws.BytesArg
import Derived.Lib.Builder
import Derived.Carry
import Derived.Lib.AppendStr
import Derived.Laws.IdiomCopy
import Derived.Lib.ConvBytes
set_option linter.unusedVariables false
set_option linter.unusedSimpArgs false
set_option linter.unnecessarySimpa false
set_option linter.deprecated false
set_option linter.unusedSectionVars false
set_option linter.constructorNameAsVariable false
section
namespace Ax
open Go
inductive PV where
 | bool (b:Bool)|int (k:IntKind) (n:Int)|str (l:List UInt8)
 | agg (cs:List PV)|tup (vs:List PV)|nilsl|sl (rows:List (List PV))
 | nilp|fn (f:FuncId)|nilfn|nili|ifc (t:TypeId) (v:PV)|nilmap
inductive FV where
 | top
 | p (v:PV)
 | opt (g:Bool) (v:FV)
 | tsl (k:Nat) (rows:List (List PV))
 | ptr (k off:Nat)
 | hptr (row:List PV)
 | bself (k:Nat)
 | bsl (k off len cap:Nat)
 | vsl (k n:Nat)
 | eptr (k z i off:Nat)
 | mref (k:Nat)
 | pair (a b:FV)
 | stmp (k:Nat)
 | clo (f:FuncId) (c:FV)
 | cap0
 | cap (a b:FV)
 | fagg (c:FV)
 | nxt (ok:Bool) (a b:PV)
inductive AObj where
 | dead
 | box (t:TypeId) (cells:List FV)
 | tail (e:TypeId) (z n:Nat)
 | vec (e:TypeId) (z:Nat) (rows:List (List PV))
 | mp (d:TypeDesc) (es:List (PV×PV)) (mk:Option (PV×Nat))
 | sit (l:List UInt8) (pos:Nat)
 | bv (l:List UInt8)
def AObj.live:AObj→Bool
 | .dead=>false
 | _=>true
abbrev PH:=Nat→Nat→Option Value
def PH.le (H H':PH):Prop:=∀ b o v,H b o=some v→H' b o=some v
theorem PH.le.refl (H:PH):PH.le H H:=fun _ _ _ h=>h
theorem PH.le.trans {a b c:PH} (h:PH.le a b) (h':PH.le b c):PH.le a c:=fun _ _ _ x=>h' _ _ _ (h _ _ _ x)
mutual
def qcn (H:PH):PV→Value→Prop
 | .bool b,v=>v=.bool b
 | .int k n,v=>v=.int k n
 | .str l,v=>v=.string ⟨l.toArray⟩
 | .agg cs,v=>∃ vs:List Value,v=.agg vs.toArray∧qd1 H cs vs
 | .tup cs,v=>∃ vs:List Value,v=.tuple vs.toArray∧qd1 H cs vs
 | .nilsl,v=>v=.slice none 0 0
 | .sl rows,v=>(rows=[]∧(v=.slice none 0 0∨∃ a cap,v=.slice (some a) 0 cap)) ∨
   ∃ b o z cap,v=.slice (some ⟨b,o,none⟩) rows.length cap∧rows.length≤cap∧qpw H b z o rows
 | .nilp,v=>v=.pointer none
 | .fn f,v=>v=.func (.func f) #[] #[]
 | .nilfn,v=>v=.nilFunc
 | .nili,v=>v=.nilIface
 | .ifc t p,v=>∃ u,v=.iface t u∧qcn H p u
 | .nilmap,v=>v=.map none
def qd1 (H:PH):List PV→List Value→Prop
 | [],vs=>vs=[]
 | c::cs,vs=>∃ v vs',vs=v::vs'∧qcn H c v∧qd1 H cs vs'
def qpw (H:PH) (b z:Nat):Nat→List (List PV)→Prop
 | _,[]=>True
 | o,r::rs=>r.length=z∧(∃ vs,qd1 H r vs∧∀ j v,vs[j]? =some v→H b (o+j)=some v)∧qpw H b z (o+z) rs
end
mutual
theorem qcn.mono {H H':PH} (h:PH.le H H'):∀ {p:PV} {v:Value},qcn H p v→qcn H' p v
 | .bool _,_,x|.int ..,_,x|.str _,_,x|.nilsl,_,x|.nilp,_,x|.fn _,_,x|.nilfn,_,x|.nili,_,x|.nilmap,_,x=>by
  simp only[qcn]at *; exact x
 | .agg cs,v,x=>by
  simp only[qcn]at *
  obtain⟨vs,e,r⟩:=x
  exact⟨vs,e,qd1.mono h r⟩
 | .tup cs,v,x=>by
  simp only[qcn]at *
  obtain⟨vs,e,r⟩:=x
  exact⟨vs,e,qd1.mono h r⟩
 | .sl rows,v,x=>by
  simp only[qcn]at *
  rcases x with x|⟨b,o,z,cap,e,l,r⟩
  ·exact .inl x
  ·exact .inr ⟨b,o,z,cap,e,l,qpw.mono h r⟩
 | .ifc t p,v,x=>by
  simp only[qcn]at *
  obtain⟨u,e,r⟩:=x
  exact⟨u,e,qcn.mono h r⟩
theorem qd1.mono {H H':PH} (h:PH.le H H'):∀ {cs:List PV} {vs:List Value},qd1 H cs vs→qd1 H' cs vs
 | [],_,x=>by simp only[qd1]at *; exact x
 | c::cs,vs,x=>by
  simp only[qd1]at *
  obtain⟨v,vs',e,r,rs⟩:=x
  exact⟨v,vs',e,qcn.mono h r,qd1.mono h rs⟩
theorem qpw.mono {H H':PH} (h:PH.le H H') {b z:Nat}:∀ {o:Nat} {rows:List (List PV)},qpw H b z o rows→qpw H' b z o rows
 | _,[],_=>by simp only[qpw]
 | o,r::rs,x=>by
  simp only[qpw]at *
  obtain⟨e,⟨vs,q,c⟩,x'⟩:=x
  exact⟨e,⟨vs,qd1.mono h q,fun j v hv=>h _ _ _ (c j v hv)⟩,qpw.mono h x'⟩
end
theorem qd1.length {H:PH}:∀ {cs:List PV} {vs:List Value},qd1 H cs vs→vs.length=cs.length
 | [],vs,x=>by simp only[qd1]at x; simp[x]
 | c::cs,vs,x=>by
  simp only[qd1]at x
  obtain⟨v,vs',e,_,rs⟩:=x
  simp[e,qd1.length rs]
theorem qd1.get {H:PH}:∀ {cs:List PV} {vs:List Value} {i:Nat} {c:PV},qd1 H cs vs→cs[i]? =some c→∃ v,vs[i]? =some v∧qcn H c v
 | [],_,_,_,_,h=>by simp at h
 | c::cs,vs,i,c',x,h=>by
  simp only[qd1]at x
  obtain⟨v,vs',e,r,rs⟩:=x
  subst e
  cases i with
  | zero=>simp at h; subst h; exact⟨v,by simp,r⟩
  | succ i=>simp at h; obtain⟨u,hu,ru⟩:=rs.get h; exact⟨u,by simpa using hu,ru⟩
theorem qd1.drop {H:PH}:∀ {cs:List PV} {vs:List Value} (n:Nat),qd1 H cs vs→qd1 H (cs.drop n) (vs.drop n)
 | _,_,0,x=>by simpa using x
 | [],vs,n+1,x=>by simp only[qd1]at x; simp[x,qd1]
 | c::cs,vs,n+1,x=>by
  simp only[qd1]at x
  obtain⟨v,vs',e,r,rs⟩:=x
  subst e
  simpa using rs.drop n
theorem qd1.take {H:PH}:∀ {cs:List PV} {vs:List Value} (n:Nat),qd1 H cs vs→qd1 H (cs.take n) (vs.take n)
 | _,_,0,x=>by simp[qd1]
 | [],vs,n+1,x=>by simp only[qd1]at x; simp[x,qd1]
 | c::cs,vs,n+1,x=>by
  simp only[qd1]at x
  obtain⟨v,vs',e,r,rs⟩:=x
  subst e
  simp only[List.take_succ_cons,qd1]
  exact⟨v,_,rfl,r,rs.take n⟩
theorem qd1.append {H:PH}:∀ {cs ds:List PV} {vs us:List Value},qd1 H cs vs→qd1 H ds us→qd1 H (cs++ds) (vs++us)
 | [],_,vs,_,x,y=>by simp only[qd1]at x; simpa[x]using y
 | c::cs,ds,vs,us,x,y=>by
  simp only[qd1]at x
  obtain⟨v,vs',e,r,rs⟩:=x
  subst e
  simp only[List.cons_append,qd1]
  exact⟨v,_,rfl,r,rs.append y⟩
theorem qpw.get {H:PH} {b z:Nat}:∀ {o:Nat} {rows:List (List PV)} {i:Nat} {r:List PV},qpw H b z o rows→rows[i]? =some r →
  r.length=z∧∃ vs,qd1 H r vs∧∀ j v,vs[j]? =some v→H b (o+i * z+j)=some v
 | _,[],_,_,_,h=>by simp at h
 | o,q::rs,i,r,x,h=>by
  simp only[qpw]at x
  obtain⟨e,c,x'⟩:=x
  cases i with
  | zero=>simp at h; subst h; simpa using⟨e,c⟩
  | succ i=>
   simp at h
   have:=x'.get h
   have e2:o+z+i * z=o+(i+1) * z:=by rw[Nat.add_mul]; omega
   rwa [e2]at this
theorem qpw.drop {H:PH} {b z:Nat}:∀ {o:Nat} {rows:List (List PV)} (i:Nat),qpw H b z o rows→qpw H b z (o+i * z) (rows.drop i)
 | _,_,0,x=>by simpa using x
 | _,[],_+1,_=>by simp[qpw]
 | o,q::rs,i+1,x=>by
  simp only[qpw]at x
  have:=x.2.2.drop i
  have e2:o+z+i * z=o+(i+1) * z:=by rw[Nat.add_mul]; omega
  rw[e2]at this
  simpa using this
theorem qpw.take {H:PH} {b z:Nat}:∀ {o:Nat} {rows:List (List PV)} (i:Nat),qpw H b z o rows→qpw H b z o (rows.take i)
 | _,_,0,_=>by simp[qpw]
 | _,[],_+1,_=>by simp[qpw]
 | o,q::rs,i+1,x=>by
  simp only[qpw,List.take_succ_cons]at x ⊢
  exact⟨x.1,x.2.1,x.2.2.take i⟩
mutual
def nle:PV→PV→Prop
 | .nilsl,.sl rows=>rows=[]
 | .agg a,.agg b=>zec a b
 | .tup a,.tup b=>zec a b
 | a,b=>a=b
def zec:List PV→List PV→Prop
 | [],[]=>True
 | a::l,b::m=>nle a b∧zec l m
 | _,_=>False
end
mutual
theorem q3e {H:PH}:∀ {p q:PV} {v:Value},nle p q→qcn H p v→qcn H q v
 | .nilsl,q,v,h,r=>by
  cases q<;>simp only[nle]at h<;>first|(subst h; simp only[qcn]at *; exact .inl ⟨trivial,.inl r⟩)|exact r|cases h
 | .agg a,q,v,h,r=>by
  cases q<;>simp only[nle]at h<;>try cases h
  simp only[qcn]at *
  obtain⟨vs,e,rr⟩:=r
  exact⟨vs,e,qwg h rr⟩
 | .tup a,q,v,h,r=>by
  cases q<;>simp only[nle]at h<;>try cases h
  simp only[qcn]at *
  obtain⟨vs,e,rr⟩:=r
  exact⟨vs,e,qwg h rr⟩
 | .bool _,q,v,h,r|.int ..,q,v,h,r|.str _,q,v,h,r|.sl _,q,v,h,r|.nilp,q,v,h,r|.fn _,q,v,h,r|.nilfn,q,v,h,r|.nili,q,v,h,r|.ifc ..,q,v,h,r|.nilmap,q,v,h,r=>by
  cases q<;>simp only[nle]at h<;>cases h<;>exact r
theorem qwg {H:PH}:∀ {p q:List PV} {v:List Value},zec p q→qd1 H p v→qd1 H q v
 | [],[],_,_,r=>r
 | [],_::_,_,h,_=>by simp[zec]at h
 | _::_,[],_,h,_=>by simp[zec]at h
 | a::l,b::m,vs,h,r=>by
  simp only[zec]at h
  simp only[qd1]at *
  obtain⟨v,vs',e,r1,r2⟩:=r
  exact⟨v,vs',e,q3e h.1 r1,qwg h.2 r2⟩
end
def q9a:List (List PV)→List (List PV)→Prop
 | [],[]=>True
 | a::l,b::m=>zec a b∧q9a l m
 | _,_=>False
theorem qx9:∀ {p q:List PV},zec p q→p.length=q.length
 | [],[],_=>rfl
 | [],_::_,h=>by simp[zec]at h
 | _::_,[],h=>by simp[zec]at h
 | a::l,b::m,h=>by simp only[zec]at h; simp[qx9 h.2]
theorem qyp:∀ {p q:List (List PV)},q9a p q→p.length=q.length
 | [],[],_=>rfl
 | [],_::_,h=>by simp[q9a]at h
 | _::_,[],h=>by simp[q9a]at h
 | a::l,b::m,h=>by simp only[q9a]at h; simp[qyp h.2]
theorem zcw {H:PH} {b z:Nat}:∀ {o:Nat} {p q:List (List PV)},q9a p q→qpw H b z o p→qpw H b z o q
 | _,[],[],_,_=>by simp only[qpw]
 | _,[],_::_,h,_=>by simp[q9a]at h
 | _,_::_,[],h,_=>by simp[q9a]at h
 | o,r::rs,s::ss,h,x=>by
  simp only[q9a]at h
  simp only[qpw]at *
  obtain⟨e,⟨vs,q,c⟩,x'⟩:=x
  exact⟨by rw[← e,qx9 h.1],⟨vs,qwg h.1 q,c⟩,zcw h.2 x'⟩
theorem zme {H:PH} {p q:List (List PV)} {v:Value} (h:p=q∨q9a p q) (r:qcn H (.sl p) v):qcn H (.sl q) v:=by
 rcases h with rfl|h
 ·exact r
 ·simp only[qcn]at *
  rcases r with ⟨rfl,r⟩|⟨b,o,z,cap,e,l,r⟩
  ·cases q with
   | nil=>exact .inl ⟨rfl,r⟩
   | cons _ _=>simp[q9a]at h
  ·have e2:=qyp h
   exact .inr ⟨b,o,z,cap,by rw[← e2]; exact e,by rw[← e2]; exact l,zcw h r⟩
def qb6 (ρ:List Value) (H:PH):FV→Value→Prop
 | .top,_=>True
 | .p p,x=>qcn H p x
 | .opt g v,x=>if g=true then qb6 ρ H v x else x=undef
 | .tsl k rows,x=>ρ[k]? =some x∧qcn H (.sl rows) x
 | .ptr k off,x=>∃ b,ρ[k]? =some (.pointer (some ⟨b,0,none⟩))∧x=.pointer (some ⟨b,off,none⟩)
 | .hptr row,x=>∃ b o vs,x=.pointer (some ⟨b,o,none⟩)∧qd1 H row vs∧∀ j v,vs[j]? =some v→H b (o+j)=some v
 | .bself k,x=>∃ b,ρ[k]? =some (.pointer (some ⟨b,0,none⟩))∧(x=.pointer none∨x=.pointer (some ⟨b,0,none⟩))
 | .bsl k off len cap,x=>∃ b,ρ[k]? =some (.pointer (some ⟨b,0,none⟩))∧x=.slice (some ⟨b,off,none⟩) len cap
 | .vsl k n,x=>ρ[k]? =some x∧((n=0∧x=.slice none 0 0)∨∃ b cap,x=.slice (some ⟨b,0,none⟩) n cap)
 | .eptr k z i off,x=>∃ b n cap,ρ[k]? =some (.slice (some ⟨b,0,none⟩) n cap)∧x=.pointer (some ⟨b,i * z+off,none⟩)
 | .mref k,x=>∃ b,ρ[k]? =some (.map (some b))∧x=.map (some b)
 | .pair a b,x=>∃ u v,x=.tuple #[u,v]∧qb6 ρ H a u∧qb6 ρ H b v
 | .stmp k,x=>ρ[k]? =some x
 | .clo f c,x=>∃ vs:List Value,x=.func (.func f) #[] vs.toArray∧qb6 ρ H c (.tuple vs.toArray)
 | .cap0,x=>x=.tuple #[]
 | .cap a b,x=>∃ (u:Value) (vs:List Value),x=.tuple (u::vs).toArray∧qb6 ρ H a u∧qb6 ρ H b (.tuple vs.toArray)
 | .fagg c,x=>∃ vs:List Value,x=.agg vs.toArray∧qb6 ρ H c (.tuple vs.toArray)
 | .nxt ok a b,x=>if ok=true then ∃ u v,x=.tuple #[.bool true,u,v]∧qcn H a u∧qcn H b v else x=.tuple #[.bool false]
theorem qb6.mono {ρ ρ':List Value} {H H':PH} (hr:ρ <+: ρ') (h:PH.le H H'):∀ {f:FV} {x:Value},qb6 ρ H f x→qb6 ρ' H' f x
 | .top,_,_=>trivial
 | .p p,x,r=>qcn.mono h (p:=p) r
 | .opt g v,x,r=>by
  simp only[qb6]at *
  split
  ·rename_i hg; simp only[hg,if_true]at r; exact qb6.mono hr h r
  ·rename_i hg; simpa[hg]using r
 | .tsl k rows,x,r=>by
  obtain⟨l,rfl⟩:=hr
  refine⟨?_,qcn.mono h r.2⟩
  rw[List.getElem?_append_left (List.getElem?_eq_some_iff.1 r.1).1]; exact r.1
 | .ptr k off,x,r=>by
  obtain⟨l,rfl⟩:=hr
  obtain⟨b,e,e'⟩:=r
  refine⟨b,?_,e'⟩
  rw[List.getElem?_append_left (List.getElem?_eq_some_iff.1 e).1]; exact e
 | .hptr row,x,r=>by
  obtain⟨b,o,vs,e,q,c⟩:=r
  exact⟨b,o,vs,e,qd1.mono h q,fun j v hv=>h _ _ _ (c j v hv)⟩
 | .bself k,x,r=>by
  obtain⟨l,rfl⟩:=hr
  obtain⟨b,e,e'⟩:=r
  refine⟨b,?_,e'⟩
  rw[List.getElem?_append_left (List.getElem?_eq_some_iff.1 e).1]; exact e
 | .bsl k off len cap,x,r=>by
  obtain⟨l,rfl⟩:=hr
  obtain⟨b,e,e'⟩:=r
  refine⟨b,?_,e'⟩
  rw[List.getElem?_append_left (List.getElem?_eq_some_iff.1 e).1]; exact e
 | .vsl k n,x,r=>by
  obtain⟨l,rfl⟩:=hr
  refine⟨?_,r.2⟩
  rw[List.getElem?_append_left (List.getElem?_eq_some_iff.1 r.1).1]; exact r.1
 | .eptr k z i off,x,r=>by
  obtain⟨l,rfl⟩:=hr
  obtain⟨b,n,cap,e,e'⟩:=r
  refine⟨b,n,cap,?_,e'⟩
  rw[List.getElem?_append_left (List.getElem?_eq_some_iff.1 e).1]; exact e
 | .mref k,x,r=>by
  obtain⟨l,rfl⟩:=hr
  obtain⟨b,e,e'⟩:=r
  refine⟨b,?_,e'⟩
  rw[List.getElem?_append_left (List.getElem?_eq_some_iff.1 e).1]; exact e
 | .pair a b,x,r=>by
  obtain⟨u,v,e,ra,rb⟩:=r
  exact⟨u,v,e,ra.mono hr h,rb.mono hr h⟩
 | .stmp k,x,r=>by
  obtain⟨l,rfl⟩:=hr
  simp only[qb6]at *
  rw[List.getElem?_append_left (List.getElem?_eq_some_iff.1 r).1]; exact r
 | .clo f c,x,r=>by
  obtain⟨vs,e,rc⟩:=r
  exact⟨vs,e,rc.mono hr h⟩
 | .cap0,x,r=>r
 | .cap a b,x,r=>by
  obtain⟨u,vs,e,ra,rb⟩:=r
  exact⟨u,vs,e,ra.mono hr h,rb.mono hr h⟩
 | .fagg c,x,r=>by
  obtain⟨vs,e,rc⟩:=r
  exact⟨vs,e,rc.mono hr h⟩
 | .nxt ok a b,x,r=>by
  simp only[qb6]at *
  split
  ·rename_i hok
   simp only[hok,if_true]at r
   obtain⟨u,v,e,ra,rb⟩:=r
   exact⟨u,v,e,ra.mono h,rb.mono h⟩
  ·rename_i hok; simpa[hok]using r
def qdn (ρ:List Value) (H:PH):List FV→List Value→Prop
 | [],vs=>vs=[]
 | c::cs,vs=>∃ v vs',vs=v::vs'∧qb6 ρ H c v∧qdn ρ H cs vs'
theorem qdn.mono {ρ ρ':List Value} {H H':PH} (hr:ρ <+: ρ') (h:PH.le H H'):∀ {cs:List FV} {vs:List Value},qdn ρ H cs vs→qdn ρ' H' cs vs
 | [],_,x=>x
 | c::cs,vs,x=>by
  obtain⟨v,vs',e,r,rs⟩:=x
  exact⟨v,vs',e,r.mono hr h,rs.mono hr h⟩
theorem qdn.length {ρ:List Value} {H:PH}:∀ {cs:List FV} {vs:List Value},qdn ρ H cs vs→vs.length=cs.length
 | [],vs,x=>by simp only[qdn]at x; simp[x]
 | c::cs,vs,x=>by
  obtain⟨v,vs',e,_,rs⟩:=x
  simp[e,qdn.length rs]
theorem qdn.drop {ρ:List Value} {H:PH}:∀ {cs:List FV} {vs:List Value} (n:Nat),qdn ρ H cs vs→qdn ρ H (cs.drop n) (vs.drop n)
 | _,_,0,x=>by simpa using x
 | [],vs,n+1,x=>by simp only[qdn]at x; simp[x,qdn]
 | c::cs,vs,n+1,x=>by
  obtain⟨v,vs',e,r,rs⟩:=x
  subst e
  simpa using rs.drop n
theorem qdn.take {ρ:List Value} {H:PH}:∀ {cs:List FV} {vs:List Value} (n:Nat),qdn ρ H cs vs→qdn ρ H (cs.take n) (vs.take n)
 | _,_,0,x=>by simp[qdn]
 | [],vs,n+1,x=>by simp only[qdn]at x; simp[x,qdn]
 | c::cs,vs,n+1,x=>by
  obtain⟨v,vs',e,r,rs⟩:=x
  subst e
  simp only[List.take_succ_cons,qdn]
  exact⟨v,_,rfl,r,rs.take n⟩
theorem qdn.of_RepL {ρ:List Value} {H:PH}:∀ {cs:List PV} {vs:List Value},qd1 H cs vs→qdn ρ H (cs.map .p) vs
 | [],_,x=>by simp only[qd1]at x; simpa[qdn]using x
 | c::cs,vs,x=>by
  simp only[qd1]at x
  obtain⟨v,vs',e,r,rs⟩:=x
  exact⟨v,vs',e,r,qdn.of_RepL rs⟩
def zdl (H:PH):Prop:=∃ m,H 0 0=some (.int .i64 m)
structure SatH (H:PH) (w:World):Prop where
 cell:∀ b o v,H b o=some v→w.cell? ⟨b,o,none⟩=some v∧v.oneCell'=true
 root:zdl H
instance {H:PH} {w:World}:CoeFun (SatH H w) (fun _=>∀ b o v,H b o=some v→w.cell? ⟨b,o,none⟩=some v∧v.oneCell'=true):=⟨SatH.cell⟩
theorem zdl.mono {H H':PH} (h:zdl H) (hle:∀ b o v,H b o=some v→H' b o=some v):zdl H':=let ⟨m,hm⟩:=h; ⟨m,hle _ _ _ hm⟩
structure Keep (S:Nat→Prop) (w0 w:World):Prop where
 os:w.os=w0.os
 tape:w.tape=w0.tape
 output:w.output=w0.output
 size:w0.heap.size≤w.heap.size
 block:∀ k,k<w0.heap.size→¬ S k→w.heap[k]? =w0.heap[k]?
theorem Keep.refl (S:Nat→Prop) (w:World):Keep S w w:=⟨rfl,rfl,rfl,Nat.le_refl _,fun _ _ _=>rfl⟩
theorem Keep.trans {S:Nat→Prop} {a b c:World} (h:Keep S a b) (k:Keep S b c):Keep S a c:=
 ⟨k.os.trans h.os,k.tape.trans h.tape,k.output.trans h.output,Nat.le_trans h.size k.size,
  fun i hi hs=>(k.block i (Nat.lt_of_lt_of_le hi h.size) hs).trans (h.block i hi hs)⟩
theorem Keep.step {S S':Nat→Prop} {a b c:World} (h:Keep S a b) (k:Keep S' b c) (hs:∀ i,S' i→S i∨a.heap.size≤i):Keep S a c:=
 ⟨k.os.trans h.os,k.tape.trans h.tape,k.output.trans h.output,Nat.le_trans h.size k.size,
  fun i hi hn=>(k.block i (Nat.lt_of_lt_of_le hi h.size) (fun x=>(hs i x).elim hn (by omega))).trans (h.block i hi hn)⟩
abbrev zcu:Nat→Prop:=fun _=>False
structure Base where
 S:Nat→Prop
 w0:World
 H0:PH
 r0:List Value
def qck:Value→Option Nat
 | .pointer (some a)=>some a.block
 | .slice (some a) _ _=>some a.block
 | .map r=>r
 | _=>none
def qpe (H:PH) (z:Nat):List (List PV)→List Value→Prop
 | [],vs=>vs=[]
 | r::rs,vs=>r.length=z∧∃ a b,vs=a++b∧qd1 H r a∧qpe H z rs b
theorem qpe.mono {H H':PH} (h:PH.le H H') {z:Nat}:∀ {rows:List (List PV)} {vs:List Value},qpe H z rows vs→qpe H' z rows vs
 | [],_,x=>x
 | r::rs,vs,x=>by
  obtain⟨hz,a,b,e,q,y⟩:=x
  exact⟨hz,a,b,e,qd1.mono h q,y.mono h⟩
def q8u (H:PH):List (PV×PV)→List MapEntry→Prop
 | [],l=>l=[]
 | (k,p)::es,l=>∃ e l',l=e::l'∧qcn H k e.key∧qcn H p e.val∧q8u H es l'
theorem q8u.mono {H H':PH} (h:PH.le H H'):∀ {es:List (PV×PV)} {l:List MapEntry},q8u H es l→q8u H' es l
 | [],_,x=>x
 | (k,p)::es,l,x=>by
  obtain⟨e,l',e1,rk,rp,rr⟩:=x
  exact⟨e,l',e1,qcn.mono h rk,qcn.mono h rp,rr.mono h⟩
def zcs (ρ:List Value) (H:PH) (ents:Array MapEntry) (mk:Option (PV×Nat)):Prop:=
 ∀ key s,mk=some (key,s)→∃ (j:Nat) (e:MapEntry),ents[j]? =some e∧qcn H key e.key∧ρ[s]? =some (.int .i64 e.born)
theorem zcs.mono {ρ ρ':List Value} {H H':PH} {ents:Array MapEntry} {mk:Option (PV×Nat)} (hr:ρ <+: ρ') (h:PH.le H H') (m:zcs ρ H ents mk):zcs ρ' H' ents mk:=fun key s e=>by
 obtain⟨j,x,hj,hk,hs⟩:=m key s e
 obtain⟨l,rfl⟩:=hr
 exact⟨j,x,hj,qcn.mono h hk,by rw[List.getElem?_append_left (List.getElem?_eq_some_iff.1 hs).1]; exact hs⟩
def q2f (ρ:List Value) (H:PH) (w:World) (v:Value):AObj→Prop
 | .dead=>True
 | .box t cells=>∃ b vs,v=.pointer (some ⟨b,0,none⟩)∧w.heap[b]? =some (.cells vs.toArray t (0,0))∧qdn ρ H cells vs∧∀ o,H b o=none
 | .tail e z n=>∃ xs,w.ownsRow 0 e z v n xs∧∀ b,qck v=some b→(∀ j u,xs[j]? =some u→H b j=some u)∧∀ o,n * z≤o→H b o=none
 | .vec e z rows=>∃ xs,w.ownsRow 0 e z v rows.length xs∧qpe H z rows xs∧(∀ u∈xs,u.oneCell'=true)∧∀ b,qck v=some b→∀ o,H b o=none
 | .mp d es mk=>∃ b ents clock,v=.map (some b)∧w.heap[b]? =some (.map ents clock)∧q8u H es ents.toList∧(MapKept.Stamped ents clock∧(∀ x∈ents.toList,MapKept.IsKey d x.key)∧zcs ρ H ents mk)∧∀ o,H b o=none
 | .sit l pos=>∃ b,v=.pointer (some ⟨b,0,none⟩)∧w.heap[b]? =some (.stringIter ⟨l.toArray⟩ pos)∧∀ o,H b o=none
 | .bv l=>∃ b cs e cap lo hi,v=.slice (some ⟨b,0,none⟩) l.length cap∧w.heap[b]? =some (.cells cs e (lo,hi))∧l.length≤lo∧(∀ (j:Nat) (c:UInt8),l[j]? =some c→cs[j]? =some (.int .u8 c.toNat))∧∀ o,H b o=none
structure SatW (bs:Base) (ρ:List Value) (H:PH) (lo:List AObj) (w:World):Prop where
 sath:SatH H w
 hlen:ρ.length=lo.length
 pre:bs.r0 <+: ρ
 objs:∀ (k:Nat) (o:AObj) (v:Value),lo[k]? =some o→ρ[k]? =some v→q2f ρ H w v o
 excl:∀ (k k':Nat) (o o':AObj) (v v':Value) (b:Nat),lo[k]? =some o→lo[k']? =some o'→ρ[k]? =some v→ρ[k']? =some v'→k≠k' →
  o.live=true→o'.live=true→qck v=some b→qck v'≠some b
 own:∀ (k:Nat) (o:AObj) (v:Value) (b:Nat),lo[k]? =some o→ρ[k]? =some v→o.live=true→qck v=some b→bs.S b∨bs.w0.heap.size≤b
 keep:Keep bs.S bs.w0 w
 leH:PH.le bs.H0 H
 newH:∀ b o v,H b o=some v→(∃ v,bs.H0 b o=some v)∨bs.S b∨bs.w0.heap.size≤b
structure Sat (bs:Base) (N:Nat) (ρ:List Value) (H:PH) (e:Nat→FV) (lo:List AObj) (a:Act) (w:World):Prop extends SatW bs ρ H lo w where
 slots:∀ t,qb6 ρ H (e t) (a.tmps.getD t undef)
 width:a.tmps.size=N
 defers:a.defers=[]
structure Calm (H:PH) (w:World) (H':PH) (w':World):Prop where
 le:PH.le H H'
 sat:SatH H' w'
 keep:Keep zcu w w'
 new:∀ b o v,H' b o=some v→(∃ v,H b o=some v)∨w.heap.size≤b
theorem Calm.refl {H:PH} {w:World} (h:SatH H w):Calm H w H w:=⟨PH.le.refl H,h,Keep.refl _ w,fun _ _ v h=>.inl ⟨v,h⟩⟩
theorem Calm.trans {H H' H'':PH} {w w' w'':World} (h:Calm H w H' w') (k:Calm H' w' H'' w''):Calm H w H'' w'':=
 ⟨h.le.trans k.le,k.sat,h.keep.trans k.keep,fun b o v hv=>by
  rcases k.new b o v hv with ⟨v',hv'⟩|hb
  ·exact h.new b o v' hv'
  ·exact .inr (Nat.le_trans h.keep.size hb)⟩
theorem SatH.block {H:PH} {w w':World} (h:SatH H w) (e:∀ b o v,H b o=some v→w'.heap[b]? =w.heap[b]?):SatH H w':=⟨fun b o v hv=>by
 rw[World.cell?_of_block (w:=w) (a:=⟨b,o,none⟩) (e b o v hv)]; exact h.cell b o v hv,h.root⟩
theorem SatH.lt {H:PH} {w:World} (h:SatH H w) {b o:Nat} {v:Value} (hv:H b o=some v):b<w.heap.size:=
 World.block_lt_of_cell? w ⟨b,o,none⟩ (h.cell b o v hv).1
theorem qip {w:World} {b:Nat} {o:Obj} (h:w.heap[b]? =some o):b<w.heap.size:=(Array.getElem?_eq_some_iff.1 h).1
theorem qys {w w':World} {e:TypeId} {z n:Nat} {v:Value} {xs:List Value} (h:w.ownsRow 0 e z v n xs)
  (hb:∀ b,qck v=some b→b<w.heap.size→w'.heap[b]? =w.heap[b]?):w'.ownsRow 0 e z v n xs:=by
 refine⟨h.1,?_⟩
 rcases h.2 with h2|⟨g,cap,cur,hv,h0,hg,r⟩
 ·exact .inl h2
 ·refine .inr ⟨g,cap,cur,hv,h0,?_,r⟩
  rw[hb g (by simp[hv,qck]) (qip hg)]; exact hg
theorem q2f.keep {ρ ρ':List Value} {H H':PH} {w w':World} {v:Value} {o:AObj} (h:q2f ρ H w v o) (hr:ρ <+: ρ') (hH:PH.le H H')
  (hb:∀ b,qck v=some b→b<w.heap.size→w'.heap[b]? =w.heap[b]?) (hn:∀ b o',qck v=some b→b<w.heap.size→H b o'=none→H' b o'=none) :
  q2f ρ' H' w' v o:=by
 cases o with
 | dead=>trivial
 | box t cells=>
  obtain⟨b,vs,rfl,hg,hc,hh⟩:=h
  have hlt:=qip hg
  exact⟨b,vs,rfl,by rw[hb b (by simp[qck]) hlt]; exact hg,hc.mono hr hH,fun o=>hn b o (by simp[qck]) hlt (hh o)⟩
 | tail e z n=>
  obtain⟨xs,ho,hh⟩:=h
  refine⟨xs,qys ho hb,fun b hv=>⟨fun j u hu=>hH _ _ _ ((hh b hv).1 j u hu),fun o hno=>?_⟩⟩
  have hlt:b<w.heap.size:=by
   rcases ho.2 with ⟨rfl,_⟩|⟨g,cap,cur,rfl,_,hg,_⟩
   ·simp[qck]at hv
   ·simp[qck]at hv; subst hv; exact qip hg
  exact hn b o hv hlt ((hh b hv).2 o hno)
 | vec e z rows=>
  obtain⟨xs,ho,hr',h1,hh⟩:=h
  refine⟨xs,qys ho hb,hr'.mono hH,h1,fun b hv o=>?_⟩
  have hlt:b<w.heap.size:=by
   rcases ho.2 with ⟨rfl,_⟩|⟨g,cap,cur,rfl,_,hg,_⟩
   ·simp[qck]at hv
   ·simp[qck]at hv; subst hv; exact qip hg
  exact hn b o hv hlt (hh b hv o)
 | mp d es mk=>
  obtain⟨b,ents,clock,rfl,hg,hr',⟨h1,h2,h3⟩,hh⟩:=h
  have hlt:=qip hg
  exact⟨b,ents,clock,rfl,by rw[hb b (by simp[qck]) hlt]; exact hg,hr'.mono hH,⟨h1,h2,h3.mono hr hH⟩,fun o=>hn b o (by simp[qck]) hlt (hh o)⟩
 | sit l pos=>
  obtain⟨b,rfl,hg,hh⟩:=h
  have hlt:=qip hg
  exact⟨b,rfl,by rw[hb b (by simp[qck]) hlt]; exact hg,fun o=>hn b o (by simp[qck]) hlt (hh o)⟩
 | bv l=>
  obtain⟨b,cs,e,cap,lo,hi,rfl,hg,h1,h2,hh⟩:=h
  have hlt:=qip hg
  exact⟨b,cs,e,cap,lo,hi,rfl,by rw[hb b (by simp[qck]) hlt]; exact hg,h1,h2,fun o=>hn b o (by simp[qck]) hlt (hh o)⟩
theorem SatW.calm {bs:Base} {ρ:List Value} {H H':PH} {lo:List AObj} {w w':World} (s:SatW bs ρ H lo w) (c:Calm H w H' w'):SatW bs ρ H' lo w' where
 sath:=c.sat
 hlen:=s.hlen
 pre:=s.pre
 objs:=fun k o v hk hv=>(s.objs k o v hk hv).keep (List.prefix_refl _) c.le (fun b _ hb=>c.keep.block b hb id) (fun b o' _ hb hn=>by
  cases hx:H' b o' with
  | none=>rfl
  | some x=>
   rcases c.new b o' x hx with ⟨y,hy⟩|hge
   ·rw[hn]at hy; cases hy
   ·omega)
 excl:=s.excl
 own:=s.own
 keep:=s.keep.step c.keep (fun _ h=>h.elim)
 leH:=s.leH.trans c.le
 newH:=fun b o v hv=>by
  rcases c.new b o v hv with ⟨y,hy⟩|hge
  ·exact s.newH b o y hy
  ·exact .inr (.inr (Nat.le_trans s.keep.size hge))
end Ax
end
section
namespace Ax
open Go
abbrev Env:=List (Nat×FV)
def qb1:Env→Nat→FV
 | [],_=>.top
 | (t',v)::E,t=>match Nat.beq t t' with|true=>v|false=>qb1 E t
def zjg:Env→Nat→(FV→Prop)→Prop
 | [],_,R=>R .top
 | (t',v)::E,t,R=>match Nat.beq t t' with|true=>R v|false=>zjg E t R
def zjv (v:PV) (R:PV→Prop):Prop:=
 match v with
 | .bool b=>R (.bool b)|.int k n=>R (.int k n)|.str l=>R (.str l)
 | .agg cs=>R (.agg cs)|.tup vs=>R (.tup vs)|.nilsl=>R .nilsl|.sl rows=>R (.sl rows)
 | .nilp=>R .nilp|.fn f=>R (.fn f)|.nilfn=>R .nilfn|.nili=>R .nili|.ifc t v=>R (.ifc t v)|.nilmap=>R .nilmap
def zf1 (v:FV) (R:FV→Prop):Prop:=
 match v with
 | .top=>R .top
 | .p v=>zjv v fun v=>R (.p v)
 | .opt g v=>R (.opt g v)
 | .tsl k rows=>R (.tsl k rows)
 | .ptr k off=>R (.ptr k off)
 | .hptr row=>R (.hptr row)
 | .bself k=>R (.bself k)
 | .bsl k off len cap=>R (.bsl k off len cap)
 | .vsl k n=>R (.vsl k n)
 | .eptr k z i off=>R (.eptr k z i off)
 | .mref k=>R (.mref k)
 | .pair a b=>R (.pair a b)
 | .stmp k=>R (.stmp k)
 | .clo f c=>R (.clo f c)
 | .cap0=>R .cap0
 | .cap a b=>R (.cap a b)
 | .fagg c=>R (.fagg c)
 | .nxt ok a b=>R (.nxt ok a b)
theorem zhj (v:PV) (R:PV→Prop):zjv v R=R v:=by cases v<;>rfl
theorem zaj (v:FV) (R:FV→Prop):zf1 v R=R v:=by cases v<;>first|rfl|exact zhj _ (fun v=>R (.p v))
def zla:Value→Option PV
 | .bool b=>some (.bool b)
 | .int k n=>some (.int k n)
 | .string ⟨⟨l⟩⟩=>some (.str l)
 | .slice none 0 0=>some .nilsl
 | .pointer none=>some .nilp
 | .nilIface=>some .nili
 | .nilFunc=>some .nilfn
 | .map none=>some .nilmap
 | _=>none
def zes:List Value→(List PV→Prop)→Prop
 | [],R=>R []
 | v::vs,R=>match zla v with|some p=>zes vs fun l=>R (p::l)|none=>False
def zl3:Value→FV
 | .tuple ⟨[]⟩=>.p (.tup [])
 | v=>match zla v with|some p=>.p p|none=>.top
def evF (e:Nat→FV):Operand→FV
 | .tmp t=>e t
 | .const v=>zl3 v
 | .func f=>.p (.fn f)
 | .global _=>.top
def ev (E:Env) (x:Operand) (R:FV→Prop):Prop:=
 match x with
 | .tmp t=>zjg E t R
 | .const v=>zf1 (zl3 v) R
 | .func f=>R (.p (.fn f))
 | .global _=>R .top
abbrev G:=Option Bool
def gOn (g:G):Prop:=match g with|none=>True|some b=>b=true
def gI (g:G) (p:Prop):Prop:=match g with|none=>p|some b=>b=true→p
def evS (E:Env) (g:G) (x:Operand) (R:FV→Prop):Prop:=
 ev E x fun v=>match v with
 | .opt g' v'=>gI g (g'=true)∧R v'
 | v=>R v
def zlq:List FV→FV
 | []=>.cap0
 | v::l=>.cap v (zlq l)
def qzw:FV→(List FV→Prop)→Prop
 | .cap0,R=>R []
 | .cap a b,R=>qzw b fun l=>R (a::l)
 | _,_=>False
def q00 {α:Type}:Nat→List α→(List α→Prop)→Prop
 | 0,_,R=>R []
 | n+1,l,R=>match l with|[]=>False|a::l=>q00 n l fun l=>R (a::l)
def q1t {α:Type}:Nat→List α→(List α→Prop)→Prop
 | 0,l,R=>R l
 | n+1,l,R=>match l with|[]=>False|_::l=>q1t n l R
def qxk {α:Type}:Nat→List α→(α→Prop)→Prop
 | 0,l,R=>match l with|[]=>False|a::_=>R a
 | n+1,l,R=>match l with|[]=>False|_::l=>qxk n l R
def q2m {α:Type}:Nat→α→List α→(List α→Prop)→Prop
 | 0,x,l,R=>match l with|[]=>False|_::l=>R (x::l)
 | n+1,x,l,R=>match l with|[]=>False|a::l=>q2m n x l fun l=>R (a::l)
def qxt {α:Type}:List α→α→(List α→Prop)→Prop
 | [],x,R=>R [x]
 | a::l,x,R=>qxt l x fun l=>R (a::l)
def q2l {α:Type}:List α→Nat→(Nat→Prop)→Prop
 | [],n,R=>R n
 | _::l,n,R=>q2l l (n+1) R
def zd7 (P:Program) (t:TypeId):Nat:=match P.info? t with|some i=>i.size|none=>0
def zkf:TypeDesc→Bool
 | .struct _|.array _ _=>true
 | _=>false
def qtp (P:Program) (t:TypeId) (R:Bool→Nat→Prop):Prop:=
 match P.underlying t with
 | some d=>match P.info? t with
  | some i=>R (zkf d) i.size
  | none=>False
 | none=>False
def q6o (P:Program) (t:TypeId) (f:Nat) (R:Nat→TypeId→Prop):Prop:=
 match P.underlying t with
 | some (.struct ⟨fs⟩)=>qxk f fs fun x=>match P.info? x.type with
  | some i=>match Nat.beq i.size 0 with|true=>False|false=>R x.offset x.type
  | none=>False
 | _=>False
def zfm (v:FV) (R:PV→Prop):Prop:=
 match v with
 | .p v=>R v
 | .tsl _ rows=>R (.sl rows)
 | _=>False
def zeu:List FV→(List PV→Prop)→Prop
 | [],R=>R []
 | v::l,R=>zfm v fun v=>zeu l fun l=>R (v::l)
def evL (E:Env) (g:G):List Operand→(List FV→Prop)→Prop
 | [],R=>R []
 | x::l,R=>evS E g x fun v=>evL E g l fun l=>R (v::l)
def qy3:Int:=9223372036854775807
def zmv (op:BinOp) (k:IntKind) (a b:Int) (R:PV→Prop):Prop:=
 match op with
 | .add=>R (.int k (k.wrap (a+b)))
 | .sub=>R (.int k (k.wrap (a - b)))
 | .mul=>R (.int k (k.wrap (a * b)))
 | .eql=>R (.bool (a==b))
 | .neq=>R (.bool (a != b))
 | .lss=>R (.bool (decide (a<b)))
 | .leq=>R (.bool (decide (a≤b)))
 | .gtr=>R (.bool (decide (a>b)))
 | .geq=>R (.bool (decide (a≥b)))
 | .and=>R (.int k (k.wrap (BitVec.ofInt k.bits a &&& BitVec.ofInt k.bits b).toNat))
 | .or=>R (.int k (k.wrap (BitVec.ofInt k.bits a ||| BitVec.ofInt k.bits b).toNat))
 | .xor=>R (.int k (k.wrap (BitVec.ofInt k.bits a ^^^ BitVec.ofInt k.bits b).toNat))
 | _=>False
def zmr (g:G) (op:BinOp) (a b:List UInt8) (R:PV→Prop):Prop:=
 match op with
 | .add=>gI g (((a.length+b.length:Nat):Int)≤qy3)∧R (.str (a++b))
 | .eql=>R (.bool (a==b))
 | .neq=>R (.bool (!(a==b)))
 | .lss=>R (.bool (Op.bytesLess a b))
 | .leq=>R (.bool (Op.bytesLess a b||a==b))
 | .gtr=>R (.bool (!(Op.bytesLess a b||a==b)))
 | .geq=>R (.bool (!(Op.bytesLess a b)))
 | _=>False
def zmx (op:BinOp) (a b:Bool) (R:PV→Prop):Prop:=
 match op with
 | .eql=>R (.bool (a==b))
 | .neq=>R (.bool (!(a==b)))
 | _=>False
def zhi (P:Program) (t:TypeId) (R:Prop):Prop:=
 match P.underlying t with
 | some .bool=>R
 | _=>False
def q6r:IntKind→IntKind→Bool
 | .i8,.i8|.i16,.i16|.i32,.i32|.i64,.i64|.u8,.u8|.u16,.u16|.u32,.u32|.u64,.u64=>true
 | _,_=>false
theorem qq8 {k k':IntKind} (h:q6r k k'=true):k=k':=by cases k<;>cases k'<;>first|rfl|cases h
def zmd (P:Program) (g:G) (op:BinOp) (t:TypeId) (x y:FV) (R:FV→Prop):Prop:=
 match x with
 | .p (.int k a)=>match y with
  | .p (.int k' b)=>match op with
   | .shl=>gI g (0≤b)∧R (.p (.int k (k.wrap (a * 2 ^ (min b.toNat k.bits)))))
   | .shr=>gI g (0≤b)∧R (.p (.int k (a.fdiv (2 ^ (min b.toNat k.bits)))))
   | .quo=>match q6r k k' with|true=>gI g (b≠0)∧R (.p (.int k (k.wrap (a.tdiv b))))|false=>False
   | .rem=>match q6r k k' with|true=>gI g (b≠0)∧R (.p (.int k (a.tmod b)))|false=>False
   | op=>match q6r k k' with|true=>zmv op k a b fun v=>R (.p v)|false=>False
  | _=>False
 | .p (.str a)=>match y with
  | .p (.str b)=>zmr g op a b fun v=>R (.p v)
  | _=>False
 | .p (.bool a)=>match y with
  | .p (.bool b)=>zhi P t (zmx op a b fun v=>R (.p v))
  | _=>False
 | _=>False
def zfs (P:Program) (t:TypeId) (x:FV) (f:Nat) (R:FV→Prop):Prop:=
 match x with
 | .ptr k off=>q6o P t f fun o _=>R (.ptr k (off+o))
 | .hptr row=>q6o P t f fun o _=>q1t o row fun r=>R (.hptr r)
 | .eptr k z i off=>q6o P t f fun o _=>R (.eptr k z i (off+o))
 | _=>False
def zj3 (P:Program) (t:TypeId) (x:FV) (f:Nat) (R:FV→Prop):Prop:=
 match x with
 | .p (.agg cs)=>q6o P t f fun o u=>q1t o cs fun r=>qtp P u fun agg n=>match agg with
  | true=>q00 n r fun r=>R (.p (.agg r))
  | false=>match r with|c::_=>R (.p c)|[]=>False
 | _=>False
def q4f (P:Program) (t:TypeId) (R:TypeId→Nat→Prop):Prop:=
 match P.underlying t with
 | some (.slice e)=>match P.info? e with|some i=>R e i.size|none=>False
 | _=>False
def q0i (P:Program) (g:G) (t:TypeId) (x i:FV) (R:FV→Prop):Prop:=
 match x,i with
 | .p (.sl rows),.p (.int _ i)=>q4f P t fun _ z=>∃ row,gI g (0≤i∧rows[i.toNat]? =some row∧row.length=z)∧R (.hptr row)
 | .tsl _ rows,.p (.int _ i)=>q4f P t fun _ z=>∃ row,gI g (0≤i∧rows[i.toNat]? =some row∧row.length=z)∧R (.hptr row)
 | .ptr k off,.p (.int _ i)=>match P.underlying t with
  | some (.array n e)=>match P.info? e with
   | some ti=>gI g (0≤i∧i<n)∧R (.ptr k (off+i.toNat * ti.size))
   | none=>False
  | _=>False
 | .vsl k n,.p (.int _ i)=>q4f P t fun _ z=>∃ j:Nat,gI g (i=j∧j<n)∧R (.eptr k z j 0)
 | _,_=>False
def zfa (P:Program) (g:G) (t:TypeId) (x i:FV) (R:FV→Prop):Prop:=
 match x,i with
 | .p (.str l),.p (.int _ i)=>match P.underlying t with
  | some .string=>∃ b,gI g (0≤i∧l[i.toNat]? =some b)∧R (.p (.int .u8 b.toNat))
  | _=>False
 | .p (.agg cs),.p (.int _ i)=>match P.underlying t with
  | some (.array n e)=>qtp P e fun agg z=>match agg with
   | false=>match Nat.beq z 1 with
    | true=>∃ c,gI g (0≤i∧i<n∧cs[i.toNat]? =some c)∧R (.p c)
    | false=>False
   | true=>∃ c,gI g (0≤i∧i<n∧(cs.drop (i.toNat * z)).take z=c)∧R (.p (.agg c))
  | _=>False
 | _,_=>False
def qxl (E:Env) (g:G) (x:Option Operand) (d:Nat) (R:Nat→Prop):Prop:=
 match x with
 | none=>R d
 | some x=>evS E g x fun v=>match v with
  | .p (.int _ i)=>∃ n:Nat,gI g (i=n)∧R n
  | _=>False
def zhh (P:Program) (E:Env) (g:G) (t:TypeId) (x:FV) (lo hi mx:Option Operand) (R:FV→Prop):Prop:=
 match mx with
 | some _=>False
 | none=>match x with
  | .p (.str l)=>match P.underlying t with
   | some .string=>qxl E g hi l.length fun h=>qxl E g lo 0 fun a=>gI g (a≤h∧h≤l.length)∧R (.p (.str ((l.take h).drop a)))
   | _=>False
  | .p (.sl rows)=>match P.underlying t with
   | some (.slice e)=>match P.info? e with
    | some i=>qxl E g hi rows.length fun h=>qxl E g lo 0 fun a=>gI g (a≤h∧h≤rows.length∧∀ r∈rows,r.length=i.size)∧R (.p (.sl ((rows.take h).drop a)))
    | none=>False
   | _=>False
  | .tsl _ rows=>match P.underlying t with
   | some (.slice e)=>match P.info? e with
    | some i=>qxl E g hi rows.length fun h=>qxl E g lo 0 fun a=>gI g (a≤h∧h≤rows.length∧∀ r∈rows,r.length=i.size)∧R (.p (.sl ((rows.take h).drop a)))
    | none=>False
   | _=>False
  | .ptr k off=>match P.underlying t with
   | some (.array n e)=>match P.info? e with
    | some i=>match Nat.beq i.size 1 with
     | true=>qxl E g hi n fun h=>qxl E g lo 0 fun a=>gI g (a≤h∧h≤n∧a<n)∧R (.bsl k (off+a) (h - a) (n - a))
     | false=>False
    | none=>False
   | _=>False
  | _=>False
def zmi (P:Program) (t:TypeId) (x:FV) (R:FV→Prop):Prop:=
 match x with
 | .p (.str l)=>match P.underlying t with|some .string=>R (.p (.int .i64 l.length))|_=>False
 | .p (.sl rows)=>match P.underlying t with|some (.slice _)=>R (.p (.int .i64 rows.length))|_=>False
 | .tsl _ rows=>match P.underlying t with|some (.slice _)=>R (.p (.int .i64 rows.length))|_=>False
 | .bsl _ _ n _=>match P.underlying t with|some (.slice _)=>R (.p (.int .i64 n))|_=>False
 | .vsl _ n=>match P.underlying t with|some (.slice _)=>R (.p (.int .i64 n))|_=>False
 | .p .nilsl=>match P.underlying t with|some (.slice _)=>R (.p (.int .i64 0))|_=>False
 | _=>False
def q7e (P:Program) (src dst:TypeId) (x:FV) (R:FV→Prop):Prop:=
 match x with
 | .p (.int _ n)=>match P.underlying src with
  | some (.int _)=>match P.underlying dst with
   | some (.int k)=>R (.p (.int k (k.wrap n)))
   | _=>False
  | _=>False
 | .p (.str l)=>match P.underlying src with
  | some .string=>match P.underlying dst with
   | some .string=>R (.p (.str l))
   | _=>False
  | _=>False
 | _=>False
def qdr (l:List UInt8):List (List PV):=l.map fun b=>[.int .u8 b.toNat]
def u8T (P:Program) (src dst:TypeId) (R:Prop):Prop:=
 match P.underlying src with
 | some (.slice e)=>match P.underlying e with
  | some (.int .u8)=>match P.underlying dst with
   | some .string=>R
   | _=>False
  | _=>False
 | _=>False
def zml (P:Program) (src dst:TypeId) (n:Nat) (t:TypeId) (R:Prop):Prop:=
 match P.underlying src with
 | some (.pointer u)=>match P.underlying dst with
  | some .unsafePointer=>match P.info? u with
   | some i=>(i.size≠0∧0<n)∧R
   | none=>False
  | _=>False
 | some .unsafePointer=>match P.underlying dst with
  | some (.pointer u)=>match P.info? u with
   | some _=>liesAt P P.depth t (n / P.cellsOf t) 0 u 1=true∧R
   | none=>False
  | _=>False
 | _=>False
def q4d (P:Program) (g:G) (src dst:TypeId) (lo:List AObj) (x:FV) (R:FV→Prop):Prop:=
 match x with
 | .p (.sl rows)=>u8T P src dst (∃ l,gI g (rows=qdr l)∧R (.p (.str l)))
 | .tsl _ rows=>u8T P src dst (∃ l,gI g (rows=qdr l)∧R (.p (.str l)))
 | .p .nilsl=>u8T P src dst (R (.p (.str [])))
 | .bsl k off n _=>u8T P src dst (qxk k lo fun o=>match o with
   | .box _ cells=>q1t off cells fun cs=>q00 n cs fun cs=>zeu cs fun ps=>∃ l:List UInt8,gI g (ps=l.map fun b=>PV.int .u8 b.toNat)∧R (.p (.str l))
   | _=>False)
 | .ptr k off=>match Nat.beq off 0 with
  | true=>qxk k lo fun o=>match o with
   | .box t cells=>zml P src dst cells.length t (R (.ptr k 0))
   | _=>False
  | false=>False
 | .vsl k n=>u8T P src dst (qxk k lo fun o=>match o with
   | .bv l=>gI g (n=l.length)∧R (.p (.str l))
   | _=>False)
 | x=>q7e P src dst x R
def qzb (P:Program) (H:PH) (w:World) (r:PV):Result Next→Prop
 | .ok (.value v) w'=>∃ H',Calm H w H' w'∧qcn H' r v
 | .ok (.enter f args) w'=>w'=w∧Calls P f args w fun e w''=>∃ v H',e=.returned v∧Calm H w H' w''∧qcn H' r v
 | _=>False
def qae (P:Program) (f:FuncId) (args:List PV) (r:PV):Prop:=
 ∀ (H:PH) (w:World) (vs:List Value),SatH H w→qd1 H args vs→qzb P H w r ((callFunc f vs.toArray).run P w)
def zaf (E:Env) (g:G):Nat→List (Nat×Operand)→(List PV→Prop)→Prop
 | _,[],R=>R []
 | k,(i,x)::l,R=>match Nat.beq i k with
  | true=>evS E g x fun v=>zfm v fun p=>zaf E g (k+1) l fun ps=>R (p::ps)
  | false=>False
def za6 (p:PV) (R:List PV→Prop):Prop:=
 match p with
 | .agg cs=>R cs
 | .tup _=>False
 | p=>R [p]
def zim:List PV→(List (List PV)→Prop)→Prop
 | [],R=>R []
 | p::ps,R=>za6 p fun c=>zim ps fun rs=>R (c::rs)
def zfv:PV→Bool
 | .agg _|.tup _=>false
 | _=>true
def qmv (P:Program) (E:Env) (g:G) (t:TypeId) (n:Nat) (parts:List (Nat×Operand)) (R:FV→Prop):Prop:=
 q4f P t fun e z=>match Nat.beq parts.length n with
  | true=>match Nat.ble 1 n with
   | true=>match Nat.ble 1 z with
    | true=>match Nat.ble (n * z) 16777216 with
     | true=>match P.info? e with
      | some i=>match i.zero with
       | some _=>zaf E g 0 parts fun ps=>zim ps fun rows=>(∀ r∈rows,r.length=z∧r.all zfv=true)∧∃ rows',(rows=rows'∨q9a rows rows')∧R (.p (.sl rows'))
       | none=>False
      | none=>False
     | false=>False
    | false=>False
   | false=>False
  | false=>False
def q33:Nat→List PV→List PV→(List PV→Prop)→Prop
 | 0,[],old,R=>R old
 | 0,v::vs,old,R=>match old with|[]=>False|_::old=>q33 0 vs old fun l=>R (v::l)
 | n+1,vs,old,R=>match old with|[]=>False|a::old=>q33 n vs old fun l=>R (a::l)
def zid (P:Program) (E:Env) (g:G) (fs:List Field):List (Nat×Operand)→List PV→(List PV→Prop)→Prop
 | [],cs,R=>R cs
 | (i,x)::l,cs,R=>qxk i fs fun f=>match P.info? f.type with
  | some ti=>evS E g x fun v=>zfm v fun p=>za6 p fun c=>match Nat.beq c.length ti.size with
   | true=>q33 f.offset c cs fun cs=>zid P E g fs l cs R
   | false=>False
  | none=>False
def zas (P:Program):List Field→Bool
 | []=>true
 | f::fs=>match P.info? f.type with|some _=>zas P fs|none=>false
def zgr (P:Program) (E:Env) (g:G) (t:TypeId) (parts:List (Nat×Operand)) (R:FV→Prop):Prop:=
 match P.info? t with
 | some i=>match i.zero with
  | some (.agg ⟨vs⟩)=>zes vs fun zs=>match P.underlying t with
   | some (.struct ⟨fs⟩)=>match zas P fs with
    | true=>zid P E g fs parts zs fun cs=>R (.p (.agg cs))
    | false=>False
   | some (.array _ e)=>match P.info? e with
    | some ei=>match Nat.beq ei.size 1 with
     | true=>zaf E g 0 parts fun ps=>ps.length=vs.length∧(∀ c∈ps,zfv c=true)∧R (.p (.agg ps))
     | false=>False
    | none=>False
   | _=>False
  | _=>False
 | none=>False
def zle (P:Program) (op:BinOp) (t:TypeId) (x y:FV) (R:FV→Prop):Prop:=
 match P.underlying t with
 | some (.pointer e)=>match P.info? e with
  | some _=>match op with
   | .eql=>match x,y with
    | .p .nilp,.p .nilp=>R (.p (.bool true))
    | .ptr _ _,.p .nilp=>R (.p (.bool false))
    | .hptr _,.p .nilp=>R (.p (.bool false))
    | _,_=>False
   | .neq=>match x,y with
    | .p .nilp,.p .nilp=>R (.p (.bool false))
    | .ptr _ _,.p .nilp=>R (.p (.bool true))
    | .hptr _,.p .nilp=>R (.p (.bool true))
    | .ptr k off,.ptr k' off'=>match Nat.beq k k' with
     | true=>match Nat.beq off off' with
      | true=>R (.p (.bool false))
      | false=>False
     | false=>False
    | _,_=>False
   | _=>False
  | none=>False
 | _=>False
def q8e (E:Env):List (Nat×Operand)→Prop→Prop→Prop
 | [],_,no=>no
 | (_,x)::l,yes,no=>ev E x fun v=>match v with
  | .mref _=>yes
  | .ptr _ _=>yes
  | .clo _ _=>yes
  | _=>q8e E l yes no
def zjs:List PV→(List FV→Prop)→Prop
 | [],R=>R []
 | c::cs,R=>zjs cs fun l=>R (.p c::l)
def quz:Nat→List FV→List FV→(List FV→Prop)→Prop
 | 0,[],old,R=>R old
 | 0,v::vs,old,R=>match old with|[]=>False|_::old=>quz 0 vs old fun l=>R (v::l)
 | n+1,vs,old,R=>match old with|[]=>False|a::old=>quz n vs old fun l=>R (a::l)
def zko (v:FV) (R:List FV→Prop):Prop:=
 match v with
 | .p p=>za6 p fun cs=>zjs cs R
 | .tsl k rows=>R [.tsl k rows]
 | .mref k=>R [.mref k]
 | .ptr k o=>R [.ptr k o]
 | .clo f c=>R [.clo f c]
 | _=>False
def zje (P:Program) (E:Env) (g:G) (fs:List Field):List (Nat×Operand)→List FV→(List FV→Prop)→Prop
 | [],cs,R=>R cs
 | (i,x)::l,cs,R=>qxk i fs fun f=>match P.info? f.type with
  | some ti=>evS E g x fun v=>zko v fun c=>match Nat.beq c.length ti.size with
   | true=>quz f.offset c cs fun cs=>zje P E g fs l cs R
   | false=>False
  | none=>False
def q7f (P:Program) (E:Env) (g:G) (t:TypeId) (parts:List (Nat×Operand)) (R:FV→Prop):Prop:=
 match P.info? t with
 | some i=>match i.zero with
  | some (.agg ⟨vs⟩)=>zes vs fun zs=>zjs zs fun zs=>match P.underlying t with
   | some (.struct ⟨fs⟩)=>match zas P fs with
    | true=>zje P E g fs parts zs fun cs=>R (.fagg (zlq cs))
    | false=>False
   | _=>False
  | _=>False
 | none=>False
def zfx:FV→(List PV→Prop)→Prop
 | .cap0,R=>R []
 | .cap a b,R=>zfm a fun p=>zfx b fun l=>R (p::l)
 | _,_=>False
def zcv (P:Program) (t:TypeId) (m:String) (f:FuncId):Prop:=∀ v w,(method (P.types.size+Made.depth) t v m).run P w=.ok (f,v) w
def zf4 (P:Program) (op:Op) (E:Env) (g:G) (R:FV→Prop):Prop:=
 match op with
 | .makeFunc (.func f) ⟨[]⟩ ⟨xs⟩=>match xs with
  | []=>R (.p (.fn f))
  | x::xs=>evL E g (x::xs) fun vs=>R (.clo f (zlq vs))
 | .call { callee:=.value (.tmp t),args:=⟨xs⟩,argTypes:=_ }=>evS E g (.tmp t) fun fv=>evL E g xs fun vs=>zeu vs fun args=>match fv with
  | .p (.fn f)=>∃ r,gI g (qae P f args r)∧R (.p r)
  | .clo f c=>zfx c fun cs=>∃ r,gI g (qae P f (args++cs) r)∧R (.p r)
  | _=>False
 | .call { callee:=.invoke r m,args:=⟨xs⟩,argTypes:=_ }=>evS E g r fun rv=>evL E g xs fun vs=>zeu vs fun args=>match rv with
  | .p (.ifc t v)=>∃ f r,gI g (zcv P t m f∧qae P f (v::args) r)∧R (.p r)
  | _=>False
 | _=>False
def zie (P:Program) (op:Op) (E:Env) (g:G) (R:FV→Prop):Prop:=
 match op with
 | .move x=>match g with|none=>ev E x R|some g=>evS E (some g) x R
 | .assign x=>match g with|none=>ev E x R|some g=>evS E (some g) x R
 | .pick c a b=>evS E g c fun c=>match c with
  | .p (.bool c)=>match g with
   | none=>evS E (some c) a fun a=>evS E (some (!c)) b fun b=>match a,b with
    | .p (.bool a),.p (.bool b)=>R (.p (.bool (bif c then a else b)))
    | _,_=>False
   | some g=>evS E (some (g&&c)) a fun a=>evS E (some (g&&!c)) b fun b=>match a,b with
    | .p (.bool a),.p (.bool b)=>R (.p (.bool (bif c then a else b)))
    | _,_=>False
  | _=>False
 | .fieldAddr t x f=>evS E g x fun x=>zfs P t x f R
 | .field t x f=>evS E g x fun x=>zj3 P t x f R
 | .indexAddr t x i=>evS E g x fun x=>evS E g i fun i=>q0i P g t x i R
 | .index t x i=>evS E g x fun x=>evS E g i fun i=>zfa P g t x i R
 | .binOp op t x y _=>evS E g x fun x=>evS E g y fun y=>match x with
  | .ptr k off=>zle P op t (.ptr k off) y R
  | .hptr row=>zle P op t (.hptr row) y R
  | .p .nilp=>zle P op t (.p .nilp) y R
  | x=>zmd P g op t x y R
 | .unOp .not _ x=>evS E g x fun x=>match x with|.p (.bool b)=>R (.p (.bool (!b)))|_=>False
 | .unOp .neg _ x=>evS E g x fun x=>match x with|.p (.int k n)=>R (.p (.int k (k.wrap (0 - n))))|_=>False
 | .nilCheck x=>evS E g x fun x=>match x with
  | .ptr k off=>R (.ptr k off)
  | .hptr row=>R (.hptr row)
  | .eptr k z i off=>R (.eptr k z i off)
  | _=>False
 | .slice t x lo hi mx=>evS E g x fun x=>zhh P E g t x lo hi mx R
 | .buildSlice t n ⟨parts⟩=>qmv P E g t n parts R
 | .build t ⟨parts⟩=>q8e E parts (q7f P E g t parts R) (zgr P E g t parts R)
 | .extract x i=>evS E g x fun x=>match x with
  | .p (.tup vs)=>qxk i vs fun v=>R (.p v)
  | .pair a b=>match i with|0=>R a|1=>R b|_=>False
  | .nxt ok a b=>match i with|0=>R (.p (.bool ok))|1=>gI g (ok=true)∧R (.p a)|2=>gI g (ok=true)∧R (.p b)|_=>False
  | _=>False
 | .makeInterface t x=>evS E g x fun x=>zfm x fun v=>match P.underlying t with
  | some (.interface _)=>False
  | some _=>R (.p (.ifc t v))
  | none=>False
 | .call { callee:=.builtin .len,args:=⟨[x]⟩,argTypes:=⟨[t]⟩ }=>evS E g x fun x=>zmi P t x R
 | .call { callee:=.value (.func f),args:=⟨xs⟩,argTypes:=_ }=>
   evL E g xs fun vs=>zeu vs fun args=>∃ r,gI g (qae P f args r)∧R (.p r)
 | op=>zf4 P op E g R
def qvk (P:Program) (t:TypeId) (lo:List AObj) (x:FV) (R:FV→Prop):Prop:=
 match x with
 | .ptr k off=>qxk k lo fun o=>match o with
  | .box _ cells=>q1t off cells fun cs=>qtp P t fun agg n=>match agg with
   | true=>q00 n cs fun cs=>zeu cs fun l=>R (.p (.agg l))
   | false=>match cs with|c::_=>R c|[]=>False
  | _=>False
 | .hptr row=>qtp P t fun agg n=>match agg with
  | true=>q00 n row fun r=>R (.p (.agg r))
  | false=>match row with|c::_=>R (.p c)|[]=>False
 | _=>False
def q3d:Op→Bool
 | .load _ _=>true
 | .convert _ _ _=>true
 | .lookup _ _ _ _=>true
 | _=>false
def qvi:Op→Bool
 | .box _ _|.alloc _|.store _ _ _|.makeMap _ _|.mapUpdate _ _ _ _|.insert _ _ _ _|.range _ _|.next _ _=>true
 | .call { callee:=.builtin .append,.. }=>true
 | .call { callee:=.builtin .clear,.. }=>true
 | _=>false
def zet:FV→Bool
 | .p (.agg _)|.p (.tup _)|.top|.opt _ _|.pair _ _|.stmp _|.cap0|.cap _ _|.fagg _|.nxt _ _ _=>false
 | _=>true
def zkv (P:Program) (t:TypeId) (R:List PV→Prop):Prop:=
 match P.info? t with
 | some i=>match i.zero with
  | some (.agg ⟨vs⟩)=>zes vs R
  | some v=>zes [v] R
  | none=>False
 | none=>False
def qxj (v:FV) (R:List FV→Prop):Prop:=
 match v with
 | .p (.agg cs)=>zjs cs R
 | .fagg c=>qzw c R
 | v=>match zet v with|true=>R [v]|false=>False
def q1a:List FV→Bool
 | []=>true
 | v::l=>match zet v with|true=>q1a l|false=>false
def zf3 (x:FV) (R:List (List PV)→Prop):Prop:=
 match x with
 | .p (.sl rows)=>R rows
 | .tsl _ rows=>R rows
 | .p .nilsl=>R []
 | _=>False
def zhw:PV→PV→Bool
 | .str a,.str b=>a==b
 | .int _ a,.int _ b=>a==b
 | .bool a,.bool b=>a==b
 | _,_=>false
def q1z (k:PV):List (PV×PV)→Option PV
 | []=>none
 | (k',v)::es=>bif zhw k k' then some v else q1z k es
def zhy (k v:PV):List (PV×PV)→List (PV×PV)
 | []=>[(k,v)]
 | (k',v')::es=>bif zhw k k' then(k,v)::es else(k',v')::zhy k v es
def zb6 (d' d:TypeDesc) (kp:PV) (R:Prop):Prop:=
 match d',d,kp with
 | .string,.string,.str _=>R
 | .bool,.bool,.bool _=>R
 | .int k,.int k',.int k'' _=>match q6r k k' with
  | true=>match q6r k k'' with
   | true=>R
   | false=>False
  | false=>False
 | _,_,_=>False
def zmg (d:TypeDesc) (R:Prop):Prop:=
 match d with
 | .string=>R
 | .bool=>R
 | .int _=>R
 | _=>False
def zj1 (P:Program) (t:TypeId) (d:TypeDesc) (kp:PV) (R:TypeId→Prop):Prop:=
 match P.underlying t with
 | some (.map kt et)=>match P.underlying kt with
  | some d'=>zb6 d' d kp (R et)
  | none=>False
 | _=>False
def q9v (P:Program) (t:TypeId) (R:PV→Prop):Prop:=
 match P.info? t with
 | some i=>match i.zero with
  | some (.agg ⟨vs⟩)=>zes vs fun l=>R (.agg l)
  | some v=>match zla v with|some p=>R p|none=>False
  | none=>False
 | none=>False
def qtk (P:Program) (g:G) (t:TypeId) (lo:List AObj) (x key:FV) (ok:Bool) (R:FV→Prop):Prop:=
 match x,key with
 | .mref k,.p kp=>qxk k lo fun o=>match o with
  | .mp d es _=>zj1 P t d kp fun et=>q9v P et fun z=>∃ v b,gI g ((q1z kp es).getD z=v∧(q1z kp es).isSome=b)∧R (match ok with|false=>.p v|true=>.p (.tup [v,.bool b]))
  | _=>False
 | _,_=>False
def zj4 (P:Program) (t:TypeId) (lo:List AObj) (x:FV) (R:FV→Prop):Prop:=
 match x with
 | .mref k=>qxk k lo fun o=>match o with
  | .mp _ es _=>match P.underlying t with
   | some (.map _ _)=>∃ n:Nat,es.length=n∧R (.p (.int .i64 n))
   | _=>False
  | _=>False
 | _=>False
def q65 (P:Program) (E:Env) (lo:List AObj) (t:TypeId) (m k x:Operand) (R:FV→List AObj→Prop):Prop:=
 evS E none m fun m=>evS E none k fun k=>evS E none x fun x=>zfm x fun vp=>match m,k with
  | .mref j,.p kp=>qxk j lo fun o=>match o with
   | .mp d es _=>zj1 P t d kp fun _=>∃ es',zhy kp vp es=es'∧q2m j (.mp d es' none) lo fun lo=>R (.p (.tup [])) lo
   | _=>False
  | _,_=>False
def qmh (l:List UInt8) (i:Nat):Nat:=(Utf8.decode ⟨l.toArray⟩ i).1
def qyq (l:List UInt8) (i:Nat):Nat:=i+(Utf8.decode ⟨l.toArray⟩ i).2
def zky (P:Program) (op:Op) (E:Env) (lo:List AObj) (R:FV→List AObj→Prop):Prop:=
 match op with
 | .range t x=>evS E none x fun x=>match x with
  | .p (.str l)=>match P.underlying t with
   | some .string=>q2l lo 0 fun n=>qxt lo (.sit l 0) fun lo=>R (.ptr n 0) lo
   | _=>False
  | _=>False
 | .next x true=>evS E none x fun x=>match x with
  | .ptr k 0=>qxk k lo fun o=>match o with
   | .sit l pos=>∃ ok p',(decide (pos<l.length)=ok∧(bif ok then qyq l pos else pos)=p')∧q2m k (.sit l p') lo fun lo=>R (.nxt ok (.int .i64 pos) (.int .i32 (qmh l pos))) lo
   | _=>False
  | _=>False
 | .makeMap t none=>match P.underlying t with
  | some (.map kt _)=>match P.underlying kt with
   | some d=>zmg d (q2l lo 0 fun n=>qxt lo (.mp d [] none) fun lo=>R (.mref n) lo)
   | none=>False
  | _=>False
 | .mapUpdate t m k x=>q65 P E lo t m k x R
 | .insert t m k x=>q65 P E lo t m k x R
 | .call { callee:=.builtin .clear,args:=⟨[x]⟩,argTypes:=⟨[t]⟩ }=>evS E none x fun x=>match x with
  | .mref k=>qxk k lo fun o=>match o with
   | .mp d _ _=>match P.underlying t with
    | some (.map _ _)=>q2m k (.mp d [] none) lo fun lo=>R (.p (.tup [])) lo
    | _=>False
   | _=>False
  | _=>False
 | _=>False
def zci (P:Program) (t:TypeId) (lo:List AObj) (k z i off:Nat) (x:FV) (R:FV→List AObj→Prop):Prop:=
 qxj x fun vs=>zeu vs fun ps=>q2l ps 0 fun n=>qtp P t fun _ m=>match Nat.beq n m with
  | true=>qxk k lo fun o=>match o with
   | .vec e z' rows=>∃ row,(z'=z∧rows[i]? =some row∧ps.all zfv=true)∧q33 off ps row fun row'=>∃ rows',rows.set i row'=rows'∧q2m k (.vec e z' rows') lo fun lo=>R (.p (.tup [])) lo
   | .bv l=>match ps with
    | [.int .u8 n]=>∃ (c:UInt8) (l':List UInt8),(z=1∧off=0∧i<l.length∧n=(c.toNat:Int)∧l.set i c=l')∧q2m k (.bv l') lo fun lo=>R (.p (.tup [])) lo
    | _=>False
   | _=>False
  | false=>False
def zff (P:Program) (t:TypeId) (lo:List AObj) (k z i off:Nat) (R:FV→Prop):Prop:=
 qxk k lo fun o=>match o with
  | .vec _ z' rows=>∃ row,(z'=z∧rows[i]? =some row)∧q1t off row fun cs=>qtp P t fun agg n=>match agg with
   | true=>q00 n cs fun l=>R (.p (.agg l))
   | false=>match cs with|c::_=>R (.p c)|[]=>False
  | .bv l=>qtp P t fun agg _=>match agg with
   | true=>False
   | false=>∃ c:UInt8,(z=1∧off=0∧l[i]? =some c)∧R (.p (.int .u8 c.toNat))
  | _=>False
def zhr (P:Program) (src dst:TypeId) (lo:List AObj) (x:FV) (R:FV→List AObj→Prop):Prop:=
 match x with
 | .p (.str l)=>match P.underlying src with
  | some _=>match P.underlying dst with
   | some (.slice e)=>match P.underlying e with
    | some (.int .u8)=>q2l lo 0 fun n=>qxt lo (.bv l) fun lo=>R (.vsl n l.length) lo
    | _=>False
   | _=>False
  | none=>False
 | _=>False
def zc7 (P:Program) (t:TypeId) (lo:List AObj) (k0:Nat) (news:List (List PV)) (R:FV→List AObj→Prop):Prop:=
 q4f P t fun e z=>match Nat.beq z 0 with
 | true=>False
 | false=>match P.info? e with
  | some i=>match i.zero with
   | some zv=>match Nat.beq zv.cells.size z with
    | true=>qxk k0 lo fun o=>match o with
     | .vec e' z' rows=>∃ rows',(rows++news=rows'∧e'=e∧z'=z∧(∀ r∈news,r.length=z)∧rows'.length * i.bytes≤140737488355328∧rows'.length≤9223372036854775807) ∧
       q2m k0 .dead lo fun lo=>q2l lo 0 fun k=>qxt lo (.vec e z rows') fun lo=>R (.vsl k rows'.length) lo
     | _=>False
    | false=>False
   | none=>False
  | none=>False
def zb5 (P:Program) (E:Env) (lo:List AObj) (t:TypeId) (n:Nat) (parts:List (Nat×Operand)) (R:FV→List AObj→Prop):Prop:=
 q4f P t fun e z=>qmv P E none t n parts fun v=>match v with
  | .p (.sl rows)=>q2l lo 0 fun k=>qxt lo (.vec e z rows) fun lo=>R (.vsl k rows.length) lo
  | _=>False
def q8t:List Nat→Nat→Bool
 | [],_=>false
 | a::l,f=>match Nat.beq f a with|true=>true|false=>q8t l f
def zbb (P:Program) (E:Env) (lo:List AObj) (t:TypeId) (n:Nat) (parts:List (Nat×Operand)) (R:FV→List AObj→Prop):Prop:=
 q4f P t fun e z=>qmv P E none t n parts fun v=>match v with
  | .p (.sl rows)=>q2l lo 0 fun k=>qxt lo (.tail e z rows.length) fun lo=>R (.tsl k rows) lo
  | _=>False
def zka (inl:List Nat) (d:Option Tmp):Bool:=match d with
 | some d=>q8t inl (30000000+d)
 | none=>false
def q7h (P:Program) (g:Bool) (E:Env) (lo:List AObj) (t:TypeId) (n:Nat) (parts:List (Nat×Operand)) (R:FV→List AObj→Prop):Prop:=
 match g with
 | true=>zbb P E lo t n parts R
 | false=>zb5 P E lo t n parts R
def zjp (P:Program) (op:Op) (E:Env) (lo:List AObj) (R:FV→List AObj→Prop):Prop:=
 match op with
 | .box t x=>evS E none x fun x=>qxj x fun cs=>match q1a cs with
  | true=>q2l lo 0 fun n=>qxt lo (.box t cs) fun lo=>R (.ptr n 0) lo
  | false=>False
 | .alloc t=>zkv P t fun z=>zjs z fun cs=>match q1a cs with
  | true=>q2l lo 0 fun n=>qxt lo (.box t cs) fun lo=>R (.ptr n 0) lo
  | false=>False
 | .store t a x=>evS E none a fun a=>evS E none x fun x=>match a with
  | .ptr k off=>qxj x fun vs=>match q1a vs with
   | true=>q2l vs 0 fun n=>qtp P t fun _ m=>match Nat.beq n m with
    | true=>qxk k lo fun o=>match o with
     | .box bt cells=>quz off vs cells fun cells=>q2m k (.box bt cells) lo fun lo=>R (.p (.tup [])) lo
     | _=>False
    | false=>False
   | false=>False
  | .eptr k z i off=>zci P t lo k z i off x R
  | _=>False
 | .call { callee:=.builtin .append,args:=⟨[s,x]⟩,argTypes:=⟨[t,t']⟩ }=>match Nat.beq t t' with
  | true=>evS E none s fun s=>evS E none x fun x=>zf3 x fun news=>match s with
   | .vsl k0 _=>zc7 P t lo k0 news R
   | s=>q4f P t fun e z=>match Nat.beq z 0 with
   | true=>False
   | false=>match P.info? e with
    | some i=>match i.zero with
     | some zv=>match Nat.beq zv.cells.size z with
      | true=>match s with
       | .p .nilsl=>((∀ r∈news,r.length=z)∧news.length * i.bytes≤140737488355328∧news.length≤9223372036854775807) ∧
         q2l lo 0 fun k=>qxt lo (.tail e z news.length) fun lo=>R (.tsl k news) lo
       | .tsl k0 rows=>((∀ r∈rows++news,r.length=z)∧(rows++news).length * i.bytes≤140737488355328∧(rows++news).length≤9223372036854775807) ∧
         qxk k0 lo fun o=>match o with
         | .tail e' z' n=>(e'=e∧z'=z∧n=rows.length) ∧
           q2m k0 .dead lo fun lo=>q2l lo 0 fun k=>qxt lo (.tail e z (rows++news).length) fun lo=>R (.tsl k (rows++news)) lo
         | _=>False
       | _=>False
      | false=>False
     | none=>False
    | none=>False
  | false=>evS E none s fun s=>evS E none x fun x=>match x with
   | .p (.str str)=>match P.underlying t' with
    | some .string=>q4f P t fun e z=>match Nat.beq z 1 with
     | true=>match P.info? e with
      | some i=>match i.zero with
       | some (.int .u8 0)=>match s with
        | .p .nilsl=>((qdr str).length * i.bytes≤140737488355328∧(qdr str).length≤9223372036854775807) ∧
          q2l lo 0 fun k=>qxt lo (.tail e z (qdr str).length) fun lo=>R (.tsl k (qdr str)) lo
        | .tsl k0 rows=>((∀ r∈rows,r.length=1)∧(rows++qdr str).length * i.bytes≤140737488355328∧(rows++qdr str).length≤9223372036854775807) ∧
          qxk k0 lo fun o=>match o with
          | .tail e' z' n=>(e'=e∧z'=1∧n=rows.length) ∧
            q2m k0 .dead lo fun lo=>q2l lo 0 fun k=>qxt lo (.tail e z (rows++qdr str).length) fun lo=>R (.tsl k (rows++qdr str)) lo
          | _=>False
        | _=>False
       | _=>False
      | none=>False
     | false=>False
    | _=>False
   | _=>False
 | op=>zky P op E lo R
def q88 (ops:List Oper) (o:Oper) (E:Env) (R:G→Prop):Prop:=
 match o.guard with
 | none=>R none
 | some (j,want)=>qxk j ops fun oj=>match oj.dst with
   | some d=>zjg E d fun v=>match v with
    | .p (.bool b)=>match want with|true=>R (some b)|false=>R (some (!b))
    | .opt g' (.p (.bool b))=>match want with|true=>R (some (g'&&b))|false=>R (some (g'&&!b))
    | _=>False
   | none=>False
def qxg (N:Nat) (d:Option Tmp) (v:FV) (E:Env) (R:Env→Prop):Prop:=
 match d with
 | some d=>match Nat.blt d N with
  | true=>zf1 v fun v=>R ((d,v)::E)
  | false=>False
 | none=>R E
def qr9 (g:G) (v:FV):FV:=match g with|none=>v|some g=>.opt g v
def zdp (P:Program) (N:Nat) (all:List Oper) (o:Oper) (E:Env) (lo:List AObj) (R:Env→List AObj→Prop):Prop:=
 q88 all o E fun g=>
  match q3d o.op with
  | true=>match o.op with
   | .load t x=>evS E g x fun x=>qvk P t lo x fun v=>qxg N o.dst (qr9 g v) E fun E=>R E lo
   | .convert s d x=>evS E g x fun x=>q4d P g s d lo x fun v=>qxg N o.dst (qr9 g v) E fun E=>R E lo
   | .lookup t x i ok=>evS E g x fun x=>evS E g i fun i=>qtk P g t lo x i ok fun v=>qxg N o.dst (qr9 g v) E fun E=>R E lo
   | _=>False
  | false=>match qvi o.op with
   | true=>match g with
    | none=>zjp P o.op E lo fun v lo=>qxg N o.dst v E fun E=>R E lo
    | some _=>False
   | false=>zie P o.op E g fun v=>qxg N o.dst (qr9 g v) E fun E=>R E lo
inductive AX where
 | normal|exit (id:Nat)|ret
def zjr (inl:List Nat) (d:Option Tmp):Bool:=match d with|some d=>q8t inl (10000000+d)|none=>false
def zl7 (inl:List Nat) (t:Tmp):Bool:=q8t inl (20000000+t)
def zgm (inl:List Nat) (id:Nat):Bool:=q8t inl (40000000+id)
def qoa (inl:List Nat) (o:Oper):Bool:=
 match o.op with
 | .call { callee:=.value (.func f),args:=_,argTypes:=_ }=>q8t inl f
 | .call { callee:=.value (.tmp t),args:=_,argTypes:=_ }=>zl7 inl t
 | .buildSlice _ _ _=>zjr inl o.dst
 | .convert _ _ _=>zjr inl o.dst
 | o=>qvi o
def zbe:Op→Bool
 | .box _ _|.alloc _|.makeMap _ _|.buildSlice _ _ _=>true
 | .call { callee:=.builtin .append,.. }=>true
 | _=>false
def qug (inl:List Nat) (o:Oper):Bool:=match o.op with
 | .store _ (.tmp t) _=>q8t inl (50000000+t)
 | _=>false
def q9x (inl:List Nat) (o:Oper):Bool:=zbe o.op||qug inl o
def zk4 (sl:List Nat) (n0 k:Nat):Bool:=match Nat.blt k n0 with
 | true=>(match q8t sl (60000000+1000 * n0+k)with|true=>false|false=>true)
 | false=>false
def ze5 (inl:List Nat) (m:Bool) (oi oj:Oper):Bool:=qoa inl oi&&(qoa inl oj||q3d oj.op&&!(m&&q9x inl oi))
def Region.effFree (inl:List Nat) (m:Bool) (ops:Array Oper) (listed:Array Bool) (i:Nat):Bool:=
 match ops[i]? with
 | none=>false
 | some oi=>(List.range ops.size).all fun j=>j==i||listed.getD j true||match ops[j]? with
   | some oj=>oj.after.any (fun e=>Region.binds .any e&&e.on==i)||(!ze5 inl m oi oj&&!ze5 inl m oj oi)
   | none=>true
def Region.effFrom (inl:List Nat) (m:Bool) (ops:Array Oper):Nat→Nat→Array Bool→Bool
 | 0,_,_=>true
 | fuel+1,k,listed=>Region.effFree inl m ops listed k&&Region.effFrom inl m ops fuel (k+1) (listed.setIfInBounds k true)
def zdf (inl:List Nat) (m:Bool) (ops:Array Oper):Bool:=Go.Region.lexB .any ops&&Region.effFrom inl m ops ops.size 0 (Array.replicate ops.size false)
end Ax
end
section
namespace Ax
open Go
def qsw (bs:Base) (ρ:List Value) (H:PH) (fv:FV) (lo':List AObj) (v:Value) (w':World):Prop:=
 ∃ ρ' H',ρ <+: ρ'∧PH.le H H'∧SatW bs ρ' H' lo' w'∧qb6 ρ' H' fv v
def zbo (P:Program) (bs:Base) (ρ:List Value) (H:PH) (fv:FV) (lo':List AObj):Result Next→Prop
 | .ok (.value v) w'=>qsw bs ρ H fv lo' v w'
 | .ok .skip w'=>qsw bs ρ H fv lo' undef w'
 | .ok (.enter f args) w'=>Calls P f args w' fun en w''=>∃ v,en=.returned v∧qsw bs ρ H fv lo' v w''
 | _=>False
def qjb (P:Program) (o:Oper) (e:Nat→FV) (lo:List AObj) (g:G) (fv:FV) (lo':List AObj):Prop:=
 gOn g→∀ (bs:Base) (ρ:List Value) (H:PH) (w:World) (eval:Operand→Value),SatW bs ρ H lo w →
  (∀ x∈o.op.operands,qb6 ρ H (evF e x) (eval x))→zbo P bs ρ H fv lo' ((execOp eval o).run P w)
theorem qgv {bs:Base} {ρ:List Value} {H:PH} {fv:FV} {lo:List AObj} {v:Value} {w:World} (s:SatW bs ρ H lo w) (r:qb6 ρ H fv v) :
  qsw bs ρ H fv lo v w:=⟨ρ,H,List.prefix_refl _,PH.le.refl H,s,r⟩
theorem qnw {g:G} {p:Prop} (h:gI g p) (hg:gOn g):p:=by
 cases g with
 | none=>exact h
 | some b=>exact h hg
theorem qve:∀ (E:Env) (t:Nat) (R:FV→Prop),zjg E t R=R (qb1 E t)
 | [],_,_=>rfl
 | (t',v)::E,t,R=>by
  simp only[zjg,qb1]
  cases Nat.beq t t' with
  | true=>rfl
  | false=>exact qve E t R
theorem q66 (E:Env) (x:Operand) (R:FV→Prop):ev E x R=R (evF (qb1 E) x):=by
 cases x with
 | tmp t=>exact qve E t R
 | const v=>exact zaj _ _
 | global g=>rfl
 | func f=>rfl
def Str (g:G) (f v:FV):Prop:=∀ ρ H x,gOn g→qb6 ρ H f x→qb6 ρ H v x
theorem qbh {E:Env} {g:G} {x:Operand} {R:FV→Prop} (h:evS E g x R):∃ v,R v∧Str g (evF (qb1 E) x) v:=by
 unfold evS at h
 rw[q66]at h
 generalize evF (qb1 E) x=f at *
 cases f<;>simp only at h
 case opt g' v'=>
  refine⟨v',h.2,fun ρ H y hg hy=>?_⟩
  have:=qnw h.1 hg
  simpa[qb6,this]using hy
 all_goals exact⟨_,h,fun _ _ _ _ hy=>hy⟩
theorem q2z {v:Value} {p:PV} (h:zla v=some p) (H:PH):qcn H p v:=by
 unfold zla at h
 split at h<;>(cases h)<;>simp[qcn]
theorem zhm (v:Value) (ρ:List Value) (H:PH):qb6 ρ H (zl3 v) v:=by
 unfold zl3
 split
 ·simp[qb6,qcn,qd1]
 ·split
  ·rename_i h; exact q2z h H
  ·trivial
theorem qqo {ρ:List Value} {H:PH} {e:Nat→FV} {a:Act} (h:∀ t,qb6 ρ H (e t) (a.tmps.getD t undef)) (x:Operand):qb6 ρ H (evF e x) (a.eval x):=by
 cases x with
 | tmp t=>exact h t
 | const v=>exact zhm v ρ H
 | func f=>simp[evF,qb6,qcn,Act.eval]
 | global g=>trivial
theorem qp2 {ρ:List Value} {H:PH} {b:Bool} {x:Value} (h:qb6 ρ H (.p (.bool b)) x):x=.bool b:=by simpa[qb6,qcn]using h
theorem qik {ρ:List Value} {H:PH} {k:IntKind} {n:Int} {x:Value} (h:qb6 ρ H (.p (.int k n)) x):x=.int k n:=by simpa[qb6,qcn]using h
theorem qpi {ρ:List Value} {H:PH} {l:List UInt8} {x:Value} (h:qb6 ρ H (.p (.str l)) x):x=.string ⟨l.toArray⟩:=by simpa[qb6,qcn]using h
theorem qoy {ρ:List Value} {H:PH} {b:Bool}:qb6 ρ H (.p (.bool b)) (.bool b):=by simp[qb6,qcn]
theorem qn7 {ρ:List Value} {H:PH} {k:IntKind} {n:Int}:qb6 ρ H (.p (.int k n)) (.int k n):=by simp[qb6,qcn]
theorem qv2 {ρ:List Value} {H:PH} {l:List UInt8}:qb6 ρ H (.p (.str l)) (.string ⟨l.toArray⟩):=by simp[qb6,qcn]
theorem qmz {α:Type}:∀ {n:Nat} {l:List α} {R:List α→Prop},q00 n l R→R (l.take n)∧n≤l.length
 | 0,l,R,h=>by simpa[q00]using h
 | n+1,[],R,h=>by simp[q00]at h
 | n+1,a::l,R,h=>by
  have:=qmz (n:=n) (l:=l) (R:=fun l=>R (a::l)) h
  simpa using this
theorem qm4 {α:Type}:∀ {n:Nat} {l:List α} {R:List α→Prop},q1t n l R→R (l.drop n)∧n≤l.length
 | 0,l,R,h=>by simpa[q1t]using h
 | n+1,[],R,h=>by simp[q1t]at h
 | n+1,a::l,R,h=>by simpa using qm4 (n:=n) (l:=l) (R:=R) h
theorem qdc {α:Type}:∀ {n:Nat} {l:List α} {R:α→Prop},qxk n l R→∃ a,l[n]? =some a∧R a
 | 0,[],R,h=>by simp[qxk]at h
 | 0,a::l,R,h=>⟨a,by simp,h⟩
 | n+1,[],R,h=>by simp[qxk]at h
 | n+1,a::l,R,h=>by simpa using qdc (n:=n) (l:=l) (R:=R) h
theorem qii {α:Type}:∀ {n:Nat} {x:α} {l:List α} {R:List α→Prop},q2m n x l R→R (l.set n x)∧n<l.length
 | 0,x,[],R,h=>by simp[q2m]at h
 | 0,x,a::l,R,h=>by simpa[q2m]using h
 | n+1,x,[],R,h=>by simp[q2m]at h
 | n+1,x,a::l,R,h=>by simpa using qii (n:=n) (x:=x) (l:=l) (R:=fun l=>R (a::l)) h
theorem qgy {α:Type}:∀ {l:List α} {x:α} {R:List α→Prop},qxt l x R→R (l++[x])
 | [],x,R,h=>by simpa[qxt]using h
 | a::l,x,R,h=>qgy (l:=l) (x:=x) (R:=fun l=>R (a::l)) h
theorem qfc {α:Type}:∀ {l:List α} {n:Nat} {R:Nat→Prop},q2l l n R→R (n+l.length)
 | [],n,R,h=>by simpa[q2l]using h
 | a::l,n,R,h=>by
  have:=qfc (l:=l) (n:=n+1) (R:=R) h
  simpa[Nat.add_comm,Nat.add_left_comm,Nat.add_assoc]using this
theorem qtq {P:Program} {t f:Nat} {R:Nat→TypeId→Prop} (h:q6o P t f R) :
  ∃ fs x i,P.underlying t=some (.struct fs)∧fs[f]? =some x∧P.info? x.type=some i∧i.size≠0∧R x.offset x.type:=by
 unfold q6o at h
 split at h
 ·rename_i fs hu
  obtain⟨x,hx,hr⟩:=qdc h
  split at hr
  ·rename_i i hi
   split at hr
   ·exact hr.elim
   ·rename_i hz
    exact⟨_,x,i,hu,by simpa using hx,hi,fun e=>by simp[e]at hz,hr⟩
  ·exact hr.elim
 ·exact h.elim
theorem qjw {P:Program} {t:TypeId} {R:Bool→Nat→Prop} (h:qtp P t R) :
  ∃ d i,P.underlying t=some d∧P.info? t=some i∧R (zkf d) i.size:=by
 unfold qtp at h
 split at h
 ·rename_i d hd
  split at h
  ·rename_i i hi; exact⟨d,i,hd,hi,h⟩
  ·exact h.elim
 ·exact h.elim
theorem qj0 {P:Program} {t:TypeId} {R:TypeId→Nat→Prop} (h:q4f P t R) :
  ∃ e i,P.underlying t=some (.slice e)∧P.info? e=some i∧R e i.size:=by
 unfold q4f at h
 split at h
 ·rename_i e he
  split at h
  ·rename_i i hi; exact⟨e,i,he,hi,h⟩
  ·exact h.elim
 ·exact h.elim
theorem qo2 {v:FV} {R:PV→Prop} (h:zfm v R):∃ p,R p∧∀ ρ H x,qb6 ρ H v x→qcn H p x:=by
 cases v<;>simp only[zfm]at h
 case p p=>exact⟨p,h,fun _ _ _ r=>r⟩
 case tsl k rows=>exact⟨_,h,fun _ _ _ r=>r.2⟩
theorem qq5:∀ {l:List FV} {R:List PV→Prop},zeu l R→∃ ps,R ps∧∀ ρ H vs,qdn ρ H l vs→qd1 H ps vs
 | [],R,h=>⟨[],h,fun _ _ vs r=>by simpa[qd1,qdn]using r⟩
 | v::l,R,h=>by
  simp only[zeu]at h
  obtain⟨p,h1,h2⟩:=qo2 h
  obtain⟨ps,h3,h4⟩:=qq5 h1
  refine⟨_,h3,fun ρ H vs r=>?_⟩
  obtain⟨x,vs',e,r1,r2⟩:=r
  simp only[qd1]
  exact⟨x,vs',e,h2 _ _ _ r1,h4 _ _ _ r2⟩
theorem qpx {E:Env} {g:G}:∀ {l:List Operand} {R:List FV→Prop},evL E g l R →
  ∃ vs,R vs∧∀ ρ H (eval:Operand→Value),gOn g→(∀ x∈l,qb6 ρ H (evF (qb1 E) x) (eval x))→qdn ρ H vs (l.map eval)
 | [],R,h=>⟨[],h,fun _ _ _ _ _=>by simp[qdn]⟩
 | x::l,R,h=>by
  simp only[evL]at h
  obtain⟨v,h1,h2⟩:=qbh h
  obtain⟨vs,h3,h4⟩:=qpx h1
  refine⟨_,h3,fun ρ H eval hg hx=>?_⟩
  simp only[List.map_cons,qdn]
  exact⟨_,_,rfl,h2 _ _ _ hg (hx x (by simp)),h4 _ _ _ hg (fun y hy=>hx y (by simp[hy]))⟩
theorem qrl (l:List UInt8):(⟨l.toArray⟩:ByteArray).size=l.length:=ByteArray.size_mk_toArray l
section
variable {P:Program} {bs:Base} {ρ:List Value} {H:PH} {lo:List AObj} {w:World}
theorem q10 {t:TypeId} (hu:P.underlying t=some .bool) (n:Nat) (a b:Bool):(Op.equalIn (n+1) t (.bool a) (.bool b)).run P w=.ok (a==b) w:=by
 simp[Op.equalIn,run_underlying hu]
theorem q45 {t:TypeId} (hu:P.underlying t=some .bool) (a b:Bool):(Op.equal t (.bool a) (.bool b)).run P w=.ok (a==b) w:=
 q10 hu 9999 a b
theorem zgj {g:G} {op:BinOp} {t:TypeId} {x y:FV} {R:FV→Prop} (h:zmd P g op t x y R) :
  ∃ fv,R fv∧(gOn g→∀ (ρ:List Value) (H:PH) (w:World) (xo yo:Operand) (a b:Value),qb6 ρ H x a→qb6 ρ H y b →
   ∃ v,(do eqGuard op t xo yo a b; binOp op t a b:Sem Value).run P w=.ok v w∧qb6 ρ H fv v):=by
 unfold zmd at h
 split at h
 ·rename_i k n
  split at h
  ·rename_i k' m
   split at h
   ·refine⟨_,h.2,fun hg ρ H w xo yo a b ra rb=>?_⟩
    rw[qik ra,qik rb]
    have h0:=qnw h.1 hg
    exact⟨_,by simp[eqGuard,binOp,Op.shift,show ¬ m<0 by omega],qn7⟩
   ·refine⟨_,h.2,fun hg ρ H w xo yo a b ra rb=>?_⟩
    rw[qik ra,qik rb]
    have h0:=qnw h.1 hg
    exact⟨_,by simp[eqGuard,binOp,Op.shift,show ¬ m<0 by omega],qn7⟩
   ·split at h
    case h_2=>exact h.elim
    rename_i hk
    have hk:=qq8 hk
    obtain⟨h0,h⟩:=h
    refine⟨_,h,fun hg ρ H w xo yo a b ra rb=>?_⟩
    rw[qik ra,qik rb]
    have h0:=qnw h0 hg
    exact⟨_,by simp[eqGuard,binOp,Op.intDiv,hk,h0],qn7⟩
   ·split at h
    case h_2=>exact h.elim
    rename_i hk
    have hk:=qq8 hk
    obtain⟨h0,h⟩:=h
    refine⟨_,h,fun hg ρ H w xo yo a b ra rb=>?_⟩
    rw[qik ra,qik rb]
    have h0:=qnw h0 hg
    exact⟨_,by simp[eqGuard,binOp,Op.intDiv,hk,h0],qn7⟩
   ·split at h
    case h_2=>exact h.elim
    rename_i hk
    have hk:=qq8 hk
    subst hk
    unfold zmv at h
    split at h<;>first
     | exact h.elim
     | (refine⟨_,h,fun hg ρ H w xo yo a b ra rb=>?_⟩; rw[qik ra,qik rb]; exact⟨_,by simp[eqGuard,binOp,Op.intArith,Op.intBits,Op.intCmp]<;>rfl,by simp[qb6,qcn]⟩)
  ·exact h.elim
 ·rename_i l
  split at h
  ·rename_i m
   unfold zmr at h
   split at h
   ·obtain⟨hs,h⟩:=h
    refine⟨_,h,fun hg ρ H w xo yo a b ra rb=>?_⟩
    rw[qpi ra,qpi rb]
    have hs:=qnw hs hg
    refine⟨.string ⟨(l++m).toArray⟩,?_,qv2⟩
    have:=run_string_add_sum (P:=P) w ⟨l.toArray⟩ ⟨m.toArray⟩ (by rw[qrl,qrl]; unfold qy3 at hs; omega)
    simp[eqGuard,binOp,this,ByteArray.mk_append_mk]
   all_goals first
    | exact h.elim
    | (refine⟨_,h,fun hg ρ H w xo yo a b ra rb=>?_⟩; rw[qpi ra,qpi rb]; exact⟨_,by simp[eqGuard,binOp,Op.stringOp]<;>rfl,by simp[qb6,qcn]⟩)
  ·exact h.elim
 ·rename_i a'
  split at h
  ·rename_i b'
   unfold zhi at h
   split at h
   ·rename_i hu
    unfold zmx at h
    split at h<;>first
     | exact h.elim
     | (refine⟨_,h,fun hg ρ H w xo yo a b ra rb=>?_⟩; rw[qp2 ra,qp2 rb]; exact⟨_,by simp only[eqGuard,binOp,Sem.run_bind,q45 hu]; rfl,by simp[qb6,qcn]⟩)
   ·exact h.elim
  ·exact h.elim
 ·exact h.elim
theorem zb1 {t:TypeId} {x:FV} {f:Nat} {R:FV→Prop} (h:zfs P t x f R) :
  ∃ fv,R fv∧∀ (ρ:List Value) (H:PH) (w:World) (a:Value),qb6 ρ H x a→∃ v,(Instr.fieldAt t a f).run P w=.ok v w∧qb6 ρ H fv v:=by
 unfold zfs at h
 split at h
 ·rename_i k off
  obtain⟨fs,y,i,hu,hf,hi,hz,hr⟩:=qtq h
  refine⟨_,hr,fun ρ H w a ra=>?_⟩
  obtain⟨b,hb,rfl⟩:=ra
  exact⟨.pointer (some ⟨b,off+y.offset,none⟩),by simp[Instr.fieldAt,run_underlying hu,hf,Instr.sureAddr,fieldPlace,Go.sizeOf,typeInfo,hi,hz,Addr.add_lit],b,hb,rfl⟩
 ·rename_i row
  obtain⟨fs,y,i,hu,hf,hi,hz,hr⟩:=qtq h
  obtain⟨hr,hlen⟩:=qm4 hr
  refine⟨_,hr,fun ρ H w a ra=>?_⟩
  obtain⟨b,o,vs,rfl,q,c⟩:=ra
  refine⟨.pointer (some ⟨b,o+y.offset,none⟩),by simp[Instr.fieldAt,run_underlying hu,hf,Instr.sureAddr,fieldPlace,Go.sizeOf,typeInfo,hi,hz,Addr.add_lit],b,o+y.offset,vs.drop y.offset,rfl,q.drop _,fun j v hv=>?_⟩
  rw[List.getElem?_drop]at hv
  have:=c _ _ hv
  rwa [← Nat.add_assoc]at this
 ·rename_i k z i' off
  obtain⟨fs,y,i,hu,hf,hi,hz,hr⟩:=qtq h
  refine⟨_,hr,fun ρ H w a ra=>?_⟩
  obtain⟨b,n,cap,hb,rfl⟩:=ra
  exact⟨.pointer (some ⟨b,i' * z+off+y.offset,none⟩),by simp[Instr.fieldAt,run_underlying hu,hf,Instr.sureAddr,fieldPlace,Go.sizeOf,typeInfo,hi,hz,Addr.add_lit],b,n,cap,hb,by rw[Nat.add_assoc]⟩
 ·exact h.elim
theorem qsn {t:TypeId} {d:TypeDesc} (hu:P.underlying t=some d):(isAgg t).run P w=.ok (zkf d) w:=by
 simp only[isAgg,Sem.run_bind,run_underlying hu,Result.andThen_ok]
 cases d<;>rfl
theorem zd2 {t:TypeId} {x:FV} {f:Nat} {R:FV→Prop} (h:zj3 P t x f R) :
  ∃ fv,R fv∧∀ (ρ:List Value) (H:PH) (w:World) (a:Value),qb6 ρ H x a→∃ v,(Instr.field t a f).run P w=.ok v w∧qb6 ρ H fv v:=by
 unfold zj3 at h
 split at h
 ·rename_i cs
  obtain⟨fs,y,i,hu,hf,hi,hz,hr⟩:=qtq h
  obtain⟨hr,hlen⟩:=qm4 hr
  obtain⟨d,i',hd,hi',hr⟩:=qjw hr
  have hii:i'=i:=Option.some.inj (hi'.symm.trans hi)
  subst hii
  split at hr
  ·rename_i hagg
   obtain⟨hr,hl⟩:=qmz hr
   refine⟨_,hr,fun ρ H w a ra=>?_⟩
   simp only[qb6,qcn]at ra
   obtain⟨vs,rfl,q⟩:=ra
   refine⟨.agg ((vs.drop y.offset).take i'.size).toArray,?_,?_⟩
   ·simp[Instr.field,run_underlying hu,hf,asAgg,part,qsn hd,hagg,Go.sizeOf,typeInfo,hi',List.extract_toArray,List.extract_eq_take_drop]
   ·simp only[qb6,qcn]; exact⟨_,rfl,(q.drop _).take _⟩
  ·rename_i hagg
   split at hr
   ·rename_i c r hc
    refine⟨_,hr,fun ρ H w a ra=>?_⟩
    simp only[qb6,qcn]at ra
    obtain⟨vs,rfl,q⟩:=ra
    have hg:cs[y.offset]? =some c:=by
     have:=congrArg (fun l=>l[0]?) hc
     simpa[List.getElem?_drop]using this
    obtain⟨v,hv,rv⟩:=q.get hg
    exact⟨v,by simp[Instr.field,run_underlying hu,hf,asAgg,part,qsn hd,hagg,hv],rv⟩
   ·exact hr.elim
 ·exact h.elim
theorem q02 {ρ:List Value} {H:PH} {w:World} {t e:TypeId} {ti:TypeInfo} (hu:P.underlying t=some (.slice e)) (hi:P.info? e=some ti) {rows:List (List PV)} {a:Value} (ra:qcn H (.sl rows) a)
  {k:IntKind} {i:Int} {row:List PV} (h0:0≤i) (hrow:rows[i.toNat]? =some row) (hlen:row.length=ti.size) :
  ∃ v,(Instr.indexAt t a (.int k i)).run P w=.ok v w∧qb6 ρ H (.hptr row) v:=by
 simp only[qcn]at ra
 rcases ra with ⟨rfl,_⟩|⟨b,o,z,cap,rfl,hc,rr⟩
 ·simp at hrow
 ·obtain⟨hz,vs,q,c⟩:=rr.get hrow
  have hlt:i<rows.length:=by have:=(List.getElem?_eq_some_iff.1 hrow).1; omega
  refine⟨.pointer (some ⟨b,o+i.toNat * ti.size,none⟩),?_,b,_,vs,rfl,q,?_⟩
  ·simp[Instr.indexAt,run_underlying hu,asIntOf,h0,hlt,Go.sizeOf,typeInfo,hi,Addr.add_lit]
  ·rw[← hlen,hz]; exact c
theorem q3p {g:G} {t:TypeId} {x i:FV} {R:FV→Prop} (h:q0i P g t x i R) :
  ∃ fv,R fv∧(gOn g→∀ (ρ:List Value) (H:PH) (w:World) (a b:Value),qb6 ρ H x a→qb6 ρ H i b→∃ v,(Instr.indexAt t a b).run P w=.ok v w∧qb6 ρ H fv v):=by
 unfold q0i at h
 split at h
 ·obtain⟨e,ti,hu,hi,row,hr,hR⟩:=qj0 h
  refine⟨_,hR,fun hg ρ H w a b ra rb=>?_⟩
  obtain⟨h0,h1,h2⟩:=qnw hr hg
  rw[qik rb]
  exact q02 hu hi ra h0 h1 h2
 ·obtain⟨e,ti,hu,hi,row,hr,hR⟩:=qj0 h
  refine⟨_,hR,fun hg ρ H w a b ra rb=>?_⟩
  obtain⟨h0,h1,h2⟩:=qnw hr hg
  rw[qik rb]
  exact q02 hu hi ra.2 h0 h1 h2
 ·rename_i k off kk n
  split at h
  ·rename_i len e hu
   split at h
   ·rename_i ti hi
    obtain⟨hb,hR⟩:=h
    refine⟨_,hR,fun hg ρ H w a b ra rb=>?_⟩
    obtain⟨h0,h1⟩:=qnw hb hg
    obtain⟨bl,hr,rfl⟩:=ra
    rw[qik rb]
    refine⟨.pointer (some ⟨bl,off+n.toNat * ti.size,none⟩),?_,bl,hr,rfl⟩
    simp[Instr.indexAt,run_underlying hu,asIntOf,Instr.sureAddr,h0,h1,Go.sizeOf,typeInfo,hi,Addr.add_lit]
   ·exact h.elim
  ·exact h.elim
 ·rename_i k n kk i0
  obtain⟨e,ti,hu,hi,j,hb,hR⟩:=qj0 h
  refine⟨_,hR,fun hg ρ H w a b ra rb=>?_⟩
  obtain⟨rfl,hj⟩:=qnw hb hg
  obtain⟨hr,⟨h0,_⟩|⟨bl,cap,rfl⟩⟩:=ra
  ·omega
  ·rw[qik rb]
   refine⟨.pointer (some ⟨bl,j * ti.size,none⟩),?_,bl,n,cap,hr,by rw[Nat.add_zero]⟩
   simp[Instr.indexAt,run_underlying hu,asIntOf,hj,Go.sizeOf,typeInfo,hi,Addr.add_lit]
 ·exact h.elim
theorem zb2 {g:G} {t:TypeId} {x i:FV} {R:FV→Prop} (h:zfa P g t x i R) :
  ∃ fv,R fv∧(gOn g→∀ (ρ:List Value) (H:PH) (w:World) (a b:Value),qb6 ρ H x a→qb6 ρ H i b→∃ v,(Instr.index t a b).run P w=.ok v w∧qb6 ρ H fv v):=by
 unfold zfa at h
 split at h
 ·rename_i l k n
  split at h
  ·rename_i hu
   obtain⟨b,hb,hR⟩:=h
   refine⟨_,hR,fun hg ρ H w x y ra rb=>?_⟩
   obtain⟨h0,h1⟩:=qnw hb hg
   rw[qpi ra,qik rb]
   refine⟨_,?_,qn7⟩
   have hlt:=(List.getElem?_eq_some_iff.1 h1).1
   have hs:(⟨l.toArray⟩:ByteArray)[n.toNat]? =some b:=by
    rw[ByteArray.getElem?_lt' _ _ (by rw[qrl]; exact hlt)]
    have:=(List.getElem?_eq_some_iff.1 h1).2
    rw[← this]
    rfl
   simp[Instr.index,asIntOf,run_underlying hu,h0,hs]
  ·exact h.elim
 ·rename_i cs k n
  split at h
  ·rename_i len e hu
   obtain⟨d,ti,hd,hi,h⟩:=qjw h
   split at h
   ·rename_i hagg
    split at h
    ·rename_i hz
     have hz:ti.size=1:=Nat.eq_of_beq_eq_true hz
     obtain⟨c,hb,hR⟩:=h
     refine⟨_,hR,fun hg ρ H w x y ra rb=>?_⟩
     obtain⟨h0,h1,h2⟩:=qnw hb hg
     simp only[qb6,qcn]at ra
     obtain⟨vs,rfl,q⟩:=ra
     obtain⟨v,hv,rv⟩:=q.get h2
     rw[qik rb]
     refine⟨v,?_,rv⟩
     simp[Instr.index,asIntOf,run_underlying hu,h0,h1,Go.sizeOf,typeInfo,hi,hz,part,qsn hd,hagg,hv]
    ·exact h.elim
   ·rename_i hagg
    obtain⟨c,hb,hR⟩:=h
    refine⟨_,hR,fun hg ρ H w x y ra rb=>?_⟩
    obtain⟨h0,h1,h2⟩:=qnw hb hg
    simp only[qb6,qcn]at ra
    obtain⟨vs,rfl,q⟩:=ra
    rw[qik rb]
    refine⟨.agg ((vs.drop (n.toNat * ti.size)).take ti.size).toArray,?_,?_⟩
    ·simp[Instr.index,asIntOf,run_underlying hu,h0,h1,Go.sizeOf,typeInfo,hi,part,qsn hd,hagg,List.extract_toArray,List.extract_eq_take_drop]
    ·simp only[qb6,qcn]
     exact⟨_,rfl,by rw[← h2]; exact(q.drop _).take _⟩
  ·exact h.elim
 ·exact h.elim
theorem zhn {t:TypeId} {x:FV} {R:FV→Prop} (h:zmi P t x R) :
  ∃ fv,R fv∧∀ (ρ:List Value) (H:PH) (w:World) (ty:TypeId) (a:Value),qb6 ρ H x a→∃ v,(Builtin.len_ #[t] ty #[a]).run P w=.ok v w∧qb6 ρ H fv v:=by
 have slice:∀ (e:TypeId),P.underlying t=some (.slice e)→∀ (rows:List (List PV)) (H:PH) (w:World) (ty:TypeId) (a:Value),qcn H (.sl rows) a→(Builtin.len_ #[t] ty #[a]).run P w=.ok (.int .i64 rows.length) w:=by
  intro e hu rows H w ty a ra
  simp only[qcn]at ra
  rcases ra with ⟨rfl,rfl|⟨a',cap',rfl⟩⟩|⟨b,o,z,cap,rfl,_,_⟩
  ·simp[Builtin.len_,run_underlying hu,goInt]
  ·simp[Builtin.len_,run_underlying hu,goInt]
  ·simp[Builtin.len_,run_underlying hu,goInt]
 unfold zmi at h
 split at h
 ·rename_i l
  split at h
  ·rename_i hu
   refine⟨_,h,fun ρ H w ty a ra=>⟨.int .i64 l.length,?_,qn7⟩⟩
   rw[qpi ra]
   simp[Builtin.len_,run_underlying hu,goInt,qrl]
  ·exact h.elim
 ·rename_i rows
  split at h
  ·rename_i e hu
   exact⟨_,h,fun ρ H w ty a ra=>⟨_,slice e hu rows H w ty a ra,qn7⟩⟩
  ·exact h.elim
 ·rename_i k rows
  split at h
  ·rename_i e hu
   exact⟨_,h,fun ρ H w ty a ra=>⟨_,slice e hu rows H w ty a ra.2,qn7⟩⟩
  ·exact h.elim
 ·rename_i k off n cap
  split at h
  ·rename_i e hu
   refine⟨_,h,fun ρ H w ty a ra=>⟨.int .i64 n,?_,qn7⟩⟩
   obtain⟨b,_,rfl⟩:=ra
   simp[Builtin.len_,run_underlying hu,goInt]
  ·exact h.elim
 ·rename_i k n
  split at h
  ·rename_i e hu
   refine⟨_,h,fun ρ H w ty a ra=>⟨.int .i64 n,?_,qn7⟩⟩
   obtain⟨_,⟨rfl,rfl⟩|⟨b,cap,rfl⟩⟩:=ra<;>simp[Builtin.len_,run_underlying hu,goInt]
  ·exact h.elim
 ·split at h
  ·rename_i e hu
   refine⟨_,h,fun ρ H w ty a ra=>⟨.int .i64 0,?_,qn7⟩⟩
   simp only[qb6,qcn]at ra
   subst ra
   simp[Builtin.len_,run_underlying hu,goInt]
  ·exact h.elim
 ·exact h.elim
theorem q7t {s d:TypeId} {x:FV} {R:FV→Prop} (h:q7e P s d x R) :
  ∃ fv,R fv∧∀ (ρ:List Value) (H:PH) (w:World) (a:Value),qb6 ρ H x a→∃ v,(convert s d a).run P w=.ok v w∧qb6 ρ H fv v:=by
 unfold q7e at h
 split at h
 ·split at h
  ·rename_i hu
   split at h
   ·rename_i k hv
    refine⟨_,h,fun ρ H w a ra=>⟨_,?_,qn7⟩⟩
    rw[qik ra]
    simp[convert,run_underlying hu,run_underlying hv,Conv.intToInt]
   ·exact h.elim
  ·exact h.elim
 ·split at h
  ·rename_i hu
   split at h
   ·rename_i hv
    refine⟨_,h,fun ρ H w a ra=>⟨_,?_,qv2⟩⟩
    rw[qpi ra]
    simp[convert,run_underlying hu,run_underlying hv]
   ·exact h.elim
  ·exact h.elim
 ·exact h.elim
theorem qks {E:Env} {g:G} {x:Option Operand} {d:Nat} {R:Nat→Prop} (h:qxl E g x d R) :
  ∃ n,R n∧(∀ (ρ:List Value) (H:PH) (eval:Operand→Value),gOn g→(∀ y∈x.toArray,qb6 ρ H (evF (qb1 E) y) (eval y))→(x=none∧n=d)∨∃ y k,x=some y∧eval y=.int k n):=by
 unfold qxl at h
 split at h
 ·exact⟨d,h,fun _ _ _ _ _=>.inl ⟨rfl,rfl⟩⟩
 ·rename_i y
  obtain⟨v,h,hs⟩:=qbh h
  split at h
  ·rename_i k i
   obtain⟨n,hn,hR⟩:=h
   refine⟨n,hR,fun ρ H eval hg hy=>.inr ⟨y,k,rfl,?_⟩⟩
   rw[qik (hs ρ H _ hg (hy y (by simp))),qnw hn hg]
  ·exact h.elim
theorem qst {isSlice:Bool} {len cap:Nat} {lo hi:Option Operand} {eval:Operand→Value} {a h:Nat} (hlo:(lo=none∧a=0)∨∃ y k,lo=some y∧eval y=.int k a)
  (hhi:(hi=none∧h=len)∨∃ y k,hi=some y∧eval y=.int k h) (h1:a≤h) (h2:h≤cap) :
  (Instr.sliceBounds isSlice len cap (lo.map eval) (hi.map eval) none).run P w=.ok (a,h,cap) w:=by
 rcases hlo with ⟨rfl,rfl⟩|⟨y,k,rfl,hy⟩<;>rcases hhi with ⟨rfl,rfl⟩|⟨y',k',rfl,hy'⟩ <;>
  simp[Instr.sliceBounds,Instr.sliceBound,asIntOf, *,Int.toNat_natCast]
theorem zbd {E:Env} {g:G} {t:TypeId} {x:FV} {lo hi mx:Option Operand} {R:FV→Prop} (h:zhh P E g t x lo hi mx R) :
  ∃ fv,R fv∧(∀ (ρ:List Value) (H:PH) (w:World) (eval:Operand→Value) (v:Value),gOn g→qb6 ρ H x v→(∀ y∈lo.toArray,qb6 ρ H (evF (qb1 E) y) (eval y))→(∀ y∈hi.toArray,qb6 ρ H (evF (qb1 E) y) (eval y)) →
   mx=none∧∃ u,(Instr.sliceAt t v (lo.map eval) (hi.map eval) none).run P w=.ok u w∧qb6 ρ H fv u):=by
 have rowsCase:∀ (e:TypeId) (i:TypeInfo) (rows:List (List PV)) (a h:Nat),P.underlying t=some (.slice e)→P.info? e=some i→(a≤h∧h≤rows.length∧∀ r∈rows,r.length=i.size) →
   ∀ (H:PH) (w:World) (eval:Operand→Value) (v:Value),qcn H (.sl rows) v→((lo=none∧a=0)∨∃ y k,lo=some y∧eval y=.int k a)→((hi=none∧h=rows.length)∨∃ y k,hi=some y∧eval y=.int k h) →
   ∃ u,(Instr.sliceAt t v (lo.map eval) (hi.map eval) none).run P w=.ok u w∧qcn H (.sl ((rows.take h).drop a)) u:=by
  intro e i rows a h hu hi hah H w eval v rv hlo hhi
  obtain⟨h1,h2,h3⟩:=hah
  simp only[qcn]at rv ⊢
  rcases rv with ⟨rfl,rfl|⟨a',cap',rfl⟩⟩|⟨b,o,z,cap,rfl,hc,rr⟩
  rotate_left
  ·have h0:h=0:=by simpa using h2
   subst h0
   have ha:a=0:=by omega
   subst ha
   have:=qst (P:=P) (w:=w) (isSlice:=true) (len:=0) (cap:=cap') hlo (by simpa using hhi) (Nat.le_refl 0) (Nat.zero_le _)
   by_cases hcap:cap'=0
   ·subst hcap
    refine⟨.slice (some a') 0 0,?_,.inl ⟨by simp,.inr ⟨_,_,rfl⟩⟩⟩
    simp[Instr.sliceAt,Instr.slice,run_underlying hu,this,Go.sizeOf,typeInfo,hi]
   ·refine⟨.slice (some (a'.add 0)) 0 cap',?_,.inl ⟨by simp,.inr ⟨_,_,rfl⟩⟩⟩
    simp[Instr.sliceAt,Instr.slice,run_underlying hu,this,Go.sizeOf,typeInfo,hi,hcap]
  rotate_right
  ·have h0:h=0:=by simpa using h2
   subst h0
   have ha:a=0:=by omega
   subst ha
   have:=qst (P:=P) (w:=w) (isSlice:=true) (len:=0) (cap:=0) hlo (by simpa using hhi) (Nat.le_refl 0) (Nat.le_refl 0)
   refine⟨.slice none 0 0,?_,.inl ⟨by simp,.inl rfl⟩⟩
   simp[Instr.sliceAt,Instr.slice,run_underlying hu,this,Go.sizeOf,typeInfo,hi]
  ·have:=qst (P:=P) (w:=w) (isSlice:=true) (len:=rows.length) (cap:=cap) hlo hhi h1 (by omega)
   have hlen:((rows.take h).drop a).length=h - a:=by simp; omega
   by_cases hcap:cap=a
   ·have hha:h=a:=by omega
    subst hha
    refine⟨.slice (some ⟨b,o,none⟩) 0 0,?_,.inr ⟨b,o,z,0,?_,?_,?_⟩⟩
    ·subst hcap
     simp[Instr.sliceAt,Instr.slice,run_underlying hu,this,Go.sizeOf,typeInfo,hi]
    ·rw[hlen]; simp
    ·rw[hlen]; simp
    ·have e0:(rows.take h).drop h=[]:=by
      apply List.eq_nil_of_length_eq_zero
      rw[hlen]
      omega
     rw[e0]
     simp[qpw]
   ·refine⟨.slice (some ⟨b,o+a * i.size,none⟩) (h - a) (cap - a),?_,.inr ⟨b,o+a * i.size,z,cap - a,by rw[hlen],by rw[hlen]; omega,?_⟩⟩
    ·simp[Instr.sliceAt,Instr.slice,run_underlying hu,this,Go.sizeOf,typeInfo,hi,hcap,Addr.add_lit]
    ·have hz:rows=[]∨z=i.size:=by
      cases rows with
      | nil=>exact .inl rfl
      | cons r rs=>
       simp only[qpw]at rr
       exact .inr (by rw[← rr.1]; exact h3 r (by simp))
     rcases hz with hz|hz
     ·subst hz; simp[qpw]
     ·rw[← hz]; exact(rr.take h).drop a
 unfold zhh at h
 split at h
 ·exact h.elim
 ·split at h
  ·rename_i l
   split at h
   ·rename_i hu
    obtain⟨hh,h,hb1⟩:=qks h
    obtain⟨aa,h,hb2⟩:=qks h
    refine⟨_,h.2,fun ρ H w eval v hg rv hlo hhi=>⟨rfl,?_⟩⟩
    obtain⟨h1,h2⟩:=qnw h.1 hg
    rw[qpi rv]
    have:=qst (P:=P) (w:=w) (isSlice:=false) (len:=l.length) (cap:=l.length) (hb2 ρ H eval hg hlo) (hb1 ρ H eval hg hhi) h1 h2
    refine⟨.string ⟨((l.take hh).drop aa).toArray⟩,?_,qv2⟩
    simp[Instr.sliceAt,Instr.slice,run_underlying hu,qrl,this,ByteArray.extract_mk,List.drop_take]
   ·exact h.elim
  ·rename_i rows
   split at h
   ·rename_i e hu
    split at h
    ·rename_i i hi
     obtain⟨hh,h,hb1⟩:=qks h
     obtain⟨aa,h,hb2⟩:=qks h
     refine⟨_,h.2,fun ρ H w eval v hg rv hlo hhi=>⟨rfl,?_⟩⟩
     exact rowsCase e i rows aa hh hu hi (qnw h.1 hg) H w eval v rv (hb2 ρ H eval hg hlo) (hb1 ρ H eval hg hhi)
    ·exact h.elim
   ·exact h.elim
  ·rename_i k rows
   split at h
   ·rename_i e hu
    split at h
    ·rename_i i hi
     obtain⟨hh,h,hb1⟩:=qks h
     obtain⟨aa,h,hb2⟩:=qks h
     refine⟨_,h.2,fun ρ H w eval v hg rv hlo hhi=>⟨rfl,?_⟩⟩
     exact rowsCase e i rows aa hh hu hi (qnw h.1 hg) H w eval v rv.2 (hb2 ρ H eval hg hlo) (hb1 ρ H eval hg hhi)
    ·exact h.elim
   ·exact h.elim
  ·rename_i k off
   split at h
   ·rename_i n e hu
    split at h
    ·rename_i i hi
     split at h
     ·rename_i hz
      have hz:i.size=1:=Nat.eq_of_beq_eq_true hz
      obtain⟨hh,h,hb1⟩:=qks h
      obtain⟨aa,h,hb2⟩:=qks h
      refine⟨_,h.2,fun ρ H w eval v hg rv hlo hhi=>⟨rfl,?_⟩⟩
      obtain⟨h1,h2,h3⟩:=qnw h.1 hg
      obtain⟨b,hr,rfl⟩:=rv
      have:=qst (P:=P) (w:=w) (isSlice:=false) (len:=n) (cap:=n) (hb2 ρ H eval hg hlo) (hb1 ρ H eval hg hhi) h1 h2
      have hcap:¬ n=aa:=by omega
      refine⟨.slice (some ⟨b,off+aa,none⟩) (hh - aa) (n - aa),?_,b,hr,rfl⟩
      simp[Instr.sliceAt,Instr.sureAddr,run_underlying hu,this,Go.sizeOf,typeInfo,hi,hz,hcap,Addr.add_lit]
     ·exact h.elim
    ·exact h.elim
   ·exact h.elim
  ·exact h.elim
theorem qvr {w:World} {b:Nat} {vs:List Value} {t:TypeId} {fr:Nat×Nat} (hg:w.heap[b]? =some (.cells vs.toArray t fr)) (off:Nat) :
  ∀ j v,(vs.drop off)[j]? =some v→w.cell? ⟨b,off+j,none⟩=some v:=fun j v hv=>by
 rw[cell_of_row w b (off+j) _ t fr hg]
 rw[List.getElem?_drop]at hv
 simpa using hv
end
end Ax
end
section
namespace Ax
open Go
section
variable {P:Program}
theorem zcr (off:Nat):∀ (l:List Value) (k:Nat) (cs:Array Value),off+k+l.length≤cs.size →
  ((l.zipIdx k).foldl (fun(cs:Array Value) (x:Value×Nat)=>cs.setIfInBounds (off+x.2) x.1) cs).toList=cs.toList.take (off+k)++l++cs.toList.drop (off+k+l.length)
 | [],k,cs,_=>by simp
 | c::l,k,cs,h=>by
  simp only[List.length_cons]at h
  rw[List.zipIdx_cons,List.foldl_cons,zcr off l (k+1) _ (by simp; omega)]
  simp only[Array.toList_setIfInBounds,List.length_cons]
  have e:off+(k+1)=off+k+1:=by omega
  rw[e,List.take_add_one,List.getElem?_set_self (by simpa using(by omega:off+k<cs.size)),List.take_set_of_le (Nat.le_refl _),List.drop_set_of_lt (by omega)]
  have e2:off+k+1+l.length=off+k+(l.length+1):=by omega
  rw[e2]
  simp
theorem q8x (off:Nat) (v:Value) (cs:Array Value) (h:off+v.cells.size≤cs.size) :
  (v.cells.zipIdx.foldl (fun(cs:Array Value) (x:Value×Nat)=>cs.setIfInBounds (off+x.2) x.1) cs).toList=cs.toList.take off++v.cells.toList++cs.toList.drop (off+v.cells.size):=by
 rw[← Array.foldl_toList,Array.toList_zipIdx]
 have:=zcr off v.cells.toList 0 cs (by simpa using h)
 simpa using this
theorem qqd {ρ:List Value} {H:PH} {f:FV} {x:Value} (h:zet f=true) (r:qb6 ρ H f x):x.cells = #[x]∧x.oneCell'=true:=by
 cases f with
 | p p=>
  cases p<;>simp[zet]at h<;>simp only[qb6,qcn]at r
  case sl rows=>
   rcases r with ⟨_,rfl|⟨_,_,rfl⟩⟩|⟨b,o,z,cap,rfl,_⟩<;>exact⟨rfl,rfl⟩
  case ifc t p=>
   obtain⟨u,rfl,_⟩:=r
   exact⟨rfl,rfl⟩
  all_goals (subst r; exact⟨rfl,rfl⟩)
 | top=>simp[zet]at h
 | opt g v=>simp[zet]at h
 | tsl k rows=>
  have:=r.2
  simp only[qcn]at this
  rcases this with ⟨_,rfl|⟨_,_,rfl⟩⟩|⟨b,o,z,cap,rfl,_⟩<;>exact⟨rfl,rfl⟩
 | ptr k off=>
  obtain⟨b,_,rfl⟩:=r
  exact⟨rfl,rfl⟩
 | hptr row=>
  obtain⟨b,o,vs,rfl,_⟩:=r
  exact⟨rfl,rfl⟩
 | bself k=>
  obtain⟨b,_,rfl|rfl⟩:=r<;>exact⟨rfl,rfl⟩
 | bsl k off len cap=>
  obtain⟨b,_,rfl⟩:=r
  exact⟨rfl,rfl⟩
 | vsl k n=>
  obtain⟨_,⟨_,rfl⟩|⟨b,cap,rfl⟩⟩:=r<;>exact⟨rfl,rfl⟩
 | eptr k z i off=>
  obtain⟨b,n,cap,_,rfl⟩:=r
  exact⟨rfl,rfl⟩
 | mref k=>
  obtain⟨b,_,rfl⟩:=r
  exact⟨rfl,rfl⟩
 | pair a b=>simp[zet]at h
 | stmp k=>simp[zet]at h
 | cap0=>simp[zet]at h
 | cap a b=>simp[zet]at h
 | fagg c=>simp[zet]at h
 | nxt ok a b=>simp[zet]at h
 | clo f c=>
  obtain⟨vs,rfl,_⟩:=r
  exact⟨rfl,rfl⟩
theorem qu6:∀ {cs:List PV} {R:List FV→Prop},zjs cs R→R (cs.map .p)
 | [],R,h=>h
 | c::cs,R,h=>by simpa using qu6 (cs:=cs) (R:=fun l=>R (.p c::l)) h
theorem qqf:∀ {off:Nat} {vs old:List FV} {R:List FV→Prop},quz off vs old R→R (old.take off++vs++old.drop (off+vs.length))∧off+vs.length≤old.length
 | 0,[],old,R,h=>by simpa[quz]using h
 | 0,v::vs,[],R,h=>by simp[quz]at h
 | 0,v::vs,a::old,R,h=>by
  simp only[quz]at h
  have:=qqf (off:=0) h
  simpa using this
 | off+1,vs,[],R,h=>by cases vs<;>simp[quz]at h
 | off+1,vs,a::old,R,h=>by
  have h':quz off vs old fun l=>R (a::l):=by cases vs<;>simpa[quz]using h
  have:=qqf h'
  have e:off+1+vs.length=(off+vs.length)+1:=by omega
  rw[e]
  simpa using this
theorem qdn.append {ρ:List Value} {H:PH}:∀ {cs ds:List FV} {vs us:List Value},qdn ρ H cs vs→qdn ρ H ds us→qdn ρ H (cs++ds) (vs++us)
 | [],_,vs,_,x,y=>by simp only[qdn]at x; simpa[x]using y
 | c::cs,ds,vs,us,x,y=>by
  obtain⟨v,vs',rfl,r,rs⟩:=x
  exact⟨v,_,rfl,r,rs.append y⟩
theorem qv8:∀ {off:Nat} {vs old:List PV} {R:List PV→Prop},q33 off vs old R→R (old.take off++vs++old.drop (off+vs.length))∧off+vs.length≤old.length
 | 0,[],old,R,h=>by simpa[q33]using h
 | 0,v::vs,[],R,h=>by simp[q33]at h
 | 0,v::vs,a::old,R,h=>by
  simp only[q33]at h
  have:=qv8 (off:=0) h
  simpa using this
 | off+1,vs,[],R,h=>by cases vs<;>simp[q33]at h
 | off+1,vs,a::old,R,h=>by
  have h':q33 off vs old fun l=>R (a::l):=by cases vs<;>simpa[q33]using h
  have:=qv8 h'
  have e:off+1+vs.length=(off+vs.length)+1:=by omega
  rw[e]
  simpa using this
theorem qxu {p:PV} {R:List PV→Prop} (h:za6 p R):∃ c,R c∧∀ (H:PH) (x:Value),qcn H p x→qd1 H c x.cells.toList:=by
 unfold za6 at h
 split at h
 ·rename_i cs
  refine⟨cs,h,fun H x r=>?_⟩
  simp only[qcn]at r
  obtain⟨vs,rfl,q⟩:=r
  simpa[Value.cells]using q
 ·exact h.elim
 ·rename_i h1 h2
  refine⟨[p],h,fun H x r=>?_⟩
  have hc:x.cells = #[x]:=by
   cases p<;>simp only[qcn]at r
   case agg cs=>exact absurd rfl (h1 cs)
   case tup cs=>exact absurd rfl (h2 cs)
   case sl rows=>rcases r with ⟨_,rfl|⟨_,_,rfl⟩⟩|⟨_,_,_,_,rfl,_⟩<;>rfl
   case ifc t p=>obtain⟨_,rfl,_⟩:=r; rfl
   all_goals (subst r; rfl)
  rw[hc]
  simp only[qd1]
  exact⟨x,[],rfl,r,rfl⟩
theorem q26 {H:PH} {p:PV} {x:Value} (h:zfv p=true) (r:qcn H p x):x.oneCell'=true∧x.cells = #[x]:=by
 cases p<;>simp only[qcn]at r
 case agg cs=>simp[zfv]at h
 case tup cs=>simp[zfv]at h
 case sl rows=>rcases r with ⟨_,rfl|⟨_,_,rfl⟩⟩|⟨_,_,_,_,rfl,_⟩<;>exact⟨rfl,rfl⟩
 case ifc t p=>obtain⟨_,rfl,_⟩:=r; exact⟨rfl,rfl⟩
 all_goals (subst r; exact⟨rfl,rfl⟩)
theorem qd1.one {H:PH}:∀ {cs:List PV} {vs:List Value},(∀ c∈cs,zfv c=true)→qd1 H cs vs→∀ u∈vs,u.oneCell'=true
 | [],vs,_,r,u,hu=>by simp only[qd1]at r; simp[r]at hu
 | c::cs,vs,h,r,u,hu=>by
  simp only[qd1]at r
  obtain⟨v,vs',rfl,r1,rs⟩:=r
  rcases List.mem_cons.1 hu with rfl|hu
  ·exact(q26 (h c (by simp)) r1).1
  ·exact qd1.one (fun c hc=>h c (by simp[hc])) rs u hu
theorem qsu:∀ {vs:List Value} {R:List PV→Prop},zes vs R→∃ ps,R ps∧∀ H,qd1 H ps vs
 | [],R,h=>⟨[],h,fun H=>by simp[qd1]⟩
 | v::vs,R,h=>by
  simp only[zes]at h
  split at h
  ·rename_i p hp
   obtain⟨ps,hr,hs⟩:=qsu h
   refine⟨p::ps,hr,fun H=>?_⟩
   simp only[qd1]
   exact⟨v,vs,rfl,q2z hp H,hs H⟩
  ·exact h.elim
theorem q6m {E:Env} {g:G} {fs:List Field}:∀ {parts:List (Nat×Operand)} {cs:List PV} {R:List PV→Prop},zid P E g fs parts cs R →
  ∃ cs',R cs'∧(gOn g→∀ (ρ:List Value) (H:PH) (w:World) (eval:Operand→Value) (places:Array (Nat×Nat)) (cells:Array Value),(∀ x∈parts.map (·.2),qb6 ρ H (evF (qb1 E) x) (eval x)) →
   (∀ (i:Nat) (f:Field),fs[i]? =some f→∀ ti,P.info? f.type=some ti→places[i]? =some (f.offset,ti.size))→qd1 H cs cells.toList →
   ∃ cells',Instr.fill (places[·]?) cells (parts.map fun(i,x)=>(i,eval x))=some cells'∧qd1 H cs' cells'.toList)
 | [],cs,R,h=>⟨cs,h,fun _ ρ H w eval places cells _ _ r=>⟨cells,rfl,r⟩⟩
 | (i,x)::l,cs,R,h=>by
  simp only[zid]at h
  obtain⟨f,hf,h⟩:=qdc h
  split at h
  ·rename_i ti hti
   obtain⟨v,h,hv⟩:=qbh h
   obtain⟨p,h,hp⟩:=qo2 h
   obtain⟨c,h,hc⟩:=qxu h
   split at h
   ·rename_i hsz
    have hsz:c.length=ti.size:=Nat.eq_of_beq_eq_true hsz
    obtain⟨h,hlen⟩:=qv8 h
    obtain⟨cs',h,hs⟩:=q6m h
    refine⟨cs',h,fun hg ρ H w eval places cells hx hpl r=>?_⟩
    have rc:=hc H _ (hp _ _ _ (hv ρ H _ hg (hx x (by simp))))
    have hvs:(eval x).cells.size=ti.size:=by have:=rc.length; simp at this; omega
    have hcl:=r.length
    simp at hcl
    have hle:f.offset+(eval x).cells.size≤cells.size:=by omega
    have h1:=q8x f.offset (eval x) cells hle
    obtain⟨cells',e',r'⟩:=hs hg ρ H w eval places ((eval x).cells.zipIdx.foldl (fun(cs:Array Value) (x:Value×Nat)=>cs.setIfInBounds (f.offset+x.2) x.1) cells) (fun y hy=>hx y (by simp at hy ⊢; exact .inr hy)) hpl (by
     rw[h1,hvs,← hsz]
     exact((r.take _).append rc).append (r.drop _))
    refine⟨cells',?_,r'⟩
    simp only[List.map_cons,Instr.fill,hpl i f hf ti hti]
    rw[if_neg (by simp[hvs]; omega)]
    exact e'
   ·exact h.elim
  ·exact h.elim
theorem qs9 {E:Env} {g:G}:∀ {parts:List (Nat×Operand)} {k:Nat} {R:List PV→Prop},zaf E g k parts R →
  ∃ ps,R ps∧ps.length=parts.length∧(gOn g→∀ (ρ:List Value) (H:PH) (eval:Operand→Value),(∀ x∈parts.map (·.2),qb6 ρ H (evF (qb1 E) x) (eval x)) →
   ∃ vals,(parts.map fun(i,x)=>(i,eval x))=(vals.zipIdx k).map (fun(v,i)=>(i,v))∧qd1 H ps vals)
 | [],k,R,h=>⟨[],h,rfl,fun _ ρ H eval _=>⟨[],rfl,by simp[qd1]⟩⟩
 | (i,x)::l,k,R,h=>by
  simp only[zaf]at h
  split at h
  ·rename_i hi
   have hi:i=k:=Nat.eq_of_beq_eq_true hi
   subst hi
   obtain⟨v,h,hv⟩:=qbh h
   obtain⟨p,h,hp⟩:=qo2 h
   obtain⟨ps,h,hl,hs⟩:=qs9 h
   refine⟨p::ps,h,by simp[hl],fun hg ρ H eval hx=>?_⟩
   obtain⟨vals,e,r⟩:=hs hg ρ H eval (fun y hy=>hx y (by simp at hy ⊢; exact .inr hy))
   refine⟨eval x::vals,?_,?_⟩
   ·simp only[List.map_cons,List.zipIdx_cons,e]
   ·simp only[qd1]
    exact⟨_,_,rfl,hp _ _ _ (hv ρ H _ hg (hx x (by simp))),r⟩
  ·exact h.elim
theorem qzj (size:Nat) (n:Nat) (pl:Nat→Option (Nat×Nat)) (hpl:∀ i,i<n→pl i=some (i * size,size)):∀ (vals:List Value) (k:Nat) (cells:Array Value),(∀ v∈vals,v.cells.size=size)→k+vals.length=n→n * size=cells.size →
  ∃ cells',Instr.fill pl cells ((vals.zipIdx k).map fun(v,i)=>(i,v))=some cells'∧cells'.toList=cells.toList.take (k * size)++vals.flatMap (·.cells.toList)
 | [],k,cells,_,hn,hc=>by
  refine⟨cells,rfl,?_⟩
  simp at hn
  subst hn
  rw[List.take_of_length_le (by simp; omega)]
  simp
 | v::vals,k,cells,hv,hn,hc=>by
  have h1:=hv v (by simp)
  simp only[List.length_cons]at hn
  have hkn:(k+1) * size≤n * size:=Nat.mul_le_mul_right _ (by omega)
  have hle:k * size+v.cells.size≤cells.size:=by rw[h1,← hc]; rw[Nat.add_mul,Nat.one_mul]at hkn; exact hkn
  have hf:=q8x (k * size) v cells hle
  have hsz:(v.cells.zipIdx.foldl (fun(cs:Array Value) (x:Value×Nat)=>cs.setIfInBounds (k * size+x.2) x.1) cells).size=cells.size:=by
   rw[← Array.length_toList,hf]
   simp
   omega
  obtain⟨cells',e,h⟩:=qzj size n pl hpl vals (k+1) _ (fun u hu=>hv u (by simp[hu])) (by omega) (by rw[hsz]; exact hc)
  refine⟨cells',?_,?_⟩
  ·simp only[List.zipIdx_cons,List.map_cons,Instr.fill,hpl k (by omega)]
   rw[if_neg (by simp[h1]; omega)]
   exact e
  ·rw[h,hf]
   have e1:(k+1) * size=k * size+v.cells.size:=by rw[h1,Nat.add_mul,Nat.one_mul]
   rw[e1,List.flatMap_cons,← List.append_assoc]
   congr 1
   rw[List.append_assoc,List.take_append,List.take_append]
   simp only[List.length_take,Array.length_toList]
   have:min (k * size) cells.size=k * size:=Nat.min_eq_left (by omega)
   rw[this,List.take_of_length_le (l:=List.take (k * size) cells.toList) (by simp; omega)]
   simp
   exact List.take_of_length_le (by simp)
theorem qz3:∀ {ps:List PV} {R:List (List PV)→Prop},zim ps R→∃ rows,R rows∧rows.length=ps.length∧∀ (H:PH) (vals:List Value),qd1 H ps vals →
  (∀ (i:Nat) (r:List PV) (v:Value),rows[i]? =some r→vals[i]? =some v→qd1 H r v.cells.toList)
 | [],R,h=>⟨[],h,rfl,fun H vals r i r' v hr=>by simp at hr⟩
 | p::ps,R,h=>by
  simp only[zim]at h
  obtain⟨c,h,hc⟩:=qxu h
  obtain⟨rows,h,hl,hs⟩:=qz3 h
  refine⟨c::rows,h,by simp[hl],fun H vals r i r' v hr hv=>?_⟩
  simp only[qd1]at r
  obtain⟨x,vs',rfl,rx,rs⟩:=r
  cases i with
  | zero=>simp at hr hv; subst hr; subst hv; exact hc H x rx
  | succ i=>exact hs H vs' rs i r' v (by simpa using hr) (by simpa using hv)
theorem zi0 {H:PH} {w:World} (s:SatH H w) (e:TypeId) (ys:List Value) (h1:∀ u∈ys,u.oneCell'=true) :
  Calm H w (fun b o=>if b=w.heap.size then ys[o]? else H b o) (w.alloc (.cells ys.toArray e)):=by
 have hlt:∀ b o v,H b o=some v→b≠w.heap.size:=fun b o v hv e=>by
  have:=s.lt hv; omega
 refine⟨fun b o v hv=>?_,⟨fun b o v hv=>?_,s.root.mono fun b o v hv=>by rw[if_neg (hlt b o v hv)]; exact hv⟩,⟨rfl,rfl,rfl,by simp,fun k hk _=>Go.RowKit.Below.heap_alloc w _ k hk⟩,fun b o v hv=>?_⟩
 ·rw[if_neg (hlt b o v hv)]; exact hv
 ·split at hv
  ·rename_i hb
   subst hb
   refine⟨?_,h1 v (List.mem_of_getElem? hv)⟩
   rw[World.cell?_alloc_new]
   simpa using hv
  ·obtain⟨c,o1⟩:=s.cell b o v hv
   exact⟨by rw[World.cell?_alloc_lt (h:=s.lt hv)]; exact c,o1⟩
 ·split at hv
  ·rename_i hb; exact .inr (by omega)
  ·exact .inl ⟨v,hv⟩
theorem zk9 {H:PH} {z:Nat}:∀ {rows:List (List PV)} {vals:List Value},rows.length=vals.length→(∀ r∈rows,r.length=z) →
  (∀ (i:Nat) (r:List PV) (v:Value),rows[i]? =some r→vals[i]? =some v→qd1 H r v.cells.toList)→∀ {b o:Nat} {H':PH},PH.le H H' →
  (∀ (j:Nat) (u:Value),(vals.flatMap (·.cells.toList))[j]? =some u→H' b (o+j)=some u)→qpw H' b z o rows
 | [],_,_,_,_,_,_,_,_,_=>by simp[qpw]
 | r::rs,[],hl,_,_,_,_,_,_,_=>by simp at hl
 | r::rs,v::vals,hl,hz,hr,b,o,H',hle,hc=>by
  have h0:=hr 0 r v rfl rfl
  have hlen:=h0.length
  have hrz:=hz r (by simp)
  simp only[qpw]
  refine⟨hrz,⟨v.cells.toList,qd1.mono hle h0,fun j u hu=>hc j u ?_⟩,zk9 (by simpa using hl) (fun r hr=>hz r (by simp[hr])) (fun i r' v' h1 h2=>hr (i+1) r' v' (by simpa using h1) (by simpa using h2)) hle (fun j u hu=>?_)⟩
  ·rw[List.flatMap_cons,List.getElem?_append_left (List.getElem?_eq_some_iff.1 hu).1]; exact hu
  ·have:=hc (z+j) u (by rw[List.flatMap_cons,List.getElem?_append_right (by rw[hlen,hrz]; omega),hlen,hrz,Nat.add_sub_cancel_left]; exact hu)
   rwa [← Nat.add_assoc]at this
theorem q1x {E:Env} {g:G} {t:TypeId} {n:Nat} {parts:List (Nat×Operand)} {R:FV→Prop} (h:qmv P E g t n parts R) :
  ∃ fv,R fv∧(gOn g→∀ (ρ:List Value) (H:PH) (w:World) (eval:Operand→Value),SatH H w→(∀ x∈parts.map (·.2),qb6 ρ H (evF (qb1 E) x) (eval x)) →
   ∃ v w' H',(Instr.buildSlice t n (parts.map fun(i,x)=>(i,eval x)).toArray).run P w=.ok v w'∧Calm H w H' w'∧qb6 ρ H' fv v):=by
 unfold qmv at h
 obtain⟨e,i,hu,hi,h⟩:=qj0 h
 split at h
 ·rename_i hn
  have hn:parts.length=n:=Nat.eq_of_beq_eq_true hn
  split at h
  ·rename_i h1n
   split at h
   ·rename_i h1z
    split at h
    case h_2=>exact h.elim
    rename_i hbig
    split at h
    case h_2=>exact h.elim
    rename_i i' hi'
    have:i'=i:=Option.some.inj (hi'.symm.trans hi)
    subst this
    split at h
    case h_2=>exact h.elim
    rename_i zv hzv
    obtain⟨ps,h,hpl,hps⟩:=qs9 h
    obtain⟨rows,h,hrl,hrows⟩:=qz3 h
    obtain⟨hok,rows',hle,h⟩:=h
    refine⟨_,h,fun hg ρ H w eval s hx=>?_⟩
    obtain⟨vals,ev,rv⟩:=hps hg ρ H eval hx
    have hcells:=hrows H vals rv
    have hvl:vals.length=n:=by rw[rv.length,hpl,hn]
    have hsz:∀ v∈vals,v.cells.size=i'.size:=by
     intro v hv
     obtain⟨j,hj⟩:=List.getElem?_of_mem hv
     have hjl:=(List.getElem?_eq_some_iff.1 hj).1
     have hrj:j<rows.length:=by rw[hrl,hpl,hn,← hvl]; exact hjl
     have:=(hcells j _ v (List.getElem?_eq_getElem hrj) hj).length
     rw[(hok _ (List.getElem_mem hrj)).1]at this
     simpa using this
    obtain⟨cells',ef,hc'⟩:=qzj i'.size n (fun i_1=>some (i_1 * i'.size,i'.size)) (fun j _=>rfl) vals 0 ((Array.range (n * i'.size)).map (zv.cells[· % zv.cells.size]!)) hsz (by omega) (by simp)
    simp only[Nat.zero_mul,List.take_zero,List.nil_append]at hc'
    have hone:∀ u∈cells'.toList,u.oneCell'=true:=by
     rw[hc']
     intro u hu'
     obtain⟨v,hv,huv⟩:=List.mem_flatMap.1 hu'
     obtain⟨j,hj⟩:=List.getElem?_of_mem hv
     have hjl:=(List.getElem?_eq_some_iff.1 hj).1
     have hrj:j<rows.length:=by rw[hrl,hpl,hn,← hvl]; exact hjl
     have h1:=hcells j _ v (List.getElem?_eq_getElem hrj) hj
     have h2:=(hok _ (List.getElem_mem hrj)).2
     exact qd1.one (fun c hc=>(List.all_eq_true.1 h2) c hc) h1 u huv
    have hcalm:=zi0 s e cells'.toList hone
    refine⟨.slice (some ⟨w.heap.size,0,none⟩) n n,_,_,?_,hcalm,?_⟩
    ·have h0:n * i'.size≠0:=by
      have a1:1≤n:=Nat.le_of_ble_eq_true h1n
      have a2:1≤i'.size:=Nat.le_of_ble_eq_true h1z
      exact Nat.mul_ne_zero (by omega) (by omega)
     have hb:¬ 16777216<n * i'.size:=by
      have:=Nat.le_of_ble_eq_true hbig
      omega
     simp only[Instr.buildSlice,Sem.run_bind,run_underlying hu,Result.andThen_ok,Go.sizeOf,typeInfo,run_program,hi,Sem.run_pure]
     rw[show(2:Nat) ^ 24=16777216 from rfl]
     simp only[hb,if_false,gt_iff_lt,h0,Sem.run_bind,zeroValue,typeInfo,run_program,hi,hzv,Result.andThen_ok,Sem.run_pure]
     rw[ev,ef]
     simp[newRow]
    ·simp only[qb6]
     refine zme hle ?_
     simp only[qcn]
     refine .inr ⟨w.heap.size,0,i'.size,n,by rw[hrl,hpl,hn],by rw[hrl,hpl,hn]; exact Nat.le_refl _,?_⟩
     refine zk9 (by rw[hrl,hpl,hn,hvl]) (fun r hr=>(hok r hr).1) hcells hcalm.le (fun j u hu'=>?_)
     rw[Nat.zero_add,if_pos rfl,hc']
     exact hu'
   ·exact h.elim
  ·exact h.elim
 ·exact h.elim
theorem q0y {w:World}:∀ {fs:List Field},zas P fs=true →
  (fs.mapM (m:=Sem) fun f=>do pure (f.offset,← Go.sizeOf f.type)).run P w=.ok (fs.map fun f=>(f.offset,zd7 P f.type)) w
 | [],_=>by simp
 | f::fs,h=>by
  simp only[zas]at h
  split at h
  ·rename_i i hi
   have:=q0y (w:=w) h
   have hsz:(Go.sizeOf f.type).run P w=.ok i.size w:=by simp[Go.sizeOf,typeInfo,hi]
   simp only[List.mapM_cons,Sem.run_bind,hsz,Result.andThen_ok,Sem.run_pure,List.map_cons,zd7,hi]
   rw[this]
   rfl
  ·cases h
theorem zbz {E:Env} {g:G} {t:TypeId} {parts:List (Nat×Operand)} {R:FV→Prop} (h:zgr P E g t parts R) :
  ∃ fv,R fv∧(gOn g→∀ (ρ:List Value) (H:PH) (w:World) (eval:Operand→Value),(∀ x∈parts.map (·.2),qb6 ρ H (evF (qb1 E) x) (eval x)) →
   ∃ v,(Instr.build t (parts.map fun(i,x)=>(i,eval x)).toArray).run P w=.ok v w∧qb6 ρ H fv v):=by
 unfold zgr at h
 split at h
 ·rename_i i hi
  split at h
  ·rename_i vs hz
   obtain⟨zs,h,hzs⟩:=qsu h
   split at h
   ·rename_i fs hu
    split at h
    case h_2=>exact h.elim
    rename_i hinf
    obtain⟨cs,h,hs⟩:=q6m h
    refine⟨_,h,fun hg ρ H w eval hx=>?_⟩
    obtain⟨cells',ef,rc⟩:=hs hg ρ H w eval (fs.map fun f=>(f.offset,zd7 P f.type)).toArray vs.toArray hx (fun i f hf ti hti=>by simp[hf,zd7,hti]) (by simpa[Value.cells]using hzs H)
    refine⟨.agg cells',?_,by simp only[qb6,qcn]; exact⟨cells'.toList,by simp,rc⟩⟩
    simp only[Instr.build,Sem.run_bind,zeroValue,typeInfo,run_program,hi,hz,Result.andThen_ok,Sem.run_pure,run_underlying hu,Value.cells]
    rw[Array.mapM_eq_mapM_toList]
    simp only[Sem.run_map]
    rw[q0y hinf]
    simp only[Result.andThen_ok]
    rw[ef]
    rfl
   ·rename_i n e hu
    split at h
    ·rename_i ei hei
     split at h
     ·rename_i hsz
      have hsz:ei.size=1:=Nat.eq_of_beq_eq_true hsz
      obtain⟨ps,h,hpl,hps⟩:=qs9 h
      obtain⟨hlen,hone,h⟩:=h
      refine⟨_,h,fun hg ρ H w eval hx=>?_⟩
      obtain⟨vals,ev,rv⟩:=hps hg ρ H eval hx
      have hsz':∀ v∈vals,v.cells.size=1:=by
       intro v hv
       obtain⟨j,hj⟩:=List.getElem?_of_mem hv
       have hjl:=(List.getElem?_eq_some_iff.1 hj).1
       have hpj:j<ps.length:=by rw[← rv.length]; exact hjl
       obtain⟨v',hv',r'⟩:=rv.get (List.getElem?_eq_getElem hpj)
       rw[hj]at hv'
       cases hv'
       rw[(q26 (hone _ (List.getElem_mem hpj)) r').2]
       rfl
      have hvl:=rv.length
      obtain⟨cells',ef,hc'⟩:=qzj 1 vals.length (fun i_1=>some (i_1 * 1,1)) (fun j _=>rfl) vals 0 ⟨vs⟩ hsz' (by omega) (by simp; omega)
      refine⟨.agg cells',?_,?_⟩
      ·simp only[Instr.build,Sem.run_bind,zeroValue,typeInfo,run_program,hi,hz,Result.andThen_ok,Sem.run_pure,run_underlying hu,Go.sizeOf,hei,hsz,ev,Value.cells]
       simp only[Nat.mul_one]at ef ⊢
       rw[ef]
       rfl
      ·simp only[qb6,qcn]
       refine⟨cells'.toList,by simp,?_⟩
       have e1:cells'.toList=vals:=by
        rw[hc']
        simp only[Nat.zero_mul,List.take_zero,List.nil_append]
        have:∀ (l:List Value),(∀ v∈l,v∈vals)→l.flatMap (·.cells.toList)=l:=by
         intro l
         induction l with
         | nil=>intro _; rfl
         | cons a l ih=>
          intro hl
          rw[List.flatMap_cons,ih (fun v hv=>hl v (by simp[hv]))]
          obtain⟨j,hj⟩:=List.getElem?_of_mem (hl a (by simp))
          have hjl:=(List.getElem?_eq_some_iff.1 hj).1
          have hpj:j<ps.length:=by rw[← rv.length]; exact hjl
          obtain⟨v',hv',r'⟩:=rv.get (List.getElem?_eq_getElem hpj)
          rw[hj]at hv'
          cases hv'
          rw[(q26 (hone _ (List.getElem_mem hpj)) r').2]
          rfl
        exact this vals (fun v hv=>hv)
       rw[e1]
       exact rv
     ·exact h.elim
    ·exact h.elim
   ·exact h.elim
  ·exact h.elim
 ·exact h.elim
theorem q08 {E:Env} {yes no:Prop}:∀ {parts:List (Nat×Operand)},q8e E parts yes no→yes∨no
 | [],h=>.inr h
 | (_,x)::l,h=>by
  simp only[q8e,q66]at h
  split at h
  ·exact .inl h
  ·exact .inl h
  ·exact .inl h
  ·exact q08 h
theorem zdq {v:FV} {R:List FV→Prop} (h:zko v R):∃ c,R c∧∀ (ρ:List Value) (H:PH) (x:Value),qb6 ρ H v x→qdn ρ H c x.cells.toList:=by
 unfold zko at h
 split at h
 ·obtain⟨c,h,hc⟩:=qxu h
  have h:=qu6 h
  exact⟨_,h,fun ρ H x r=>qdn.of_RepL (hc H x r)⟩
 ·rename_i k rows
  refine⟨_,h,fun ρ H x r=>?_⟩
  have e:=(qqd (f:=.tsl k rows) rfl r).1
  rw[e]
  exact⟨x,[],rfl,r,rfl⟩
 ·rename_i k
  refine⟨_,h,fun ρ H x r=>?_⟩
  have e:=(qqd (f:=.mref k) rfl r).1
  rw[e]
  exact⟨x,[],rfl,r,rfl⟩
 ·rename_i k o
  refine⟨_,h,fun ρ H x r=>?_⟩
  have e:=(qqd (f:=.ptr k o) rfl r).1
  rw[e]
  exact⟨x,[],rfl,r,rfl⟩
 ·rename_i f c
  refine⟨_,h,fun ρ H x r=>?_⟩
  have e:=(qqd (f:=.clo f c) rfl r).1
  rw[e]
  exact⟨x,[],rfl,r,rfl⟩
 ·exact h.elim
theorem q6g {E:Env} {g:G} {fs:List Field}:∀ {parts:List (Nat×Operand)} {cs:List FV} {R:List FV→Prop},zje P E g fs parts cs R →
  ∃ cs',R cs'∧(gOn g→∀ (ρ:List Value) (H:PH) (w:World) (eval:Operand→Value) (places:Array (Nat×Nat)) (cells:Array Value),(∀ x∈parts.map (·.2),qb6 ρ H (evF (qb1 E) x) (eval x)) →
   (∀ (i:Nat) (f:Field),fs[i]? =some f→∀ ti,P.info? f.type=some ti→places[i]? =some (f.offset,ti.size))→qdn ρ H cs cells.toList →
   ∃ cells',Instr.fill (places[·]?) cells (parts.map fun(i,x)=>(i,eval x))=some cells'∧qdn ρ H cs' cells'.toList)
 | [],cs,R,h=>⟨cs,h,fun _ ρ H w eval places cells _ _ r=>⟨cells,rfl,r⟩⟩
 | (i,x)::l,cs,R,h=>by
  simp only[zje]at h
  obtain⟨f,hf,h⟩:=qdc h
  split at h
  ·rename_i ti hti
   obtain⟨v,h,hv⟩:=qbh h
   obtain⟨c,h,hc⟩:=zdq h
   split at h
   ·rename_i hsz
    have hsz:c.length=ti.size:=Nat.eq_of_beq_eq_true hsz
    obtain⟨h,hlen⟩:=qqf h
    obtain⟨cs',h,hs⟩:=q6g h
    refine⟨cs',h,fun hg ρ H w eval places cells hx hpl r=>?_⟩
    have rc:=hc ρ H _ (hv ρ H _ hg (hx x (by simp)))
    have hvs:(eval x).cells.size=ti.size:=by have:=rc.length; simp at this; omega
    have hcl:=r.length
    simp at hcl
    have hle:f.offset+(eval x).cells.size≤cells.size:=by omega
    have h1:=q8x f.offset (eval x) cells hle
    obtain⟨cells',e',r'⟩:=hs hg ρ H w eval places ((eval x).cells.zipIdx.foldl (fun(cs:Array Value) (x:Value×Nat)=>cs.setIfInBounds (f.offset+x.2) x.1) cells) (fun y hy=>hx y (by simp at hy ⊢; exact .inr hy)) hpl (by
     rw[h1,hvs,← hsz]
     exact((r.take _).append rc).append (r.drop _))
    refine⟨cells',?_,r'⟩
    simp only[List.map_cons,Instr.fill,hpl i f hf ti hti]
    rw[if_neg (by simp[hvs]; omega)]
    exact e'
   ·exact h.elim
  ·exact h.elim
theorem q75 {ρ:List Value} {H:PH}:∀ {cs:List FV} {vs:List Value},qdn ρ H cs vs→qb6 ρ H (zlq cs) (.tuple vs.toArray)
 | [],vs,r=>by
  simp only[qdn]at r
  subst r
  simp[zlq,qb6]
 | c::cs,vs,r=>by
  obtain⟨u,us,rfl,r1,rs⟩:=r
  exact⟨u,us,rfl,r1,q75 rs⟩
theorem q06 {E:Env} {g:G} {t:TypeId} {parts:List (Nat×Operand)} {R:FV→Prop} (h:q7f P E g t parts R) :
  ∃ fv,R fv∧(gOn g→∀ (ρ:List Value) (H:PH) (w:World) (eval:Operand→Value),(∀ x∈parts.map (·.2),qb6 ρ H (evF (qb1 E) x) (eval x)) →
   ∃ v,(Instr.build t (parts.map fun(i,x)=>(i,eval x)).toArray).run P w=.ok v w∧qb6 ρ H fv v):=by
 unfold q7f at h
 split at h
 ·rename_i i hi
  split at h
  ·rename_i vs hz
   obtain⟨zs,h,hzs⟩:=qsu h
   have h:=qu6 h
   split at h
   ·rename_i fs hu
    split at h
    case h_2=>exact h.elim
    rename_i hinf
    obtain⟨cs,h,hs⟩:=q6g h
    refine⟨_,h,fun hg ρ H w eval hx=>?_⟩
    obtain⟨cells',ef,rc⟩:=hs hg ρ H w eval (fs.map fun f=>(f.offset,zd7 P f.type)).toArray vs.toArray hx (fun i f hf ti hti=>by simp[hf,zd7,hti]) (by simpa[Value.cells]using qdn.of_RepL (hzs H))
    refine⟨.agg cells',?_,⟨cells'.toList,by simp,q75 rc⟩⟩
    simp only[Instr.build,Sem.run_bind,zeroValue,typeInfo,run_program,hi,hz,Result.andThen_ok,Sem.run_pure,run_underlying hu,Value.cells]
    rw[Array.mapM_eq_mapM_toList]
    simp only[Sem.run_map]
    rw[q0y hinf]
    simp only[Result.andThen_ok]
    rw[ef]
    rfl
   ·exact h.elim
  ·exact h.elim
 ·exact h.elim
theorem q3y {op:BinOp} {t:TypeId} {x y:FV} {R:FV→Prop} (h:zle P op t x y R) :
  ∃ fv,R fv∧∀ (ρ:List Value) (H:PH) (w:World) (xo yo:Operand) (a b:Value),qb6 ρ H x a→qb6 ρ H y b →
   ∃ v,(do eqGuard op t xo yo a b; binOp op t a b:Sem Value).run P w=.ok v w∧qb6 ρ H fv v:=by
 unfold zle at h
 split at h
 ·rename_i e hu
  split at h
  ·rename_i i hi
   have eqN:∀ (w:World) (p:Option Addr),(Op.equal t (.pointer p) (.pointer none)).run P w=.ok p.isNone w:=by
    intro w p
    have:∀ n,(Op.equalIn (n+1) t (.pointer p) (.pointer none)).run P w=.ok p.isNone w:=by
     intro n
     cases p<;>simp[Op.equalIn,run_underlying hu]
    exact this 9999
   have fin:∀ (b:Bool) (w:World) (xo yo:Operand) (p:Option Addr),(do eqGuard .eql t xo yo (.pointer p) (.pointer none); binOp .eql t (.pointer p) (.pointer none):Sem Value).run P w=.ok (.bool p.isNone) w ∧
     (do eqGuard .neq t xo yo (.pointer p) (.pointer none); binOp .neq t (.pointer p) (.pointer none):Sem Value).run P w=.ok (.bool (!p.isNone)) w:=by
    intro b w xo yo p
    constructor
    ·simp only[eqGuard,binOp,Sem.run_bind,eqN]; rfl
    ·simp only[eqGuard,binOp,Sem.run_bind,eqN]; rfl
   split at h
   ·split at h
    ·refine⟨_,h,fun ρ H w xo yo a b ra rb=>?_⟩
     simp only[qb6,qcn]at ra rb
     subst ra; subst rb
     exact⟨_,(fin true w xo yo none).1,qoy⟩
    ·refine⟨_,h,fun ρ H w xo yo a b ra rb=>?_⟩
     obtain⟨bl,_,rfl⟩:=ra
     simp only[qb6,qcn]at rb
     subst rb
     exact⟨_,(fin true w xo yo _).1,qoy⟩
    ·refine⟨_,h,fun ρ H w xo yo a b ra rb=>?_⟩
     obtain⟨bl,o,vs,rfl,_⟩:=ra
     simp only[qb6,qcn]at rb
     subst rb
     exact⟨_,(fin true w xo yo _).1,qoy⟩
    ·exact h.elim
   ·split at h
    ·refine⟨_,h,fun ρ H w xo yo a b ra rb=>?_⟩
     simp only[qb6,qcn]at ra rb
     subst ra; subst rb
     exact⟨_,(fin true w xo yo none).2,qoy⟩
    ·refine⟨_,h,fun ρ H w xo yo a b ra rb=>?_⟩
     obtain⟨bl,_,rfl⟩:=ra
     simp only[qb6,qcn]at rb
     subst rb
     exact⟨_,(fin true w xo yo _).2,qoy⟩
    ·refine⟨_,h,fun ρ H w xo yo a b ra rb=>?_⟩
     obtain⟨bl,o,vs,rfl,_⟩:=ra
     simp only[qb6,qcn]at rb
     subst rb
     exact⟨_,(fin true w xo yo _).2,qoy⟩
    ·rename_i k off k' off'
     split at h
     ·rename_i hk
      have hk:=Nat.eq_of_beq_eq_true hk
      split at h
      ·rename_i ho
       have ho:=Nat.eq_of_beq_eq_true ho
       subst hk; subst ho
       refine⟨_,h,fun ρ H w xo yo a b ra rb=>?_⟩
       obtain⟨b1,e1,rfl⟩:=ra
       obtain⟨b2,e2,rfl⟩:=rb
       rw[e1]at e2
       cases e2
       refine⟨.bool false,?_,qoy⟩
       simp only[eqGuard,Sem.run_bind]
       exact Lib.run_neq_ptr_same w _ hu hi
      ·exact h.elim
     ·exact h.elim
    ·exact h.elim
   ·exact h.elim
  ·exact h.elim
 ·exact h.elim
theorem qy8 {src dst:TypeId} {R:Prop} (h:u8T P src dst R):∃ e,P.underlying src=some (.slice e)∧P.underlying e=some (.int .u8)∧P.underlying dst=some .string∧R:=by
 unfold u8T at h
 split at h
 ·rename_i e he
  split at h
  ·rename_i h8
   split at h
   ·rename_i hs; exact⟨e,he,h8,hs,h⟩
   ·exact h.elim
  ·exact h.elim
 ·exact h.elim
theorem zgb {l:List UInt8} {j:Nat} {x:UInt8} (h:l[j]? =some x):(qdr l)[j]? =some [.int .u8 x.toNat]:=by simp[qdr,h]
theorem q6j {H:PH} {w:World} (s:SatH H w) {b z o:Nat} {l:List UInt8} (r:qpw H b z o (qdr l)):∀ j (hj:j<l.length),w.cell? ((⟨b,o,none⟩:Addr).add j)=some (.int .u8 (l[j].toNat:Int)):=by
 intro j hj
 obtain⟨hz,vs,q,c⟩:=r.get (zgb (List.getElem?_eq_getElem hj))
 simp at hz
 subst hz
 simp only[qd1,qcn]at q
 obtain⟨v,_,rfl,rfl,rfl⟩:=q
 have:=c 0 _ rfl
 rw[Addr.add_lit]
 simpa using(s _ _ _ this).1
theorem zgz {src dst:TypeId} {n:Nat} {t:TypeId} {R:Prop} (h:zml P src dst n t R) :
  R∧∀ (w:World) (b:Nat),w.shape? b=some (t,n)→(convert src dst (.pointer (some ⟨b,0,none⟩))).run P w=.ok (.pointer (some ⟨b,0,none⟩)) w:=by
 unfold zml at h
 split at h
 ·rename_i u hsrc
  split at h
  ·rename_i hdst
   split at h
   ·rename_i i hi
    exact⟨h.2,fun w b hsh=>Lib.run_to_unsafe w ⟨b,0,none⟩ hsrc hdst hi h.1.1 hsh h.1.2⟩
   ·exact h.elim
  ·exact h.elim
 ·rename_i hsrc
  split at h
  ·rename_i u hdst
   split at h
   ·rename_i i hi
    exact⟨h.2,fun w b hsh=>Lib.run_from_unsafe w ⟨b,0,none⟩ hsrc hdst hi hsh h.1⟩
   ·exact h.elim
  ·exact h.elim
 ·exact h.elim
theorem qxz {g:G} {src dst:TypeId} {lo:List AObj} {x:FV} {R:FV→Prop} (h:q4d P g src dst lo x R) :
  ∃ fv,R fv∧(gOn g→∀ (bs:Base) (ρ:List Value) (H:PH) (w:World) (v:Value),SatW bs ρ H lo w→qb6 ρ H x v→∃ u,(convert src dst v).run P w=.ok u w∧qb6 ρ H fv u):=by
 have rowsCase:∀ (e:TypeId) (l:List UInt8),P.underlying src=some (.slice e)→P.underlying e=some (.int .u8)→P.underlying dst=some .string→∀ (H:PH) (w:World) (v:Value),SatH H w→qcn H (.sl (qdr l)) v →
   (convert src dst v).run P w=.ok (.string ⟨l.toArray⟩) w:=by
  intro e l hs he hd H w v s rv
  simp only[qcn]at rv
  rcases rv with ⟨h0,rfl|⟨a',cap',rfl⟩⟩|⟨b,o,z,cap,rfl,hc,rr⟩
  ·have:l=[]:=by simpa[qdr]using h0
   subst this
   exact run_convert_bytes_nil w src e hs he 0 0 dst hd
  ·have:l=[]:=by simpa[qdr]using h0
   subst this
   exact run_convert_bytes_back (P:=P) w src dst e a' cap' [] hs he hd (fun j hj=>absurd hj (Nat.not_lt_zero _))
  ·have:=run_convert_bytes_back (P:=P) w src dst e ⟨b,o,none⟩ cap l hs he hd (q6j s rr)
   simpa[qdr]using this
 unfold q4d at h
 split at h
 ·rename_i rows
  obtain⟨e,hs,he,hd,l,hl,h⟩:=qy8 h
  refine⟨_,h,fun hg bs ρ H w v s rv=>⟨_,rowsCase e l hs he hd H w v s.sath ?_,qv2⟩⟩
  rw[← qnw hl hg]; exact rv
 ·rename_i k rows
  obtain⟨e,hs,he,hd,l,hl,h⟩:=qy8 h
  refine⟨_,h,fun hg bs ρ H w v s rv=>⟨_,rowsCase e l hs he hd H w v s.sath ?_,qv2⟩⟩
  rw[← qnw hl hg]; exact rv.2
 ·obtain⟨e,hs,he,hd,h⟩:=qy8 h
  refine⟨_,h,fun hg bs ρ H w v s rv=>⟨_,rowsCase e [] hs he hd H w v s.sath ?_,qv2⟩⟩
  simp only[qb6,qcn]at rv
  simp only[qcn]
  exact .inl ⟨rfl,.inl rv⟩
 ·rename_i k off n cap
  obtain⟨e,hs,he,hd,h⟩:=qy8 h
  obtain⟨ob,hob,h⟩:=qdc h
  split at h
  ·rename_i bt cells
   obtain⟨h,hoff⟩:=qm4 h
   obtain⟨h,hn⟩:=qmz h
   obtain⟨ps,h,hps⟩:=qq5 h
   obtain⟨l,hl,h⟩:=h
   refine⟨_,h,fun hg bs ρ H w v s rv=>?_⟩
   obtain⟨b,hb,rfl⟩:=rv
   obtain⟨b',vs,e',hg',hcs,_⟩:=s.objs k _ _ hob hb
   cases e'
   have hl:=qnw hl hg
   have rl:=hps _ _ _ ((hcs.drop off).take n)
   rw[hl]at rl
   have hlen:=rl.length
   have hvl:=hcs.length
   simp at hlen hn
   have hnl:n=l.length:=by omega
   subst hnl
   refine⟨_,run_convert_bytes_back (P:=P) w src dst e ⟨b,off,none⟩ cap l hs he hd (fun j hj=>?_),qv2⟩
   obtain⟨u,hu,ru⟩:=rl.get (i:=j) (c:=.int .u8 (l[j].toNat:Int)) (by simp[hj])
   simp only[qcn]at ru
   subst ru
   rw[Addr.add_lit]
   rw[List.getElem?_take,if_pos hj]at hu
   exact qvr hg' off j _ hu
  ·exact h.elim
 ·rename_i k off
  split at h
  ·rename_i h0
   have h0:=Nat.eq_of_beq_eq_true h0
   subst h0
   obtain⟨ob,hob,h⟩:=qdc h
   split at h
   ·rename_i bt cells
    obtain⟨h,hs⟩:=zgz h
    refine⟨_,h,fun hg bs ρ H w v s rv=>?_⟩
    obtain⟨b,hb,rfl⟩:=rv
    obtain⟨b',vs,e',hg',hcs,_⟩:=s.objs k _ _ hob hb
    cases e'
    have hvl:=hcs.length
    have hsh:w.shape? b=some (bt,cells.length):=by simp[World.shape?,hg',hvl]
    exact⟨_,hs w b hsh,b,hb,rfl⟩
   ·exact h.elim
  ·exact h.elim
 ·rename_i k n
  obtain⟨e,hs,he,hd,h⟩:=qy8 h
  obtain⟨ob,hob,h⟩:=qdc h
  split at h
  ·rename_i l
   refine⟨_,h.2,fun hg bs ρ H w v s rv=>?_⟩
   have hn:=qnw h.1 hg
   obtain⟨b,cs,e',cap,lo',hi,rfl,hg',_,h2,_⟩:=s.objs k _ _ hob rv.1
   refine⟨_,run_convert_bytes_back (P:=P) w src dst e ⟨b,0,none⟩ cap l hs he hd (fun j hj=>?_),qv2⟩
   rw[Addr.add_lit]
   simp only[World.cell?,hg',Nat.zero_add]
   exact h2 j _ (List.getElem?_eq_getElem hj)
  ·exact h.elim
 ·obtain⟨fv,h,hs⟩:=q7t h
  exact⟨fv,h,fun hg bs ρ H w v s rv=>hs ρ H w v rv⟩
end
end Ax
end
section
namespace Ax
open Go
section
variable {P:Program}
theorem qzz {bs:Base} {ρ:List Value} {H H':PH} {fv:FV} {lo:List AObj} {v:Value} {w w':World} (s:SatW bs ρ H lo w) (c:Calm H w H' w') (r:qb6 ρ H' fv v) :
  qsw bs ρ H fv lo v w':=⟨ρ,H',List.prefix_refl _,c.le,s.calm c,r⟩
theorem qcs {bs:Base} {ρ:List Value} {H:PH} {fv:FV} {lo:List AObj} {v:Value} {w:World} {x:Sem Value} (s:SatW bs ρ H lo w) (hr:x.run P w=.ok v w) (r:qb6 ρ H fv v) :
  zbo P bs ρ H fv lo ((do pure (.value (← x)):Sem Next).run P w):=by
 simp only[Sem.run_bind,hr,Result.andThen_ok,Sem.run_pure]
 exact qgv s r
theorem qwh {bs:Base} {ρ:List Value} {H:PH} {lo:List AObj} {r:PV} {w:World} {x:Result Next} (s:SatW bs ρ H lo w) (h:qzb P H w r x):zbo P bs ρ H (.p r) lo x:=by
 unfold qzb at h
 split at h
 ·obtain⟨H',c,rv⟩:=h
  exact qzz s c rv
 ·obtain⟨rfl,hcall⟩:=h
  exact hcall.mono fun en w'' ⟨v,H',e,c,rv⟩=>⟨v,e,qzz s c rv⟩
 ·exact h.elim
theorem q6a:∀ {c:FV} {R:List PV→Prop},zfx c R→∃ ps,R ps∧∀ (ρ:List Value) (H:PH) (vs:List Value),qb6 ρ H c (.tuple vs.toArray)→qd1 H ps vs
 | .cap0,R,h=>⟨[],h,fun ρ H vs r=>by
   simp only[qb6,Value.tuple.injEq]at r
   simpa[qd1]using r⟩
 | .cap a b,R,h=>by
  simp only[zfx]at h
  obtain⟨p,h,hp⟩:=qo2 h
  obtain⟨ps,h,hps⟩:=q6a h
  refine⟨_,h,fun ρ H vs r=>?_⟩
  obtain⟨u,us,e,ra,rb⟩:=r
  have e:vs=u::us:=by simpa using e
  subst e
  simp only[qd1]
  exact⟨u,us,rfl,hp _ _ _ ra,hps _ _ _ rb⟩
 | .top,_,h|.p _,_,h|.opt _ _,_,h|.tsl _ _,_,h|.ptr _ _,_,h|.hptr _,_,h|.bself _,_,h|.bsl _ _ _ _,_,h|.vsl _ _,_,h|.eptr _ _ _ _,_,h|.mref _,_,h|.pair _ _,_,h|.stmp _,_,h|.clo _ _,_,h|.fagg _,_,h|.nxt _ _ _,_,h=>by
  simp[zfx]at h
theorem zam {dst:Option Tmp} {op:Op} {ty:TypeId} {pos:String} {after:Array Edge} {guard:Option (Nat×Bool)} {E:Env} {g:G} {R:FV→Prop} (h:zf4 P op E g R):∃ fv,R fv∧∀ lo,qjb P ⟨dst,op,ty,pos,after,guard⟩ (qb1 E) lo g fv lo:=by
 unfold zf4 at h
 split at h
 ·rename_i f xs
  split at h
  ·refine⟨_,h,fun lo hg bs ρ H w eval s hx=>?_⟩
   exact qcs s (v:=.func (.func f) #[] #[]) (by simp[Instr.makeFunc]) (by simp[qb6,qcn])
  ·rename_i x xs
   have h0:=qpx h; clear h; obtain⟨vs,h,hvs⟩:=h0
   refine⟨_,h,fun lo hg bs ρ H w eval s hx=>?_⟩
   have rl:=hvs ρ H eval hg (fun y hy=>hx y (by simpa[Op.operands]using hy))
   exact qcs s (v:=.func (.func f) #[] ((x::xs).map eval).toArray) (by simp[Instr.makeFunc]) ⟨_,rfl,q75 rl⟩
 ·rename_i t xs ts
  have h0:=qbh h; clear h; obtain⟨fv,h,hfv⟩:=h0
  have h0:=qpx h; clear h; obtain⟨vs,h,hvs⟩:=h0
  have h0:=qq5 h; clear h; obtain⟨ps,h,hps⟩:=h0
  split at h
  ·rename_i f
   obtain⟨r,hc,h⟩:=h
   refine⟨_,h,fun lo hg bs ρ H w eval s hx=>?_⟩
   have hc:=qnw hc hg
   have rl:=hps ρ H _ (hvs ρ H eval hg (fun y hy=>hx y (by simp[Op.operands,Call.operands,hy])))
   have:=hc H w _ s.sath rl
   have hf:(eval (.tmp t))=.func (.func f) #[] #[]:=by
    have:=hfv ρ H _ hg (hx (.tmp t) (by simp[Op.operands,Call.operands]))
    simpa[qb6,qcn]using this
   simp only[execOp,resolve,Deferred.ofValue,invoke,hf,Sem.run_bind,Sem.run_pure,Result.andThen_ok,List.map_toArray,Array.empty_append,Array.append_empty]
   exact qwh s this
  ·rename_i f c
   have h0:=q6a h; clear h; obtain⟨cs,h,hcs⟩:=h0
   obtain⟨r,hc,h⟩:=h
   refine⟨_,h,fun lo hg bs ρ H w eval s hx=>?_⟩
   have hc:=qnw hc hg
   have rl:=hps ρ H _ (hvs ρ H eval hg (fun y hy=>hx y (by simp[Op.operands,Call.operands,hy])))
   obtain⟨us,hf,rc⟩:=hfv ρ H _ hg (hx (.tmp t) (by simp[Op.operands,Call.operands]))
   have:=hc H w _ s.sath (rl.append (hcs _ _ _ rc))
   simp only[execOp,resolve,Deferred.ofValue,invoke,hf,Sem.run_bind,Sem.run_pure,Result.andThen_ok,List.map_toArray,List.append_toArray]
   exact qwh s this
  ·exact h.elim
 ·rename_i rv m xs ts
  have h0:=qbh h; clear h; obtain⟨fv,h,hfv⟩:=h0
  have h0:=qpx h; clear h; obtain⟨vs,h,hvs⟩:=h0
  have h0:=qq5 h; clear h; obtain⟨ps,h,hps⟩:=h0
  split at h
  ·rename_i t v
   obtain⟨f,r,hc,h⟩:=h
   refine⟨_,h,fun lo hg bs ρ H w eval s hx=>?_⟩
   obtain⟨hmt,hc⟩:=qnw hc hg
   have rl:=hps ρ H _ (hvs ρ H eval hg (fun y hy=>hx y (by simp[Op.operands,Call.operands,hy])))
   have rr:=hfv ρ H _ hg (hx rv (by simp[Op.operands,Call.operands]))
   simp only[qb6,qcn]at rr
   obtain⟨u,hu,ru⟩:=rr
   have:=hc H w (u::xs.map eval) s.sath (by simp only[qd1]; exact⟨u,_,rfl,ru,rl⟩)
   have hme:=hmt u w
   simp only[execOp,resolve,invoke,hu,Sem.run_bind,Sem.run_pure,Result.andThen_ok,List.map_toArray,callMethod]
   have e:List.take xs.length (xs.map eval)=xs.map eval:=List.take_of_length_le (by simp)
   simp[hme,e]
   exact qwh s this
  ·exact h.elim
 ·exact h.elim
theorem q4t {o:Oper} {E:Env} {g:G} {R:FV→Prop} (h:zie P o.op E g R):∃ fv,R fv∧∀ lo,qjb P o (qb1 E) lo g fv lo:=by
 obtain⟨dst,op,ty,pos,after,guard⟩:=o
 simp only at h
 unfold zie at h
 split at h
 ·
  rename_i x
  cases g with
  | none=>
   simp only[q66]at h
   exact⟨_,h,fun lo hg bs ρ H w eval s hx=>qgv s (hx x (by simp[Op.operands]))⟩
  | some g=>
   obtain⟨x',h,hx'⟩:=qbh h
   exact⟨_,h,fun lo hg bs ρ H w eval s hx=>qgv s (hx' ρ H _ hg (hx x (by simp[Op.operands])))⟩
 ·rename_i x
  cases g with
  | none=>
   simp only[q66]at h
   exact⟨_,h,fun lo hg bs ρ H w eval s hx=>qgv s (hx x (by simp[Op.operands]))⟩
  | some g=>
   obtain⟨x',h,hx'⟩:=qbh h
   exact⟨_,h,fun lo hg bs ρ H w eval s hx=>qgv s (hx' ρ H _ hg (hx x (by simp[Op.operands])))⟩
 ·
  rename_i c a b
  obtain⟨c',h,hc⟩:=qbh h
  split at h
  ·rename_i cb
   have key:∃ fv,R fv∧(gOn g→∀ (ρ:List Value) (H:PH) (va vb:Value),qb6 ρ H (evF (qb1 E) a) va→qb6 ρ H (evF (qb1 E) b) vb→qb6 ρ H fv (if cb then va else vb)):=by
    have fin:∀ (ga gb:Bool) (a' b':FV),Str (some ga) (evF (qb1 E) a) a'→Str (some gb) (evF (qb1 E) b) b'→(gOn g→cb=true→ga=true)→(gOn g→cb=false→gb=true) →
      (match a',b' with
       | .p (.bool a),.p (.bool b)=>R (.p (.bool (bif cb then a else b)))
       | _,_=>False)→∃ fv,R fv∧(gOn g→∀ (ρ:List Value) (H:PH) (va vb:Value),qb6 ρ H (evF (qb1 E) a) va→qb6 ρ H (evF (qb1 E) b) vb→qb6 ρ H fv (if cb then va else vb)):=by
     intro ga gb a' b' ha hb h1 h2 h
     split at h
     ·rename_i ab bb
      refine⟨_,h,fun hg ρ H va vb ra rb=>?_⟩
      cases cb with
      | true=>
       have:=qp2 (ha ρ H _ (h1 hg rfl) ra)
       simp[this,qb6,qcn]
      | false=>
       have:=qp2 (hb ρ H _ (h2 hg rfl) rb)
       simp[this,qb6,qcn]
     ·exact h.elim
    split at h
    ·obtain⟨a',h,ha⟩:=qbh h
     obtain⟨b',h,hb⟩:=qbh h
     exact fin _ _ a' b' ha hb (fun _ h=>h) (fun _ h=>by simp[h]) h
    ·obtain⟨a',h,ha⟩:=qbh h
     obtain⟨b',h,hb⟩:=qbh h
     exact fin _ _ a' b' ha hb (fun hg h=>by simp only[gOn]at hg; simp[hg,h]) (fun hg h=>by simp only[gOn]at hg; simp[hg,h]) h
   obtain⟨fv,h,hs⟩:=key
   refine⟨_,h,fun lo hg bs ρ H w eval s hx=>?_⟩
   have rc:=qp2 (hc ρ H _ hg (hx c (by simp[Op.operands])))
   simp only[execOp,rc,asBool,Sem.run_bind,Sem.run_pure,Result.andThen_ok]
   exact qgv s (hs hg ρ H _ _ (hx a (by simp[Op.operands])) (hx b (by simp[Op.operands])))
  ·exact h.elim
 ·rename_i t x f
  obtain⟨x',h,hx'⟩:=qbh h
  obtain⟨fv,h,hs⟩:=zb1 h
  refine⟨_,h,fun lo hg bs ρ H w eval s hx=>?_⟩
  obtain⟨v,hr,rv⟩:=hs ρ H w _ (hx' ρ H _ hg (hx x (by simp[Op.operands])))
  exact qcs s hr rv
 ·rename_i t x f
  obtain⟨x',h,hx'⟩:=qbh h
  obtain⟨fv,h,hs⟩:=zd2 h
  refine⟨_,h,fun lo hg bs ρ H w eval s hx=>?_⟩
  obtain⟨v,hr,rv⟩:=hs ρ H w _ (hx' ρ H _ hg (hx x (by simp[Op.operands])))
  exact qcs s hr rv
 ·rename_i t x i
  obtain⟨x',h,hx'⟩:=qbh h
  obtain⟨i',h,hi'⟩:=qbh h
  obtain⟨fv,h,hs⟩:=q3p h
  refine⟨_,h,fun lo hg bs ρ H w eval s hx=>?_⟩
  obtain⟨v,hr,rv⟩:=hs hg ρ H w _ _ (hx' ρ H _ hg (hx x (by simp[Op.operands]))) (hi' ρ H _ hg (hx i (by simp[Op.operands])))
  exact qcs s hr rv
 ·rename_i t x i
  obtain⟨x',h,hx'⟩:=qbh h
  obtain⟨i',h,hi'⟩:=qbh h
  obtain⟨fv,h,hs⟩:=zb2 h
  refine⟨_,h,fun lo hg bs ρ H w eval s hx=>?_⟩
  obtain⟨v,hr,rv⟩:=hs hg ρ H w _ _ (hx' ρ H _ hg (hx x (by simp[Op.operands]))) (hi' ρ H _ hg (hx i (by simp[Op.operands])))
  exact qcs s hr rv
 ·rename_i op t x y t'
  obtain⟨x',h,hx'⟩:=qbh h
  obtain⟨y',h,hy'⟩:=qbh h
  have key:∃ fv,R fv∧(gOn g→∀ (ρ:List Value) (H:PH) (w:World) (xo yo:Operand) (a b:Value),qb6 ρ H x' a→qb6 ρ H y' b →
    ∃ v,(do eqGuard op t xo yo a b; binOp op t a b:Sem Value).run P w=.ok v w∧qb6 ρ H fv v):=by
   split at h
   ·obtain⟨fv,h,hs⟩:=q3y h; exact⟨fv,h,fun _=>hs⟩
   ·obtain⟨fv,h,hs⟩:=q3y h; exact⟨fv,h,fun _=>hs⟩
   ·obtain⟨fv,h,hs⟩:=q3y h; exact⟨fv,h,fun _=>hs⟩
   ·exact zgj h
  obtain⟨fv,h,hs⟩:=key
  refine⟨_,h,fun lo hg bs ρ H w eval s hx=>?_⟩
  obtain⟨v,hr,rv⟩:=hs hg ρ H w x y _ _ (hx' ρ H _ hg (hx x (by simp[Op.operands]))) (hy' ρ H _ hg (hx y (by simp[Op.operands])))
  exact qcs s hr rv
 ·rename_i t x
  obtain⟨x',h,hx'⟩:=qbh h
  split at h
  ·rename_i b
   refine⟨_,h,fun lo hg bs ρ H w eval s hx=>?_⟩
   have rx:=qp2 (hx' ρ H _ hg (hx x (by simp[Op.operands])))
   exact qcs s (v:=.bool !b) (by simp[rx,Op.unary]) qoy
  ·exact h.elim
 ·rename_i t x
  obtain⟨x',h,hx'⟩:=qbh h
  split at h
  ·rename_i k n
   refine⟨_,h,fun lo hg bs ρ H w eval s hx=>?_⟩
   have rx:=qik (hx' ρ H _ hg (hx x (by simp[Op.operands])))
   exact qcs s (v:=.int k (k.wrap (0 - n))) (by simp[rx,Op.unary,Op.intArith]) qn7
  ·exact h.elim
 ·rename_i x
  obtain⟨x',h,hx'⟩:=qbh h
  split at h
  ·rename_i k off
   refine⟨_,h,fun lo hg bs ρ H w eval s hx=>?_⟩
   have rx:=hx' ρ H _ hg (hx x (by simp[Op.operands]))
   obtain⟨b,hb,e⟩:=rx
   simp only[execOp,e]
   exact qgv s ⟨b,hb,rfl⟩
  ·rename_i row
   refine⟨_,h,fun lo hg bs ρ H w eval s hx=>?_⟩
   have rx:=hx' ρ H _ hg (hx x (by simp[Op.operands]))
   obtain⟨b,o,vs,e,q,c⟩:=rx
   simp only[execOp,e]
   exact qgv s ⟨b,o,vs,rfl,q,c⟩
  ·rename_i k z i off
   refine⟨_,h,fun lo hg bs ρ H w eval s hx=>?_⟩
   have rx:=hx' ρ H _ hg (hx x (by simp[Op.operands]))
   obtain⟨b,n,cap,hb,e⟩:=rx
   simp only[execOp,e]
   exact qgv s ⟨b,n,cap,hb,rfl⟩
  ·exact h.elim
 ·rename_i t x lo hi mx
  obtain⟨x',h,hx'⟩:=qbh h
  obtain⟨fv,h,hs⟩:=zbd h
  refine⟨_,h,fun lo' hg bs ρ H w eval s hx=>?_⟩
  obtain⟨hmx,u,hr,ru⟩:=hs ρ H w eval _ hg (hx' ρ H _ hg (hx x (by simp[Op.operands]))) (fun y hy=>hx y (by simp only[Op.operands]; simp only[Array.mem_append]; exact .inl (.inl (.inr hy)))) (fun y hy=>hx y (by simp only[Op.operands]; simp only[Array.mem_append]; exact .inl (.inr hy)))
  subst hmx
  exact qcs s hr ru
 ·rename_i t n parts
  obtain⟨fv,h,hs⟩:=q1x h
  refine⟨_,h,fun lo' hg bs ρ H w eval s hx=>?_⟩
  obtain⟨v,w',H',hr,c,rv⟩:=hs hg ρ H w eval s.sath (fun x hx'=>hx x (by simpa[Op.operands]using hx'))
  simp only[execOp,List.map_toArray,Sem.run_bind,hr,Result.andThen_ok,Sem.run_pure]
  exact qzz s c rv
 ·rename_i t parts
  have key:∃ fv,R fv∧(gOn g→∀ (ρ:List Value) (H:PH) (w:World) (eval:Operand→Value),(∀ x∈parts.map (·.2),qb6 ρ H (evF (qb1 E) x) (eval x)) →
   ∃ v,(Instr.build t (parts.map fun(i,x)=>(i,eval x)).toArray).run P w=.ok v w∧qb6 ρ H fv v):=by
   rcases q08 h with h|h
   ·exact q06 h
   ·exact zbz h
  clear h
  obtain⟨fv,h,hs⟩:=key
  refine⟨_,h,fun lo' hg bs ρ H w eval s hx=>?_⟩
  obtain⟨v,hr,rv⟩:=hs hg ρ H w eval (fun x hx'=>hx x (by simpa[Op.operands]using hx'))
  simp only[execOp,List.map_toArray]
  exact qcs s hr rv
 ·rename_i x i
  obtain⟨x',h,hx'⟩:=qbh h
  split at h
  ·rename_i vs
   obtain⟨c,hc,h⟩:=qdc h
   refine⟨_,h,fun lo hg bs ρ H w eval s hx=>?_⟩
   have rx:=hx' ρ H _ hg (hx x (by simp[Op.operands]))
   simp only[qb6,qcn]at rx
   obtain⟨us,e,q⟩:=rx
   obtain⟨v,hv,rv⟩:=q.get hc
   exact qcs s (v:=v) (by simp[e,Instr.extract,hv]) rv
  ·rename_i a b
   split at h
   ·refine⟨_,h,fun lo hg bs ρ H w eval s hx=>?_⟩
    obtain⟨u,v,e,ru,rv⟩:=hx' ρ H _ hg (hx x (by simp[Op.operands]))
    exact qcs s (v:=u) (by simp[e,Instr.extract]) ru
   ·refine⟨_,h,fun lo hg bs ρ H w eval s hx=>?_⟩
    obtain⟨u,v,e,ru,rv⟩:=hx' ρ H _ hg (hx x (by simp[Op.operands]))
    exact qcs s (v:=v) (by simp[e,Instr.extract]) rv
   ·exact h.elim
  ·rename_i ok a b
   have cut:∀ {ρ:List Value} {H:PH} {u:Value},ok=true→qb6 ρ H (.nxt ok a b) u→∃ y z,u=.tuple #[.bool true,y,z]∧qcn H a y∧qcn H b z:=by
    intro ρ H u hok r
    simp only[qb6,hok,if_true]at r
    exact r
   split at h
   ·refine⟨_,h,fun lo hg bs ρ H w eval s hx=>?_⟩
    have r:=hx' ρ H _ hg (hx x (by simp[Op.operands]))
    cases ok with
    | true=>
     obtain⟨u,v,e,_,_⟩:=cut rfl r
     exact qcs s (v:=.bool true) (by simp[e,Instr.extract]) qoy
    | false=>
     simp only[qb6,Bool.false_eq_true,if_false]at r
     exact qcs s (v:=.bool false) (by simp[r,Instr.extract]) qoy
   ·refine⟨_,h.2,fun lo hg bs ρ H w eval s hx=>?_⟩
    obtain⟨u,v,e,ru,rv⟩:=cut (qnw h.1 hg) (hx' ρ H _ hg (hx x (by simp[Op.operands])))
    exact qcs s (v:=u) (by simp[e,Instr.extract]) ru
   ·refine⟨_,h.2,fun lo hg bs ρ H w eval s hx=>?_⟩
    obtain⟨u,v,e,ru,rv⟩:=cut (qnw h.1 hg) (hx' ρ H _ hg (hx x (by simp[Op.operands])))
    exact qcs s (v:=v) (by simp[e,Instr.extract]) rv
   ·exact h.elim
  ·exact h.elim
 ·rename_i t x
  obtain⟨x',h,hx'⟩:=qbh h
  obtain⟨p,h,hp⟩:=qo2 h
  split at h
  ·exact h.elim
  ·rename_i d hd hu
   refine⟨_,h,fun lo hg bs ρ H w eval s hx=>?_⟩
   have rx:=hp ρ H _ (hx' ρ H _ hg (hx x (by simp[Op.operands])))
   refine qcs s (v:=.iface t (eval x)) ?_ (by simp only[qb6,qcn]; exact⟨_,rfl,rx⟩)
   simp only[Instr.makeInterface,Sem.run_bind,run_underlying hu,Result.andThen_ok]
   rfl
  ·exact h.elim
 ·rename_i x t
  obtain⟨x',h,hx'⟩:=qbh h
  obtain⟨fv,h,hs⟩:=zhn h
  refine⟨_,h,fun lo hg bs ρ H w eval s hx=>?_⟩
  obtain⟨v,hr,rv⟩:=hs ρ H w ty _ (hx' ρ H _ hg (hx x (by simp[Op.operands,Call.operands])))
  simp only[execOp,resolve,invoke,builtin,Sem.run_bind,Sem.run_pure,Result.andThen_ok,List.map_toArray,List.map_cons,List.map_nil,hr]
  exact qgv s rv
 ·rename_i f xs ts
  obtain⟨vs,h,hvs⟩:=qpx h
  obtain⟨ps,h,hps⟩:=qq5 h
  obtain⟨r,hc,h⟩:=h
  refine⟨_,h,fun lo hg bs ρ H w eval s hx=>?_⟩
  have hc:=qnw hc hg
  have rl:=hps ρ H _ (hvs ρ H eval hg (fun y hy=>hx y (by simp[Op.operands,Call.operands,hy])))
  have:=hc H w _ s.sath rl
  have hf:(eval (.func f))=.func (.func f) #[] #[]:=by
   have:=hx (.func f) (by simp[Op.operands,Call.operands])
   simpa[evF,qb6,qcn]using this
  simp only[execOp,resolve,Deferred.ofValue,invoke,hf,Sem.run_bind,Sem.run_pure,Result.andThen_ok,List.map_toArray,Array.empty_append,Array.append_empty]
  exact qwh s this
 ·obtain⟨fv,h,hs⟩:=zam (dst:=dst) (ty:=ty) (pos:=pos) (after:=after) (guard:=guard) h
  exact⟨fv,h,hs⟩
theorem zal {H:PH} {w:World} (s:SatH H w) {b o:Nat} {v:Value} (h:H b o=some v):w.cell? ⟨b,o,none⟩=some v:=(s.cell b o v h).1
theorem qpq {w:World} {t:TypeId} {d:TypeDesc} {i:TypeInfo} (hd:P.underlying t=some d) (hi:P.info? t=some i) {b o:Nat} {vs:List Value}
  (hc:∀ j v,vs[j]? =some v→w.cell? ⟨b,o+j,none⟩=some v) (hn:i.size≤vs.length) (hagg:zkf d=true) :
  (Instr.loadAt t (.pointer (some ⟨b,o,none⟩))).run P w=.ok (.agg (vs.take i.size).toArray) w:=by
 have hl:(loadCells ⟨b,o,none⟩ (vs.take i.size).length).run P w=.ok (vs.take i.size).toArray w:=
  run_loadCells_list (P:=P) w ⟨b,o,none⟩ (vs.take i.size) (fun j v hv=>by
   rw[Addr.add_lit]
   rw[List.getElem?_take]at hv
   split at hv
   ·exact hc j v hv
   ·cases hv)
 rw[List.length_take,Nat.min_eq_left hn]at hl
 simp[Instr.loadAt,Instr.sureAddr,loadVar,qsn hd,hagg,Go.sizeOf,typeInfo,hi,hl]
theorem qnt {w:World} {t:TypeId} {d:TypeDesc} (hd:P.underlying t=some d) {b o:Nat} {v:Value}
  (hc:w.cell? ⟨b,o,none⟩=some v) (hagg:zkf d=false):(Instr.loadAt t (.pointer (some ⟨b,o,none⟩))).run P w=.ok v w:=by
 simp[Instr.loadAt,Instr.sureAddr,loadVar,qsn hd,hagg,hc]
theorem q0w {t:TypeId} {lo:List AObj} {x':FV} {R:FV→Prop} (h:qvk P t lo x' R) :
  ∃ fv,R fv∧∀ (bs:Base) (ρ:List Value) (H:PH) (w:World) (v:Value),SatW bs ρ H lo w→qb6 ρ H x' v→∃ a u,v=.pointer (some a)∧(Instr.loadAt t v).run P w=.ok u w∧qb6 ρ H fv u:=by
 unfold qvk at h
 split at h
 ·rename_i k off
  obtain⟨ob,hob,h⟩:=qdc h
  split at h
  ·rename_i bt cells
   obtain⟨h,hoff⟩:=qm4 h
   obtain⟨d,i,hd,hi,h⟩:=qjw h
   split at h
   ·rename_i hagg
    obtain⟨h,hn⟩:=qmz h
    obtain⟨ps,h,hps⟩:=qq5 h
    refine⟨_,h,fun bs ρ H w v s hx=>?_⟩
    obtain⟨b,hb,rfl⟩:=hx
    obtain⟨b',vs,e',hg',hcs,_⟩:=s.objs k _ _ hob hb
    cases e'
    refine⟨_,_,rfl,qpq hd hi (qvr hg' off) (by rw[List.length_drop]at hn ⊢; rw[hcs.length]; exact hn) hagg,?_⟩
    simp only[qb6,qcn]
    exact⟨_,rfl,hps _ _ _ ((hcs.drop off).take _)⟩
   ·rename_i hagg
    split at h
    ·rename_i c r hc
     refine⟨_,h,fun bs ρ H w v s hx=>?_⟩
     obtain⟨b,hb,rfl⟩:=hx
     obtain⟨b',vs,e',hg',hcs,_⟩:=s.objs k _ _ hob hb
     cases e'
     have hd2:=hcs.drop off
     rw[hc]at hd2
     obtain⟨v,vs',e2,rv,_⟩:=hd2
     have:=qvr hg' off 0 v (by rw[e2]; simp)
     exact⟨_,_,rfl,qnt hd (by simpa using this) hagg,rv⟩
    ·exact h.elim
  ·exact h.elim
 ·rename_i row
  obtain⟨d,i,hd,hi,h⟩:=qjw h
  split at h
  ·rename_i hagg
   obtain⟨h,hn⟩:=qmz h
   refine⟨_,h,fun bs ρ H w v s hx=>?_⟩
   obtain⟨b,o',vs,rfl,q,c⟩:=hx
   refine⟨_,_,rfl,qpq hd hi (fun j v hv=>zal s.sath (c j v hv)) (by rw[q.length]; exact hn) hagg,?_⟩
   simp only[qb6,qcn]
   exact⟨_,rfl,q.take _⟩
  ·rename_i hagg
   split at h
   ·rename_i c0 r hc
    refine⟨_,h,fun bs ρ H w v s hx=>?_⟩
    obtain⟨b,o',vs,rfl,q,c⟩:=hx
    simp only[qd1]at q
    obtain⟨u,vs',e2,rv,_⟩:=q
    have:=zal s.sath (c 0 u (by rw[e2]; simp))
    exact⟨_,_,rfl,qnt hd (by simpa using this) hagg,rv⟩
   ·exact h.elim
 ·exact h.elim
theorem zbq {o:Oper} {t:TypeId} {x:Operand} (ho:o.op=.load t x) {E:Env} {g:G} {lo:List AObj} {R:FV→Prop} (h:evS E g x fun x=>qvk P t lo x R) :
  ∃ fv,R fv∧qjb P o (qb1 E) lo g fv lo:=by
 obtain⟨x',h,hx'⟩:=qbh h
 obtain⟨fv,h,hs⟩:=q0w h
 refine⟨_,h,fun hg bs ρ H w eval s hx=>?_⟩
 obtain⟨a,u,_,hr,ru⟩:=hs bs ρ H w _ s (hx' ρ H _ hg (hx x (by simp[ho,Op.operands])))
 simp only[execOp,ho]
 exact qcs s hr ru
theorem zbt {o:Oper} {sr d:TypeId} {x:Operand} (ho:o.op=.convert sr d x) {E:Env} {g:G} {lo:List AObj} {R:FV→Prop} (h:evS E g x fun x=>q4d P g sr d lo x R) :
  ∃ fv,R fv∧qjb P o (qb1 E) lo g fv lo:=by
 obtain⟨x',h,hx'⟩:=qbh h
 obtain⟨fv,h,hs⟩:=qxz h
 refine⟨_,h,fun hg bs ρ H w eval s hx=>?_⟩
 obtain⟨u,hr,ru⟩:=hs hg bs ρ H w _ s (hx' ρ H _ hg (hx x (by simp[ho,Op.operands])))
 simp only[execOp,ho]
 exact qcs s hr ru
end
end Ax
end
section
namespace Ax
open Go
theorem qpe.length {H:PH} {z:Nat}:∀ {rows:List (List PV)} {vs:List Value},qpe H z rows vs→vs.length=rows.length * z
 | [],_,x=>by simp only[qpe]at x; simp[x]
 | r::rs,vs,x=>by
  simp only[qpe]at x
  obtain⟨hz,a,b,rfl,q,y⟩:=x
  rw[List.length_append,q.length,hz,y.length,List.length_cons,Nat.add_mul,Nat.one_mul,Nat.add_comm]
theorem qpe.append {H:PH} {z:Nat}:∀ {rows rows':List (List PV)} {vs us:List Value},qpe H z rows vs→qpe H z rows' us→qpe H z (rows++rows') (vs++us)
 | [],_,vs,us,x,y=>by simp only[qpe]at x; simpa[x]using y
 | r::rs,_,vs,us,x,y=>by
  obtain⟨hz,a,b,e,q,x'⟩:=x
  exact⟨hz,a,b++us,by rw[e,List.append_assoc],q,x'.append y⟩
theorem qpw.flat {H:PH} {b z:Nat}:∀ {o:Nat} {rows:List (List PV)},qpw H b z o rows→∃ vs,qpe H z rows vs∧∀ j v,vs[j]? =some v→H b (o+j)=some v
 | o,[],_=>⟨[],rfl,fun j v h=>by simp at h⟩
 | o,r::rs,x=>by
  simp only[qpw]at x
  obtain⟨hz,⟨vs,q,c⟩,x'⟩:=x
  obtain⟨us,y,c'⟩:=x'.flat
  refine⟨vs++us,⟨hz,vs,us,rfl,q,y⟩,fun j v hv=>?_⟩
  have hl:vs.length=z:=by rw[q.length,hz]
  rcases Nat.lt_or_ge j vs.length with hj|hj
  ·rw[List.getElem?_append_left hj]at hv; exact c j v hv
  ·rw[List.getElem?_append_right hj]at hv
   have:=c' _ _ hv
   have e:o+z+(j - vs.length)=o+j:=by omega
   rwa [e]at this
theorem qpe.unflat {H:PH} {b z:Nat}:∀ {o:Nat} {rows:List (List PV)} {vs:List Value},qpe H z rows vs→(∀ j v,vs[j]? =some v→H b (o+j)=some v)→qpw H b z o rows
 | _,[],_,_,_=>by simp[qpw]
 | o,r::rs,vs,x,c=>by
  obtain⟨hz,a,b',rfl,q,y⟩:=x
  have hl:a.length=z:=by rw[q.length,hz]
  simp only[qpw]
  refine⟨hz,⟨a,q,fun j v hv=>c j v ?_⟩,y.unflat fun j v hv=>?_⟩
  ·have:=(List.getElem?_eq_some_iff.1 hv).1
   rw[List.getElem?_append_left this]; exact hv
  ·have:=c (z+j) v (by rw[List.getElem?_append_right (by omega)]; rw[hl,Nat.add_sub_cancel_left]; exact hv)
   rwa [← Nat.add_assoc]at this
theorem q3z {H:PH} {rows:List (List PV)} {v:Value} {z:Nat} (h:qcn H (.sl rows) v) (hz:∀ r∈rows,r.length=z) :
  (rows=[]∧(v=.slice none 0 0∨∃ a cap,v=.slice (some a) 0 cap))∨∃ b o cap vs,v=.slice (some ⟨b,o,none⟩) rows.length cap∧rows.length≤cap∧qpe H z rows vs∧∀ j u,vs[j]? =some u→H b (o+j)=some u:=by
 simp only[qcn]at h
 rcases h with h|⟨b,o,z',cap,e,hc,r⟩
 ·exact .inl h
 ·refine .inr ⟨b,o,cap,?_⟩
  cases rows with
  | nil=>exact⟨[],e,hc,rfl,fun j u h=>by simp at h⟩
  | cons r0 rs=>
   have:z'=z:=by
    simp only[qpw]at r
    rw[← r.1]; exact hz r0 (by simp)
   subst this
   obtain⟨vs,y,c⟩:=r.flat
   exact⟨vs,e,hc,y,c⟩
theorem SatW.kill {bs:Base} {ρ:List Value} {H:PH} {lo:List AObj} {w:World} (s:SatW bs ρ H lo w) (k:Nat):SatW bs ρ H (lo.set k .dead) w where
 sath:=s.sath
 hlen:=by simpa using s.hlen
 pre:=s.pre
 objs:=fun i o v hi hv=>by
  rw[List.getElem?_set]at hi
  split at hi
  ·split at hi
   ·cases hi; trivial
   ·cases hi
  ·exact s.objs i o v hi hv
 excl:=fun i j o o' v v' b hi hj hv hv' hne hl hl' hb=>by
  rw[List.getElem?_set]at hi hj
  split at hi
  ·split at hi
   ·cases hi; simp[AObj.live]at hl
   ·cases hi
  ·split at hj
   ·split at hj
    ·cases hj; simp[AObj.live]at hl'
    ·cases hj
   ·exact s.excl i j o o' v v' b hi hj hv hv' hne hl hl' hb
 own:=fun i o v b hi hv hl hb=>by
  rw[List.getElem?_set]at hi
  split at hi
  ·split at hi
   ·cases hi; simp[AObj.live]at hl
   ·cases hi
  ·exact s.own i o v b hi hv hl hb
 keep:=s.keep
 leH:=s.leH
 newH:=s.newH
theorem SatW.push {bs:Base} {ρ:List Value} {H H':PH} {lo:List AObj} {w w':World} (s:SatW bs ρ H lo w) {v:Value} {o:AObj} {g:Nat}
  (hv:qck v=some g∨qck v=none)
  (hfree:∀ (k:Nat) (o':AObj) (v':Value),lo[k]? =some o'→ρ[k]? =some v'→o'.live=true→qck v'≠some g)
  (hown:bs.S g∨bs.w0.heap.size≤g) (hle:PH.le H H') (hsat:SatH H' w')
  (hnew:∀ b o v,H' b o=some v→(∃ v,H b o=some v)∨b=g) (hkeep:Keep (fun b=>b=g) w w')
  (hok:q2f (ρ++[v]) H' w' v o):SatW bs (ρ++[v]) H' (lo++[o]) w' where
 sath:=hsat
 hlen:=by simp[s.hlen]
 pre:=s.pre.trans (List.prefix_append _ _)
 objs:=fun i ob u hi hu=>by
  rw[List.getElem?_append]at hi hu
  rw[s.hlen]at hu
  split at hi
  ·rename_i hlt
   simp only[hlt,if_true]at hu
   cases hl:ob.live with
   | false=>cases ob<;>simp[AObj.live]at hl; trivial
   | true=>
    refine(s.objs i ob u hi hu).keep (List.prefix_append _ _) hle (fun b hb hlt'=>hkeep.block b hlt' (fun e=>hfree i ob u hi hu hl (by rw[hb,e]))) (fun b o' hb _ hn=>?_)
    cases hx:H' b o' with
    | none=>rfl
    | some x=>
     rcases hnew b o' x hx with ⟨y,hy⟩|e
     ·rw[hn]at hy; cases hy
     ·exact absurd (by rw[hb,e]) (hfree i ob u hi hu hl)
  ·rename_i hlt
   simp only[hlt,if_false]at hu
   have h1:=(List.getElem?_eq_some_iff.1 hi).1
   simp at h1
   have h0:i - lo.length=0:=by omega
   rw[h0]at hi hu
   simp at hi hu
   subst hi; subst hu
   exact hok
 excl:=fun i j oi oj vi vj b hi hj hvi hvj hne hli hlj hb=>by
  rw[List.getElem?_append]at hi hj hvi hvj
  rw[s.hlen]at hvi hvj
  have last:∀ {x:Nat} {ob:AObj} {u:Value},¬ x<lo.length→[o][x - lo.length]? =some ob→[v][x - lo.length]? =some u→x=lo.length∧u=v:=by
   intro x ob u hx h1 h2
   have:=(List.getElem?_eq_some_iff.1 h1).1
   simp at this
   have h0:x - lo.length=0:=by omega
   rw[h0]at h2
   simp at h2
   exact⟨by omega,h2.symm⟩
  by_cases h1:i<lo.length<;>by_cases h2:j<lo.length<;>simp only[h1,h2,if_true,if_false]at hi hj hvi hvj
  ·exact s.excl i j oi oj vi vj b hi hj hvi hvj hne hli hlj hb
  ·obtain⟨_,rfl⟩:=last h2 hj hvj
   intro hb'
   rcases hv with hv|hv
   ·rw[hv]at hb'; cases hb'; exact hfree i oi vi hi hvi hli hb
   ·rw[hv]at hb'; cases hb'
  ·obtain⟨_,rfl⟩:=last h1 hi hvi
   intro hb'
   rcases hv with hv|hv
   ·rw[hv]at hb; cases hb; exact hfree j oj vj hj hvj hlj hb'
   ·rw[hv]at hb; cases hb
  ·obtain⟨e1,_⟩:=last h1 hi hvi
   obtain⟨e2,_⟩:=last h2 hj hvj
   omega
 own:=fun i ob u b hi hu hl hb=>by
  rw[List.getElem?_append]at hi hu
  rw[s.hlen]at hu
  split at hi
  ·rename_i hlt
   simp only[hlt,if_true]at hu
   exact s.own i ob u b hi hu hl hb
  ·rename_i hlt
   simp only[hlt,if_false]at hu
   have h1:=(List.getElem?_eq_some_iff.1 hi).1
   simp at h1
   have h0:i - lo.length=0:=by omega
   rw[h0]at hu
   simp at hu
   subst hu
   rcases hv with hv|hv
   ·rw[hv]at hb; cases hb; exact hown
   ·rw[hv]at hb; cases hb
 keep:=s.keep.step hkeep (fun i hi=>by
  subst hi
  rcases hown with h|h
  ·exact .inl h
  ·exact .inr h)
 leH:=s.leH.trans hle
 newH:=fun b o v hb=>by
  rcases hnew b o v hb with ⟨y,hy⟩|e
  ·exact s.newH b o y hy
  ·subst e; exact .inr hown
theorem SatW.fresh {bs:Base} {ρ:List Value} {H:PH} {lo:List AObj} {w:World} (s:SatW bs ρ H lo w) {g:Nat} (hg:w.heap.size≤g) :
  ∀ (k:Nat) (o':AObj) (v':Value),lo[k]? =some o'→ρ[k]? =some v'→o'.live=true→qck v'≠some g:=fun k o v hk hv hl hb=>by
 have:=s.objs k o v hk hv
 cases o with
 | dead=>simp[AObj.live]at hl
 | box t cells=>
  obtain⟨b,vs,rfl,hgt,_⟩:=this
  simp[qck]at hb
  have:=qip hgt
  omega
 | tail e z n=>
  obtain⟨xs,ho,_⟩:=this
  rcases ho.2 with ⟨rfl,_⟩|⟨g',cap,cur,rfl,_,hgt,_⟩
  ·simp[qck]at hb
  ·simp[qck]at hb
   have:=qip hgt
   omega
 | vec e z n=>
  obtain⟨xs,ho,_⟩:=this
  rcases ho.2 with ⟨rfl,_⟩|⟨g',cap,cur,rfl,_,hgt,_⟩
  ·simp[qck]at hb
  ·simp[qck]at hb
   have:=qip hgt
   omega
 | mp d es mk=>
  obtain⟨b,ents,clock,rfl,hgt,_⟩:=this
  simp[qck]at hb
  have:=qip hgt
  omega
 | sit l pos=>
  obtain⟨b,rfl,hgt,_⟩:=this
  simp[qck]at hb
  have:=qip hgt
  omega
 | bv l=>
  obtain⟨b,cs,e,cap,lo,hi,rfl,hgt,_⟩:=this
  simp[qck]at hb
  have:=qip hgt
  omega
theorem qso (w:World) (o:Obj) (g:Nat):Keep (fun b=>b=g) w (w.alloc o):=
 ⟨rfl,rfl,rfl,by simp,fun k hk _=>heap_alloc_old w o hk⟩
theorem qn2 (w:World) (o:Obj) (g:Nat):Keep (fun b=>b=g) w (w.drew.alloc o):=
 ⟨rfl,rfl,rfl,by simp,fun k hk _=>heap_alloc_old w.drew o hk⟩
theorem qwd {H:PH} {w:World} (s:SatH H w) (o:Obj):SatH H (w.alloc o):=⟨fun b p v hv=>by
 refine⟨?_,(s.cell b p v hv).2⟩
 rw[World.cell?_alloc_lt (h:=s.lt hv)]
 exact(s.cell b p v hv).1,s.root⟩
theorem SatW.pushBox {bs:Base} {ρ:List Value} {H:PH} {lo:List AObj} {w:World} (s:SatW bs ρ H lo w) {t:TypeId} {cells:List FV} {vs:List Value} (hc:qdn ρ H cells vs) :
  SatW bs (ρ++[.pointer (some ⟨w.heap.size,0,none⟩)]) H (lo++[.box t cells]) (w.alloc (.cells vs.toArray t)):=by
 refine s.push (g:=w.heap.size) (.inl rfl) (s.fresh (Nat.le_refl _)) (.inr s.keep.size) (PH.le.refl H) (qwd s.sath _) (fun b o v h=>.inl ⟨v,h⟩) (qso w _ _) ?_
 refine⟨w.heap.size,vs,rfl,heap_alloc_new w _,hc.mono (List.prefix_append _ _) (PH.le.refl H),fun o=>?_⟩
 cases hx:H w.heap.size o with
 | none=>rfl
 | some x=>exact absurd (s.sath.lt hx) (Nat.lt_irrefl _)
theorem q2r {ρ:List Value} {H:PH}:∀ {fs:List FV} {vs:List Value},q1a fs=true→qdn ρ H fs vs→∀ u∈vs,u.oneCell'=true
 | [],vs,_,r,u,hu=>by simp only[qdn]at r; simp[r]at hu
 | f::fs,vs,h,r,u,hu=>by
  simp only[q1a]at h
  split at h
  ·rename_i h1
   obtain⟨v,vs',rfl,r1,rs⟩:=r
   rcases List.mem_cons.1 hu with rfl|hu
   ·exact(qqd h1 r1).2
   ·exact q2r h rs u hu
  ·cases h
theorem qx0:∀ {c:FV} {R:List FV→Prop},qzw c R→∃ cs,R cs∧∀ (ρ:List Value) (H:PH) (vs:List Value),qb6 ρ H c (.tuple vs.toArray)→qdn ρ H cs vs
 | .cap0,R,h=>⟨[],h,fun ρ H vs r=>by
   simp only[qb6,Value.tuple.injEq]at r
   simpa[qdn]using r⟩
 | .cap a b,R,h=>by
  simp only[qzw]at h
  obtain⟨ps,h,hps⟩:=qx0 h
  refine⟨_,h,fun ρ H vs r=>?_⟩
  obtain⟨u,us,e,ra,rb⟩:=r
  have e:vs=u::us:=by simpa using e
  subst e
  exact⟨u,us,rfl,ra,hps _ _ _ rb⟩
 | .top,_,h|.p _,_,h|.opt _ _,_,h|.tsl _ _,_,h|.ptr _ _,_,h|.hptr _,_,h|.bself _,_,h|.bsl _ _ _ _,_,h|.vsl _ _,_,h|.eptr _ _ _ _,_,h|.mref _,_,h|.pair _ _,_,h|.stmp _,_,h|.clo _ _,_,h|.fagg _,_,h|.nxt _ _ _,_,h=>by
  simp[qzw]at h
theorem qyb {f:FV} {R:List FV→Prop} (h:qxj f R):∃ cs,R cs∧∀ (ρ:List Value) (H:PH) (x:Value),qb6 ρ H f x→qdn ρ H cs x.cells.toList:=by
 unfold qxj at h
 split at h
 ·rename_i cs
  refine⟨_,qu6 h,fun ρ H x r=>?_⟩
  simp only[qb6,qcn]at r
  obtain⟨vs,rfl,q⟩:=r
  simpa[Value.cells]using qdn.of_RepL q
 ·rename_i c
  obtain⟨cs,h,hcs⟩:=qx0 h
  refine⟨_,h,fun ρ H x r=>?_⟩
  obtain⟨vs,rfl,rc⟩:=r
  simpa[Value.cells]using hcs ρ H vs rc
 ·split at h
  ·rename_i h1
   refine⟨_,h,fun ρ H x r=>?_⟩
   rw[(qqd h1 r).1]
   exact⟨x,[],rfl,r,rfl⟩
  ·exact h.elim
theorem zen {P:Program} {t:TypeId} {R:List PV→Prop} (h:zkv P t R):∃ i z ps,P.info? t=some i∧i.zero=some z∧R ps∧∀ H,qd1 H ps z.cells.toList:=by
 unfold zkv at h
 split at h
 ·rename_i i hi
  split at h
  ·rename_i vs hz
   obtain⟨ps,hr,hs⟩:=qsu h
   exact⟨i,_,ps,hi,hz,hr,fun H=>by simpa[Value.cells]using hs H⟩
  ·rename_i v hne hz
   obtain⟨ps,hr,hs⟩:=qsu h
   refine⟨i,v,ps,hi,hz,hr,fun H=>?_⟩
   have:v.cells = #[v]:=by
    cases v<;>first|rfl|skip
    rename_i cs
    exact absurd rfl (hne cs.toList)
   rw[this]
   simpa using hs H
  ·exact h.elim
 ·exact h.elim
theorem SatW.setBox {bs:Base} {ρ:List Value} {H:PH} {lo:List AObj} {w:World} (s:SatW bs ρ H lo w) {k b:Nat} {t:TypeId} {old cells:List FV} {vs0 vs:List Value}
  (hk:lo[k]? =some (.box t old)) (hv:ρ[k]? =some (.pointer (some ⟨b,0,none⟩))) (hg:w.heap[b]? =some (.cells vs0.toArray t (0,0))) (hH:∀ o,H b o=none)
  (hc:qdn ρ H cells vs):SatW bs ρ H (lo.set k (.box t cells)) (w.setRow b vs.toArray) where
 sath:=s.sath.block fun b' o v hb=>setRow_other w b b' _ (fun e=>by subst e; rw[hH o]at hb; cases hb)
 hlen:=by simpa using s.hlen
 pre:=s.pre
 objs:=fun i o v hi hv'=>by
  rw[List.getElem?_set]at hi
  split at hi
  ·rename_i e
   subst e
   split at hi
   ·cases hi
    rw[hv]at hv'
    cases hv'
    exact⟨b,vs,rfl,setRow_heap w b _ _ t _ hg,hc,hH⟩
   ·cases hi
  ·rename_i hne
   cases hl:o.live with
   | false=>cases o<;>simp[AObj.live]at hl; trivial
   | true=>
    have hex:=s.excl k i _ o _ v b hk hi hv hv' hne rfl hl rfl
    exact(s.objs i o v hi hv').keep (List.prefix_refl _) (PH.le.refl H) (fun b' hb' _=>setRow_other w b b' _ (fun e=>hex (by rw[hb',e]))) (fun b' o' _ _ hn=>hn)
 excl:=fun i j oi oj vi vj b' hi hj hvi hvj hne hli hlj hb=>by
  rw[List.getElem?_set]at hi hj
  have live:∀ {x:Nat} {ob:AObj},(if k=x then if k<lo.length then some (AObj.box t cells)else none else lo[x]?)=some ob→ob.live=true→∃ o',lo[x]? =some o'∧o'.live=true:=by
   intro x ob h hl
   split at h
   ·rename_i e; subst e; exact⟨_,hk,rfl⟩
   ·exact⟨ob,h,hl⟩
  obtain⟨o1,h1,l1⟩:=live hi hli
  obtain⟨o2,h2,l2⟩:=live hj hlj
  exact s.excl i j o1 o2 vi vj b' h1 h2 hvi hvj hne l1 l2 hb
 own:=fun i o v b' hi hv' hl hb=>by
  rw[List.getElem?_set]at hi
  split at hi
  ·rename_i e; subst e; exact s.own k _ v b' hk hv' rfl hb
  ·exact s.own i o v b' hi hv' hl hb
 keep:=s.keep.step (S':=fun x=>x=b) ⟨rfl,rfl,rfl,by simp,fun x _ hx=>setRow_other w b x _ hx⟩ (fun i hi=>by
  subst hi
  exact s.own k _ _ i hk hv rfl rfl)
 leH:=s.leH
 newH:=s.newH
end Ax
end
section
namespace Ax
open Go
theorem SatW.upd {bs:Base} {ρ:List Value} {H:PH} {lo:List AObj} {w w':World} (s:SatW bs ρ H lo w) {k b:Nat} {o o':AObj} {v:Value}
  (hk:lo[k]? =some o) (hv:ρ[k]? =some v) (hl:o.live=true) (hb:qck v=some b) (hH:∀ i,H b i=none) (hkeep:Keep (fun x=>x=b) w w') (hob:q2f ρ H w' v o'):SatW bs ρ H (lo.set k o') w' where
 sath:=s.sath.block fun b' i u hu=>hkeep.block b' (s.sath.lt hu) (fun e=>by subst e; rw[hH i]at hu; cases hu)
 hlen:=by simpa using s.hlen
 pre:=s.pre
 objs:=fun i oi vi hi hvi=>by
  rw[List.getElem?_set]at hi
  split at hi
  ·rename_i e
   subst e
   split at hi
   ·cases hi
    rw[hv]at hvi
    cases hvi
    exact hob
   ·cases hi
  ·rename_i hne
   cases hli:oi.live with
   | false=>cases oi<;>simp[AObj.live]at hli; trivial
   | true=>
    have hex:=s.excl k i _ oi _ vi b hk hi hv hvi hne hl hli hb
    exact(s.objs i oi vi hi hvi).keep (List.prefix_refl _) (PH.le.refl H) (fun b' hb' hlt=>hkeep.block b' hlt (fun e=>hex (by rw[hb',e]))) (fun b' i' _ _ hn=>hn)
 excl:=fun i j oi oj vi vj b' hi hj hvi hvj hne hli hlj hbi=>by
  rw[List.getElem?_set]at hi hj
  have live:∀ {x:Nat} {ob:AObj},(if k=x then if k<lo.length then some o' else none else lo[x]?)=some ob→ob.live=true→∃ o2,lo[x]? =some o2∧o2.live=true:=by
   intro x ob h hl'
   split at h
   ·rename_i e; subst e; exact⟨_,hk,hl⟩
   ·exact⟨ob,h,hl'⟩
  obtain⟨o1,h1,l1⟩:=live hi hli
  obtain⟨o2,h2,l2⟩:=live hj hlj
  exact s.excl i j o1 o2 vi vj b' h1 h2 hvi hvj hne l1 l2 hbi
 own:=fun i oi vi b' hi hvi hli hbi=>by
  rw[List.getElem?_set]at hi
  split at hi
  ·rename_i e; subst e; exact s.own k _ vi b' hk hvi hl hbi
  ·exact s.own i oi vi b' hi hvi hli hbi
 keep:=s.keep.step hkeep (fun i hi=>by
  subst hi
  exact s.own k _ _ i hk hv hl hb)
 leH:=s.leH
 newH:=s.newH
def AObj.boxy:AObj→Bool
 | .box _ _=>true
 | .mp _ _ _=>true
 | _=>false
def qgg (b:Bool) (lo lo':List AObj):Prop:=lo.length≤lo'.length∧(b=true→∀ k ob,k<lo.length→ob.boxy=true→(lo[k]? =some ob↔lo'[k]? =some ob))
theorem qgg.push {b:Bool} {lo:List AObj} (o:AObj):qgg b lo (lo++[o]):=⟨by simp,fun _ k ob hk _=>by rw[List.getElem?_append_left hk]⟩
theorem qgg.set {lo:List AObj} (k:Nat) (o:AObj):qgg false lo (lo.set k o):=⟨by simp,fun h=>by cases h⟩
theorem qgg.len {lo lo':List AObj} (h:lo'.length=lo.length):qgg false lo lo':=⟨by omega,fun h=>by cases h⟩
theorem qgg.kill {b:Bool} {lo:List AObj} {k0:Nat} {o0:AObj} (o:AObj) (h:lo[k0]? =some o0) (h0:o0.boxy=false):qgg b lo (lo.set k0 .dead++[o]):=⟨by simp,fun _ k ob hk hb=>by
 rw[List.getElem?_append_left (by simpa using hk),List.getElem?_set]
 split
 ·rename_i e
  subst e
  rw[if_pos hk,h]
  constructor
  ·intro e; cases e; rw[h0]at hb; cases hb
  ·intro e; cases e; cases hb
 ·exact Iff.rfl⟩
section
variable {P:Program} {w:World}
theorem zd9 {d' d:TypeDesc} {kp:PV} {R:Prop} (h:zb6 d' d kp R):R∧d'=d∧∀ (H:PH) (v:Value),qcn H kp v→MapKept.IsKey d v:=by
 unfold zb6 at h
 split at h
 ·exact⟨h,rfl,fun H v r=>by simp only[qcn]at r; subst r; trivial⟩
 ·exact⟨h,rfl,fun H v r=>by simp only[qcn]at r; subst r; trivial⟩
 ·split at h
  ·rename_i h1
   split at h
   ·rename_i h2
    have h1:=qq8 h1
    have h2:=qq8 h2
    subst h1; subst h2
    exact⟨h,rfl,fun H v r=>by simp only[qcn]at r; subst r; rfl⟩
   ·exact h.elim
  ·exact h.elim
 ·exact h.elim
theorem q9q {t:TypeId} {d:TypeDesc} {kp:PV} {R:TypeId→Prop} (h:zj1 P t d kp R):∃ kt et,R et∧P.underlying t=some (.map kt et)∧P.underlying kt=some d∧∀ (H:PH) (v:Value),qcn H kp v→MapKept.IsKey d v:=by
 unfold zj1 at h
 split at h
 ·rename_i kt et ht
  split at h
  ·rename_i d' hd
   obtain⟨h2,rfl,hk⟩:=zd9 h
   exact⟨kt,et,h2,ht,hd,hk⟩
  ·exact h.elim
 ·exact h.elim
theorem zgc {a b:List UInt8}:(Value.string ⟨a.toArray⟩=Value.string ⟨b.toArray⟩)↔a=b:=by
 constructor
 ·intro h
  injection h with h
  injection h with h
  simpa using h
 ·rintro rfl; rfl
theorem zgi {H:PH} {d:TypeDesc} {p q:PV} {x y:Value} (hp:qcn H p x) (hq:qcn H q y) (hx:MapKept.IsKey d x) (hy:MapKept.IsKey d y):zhw p q=true↔y=x:=by
 have b1:∀ {p:PV} {b:Bool},qcn H p (.bool b)→p=.bool b:=by
  intro p b h
  cases p<;>simp only[qcn]at h<;>(try (obtain⟨_,h,_⟩:=h; cases h))<;>(try (rcases h with ⟨_,h|⟨_,_,h⟩⟩|⟨_,_,_,_,h,_⟩<;>cases h))<;>try cases h
  rfl
 have b2:∀ {p:PV} {k:IntKind} {n:Int},qcn H p (.int k n)→p=.int k n:=by
  intro p k n h
  cases p<;>simp only[qcn]at h<;>(try (obtain⟨_,h,_⟩:=h; cases h))<;>(try (rcases h with ⟨_,h|⟨_,_,h⟩⟩|⟨_,_,_,_,h,_⟩<;>cases h))<;>try cases h
  rfl
 have b3:∀ {p:PV} {b:ByteArray},qcn H p (.string b)→∃ l:List UInt8,p=.str l∧b=⟨l.toArray⟩:=by
  intro p b h
  cases p<;>simp only[qcn]at h<;>(try (obtain⟨_,h,_⟩:=h; cases h))<;>(try (rcases h with ⟨_,h|⟨_,_,h⟩⟩|⟨_,_,_,_,h,_⟩<;>cases h))<;>try cases h
  exact⟨_,rfl,rfl⟩
 cases d<;>cases x<;>cases y<;>simp only[MapKept.IsKey]at hx hy
 ·rw[b1 hp,b1 hq]
  simp only[zhw,beq_iff_eq]
  exact⟨fun h=>by rw[h],fun h=>by injection h with h; exact h.symm⟩
 ·subst hx; subst hy
  rw[b2 hp,b2 hq]
  simp only[zhw,beq_iff_eq]
  exact⟨fun h=>by rw[h],fun h=>by injection h with _ h; exact h.symm⟩
 ·obtain⟨l,rfl,rfl⟩:=b3 hp
  obtain⟨m,rfl,rfl⟩:=b3 hq
  simp only[zhw,beq_iff_eq,zgc]
  exact eq_comm
theorem q4e {H:PH} {d:TypeDesc} {kp:PV} {k:Value} (hkp:qcn H kp k) (hk:MapKept.IsKey d k):∀ (es:List (PV×PV)) (l:List MapEntry) (i:Nat),q8u H es l→(∀ x∈l,MapKept.IsKey d x.key) →
  (q1z kp es=none∧Instr.findNow d k l i=some none∧(∀ x∈l,x.key≠k)∧∀ vp,zhy kp vp es=es++[(kp,vp)]) ∨
  ∃ j e p,q1z kp es=some p∧Instr.findNow d k l i=some (some (i+j,e.val))∧l[j]? =some e∧e.key=k∧qcn H p e.val∧∀ vp,zhy kp vp es=es.set j (kp,vp)
 | [],l,i,r,_=>by
  simp only[q8u]at r
  subst r
  exact .inl ⟨rfl,rfl,by simp,fun _=>rfl⟩
 | (p,q)::es,l,i,r,h=>by
  obtain⟨e,l',rfl,rk,rv,rr⟩:=r
  have he:=h e (.head _)
  obtain⟨b,hb,hiff⟩:=MapKept.sameNow_of_keys hk he
  have hke:=zgi hkp rk hk he
  cases b with
  | true=>
   have heq:=hiff.1 rfl
   have hkk:zhw kp p=true:=hke.2 heq.symm
   exact .inr ⟨0,e,q,by simp[q1z,hkk],by simp[Instr.findNow,hb],rfl,heq.symm,rv,fun vp=>by simp[zhy,hkk]⟩
  | false=>
   have hne:e.key≠k:=fun q=>by have:=hiff.2 q.symm; cases this
   have hkk:zhw kp p=false:=by
    cases hx:zhw kp p with
    | false=>rfl
    | true=>exact absurd (hke.1 hx) hne
   rcases q4e hkp hk es l' (i+1) rr (fun x hx=>h x (.tail _ hx))with ⟨h1,h2,h3,h4⟩|⟨j,e',p',h1,h2,h3,h4,h5,h6⟩
   ·refine .inl ⟨by simp[q1z,hkk,h1],by simp[Instr.findNow,hb,h2],fun x hx=>?_,fun vp=>by simp[zhy,hkk,h4]⟩
    cases hx with
    | head=>exact hne
    | tail _ hx=>exact h3 x hx
   ·exact .inr ⟨j+1,e',p',by simp[q1z,hkk,h1],by simp[Instr.findNow,hb,h2]; omega,by simpa using h3,h4,h5,fun vp=>by simp[zhy,hkk,h6]⟩
theorem q8u.length {H:PH}:∀ {es:List (PV×PV)} {l:List MapEntry},q8u H es l→l.length=es.length
 | [],l,r=>by simp only[q8u]at r; simp[r]
 | (_,_)::es,l,r=>by
  obtain⟨e,l',rfl,_,_,rr⟩:=r
  simp[rr.length]
theorem q8u.push {H:PH}:∀ {es:List (PV×PV)} {l:List MapEntry} {k v:PV} {e:MapEntry},q8u H es l→qcn H k e.key→qcn H v e.val→q8u H (es++[(k,v)]) (l++[e])
 | [],l,k,v,e,r,rk,rv=>by
  simp only[q8u]at r
  subst r
  exact⟨e,[],rfl,rk,rv,rfl⟩
 | (_,_)::es,l,k,v,e,r,rk,rv=>by
  obtain⟨e',l',rfl,r1,r2,rr⟩:=r
  exact⟨e',l'++[e],rfl,r1,r2,rr.push rk rv⟩
theorem q8u.set {H:PH}:∀ {es:List (PV×PV)} {l:List MapEntry} {j:Nat} {k v:PV} {e:MapEntry},q8u H es l→qcn H k e.key→qcn H v e.val→q8u H (es.set j (k,v)) (l.set j e)
 | [],l,j,k,v,e,r,rk,rv=>by
  simp only[q8u]at r
  subst r
  simp[q8u]
 | (_,_)::es,l,j,k,v,e,r,rk,rv=>by
  obtain⟨e',l',rfl,r1,r2,rr⟩:=r
  cases j with
  | zero=>exact⟨e,l',rfl,rk,rv,rr⟩
  | succ j=>exact⟨e',l'.set j e,rfl,r1,r2,rr.set rk rv⟩
theorem zeh {t:TypeId} {R:PV→Prop} (h:q9v P t R):∃ p z,R p∧(∀ w,(zeroValue t).run P w=.ok z w)∧∀ H,qcn H p z:=by
 unfold q9v at h
 split at h
 ·rename_i i hi
  split at h
  ·rename_i vs hz
   obtain⟨ps,h,hps⟩:=qsu h
   exact⟨.agg ps,.agg ⟨vs⟩,h,fun w=>by simp[zeroValue,typeInfo,hi,hz],fun H=>by simp only[qcn]; exact⟨vs,rfl,hps H⟩⟩
  ·rename_i v hne hz
   split at h
   ·rename_i p hp
    exact⟨p,v,h,fun w=>by simp[zeroValue,typeInfo,hi,hz],fun H=>q2z hp H⟩
   ·exact h.elim
  ·exact h.elim
 ·exact h.elim
theorem q98 {g:G} {t:TypeId} {lo:List AObj} {x key:FV} {ok:Bool} {R:FV→Prop} (h:qtk P g t lo x key ok R) :
  ∃ fv,R fv∧((∃ k o,x=.mref k∧lo[k]? =some o∧o.live=true)∧(gOn g→∀ (bs:Base) (ρ:List Value) (H:PH) (w:World) (a b:Value),SatW bs ρ H lo w→qb6 ρ H x a→qb6 ρ H key b →
   ∃ v,(Instr.lookup t a b ok).run P w=.ok v w∧qb6 ρ H fv v)):=by
 unfold qtk at h
 split at h
 ·rename_i k kp
  have h0:=qdc h; clear h; obtain⟨o,ho,h⟩:=h0
  split at h
  ·rename_i d es mk
   have h0:=q9q h; clear h; obtain⟨kt,et,h,ht,hd,hkey⟩:=h0
   have h0:=zeh h; clear h; obtain⟨z,zv,h,hz,rz⟩:=h0
   obtain⟨v,b,hvb,h⟩:=h
   refine⟨_,h,⟨k,_,rfl,ho,rfl⟩,fun hg bs ρ H w a kv s ra rk=>?_⟩
   obtain⟨hv,hb⟩:=qnw hvb hg
   obtain⟨bl,hρ,rfl⟩:=ra
   obtain⟨bl',ents,clock,e,hheap,rm,⟨hst,hks,_⟩,_⟩:=s.objs k _ _ ho hρ
   cases e
   have hik:=hkey H kv rk
   rcases q4e rk hik es ents.toList 0 rm hks with ⟨h1,h2,_,_⟩|⟨j,e,p,h1,h2,_,_,h5,_⟩
   ·rw[h1]at hv hb
    simp only[Option.getD_none,Option.isSome_none]at hv hb
    subst hv; subst hb
    cases ok
    ·exact⟨zv,by simp[Instr.lookup,run_underlying ht,MapKept.run_getObj_map hheap,MapKept.run_checkKey hd hik,MapKept.run_findKey hd h2,hz],rz H⟩
    ·exact⟨.tuple #[zv,.bool false],by simp[Instr.lookup,run_underlying ht,MapKept.run_getObj_map hheap,MapKept.run_checkKey hd hik,MapKept.run_findKey hd h2,hz],by
      simp only[qb6,qcn]
      exact⟨[zv,.bool false],rfl,by simp only[qd1]; exact⟨zv,_,rfl,rz H,.bool false,[],rfl,by simp[qcn],rfl⟩⟩⟩
   ·rw[h1]at hv hb
    simp only[Option.getD_some,Option.isSome_some]at hv hb
    subst hv; subst hb
    cases ok
    ·exact⟨e.val,by simp[Instr.lookup,run_underlying ht,MapKept.run_getObj_map hheap,MapKept.run_checkKey hd hik,MapKept.run_findKey hd h2],h5⟩
    ·exact⟨.tuple #[e.val,.bool true],by simp[Instr.lookup,run_underlying ht,MapKept.run_getObj_map hheap,MapKept.run_checkKey hd hik,MapKept.run_findKey hd h2],by
      simp only[qb6,qcn]
      exact⟨[e.val,.bool true],rfl,by simp only[qd1]; exact⟨e.val,_,rfl,h5,.bool true,[],rfl,by simp[qcn],rfl⟩⟩⟩
  ·exact h.elim
 ·exact h.elim
theorem zef {t:TypeId} {lo:List AObj} {x:FV} {R:FV→Prop} (h:zj4 P t lo x R) :
  ∃ fv,R fv∧∀ (bs:Base) (ρ:List Value) (H:PH) (w:World) (ty:TypeId) (a:Value),SatW bs ρ H lo w→qb6 ρ H x a→∃ v,(Builtin.len_ #[t] ty #[a]).run P w=.ok v w∧qb6 ρ H fv v:=by
 unfold zj4 at h
 split at h
 ·rename_i k
  have h0:=qdc h; clear h; obtain⟨o,ho,h⟩:=h0
  split at h
  ·rename_i d es mk
   split at h
   ·rename_i kt et ht
    obtain⟨n,hn,h⟩:=h
    refine⟨_,h,fun bs ρ H w ty a s ra=>⟨.int .i64 n,?_,qn7⟩⟩
    obtain⟨bl,hρ,rfl⟩:=ra
    obtain⟨bl',ents,clock,e,hheap,rm,_⟩:=s.objs k _ _ ho hρ
    cases e
    have:=rm.length
    simp at this
    simp[Builtin.len_,run_underlying ht,MapKept.run_getObj_map hheap,goInt,this,hn]
   ·exact h.elim
  ·exact h.elim
 ·exact h.elim
theorem q2j (w:World) (b:Nat) (o:Obj):Keep (fun x=>x=b) w { w with heap:=w.heap.setIfInBounds b o }:=
 ⟨rfl,rfl,rfl,by simp,fun k _ hk=>by simp[Ne.symm hk]⟩
theorem q1p {es:Array MapEntry} {j:Nat} {f:MapEntry→MapEntry} {e:MapEntry} (h:es[j]? =some e):(es.modify j f).toList=es.toList.set j (f e):=by
 apply List.ext_getElem?
 intro i
 simp only[Array.getElem?_toList,Array.getElem?_modify,List.getElem?_set]
 by_cases hij:j=i
 ·subst hij
  obtain⟨h1,h2⟩:=Array.getElem?_eq_some_iff.1 h
  simp[h1,h2]
 ·simp[hij]
theorem zcb {bs:Base} {ρ:List Value} {H:PH} {lo:List AObj} (s:SatW bs ρ H lo w) {t kt et:TypeId} {d:TypeDesc} (ht:P.underlying t=some (.map kt et)) (hd:P.underlying kt=some d)
  {j:Nat} {es:List (PV×PV)} {mk:Option (PV×Nat)} (ho:lo[j]? =some (.mp d es mk)) {m k x:Value} (rm:qb6 ρ H (.mref j) m) {kp vp:PV} (rk:qcn H kp k) (rx:qcn H vp x) (hk:MapKept.IsKey d k) :
  ∃ w',(Instr.mapUpdate t m k x).run P w=.ok () w'∧SatW bs ρ H (lo.set j (.mp d (zhy kp vp es) none)) w':=by
 obtain⟨bl,hρ,rfl⟩:=rm
 obtain⟨bl',ents,clock,e,hheap,rmm,⟨hst,hks,_⟩,hH⟩:=s.objs j _ _ ho hρ
 cases e
 rcases q4e rk hk es ents.toList 0 rmm hks with ⟨_,h2,h3,h4⟩|⟨i,e,p,_,h2,h3,h5,_,h6⟩
 ·refine⟨{ w with heap:=w.heap.setIfInBounds bl (.map (ents.push { key:=k,val:=x,born:=clock }) (clock+1)) },?_,s.upd ho hρ rfl rfl hH (q2j w bl _) ?_⟩
  ·simp[Instr.mapUpdate,run_underlying ht,MapKept.run_getObj_map hheap,MapKept.run_checkKey hd hk,MapKept.run_findKey hd h2,MapKept.run_setObj_map _ hheap]
  ·refine⟨bl,_,_,rfl,(MapKept.heap_set hheap).1,?_,⟨MapKept.stamped_push hst h3,?_,fun _ _ h=>by cases h⟩,hH⟩
   ·rw[h4,Array.toList_push]
    exact rmm.push rk rx
   ·intro y hy
    simp only[Array.toList_push,List.mem_append,List.mem_singleton]at hy
    rcases hy with hy|rfl
    ·exact hks y hy
    ·exact hk
 ·have hi:ents[i]? =some e:=by simpa using h3
  refine⟨{ w with heap:=w.heap.setIfInBounds bl (.map (ents.modify i fun e=>{ e with key:=k,val:=x }) clock) },?_,s.upd ho hρ rfl rfl hH (q2j w bl _) ?_⟩
  ·simp[Instr.mapUpdate,run_underlying ht,MapKept.run_getObj_map hheap,MapKept.run_checkKey hd hk,MapKept.run_findKey hd h2,hi,h5,MapKept.run_keyThatStays hk,MapKept.run_setObj_map _ hheap]
  ·have hkey:∀ e',ents[i]? =some e'→({ e' with key:=k,val:=x }:MapEntry).key=e'.key:=fun e' he'=>by rw[hi]at he'; cases he'; exact h5.symm
   refine⟨bl,_,_,rfl,(MapKept.heap_set hheap).1,?_,⟨MapKept.stamped_modify hst _ _ (fun _ _=>rfl) (fun e' _ he'=>hkey e' he'),MapKept.isKey_modify hks _ _ hkey,fun _ _ h=>by cases h⟩,hH⟩
   rw[h6,q1p hi]
   exact rmm.set rk rx
theorem SatW.pushMap {bs:Base} {ρ:List Value} {H:PH} {lo:List AObj} (s:SatW bs ρ H lo w) {d:TypeDesc} :
  SatW bs (ρ++[.map (some w.heap.size)]) H (lo++[.mp d [] none]) (w.alloc (.map #[] 0)):=by
 refine s.push (g:=w.heap.size) (.inl rfl) (s.fresh (Nat.le_refl _)) (.inr s.keep.size) (PH.le.refl H) (qwd s.sath _) (fun b o v h=>.inl ⟨v,h⟩) (qso w _ _) ?_
 refine⟨w.heap.size,#[],0,rfl,heap_alloc_new w _,rfl,⟨MapKept.stamped_empty 0,by simp,fun _ _ h=>by cases h⟩,fun o=>?_⟩
 cases hx:H w.heap.size o with
 | none=>rfl
 | some x=>exact absurd (s.sath.lt hx) (Nat.lt_irrefl _)
theorem qxp {b:Nat} {l:ByteArray} {p:Nat} (h:w.heap[b]? =some (.stringIter l p)):(getObj b).run P w=.ok (.stringIter l p) w:=by
 simp[getObj,Sem.run,h]
theorem q5a {b:Nat} {l:ByteArray} {p:Nat} (o':Obj) (h:w.heap[b]? =some (.stringIter l p)):(setObj b o').run P w=.ok () { w with heap:=w.heap.setIfInBounds b o' }:=by
 simp[setObj,Sem.run,h]
theorem zaq {b:Nat} {o o':Obj} (h:w.heap[b]? =some o):(w.heap.setIfInBounds b o')[b]? =some o':=by
 have:=(Array.getElem?_eq_some_iff.1 h).1
 simp[this]
theorem q74 {α:Type} {l:List α} {k:Nat} {a:α} (h:l[k]? =some a):l.set k a=l:=by
 apply List.ext_getElem?
 intro i
 rw[List.getElem?_set]
 split
 ·rename_i e
  subst e
  split
  ·exact h.symm
  ·rename_i hn
   simp[List.getElem?_eq_none (Nat.le_of_not_lt hn)]
 ·rfl
theorem SatW.pushSit {bs:Base} {ρ:List Value} {H:PH} {lo:List AObj} (s:SatW bs ρ H lo w) {l:List UInt8} :
  SatW bs (ρ++[.pointer (some ⟨w.heap.size,0,none⟩)]) H (lo++[.sit l 0]) (w.alloc (.stringIter ⟨l.toArray⟩ 0)):=by
 refine s.push (g:=w.heap.size) (.inl rfl) (s.fresh (Nat.le_refl _)) (.inr s.keep.size) (PH.le.refl H) (qwd s.sath _) (fun b o v h=>.inl ⟨v,h⟩) (qso w _ _) ?_
 refine⟨w.heap.size,rfl,heap_alloc_new w _,fun o=>?_⟩
 cases hx:H w.heap.size o with
 | none=>rfl
 | some x=>exact absurd (s.sath.lt hx) (Nat.lt_irrefl _)
theorem qzi {E:Env} {lo:List AObj} {t:TypeId} {m k x:Operand} {R:FV→List AObj→Prop} (h:q65 P E lo t m k x R) :
  ∃ fv lo',R fv lo'∧lo'.length=lo.length∧∀ (bs:Base) (ρ:List Value) (H:PH) (w:World) (eval:Operand→Value),SatW bs ρ H lo w→qb6 ρ H (evF (qb1 E) m) (eval m)→qb6 ρ H (evF (qb1 E) k) (eval k)→qb6 ρ H (evF (qb1 E) x) (eval x) →
   ∃ w',(Instr.mapUpdate t (eval m) (eval k) (eval x)).run P w=.ok () w'∧qsw bs ρ H fv lo' undef w':=by
 unfold q65 at h
 have h0:=qbh h; clear h; obtain⟨m',h,hm'⟩:=h0
 have h0:=qbh h; clear h; obtain⟨k',h,hk'⟩:=h0
 have h0:=qbh h; clear h; obtain⟨x',h,hx'⟩:=h0
 have h0:=qo2 h; clear h; obtain⟨vp,h,hvp⟩:=h0
 split at h
 ·rename_i j kp
  have h0:=qdc h; clear h; obtain⟨o,ho,h⟩:=h0
  split at h
  ·rename_i d es mk
   have h0:=q9q h; clear h; obtain⟨kt,et,h,ht,hd,hkey⟩:=h0
   obtain⟨es',hes,h⟩:=h
   obtain⟨h,hlt⟩:=qii h
   refine⟨_,_,h,by simp,fun bs ρ H w eval s rm rk rx=>?_⟩
   have rk:=hk' ρ H _ trivial rk
   obtain⟨w',hr,s'⟩:=zcb s ht hd ho (hm' ρ H _ trivial rm) rk (hvp ρ H _ (hx' ρ H _ trivial rx)) (hkey H _ rk)
   rw[hes]at s'
   exact⟨w',hr,ρ,H,List.prefix_refl _,PH.le.refl H,s',by simp[qb6,qcn,qd1,undef]⟩
  ·exact h.elim
 ·exact h.elim
theorem zgk {d:TypeDesc} {R:Prop} (h:zmg d R):R:=by
 unfold zmg at h
 split at h<;>first|exact h|exact h.elim
theorem zcj {o:Oper} {E:Env} {lo:List AObj} {R:FV→List AObj→Prop} (h:zky P o.op E lo R):∃ fv lo',R fv lo'∧qgg (zbe o.op) lo lo'∧qjb P o (qb1 E) lo none fv lo':=by
 obtain⟨dst,op,ty,pos,after,guard⟩:=o
 simp only at h
 unfold zky at h
 split at h
 ·rename_i t x
  have h0:=qbh h; clear h; obtain⟨x',h,hx'⟩:=h0
  split at h
  ·rename_i l
   split at h
   ·rename_i ht
    have h:=qfc h
    have h:=qgy h
    refine⟨_,_,h,qgg.push _,fun hg bs ρ H w eval s hx=>?_⟩
    have e:=qpi (hx' ρ H _ hg (hx x (by simp[Op.operands])))
    have hr:(Instr.range t (eval x)).run P w=.ok (.pointer (some ⟨w.heap.size,0,none⟩)) (w.alloc (.stringIter ⟨l.toArray⟩ 0)):=by
     simp[Instr.range,e,run_underlying ht]
    simp only[execOp,Sem.run_bind,hr,Result.andThen_ok,Sem.run_pure]
    refine⟨_,H,List.prefix_append _ _,PH.le.refl H,s.pushSit,w.heap.size,by simp[← s.hlen],rfl⟩
   ·exact h.elim
  ·exact h.elim
 ·rename_i x
  have h0:=qbh h; clear h; obtain⟨x',h,hx'⟩:=h0
  split at h
  ·rename_i k
   have h0:=qdc h; clear h; obtain⟨o,ho,h⟩:=h0
   split at h
   ·rename_i l pos
    obtain⟨ok,p',⟨hok,hp⟩,h⟩:=h
    obtain⟨h,hlt⟩:=qii h
    refine⟨_,_,h,qgg.set _ _,fun hg bs ρ H w eval s hx=>?_⟩
    obtain⟨bl,hρ,ex⟩:=hx' ρ H _ hg (hx x (by simp[Op.operands]))
    obtain⟨bl',e,hheap,hH⟩:=s.objs k _ _ ho hρ
    cases e
    simp only[execOp,Sem.run_bind,ex]
    by_cases hlt:pos<l.length
    ·have hok:ok=true:=by rw[← hok]; simpa using hlt
     subst hok
     have hr:(Instr.next (.pointer (some ⟨bl,0,none⟩)) true ty).run P w=.ok (.tuple #[.bool true,.int .i64 pos,.int .i32 (qmh l pos)]) { w with heap:=w.heap.setIfInBounds bl (.stringIter ⟨l.toArray⟩ (qyq l pos)) }:=by
      have hsz:pos<(⟨l.toArray⟩:ByteArray).size:=by rw[ByteArray.size_mk_toArray]; exact hlt
      simp only[Instr.next,Sem.run_bind,qxp hheap,Result.andThen_ok]
      simp only[hsz,if_true,Sem.run_bind,q5a _ hheap,Result.andThen_ok,Sem.run_pure]
      rfl
     simp only[hr,Result.andThen_ok,Sem.run_pure]
     refine⟨ρ,H,List.prefix_refl _,PH.le.refl H,?_,?_⟩
     ·refine s.upd ho hρ rfl rfl hH (q2j w bl _) ⟨bl,rfl,?_,hH⟩
      rw[← hp]
      exact zaq hheap
     ·simp only[qb6,if_true]
      exact⟨_,_,rfl,by simp[qcn],by simp[qcn]⟩
    ·have hok:ok=false:=by rw[← hok]; simpa using hlt
     subst hok
     have hr:(Instr.next (.pointer (some ⟨bl,0,none⟩)) true ty).run P w=.ok (.tuple #[.bool false]) w:=by
      have hsz:¬ pos<(⟨l.toArray⟩:ByteArray).size:=by rw[ByteArray.size_mk_toArray]; exact hlt
      simp only[Instr.next,Sem.run_bind,qxp hheap,Result.andThen_ok]
      simp only[hsz,if_false,Sem.run_pure]
     simp only[hr,Result.andThen_ok,Sem.run_pure]
     refine⟨ρ,H,List.prefix_refl _,PH.le.refl H,?_,by simp[qb6]⟩
     have hpp:p'=pos:=by rw[← hp]; rfl
     subst hpp
     rw[show lo.set k (.sit l p')=lo from q74 ho]
     exact s
   ·exact h.elim
  ·exact h.elim
 ·rename_i t
  split at h
  ·rename_i kt et ht
   split at h
   ·rename_i d hd
    have h:=zgk h
    have h:=qfc h
    have h:=qgy h
    refine⟨_,_,h,qgg.push _,fun hg bs ρ H w eval s hx=>?_⟩
    have hr:(Instr.makeMap t none).run P w=.ok (.map (some w.heap.size)) (w.alloc (.map #[] 0)):=rfl
    simp only[execOp,Option.map_none,Sem.run_bind,hr,Result.andThen_ok,Sem.run_pure]
    exact⟨_,H,List.prefix_append _ _,PH.le.refl H,s.pushMap,w.heap.size,by simp[← s.hlen],rfl⟩
   ·exact h.elim
  ·exact h.elim
 ·rename_i t m k x
  obtain⟨fv,lo',h,hl,hs⟩:=qzi h
  refine⟨fv,lo',h,qgg.len hl,fun hg bs ρ H w eval s hx=>?_⟩
  obtain⟨w',hr,af⟩:=hs bs ρ H w eval s (hx m (by simp[Op.operands])) (hx k (by simp[Op.operands])) (hx x (by simp[Op.operands]))
  simp only[execOp,Sem.run_bind,hr,Result.andThen_ok,Sem.run_pure]
  exact af
 ·rename_i t m k x
  obtain⟨fv,lo',h,hl,hs⟩:=qzi h
  refine⟨fv,lo',h,qgg.len hl,fun hg bs ρ H w eval s hx=>?_⟩
  obtain⟨w',hr,af⟩:=hs bs ρ H w eval s (hx m (by simp[Op.operands])) (hx k (by simp[Op.operands])) (hx x (by simp[Op.operands]))
  simp only[execOp,Sem.run_bind,hr,Result.andThen_ok,Sem.run_pure]
  exact af
 ·rename_i x t
  have h0:=qbh h; clear h; obtain⟨x',h,hx'⟩:=h0
  split at h
  ·rename_i k
   have h0:=qdc h; clear h; obtain⟨o,ho,h⟩:=h0
   split at h
   ·rename_i d es mk
    split at h
    ·rename_i kt et ht
     obtain⟨h,hlt⟩:=qii h
     refine⟨_,_,h,qgg.set _ _,fun hg bs ρ H w eval s hx=>?_⟩
     obtain⟨bl,hρ,ex⟩:=hx' ρ H _ hg (hx x (by simp[Op.operands,Call.operands]))
     obtain⟨bl',ents,clock,e,hheap,rmm,_,hH⟩:=s.objs k _ _ ho hρ
     cases e
     simp only[execOp,resolve,invoke,builtin,Sem.run_bind,Sem.run_pure,Result.andThen_ok,List.map_toArray,List.map_cons,List.map_nil,ex]
     have hr:(Builtin.clear_ #[t] ty #[.map (some bl)]).run P w=.ok (.tuple #[]) { w with heap:=w.heap.setIfInBounds bl (.map #[] clock) }:=by
      simp[Builtin.clear_,run_underlying ht,MapKept.run_getObj_map hheap,MapKept.run_setObj_map _ hheap]
     simp only[hr,Result.andThen_ok]
     refine⟨ρ,H,List.prefix_refl _,PH.le.refl H,?_,by simp[qb6,qcn,qd1]⟩
     refine s.upd ho hρ rfl rfl hH (q2j w bl (.map #[] clock)) ?_
     exact⟨bl,#[],clock,rfl,(MapKept.heap_set hheap).1,rfl,⟨MapKept.stamped_empty clock,by simp,fun _ _ h=>by cases h⟩,hH⟩
    ·exact h.elim
   ·exact h.elim
  ·exact h.elim
 ·exact h.elim
end
end Ax
end
section
namespace Ax
open Go
theorem qpe.get {H:PH} {z:Nat}:∀ {rows:List (List PV)} {vs:List Value} {i:Nat} {r:List PV},qpe H z rows vs→rows[i]? =some r →
  ∃ a,qd1 H r a∧∀ j u,a[j]? =some u→vs[i * z+j]? =some u
 | [],_,_,_,_,h=>by simp at h
 | q::rs,vs,i,r,x,h=>by
  obtain⟨hz,a,b,rfl,ra,rb⟩:=x
  have hl:a.length=z:=by rw[ra.length,hz]
  cases i with
  | zero=>
   simp at h
   subst h
   refine⟨a,ra,fun j u hu=>?_⟩
   rw[Nat.zero_mul,Nat.zero_add,List.getElem?_append_left (List.getElem?_eq_some_iff.1 hu).1]
   exact hu
  | succ i=>
   obtain⟨c,rc,hc⟩:=rb.get (i:=i) (by simpa using h)
   refine⟨c,rc,fun j u hu=>?_⟩
   have:=hc j u hu
   rw[List.getElem?_append_right (by rw[hl,Nat.add_mul]; omega)]
   have e:(i+1) * z+j - a.length=i * z+j:=by rw[hl,Nat.add_mul]; omega
   rw[e]
   exact this
theorem qpe.over {H:PH} {z:Nat}:∀ {rows:List (List PV)} {vs:List Value} {i off:Nat} {r ps:List PV} {c:List Value},qpe H z rows vs→rows[i]? =some r→qd1 H ps c→off+ps.length≤r.length →
  qpe H z (rows.set i (r.take off++ps++r.drop (off+ps.length))) (vs.take (i * z+off)++c++vs.drop (i * z+off+c.length))
 | [],_,_,_,_,_,_,_,h,_,_=>by simp at h
 | q::rs,vs,i,off,r,ps,c,x,h,rp,hle=>by
  obtain⟨hz,a,b,rfl,ra,rb⟩:=x
  have hl:a.length=z:=by rw[ra.length,hz]
  have hc:=rp.length
  cases i with
  | zero=>
   simp at h
   subst h
   have hoff:off≤a.length:=by rw[ra.length]; omega
   have hoff2:off+c.length≤a.length:=by rw[ra.length,hc]; omega
   refine⟨?_,a.take off++c++a.drop (off+c.length),b,?_,?_,rb⟩
   ·simp only[List.length_append,List.length_take,List.length_drop]; omega
   ·rw[Nat.zero_mul,Nat.zero_add,List.take_append_of_le_length hoff,List.drop_append_of_le_length hoff2]
    simp
   ·rw[hc]
    exact((ra.take off).append rp).append (ra.drop _)
  | succ i=>
   refine⟨hz,a,b.take (i * z+off)++c++b.drop (i * z+off+c.length),?_,ra,rb.over (by simpa using h) rp hle⟩
   have e1:(i+1) * z+off=a.length+(i * z+off):=by rw[hl,Nat.add_mul]; omega
   rw[e1,List.take_length_add_append,Nat.add_assoc a.length,List.drop_length_add_append]
   simp
theorem zfy {α:Type} {cur c:List α} {p m N:Nat} (hp:p+m≤N) (hm:c.length=m) (hN:N≤cur.length):(cur.take p++c++cur.drop (p+m)).take N=(cur.take N).take p++c++(cur.take N).drop (p+m):=by
 have h1:(cur.take p++c).length=p+m:=by simp[List.length_take,hm]; omega
 rw[List.take_append,h1,List.take_of_length_le (by omega),List.take_take,Nat.min_eq_left (by omega),List.drop_take]
section
variable {P:Program} {w:World}
theorem za3 {ρ:List Value} {H:PH} {e:TypeId} {z:Nat} {rows:List (List PV)} {b n cap:Nat} (h:q2f ρ H w (.slice (some ⟨b,0,none⟩) n cap) (.vec e z rows)) :
  ∃ (cap':Nat) (cur:Array Value) (xs:List Value),n=rows.length∧w.heap[b]? =some (.cells cur e (0,0))∧rows.length≤cap'∧cap'≤maxLen∧cur.size=cap' * z∧cap=cap'∧cur.toList.take (rows.length * z)=xs∧qpe H z rows xs∧(∀ u∈xs,u.oneCell'=true)∧∀ o,H b o=none:=by
 obtain⟨xs,ho,hr,h1,hh⟩:=h
 rcases ho.2 with ⟨e,_⟩|⟨g,cap',cur,e,_,hg,hn,hm,hs,ht⟩
 ·cases e
 ·cases e
  exact⟨cap,cur,xs,rfl,hg,hn,hm,hs,rfl,ht,hr,h1,hh b rfl⟩
theorem zbp {t:TypeId} {lo:List AObj} {k i off z:Nat} {R:FV→Prop} (h:zff P t lo k z i off R) :
  ∃ fv,R fv∧∀ (bs:Base) (ρ:List Value) (H:PH) (w:World) (v:Value),SatW bs ρ H lo w→qb6 ρ H (.eptr k z i off) v→∃ u,(Instr.loadAt t v).run P w=.ok u w∧qb6 ρ H fv u:=by
 unfold zff at h
 have h0:=qdc h; clear h; obtain⟨o,ho,h⟩:=h0
 split at h
 ·rename_i e z' rows
  obtain⟨row,⟨rfl,hrow⟩,h⟩:=h
  obtain⟨h,hoff⟩:=qm4 h
  obtain⟨d,ti,hd,hi,h⟩:=qjw h
  have cells:∀ (bs:Base) (ρ:List Value) (H:PH) (w:World) (v:Value),SatW bs ρ H lo w→qb6 ρ H (.eptr k z' i off) v →
    ∃ (b:Nat) (a:List Value),v=.pointer (some ⟨b,i * z'+off,none⟩)∧qd1 H row a∧∀ j u,(a.drop off)[j]? =some u→w.cell? ⟨b,i * z'+off+j,none⟩=some u:=by
   intro bs ρ H w v s hx
   obtain⟨b,n,cap,hρ,rfl⟩:=hx
   obtain⟨cap',cur,xs,rfl,hg,hn,hm,hs,rfl,ht,hr,h1,hh⟩:=za3 (s.objs k _ _ ho hρ)
   obtain⟨a,ra,hc⟩:=hr.get hrow
   refine⟨b,a,rfl,ra,fun j u hu=>?_⟩
   rw[List.getElem?_drop]at hu
   have:=hc _ _ hu
   rw[← ht,List.getElem?_take]at this
   split at this
   ·rw[Nat.add_assoc]
    rw[cell_of_row w b _ _ e _ hg]
    simpa using this
   ·cases this
  split at h
  ·rename_i hagg
   obtain⟨h,hn⟩:=qmz h
   refine⟨_,h,fun bs ρ H w v s hx=>?_⟩
   obtain⟨b,a,rfl,ra,hc⟩:=cells bs ρ H w v s hx
   refine⟨_,qpq hd hi hc (by have:=ra.length; simp at hn ⊢; omega) hagg,?_⟩
   simp only[qb6,qcn]
   exact⟨_,rfl,(ra.drop off).take _⟩
  ·rename_i hagg
   split at h
   ·rename_i c r hcr
    refine⟨_,h,fun bs ρ H w v s hx=>?_⟩
    obtain⟨b,a,rfl,ra,hc⟩:=cells bs ρ H w v s hx
    have rd:=ra.drop off
    rw[hcr]at rd
    simp only[qd1]at rd
    obtain⟨u,us,e,ru,_⟩:=rd
    exact⟨u,qnt hd (by simpa using hc 0 u (by rw[e]; rfl)) hagg,ru⟩
   ·exact h.elim
 ·rename_i l
  have h0:=qjw h; clear h; obtain⟨d,ti,hd,hi,h⟩:=h0
  split at h
  ·exact h.elim
  ·rename_i hagg
   have h0:=h; clear h; obtain⟨c,⟨rfl,rfl,hc⟩,h⟩:=h0
   refine⟨_,h,fun bs ρ H w v s hx=>?_⟩
   obtain⟨b,n,cap,hρ,rfl⟩:=hx
   obtain⟨b',cs,e',cap',lo',hi',e1,hg,_,h2,_⟩:=s.objs k _ _ ho hρ
   cases e1
   refine⟨.int .u8 c.toNat,qnt hd ?_ hagg,by simp[qb6,qcn]⟩
   simp only[World.cell?,hg,Nat.mul_one,Nat.add_zero]
   exact h2 i c hc
 ·exact h.elim
theorem zjk {H:PH} {z:Nat}:∀ {rows:List (List PV)} {vals:List Value},rows.length=vals.length→(∀ r∈rows,r.length=z) →
  (∀ (i:Nat) (r:List PV) (v:Value),rows[i]? =some r→vals[i]? =some v→qd1 H r v.cells.toList)→qpe H z rows (vals.flatMap (·.cells.toList))
 | [],[],_,_,_=>rfl
 | [],_::_,hl,_,_=>by simp at hl
 | r::rs,[],hl,_,_=>by simp at hl
 | r::rs,v::vals,hl,hz,hr=>⟨hz r (by simp),v.cells.toList,vals.flatMap (·.cells.toList),by rw[List.flatMap_cons],hr 0 r v rfl rfl,
   zjk (by simpa using hl) (fun r hr=>hz r (by simp[hr])) (fun i r' v' h1 h2=>hr (i+1) r' v' (by simpa using h1) (by simpa using h2))⟩
theorem qpe.le {H:PH} {z:Nat} {p q:List (List PV)} {vs:List Value} (h:p=q∨q9a p q) (r:qpe H z p vs):qpe H z q vs:=by
 rcases h with rfl|h
 ·exact r
 ·have go:∀ {p q:List (List PV)} {vs:List Value},q9a p q→qpe H z p vs→qpe H z q vs:=by
   intro p
   induction p with
   | nil=>intro q vs h r; cases q with
    | nil=>exact r
    | cons _ _=>simp[q9a]at h
   | cons a l ih=>intro q vs h r; cases q with
    | nil=>simp[q9a]at h
    | cons b m=>
     simp only[q9a]at h
     obtain⟨e,x,y,e1,q1,q2⟩:=r
     exact⟨by rw[← e,qx9 h.1],x,y,e1,qwg h.1 q1,ih h.2 q2⟩
  exact go h r
theorem qub {E:Env} {g:G} {t:TypeId} {n:Nat} {parts:List (Nat×Operand)} {R:FV→Prop} (h:qmv P E g t n parts R) :
  ∃ e i rows,P.underlying t=some (.slice e)∧P.info? e=some i∧R (.p (.sl rows))∧rows.length=n∧n≤maxLen∧(gOn g→∀ (ρ:List Value) (H:PH) (w:World) (eval:Operand→Value),(∀ x∈parts.map (·.2),qb6 ρ H (evF (qb1 E) x) (eval x)) →
   ∃ xs:List Value,(Instr.buildSlice t n (parts.map fun(i,x)=>(i,eval x)).toArray).run P w=.ok (.slice (some ⟨w.heap.size,0,none⟩) n n) (w.alloc (.cells xs.toArray e))∧qpe H i.size rows xs∧∀ u∈xs,u.oneCell'=true):=by
 unfold qmv at h
 obtain⟨e,i,hu,hi,h⟩:=qj0 h
 split at h
 ·rename_i hn
  have hn:parts.length=n:=Nat.eq_of_beq_eq_true hn
  split at h
  ·rename_i h1n
   split at h
   ·rename_i h1z
    split at h
    case h_2=>exact h.elim
    rename_i hbig
    split at h
    case h_2=>exact h.elim
    rename_i i' hi'
    have:i'=i:=Option.some.inj (hi'.symm.trans hi)
    subst this
    split at h
    case h_2=>exact h.elim
    rename_i zv hzv
    obtain⟨ps,h,hpl,hps⟩:=qs9 h
    obtain⟨rows,h,hrl,hrows⟩:=qz3 h
    obtain⟨hok,rows',hle,h⟩:=h
    have hrl2:rows'.length=rows.length:=by
     rcases hle with rfl|hle
     ·rfl
     ·exact(qyp hle).symm
    have hn24:n≤maxLen:=by
     have a1:=Nat.le_of_ble_eq_true hbig
     have a2:1≤i'.size:=Nat.le_of_ble_eq_true h1z
     have a3:n * 1≤n * i'.size:=Nat.mul_le_mul_left n a2
     unfold maxLen
     omega
    refine⟨e,i',rows',hu,hi,h,by rw[hrl2,hrl,hpl,hn],hn24,fun hg ρ H w eval hx=>?_⟩
    obtain⟨vals,ev,rv⟩:=hps hg ρ H eval hx
    have hcells:=hrows H vals rv
    have hvl:vals.length=n:=by rw[rv.length,hpl,hn]
    have hsz:∀ v∈vals,v.cells.size=i'.size:=by
     intro v hv
     obtain⟨j,hj⟩:=List.getElem?_of_mem hv
     have hjl:=(List.getElem?_eq_some_iff.1 hj).1
     have hrj:j<rows.length:=by rw[hrl,hpl,hn,← hvl]; exact hjl
     have:=(hcells j _ v (List.getElem?_eq_getElem hrj) hj).length
     rw[(hok _ (List.getElem_mem hrj)).1]at this
     simpa using this
    obtain⟨cells',ef,hc'⟩:=qzj i'.size n (fun i_1=>some (i_1 * i'.size,i'.size)) (fun j _=>rfl) vals 0 ((Array.range (n * i'.size)).map (zv.cells[· % zv.cells.size]!)) hsz (by omega) (by simp)
    simp only[Nat.zero_mul,List.take_zero,List.nil_append]at hc'
    have hone:∀ u∈cells'.toList,u.oneCell'=true:=by
     rw[hc']
     intro u hu'
     obtain⟨v,hv,huv⟩:=List.mem_flatMap.1 hu'
     obtain⟨j,hj⟩:=List.getElem?_of_mem hv
     have hjl:=(List.getElem?_eq_some_iff.1 hj).1
     have hrj:j<rows.length:=by rw[hrl,hpl,hn,← hvl]; exact hjl
     have h1:=hcells j _ v (List.getElem?_eq_getElem hrj) hj
     have h2:=(hok _ (List.getElem_mem hrj)).2
     exact qd1.one (fun c hc=>(List.all_eq_true.1 h2) c hc) h1 u huv
    refine⟨cells'.toList,?_,?_,hone⟩
    ·have h0:n * i'.size≠0:=by
      have a1:1≤n:=Nat.le_of_ble_eq_true h1n
      have a2:1≤i'.size:=Nat.le_of_ble_eq_true h1z
      exact Nat.mul_ne_zero (by omega) (by omega)
     have hb:¬ 16777216<n * i'.size:=by
      have:=Nat.le_of_ble_eq_true hbig
      omega
     simp only[Instr.buildSlice,Sem.run_bind,run_underlying hu,Result.andThen_ok,Go.sizeOf,typeInfo,run_program,hi,Sem.run_pure]
     rw[show(2:Nat) ^ 24=16777216 from rfl]
     simp only[hb,if_false,gt_iff_lt,h0,Sem.run_bind,zeroValue,typeInfo,run_program,hi,hzv,Result.andThen_ok,Sem.run_pure]
     rw[ev,ef]
     simp[newRow]
    ·rw[hc']
     refine qpe.le hle ?_
     exact zjk (by rw[hrl,hpl,hn,hvl]) (fun r hr=>(hok r hr).1) hcells
   ·exact h.elim
  ·exact h.elim
 ·exact h.elim
theorem q9j {E:Env} {lo:List AObj} {t:TypeId} {n:Nat} {parts:List (Nat×Operand)} {R:FV→List AObj→Prop} (h:zb5 P E lo t n parts R) :
  ∃ fv lo',R fv lo'∧qgg true lo lo'∧∀ (bs:Base) (ρ:List Value) (H:PH) (w:World) (eval:Operand→Value),SatW bs ρ H lo w→(∀ x∈parts.map (·.2),qb6 ρ H (evF (qb1 E) x) (eval x)) →
   ∃ v w',(Instr.buildSlice t n (parts.map fun(i,x)=>(i,eval x)).toArray).run P w=.ok v w'∧qsw bs ρ H fv lo' v w':=by
 unfold zb5 at h
 have h0:=qj0 h; clear h; obtain⟨e,i,hu,hi,h⟩:=h0
 have h0:=qub h; clear h; obtain⟨e',i',rows,hu',hi',h,hn,hmax,hs⟩:=h0
 have e1:e'=e:=by rw[hu]at hu'; cases hu'; rfl
 subst e1
 have e2:i'=i:=Option.some.inj (hi'.symm.trans hi)
 subst e2
 simp only at h
 have h:=qfc h
 have h:=qgy h
 refine⟨_,_,h,qgg.push _,fun bs ρ H w eval s hx=>?_⟩
 obtain⟨xs,hr,hv,hone⟩:=hs trivial ρ H w eval hx
 refine⟨_,_,hr,ρ++[.slice (some ⟨w.heap.size,0,none⟩) n n],H,List.prefix_append _ _,PH.le.refl H,?_,?_⟩
 ·have hnew:∀ o,H w.heap.size o=none:=fun o=>by
   cases hx:H w.heap.size o with
   | none=>rfl
   | some u=>exact absurd (s.sath.lt hx) (Nat.lt_irrefl _)
  refine s.push (g:=w.heap.size) (.inl rfl) (s.fresh (Nat.le_refl _)) (.inr s.keep.size) (PH.le.refl H) (qwd s.sath _) (fun b o v h=>.inl ⟨v,h⟩) (qso w _ _) ?_
  refine⟨xs,⟨hv.length,.inr ⟨w.heap.size,n,xs.toArray,by rw[hn],Nat.zero_le _,heap_alloc_new w _,by rw[hn]; exact Nat.le_refl _,hmax,by simp[hv.length,hn],?_⟩⟩,hv,hone,fun b hb=>?_⟩
  ·rw[← hv.length]
   exact List.take_length
  ·simp[qck]at hb
   subst hb
   exact hnew
 ·exact⟨by simp[← s.hlen],.inr ⟨w.heap.size,n,by rw[hn]⟩⟩
end
end Ax
end
section
namespace Ax
open Go
section
variable {P:Program} {w:World}
theorem q0l {t ty e:TypeId} {i:TypeInfo} {z:Value} (ht:P.underlying t=some (.slice e)) (hi:P.info? e=some i) (hz:i.zero=some z) (hzs:z.cells.size=i.size)
  {v:Value} {n:Nat} {xs:List Value} (hown:w.ownsRow 0 e i.size v n xs)
  {x:Value} {m:Nat} {news:List Value} (hl:news.length=m * i.size) (h1:∀ u∈news,u.oneCell'=true)
  (hx:(m=0∧x=.slice none 0 0)∨∃ a c,x=.slice (some a) m c∧∀ j u,news[j]? =some u→w.cell? (a.add j)=some u)
  (h63:n+m≤9223372036854775807) (hbytes:(n+m) * i.bytes≤140737488355328) :
  ∃ v' w',(Builtin.append_ #[t,t] ty #[v,x]).run P w=.ok v' w'∧w'.ownsRow 0 e i.size v' (n+m) (xs++news) ∧
   ((qck v'=qck v∧(∀ g,qck v=some g→Keep (fun b=>b=g) w w')∧(qck v=none→w'=w))∨(qck v'=some w.heap.size∧Keep (fun b=>b=w.heap.size) w w')):=by
 have hlen:(xs++news).length=(n+m) * i.size:=by rw[List.length_append,hown.1,hl,Nat.add_mul]
 have h63':n+m≤maxLen:=by unfold maxLen; omega
 rcases hx with ⟨rfl,rfl⟩|⟨ad,c,rfl,hnews⟩
 ·have hn:news=[]:=List.eq_nil_of_length_eq_zero (by simpa using hl)
  subst hn
  refine⟨v,w,run_append_owned_none (P:=P) (w:=w) 0 t ty e i i.size ht hi v n xs hown,by simpa using hown,.inl ⟨rfl,fun g _=>Keep.refl _ w,fun _=>rfl⟩⟩
 have grown:∀ (old:Nat),(w.drew.alloc (.cells (xs.toArray++news.toArray++Builtin.zeroCells z.cells (grownCap w (n+m) old e - (n+m))) e)).ownsRow 0 e i.size
    (.slice (some ⟨w.heap.size,0,none⟩) (n+m) (grownCap w (n+m) old e)) (n+m) (xs++news):=by
  intro old
  have hge:=grownCap_ge w (n+m) old e
  have hcm:grownCap w (n+m) old e≤maxLen:=grownCap_le_maxLen w (n+m) old e h63'
  refine⟨hlen,.inr ⟨w.heap.size,_,_,rfl,Nat.zero_le _,heap_alloc_new w.drew _,hge,hcm,?_,?_⟩⟩
  ·simp only[Array.size_append,List.size_toArray,size_zeroCells,hzs,hown.1,hl,← Nat.add_mul]
   congr 1
   omega
  ·simp only[Array.toList_append,List.append_assoc]
   rw[← List.append_assoc,← hlen]
   exact List.take_left
 rcases hown.2 with ⟨rfl,rfl⟩|⟨g,cap,cur,rfl,hbg,hg,hnc,hcm,hcs,htake⟩
 ·have hxs:xs=[]:=List.eq_nil_of_length_eq_zero (by simpa using hown.1)
  subst hxs
  by_cases hm:m=0
  ·subst hm
   have hn:news=[]:=List.eq_nil_of_length_eq_zero (by simpa using hl)
   subst hn
   refine⟨.slice none 0 0,w,?_,World.ownsRow_nil w 0 e i.size,.inl ⟨rfl,fun g _=>Keep.refl _ w,fun _=>rfl⟩⟩
   simp[Builtin.append_,run_underlying ht,Go.sizeOf,typeInfo,hi,Builtin.lenOf,Builtin.firstCells,loadCells,loadCellsFrom]
  ·have hr:=run_append_nil (P:=P) w t ty e i z ht hi hz ad m c news hl hnews (by omega) (by omega) (by have hb:=hbytes; simp only[Nat.zero_add]at hb; omega)
   have hgr:=grown 0
   simp only[Nat.zero_add,List.nil_append,Array.empty_append]at hgr ⊢
   exact⟨_,_,hr,hgr,.inr ⟨rfl,qn2 w _ _⟩⟩
 ·by_cases hroom:n+m≤cap
  ·have hfit:n * i.size+news.length≤cur.size:=by rw[hl,hcs,← Nat.add_mul]; exact Nat.mul_le_mul_right _ hroom
   have hr:=run_append_room (P:=P) w t ty e i ht hi g n cap cur hg ad m c news hl hnews h1 hroom hfit
   refine⟨_,_,hr,⟨hlen,.inr ⟨g,cap,_,rfl,hbg,setRow_heap w g cur _ e _ hg,hroom,hcm,?_,?_⟩⟩,.inl ⟨rfl,fun g' hg'=>?_,fun h=>by simp[qck]at h⟩⟩
   ·simp only[List.size_toArray,List.length_append,List.length_take,List.length_drop,Array.length_toList]
    omega
   ·rw[htake,← hlen]
    exact List.take_left
   ·simp[qck]at hg'
    subst hg'
    exact⟨rfl,rfl,rfl,by simp,fun k _ hk=>setRow_other w g k _ hk⟩
  ·have holds:∀ j u,xs[j]? =some u→w.cell? ((⟨g,0,none⟩:Addr).add j)=some u:=hown.cells (g:=g) rfl
   have hr:=run_append_grow (P:=P) w t ty e i z ht hi hz ⟨g,0,none⟩ n cap xs hown.1 holds ad m c news hl hnews (by omega) (by omega) (growslice_fits (by omega) hbytes)
   exact⟨_,_,hr,grown cap,.inr ⟨rfl,qn2 w _ _⟩⟩
theorem qsr {t u ty e:TypeId} {i:TypeInfo} (ht:P.underlying t=some (.slice e)) (hu:P.underlying u=some .string) (hi:P.info? e=some i) (hz:i.zero=some (.int .u8 0)) (hsz:i.size=1)
  {v:Value} {n:Nat} {xs:List Value} (hown:w.ownsRow 0 e 1 v n xs) (str:List UInt8)
  (h63:n+str.length≤9223372036854775807) (hbytes:(n+str.length) * i.bytes≤140737488355328) :
  ∃ v' w',(Builtin.append_ #[t,u] ty #[v,.string ⟨str.toArray⟩]).run P w=.ok v' w'∧w'.ownsRow 0 e 1 v' (n+str.length) (xs++Lib.strCells ⟨str.toArray⟩) ∧
   ((qck v'=qck v∧(∀ g,qck v=some g→Keep (fun b=>b=g) w w')∧(qck v=none→w'=w))∨(qck v'=some w.heap.size∧Keep (fun b=>b=w.heap.size) w w')):=by
 have hs:(⟨str.toArray⟩:ByteArray).size=str.length:=qrl str
 generalize hsg:(⟨str.toArray⟩:ByteArray)=sb at *
 have hl:(Lib.strCells sb).length=str.length:=by rw[Lib.strCells_length,hs]
 have hlen:(xs++Lib.strCells sb).length=(n+str.length) * 1:=by rw[List.length_append,hown.1,hl,Nat.mul_one,Nat.mul_one]
 have h63':n+str.length≤maxLen:=by unfold maxLen; omega
 have grown:∀ (old:Nat),(w.drew.alloc (.cells (xs.toArray++(Lib.strCells sb).toArray++Builtin.zeroCells (Value.int .u8 0).cells (grownCap w (n+str.length) old e - (n+str.length))) e)).ownsRow 0 e 1
    (.slice (some ⟨w.heap.size,0,none⟩) (n+str.length) (grownCap w (n+str.length) old e)) (n+str.length) (xs++Lib.strCells sb):=by
  intro old
  have hge:=grownCap_ge w (n+str.length) old e
  have hcm:grownCap w (n+str.length) old e≤maxLen:=grownCap_le_maxLen w (n+str.length) old e h63'
  refine⟨hlen,.inr ⟨w.heap.size,_,_,rfl,Nat.zero_le _,heap_alloc_new w.drew _,hge,hcm,?_,?_⟩⟩
  ·have h1:(Value.int .u8 0).cells.size=1:=rfl
   simp only[Array.size_append,List.size_toArray,size_zeroCells,h1,hown.1,hl]
   omega
  ·simp only[Array.toList_append,List.append_assoc]
   rw[← List.append_assoc,← hlen]
   exact List.take_left
 rcases hown.2 with ⟨rfl,rfl⟩|⟨g,cap,cur,rfl,hbg,hg,hnc,hcm,hcs,htake⟩
 ·have hxs:xs=[]:=List.eq_nil_of_length_eq_zero (by simpa using hown.1)
  subst hxs
  by_cases hm:str.length=0
  ·have hn:Lib.strCells sb=[]:=List.eq_nil_of_length_eq_zero (by omega)
   refine⟨.slice none 0 0,w,?_,by rw[hm,hn]; exact World.ownsRow_nil w 0 e 1,.inl ⟨rfl,fun g _=>Keep.refl _ w,fun _=>rfl⟩⟩
   simp[Builtin.append_,run_underlying ht,run_underlying hu,Go.sizeOf,typeInfo,hi,Builtin.lenOf,Builtin.firstCells,hs,hm]
  ·have hr:=run_append_nil_string (P:=P) w t u ty e i (.int .u8 0) ht hu hi hz sb (by omega) (by omega) (by rw[hs]; have hb:=hbytes; simp only[Nat.zero_add]at hb; omega)
   have hgr:=grown 0
   simp only[Nat.zero_add,List.nil_append,Array.empty_append]at hgr ⊢
   have e1:sb.data.map (fun b=>Value.int .u8 b.toNat)=(Lib.strCells sb).toArray:=by
    apply Array.ext'
    simp[Lib.strCells]
   rw[e1,hs]at hr
   exact⟨_,_,hr,hgr,.inr ⟨rfl,qn2 w _ _⟩⟩
 ·by_cases hroom:n+str.length≤cap
  ·have hfit:n+sb.size≤cur.size:=by rw[hs]; omega
   have hr:=Lib.run_append_room_string (P:=P) w t u ty e i ht hu hi hsz g n cap cur hg sb (by omega) hfit
   rw[hs]at hr
   refine⟨_,_,hr,⟨hlen,.inr ⟨g,cap,_,rfl,hbg,setRow_heap w g cur _ e _ hg,hroom,hcm,?_,?_⟩⟩,.inl ⟨rfl,fun g' hg'=>?_,fun h=>by simp[qck]at h⟩⟩
   ·simp only[List.size_toArray,List.length_append,List.length_take,List.length_drop,Array.length_toList,hl]
    omega
   ·rw[Nat.mul_one]at htake
    rw[htake,← hlen]
    exact List.take_left
   ·simp[qck]at hg'
    subst hg'
    exact⟨rfl,rfl,rfl,by simp,fun k _ hk=>setRow_other w g k _ hk⟩
  ·have holds:∀ j u,xs[j]? =some u→w.cell? ((⟨g,0,none⟩:Addr).add j)=some u:=hown.cells (g:=g) rfl
   have hr:=Lib.run_append_grow_string (P:=P) w t u ty e i (.int .u8 0) ht hu hi hz ⟨g,0,none⟩ n cap xs (by rw[hsz]; exact hown.1) holds sb (by omega) (by omega) (growslice_fits (by omega) (by rw[hs]; exact hbytes))
   rw[hs]at hr
   exact⟨_,_,hr,grown cap,.inr ⟨rfl,qn2 w _ _⟩⟩
theorem zbi (H:PH):∀ (l:List UInt8),qpe H 1 (qdr l) (Lib.strCells ⟨l.toArray⟩)
 | []=>by simp[qdr,qpe,Lib.strCells]
 | b::l=>by
  have:=zbi H l
  simp only[qdr,List.map_cons,qpe]
  refine⟨rfl,[.int .u8 b.toNat],Lib.strCells ⟨l.toArray⟩,by simp[Lib.strCells],?_,this⟩
  simp[qd1,qcn]
theorem zbf {f:FV} {R:List (List PV)→Prop} (h:zf3 f R):∃ rows,R rows∧∀ (ρ:List Value) (H:PH) (x:Value),qb6 ρ H f x→qcn H (.sl rows) x:=by
 unfold zf3 at h
 split at h
 ·exact⟨_,h,fun _ _ _ r=>r⟩
 ·exact⟨_,h,fun _ _ _ r=>r.2⟩
 ·refine⟨[],h,fun _ _ _ r=>?_⟩
  simp only[qb6,qcn]at r ⊢
  exact .inl ⟨trivial,.inl r⟩
 ·exact h.elim
def qm7 (H:PH) (v:Value) (ys:List Value):PH:=fun b o=>if qck v=some b∧o<ys.length then ys[o]? else H b o
theorem qo8 {bs:Base} {ρ:List Value} {H:PH} {lo:List AObj} (s:SatW bs ρ H lo w) {e:TypeId} {z:Nat} {v:Value} {n:Nat} {xs:List Value} (hown:w.ownsRow 0 e z v n xs)
  (hxs:∀ b,qck v=some b→(∀ j u,xs[j]? =some u→H b j=some u)∧∀ o,n * z≤o→H b o=none)
  (hfree:∀ (g:Nat),qck v=some g→∀ (k:Nat) (o':AObj) (v':Value),lo[k]? =some o'→ρ[k]? =some v'→o'.live=true→qck v'≠some g)
  (howns:∀ g,qck v=some g→bs.S g∨bs.w0.heap.size≤g)
  {w':World} {v':Value} {m:Nat} {news:List Value} (hnl:news.length=m * z) (h1:∀ u∈xs++news,u.oneCell'=true)
  (hown':w'.ownsRow 0 e z v' (n+m) (xs++news))
  (hk:(qck v'=qck v∧(∀ g,qck v=some g→Keep (fun b=>b=g) w w')∧(qck v=none→w'=w))∨(qck v'=some w.heap.size∧Keep (fun b=>b=w.heap.size) w w')) :
  PH.le H (qm7 H v' (xs++news))∧SatW bs (ρ++[v']) (qm7 H v' (xs++news)) (lo++[.tail e z (n+m)]) w':=by
 have hlen:(xs++news).length=(n+m) * z:=hown'.1
 have hin:∀ b o u,qck v'=some b→H b o=some u→o<xs.length∧(xs++news)[o]? =some u:=by
  intro b o u hb hu
  rcases hk with ⟨e1,_⟩|⟨e1,_⟩
  ·rw[e1]at hb
   obtain⟨h2,h3⟩:=hxs b hb
   have hlt:o<xs.length:=by
    rw[hown.1]
    rcases Nat.lt_or_ge o (n * z)with h|h
    ·exact h
    ·rw[h3 o h]at hu; cases hu
   refine⟨hlt,?_⟩
   rw[List.getElem?_append_left hlt]
   have:=h2 o _ (List.getElem?_eq_getElem hlt)
   rw[hu]at this
   rw[List.getElem?_eq_getElem hlt,← Option.some.inj this]
  ·rw[e1]at hb
   cases hb
   exact absurd (s.sath.lt hu) (Nat.lt_irrefl _)
 have hle:PH.le H (qm7 H v' (xs++news)):=by
  intro b o u hu
  unfold qm7
  split
  ·rename_i hc; exact(hin b o u hc.1 hu).2
  ·exact hu
 refine⟨hle,?_⟩
 have hcell:∀ g,qck v'=some g→∀ o u,(xs++news)[o]? =some u→w'.cell? ⟨g,o,none⟩=some u:=by
  intro g hg o u hu
  have:=hown'.cells (g:=g) (by
   rcases hown'.2 with ⟨rfl,_⟩|⟨g',cap,cur,rfl,_⟩
   ·simp[qck]at hg
   ·simpa[qck,Value.ownBlock]using hg) o u hu
  rwa [Addr.add_lit,Nat.zero_add]at this
 have hsat:SatH (qm7 H v' (xs++news)) w':=by
  refine⟨?_,s.sath.root.mono hle⟩
  intro b o u hu
  unfold qm7 at hu
  split at hu
  ·rename_i hc
   exact⟨hcell b hc.1 o u hu,h1 u (List.mem_of_getElem? hu)⟩
  ·rename_i hc
   obtain⟨hcl,hone⟩:=s.sath.cell b o u hu
   refine⟨?_,hone⟩
   have hbne:qck v'≠some b:=fun hb=>hc ⟨hb,by have:=(hin b o u hb hu).1; rw[List.length_append]; omega⟩
   have hlt:=s.sath.lt hu
   rcases hk with ⟨e1,k1,k2⟩|⟨e1,k1⟩
   ·cases hv:qck v with
    | none=>rw[k2 hv]; exact hcl
    | some g=>
     rw[World.cell?_of_block (w:=w) (a:=⟨b,o,none⟩) ((k1 g hv).block b hlt (fun e=>hbne (by rw[e1,hv,e])))]
     exact hcl
   ·rw[World.cell?_of_block (w:=w) (a:=⟨b,o,none⟩) (k1.block b hlt (by omega))]
    exact hcl
 have hok:∀ ρ,q2f ρ (qm7 H v' (xs++news)) w' v' (.tail e z (n+m)):=by
  intro ρ
  refine⟨xs++news,hown',fun b hb=>⟨fun j u hu=>?_,fun o ho=>?_⟩⟩
  ·unfold qm7
   rw[if_pos ⟨hb,(List.getElem?_eq_some_iff.1 hu).1⟩]
   exact hu
  ·unfold qm7
   rw[if_neg (by rw[hlen]; omega)]
   cases hx:H b o with
   | none=>rfl
   | some u=>
    have:=(hin b o u hb hx).1
    rw[hown.1]at this
    have:n * z≤(n+m) * z:=Nat.mul_le_mul_right _ (by omega)
    omega
 have hnew:∀ b o u,qm7 H v' (xs++news) b o=some u→(∃ u,H b o=some u)∨qck v'=some b:=by
  intro b o u hu
  unfold qm7 at hu
  split at hu
  ·rename_i hc; exact .inr hc.1
  ·exact .inl ⟨u,hu⟩
 rcases hk with ⟨e1,k1,k2⟩|⟨e1,k1⟩
 ·cases hv:qck v with
  | none=>
   have hw:=k2 hv
   subst hw
   rw[hv]at e1
   refine s.push (g:=w'.heap.size) (.inr e1) (s.fresh (Nat.le_refl _)) (.inr s.keep.size) hle hsat (fun b o u hu=>?_) (Keep.refl _ _) (hok _)
   rcases hnew b o u hu with h|h
   ·exact .inl h
   ·rw[e1]at h; cases h
  | some g=>
   rw[hv]at e1
   refine s.push (g:=g) (.inl e1) (hfree g hv) (howns g hv) hle hsat (fun b o u hu=>?_) (k1 g hv) (hok _)
   rcases hnew b o u hu with h|h
   ·exact .inl h
   ·rw[e1]at h; exact .inr (Option.some.inj h).symm
 ·refine s.push (g:=w.heap.size) (.inl e1) (s.fresh (Nat.le_refl _)) (.inr s.keep.size) hle hsat (fun b o u hu=>?_) k1 (hok _)
  rcases hnew b o u hu with h|h
  ·exact .inl h
  ·rw[e1]at h; exact .inr (Option.some.inj h).symm
theorem qqe {H:PH} {v':Value} {e:TypeId} {z:Nat} {rows:List (List PV)} {ys:List Value} {w':World} (hv:qpe H z rows ys) (hle:PH.le H (qm7 H v' ys))
  (hown:w'.ownsRow 0 e z v' rows.length ys):qcn (qm7 H v' ys) (.sl rows) v':=by
 simp only[qcn]
 rcases hown.2 with ⟨rfl,hn⟩|⟨g,cap,cur,rfl,_,_,hnc,_⟩
 ·exact .inl ⟨List.eq_nil_of_length_eq_zero hn,.inl rfl⟩
 ·refine .inr ⟨g,0,z,cap,rfl,hnc,(hv.mono hle).unflat fun j u hu=>?_⟩
  unfold qm7
  rw[if_pos ⟨by simp[qck],by have:=(List.getElem?_eq_some_iff.1 hu).1; omega⟩]
  simpa using hu
theorem qpe.one {H:PH} {w:World} (s:SatH H w) {b o:Nat} {vs:List Value} (c:∀ j u,vs[j]? =some u→H b (o+j)=some u):∀ u∈vs,u.oneCell'=true:=fun u hu=>by
 obtain⟨j,hj⟩:=List.getElem?_of_mem hu
 exact(s _ _ _ (c j u hj)).2
theorem q6x {w:World} {t:TypeId} {v:Value}:(newVar t v).run P w=.ok ⟨w.heap.size,0,none⟩ (w.alloc (.cells v.cells t)):=by
 simp[newVar,newRow]
theorem q04 {w:World} {t bt:TypeId} {i:TypeInfo} (hi:P.info? t=some i) {b off:Nat} {cur:List Value} (hg:w.heap[b]? =some (.cells cur.toArray bt (0,0))) {x:Value}
  (hn:x.cells.size=i.size) (hoff:off+x.cells.size≤cur.length) (h1:∀ u∈x.cells.toList,u.oneCell'=true) :
  (Instr.storeAt t (.pointer (some ⟨b,off,none⟩)) x).run P w=.ok () (w.setRow b (cur.take off++x.cells.toList++cur.drop (off+x.cells.size)).toArray):=by
 have:=run_storeCells_at P b off bt x.cells.toList 0 cur.toArray w hg (by simpa using hoff) h1
 simp only[Nat.add_zero,Array.length_toList]at this
 simp[Instr.storeAt,Instr.sureAddr,storeVar,Go.sizeOf,typeInfo,hi,hn]
 rw[this]
 simp[hn]
theorem q6f {a b:Nat} (h:Nat.beq a b=true):a=b:=Nat.eq_of_beq_eq_true h
theorem q8j {lo:List AObj} {t:TypeId} {k z i off:Nat} {x:FV} {R:FV→List AObj→Prop} (h:zci P t lo k z i off x R) :
  ∃ fv lo',R fv lo'∧lo'.length=lo.length∧∀ (bs:Base) (ρ:List Value) (H:PH) (w:World) (a xv:Value),SatW bs ρ H lo w→qb6 ρ H (.eptr k z i off) a→qb6 ρ H x xv →
   ∃ w',(Instr.storeAt t a xv).run P w=.ok () w'∧qsw bs ρ H fv lo' undef w':=by
 unfold zci at h
 have h0:=qyb h; clear h; obtain⟨cs,h,hcs⟩:=h0
 have h0:=qq5 h; clear h; obtain⟨ps,h,hps⟩:=h0
 have h0:=qfc h; clear h; have h:=h0; clear h0
 have h0:=qjw h; clear h; obtain⟨d,ti,hd,hi,h⟩:=h0
 split at h
 ·rename_i hn
  have hn:=q6f hn
  have h0:=qdc h; clear h; obtain⟨o,ho,h⟩:=h0
  split at h
  ·rename_i e z' rows
   obtain⟨row,⟨rfl,hrow,hone⟩,h⟩:=h
   obtain⟨h,hle⟩:=qv8 h
   obtain⟨rows',hrows,h⟩:=h
   obtain⟨h,hk⟩:=qii h
   refine⟨_,_,h,by simp,fun bs ρ H w a xv s ra rx=>?_⟩
   obtain⟨b,n,cap,hρ,rfl⟩:=ra
   have hob:=s.objs k _ _ ho hρ
   obtain⟨cap',cur,xs,rfl,hg,hnc,hm,hs,rfl,ht,hr,h1,hh⟩:=za3 hob
   have rl:=hps ρ H _ (hcs ρ H xv rx)
   have hlen:=rl.length
   have hzr:row.length=z':=by
    have hmem:=List.mem_of_getElem? hrow
    have:∀ {rows:List (List PV)} {vs:List Value},qpe H z' rows vs→∀ r∈rows,r.length=z':=by
     intro rows
     induction rows with
     | nil=>intro vs _ r hr; cases hr
     | cons q qs ih=>
      intro vs x r hr
      obtain⟨hz,_,_,_,_,y⟩:=x
      rcases List.mem_cons.1 hr with rfl|hr
      ·exact hz
      ·exact ih y r hr
    exact this hr row hmem
   have hil:i<rows.length:=(List.getElem?_eq_some_iff.1 hrow).1
   have hxl:xs.length=rows.length * z':=hr.length
   have hiz:i * z'+z'≤rows.length * z':=by
    rw[← Nat.succ_mul]; exact Nat.mul_le_mul_right _ hil
   have hcl:rows.length * z'≤cur.toList.length:=by
    have h2:cur.toList.length=cur.size:=by simp
    rw[h2,hs]; exact Nat.mul_le_mul_right _ hnc
   have hsz:xv.cells.size=ps.length:=by simpa using hlen
   have hone':∀ u∈xv.cells.toList,u.oneCell'=true:=qd1.one (fun c hc=>(List.all_eq_true.1 hone) c hc) rl
   have hrun:=q04 (P:=P) (w:=w) (t:=t) (bt:=e) (cur:=cur.toList) hi (by simpa using hg) (x:=xv) (off:=i * z'+off) (by omega) (by omega) hone'
   refine⟨_,hrun,ρ,H,List.prefix_refl _,PH.le.refl H,?_,by simp[qb6,qcn,qd1,undef]⟩
   have hnew:(cur.toList.take (i * z'+off)++xv.cells.toList++cur.toList.drop (i * z'+off+xv.cells.size)).take (rows.length * z')=xs.take (i * z'+off)++xv.cells.toList++xs.drop (i * z'+off+xv.cells.size):=by
    rw[zfy (by omega) (by simp) hcl,ht]
   have hover:=hr.over (off:=off) hrow rl (by omega)
   have hrl:rows'.length=rows.length:=by rw[← hrows]; simp
   refine s.upd (k:=k) (b:=b) ho hρ rfl rfl hh ⟨rfl,rfl,rfl,by simp,fun x _ hx=>setRow_other w b x _ hx⟩ ?_
   refine⟨xs.take (i * z'+off)++xv.cells.toList++xs.drop (i * z'+off+xv.cells.size),?_,?_,?_,fun b' hb'=>?_⟩
   ·refine⟨?_,.inr ⟨b,cap,(cur.toList.take (i * z'+off)++xv.cells.toList++cur.toList.drop (i * z'+off+xv.cells.size)).toArray,by rw[hrl],Nat.zero_le _,setRow_heap w b _ _ e _ (by simpa using hg),by rw[hrl]; exact hnc,hm,?_,?_⟩⟩
    ·rw[hrl]
     simp only[List.length_append,List.length_take,List.length_drop,Array.length_toList]
     omega
    ·simp only[List.size_toArray,List.length_append,List.length_take,List.length_drop,Array.length_toList]at hcl ⊢
     omega
    ·rw[hrl]; exact hnew
   ·rw[← hrows]
    simpa using hover
   ·intro u hu
    rcases List.mem_append.1 hu with hu|hu
    ·rcases List.mem_append.1 hu with hu|hu
     ·exact h1 u (List.mem_of_mem_take hu)
     ·exact hone' u hu
    ·exact h1 u (List.mem_of_mem_drop hu)
   ·simp[qck]at hb'
    subst hb'
    exact hh
  ·rename_i l
   split at h
   ·have h0:=h; clear h; obtain⟨c,l',⟨rfl,rfl,hil,hnc,hl'⟩,h⟩:=h0
    have h0:=qii h; clear h; obtain⟨h,hk⟩:=h0
    subst hnc
    refine⟨_,_,h,by simp,fun bs ρ H w a xv s ra rx=>?_⟩
    obtain⟨b,n0,cap,hρ,rfl⟩:=ra
    obtain⟨b',cs,e',cap',lo',hi',e1,hg,hlo,h2,hH⟩:=s.objs k _ _ ho hρ
    cases e1
    have rl:=hps ρ H _ (hcs ρ H xv rx)
    simp only[qd1,qcn]at rl
    obtain⟨v0,vs',ev,rfl,rfl⟩:=rl
    have hsz:xv.cells.size=1:=by
     have:xv.cells.toList.length=1:=by rw[ev]; rfl
     simpa using this
    have hcell:(w.cell? ⟨b,i,none⟩).isSome=true:=by
     simp only[World.cell?,hg]
     rw[h2 i _ (List.getElem?_eq_getElem hil)]
     rfl
    have hfz:w.frozen? ⟨b,i,none⟩=false:=by
     simp only[World.frozen?,hg]
     have:¬ lo'≤i:=by omega
     simp[this]
    have hrun:(Instr.storeAt t (.pointer (some ⟨b,i * 1+0,none⟩)) xv).run P w=.ok () (w.setCell ⟨b,i,none⟩ (.int .u8 (c.toNat:Int))):=by
     have h3:=run_storeCells_cells (P:=P) b i [.int .u8 (c.toNat:Int)] 0 w (fun j hj=>by
      have:j=0:=by simpa using hj
      subst this
      simpa using hcell) (fun j hj=>by
      have:j=0:=by simpa using hj
      subst this
      simpa using hfz) (by simp[Value.oneCell'])
     simp only[Nat.add_zero]at h3
     have hti:ti.size=1:=by
      have:[PV.int .u8 (c.toNat:Int)].length=ti.size:=by simpa using hn
      simpa using this.symm
     simp[Instr.storeAt,Instr.sureAddr,storeVar,Go.sizeOf,typeInfo,hi,hti,hsz,ev,h3,World.setCells]
    have hset:(w.setCell ⟨b,i,none⟩ (.int .u8 (c.toNat:Int))).heap[b]? =some (.cells (cs.setIfInBounds i (.int .u8 (c.toNat:Int))) e' (lo',hi')):=by
     simp[World.setCell,Array.getElem?_modify,hg]
    refine⟨_,hrun,ρ,H,List.prefix_refl _,PH.le.refl H,?_,by simp[qb6,qcn,qd1,undef]⟩
    refine s.upd (k:=k) (b:=b) ho hρ rfl rfl hH ⟨rfl,rfl,rfl,by simp[World.setCell],fun x _ hx=>?_⟩ ?_
    ·have:b≠x:=fun e=>hx e.symm
     simp[World.setCell,Array.getElem?_modify,this]
    ·subst hl'
     refine⟨b,_,e',cap,lo',hi',by simp,hset,by simpa using hlo,fun j c' hc'=>?_,hH⟩
     rw[List.getElem?_set]at hc'
     rw[Array.getElem?_setIfInBounds]
     split at hc'
     ·rename_i hij
      subst hij
      cases hc'
      have hcs':i<cs.size:=by
       have:=h2 i _ (List.getElem?_eq_getElem hil)
       exact(Array.getElem?_eq_some_iff.1 this).1
      simp[hcs']
     ·rename_i hij
      simp only[hij,if_false]
      exact h2 j c' hc'
   ·exact h.elim
  ·exact h.elim
 ·exact h.elim
theorem zai {E:Env} {lo:List AObj} {t:TypeId} {n:Nat} {parts:List (Nat×Operand)} {R:FV→List AObj→Prop} (h:zbb P E lo t n parts R) :
  ∃ fv lo',R fv lo'∧qgg true lo lo'∧∀ (bs:Base) (ρ:List Value) (H:PH) (w:World) (eval:Operand→Value),SatW bs ρ H lo w→(∀ x∈parts.map (·.2),qb6 ρ H (evF (qb1 E) x) (eval x)) →
   ∃ v w',(Instr.buildSlice t n (parts.map fun(i,x)=>(i,eval x)).toArray).run P w=.ok v w'∧qsw bs ρ H fv lo' v w':=by
 unfold zbb at h
 have h0:=qj0 h; clear h; obtain⟨e,i,hu,hi,h⟩:=h0
 have h0:=qub h; clear h; obtain⟨e',i',rows,hu',hi',h,hn,hmax,hs⟩:=h0
 have e1:e'=e:=by rw[hu]at hu'; cases hu'; rfl
 subst e1
 have e2:i'=i:=Option.some.inj (hi'.symm.trans hi)
 subst e2
 simp only at h
 have h:=qfc h
 have h:=qgy h
 refine⟨_,_,h,qgg.push _,fun bs ρ H w eval s hx=>?_⟩
 obtain⟨xs,hr,hv,hone⟩:=hs trivial ρ H w eval hx
 have hown':(w.alloc (.cells xs.toArray e')).ownsRow 0 e' i'.size (.slice (some ⟨w.heap.size,0,none⟩) n n) (0+rows.length) ([]++xs):=by
  rw[Nat.zero_add,List.nil_append]
  refine⟨hv.length,.inr ⟨w.heap.size,n,xs.toArray,by rw[hn],Nat.zero_le _,heap_alloc_new w _,by rw[hn]; exact Nat.le_refl _,hmax,by simp[hv.length,hn],?_⟩⟩
  rw[← hv.length]
  exact List.take_length
 obtain⟨hle,sat⟩:=qo8 s (World.ownsRow_nil w 0 e' i'.size) (fun b hb=>by simp[qck]at hb) (fun g hg=>by simp[qck]at hg) (fun g hg=>by simp[qck]at hg) hv.length (by simpa using hone) hown' (.inr ⟨rfl,qso w _ _⟩)
 simp only[Nat.zero_add,List.nil_append]at hown' sat hle
 exact⟨_,_,hr,_,_,List.prefix_append _ _,hle,sat,by simp[← s.hlen],qqe hv hle hown'⟩
theorem qyy {gr:Bool} {E:Env} {lo:List AObj} {t:TypeId} {n:Nat} {parts:List (Nat×Operand)} {R:FV→List AObj→Prop} (h:q7h P gr E lo t n parts R) :
  ∃ fv lo',R fv lo'∧qgg true lo lo'∧∀ (bs:Base) (ρ:List Value) (H:PH) (w:World) (eval:Operand→Value),SatW bs ρ H lo w→(∀ x∈parts.map (·.2),qb6 ρ H (evF (qb1 E) x) (eval x)) →
   ∃ v w',(Instr.buildSlice t n (parts.map fun(i,x)=>(i,eval x)).toArray).run P w=.ok v w'∧qsw bs ρ H fv lo' v w':=by
 cases gr with
 | true=>exact zai h
 | false=>exact q9j h
theorem zco {src dst:TypeId} {lo:List AObj} {x:FV} {R:FV→List AObj→Prop} (h:zhr P src dst lo x R) :
  ∃ fv lo',R fv lo'∧∀ (bs:Base) (ρ:List Value) (H:PH) (w:World) (v:Value),SatW bs ρ H lo w→qb6 ρ H x v→∃ u w',(convert src dst v).run P w=.ok u w'∧qsw bs ρ H fv lo' u w':=by
 unfold zhr at h
 split at h
 ·rename_i l
  split at h
  ·rename_i us hs
   split at h
   ·rename_i e hd
    split at h
    ·rename_i he
     have h0:=qfc h; clear h; have h:=h0; clear h0
     have h0:=qgy h; clear h; have h:=h0; clear h0
     refine⟨_,_,h,fun bs ρ H w v s rx=>?_⟩
     have ev:=qpi rx
     subst ev
     refine⟨_,_,Lib.run_convert_string_bytes w src dst e ⟨l.toArray⟩ hs hd he,?_⟩
     have hk:Keep (fun b=>b=w.heap.size) w (Lib.bytesWorld w e ⟨l.toArray⟩):=by
      refine⟨?_,?_,?_,by rw[Lib.bytesWorld_size]; omega,fun k hk _=>Lib.bytesWorld_at_old w e _ k hk⟩<;>simp[Lib.bytesWorld,World.freeze,World.alloc,World.drew,-World.alloc_eq,-World.drew_eq]
     have hz:(⟨l.toArray⟩:ByteArray).size=l.length:=ByteArray.size_mk_toArray l
     refine⟨ρ++[.slice (some ⟨w.heap.size,0,none⟩) (⟨l.toArray⟩:ByteArray).size (grownCap w (⟨l.toArray⟩:ByteArray).size 0 e)],H,List.prefix_append _ _,PH.le.refl H,?_,?_⟩
     ·refine s.push (g:=w.heap.size) (.inl rfl) (s.fresh (Nat.le_refl _)) (.inr s.keep.size) (PH.le.refl H) (s.sath.block fun b o v hv=>Lib.bytesWorld_at_old w e _ b (s.sath.lt hv)) (fun b o v h=>.inl ⟨v,h⟩) hk ?_
      refine⟨w.heap.size,_,e,_,_,_,by rw[hz],Lib.bytesWorld_at_new w e _,?_,?_,fun o=>?_⟩
      ·simp[Lib.bytesCells]
      ·intro j c hc
       have hj:=(List.getElem?_eq_some_iff.1 hc).1
       simp only[Lib.bytesCells]
       rw[Array.getElem?_append_left (by simpa using hj)]
       simp[hc]
      ·cases hx:H w.heap.size o with
       | none=>rfl
       | some x=>exact absurd (s.sath.lt hx) (Nat.lt_irrefl _)
     ·simp only[qb6]
      refine⟨by simp[← s.hlen],.inr ⟨w.heap.size,_,by rw[hz]⟩⟩
    ·exact h.elim
   ·exact h.elim
  ·exact h.elim
 ·exact h.elim
theorem zei {bs:Base} {ρ:List Value} {H:PH} {lo:List AObj} (s:SatW bs ρ H lo w) {t ty e:TypeId} {i:TypeInfo} {zv:Value} (hu:P.underlying t=some (.slice e)) (hi:P.info? e=some i) (hz:i.zero=some zv) (hzs:zv.cells.size=i.size)
  {k0:Nat} {rows:List (List PV)} {v:Value} (ho:lo[k0]? =some (.vec e i.size rows)) (hρ:ρ[k0]? =some v) {news:List (List PV)} {x:Value} (rx:qcn H (.sl news) x) (hall:∀ r∈news,r.length=i.size)
  (hb:(rows++news).length * i.bytes≤140737488355328) (h63:(rows++news).length≤9223372036854775807) :
  ∃ v' w',(Builtin.append_ #[t,t] ty #[v,x]).run P w=.ok v' w'∧qsw bs ρ H (.vsl (lo.set k0 .dead).length (rows++news).length) (lo.set k0 .dead++[.vec e i.size (rows++news)]) v' w':=by
 obtain⟨xs,hown,hrv,h1,hh⟩:=s.objs k0 _ _ ho hρ
 have run:∃ vs:List Value,qpe H i.size news vs∧(∀ u∈vs,u.oneCell'=true) ∧
   ((news.length=0∧x=.slice none 0 0)∨∃ a c,x=.slice (some a) news.length c∧∀ j u,vs[j]? =some u→w.cell? (a.add j)=some u):=by
  rcases q3z rx hall with ⟨rfl,ex|⟨a',cap',ex⟩⟩|⟨b,o,cap,vs,ex,_,hv,hc⟩
  ·exact⟨[],rfl,by simp,.inl ⟨rfl,ex⟩⟩
  ·exact⟨[],rfl,by simp,.inr ⟨a',cap',ex,fun j u hu=>by simp at hu⟩⟩
  ·exact⟨vs,hv,qpe.one s.sath hc,.inr ⟨⟨b,o,none⟩,cap,ex,fun j u hu=>by rw[Addr.add_lit]; exact(s.sath.cell _ _ _ (hc j u hu)).1⟩⟩
 obtain⟨vs,hv,hone,hxx⟩:=run
 rw[List.length_append]at hb h63
 obtain⟨v',w',hr,hown',hk⟩:=q0l (P:=P) (w:=w) (ty:=ty) hu hi hz hzs hown hv.length hone hxx h63 hb
 refine⟨v',w',hr,?_⟩
 have sk:=s.kill k0
 have hfree:∀ g,qck v=some g→∀ (k:Nat) (o':AObj) (u:Value),(lo.set k0 .dead)[k]? =some o'→ρ[k]? =some u→o'.live=true→qck u≠some g:=by
  intro g hg k o' u hk' hu' hl
  rw[List.getElem?_set]at hk'
  split at hk'
  ·split at hk'
   ·cases hk'; simp[AObj.live]at hl
   ·cases hk'
  ·rename_i hne
   exact s.excl k0 k _ o' _ u g ho hk' hρ hu' hne rfl hl hg
 have hV:∀ {a b:List (List PV)} {us ws:List Value},qpe H i.size a us→qpe H i.size b ws→qpe H i.size (a++b) (us++ws):=fun x y=>x.append y
 have hall1:∀ u∈xs++vs,u.oneCell'=true:=fun u hu'=>by
  rcases List.mem_append.1 hu' with h|h
  ·exact h1 u h
  ·exact hone u h
 have hvsl:qb6 (ρ++[v']) H (.vsl (lo.set k0 .dead).length (rows++news).length) v':=by
  refine⟨by simp[← s.hlen],?_⟩
  rw[List.length_append]
  rcases hown'.2 with ⟨rfl,h0⟩|⟨g,cap,cur,rfl,_⟩
  ·exact .inl ⟨h0,rfl⟩
  ·exact .inr ⟨g,cap,rfl⟩
 have hok:(∀ b,qck v'=some b→∀ o,H b o=none)→q2f (ρ++[v']) H w' v' (.vec e i.size (rows++news)):=fun hn=>
  ⟨xs++vs,by rw[List.length_append]; exact hown',hV hrv hv,hall1,hn⟩
 refine⟨ρ++[v'],H,List.prefix_append _ _,PH.le.refl H,?_,hvsl⟩
 rcases hk with ⟨e1,k1,k2⟩|⟨e1,k1⟩
 ·cases hvb:qck v with
  | none=>
   have hw:=k2 hvb
   subst hw
   rw[hvb]at e1
   exact sk.push (g:=w'.heap.size) (.inr e1) (sk.fresh (Nat.le_refl _)) (.inr sk.keep.size) (PH.le.refl H) sk.sath (fun b o u hu=>.inl ⟨u,hu⟩) (Keep.refl _ _) (hok (fun b hb'=>by rw[e1]at hb'; cases hb'))
  | some g=>
   rw[hvb]at e1
   refine sk.push (g:=g) (.inl e1) (hfree g hvb) (s.own k0 _ _ g ho hρ rfl hvb) (PH.le.refl H) (s.sath.block fun b o u hu'=>(k1 g hvb).block b (s.sath.lt hu') (fun e=>by subst e; rw[hh _ hvb o]at hu'; cases hu')) (fun b o u hu=>.inl ⟨u,hu⟩) (k1 g hvb) (hok (fun b hb'=>by rw[e1]at hb'; cases hb'; exact hh _ hvb))
 ·have hnew:∀ o,H w.heap.size o=none:=fun o=>by
   cases hx:H w.heap.size o with
   | none=>rfl
   | some u=>exact absurd (s.sath.lt hx) (Nat.lt_irrefl _)
  refine sk.push (g:=w.heap.size) (.inl e1) (sk.fresh (Nat.le_refl _)) (.inr sk.keep.size) (PH.le.refl H) (s.sath.block fun b o u hu'=>k1.block b (s.sath.lt hu') (fun e=>by have:=s.sath.lt hu'; omega)) (fun b o u hu=>.inl ⟨u,hu⟩) k1 (hok (fun b hb'=>by rw[e1]at hb'; cases hb'; exact hnew))
theorem qz6 {o:Oper} {E:Env} {lo:List AObj} {R:FV→List AObj→Prop} (h:zjp P o.op E lo R):∃ fv lo',R fv lo'∧qgg (zbe o.op) lo lo'∧qjb P o (qb1 E) lo none fv lo':=by
 obtain⟨dst,op,ty,pos,after,guard⟩:=o
 simp only at h
 unfold zjp at h
 split at h
 ·
  rename_i t x
  have h0:=qbh h; clear h; obtain⟨x',h,hx'⟩:=h0
  have h0:=qyb h; clear h; obtain⟨cs,h,hcs⟩:=h0
  split at h
  ·rename_i h1
   have h:=qfc h
   have h:=qgy h
   refine⟨_,_,h,qgg.push _,fun hg bs ρ H w eval s hx=>?_⟩
   have rc:=hcs ρ H _ (hx' ρ H _ hg (hx x (by simp[Op.operands])))
   simp only[execOp,Instr.box,Sem.run_bind,q6x,Result.andThen_ok,Sem.run_pure]
   refine⟨_,H,List.prefix_append _ _,PH.le.refl H,s.pushBox (t:=t) rc,?_⟩
   exact⟨w.heap.size,by simp[← s.hlen],rfl⟩
  ·exact h.elim
 ·
  rename_i t
  obtain⟨i,z,ps,hi,hz,h,hps⟩:=zen h
  have h:=qu6 h
  split at h
  ·rename_i h1
   have h:=qfc h
   have h:=qgy h
   refine⟨_,_,h,qgg.push _,fun hg bs ρ H w eval s hx=>?_⟩
   simp only[execOp,Instr.alloc,Sem.run_bind,zeroValue,typeInfo,run_program,hi,hz,q6x,Result.andThen_ok,Sem.run_pure]
   refine⟨_,H,List.prefix_append _ _,PH.le.refl H,s.pushBox (t:=t) (qdn.of_RepL (hps H)),?_⟩
   exact⟨w.heap.size,by simp[← s.hlen],rfl⟩
  ·exact h.elim
 ·
  rename_i t a x
  have h0:=qbh h; clear h; obtain⟨a',h,ha'⟩:=h0
  have h0:=qbh h; clear h; obtain⟨x',h,hx'⟩:=h0
  split at h
  ·rename_i k off
   have h0:=qyb h; clear h; obtain⟨cs,h,hcs⟩:=h0
   split at h
   ·rename_i h1
    have h:=qfc h
    obtain⟨d,i,hd,hi,h⟩:=qjw h
    split at h
    ·rename_i hn
     have hn:=q6f hn
     have h0:=qdc h; clear h; obtain⟨ob,hob,h⟩:=h0
     split at h
     ·rename_i bt cells
      obtain⟨h,hlen⟩:=qqf h
      obtain⟨h,hk⟩:=qii h
      refine⟨_,_,h,qgg.set _ _,fun hg bs ρ H w eval s hx=>?_⟩
      obtain⟨b,hb,e⟩:=ha' ρ H _ hg (hx a (by simp[Op.operands]))
      have rc:=hcs ρ H _ (hx' ρ H _ hg (hx x (by simp[Op.operands])))
      obtain⟨b',vs,e',hg',rcells,hH⟩:=s.objs k _ _ hob hb
      cases e'
      have hsz:(eval x).cells.size=cs.length:=by have:=rc.length; simpa using this
      have hr:=q04 (P:=P) (w:=w) (t:=t) (bt:=bt) hi hg' (x:=eval x) (off:=off) (by omega) (by rw[rcells.length]; omega) (q2r h1 rc)
      simp only[execOp,e,Sem.run_bind,hr,Result.andThen_ok,Sem.run_pure]
      refine⟨ρ,H,List.prefix_refl _,PH.le.refl H,s.setBox hob hb hg' hH ?_,by simp[qb6,qcn,qd1,undef]⟩
      rw[hsz]
      exact((rcells.take off).append rc).append (rcells.drop _)
     ·exact h.elim
    ·exact h.elim
   ·exact h.elim
  ·rename_i k z i off
   have h0:=q8j h; clear h; obtain⟨fv,lo',h,hl,hs⟩:=h0
   refine⟨fv,lo',h,qgg.len hl,fun hg bs ρ H w eval s hx=>?_⟩
   obtain⟨w',hr,af⟩:=hs bs ρ H w _ _ s (ha' ρ H _ hg (hx a (by simp[Op.operands]))) (hx' ρ H _ hg (hx x (by simp[Op.operands])))
   simp only[execOp,Sem.run_bind,hr,Result.andThen_ok,Sem.run_pure]
   exact af
  ·exact h.elim
 ·
  rename_i sx xx t t'
  split at h
  ·rename_i htt
   have htt:=q6f htt
   subst htt
   have h0:=qbh h; clear h; obtain⟨s',h,hs'⟩:=h0
   have h0:=qbh h; clear h; obtain⟨x',h,hx'⟩:=h0
   have h0:=zbf h; clear h; obtain⟨news,h,hnews⟩:=h0
   split at h
   ·rename_i k0 n0
    unfold zc7 at h
    have h0:=qj0 h; clear h; obtain⟨e,i,hu,hi,h⟩:=h0
    split at h
    ·exact h.elim
    ·split at h
     ·rename_i i' hi'
      have:i'=i:=Option.some.inj (hi'.symm.trans hi)
      subst this
      split at h
      ·rename_i zv hzv
       split at h
       ·rename_i hzs
        have hzs:=q6f hzs
        have h0:=qdc h; clear h; obtain⟨ob,hob,h⟩:=h0
        split at h
        ·rename_i e' z' rows
         obtain⟨rows',⟨rfl,he,hz,hall,hb,h63⟩,h⟩:=h
         subst he; subst hz
         obtain⟨h,hk0⟩:=qii h
         have h:=qfc h
         have h:=qgy h
         refine⟨_,_,h,qgg.kill _ hob rfl,fun hg bs ρ H w eval s hx=>?_⟩
         obtain⟨hρ,_⟩:=hs' ρ H _ hg (hx sx (by simp[Op.operands,Call.operands]))
         have rx:=hnews ρ H _ (hx' ρ H _ hg (hx xx (by simp[Op.operands,Call.operands])))
         obtain⟨v',w',hr,af⟩:=zei (ty:=ty) s hu hi hzv hzs hob hρ rx hall hb h63
         simp only[execOp,resolve,invoke,builtin,Sem.run_bind,Sem.run_pure,Result.andThen_ok,List.map_toArray,List.map_cons,List.map_nil,hr]
         rw[Nat.zero_add]
         exact af
        ·exact h.elim
       ·exact h.elim
      ·exact h.elim
     ·exact h.elim
   have h0:=qj0 h; clear h; obtain⟨e,i,hu,hi,h⟩:=h0
   split at h
   ·exact h.elim
   ·split at h
    ·rename_i i' hi'
     have:i'=i:=Option.some.inj (hi'.symm.trans hi)
     subst this
     split at h
     ·rename_i zv hzv
      split at h
      ·rename_i hzs
       have hzs:=q6f hzs
       split at h
       ·
        obtain⟨⟨hall,hb,h63⟩,h⟩:=h
        have h:=qfc h
        have h:=qgy h
        refine⟨_,_,h,qgg.push _,fun hg bs ρ H w eval s hx=>?_⟩
        have es:eval sx=.slice none 0 0:=by
         have:=hs' ρ H _ hg (hx sx (by simp[Op.operands,Call.operands]))
         simpa[qb6,qcn]using this
        have rx:=hnews ρ H _ (hx' ρ H _ hg (hx xx (by simp[Op.operands,Call.operands])))
        have run:∃ vs:List Value,qpe H i'.size news vs∧(∀ u∈vs,u.oneCell'=true) ∧
          ((news.length=0∧eval xx=.slice none 0 0)∨∃ a c,eval xx=.slice (some a) news.length c∧∀ j u,vs[j]? =some u→w.cell? (a.add j)=some u):=by
         rcases q3z rx hall with ⟨rfl,ex|⟨a',cap',ex⟩⟩|⟨b,o,cap,vs,ex,_,hv,hc⟩
         ·exact⟨[],rfl,by simp,.inl ⟨rfl,ex⟩⟩
         ·exact⟨[],rfl,by simp,.inr ⟨a',cap',ex,fun j u hu=>by simp at hu⟩⟩
         ·exact⟨vs,hv,qpe.one s.sath hc,.inr ⟨⟨b,o,none⟩,cap,ex,fun j u hu=>by rw[Addr.add_lit]; exact(s.sath.cell _ _ _ (hc j u hu)).1⟩⟩
        obtain⟨vs,hv,hone,hxx⟩:=run
        obtain⟨v',w',hr,hown',hk⟩:=q0l (P:=P) (w:=w) (ty:=ty) hu hi hzv hzs (World.ownsRow_nil w 0 e i'.size) hv.length hone hxx (by omega) (by simpa using hb)
        obtain⟨hle,sat⟩:=qo8 s (World.ownsRow_nil w 0 e i'.size) (fun b hb=>by simp[qck]at hb) (fun g hg=>by simp[qck]at hg) (fun g hg=>by simp[qck]at hg) hv.length (by simpa using hone) hown' hk
        simp only[execOp,resolve,invoke,builtin,Sem.run_bind,Sem.run_pure,Result.andThen_ok,List.map_toArray,List.map_cons,List.map_nil,es,hr]
        simp only[Nat.zero_add,List.nil_append]at hown' sat hle
        refine⟨_,_,List.prefix_append _ _,hle,sat,by simp[← s.hlen],qqe hv hle hown'⟩
       ·
        rename_i k0 rows _
        obtain⟨⟨hall,hb,h63⟩,h⟩:=h
        have h0:=qdc h; clear h; obtain⟨ob,hob,h⟩:=h0
        split at h
        ·rename_i e' z' n
         obtain⟨⟨he,hz,hn⟩,h⟩:=h
         subst he; subst hz; subst hn
         obtain⟨h,hk0⟩:=qii h
         have h:=qfc h
         have h:=qgy h
         refine⟨_,_,h,qgg.kill _ hob rfl,fun hg bs ρ H w eval s hx=>?_⟩
         have rs:=hs' ρ H _ hg (hx sx (by simp[Op.operands,Call.operands]))
         obtain⟨hrho,rsl⟩:=rs
         have rx:=hnews ρ H _ (hx' ρ H _ hg (hx xx (by simp[Op.operands,Call.operands])))
         obtain⟨xs,hown,hxs⟩:=s.objs k0 _ _ hob hrho
         have run:∃ vs:List Value,qpe H i'.size news vs∧(∀ u∈vs,u.oneCell'=true) ∧
           ((news.length=0∧eval xx=.slice none 0 0)∨∃ a c,eval xx=.slice (some a) news.length c∧∀ j u,vs[j]? =some u→w.cell? (a.add j)=some u):=by
          rcases q3z rx (fun r hr=>hall r (by simp[hr]))with ⟨rfl,ex|⟨a',cap',ex⟩⟩|⟨b,o,cap,vs,ex,_,hv,hc⟩
          ·exact⟨[],rfl,by simp,.inl ⟨rfl,ex⟩⟩
          ·exact⟨[],rfl,by simp,.inr ⟨a',cap',ex,fun j u hu=>by simp at hu⟩⟩
          ·exact⟨vs,hv,qpe.one s.sath hc,.inr ⟨⟨b,o,none⟩,cap,ex,fun j u hu=>by rw[Addr.add_lit]; exact(s.sath.cell _ _ _ (hc j u hu)).1⟩⟩
         obtain⟨vs,hv,hone,hxx⟩:=run
         have old:qpe H i'.size rows xs∧∀ u∈xs,u.oneCell'=true:=by
          rcases q3z rsl (fun r hr=>hall r (by simp[hr]))with ⟨rfl,ex⟩|⟨b,o,cap,us,ex,_,hv',hc⟩
          ·have:xs=[]:=List.eq_nil_of_length_eq_zero (by simpa using hown.1)
           subst this
           exact⟨rfl,by simp⟩
          ·have hbk:qck (eval sx)=some b:=by rw[ex]; rfl
           have ho:o=0:=by
            rcases hown.2 with ⟨e1,_⟩|⟨g,cap',cur,e1,_⟩
            ·rw[ex]at e1; cases e1
            ·rw[ex]at e1; injection e1 with e1; injection e1 with e1; injection e1
           subst ho
           have:xs=us:=by
            refine List.ext_getElem? fun j=>?_
            have l1:xs.length=us.length:=by rw[hown.1,hv'.length]
            rcases Nat.lt_or_ge j xs.length with hj|hj
            ·have h1:=(hxs b hbk).1 j _ (List.getElem?_eq_getElem hj)
             have h2:=hc j _ (List.getElem?_eq_getElem (show j<us.length by omega))
             rw[Nat.zero_add]at h2
             rw[List.getElem?_eq_getElem hj,List.getElem?_eq_getElem (show j<us.length by omega),← h1,← h2]
            ·rw[List.getElem?_eq_none hj,List.getElem?_eq_none (by omega)]
           subst this
           exact⟨hv',qpe.one s.sath hc⟩
         obtain⟨hvo,honeo⟩:=old
         obtain⟨v',w',hr,hown',hk⟩:=q0l (P:=P) (w:=w) (ty:=ty) hu hi hzv hzs hown hv.length hone hxx (by rw[List.length_append]at h63; exact h63) (by rw[List.length_append]at hb; exact hb)
         have sk:=s.kill k0
         obtain⟨hle,sat⟩:=qo8 sk hown hxs (fun g hg k o' u hk' hu' hl=>by
           rw[List.getElem?_set]at hk'
           split at hk'
           ·first
             | (cases hk'; simp[AObj.live]at hl; done)
             | (split at hk'<;>first|(cases hk'; done)|(cases hk'; simp[AObj.live]at hl))
           ·rename_i hne
            exact s.excl k0 k _ o' _ u g hob hk' hrho hu' hne rfl hl hg)
          (fun g hg=>s.own k0 _ _ g hob hrho rfl hg) hv.length (fun u hu'=>by
           rcases List.mem_append.1 hu' with h|h
           ·exact honeo u h
           ·exact hone u h) hown' hk
         simp only[execOp,resolve,invoke,builtin,Sem.run_bind,Sem.run_pure,Result.andThen_ok,List.map_toArray,List.map_cons,List.map_nil,hr]
         refine⟨_,_,List.prefix_append _ _,hle,by rw[List.length_append]; exact sat,?_,qqe (hvo.append hv) hle (by rw[List.length_append]; exact hown')⟩
         have:(0+(lo.set k0 AObj.dead).length)=ρ.length:=by simp[s.hlen]
         rw[this]
         simp
        ·exact h.elim
       ·exact h.elim
      ·exact h.elim
     ·exact h.elim
    ·exact h.elim
  ·have h0:=qbh h; clear h; obtain⟨s',h,hs'⟩:=h0
   have h0:=qbh h; clear h; obtain⟨x',h,hx'⟩:=h0
   split at h
   case h_2=>exact h.elim
   rename_i str
   split at h
   case h_2=>exact h.elim
   rename_i hut
   have h0:=qj0 h; clear h; obtain⟨e,i,hu,hi,h⟩:=h0
   split at h
   case h_2=>exact h.elim
   rename_i hz1
   have hz1:=q6f hz1
   split at h
   case h_2=>exact h.elim
   rename_i i' hi'
   have:i'=i:=Option.some.inj (hi'.symm.trans hi)
   subst this
   split at h
   case h_2=>exact h.elim
   rename_i hzv
   have hbl:(qdr str).length=str.length:=by simp[qdr]
   split at h
   ·obtain⟨⟨hb,h63⟩,h⟩:=h
    have h:=qfc h
    have h:=qgy h
    refine⟨_,_,h,qgg.push _,fun hg bs ρ H w eval s hx=>?_⟩
    have es:eval sx=.slice none 0 0:=by
     have:=hs' ρ H _ hg (hx sx (by simp[Op.operands,Call.operands]))
     simpa[qb6,qcn]using this
    have ex:=qpi (hx' ρ H _ hg (hx xx (by simp[Op.operands,Call.operands])))
    obtain⟨v',w',hr,hown',hk⟩:=qsr (P:=P) (w:=w) (ty:=ty) hu hut hi hzv hz1 (World.ownsRow_nil w 0 e 1) str (by omega) (by rw[hbl]at hb; simpa using hb)
    have hv:=zbi H str
    obtain⟨hle,sat⟩:=qo8 s (World.ownsRow_nil w 0 e 1) (fun b hb=>by simp[qck]at hb) (fun g hg=>by simp[qck]at hg) (fun g hg=>by simp[qck]at hg) (by rw[Lib.strCells_length,qrl,Nat.mul_one]) (by simpa using Lib.strCells_oneCell _) hown' hk
    simp only[execOp,resolve,invoke,builtin,Sem.run_bind,Sem.run_pure,Result.andThen_ok,List.map_toArray,List.map_cons,List.map_nil,es,ex,hr]
    simp only[Nat.zero_add,List.nil_append]at hown' sat hle
    refine⟨_,_,List.prefix_append _ _,hle,by rw[hz1,hbl]; exact sat,by simp[← s.hlen],qqe hv hle (by rw[hbl]; exact hown')⟩
   ·rename_i k0 rows
    obtain⟨⟨hall,hb,h63⟩,h⟩:=h
    have h0:=qdc h; clear h; obtain⟨ob,hob,h⟩:=h0
    split at h
    case h_2=>exact h.elim
    rename_i e' z' n
    obtain⟨⟨he,hz,hn⟩,h⟩:=h
    subst he; subst hz; subst hn
    obtain⟨h,hk0⟩:=qii h
    have h:=qfc h
    have h:=qgy h
    refine⟨_,_,h,qgg.kill _ hob rfl,fun hg bs ρ H w eval s hx=>?_⟩
    have rs:=hs' ρ H _ hg (hx sx (by simp[Op.operands,Call.operands]))
    obtain⟨hrho,rsl⟩:=rs
    have ex:=qpi (hx' ρ H _ hg (hx xx (by simp[Op.operands,Call.operands])))
    obtain⟨xs,hown,hxs⟩:=s.objs k0 _ _ hob hrho
    have old:qpe H 1 rows xs∧∀ u∈xs,u.oneCell'=true:=by
     rcases q3z rsl hall with ⟨rfl,ex⟩|⟨b,o,cap,us,ex,_,hv',hc⟩
     ·have:xs=[]:=List.eq_nil_of_length_eq_zero (by simpa using hown.1)
      subst this
      exact⟨rfl,by simp⟩
     ·have hbk:qck (eval sx)=some b:=by rw[ex]; rfl
      have ho:o=0:=by
       rcases hown.2 with ⟨e1,_⟩|⟨g,cap',cur,e1,_⟩
       ·rw[ex]at e1; cases e1
       ·rw[ex]at e1; injection e1 with e1; injection e1 with e1; injection e1
      subst ho
      have:xs=us:=by
       refine List.ext_getElem? fun j=>?_
       have l1:xs.length=us.length:=by rw[hown.1,hv'.length]
       rcases Nat.lt_or_ge j xs.length with hj|hj
       ·have h1:=(hxs b hbk).1 j _ (List.getElem?_eq_getElem hj)
        have h2:=hc j _ (List.getElem?_eq_getElem (show j<us.length by omega))
        rw[Nat.zero_add]at h2
        rw[List.getElem?_eq_getElem hj,List.getElem?_eq_getElem (show j<us.length by omega),← h1,← h2]
       ·rw[List.getElem?_eq_none hj,List.getElem?_eq_none (by omega)]
      subst this
      exact⟨hv',qpe.one s.sath hc⟩
    obtain⟨hvo,honeo⟩:=old
    rw[List.length_append,hbl]at hb h63
    obtain⟨v',w',hr,hown',hk⟩:=qsr (P:=P) (w:=w) (ty:=ty) hu hut hi hzv hz1 hown str h63 hb
    have hv:=zbi H str
    have sk:=s.kill k0
    obtain⟨hle,sat⟩:=qo8 sk hown hxs (fun g hg k o' u hk' hu' hl=>by
      rw[List.getElem?_set]at hk'
      split at hk'
      ·first
        | (cases hk'; simp[AObj.live]at hl; done)
        | (split at hk'<;>first|(cases hk'; done)|(cases hk'; simp[AObj.live]at hl))
      ·rename_i hne
       exact s.excl k0 k _ o' _ u g hob hk' hrho hu' hne rfl hl hg)
     (fun g hg=>s.own k0 _ _ g hob hrho rfl hg) (by rw[Lib.strCells_length,qrl,Nat.mul_one]) (fun u hu'=>by
      rcases List.mem_append.1 hu' with h|h
      ·exact honeo u h
      ·exact Lib.strCells_oneCell _ u h) hown' hk
    simp only[execOp,resolve,invoke,builtin,Sem.run_bind,Sem.run_pure,Result.andThen_ok,List.map_toArray,List.map_cons,List.map_nil,ex,hr]
    refine⟨_,_,List.prefix_append _ _,hle,by rw[hz1,List.length_append,hbl]; exact sat,?_,qqe (hvo.append hv) hle (by rw[List.length_append,hbl]; exact hown')⟩
    have:(0+(lo.set k0 AObj.dead).length)=ρ.length:=by simp[s.hlen]
    rw[this]
    simp
   ·exact h.elim
 ·exact zcj (o:=⟨dst,_,ty,pos,after,guard⟩) h
end
end Ax
end
