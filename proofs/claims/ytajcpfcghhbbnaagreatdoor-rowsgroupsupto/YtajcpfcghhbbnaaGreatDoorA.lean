/- A part of the proof. -/
import Derived.Below
import Derived.Carry
import Derived.ChangeKeysEq
import Derived.Laws.AppendOwnNone
import Derived.Laws.BytesArg
import Derived.Laws.IdiomStrings
import Derived.Laws.StructEq
import Derived.Lib.Builder
import Derived.MapKept
import Derived.Still
import Derived.WalkKit
set_option linter.all false
section
namespace Ax
open Go
variable {Lw:Nat}
inductive PV where
 | bool (b:Bool) | int (k:IntKind) (n:Int) | str (l:List UInt8)
 | agg (cs:List PV) | tup (vs:List PV) | nilsl | sl (rows:List (List PV))
 | nilp | fn (f:FuncId) | nilfn | nili | ifc (t:TypeId) (v:PV) | nilmap | hp (row:List PV) | clo (f:FuncId) (caps:List PV) | bfn (f:FuncId) (bound:List PV) | ifo (n:Bool) (t:TypeId) (v:PV)
 | nsl (rows:List (List PV))
inductive FV where
 | top
 | p (v:PV)
 | opt (g:Bool) (v:FV)
 | tsl (k:Nat) (rows:List (List PV))
 | ptr (k off:Nat)
 | hptr (row:List PV)
 | bself (k:Nat)
 | bsl (k off len cap:Nat)
 | vsl (k n:Nat)
 | eptr (k z i off:Nat)
 | mref (k:Nat)
 | pair (a b:FV)
 | stmp (k:Nat)
 | clo (f:FuncId) (c:FV)
 | cap0
 | cap (a b:FV)
 | fagg (c:FV)
 | nxt (ok:Bool) (a b:PV)
 | asl (k off n:Nat)
 | ifs (t:TypeId) (c:FV)
 | cut (rows:List (List PV))
inductive AObj where
 | dead
 | box (t:TypeId) (cells:List FV)
 | tail (e:TypeId) (z n:Nat)
 | vec (e:TypeId) (z:Nat) (rows:List (List PV))
 | mp (d:TypeDesc) (es:List (PV × PV)) (mk:Option (PV × Nat))
 | sit (l:List UInt8) (pos:Nat)
 | bv (l:List UInt8)
 | vl (e:TypeId) (z:Nat) (rows:List (List PV)) (j k:Nat)
 | pbx (t:TypeId) (c:FV)
def AObj.live:AObj → Bool
 | .dead=>false
 | _=>true
def PH (Lw:Nat):Type:=Nat → Nat → Option Value
def PH.le (H H':(PH Lw)):Prop:=∀ b o v,H b o = some v → H' b o = some v
theorem PH.le.refl (H:(PH Lw)):PH.le H H:=fun _ _ _ h=>h
theorem PH.le.trans {a b c:(PH Lw)} (h:PH.le a b) (h':PH.le b c):PH.le a c:=fun _ _ _ x=>h' _ _ _ (h _ _ _ x)
mutual
def RepP (H:(PH Lw)):PV → Value → Prop
 | .bool b,v=>v = .bool b
 | .int k n,v=>v = .int k n
 | .str l,v=>v = .string ⟨l.toArray⟩
 | .agg cs,v=>∃ vs:List Value,v = .agg vs.toArray ∧ RepL H cs vs
 | .tup cs,v=>∃ vs:List Value,v = .tuple vs.toArray ∧ RepL H cs vs
 | .nilsl,v=>v = .slice none 0 0
 | .sl rows,v=>(rows = [] ∧ (v = .slice none 0 0 ∨ ∃ a cap,v = .slice (some a) 0 cap)) ∨
   ∃ b o z cap,v = .slice (some ⟨b,o,none⟩) rows.length cap ∧ rows.length ≤ cap ∧ RepR H b z o rows
 | .nilp,v=>v = .pointer none
 | .fn f,v=>v = .func (.func f) #[] #[]
 | .nilfn,v=>v = .nilFunc
 | .nili,v=>v = .nilIface
 | .ifc t p,v=>∃ u,v = .iface t u ∧ RepP H p u
 | .nilmap,v=>v = .map none
 | .hp row,v=>∃ b o vs,v = .pointer (some ⟨b,o,none⟩) ∧ RepL H row vs ∧ ∀ j u,vs[j]? = some u → H b (o + j) = some u
 | .clo f cs,v=>∃ vs:List Value,v = .func (.func f) #[] vs.toArray ∧ RepL H cs vs
 | .bfn f cs,v=>∃ vs:List Value,v = .func (.func f) vs.toArray #[] ∧ RepL H cs vs
 | .ifo n t p,v=>(n = true ∧ v = .nilIface) ∨ (n = false ∧ ∃ u,v = .iface t u ∧ RepP H p u)
 | .nsl rows,v=>(rows = [] ∧ (v = .slice none 0 0 ∨ ∃ a cap,v = .slice (some a) 0 cap)) ∨
   ∃ b o z cap,v = .slice (some ⟨b,o,none⟩) rows.length cap ∧ rows.length ≤ cap ∧ (Lw ≤ b ∧ o = 0) ∧ RepR H b z o rows
def RepL (H:(PH Lw)):List PV → List Value → Prop
 | [],vs=>vs = []
 | c :: cs,vs=>∃ v vs',vs = v :: vs' ∧ RepP H c v ∧ RepL H cs vs'
def RepR (H:(PH Lw)) (b z:Nat):Nat → List (List PV) → Prop
 | _,[]=>True
 | o,r :: rs=>r.length = z ∧ (∃ vs,RepL H r vs ∧ ∀ j v,vs[j]? = some v → H b (o + j) = some v) ∧ RepR H b z (o + z) rs
end
mutual
theorem RepP.mono {H H':(PH Lw)} (h:PH.le H H'):∀ {p:PV} {v:Value},RepP H p v → RepP H' p v
 | .bool _,_,x | .int ..,_,x | .str _,_,x | .nilsl,_,x | .nilp,_,x | .fn _,_,x | .nilfn,_,x | .nili,_,x | .nilmap,_,x=>by
  simp only [RepP] at *; exact x
 | .agg cs,v,x=>by
  simp only [RepP] at *
  obtain ⟨vs,e,r⟩:=x
  exact ⟨vs,e,RepL.mono h r⟩
 | .tup cs,v,x=>by
  simp only [RepP] at *
  obtain ⟨vs,e,r⟩:=x
  exact ⟨vs,e,RepL.mono h r⟩
 | .sl rows,v,x=>by
  simp only [RepP] at *
  rcases x with x | ⟨b,o,z,cap,e,l,r⟩
  ·exact .inl x
  ·exact .inr ⟨b,o,z,cap,e,l,RepR.mono h r⟩
 | .ifc t p,v,x=>by
  simp only [RepP] at *
  obtain ⟨u,e,r⟩:=x
  exact ⟨u,e,RepP.mono h r⟩
 | .hp row,v,x=>by
  simp only [RepP] at *
  obtain ⟨b,o,vs,e,r,c⟩:=x
  exact ⟨b,o,vs,e,RepL.mono h r,fun j u hu=>h _ _ _ (c j u hu)⟩
 | .clo f cs,v,x=>by
  simp only [RepP] at *
  obtain ⟨vs,e,r⟩:=x
  exact ⟨vs,e,RepL.mono h r⟩
 | .bfn f cs,v,x=>by
  simp only [RepP] at *
  obtain ⟨vs,e,r⟩:=x
  exact ⟨vs,e,RepL.mono h r⟩
 | .ifo n t p,v,x=>by
  simp only [RepP] at *
  rcases x with x | ⟨e,u,e',r⟩
  ·exact .inl x
  ·exact .inr ⟨e,u,e',RepP.mono h r⟩
 | .nsl rows,v,x=>by
  simp only [RepP] at *
  rcases x with x | ⟨b,o,z,cap,e,l,hb,r⟩
  ·exact .inl x
  ·exact .inr ⟨b,o,z,cap,e,l,hb,RepR.mono h r⟩
theorem RepL.mono {H H':(PH Lw)} (h:PH.le H H'):∀ {cs:List PV} {vs:List Value},RepL H cs vs → RepL H' cs vs
 | [],_,x=>by simp only [RepL] at *; exact x
 | c :: cs,vs,x=>by
  simp only [RepL] at *
  obtain ⟨v,vs',e,r,rs⟩:=x
  exact ⟨v,vs',e,RepP.mono h r,RepL.mono h rs⟩
theorem RepR.mono {H H':(PH Lw)} (h:PH.le H H') {b z:Nat}:∀ {o:Nat} {rows:List (List PV)},RepR H b z o rows → RepR H' b z o rows
 | _,[],_=>by simp only [RepR]
 | o,r :: rs,x=>by
  simp only [RepR] at *
  obtain ⟨e,⟨vs,q,c⟩,x'⟩:=x
  exact ⟨e,⟨vs,RepL.mono h q,fun j v hv=>h _ _ _ (c j v hv)⟩,RepR.mono h x'⟩
end
theorem RepL.length {H:(PH Lw)}:∀ {cs:List PV} {vs:List Value},RepL H cs vs → vs.length = cs.length
 | [],vs,x=>by simp only [RepL] at x; simp [x]
 | c :: cs,vs,x=>by
  simp only [RepL] at x
  obtain ⟨v,vs',e,_,rs⟩:=x
  simp [e,RepL.length rs]
theorem RepL.get {H:(PH Lw)}:∀ {cs:List PV} {vs:List Value} {i:Nat} {c:PV},RepL H cs vs → cs[i]? = some c → ∃ v,vs[i]? = some v ∧ RepP H c v
 | [],_,_,_,_,h=>by simp at h
 | c :: cs,vs,i,c',x,h=>by
  simp only [RepL] at x
  obtain ⟨v,vs',e,r,rs⟩:=x
  subst e
  cases i with
  | zero=>simp at h; subst h; exact ⟨v,by simp,r⟩
  | succ i=>simp at h; obtain ⟨u,hu,ru⟩:=rs.get h; exact ⟨u,by simpa using hu,ru⟩
theorem RepL.drop {H:(PH Lw)}:∀ {cs:List PV} {vs:List Value} (n:Nat),RepL H cs vs → RepL H (cs.drop n) (vs.drop n)
 | _,_,0,x=>by simpa using x
 | [],vs,n + 1,x=>by simp only [RepL] at x; simp [x,RepL]
 | c :: cs,vs,n + 1,x=>by
  simp only [RepL] at x
  obtain ⟨v,vs',e,r,rs⟩:=x
  subst e
  simpa using rs.drop n
theorem RepL.take {H:(PH Lw)}:∀ {cs:List PV} {vs:List Value} (n:Nat),RepL H cs vs → RepL H (cs.take n) (vs.take n)
 | _,_,0,x=>by simp [RepL]
 | [],vs,n + 1,x=>by simp only [RepL] at x; simp [x,RepL]
 | c :: cs,vs,n + 1,x=>by
  simp only [RepL] at x
  obtain ⟨v,vs',e,r,rs⟩:=x
  subst e
  simp only [List.take_succ_cons,RepL]
  exact ⟨v,_,rfl,r,rs.take n⟩
theorem RepL.append {H:(PH Lw)}:∀ {cs ds:List PV} {vs us:List Value},RepL H cs vs → RepL H ds us → RepL H (cs ++ ds) (vs ++ us)
 | [],_,vs,_,x,y=>by simp only [RepL] at x; simpa [x] using y
 | c :: cs,ds,vs,us,x,y=>by
  simp only [RepL] at x
  obtain ⟨v,vs',e,r,rs⟩:=x
  subst e
  simp only [List.cons_append,RepL]
  exact ⟨v,_,rfl,r,rs.append y⟩
theorem RepR.get {H:(PH Lw)} {b z:Nat}:∀ {o:Nat} {rows:List (List PV)} {i:Nat} {r:List PV},RepR H b z o rows → rows[i]? = some r →
  r.length = z ∧ ∃ vs,RepL H r vs ∧ ∀ j v,vs[j]? = some v → H b (o + i * z + j) = some v
 | _,[],_,_,_,h=>by simp at h
 | o,q :: rs,i,r,x,h=>by
  simp only [RepR] at x
  obtain ⟨e,c,x'⟩:=x
  cases i with
  | zero=>simp at h; subst h; simpa using ⟨e,c⟩
  | succ i =>
   simp at h
   have:=x'.get h
   have e2:o + z + i * z = o + (i + 1) * z:=by rw [Nat.add_mul]; omega
   rwa [e2] at this
theorem RepR.drop {H:(PH Lw)} {b z:Nat}:∀ {o:Nat} {rows:List (List PV)} (i:Nat),RepR H b z o rows → RepR H b z (o + i * z) (rows.drop i)
 | _,_,0,x=>by simpa using x
 | _,[],_ + 1,_=>by simp [RepR]
 | o,q :: rs,i + 1,x=>by
  simp only [RepR] at x
  have:=x.2.2.drop i
  have e2:o + z + i * z = o + (i + 1) * z:=by rw [Nat.add_mul]; omega
  rw [e2] at this
  simpa using this
theorem RepR.take {H:(PH Lw)} {b z:Nat}:∀ {o:Nat} {rows:List (List PV)} (i:Nat),RepR H b z o rows → RepR H b z o (rows.take i)
 | _,_,0,_=>by simp [RepR]
 | _,[],_ + 1,_=>by simp [RepR]
 | o,q :: rs,i + 1,x=>by
  simp only [RepR,List.take_succ_cons] at x ⊢
  exact ⟨x.1,x.2.1,x.2.2.take i⟩
mutual
def nle:PV → PV → Prop
 | .nilsl,.sl rows=>rows = []
 | .nilsl,.nsl rows=>rows = []
 | .agg a,.agg b=>nleL a b
 | .tup a,.tup b=>nleL a b
 | .hp a,.hp b=>nleL a b
 | .clo f a,.clo g b=>f = g ∧ nleL a b
 | .fn f,.clo g b=>f = g ∧ b = []
 | .nili,.ifo n _ _=>n = true
 | .ifc t p,.ifo n t' q=>n = false ∧ t = t' ∧ nle p q
 | .nsl a,.sl b=>a = b
 | a,b=>a = b
def nleL:List PV → List PV → Prop
 | [],[]=>True
 | a :: l,b :: m=>nle a b ∧ nleL l m
 | _,_=>False
end
mutual
theorem nle_rep {H:(PH Lw)}:∀ {p q:PV} {v:Value},nle p q → RepP H p v → RepP H q v
 | .nilsl,q,v,h,r=>by
  cases q <;> simp only [nle] at h <;> first | (subst h; simp only [RepP] at *; exact .inl ⟨trivial,.inl r⟩) | exact r | cases h
 | .agg a,q,v,h,r=>by
  cases q <;> simp only [nle] at h <;> try cases h
  simp only [RepP] at *
  obtain ⟨vs,e,rr⟩:=r
  exact ⟨vs,e,nleL_rep h rr⟩
 | .tup a,q,v,h,r=>by
  cases q <;> simp only [nle] at h <;> try cases h
  simp only [RepP] at *
  obtain ⟨vs,e,rr⟩:=r
  exact ⟨vs,e,nleL_rep h rr⟩
 | .hp a,q,v,h,r=>by
  cases q with
  | hp b' =>
   simp only [nle] at h
   simp only [RepP] at *
   obtain ⟨b,o,vs,e,rr,c⟩:=r
   exact ⟨b,o,vs,e,nleL_rep h rr,c⟩
  | _=>simp only [nle] at h; cases h
 | .clo f a,q,v,h,r=>by
  cases q with
  | clo g b =>
   simp only [nle] at h
   obtain ⟨rfl,h⟩:=h
   simp only [RepP] at *
   obtain ⟨vs,e,rr⟩:=r
   exact ⟨vs,e,nleL_rep h rr⟩
  | _=>simp only [nle] at h; cases h
 | .fn f,q,v,h,r=>by
  cases q with
  | clo g b =>
   simp only [nle] at h
   obtain ⟨rfl,rfl⟩:=h
   simp only [RepP] at *
   exact ⟨[],r,by simp only [RepL]⟩
  | fn g=>simp only [nle] at h; cases h; exact r
  | _=>simp only [nle] at h; cases h
 | .bool _,q,v,h,r | .int ..,q,v,h,r | .str _,q,v,h,r | .sl _,q,v,h,r | .nilp,q,v,h,r | .nilfn,q,v,h,r | .nilmap,q,v,h,r | .bfn ..,q,v,h,r | .ifo ..,q,v,h,r=>by
  cases q <;> simp only [nle] at h <;> cases h <;> exact r
 | .nili,q,v,h,r=>by
  cases q with
  | ifo n t q =>
   simp only [nle] at h
   simp only [RepP] at *
   exact .inl ⟨h,r⟩
  | nili=>exact r
  | _=>simp only [nle] at h; cases h
 | .ifc t p,q,v,h,r=>by
  cases q with
  | ifo n t' q =>
   simp only [nle] at h
   obtain ⟨h1,rfl,h3⟩:=h
   simp only [RepP] at *
   obtain ⟨u,e,ru⟩:=r
   exact .inr ⟨h1,u,e,nle_rep h3 ru⟩
  | ifc t' q=>simp only [nle] at h; cases h; exact r
  | _=>simp only [nle] at h; cases h
 | .nsl a,q,v,h,r=>by
  cases q with
  | sl b =>
   simp only [nle] at h
   subst h
   simp only [RepP] at *
   rcases r with x | ⟨b,o,z,cap,e,l,_,r⟩
   ·exact .inl x
   ·exact .inr ⟨b,o,z,cap,e,l,r⟩
  | nsl b=>simp only [nle] at h; cases h; exact r
  | _=>simp only [nle] at h; cases h
theorem nleL_rep {H:(PH Lw)}:∀ {p q:List PV} {v:List Value},nleL p q → RepL H p v → RepL H q v
 | [],[],_,_,r=>r
 | [],_ :: _,_,h,_=>by simp [nleL] at h
 | _ :: _,[],_,h,_=>by simp [nleL] at h
 | a :: l,b :: m,vs,h,r=>by
  simp only [nleL] at h
  simp only [RepL] at *
  obtain ⟨v,vs',e,r1,r2⟩:=r
  exact ⟨v,vs',e,nle_rep h.1 r1,nleL_rep h.2 r2⟩
end
def nleR:List (List PV) → List (List PV) → Prop
 | [],[]=>True
 | a :: l,b :: m=>nleL a b ∧ nleR l m
 | _,_=>False
theorem nleL_length:∀ {p q:List PV},nleL p q → p.length = q.length
 | [],[],_=>rfl
 | [],_ :: _,h=>by simp [nleL] at h
 | _ :: _,[],h=>by simp [nleL] at h
 | a :: l,b :: m,h=>by simp only [nleL] at h; simp [nleL_length h.2]
theorem nleR_length:∀ {p q:List (List PV)},nleR p q → p.length = q.length
 | [],[],_=>rfl
 | [],_ :: _,h=>by simp [nleR] at h
 | _ :: _,[],h=>by simp [nleR] at h
 | a :: l,b :: m,h=>by simp only [nleR] at h; simp [nleR_length h.2]
theorem nleR_rep {H:(PH Lw)} {b z:Nat}:∀ {o:Nat} {p q:List (List PV)},nleR p q → RepR H b z o p → RepR H b z o q
 | _,[],[],_,_=>by simp only [RepR]
 | _,[],_ :: _,h,_=>by simp [nleR] at h
 | _,_ :: _,[],h,_=>by simp [nleR] at h
 | o,r :: rs,s :: ss,h,x=>by
  simp only [nleR] at h
  simp only [RepR] at *
  obtain ⟨e,⟨vs,q,c⟩,x'⟩:=x
  exact ⟨by rw [← e,nleL_length h.1],⟨vs,nleL_rep h.1 q,c⟩,nleR_rep h.2 x'⟩
theorem sl_le {H:(PH Lw)} {p q:List (List PV)} {v:Value} (h:p = q ∨ nleR p q) (r:RepP H (.sl p) v):RepP H (.sl q) v:=by
 rcases h with rfl | h
 ·exact r
 ·simp only [RepP] at *
  rcases r with ⟨rfl,r⟩ | ⟨b,o,z,cap,e,l,r⟩
  ·cases q with
   | nil=>exact .inl ⟨rfl,r⟩
   | cons _ _=>simp [nleR] at h
  ·have e2:=nleR_length h
   exact .inr ⟨b,o,z,cap,by rw [← e2]; exact e,by rw [← e2]; exact l,nleR_rep h r⟩
def RepF (ρ:List Value) (H:(PH Lw)):FV → Value → Prop
 | .top,_=>True
 | .p p,x=>RepP H p x
 | .opt g v,x=>if g = true then RepF ρ H v x else x = undef
 | .tsl k rows,x=>ρ[k]? = some x ∧ RepP H (.sl rows) x
 | .ptr k off,x=>∃ b,ρ[k]? = some (.pointer (some ⟨b,0,none⟩)) ∧ x = .pointer (some ⟨b,off,none⟩)
 | .hptr row,x=>∃ b o vs,x = .pointer (some ⟨b,o,none⟩) ∧ RepL H row vs ∧ ∀ j v,vs[j]? = some v → H b (o + j) = some v
 | .bself k,x=>∃ b,ρ[k]? = some (.pointer (some ⟨b,0,none⟩)) ∧ (x = .pointer none ∨ x = .pointer (some ⟨b,0,none⟩))
 | .bsl k off len cap,x=>∃ b,ρ[k]? = some (.pointer (some ⟨b,0,none⟩)) ∧ ∃ c,x = .slice (some ⟨b,off,none⟩) len c ∧ (cap = 0 ∨ c = cap)
 | .vsl k n,x=>ρ[k]? = some x ∧ ((n = 0 ∧ x = .slice none 0 0) ∨ ∃ b cap,x = .slice (some ⟨b,0,none⟩) n cap)
 | .eptr k z i off,x=>∃ b n cap,ρ[k]? = some (.slice (some ⟨b,0,none⟩) n cap) ∧ x = .pointer (some ⟨b,i * z + off,none⟩)
 | .mref k,x=>∃ b,ρ[k]? = some (.map (some b)) ∧ x = .map (some b)
 | .pair a b,x=>∃ u v,x = .tuple #[u,v] ∧ RepF ρ H a u ∧ RepF ρ H b v
 | .stmp k,x=>ρ[k]? = some x
 | .clo f c,x=>∃ vs:List Value,x = .func (.func f) #[] vs.toArray ∧ RepF ρ H c (.tuple vs.toArray)
 | .cap0,x=>x = .tuple #[]
 | .cap a b,x=>∃ (u:Value) (vs:List Value),x = .tuple (u :: vs).toArray ∧ RepF ρ H a u ∧ RepF ρ H b (.tuple vs.toArray)
 | .fagg c,x=>∃ vs:List Value,x = .agg vs.toArray ∧ RepF ρ H c (.tuple vs.toArray)
 | .nxt ok a b,x=>if ok = true then ∃ u v,x = .tuple #[.bool true,u,v] ∧ RepP H a u ∧ RepP H b v else x = .tuple #[.bool false]
 | .asl k off n,x=>∃ b n' cap' c,ρ[k]? = some (.slice (some ⟨b,0,none⟩) n' cap') ∧ x = .slice (some ⟨b,off,none⟩) n c
 | .ifs t c,x=>∃ u,x = .iface t u ∧ RepF ρ H c u
 | .cut rows,x=>RepP H (.sl rows) x ∧ ∃ p n,x = .slice p n n
theorem RepF.mono {ρ ρ':List Value} {H H':(PH Lw)} (hr:ρ <+: ρ') (h:PH.le H H'):∀ {f:FV} {x:Value},RepF ρ H f x → RepF ρ' H' f x
 | .top,_,_=>trivial
 | .p p,x,r=>RepP.mono h (p:=p) r
 | .opt g v,x,r=>by
  simp only [RepF] at *
  split
  ·rename_i hg; simp only [hg,if_true] at r; exact RepF.mono hr h r
  ·rename_i hg; simpa [hg] using r
 | .tsl k rows,x,r=>by
  obtain ⟨l,rfl⟩:=hr
  refine ⟨?_,RepP.mono h r.2⟩
  rw [List.getElem?_append_left (List.getElem?_eq_some_iff.1 r.1).1]; exact r.1
 | .ptr k off,x,r=>by
  obtain ⟨l,rfl⟩:=hr
  obtain ⟨b,e,e'⟩:=r
  refine ⟨b,?_,e'⟩
  rw [List.getElem?_append_left (List.getElem?_eq_some_iff.1 e).1]; exact e
 | .hptr row,x,r=>by
  obtain ⟨b,o,vs,e,q,c⟩:=r
  exact ⟨b,o,vs,e,RepL.mono h q,fun j v hv=>h _ _ _ (c j v hv)⟩
 | .bself k,x,r=>by
  obtain ⟨l,rfl⟩:=hr
  obtain ⟨b,e,e'⟩:=r
  refine ⟨b,?_,e'⟩
  rw [List.getElem?_append_left (List.getElem?_eq_some_iff.1 e).1]; exact e
 | .bsl k off len cap,x,r=>by
  obtain ⟨l,rfl⟩:=hr
  obtain ⟨b,e,e'⟩:=r
  refine ⟨b,?_,e'⟩
  rw [List.getElem?_append_left (List.getElem?_eq_some_iff.1 e).1]; exact e
 | .vsl k n,x,r=>by
  obtain ⟨l,rfl⟩:=hr
  refine ⟨?_,r.2⟩
  rw [List.getElem?_append_left (List.getElem?_eq_some_iff.1 r.1).1]; exact r.1
 | .eptr k z i off,x,r=>by
  obtain ⟨l,rfl⟩:=hr
  obtain ⟨b,n,cap,e,e'⟩:=r
  refine ⟨b,n,cap,?_,e'⟩
  rw [List.getElem?_append_left (List.getElem?_eq_some_iff.1 e).1]; exact e
 | .mref k,x,r=>by
  obtain ⟨l,rfl⟩:=hr
  obtain ⟨b,e,e'⟩:=r
  refine ⟨b,?_,e'⟩
  rw [List.getElem?_append_left (List.getElem?_eq_some_iff.1 e).1]; exact e
 | .pair a b,x,r=>by
  obtain ⟨u,v,e,ra,rb⟩:=r
  exact ⟨u,v,e,ra.mono hr h,rb.mono hr h⟩
 | .stmp k,x,r=>by
  obtain ⟨l,rfl⟩:=hr
  simp only [RepF] at *
  rw [List.getElem?_append_left (List.getElem?_eq_some_iff.1 r).1]; exact r
 | .clo f c,x,r=>by
  obtain ⟨vs,e,rc⟩:=r
  exact ⟨vs,e,rc.mono hr h⟩
 | .cap0,x,r=>r
 | .cap a b,x,r=>by
  obtain ⟨u,vs,e,ra,rb⟩:=r
  exact ⟨u,vs,e,ra.mono hr h,rb.mono hr h⟩
 | .fagg c,x,r=>by
  obtain ⟨vs,e,rc⟩:=r
  exact ⟨vs,e,rc.mono hr h⟩
 | .nxt ok a b,x,r=>by
  simp only [RepF] at *
  split
  ·rename_i hok
   simp only [hok,if_true] at r
   obtain ⟨u,v,e,ra,rb⟩:=r
   exact ⟨u,v,e,ra.mono h,rb.mono h⟩
  ·rename_i hok; simpa [hok] using r
 | .asl k off n,x,r=>by
  obtain ⟨l,rfl⟩:=hr
  obtain ⟨b,n',cap',c,e,e'⟩:=r
  refine ⟨b,n',cap',c,?_,e'⟩
  rw [List.getElem?_append_left (List.getElem?_eq_some_iff.1 e).1]; exact e
 | .ifs t c,x,r=>by
  obtain ⟨u,e,rc⟩:=r
  exact ⟨u,e,rc.mono hr h⟩
 | .cut rows,x,r=>⟨RepP.mono h r.1,r.2⟩
def RepFL (ρ:List Value) (H:(PH Lw)):List FV → List Value → Prop
 | [],vs=>vs = []
 | c :: cs,vs=>∃ v vs',vs = v :: vs' ∧ RepF ρ H c v ∧ RepFL ρ H cs vs'
theorem RepFL.mono {ρ ρ':List Value} {H H':(PH Lw)} (hr:ρ <+: ρ') (h:PH.le H H'):∀ {cs:List FV} {vs:List Value},RepFL ρ H cs vs → RepFL ρ' H' cs vs
 | [],_,x=>x
 | c :: cs,vs,x=>by
  obtain ⟨v,vs',e,r,rs⟩:=x
  exact ⟨v,vs',e,r.mono hr h,rs.mono hr h⟩
theorem RepFL.length {ρ:List Value} {H:(PH Lw)}:∀ {cs:List FV} {vs:List Value},RepFL ρ H cs vs → vs.length = cs.length
 | [],vs,x=>by simp only [RepFL] at x; simp [x]
 | c :: cs,vs,x=>by
  obtain ⟨v,vs',e,_,rs⟩:=x
  simp [e,RepFL.length rs]
theorem RepFL.drop {ρ:List Value} {H:(PH Lw)}:∀ {cs:List FV} {vs:List Value} (n:Nat),RepFL ρ H cs vs → RepFL ρ H (cs.drop n) (vs.drop n)
 | _,_,0,x=>by simpa using x
 | [],vs,n + 1,x=>by simp only [RepFL] at x; simp [x,RepFL]
 | c :: cs,vs,n + 1,x=>by
  obtain ⟨v,vs',e,r,rs⟩:=x
  subst e
  simpa using rs.drop n
theorem RepFL.take {ρ:List Value} {H:(PH Lw)}:∀ {cs:List FV} {vs:List Value} (n:Nat),RepFL ρ H cs vs → RepFL ρ H (cs.take n) (vs.take n)
 | _,_,0,x=>by simp [RepFL]
 | [],vs,n + 1,x=>by simp only [RepFL] at x; simp [x,RepFL]
 | c :: cs,vs,n + 1,x=>by
  obtain ⟨v,vs',e,r,rs⟩:=x
  subst e
  simp only [List.take_succ_cons,RepFL]
  exact ⟨v,_,rfl,r,rs.take n⟩
theorem RepFL.of_RepL {ρ:List Value} {H:(PH Lw)}:∀ {cs:List PV} {vs:List Value},RepL H cs vs → RepFL ρ H (cs.map .p) vs
 | [],_,x=>by simp only [RepL] at x; simpa [RepFL] using x
 | c :: cs,vs,x=>by
  simp only [RepL] at x
  obtain ⟨v,vs',e,r,rs⟩:=x
  exact ⟨v,vs',e,r,RepFL.of_RepL rs⟩
def RootOk (H:(PH Lw)):Prop:=∃ m,H 0 0 = some (.int .i64 m)
def NotFrozen (w:World) (b o:Nat) (v:Value):Prop:=(∃ m,v = .int .u8 m) ∨ w.frozen? ⟨b,o,none⟩ = false
theorem NotFrozen.block {w w':World} {b o:Nat} {v:Value} (h:NotFrozen w b o v) (e:w'.heap[b]? = w.heap[b]?):NotFrozen w' b o v:=by
 unfold NotFrozen World.frozen? at *
 rw [e]; exact h
theorem NotFrozen.of {w:World} {b o:Nat} {v:Value} {c:Array Value} {e:TypeId} (h:w.heap[b]? = some (.cells c e (0,0))):NotFrozen w b o v:=by
 refine .inr ?_
 unfold World.frozen?
 rw [h]; simp
structure SatH (H:(PH Lw)) (w:World):Prop where
 cell:∀ b o v,H b o = some v → w.cell? ⟨b,o,none⟩ = some v ∧ v.oneCell' = true
 root:RootOk H
 low:Lw ≤ w.heap.size
 nf:∀ b o v,H b o = some v → Lw ≤ b → NotFrozen w b o v
instance {H:(PH Lw)} {w:World}:CoeFun (SatH H w) (fun _=>∀ b o v,H b o = some v → w.cell? ⟨b,o,none⟩ = some v ∧ v.oneCell' = true):=⟨SatH.cell⟩
theorem RootOk.mono {H H':(PH Lw)} (h:RootOk H) (hle:∀ b o v,H b o = some v → H' b o = some v):RootOk H':=let ⟨m,hm⟩:=h; ⟨m,hle _ _ _ hm⟩
structure Keep (S:Nat → Prop) (w0 w:World):Prop where
 os:w.os = w0.os
 tape:w.tape = w0.tape
 output:w.output = w0.output
 size:w0.heap.size ≤ w.heap.size
 block:∀ k,k < w0.heap.size → ¬ S k → w.heap[k]? = w0.heap[k]?
theorem Keep.refl (S:Nat → Prop) (w:World):Keep S w w:=⟨rfl,rfl,rfl,Nat.le_refl _,fun _ _ _=>rfl⟩
theorem Keep.trans {S:Nat → Prop} {a b c:World} (h:Keep S a b) (k:Keep S b c):Keep S a c :=
 ⟨k.os.trans h.os,k.tape.trans h.tape,k.output.trans h.output,Nat.le_trans h.size k.size,
  fun i hi hs=>(k.block i (Nat.lt_of_lt_of_le hi h.size) hs).trans (h.block i hi hs)⟩
theorem Keep.step {S S':Nat → Prop} {a b c:World} (h:Keep S a b) (k:Keep S' b c) (hs:∀ i,S' i → S i ∨ a.heap.size ≤ i):Keep S a c :=
 ⟨k.os.trans h.os,k.tape.trans h.tape,k.output.trans h.output,Nat.le_trans h.size k.size,
  fun i hi hn=>(k.block i (Nat.lt_of_lt_of_le hi h.size) (fun x=>(hs i x).elim hn (by omega))).trans (h.block i hi hn)⟩
abbrev Nobody:Nat → Prop:=fun _=>False
structure Base (Lw:Nat) where
 S:Nat → Prop
 w0:World
 H0:(PH Lw)
 r0:List Value
def blkOf:Value → Option Nat
 | .pointer (some a)=>some a.block
 | .slice (some a) _ _=>some a.block
 | .map r=>r
 | _=>none
def RepV (H:(PH Lw)) (z:Nat):List (List PV) → List Value → Prop
 | [],vs=>vs = []
 | r :: rs,vs=>r.length = z ∧ ∃ a b,vs = a ++ b ∧ RepL H r a ∧ RepV H z rs b
theorem RepV.mono {H H':(PH Lw)} (h:PH.le H H') {z:Nat}:∀ {rows:List (List PV)} {vs:List Value},RepV H z rows vs → RepV H' z rows vs
 | [],_,x=>x
 | r :: rs,vs,x=>by
  obtain ⟨hz,a,b,e,q,y⟩:=x
  exact ⟨hz,a,b,e,RepL.mono h q,y.mono h⟩
def RepM (H:(PH Lw)):List (PV × PV) → List MapEntry → Prop
 | [],l=>l = []
 | (k,p) :: es,l=>∃ e l',l = e :: l' ∧ RepP H k e.key ∧ RepP H p e.val ∧ RepM H es l'
theorem RepM.mono {H H':(PH Lw)} (h:PH.le H H'):∀ {es:List (PV × PV)} {l:List MapEntry},RepM H es l → RepM H' es l
 | [],_,x=>x
 | (k,p) :: es,l,x=>by
  obtain ⟨e,l',e1,rk,rp,rr⟩:=x
  exact ⟨e,l',e1,RepP.mono h rk,RepP.mono h rp,rr.mono h⟩
def MarkOk (ρ:List Value) (H:(PH Lw)) (ents:Array MapEntry) (mk:Option (PV × Nat)):Prop :=
 ∀ key s,mk = some (key,s) → ∃ (j:Nat) (e:MapEntry),ents[j]? = some e ∧ RepP H key e.key ∧ ρ[s]? = some (.int .i64 e.born)
theorem MarkOk.mono {ρ ρ':List Value} {H H':(PH Lw)} {ents:Array MapEntry} {mk:Option (PV × Nat)} (hr:ρ <+: ρ') (h:PH.le H H') (m:MarkOk ρ H ents mk):MarkOk ρ' H' ents mk:=fun key s e=>by
 obtain ⟨j,x,hj,hk,hs⟩:=m key s e
 obtain ⟨l,rfl⟩:=hr
 exact ⟨j,x,hj,RepP.mono h hk,by rw [List.getElem?_append_left (List.getElem?_eq_some_iff.1 hs).1]; exact hs⟩
def ObjOk (ρ:List Value) (H:(PH Lw)) (w:World) (v:Value):AObj → Prop
 | .dead=>True
 | .box t cells=>∃ b vs,v = .pointer (some ⟨b,0,none⟩) ∧ w.heap[b]? = some (.cells vs.toArray t (0,0)) ∧ RepFL ρ H cells vs ∧ ∀ o,H b o = none
 | .tail e z n=>∃ xs,w.ownsRow 0 e z v n xs ∧ ∀ b,blkOf v = some b → (∀ j u,xs[j]? = some u → H b j = some u) ∧ ∀ o,n * z ≤ o → H b o = none
 | .vec e z rows=>∃ xs,w.ownsRow 0 e z v rows.length xs ∧ RepV H z rows xs ∧ (∀ u ∈ xs,u.oneCell' = true) ∧ ∀ b,blkOf v = some b → ∀ o,H b o = none
 | .mp d es mk=>∃ b ents clock,v = .map (some b) ∧ w.heap[b]? = some (.map ents clock) ∧ RepM H es ents.toList ∧ (MapKept.Stamped ents clock ∧ (∀ x ∈ ents.toList,MapKept.IsKey d x.key) ∧ MarkOk ρ H ents mk) ∧ ∀ o,H b o = none
 | .sit l pos=>∃ b,v = .pointer (some ⟨b,0,none⟩) ∧ w.heap[b]? = some (.stringIter ⟨l.toArray⟩ pos) ∧ ∀ o,H b o = none
 | .bv l=>∃ b cs e cap lo hi,v = .slice (some ⟨b,0,none⟩) l.length cap ∧ w.heap[b]? = some (.cells cs e (lo,hi)) ∧ (l.length ≤ lo ∨ hi ≤ lo) ∧ (∀ (j:Nat) (c:UInt8),l[j]? = some c → cs[j]? = some (.int .u8 c.toNat)) ∧ ∀ o,H b o = none
 | .vl e z rows j k=>∃ xs,w.ownsRow 0 e z v rows.length xs ∧ RepV H z rows xs ∧ (∀ u ∈ xs,u.oneCell' = true) ∧ (∀ b,blkOf v = some b → ∀ o,H b o = none) ∧ ∀ u,xs[(rows.length - 1) * z + j]? = some u → ρ[k]? = some u
 | .pbx t c=>∃ b u us,v = .pointer (some ⟨b,0,none⟩) ∧ w.heap[b]? = some (.cells (u :: us).toArray t (0,0)) ∧ RepF ρ H c u ∧ ∀ o,H b o = none
structure SatW (bs:(Base Lw)) (ρ:List Value) (H:(PH Lw)) (lo:List AObj) (w:World):Prop where
 sath:SatH H w
 hlen:ρ.length = lo.length
 pre:bs.r0 <+: ρ
 objs:∀ (k:Nat) (o:AObj) (v:Value),lo[k]? = some o → ρ[k]? = some v → ObjOk ρ H w v o
 excl:∀ (k k':Nat) (o o':AObj) (v v':Value) (b:Nat),lo[k]? = some o → lo[k']? = some o' → ρ[k]? = some v → ρ[k']? = some v' → k ≠ k' →
  o.live = true → o'.live = true → blkOf v = some b → blkOf v' ≠ some b
 own:∀ (k:Nat) (o:AObj) (v:Value) (b:Nat),lo[k]? = some o → ρ[k]? = some v → o.live = true → blkOf v = some b → bs.S b ∨ bs.w0.heap.size ≤ b
 keep:Keep bs.S bs.w0 w
 leH:PH.le bs.H0 H
 newH:∀ b o v,H b o = some v → (∃ v,bs.H0 b o = some v) ∨ bs.S b ∨ bs.w0.heap.size ≤ b
structure Sat (bs:(Base Lw)) (N:Nat) (ρ:List Value) (H:(PH Lw)) (e:Nat → FV) (lo:List AObj) (a:Act) (w:World):Prop extends SatW bs ρ H lo w where
 slots:∀ t,RepF ρ H (e t) (a.tmps.getD t undef)
 width:a.tmps.size = N
 defers:a.defers = []
structure Calm (H:(PH Lw)) (w:World) (H':(PH Lw)) (w':World):Prop where
 le:PH.le H H'
 sat:SatH H' w'
 keep:Keep Nobody w w'
 new:∀ b o v,H' b o = some v → (∃ v,H b o = some v) ∨ w.heap.size ≤ b
theorem Calm.refl {H:(PH Lw)} {w:World} (h:SatH H w):Calm H w H w:=⟨PH.le.refl H,h,Keep.refl _ w,fun _ _ v h=>.inl ⟨v,h⟩⟩
theorem Calm.trans {H H' H'':(PH Lw)} {w w' w'':World} (h:Calm H w H' w') (k:Calm H' w' H'' w''):Calm H w H'' w'' :=
 ⟨h.le.trans k.le,k.sat,h.keep.trans k.keep,fun b o v hv=>by
  rcases k.new b o v hv with ⟨v',hv'⟩ | hb
  ·exact h.new b o v' hv'
  ·exact .inr (Nat.le_trans h.keep.size hb)⟩
theorem SatH.block {H:(PH Lw)} {w w':World} (h:SatH H w) (hlow:w.heap.size ≤ w'.heap.size) (e:∀ b o v,H b o = some v → w'.heap[b]? = w.heap[b]?):SatH H w':=⟨fun b o v hv=>by
 rw [World.cell?_of_block (w:=w) (a:=⟨b,o,none⟩) (e b o v hv)]; exact h.cell b o v hv,h.root,Nat.le_trans h.low hlow,fun b o v hv hb=>(h.nf b o v hv hb).block (e b o v hv)⟩
theorem SatH.lt {H:(PH Lw)} {w:World} (h:SatH H w) {b o:Nat} {v:Value} (hv:H b o = some v):b < w.heap.size :=
 World.block_lt_of_cell? w ⟨b,o,none⟩ (h.cell b o v hv).1
theorem NotFrozen.own {w:World} {e:TypeId} {z n:Nat} {v:Value} {xs:List Value} (h:w.ownsRow 0 e z v n xs) {b o:Nat} {u:Value} (hb:blkOf v = some b):NotFrozen w b o u:=by
 rcases h.2 with ⟨rfl,_⟩ | ⟨g,cap,cur,rfl,_,hg,_⟩
 ·simp [blkOf] at hb
 ·simp only [blkOf,Option.some.injEq] at hb
  subst hb
  exact .of hg
theorem lt_of_get {w:World} {b:Nat} {o:Obj} (h:w.heap[b]? = some o):b < w.heap.size:=(Array.getElem?_eq_some_iff.1 h).1
theorem ownsRow_block {w w':World} {e:TypeId} {z n:Nat} {v:Value} {xs:List Value} (h:w.ownsRow 0 e z v n xs)
  (hb:∀ b,blkOf v = some b → b < w.heap.size → w'.heap[b]? = w.heap[b]?):w'.ownsRow 0 e z v n xs:=by
 refine ⟨h.1,?_⟩
 rcases h.2 with h2 | ⟨g,cap,cur,hv,h0,hg,r⟩
 ·exact .inl h2
 ·refine .inr ⟨g,cap,cur,hv,h0,?_,r⟩
  rw [hb g (by simp [hv,blkOf]) (lt_of_get hg)]; exact hg
theorem ObjOk.keep {ρ ρ':List Value} {H H':(PH Lw)} {w w':World} {v:Value} {o:AObj} (h:ObjOk ρ H w v o) (hr:ρ <+: ρ') (hH:PH.le H H')
  (hb:∀ b,blkOf v = some b → b < w.heap.size → w'.heap[b]? = w.heap[b]?) (hn:∀ b o',blkOf v = some b → b < w.heap.size → H b o' = none → H' b o' = none) :
  ObjOk ρ' H' w' v o:=by
 cases o with
 | dead=>trivial
 | box t cells =>
  obtain ⟨b,vs,rfl,hg,hc,hh⟩:=h
  have hlt:=lt_of_get hg
  exact ⟨b,vs,rfl,by rw [hb b (by simp [blkOf]) hlt]; exact hg,hc.mono hr hH,fun o=>hn b o (by simp [blkOf]) hlt (hh o)⟩
 | tail e z n =>
  obtain ⟨xs,ho,hh⟩:=h
  refine ⟨xs,ownsRow_block ho hb,fun b hv=>⟨fun j u hu=>hH _ _ _ ((hh b hv).1 j u hu),fun o hno=>?_⟩⟩
  have hlt:b < w.heap.size:=by
   rcases ho.2 with ⟨rfl,_⟩ | ⟨g,cap,cur,rfl,_,hg,_⟩
   ·simp [blkOf] at hv
   ·simp [blkOf] at hv; subst hv; exact lt_of_get hg
  exact hn b o hv hlt ((hh b hv).2 o hno)
 | vec e z rows =>
  obtain ⟨xs,ho,hr',h1,hh⟩:=h
  refine ⟨xs,ownsRow_block ho hb,hr'.mono hH,h1,fun b hv o=>?_⟩
  have hlt:b < w.heap.size:=by
   rcases ho.2 with ⟨rfl,_⟩ | ⟨g,cap,cur,rfl,_,hg,_⟩
   ·simp [blkOf] at hv
   ·simp [blkOf] at hv; subst hv; exact lt_of_get hg
  exact hn b o hv hlt (hh b hv o)
 | mp d es mk =>
  obtain ⟨b,ents,clock,rfl,hg,hr',⟨h1,h2,h3⟩,hh⟩:=h
  have hlt:=lt_of_get hg
  exact ⟨b,ents,clock,rfl,by rw [hb b (by simp [blkOf]) hlt]; exact hg,hr'.mono hH,⟨h1,h2,h3.mono hr hH⟩,fun o=>hn b o (by simp [blkOf]) hlt (hh o)⟩
 | sit l pos =>
  obtain ⟨b,rfl,hg,hh⟩:=h
  have hlt:=lt_of_get hg
  exact ⟨b,rfl,by rw [hb b (by simp [blkOf]) hlt]; exact hg,fun o=>hn b o (by simp [blkOf]) hlt (hh o)⟩
 | bv l =>
  obtain ⟨b,cs,e,cap,lo,hi,rfl,hg,h1,h2,hh⟩:=h
  have hlt:=lt_of_get hg
  exact ⟨b,cs,e,cap,lo,hi,rfl,by rw [hb b (by simp [blkOf]) hlt]; exact hg,h1,h2,fun o=>hn b o (by simp [blkOf]) hlt (hh o)⟩
 | pbx t c =>
  obtain ⟨b,u,us,rfl,hg,hc,hh⟩:=h
  have hlt:=lt_of_get hg
  exact ⟨b,u,us,rfl,by rw [hb b (by simp [blkOf]) hlt]; exact hg,hc.mono hr hH,fun o=>hn b o (by simp [blkOf]) hlt (hh o)⟩
 | vl e z rows j k =>
  obtain ⟨xs,ho,hr',h1,hh,hk⟩:=h
  refine ⟨xs,ownsRow_block ho hb,hr'.mono hH,h1,fun b hv o=>?_,fun u hu=>?_⟩
  ·have hlt:b < w.heap.size:=by
    rcases ho.2 with ⟨rfl,_⟩ | ⟨g,cap,cur,rfl,_,hg,_⟩
    ·simp [blkOf] at hv
    ·simp [blkOf] at hv; subst hv; exact lt_of_get hg
   exact hn b o hv hlt (hh b hv o)
  ·have hu:=hk u hu
   obtain ⟨l,rfl⟩:=hr
   rw [List.getElem?_append_left (List.getElem?_eq_some_iff.1 hu).1]; exact hu
theorem SatW.calm {bs:(Base Lw)} {ρ:List Value} {H H':(PH Lw)} {lo:List AObj} {w w':World} (s:SatW bs ρ H lo w) (c:Calm H w H' w'):SatW bs ρ H' lo w' where
 sath:=c.sat
 hlen:=s.hlen
 pre:=s.pre
 objs:=fun k o v hk hv=>(s.objs k o v hk hv).keep (List.prefix_refl _) c.le (fun b _ hb=>c.keep.block b hb id) (fun b o' _ hb hn=>by
  cases hx:H' b o' with
  | none=>rfl
  | some x =>
   rcases c.new b o' x hx with ⟨y,hy⟩ | hge
   ·rw [hn] at hy; cases hy
   ·omega)
 excl:=s.excl
 own:=s.own
 keep:=s.keep.step c.keep (fun _ h=>h.elim)
 leH:=s.leH.trans c.le
 newH:=fun b o v hv=>by
  rcases c.new b o v hv with ⟨y,hy⟩ | hge
  ·exact s.newH b o y hy
  ·exact .inr (.inr (Nat.le_trans s.keep.size hge))
theorem SatW.view {bs:(Base Lw)} {ρ:List Value} {H:(PH Lw)} {lo:List AObj} {w:World} (s:SatW bs ρ H lo w) {k:Nat} {o o':AObj} (hk:lo[k]? = some o) (hl:o.live = true) (_:o'.live = true) (h:∀ v,ρ[k]? = some v → ObjOk ρ H w v o → ObjOk ρ H w v o') :
  SatW bs ρ H (lo.set k o') w:=by
 have old:∀ {x:Nat} {ob:AObj},(lo.set k o')[x]? = some ob → ob.live = true → ∃ ob',lo[x]? = some ob' ∧ ob'.live = true:=by
  intro x ob hx hl'
  rw [List.getElem?_set] at hx
  split at hx
  ·rename_i e; subst e; exact ⟨o,hk,hl⟩
  ·exact ⟨ob,hx,hl'⟩
 refine { s with hlen:=by simpa using s.hlen,objs:=fun i ob v hi hv=>?_,excl:=fun i j oi oj vi vj b hi hj hvi hvj hne hli hlj hb=>?_,own:=fun i ob v b hi hv hl' hb=>?_ }
 ·rw [List.getElem?_set] at hi
  split at hi
  ·rename_i e
   subst e
   split at hi
   ·cases hi
    exact h v hv (s.objs k o v hk hv)
   ·cases hi
  ·exact s.objs i ob v hi hv
 ·obtain ⟨o1,h1,l1⟩:=old hi hli
  obtain ⟨o2,h2,l2⟩:=old hj hlj
  exact s.excl i j o1 o2 vi vj b h1 h2 hvi hvj hne l1 l2 hb
 ·obtain ⟨o1,h1,l1⟩:=old hi hl'
  exact s.own i o1 v b h1 hv l1 hb
theorem vl_vec {ρ:List Value} {H:(PH Lw)} {w:World} {v:Value} {e:TypeId} {z j k:Nat} {rows:List (List PV)} (h:ObjOk ρ H w v (.vl e z rows j k)):ObjOk ρ H w v (.vec e z rows) :=
 let ⟨xs,h1,h2,h3,h4,_⟩:=h
 ⟨xs,h1,h2,h3,h4⟩
end Ax
end
section
namespace Ax
open Go
variable {Lw:Nat}
abbrev Env:=List (Nat × FV)
def lookD:Env → Nat → FV
 | [],_=>.top
 | (t',v) :: E,t=>match Nat.beq t t' with | true=>v | false=>lookD E t
def look:Env → Nat → (FV → Prop) → Prop
 | [],_,R=>R .top
 | (t',v) :: E,t,R=>match Nat.beq t t' with | true=>R v | false=>look E t R
def forceP (v:PV) (R:PV → Prop):Prop :=
 match v with
 | .bool b=>R (.bool b) | .int k n=>R (.int k n) | .str l=>R (.str l)
 | .agg cs=>R (.agg cs) | .tup vs=>R (.tup vs) | .nilsl=>R .nilsl | .sl rows=>R (.sl rows)
 | .nilp=>R .nilp | .fn f=>R (.fn f) | .nilfn=>R .nilfn | .nili=>R .nili | .ifc t v=>R (.ifc t v) | .nilmap=>R .nilmap | .hp row=>R (.hp row) | .clo f cs=>R (.clo f cs) | .bfn f cs=>R (.bfn f cs) | .ifo n t v=>R (.ifo n t v) | .nsl rows=>R (.nsl rows)
def forceF (v:FV) (R:FV → Prop):Prop :=
 match v with
 | .top=>R .top
 | .p v=>forceP v fun v=>R (.p v)
 | .opt g v=>R (.opt g v)
 | .tsl k rows=>R (.tsl k rows)
 | .ptr k off=>R (.ptr k off)
 | .hptr row=>R (.hptr row)
 | .bself k=>R (.bself k)
 | .bsl k off len cap=>R (.bsl k off len cap)
 | .vsl k n=>R (.vsl k n)
 | .eptr k z i off=>R (.eptr k z i off)
 | .mref k=>R (.mref k)
 | .pair a b=>R (.pair a b)
 | .stmp k=>R (.stmp k)
 | .clo f c=>R (.clo f c)
 | .cap0=>R .cap0
 | .cap a b=>R (.cap a b)
 | .fagg c=>R (.fagg c)
 | .nxt ok a b=>R (.nxt ok a b)
 | .asl k off n=>R (.asl k off n)
 | .ifs t c=>R (.ifs t c)
 | .cut rows=>R (.cut rows)
theorem forceP_eq (v:PV) (R:PV → Prop):forceP v R = R v:=by cases v <;> rfl
theorem forceF_eq (v:FV) (R:FV → Prop):forceF v R = R v:=by cases v <;> first | rfl | exact forceP_eq _ (fun v=>R (.p v))
def ofV1:Value → Option PV
 | .bool b=>some (.bool b)
 | .int k n=>some (.int k n)
 | .string ⟨⟨l⟩⟩=>some (.str l)
 | .slice none 0 0=>some .nilsl
 | .pointer none=>some .nilp
 | .nilIface=>some .nili
 | .nilFunc=>some .nilfn
 | .map none=>some .nilmap
 | _=>none
def ofVs:List Value → (List PV → Prop) → Prop
 | [],R=>R []
 | v :: vs,R=>match ofV1 v with | some p=>ofVs vs fun l=>R (p :: l) | none=>False
def ofVL:List Value → Option (List PV)
 | []=>some []
 | v :: vs=>match ofV1 v with
  | some p=>(match ofVL vs with | some l=>some (p :: l) | none=>none)
  | none=>none
def ofVF:Value → FV
 | .tuple ⟨[]⟩=>.p (.tup [])
 | .agg ⟨vs⟩=>match ofVL vs with | some ps=>.p (.agg ps) | none=>.top
 | v=>match ofV1 v with | some p=>.p p | none=>.top
def evF (e:Nat → FV):Operand → FV
 | .tmp t=>e t
 | .const v=>ofVF v
 | .func f=>.p (.fn f)
 | .global _=>.top
def ev (E:Env) (x:Operand) (R:FV → Prop):Prop :=
 match x with
 | .tmp t=>look E t R
 | .const v=>forceF (ofVF v) R
 | .func f=>R (.p (.fn f))
 | .global _=>R .top
abbrev G:=Option Bool
def gOn (g:G):Prop:=match g with | none=>True | some b=>b = true
def gI (g:G) (p:Prop):Prop:=match g with | none=>p | some b=>b = true → p
def evS (E:Env) (g:G) (x:Operand) (R:FV → Prop):Prop :=
 ev E x fun v=>match v with
 | .opt g' v'=>gI g (g' = true) ∧ R v'
 | v=>R v
def tupC:List FV → FV
 | []=>.cap0
 | v :: l=>.cap v (tupC l)
def chainK:FV → (List FV → Prop) → Prop
 | .cap0,R=>R []
 | .cap a b,R=>chainK b fun l=>R (a :: l)
 | _,_=>False
def takeK {α:Type}:Nat → List α → (List α → Prop) → Prop
 | 0,_,R=>R []
 | n + 1,l,R=>match l with | []=>False | a :: l=>takeK n l fun l=>R (a :: l)
def dropK {α:Type}:Nat → List α → (List α → Prop) → Prop
 | 0,l,R=>R l
 | n + 1,l,R=>match l with | []=>False | _ :: l=>dropK n l R
def nthK {α:Type}:Nat → List α → (α → Prop) → Prop
 | 0,l,R=>match l with | []=>False | a :: _=>R a
 | n + 1,l,R=>match l with | []=>False | _ :: l=>nthK n l R
def setK {α:Type}:Nat → α → List α → (List α → Prop) → Prop
 | 0,x,l,R=>match l with | []=>False | _ :: l=>R (x :: l)
 | n + 1,x,l,R=>match l with | []=>False | a :: l=>setK n x l fun l=>R (a :: l)
def snocK {α:Type}:List α → α → (List α → Prop) → Prop
 | [],x,R=>R [x]
 | a :: l,x,R=>snocK l x fun l=>R (a :: l)
def lenK {α:Type}:List α → Nat → (Nat → Prop) → Prop
 | [],n,R=>R n
 | _ :: l,n,R=>lenK l (n + 1) R
def sizeT (P:Program) (t:TypeId):Nat:=match P.info? t with | some i=>i.size | none=>0
def aggD:TypeDesc → Bool
 | .struct _ | .array _ _=>true
 | _=>false
def typeK (P:Program) (t:TypeId) (R:Bool → Nat → Prop):Prop :=
 match P.underlying t with
 | some d=>match P.info? t with
  | some i=>R (aggD d) i.size
  | none=>False
 | none=>False
def fieldK (P:Program) (t:TypeId) (f:Nat) (R:Nat → TypeId → Prop):Prop :=
 match P.underlying t with
 | some (.struct ⟨fs⟩)=>nthK f fs fun x=>match P.info? x.type with
  | some i=>match Nat.beq i.size 0 with | true=>False | false=>R x.offset x.type
  | none=>False
 | _=>False
def frz0 (v:FV) (R:PV → Prop):Prop :=
 match v with
 | .p v=>R v
 | .tsl _ rows=>R (.sl rows)
 | .hptr row=>R (.hp row)
 | _=>False
def capsK:FV → (List PV → Prop) → Prop
 | .cap0,R=>R []
 | .cap a b,R=>frz0 a fun p=>capsK b fun l=>R (p :: l)
 | _,_=>False
def frzK (v:FV) (R:PV → Prop):Prop :=
 match v with
 | .p v=>R v
 | .tsl _ rows=>R (.sl rows)
 | .hptr row=>R (.hp row)
 | .clo f c=>capsK c fun cs=>R (.clo f cs)
 | .fagg c=>capsK c fun cs=>R (.agg cs)
 | _=>False
def frzL:List FV → (List PV → Prop) → Prop
 | [],R=>R []
 | v :: l,R=>frzK v fun v=>frzL l fun l=>R (v :: l)
def evL (E:Env) (g:G):List Operand → (List FV → Prop) → Prop
 | [],R=>R []
 | x :: l,R=>evS E g x fun v=>evL E g l fun l=>R (v :: l)
def maxI:Int:=9223372036854775807
def binI (op:BinOp) (k:IntKind) (a b:Int) (R:PV → Prop):Prop :=
 match op with
 | .add=>R (.int k (k.wrap (a + b)))
 | .sub=>R (.int k (k.wrap (a - b)))
 | .mul=>R (.int k (k.wrap (a * b)))
 | .eql=>R (.bool (a == b))
 | .neq=>R (.bool (a != b))
 | .lss=>R (.bool (decide (a < b)))
 | .leq=>R (.bool (decide (a ≤ b)))
 | .gtr=>R (.bool (decide (a > b)))
 | .geq=>R (.bool (decide (a ≥ b)))
 | .and=>R (.int k (k.wrap (BitVec.ofInt k.bits a &&& BitVec.ofInt k.bits b).toNat))
 | .or=>R (.int k (k.wrap (BitVec.ofInt k.bits a ||| BitVec.ofInt k.bits b).toNat))
 | .xor=>R (.int k (k.wrap (BitVec.ofInt k.bits a ^^^ BitVec.ofInt k.bits b).toNat))
 | _=>False
def binS (g:G) (op:BinOp) (a b:List UInt8) (R:PV → Prop):Prop :=
 match op with
 | .add=>gI g (((a.length + b.length:Nat):Int) ≤ maxI) ∧ R (.str (a ++ b))
 | .eql=>R (.bool (a == b))
 | .neq=>R (.bool (!(a == b)))
 | .lss=>R (.bool (Op.bytesLess a b))
 | .leq=>R (.bool (Op.bytesLess a b || a == b))
 | .gtr=>R (.bool (!(Op.bytesLess a b || a == b)))
 | .geq=>R (.bool (!(Op.bytesLess a b)))
 | _=>False
def binB (op:BinOp) (a b:Bool) (R:PV → Prop):Prop :=
 match op with
 | .eql=>R (.bool (a == b))
 | .neq=>R (.bool (!(a == b)))
 | _=>False
def isBoolT (P:Program) (t:TypeId) (R:Prop):Prop :=
 match P.underlying t with
 | some .bool=>R
 | _=>False
def kindEq:IntKind → IntKind → Bool
 | .i8,.i8 | .i16,.i16 | .i32,.i32 | .i64,.i64 | .u8,.u8 | .u16,.u16 | .u32,.u32 | .u64,.u64=>true
 | _,_=>false
theorem kindEq_spec {k k':IntKind} (h:kindEq k k' = true):k = k':=by cases k <;> cases k' <;> first | rfl | cases h
def fitsB (P:Program):List Field → Nat → List PV → Bool
 | [],_,[]=>true
 | f :: fs, o, c :: cs => (f.name != "_") && Nat.beq f.offset o && (match P.underlying f.type, c with
  | some (.int _),.int _ _=>true
  | some .string,.str _=>true
  | some .bool,.bool _=>true
  | _,_=>false) && fitsB P fs (o + 1) cs
 | _,_,_=>false
def boolsB:List PV → Bool
 | []=>true
 | .bool _ :: cs=>boolsB cs
 | _ :: _=>false
def boolArrB (P:Program) (t e:TypeId) (n:Nat) (cs:List PV):Bool :=
 !P.eqGuardType P.depth t && (match P.underlying e with | some .bool=>true | _=>false) && (P.info? e).isSome && Nat.beq (P.cellsOf e) 1 && Nat.beq n cs.length && boolsB cs
def flatB (P:Program) (t:TypeId) (cs:List PV):Bool :=
 match P.underlying t with
 | some (.array n e)=>boolArrB P t e n cs
 | some (.struct ⟨fs⟩)=>!P.stoodInHeld t && !P.eqGuardType P.depth t && fitsB P fs 0 cs
 | _=>false
def eqCs:List PV → List PV → (Bool → Prop) → Prop
 | [],[],R=>R true
 | .int k a :: as,.int k' b :: bs,R=>match kindEq k k' with
  | true=>eqCs as bs fun c=>R (bif a == b then c else false)
  | false=>False
 | .str a :: as,.str b :: bs,R=>eqCs as bs fun c=>R (bif a == b then c else false)
 | .bool a :: as,.bool b :: bs,R=>eqCs as bs fun c=>R (bif a == b then c else false)
 | _,_,_=>False
def kBin (P:Program) (g:G) (op:BinOp) (t:TypeId) (x y:FV) (R:FV → Prop):Prop :=
 match x with
 | .p (.int k a)=>match y with
  | .p (.int k' b)=>match op with
   | .shl=>gI g (0 ≤ b) ∧ R (.p (.int k (k.wrap (a * 2 ^ (min b.toNat k.bits)))))
   | .shr=>gI g (0 ≤ b) ∧ R (.p (.int k (a.fdiv (2 ^ (min b.toNat k.bits)))))
   | .quo=>match kindEq k k' with | true=>gI g (b ≠ 0) ∧ R (.p (.int k (k.wrap (a.tdiv b)))) | false=>False
   | .rem=>match kindEq k k' with | true=>gI g (b ≠ 0) ∧ R (.p (.int k (a.tmod b))) | false=>False
   | op=>match kindEq k k' with | true=>binI op k a b fun v=>R (.p v) | false=>False
  | _=>False
 | .p (.str a)=>match y with
  | .p (.str b)=>binS g op a b fun v=>R (.p v)
  | _=>False
 | .p (.bool a)=>match y with
  | .p (.bool b)=>isBoolT P t (binB op a b fun v=>R (.p v))
  | _=>False
 | .p (.agg as)=>match y with
  | .p (.agg bs)=>match op with
   | .eql=>flatB P t as = true ∧ eqCs as bs fun c=>R (.p (.bool c))
   | .neq=>flatB P t as = true ∧ eqCs as bs fun c=>R (.p (.bool (!c)))
   | _=>False
  | _=>False
 | _=>False
def kField (P:Program) (t:TypeId) (x:FV) (f:Nat) (R:FV → Prop):Prop :=
 match x with
 | .ptr k off=>fieldK P t f fun o _=>R (.ptr k (off + o))
 | .hptr row=>fieldK P t f fun o _=>dropK o row fun r=>R (.hptr r)
 | .eptr k z i off=>fieldK P t f fun o _=>R (.eptr k z i (off + o))
 | _=>False
def kPart (P:Program) (t:TypeId) (x:FV) (f:Nat) (R:FV → Prop):Prop :=
 match x with
 | .p (.agg cs)=>fieldK P t f fun o u=>dropK o cs fun r=>typeK P u fun agg n=>match agg with
  | true=>takeK n r fun r=>R (.p (.agg r))
  | false=>match r with | c :: _=>R (.p c) | []=>False
 | _=>False
def elemK (P:Program) (t:TypeId) (R:TypeId → Nat → Prop):Prop :=
 match P.underlying t with
 | some (.slice e)=>match P.info? e with | some i=>R e i.size | none=>False
 | _=>False
def kIndexAddr (P:Program) (g:G) (t:TypeId) (x i:FV) (R:FV → Prop):Prop :=
 match x,i with
 | .p (.sl rows),.p (.int _ i)=>elemK P t fun _ z=>∃ row,gI g (0 ≤ i ∧ rows[i.toNat]? = some row ∧ row.length = z) ∧ R (.hptr row)
 | .tsl _ rows,.p (.int _ i)=>elemK P t fun _ z=>∃ row,gI g (0 ≤ i ∧ rows[i.toNat]? = some row ∧ row.length = z) ∧ R (.hptr row)
 | .ptr k off,.p (.int _ i)=>match P.underlying t with
  | some (.array n e)=>match P.info? e with
   | some ti=>gI g (0 ≤ i ∧ i < n) ∧ R (.ptr k (off + i.toNat * ti.size))
   | none=>False
  | _=>False
 | .vsl k n,.p (.int _ i)=>elemK P t fun _ z=>∃ j:Nat,gI g (i = j ∧ j < n) ∧ R (.eptr k z j 0)
 | .hptr row,.p (.int _ i)=>match P.underlying t with
  | some (.array n e)=>match P.info? e with
   | some ti=>gI g (0 ≤ i ∧ i < n) ∧ R (.hptr ((row.drop (i.toNat * ti.size)).take ti.size))
   | none=>False
  | _=>False
 | .bsl k off n _,.p (.int _ i)=>elemK P t fun _ _=>gI g (i = 0 ∧ 0 < n) ∧ R (.ptr k off)
 | .eptr k z 0 0,.p (.int _ i)=>match P.underlying t with
  | some (.array n e)=>match P.info? e with
   | some ti=>match Nat.beq ti.size 1 with
    | true=>∃ j:Nat,gI g (z = 1 ∧ i = j ∧ j < n) ∧ R (.eptr k 1 j 0)
    | false=>False
   | none=>False
  | _=>False
 | _,_=>False
def kIndex (P:Program) (g:G) (t:TypeId) (x i:FV) (R:FV → Prop):Prop :=
 match x,i with
 | .p (.str l),.p (.int _ i)=>match P.underlying t with
  | some .string=>∃ b,gI g (0 ≤ i ∧ l[i.toNat]? = some b) ∧ R (.p (.int .u8 b.toNat))
  | _=>False
 | .p (.agg cs),.p (.int _ i)=>match P.underlying t with
  | some (.array n e)=>typeK P e fun agg z=>match agg with
   | false=>match Nat.beq z 1 with
    | true=>∃ c,gI g (0 ≤ i ∧ i < n ∧ cs[i.toNat]? = some c) ∧ R (.p c)
    | false=>False
   | true=>∃ c,gI g (0 ≤ i ∧ i < n ∧ (cs.drop (i.toNat * z)).take z = c) ∧ R (.p (.agg c))
  | _=>False
 | _,_=>False
def boundK (E:Env) (g:G) (x:Option Operand) (d:Nat) (R:Nat → Prop):Prop :=
 match x with
 | none=>R d
 | some x=>evS E g x fun v=>match v with
  | .p (.int _ i)=>∃ n:Nat,gI g (i = n) ∧ R n
  | _=>False
def kCut (P:Program) (E:Env) (g:G) (t:TypeId) (rows:List (List PV)) (hi:Option Operand) (m:Operand) (R:FV → Prop):Prop :=
 match P.underlying t with
 | some (.slice e)=>match P.info? e with
  | some i=>match hi with
   | some hi=>boundK E g (some hi) rows.length fun h=>boundK E g (some m) rows.length fun c=>gI g (h = c ∧ h ≤ rows.length ∧ ∀ r ∈ rows,r.length = i.size) ∧ R (.cut (rows.take h))
   | none=>False
  | none=>False
 | _=>False
def kSlice (P:Program) (E:Env) (g:G) (t:TypeId) (x:FV) (lo hi mx:Option Operand) (R:FV → Prop):Prop :=
 match mx with
 | some m=>match lo with
  | none=>match x with
   | .p (.sl rows)=>kCut P E g t rows hi m R
   | .p .nilsl=>kCut P E g t [] hi m R
   | .tsl _ rows=>kCut P E g t rows hi m R
   | _=>False
  | some _=>False
 | none=>match x with
  | .p (.str l)=>match P.underlying t with
   | some .string=>boundK E g hi l.length fun h=>boundK E g lo 0 fun a=>gI g (a ≤ h ∧ h ≤ l.length) ∧ R (.p (.str ((l.take h).drop a)))
   | _=>False
  | .p (.sl rows)=>match P.underlying t with
   | some (.slice e)=>match P.info? e with
    | some i=>boundK E g hi rows.length fun h=>boundK E g lo 0 fun a=>gI g (a ≤ h ∧ h ≤ rows.length ∧ ∀ r ∈ rows,r.length = i.size) ∧ R (.p (.sl ((rows.take h).drop a)))
    | none=>False
   | _=>False
  | .tsl _ rows=>match P.underlying t with
   | some (.slice e)=>match P.info? e with
    | some i=>boundK E g hi rows.length fun h=>boundK E g lo 0 fun a=>gI g (a ≤ h ∧ h ≤ rows.length ∧ ∀ r ∈ rows,r.length = i.size) ∧ R (.p (.sl ((rows.take h).drop a)))
    | none=>False
   | _=>False
  | .ptr k off=>match P.underlying t with
   | some (.array n e)=>match P.info? e with
    | some i=>match Nat.beq i.size 1 with
     | true=>boundK E g hi n fun h=>boundK E g lo 0 fun a=>gI g (a ≤ h ∧ h ≤ n ∧ a < n) ∧ R (.bsl k (off + a) (h - a) (n - a))
     | false=>False
    | none=>False
   | _=>False
  | .eptr k z 0 0=>match P.underlying t with
   | some (.array n e)=>match P.info? e with
    | some i=>match Nat.beq i.size 1 with
     | true=>boundK E g hi n fun h=>boundK E g lo 0 fun a=>gI g (z = 1 ∧ a ≤ h ∧ h ≤ n ∧ a < n) ∧ R (.asl k a (h - a))
     | false=>False
    | none=>False
   | _=>False
  | _=>False
def kLen (P:Program) (t:TypeId) (x:FV) (R:FV → Prop):Prop :=
 match x with
 | .p (.str l)=>match P.underlying t with | some .string=>R (.p (.int .i64 l.length)) | _=>False
 | .p (.sl rows)=>match P.underlying t with | some (.slice _)=>R (.p (.int .i64 rows.length)) | _=>False
 | .tsl _ rows=>match P.underlying t with | some (.slice _)=>R (.p (.int .i64 rows.length)) | _=>False
 | .bsl _ _ n _=>match P.underlying t with | some (.slice _)=>R (.p (.int .i64 n)) | _=>False
 | .vsl _ n=>match P.underlying t with | some (.slice _)=>R (.p (.int .i64 n)) | _=>False
 | .p .nilsl=>match P.underlying t with | some (.slice _)=>R (.p (.int .i64 0)) | _=>False
 | _=>False
def kConvert (P:Program) (src dst:TypeId) (x:FV) (R:FV → Prop):Prop :=
 match x with
 | .p (.int _ n)=>match P.underlying src with
  | some (.int _)=>match P.underlying dst with
   | some (.int k)=>R (.p (.int k (k.wrap n)))
   | _=>False
  | _=>False
 | .p (.str l)=>match P.underlying src with
  | some .string=>match P.underlying dst with
   | some .string=>R (.p (.str l))
   | _=>False
  | _=>False
 | _=>False
def bRows (l:List UInt8):List (List PV):=l.map fun b=>[.int .u8 b.toNat]
def u8T (P:Program) (src dst:TypeId) (R:Prop):Prop :=
 match P.underlying src with
 | some (.slice e)=>match P.underlying e with
  | some (.int .u8)=>match P.underlying dst with
   | some .string=>R
   | _=>False
  | _=>False
 | _=>False
def unsK (P:Program) (src dst:TypeId) (n:Nat) (t:TypeId) (R:Prop):Prop :=
 match P.underlying src with
 | some (.pointer u)=>match P.underlying dst with
  | some .unsafePointer=>match P.info? u with
   | some i=>(i.size ≠ 0 ∧ 0 < n) ∧ R
   | none=>False
  | _=>False
 | some .unsafePointer=>match P.underlying dst with
  | some (.pointer u)=>match P.info? u with
   | some _=>liesAt P P.depth t (n / P.cellsOf t) 0 u 1 = true ∧ R
   | none=>False
  | _=>False
 | _=>False
def kBytes (P:Program) (g:G) (src dst:TypeId) (lo:List AObj) (x:FV) (R:FV → Prop):Prop :=
 match x with
 | .p (.sl rows)=>u8T P src dst (∃ l,gI g (rows = bRows l) ∧ R (.p (.str l)))
 | .tsl _ rows=>u8T P src dst (∃ l,gI g (rows = bRows l) ∧ R (.p (.str l)))
 | .p .nilsl=>u8T P src dst (R (.p (.str [])))
 | .bsl k off n _=>u8T P src dst (nthK k lo fun o=>match o with
   | .box _ cells=>dropK off cells fun cs=>takeK n cs fun cs=>frzL cs fun ps=>∃ l:List UInt8,gI g (ps = l.map fun b=>PV.int .u8 b.toNat) ∧ R (.p (.str l))
   | _=>False)
 | .ptr k off=>match Nat.beq off 0 with
  | true=>nthK k lo fun o=>match o with
   | .box t cells=>unsK P src dst cells.length t (R (.ptr k 0))
   | _=>False
  | false=>False
 | .vsl k n=>u8T P src dst (nthK k lo fun o=>match o with
   | .bv l=>gI g (n = l.length) ∧ R (.p (.str l))
   | _=>False)
 | .asl k off n=>u8T P src dst (nthK k lo fun o=>match o with
   | .bv l=>gI g (off + n ≤ l.length) ∧ R (.p (.str ((l.drop off).take n)))
   | _=>False)
 | x=>kConvert P src dst x R
def CallUpon (P:Program) (H:(PH Lw)) (w:World) (r:PV):Result Next → Prop
 | .ok (.value v) w'=>∃ H',Calm H w H' w' ∧ RepP H' r v
 | .ok (.enter f args) w'=>w' = w ∧ Calls P f args w fun e w''=>∃ v H',e = .returned v ∧ Calm H w H' w'' ∧ RepP H' r v
 | _=>False
def CallsF (P:Program) (f:FuncId) (args:List PV) (r:PV):Prop :=
 ∀ ⦃Lw:Nat⦄ (H:PH Lw) (w:World) (vs:List Value),SatH H w → RepL H args vs → CallUpon P H w r ((callFunc f vs.toArray).run P w)
def partsK (E:Env) (g:G):Nat → List (Nat × Operand) → (List PV → Prop) → Prop
 | _,[],R=>R []
 | k,(i,x) :: l,R=>match Nat.beq i k with
  | true=>evS E g x fun v=>frzK v fun p=>partsK E g (k + 1) l fun ps=>R (p :: ps)
  | false=>False
def cellsP (p:PV) (R:List PV → Prop):Prop :=
 match p with
 | .agg cs=>R cs
 | .tup _=>False
 | p=>R [p]
def rowsK:List PV → (List (List PV) → Prop) → Prop
 | [],R=>R []
 | p :: ps,R=>cellsP p fun c=>rowsK ps fun rs=>R (c :: rs)
def oneP:PV → Bool
 | .agg _ | .tup _=>false
 | _=>true
def kBuildSlice (P:Program) (E:Env) (g:G) (t:TypeId) (n:Nat) (parts:List (Nat × Operand)) (R:FV → Prop):Prop :=
 elemK P t fun e z=>match Nat.beq parts.length n with
  | true=>match Nat.ble 1 n with
   | true=>match Nat.ble 1 z with
    | true=>match Nat.ble (n * z) 16777216 with
     | true=>match P.info? e with
      | some i=>match i.zero with
       | some _=>partsK E g 0 parts fun ps=>rowsK ps fun rows=>(∀ r ∈ rows,r.length = z ∧ r.all oneP = true) ∧ ∃ rows',(rows = rows' ∨ nleR rows rows') ∧ R (.p (.sl rows'))
       | none=>False
      | none=>False
     | false=>False
    | false=>False
   | false=>False
  | false=>False
def overP:Nat → List PV → List PV → (List PV → Prop) → Prop
 | 0,[],old,R=>R old
 | 0,v :: vs,old,R=>match old with | []=>False | _ :: old=>overP 0 vs old fun l=>R (v :: l)
 | n + 1,vs,old,R=>match old with | []=>False | a :: old=>overP n vs old fun l=>R (a :: l)
def fillK (P:Program) (E:Env) (g:G) (fs:List Field):List (Nat × Operand) → List PV → (List PV → Prop) → Prop
 | [],cs,R=>R cs
 | (i,x) :: l,cs,R=>nthK i fs fun f=>match P.info? f.type with
  | some ti=>evS E g x fun v=>frzK v fun p=>cellsP p fun c=>match Nat.beq c.length ti.size with
   | true=>overP f.offset c cs fun cs=>fillK P E g fs l cs R
   | false=>False
  | none=>False
def infosB (P:Program):List Field → Bool
 | []=>true
 | f :: fs=>match P.info? f.type with | some _=>infosB P fs | none=>false
def kBuild (P:Program) (E:Env) (g:G) (t:TypeId) (parts:List (Nat × Operand)) (R:FV → Prop):Prop :=
 match P.info? t with
 | some i=>match i.zero with
  | some (.agg ⟨vs⟩)=>ofVs vs fun zs=>match P.underlying t with
   | some (.struct ⟨fs⟩)=>match infosB P fs with
    | true=>fillK P E g fs parts zs fun cs=>R (.p (.agg cs))
    | false=>False
   | some (.array _ e)=>match P.info? e with
    | some ei=>match Nat.beq ei.size 1 with
     | true=>partsK E g 0 parts fun ps=>ps.length = vs.length ∧ (∀ c ∈ ps,oneP c = true) ∧ R (.p (.agg ps))
     | false=>partsK E g 0 parts fun ps=>rowsK ps fun rows=>(∀ r ∈ rows,r.length = ei.size) ∧ rows.flatten.length = vs.length ∧ R (.p (.agg rows.flatten))
    | none=>False
   | _=>False
  | _=>False
 | none=>False
def kFnNil (P:Program) (op:BinOp) (t:TypeId) (isNil:Bool) (y:FV) (R:FV → Prop):Prop :=
 match P.underlying t with
 | some (.func _ _ _)=>match y with
  | .p .nilfn=>match op with
   | .eql=>R (.p (.bool isNil))
   | .neq=>R (.p (.bool (!isNil)))
   | _=>False
  | _=>False
 | _=>False
def kPtr (P:Program) (op:BinOp) (t:TypeId) (x y:FV) (R:FV → Prop):Prop :=
 match P.underlying t with
 | some (.pointer e)=>match P.info? e with
  | some _=>match op with
   | .eql=>match x,y with
    | .p .nilp,.p .nilp=>R (.p (.bool true))
    | .ptr _ _,.p .nilp=>R (.p (.bool false))
    | .hptr _,.p .nilp=>R (.p (.bool false))
    | _,_=>False
   | .neq=>match x,y with
    | .p .nilp,.p .nilp=>R (.p (.bool false))
    | .ptr _ _,.p .nilp=>R (.p (.bool true))
    | .hptr _,.p .nilp=>R (.p (.bool true))
    | .ptr k off,.ptr k' off'=>match Nat.beq k k' with
     | true=>match Nat.beq off off' with
      | true=>R (.p (.bool false))
      | false=>False
     | false=>False
    | _,_=>False
   | _=>False
  | none=>False
 | _=>False
def anyOwnK (E:Env):List (Nat × Operand) → Prop → Prop → Prop
 | [],_,no=>no
 | (_,x) :: l,yes,no=>ev E x fun v=>match v with
  | .mref _=>yes
  | .ptr _ _=>yes
  | .clo _ _=>yes
  | .bsl _ _ _ _=>yes
  | _=>anyOwnK E l yes no
def mapP:List PV → (List FV → Prop) → Prop
 | [],R=>R []
 | c :: cs,R=>mapP cs fun l=>R (.p c :: l)
def overK:Nat → List FV → List FV → (List FV → Prop) → Prop
 | 0,[],old,R=>R old
 | 0,v :: vs,old,R=>match old with | []=>False | _ :: old=>overK 0 vs old fun l=>R (v :: l)
 | n + 1,vs,old,R=>match old with | []=>False | a :: old=>overK n vs old fun l=>R (a :: l)
def cellF (v:FV) (R:List FV → Prop):Prop :=
 match v with
 | .p p=>cellsP p fun cs=>mapP cs R
 | .tsl k rows=>R [.tsl k rows]
 | .mref k=>R [.mref k]
 | .ptr k o=>R [.ptr k o]
 | .clo f c=>R [.clo f c]
 | .bsl k o n c=>R [.bsl k o n c]
 | .fagg c=>chainK c R
 | _=>False
def fillF (P:Program) (E:Env) (g:G) (fs:List Field):List (Nat × Operand) → List FV → (List FV → Prop) → Prop
 | [],cs,R=>R cs
 | (i,x) :: l,cs,R=>nthK i fs fun f=>match P.info? f.type with
  | some ti=>evS E g x fun v=>cellF v fun c=>match Nat.beq c.length ti.size with
   | true=>overK f.offset c cs fun cs=>fillF P E g fs l cs R
   | false=>False
  | none=>False
def kBuildF (P:Program) (E:Env) (g:G) (t:TypeId) (parts:List (Nat × Operand)) (R:FV → Prop):Prop :=
 match P.info? t with
 | some i=>match i.zero with
  | some (.agg ⟨vs⟩)=>ofVs vs fun zs=>mapP zs fun zs=>match P.underlying t with
   | some (.struct ⟨fs⟩)=>match infosB P fs with
    | true=>fillF P E g fs parts zs fun cs=>R (.fagg (tupC cs))
    | false=>False
   | _=>False
  | _=>False
 | none=>False
def capsP:FV → (List PV → Prop) → Prop
 | .cap0,R=>R []
 | .cap a b,R=>frzK a fun p=>capsP b fun l=>R (p :: l)
 | _,_=>False
def MethodIs (P:Program) (t:TypeId) (m:String) (f:FuncId):Prop:=∀ v w,(method (P.types.size + Made.depth) t v m).run P w = .ok (f,v) w
def AssertPV (P:Program) (p:PV) (xt a:TypeId) (r:PV):Prop:=∀ ⦃Lw:Nat⦄ (H:PH Lw) (v:Value) (w:World),RepP H p v → ∃ u,(Instr.typeAssert v xt a true).run P w = .ok u w ∧ RepP H r u
def kPure2 (P:Program) (op:Op) (E:Env) (g:G) (R:FV → Prop):Prop :=
 match op with
 | .makeFunc (.func f) ⟨b :: bs⟩ ⟨[]⟩=>evL E g (b :: bs) fun vs=>frzL vs fun ps=>R (.p (.bfn f ps))
 | .typeAssert x xt a true=>evS E g x fun x=>frzK x fun p=>∃ r,gI g (AssertPV P p xt a r) ∧ R (.p r)
 | .makeFunc (.func f) ⟨[]⟩ ⟨xs⟩=>match xs with
  | []=>R (.p (.fn f))
  | x :: xs=>evL E g (x :: xs) fun vs=>R (.clo f (tupC vs))
 | .call { callee:=.value (.tmp t),args:=⟨xs⟩,argTypes:=_ }=>evS E g (.tmp t) fun fv=>evL E g xs fun vs=>frzL vs fun args=>match fv with
  | .p (.fn f)=>∃ r,gI g (CallsF P f args r) ∧ R (.p r)
  | .clo f c=>capsP c fun cs=>∃ r,gI g (CallsF P f (args ++ cs) r) ∧ R (.p r)
  | .p (.clo f cs)=>∃ r,gI g (CallsF P f (args ++ cs) r) ∧ R (.p r)
  | .p (.bfn f bs)=>∃ r,gI g (CallsF P f (bs ++ args) r) ∧ R (.p r)
  | _=>False
 | .call { callee:=.invoke r m,args:=⟨xs⟩,argTypes:=_ }=>evS E g r fun rv=>evL E g xs fun vs=>frzL vs fun args=>match rv with
  | .p (.ifc t v)=>∃ f r,gI g (MethodIs P t m f ∧ CallsF P f (v :: args) r) ∧ R (.p r)
  | _=>False
 | .call { callee:=.builtin .max,args:=⟨[x,y]⟩,argTypes:=_ }=>evS E g x fun x=>evS E g y fun y=>match x with
  | .p (.int k a)=>match y with
   | .p (.int _ b)=>R (.p (.int k (bif decide (b > a) then b else a)))
   | _=>False
  | _=>False
 | .call { callee:=.builtin .min,args:=⟨[x,y]⟩,argTypes:=_ }=>evS E g x fun x=>evS E g y fun y=>match x with
  | .p (.int k a)=>match y with
   | .p (.int _ b)=>R (.p (.int k (bif decide (b < a) then b else a)))
   | _=>False
  | _=>False
 | _=>False
def kPure (P:Program) (op:Op) (E:Env) (g:G) (R:FV → Prop):Prop :=
 match op with
 | .move x=>match g with | none=>ev E x R | some g=>evS E (some g) x R
 | .assign x=>match g with | none=>ev E x R | some g=>evS E (some g) x R
 | .pick c a b=>evS E g c fun c=>match c with
  | .p (.bool c)=>match g with
   | none=>evS E (some c) a fun a=>evS E (some (!c)) b fun b=>match a,b with
    | .p (.bool a),.p (.bool b)=>R (.p (.bool (bif c then a else b)))
    | _,_=>False
   | some g=>evS E (some (g && c)) a fun a=>evS E (some (g && !c)) b fun b=>match a,b with
    | .p (.bool a),.p (.bool b)=>R (.p (.bool (bif c then a else b)))
    | _,_=>False
  | _=>False
 | .fieldAddr t x f=>evS E g x fun x=>kField P t x f R
 | .field t x f=>evS E g x fun x=>kPart P t x f R
 | .indexAddr t x i=>evS E g x fun x=>evS E g i fun i=>kIndexAddr P g t x i R
 | .index t x i=>evS E g x fun x=>evS E g i fun i=>kIndex P g t x i R
 | .binOp op t x y _=>evS E g x fun x=>evS E g y fun y=>match x with
  | .ptr k off=>kPtr P op t (.ptr k off) y R
  | .hptr row=>kPtr P op t (.hptr row) y R
  | .p .nilp=>kPtr P op t (.p .nilp) y R
  | .p .nilfn=>kFnNil P op t true y R
  | .p (.fn _)=>kFnNil P op t false y R
  | .p (.clo _ _)=>kFnNil P op t false y R
  | .p (.bfn _ _)=>kFnNil P op t false y R
  | x=>kBin P g op t x y R
 | .unOp .not _ x=>evS E g x fun x=>match x with | .p (.bool b)=>R (.p (.bool (!b))) | _=>False
 | .unOp .neg _ x=>evS E g x fun x=>match x with | .p (.int k n)=>R (.p (.int k (k.wrap (0 - n)))) | _=>False
 | .nilCheck x=>evS E g x fun x=>match x with
  | .ptr k off=>R (.ptr k off)
  | .hptr row=>R (.hptr row)
  | .eptr k z i off=>R (.eptr k z i off)
  | _=>False
 | .slice t x lo hi mx=>evS E g x fun x=>kSlice P E g t x lo hi mx R
 | .buildSlice t n ⟨parts⟩=>kBuildSlice P E g t n parts R
 | .build t ⟨parts⟩=>anyOwnK E parts (kBuildF P E g t parts R) (kBuild P E g t parts R)
 | .extract x i=>evS E g x fun x=>match x with
  | .p (.tup vs)=>nthK i vs fun v=>R (.p v)
  | .pair a b=>match i with | 0=>R a | 1=>R b | _=>False
  | .nxt ok a b=>match i with | 0=>R (.p (.bool ok)) | 1=>gI g (ok = true) ∧ R (.p a) | 2=>gI g (ok = true) ∧ R (.p b) | _=>False
  | _=>False
 | .makeInterface t x=>evS E g x fun x=>match P.underlying t with
  | some (.interface _)=>False
  | some _=>match x with
   | .vsl k n=>R (.ifs t (.vsl k n))
   | x=>frzK x fun v=>R (.p (.ifc t v))
  | none=>False
 | .call { callee:=.builtin .len,args:=⟨[x]⟩,argTypes:=⟨[t]⟩ }=>evS E g x fun x=>kLen P t x R
 | .call { callee:=.value (.func f),args:=⟨xs⟩,argTypes:=_ } =>
   evL E g xs fun vs=>frzL vs fun args=>∃ r,gI g (CallsF P f args r) ∧ R (.p r)
 | op=>kPure2 P op E g R
def ownV:List FV → Bool
 | []=>false
 | .vsl _ _ :: _=>true
 | _ :: l=>ownV l
def hasN:List FV → Bool
 | []=>false
 | .p (.nsl _) :: _=>true
 | _ :: l=>hasN l
def hasT:List FV → Bool
 | []=>false
 | .tsl _ _ :: _=>true
 | _ :: l=>hasT l
def allT:List FV → Bool
 | []=>true
 | .tsl _ _ :: l=>allT l
 | _ :: _=>false
def ownL (cs:List FV):Bool:=match ownV cs with
 | true=>true
 | false=>match hasT cs with
  | false=>false
  | true=>match hasN cs with
   | true=>true
   | false=>allT cs
def kLoad (P:Program) (t:TypeId) (lo:List AObj) (x:FV) (R:FV → Prop):Prop :=
 match x with
 | .ptr k off=>nthK k lo fun o=>match o with
  | .box _ cells=>dropK off cells fun cs=>typeK P t fun agg n=>match agg with
   | true=>takeK n cs fun cs=>match ownL cs with
    | true=>R (.fagg (tupC cs))
    | false=>frzL cs fun l=>R (.p (.agg l))
   | false=>match cs with | c :: _=>R c | []=>False
  | .pbx _ c=>match Nat.beq off 0 with
   | true=>typeK P t fun agg _=>match agg with | true=>False | false=>R c
   | false=>False
  | _=>False
 | .hptr row=>typeK P t fun agg n=>match agg with
  | true=>takeK n row fun r=>R (.p (.agg r))
  | false=>match row with | c :: _=>R (.p c) | []=>False
 | _=>False
def isLoad:Op → Bool
 | .load _ _=>true
 | .convert _ _ _=>true
 | .lookup _ _ _ _=>true
 | _=>false
def isEff:Op → Bool
 | .box _ _ | .alloc _ | .store _ _ _ | .makeMap _ _ | .mapUpdate _ _ _ _ | .insert _ _ _ _ | .range _ _ | .next _ _=>true
 | .call { callee:=.builtin .append,.. }=>true
 | .call { callee:=.builtin .clear,.. }=>true
 | .call { callee:=.builtin .copy,.. }=>true
 | .makeSlice _ _ _=>true
 | _=>false
def oneF:FV → Bool
 | .p (.agg _) | .p (.tup _) | .top | .opt _ _ | .pair _ _ | .stmp _ | .cap0 | .cap _ _ | .fagg _ | .nxt _ _ _=>false
 | _=>true
def zeroK (P:Program) (t:TypeId) (R:List PV → Prop):Prop :=
 match P.info? t with
 | some i=>match i.zero with
  | some (.agg ⟨vs⟩)=>ofVs vs R
  | some v=>ofVs [v] R
  | none=>False
 | none=>False
def cellsK (v:FV) (R:List FV → Prop):Prop :=
 match v with
 | .p (.agg cs)=>mapP cs R
 | .fagg c=>chainK c R
 | v=>match oneF v with | true=>R [v] | false=>False
def allOne:List FV → Bool
 | []=>true
 | v :: l=>match oneF v with | true=>allOne l | false=>false
def rowsOf (x:FV) (R:List (List PV) → Prop):Prop :=
 match x with
 | .p (.sl rows)=>R rows
 | .tsl _ rows=>R rows
 | .p .nilsl=>R []
 | _=>False
def kEqP:PV → PV → Bool
 | .str a,.str b=>a == b
 | .int _ a,.int _ b=>a == b
 | .bool a,.bool b=>a == b
 | _,_=>false
def mFind (k:PV):List (PV × PV) → Option PV
 | []=>none
 | (k',v) :: es=>bif kEqP k k' then some v else mFind k es
def mSet (k v:PV):List (PV × PV) → List (PV × PV)
 | []=>[(k,v)]
 | (k',v') :: es=>bif kEqP k k' then (k,v) :: es else (k',v') :: mSet k v es
def keyIs (d' d:TypeDesc) (kp:PV) (R:Prop):Prop :=
 match d',d,kp with
 | .string,.string,.str _=>R
 | .bool,.bool,.bool _=>R
 | .int k,.int k',.int k'' _=>match kindEq k k' with
  | true=>match kindEq k k'' with
   | true=>R
   | false=>False
  | false=>False
 | _,_,_=>False
def keyD (d:TypeDesc) (R:Prop):Prop :=
 match d with
 | .string=>R
 | .bool=>R
 | .int _=>R
 | _=>False
def mapK (P:Program) (t:TypeId) (d:TypeDesc) (kp:PV) (R:TypeId → Prop):Prop :=
 match P.underlying t with
 | some (.map kt et)=>match P.underlying kt with
  | some d'=>keyIs d' d kp (R et)
  | none=>False
 | _=>False
def zeroP (P:Program) (t:TypeId) (R:PV → Prop):Prop :=
 match P.info? t with
 | some i=>match i.zero with
  | some (.agg ⟨vs⟩)=>ofVs vs fun l=>R (.agg l)
  | some v=>match ofV1 v with | some p=>R p | none=>False
  | none=>False
 | none=>False
def kLookup (P:Program) (g:G) (t:TypeId) (lo:List AObj) (x key:FV) (ok:Bool) (R:FV → Prop):Prop :=
 match x,key with
 | .mref k,.p kp=>nthK k lo fun o=>match o with
  | .mp d es _=>mapK P t d kp fun et=>zeroP P et fun z=>∃ v b,gI g ((mFind kp es).getD z = v ∧ (mFind kp es).isSome = b) ∧ R (match ok with | false=>.p v | true=>.p (.tup [v,.bool b]))
  | _=>False
 | _,_=>False
def kLenM (P:Program) (t:TypeId) (lo:List AObj) (x:FV) (R:FV → Prop):Prop :=
 match x with
 | .mref k=>nthK k lo fun o=>match o with
  | .mp _ es _=>match P.underlying t with
   | some (.map _ _)=>∃ n:Nat,es.length = n ∧ R (.p (.int .i64 n))
   | _=>False
  | _=>False
 | _=>False
def kMapSet (P:Program) (E:Env) (lo:List AObj) (t:TypeId) (m k x:Operand) (R:FV → List AObj → Prop):Prop :=
 evS E none m fun m=>evS E none k fun k=>evS E none x fun x=>frzK x fun vp=>match m,k with
  | .mref j,.p kp=>nthK j lo fun o=>match o with
   | .mp d es _=>mapK P t d kp fun _=>∃ es',mSet kp vp es = es' ∧ setK j (.mp d es' none) lo fun lo=>R (.p (.tup [])) lo
   | _=>False
  | _,_=>False
def runeAt (l:List UInt8) (i:Nat):Nat:=(Utf8.decode ⟨l.toArray⟩ i).1
def runeEnd (l:List UInt8) (i:Nat):Nat:=i + (Utf8.decode ⟨l.toArray⟩ i).2
def kEff2 (P:Program) (op:Op) (E:Env) (lo:List AObj) (R:FV → List AObj → Prop):Prop :=
 match op with
 | .range t x=>evS E none x fun x=>match x with
  | .p (.str l)=>match P.underlying t with
   | some .string=>lenK lo 0 fun n=>snocK lo (.sit l 0) fun lo=>R (.ptr n 0) lo
   | _=>False
  | _=>False
 | .next x true=>evS E none x fun x=>match x with
  | .ptr k 0=>nthK k lo fun o=>match o with
   | .sit l pos=>∃ ok p',(decide (pos < l.length) = ok ∧ (bif ok then runeEnd l pos else pos) = p') ∧ setK k (.sit l p') lo fun lo=>R (.nxt ok (.int .i64 pos) (.int .i32 (runeAt l pos))) lo
   | _=>False
  | _=>False
 | .makeMap t none=>match P.underlying t with
  | some (.map kt _)=>match P.underlying kt with
   | some d=>keyD d (lenK lo 0 fun n=>snocK lo (.mp d [] none) fun lo=>R (.mref n) lo)
   | none=>False
  | _=>False
 | .mapUpdate t m k x=>kMapSet P E lo t m k x R
 | .insert t m k x=>kMapSet P E lo t m k x R
 | .call { callee:=.builtin .clear,args:=⟨[x]⟩,argTypes:=⟨[t]⟩ }=>evS E none x fun x=>match x with
  | .mref k=>nthK k lo fun o=>match o with
   | .mp d _ _=>match P.underlying t with
    | some (.map _ _)=>setK k (.mp d [] none) lo fun lo=>R (.p (.tup [])) lo
    | _=>False
   | _=>False
  | _=>False
 | _=>False
def kStoreE (P:Program) (t:TypeId) (lo:List AObj) (k z i off:Nat) (x:FV) (R:FV → List AObj → Prop):Prop :=
 cellsK x fun vs=>frzL vs fun ps=>lenK ps 0 fun n=>typeK P t fun _ m=>match Nat.beq n m with
  | true=>nthK k lo fun o=>match o with
   | .vec e z' rows=>∃ row,(z' = z ∧ rows[i]? = some row ∧ ps.all oneP = true) ∧ overP off ps row fun row'=>∃ rows',rows.set i row' = rows' ∧ setK k (.vec e z' rows') lo fun lo=>R (.p (.tup [])) lo
   | .vl e z' rows j kt=>∃ row kt',(z' = z ∧ rows[i]? = some row ∧ ps.all oneP = true ∧ (j < z ∧ (off + ps.length ≤ j ∨ j < off) ∧ kt' = kt ∨ off = j ∧ i + 1 = rows.length ∧ ∃ rows3,x = .tsl kt' rows3)) ∧
     overP off ps row fun row'=>∃ rows',rows.set i row' = rows' ∧ setK k (.vl e z' rows' j kt') lo fun lo=>R (.p (.tup [])) lo
   | .bv l=>match ps with
    | [.int .u8 n]=>∃ (c:UInt8) (l':List UInt8),(z = 1 ∧ off = 0 ∧ i < l.length ∧ n = (c.toNat:Int) ∧ l.set i c = l') ∧ setK k (.bv l') lo fun lo=>R (.p (.tup [])) lo
    | ps=>∃ l':List UInt8,(z = 1 ∧ off = 0 ∧ i = 0 ∧ l'.length = l.length ∧ ps = l'.map fun b=>PV.int .u8 b.toNat) ∧ setK k (.bv l') lo fun lo=>R (.p (.tup [])) lo
   | _=>False
  | false=>False
def kLoadE (P:Program) (t:TypeId) (lo:List AObj) (k z i off:Nat) (R:FV → Prop):Prop :=
 nthK k lo fun o=>match o with
  | .vec _ z' rows=>∃ row,(z' = z ∧ rows[i]? = some row) ∧ dropK off row fun cs=>typeK P t fun agg n=>match agg with
   | true=>takeK n cs fun l=>R (.p (.agg l))
   | false=>match cs with | c :: _=>R (.p c) | []=>False
  | .vl _ z' rows j kt=>∃ row,(z' = z ∧ rows[i]? = some row) ∧ dropK off row fun cs=>typeK P t fun agg n=>match agg with
   | true=>takeK n cs fun l=>R (.p (.agg l))
   | false=>match cs with
    | c :: _=>match Nat.beq off j with
     | true=>i + 1 = rows.length ∧ ∃ rs,c = .sl rs ∧ R (.tsl kt rs)
     | false=>R (.p c)
    | []=>False
  | .bv l=>typeK P t fun agg _=>match agg with
   | true=>False
   | false=>∃ c:UInt8,(z = 1 ∧ off = 0 ∧ l[i]? = some c) ∧ R (.p (.int .u8 c.toNat))
  | _=>False
def kLoadEG (P:Program) (g:Bool) (t:TypeId) (lo:List AObj) (k z i off:Nat) (R:FV → Prop):Prop :=
 nthK k lo fun o=>match o with
  | .vec _ z' rows=>∃ row,(g = true → z' = z ∧ rows[i]? = some row) ∧ dropK off row fun cs=>typeK P t fun agg _=>match agg with
   | true=>False
   | false=>match cs with | c :: _=>R (.p c) | []=>False
  | .vl _ z' rows j _=>∃ row,(g = true → z' = z ∧ rows[i]? = some row) ∧ dropK off row fun cs=>typeK P t fun agg _=>match agg with
   | true=>False
   | false=>match cs with
    | c :: _=>match Nat.beq off j with
     | true=>False
     | false=>R (.p c)
    | []=>False
  | _=>False
def kConvV (P:Program) (src dst:TypeId) (lo:List AObj) (x:FV) (R:FV → List AObj → Prop):Prop :=
 match x with
 | .p (.str l)=>match P.underlying src with
  | some _=>match P.underlying dst with
   | some (.slice e)=>match P.underlying e with
    | some (.int .u8)=>lenK lo 0 fun n=>snocK lo (.bv l) fun lo=>R (.vsl n l.length) lo
    | _=>False
   | _=>False
  | none=>False
 | _=>False
def kAppendV (P:Program) (t:TypeId) (lo:List AObj) (k0:Nat) (news:List (List PV)) (R:FV → List AObj → Prop):Prop :=
 elemK P t fun e z=>match Nat.beq z 0 with
 | true=>False
 | false=>match P.info? e with
  | some i=>match i.zero with
   | some zv=>match Nat.beq zv.cells.size z with
    | true=>nthK k0 lo fun o=>match o with
     | .vec e' z' rows=>∃ rows',(rows ++ news = rows' ∧ e' = e ∧ z' = z ∧ (∀ r ∈ news,r.length = z) ∧ rows'.length * i.bytes ≤ 140737488355328 ∧ rows'.length ≤ 9223372036854775807) ∧
       setK k0 .dead lo fun lo=>lenK lo 0 fun k=>snocK lo (.vec e z rows') fun lo=>R (.vsl k rows'.length) lo
     | .vl e' z' rows j _=>∃ rows' r e2 z2,((rows ++ news = rows' ∨ nleR (rows ++ news) rows') ∧ (news = [r] ∧ r[j]? = some .nilsl) ∧ e' = e ∧ z' = z ∧ (∀ r ∈ news,r.length = z) ∧ rows'.length * i.bytes ≤ 140737488355328 ∧ rows'.length ≤ 9223372036854775807) ∧
       setK k0 .dead lo fun lo=>lenK lo 0 fun kt=>snocK lo (.tail e2 z2 0) fun lo=>lenK lo 0 fun k=>snocK lo (.vl e z rows' j kt) fun lo=>R (.vsl k rows'.length) lo
     | _=>False
    | false=>False
   | none=>False
  | none=>False
def kAllocA (P:Program) (t:TypeId) (lo:List AObj) (R:FV → List AObj → Prop):Prop :=
 zeroK P t fun z=>∃ l:List UInt8,z = l.map (fun b=>PV.int .u8 b.toNat) ∧ lenK lo 0 fun k=>snocK lo (.bv l) fun lo=>R (.eptr k 1 0 0) lo
def kBuildV (P:Program) (E:Env) (lo:List AObj) (t:TypeId) (n:Nat) (parts:List (Nat × Operand)) (R:FV → List AObj → Prop):Prop :=
 elemK P t fun e z=>kBuildSlice P E none t n parts fun v=>match v with
  | .p (.sl rows)=>lenK lo 0 fun k=>snocK lo (.vec e z rows) fun lo=>R (.vsl k rows.length) lo
  | _=>False
def memB:List Nat → Nat → Bool
 | [],_=>false
 | a :: l,f=>match Nat.beq f a with | true=>true | false=>memB l f
def kBuildT (P:Program) (E:Env) (lo:List AObj) (t:TypeId) (n:Nat) (parts:List (Nat × Operand)) (R:FV → List AObj → Prop):Prop :=
 elemK P t fun e z=>kBuildSlice P E none t n parts fun v=>match v with
  | .p (.sl rows)=>lenK lo 0 fun k=>snocK lo (.tail e z rows.length) fun lo=>R (.tsl k rows) lo
  | _=>False
def growB (inl:List Nat) (d:Option Tmp):Bool:=match d with
 | some d=>memB inl (30000000 + d)
 | none=>false
def kBuildVG (P:Program) (g:Bool) (E:Env) (lo:List AObj) (t:TypeId) (n:Nat) (parts:List (Nat × Operand)) (R:FV → List AObj → Prop):Prop :=
 match g with
 | true=>kBuildT P E lo t n parts R
 | false=>kBuildV P E lo t n parts R
def kEff (P:Program) (op:Op) (E:Env) (lo:List AObj) (R:FV → List AObj → Prop):Prop :=
 match op with
 | .box t x=>evS E none x fun x=>cellsK x fun cs=>match allOne cs with
  | true=>lenK lo 0 fun n=>snocK lo (.box t cs) fun lo=>R (.ptr n 0) lo
  | false=>False
 | .alloc t=>zeroK P t fun z=>mapP z fun cs=>match allOne cs with
  | true=>lenK lo 0 fun n=>snocK lo (.box t cs) fun lo=>R (.ptr n 0) lo
  | false=>False
 | .store t a x=>evS E none a fun a=>evS E none x fun x=>match a with
  | .ptr k off=>cellsK x fun vs=>match allOne vs with
   | true=>lenK vs 0 fun n=>typeK P t fun _ m=>match Nat.beq n m with
    | true=>nthK k lo fun o=>match o with
     | .box bt cells=>overK off vs cells fun cells=>setK k (.box bt cells) lo fun lo=>R (.p (.tup [])) lo
     | _=>False
    | false=>False
   | false=>False
  | .eptr k z i off=>kStoreE P t lo k z i off x R
  | _=>False
 | .call { callee:=.builtin .append,args:=⟨[s,x]⟩,argTypes:=⟨[t,t']⟩ }=>match Nat.beq t t' with
  | true=>evS E none s fun s=>evS E none x fun x=>rowsOf x fun news=>match s with
   | .vsl k0 _=>kAppendV P t lo k0 news R
   | s=>elemK P t fun e z=>match Nat.beq z 0 with
   | true=>False
   | false=>match P.info? e with
    | some i=>match i.zero with
     | some zv=>match Nat.beq zv.cells.size z with
      | true=>match s with
       | .p .nilsl=>((∀ r ∈ news,r.length = z) ∧ news.length * i.bytes ≤ 140737488355328 ∧ news.length ≤ 9223372036854775807) ∧
         lenK lo 0 fun k=>snocK lo (.tail e z news.length) fun lo=>R (.tsl k news) lo
       | .tsl k0 rows=>((∀ r ∈ rows ++ news,r.length = z) ∧ (rows ++ news).length * i.bytes ≤ 140737488355328 ∧ (rows ++ news).length ≤ 9223372036854775807) ∧
         nthK k0 lo fun o=>match o with
         | .tail e' z' n=>(e' = e ∧ z' = z ∧ n = rows.length) ∧
           setK k0 .dead lo fun lo=>lenK lo 0 fun k=>snocK lo (.tail e z (rows ++ news).length) fun lo=>R (.tsl k (rows ++ news)) lo
         | _=>False
       | .cut rows=>((∀ r ∈ rows ++ news,r.length = z) ∧ (rows ++ news).length * i.bytes ≤ 140737488355328 ∧ (rows ++ news).length ≤ 9223372036854775807) ∧
         ∃ own:Bool,match own with
         | true=>news ≠ [] ∧ lenK lo 0 fun k=>snocK lo (.tail e z (rows ++ news).length) fun lo=>R (.tsl k (rows ++ news)) lo
         | false=>∃ rows',rows ++ news = rows' ∧ R (.p (.sl rows')) lo
       | _=>False
      | false=>False
     | none=>False
    | none=>False
  | false=>evS E none s fun s=>evS E none x fun x=>match x with
   | .p (.str str)=>match P.underlying t' with
    | some .string=>elemK P t fun e z=>match Nat.beq z 1 with
     | true=>match P.info? e with
      | some i=>match i.zero with
       | some (.int .u8 0)=>match s with
        | .p .nilsl=>((bRows str).length * i.bytes ≤ 140737488355328 ∧ (bRows str).length ≤ 9223372036854775807) ∧
          lenK lo 0 fun k=>snocK lo (.tail e z (bRows str).length) fun lo=>R (.tsl k (bRows str)) lo
        | .tsl k0 rows=>((∀ r ∈ rows,r.length = 1) ∧ (rows ++ bRows str).length * i.bytes ≤ 140737488355328 ∧ (rows ++ bRows str).length ≤ 9223372036854775807) ∧
          nthK k0 lo fun o=>match o with
          | .tail e' z' n=>(e' = e ∧ z' = 1 ∧ n = rows.length) ∧
            setK k0 .dead lo fun lo=>lenK lo 0 fun k=>snocK lo (.tail e z (rows ++ bRows str).length) fun lo=>R (.tsl k (rows ++ bRows str)) lo
          | _=>False
        | _=>False
       | _=>False
      | none=>False
     | false=>False
    | _=>False
   | _=>False
 | op=>kEff2 P op E lo R
def guardK (ops:List Oper) (o:Oper) (E:Env) (R:G → Prop):Prop :=
 match o.guard with
 | none=>R none
 | some (j,want)=>nthK j ops fun oj=>match oj.dst with
   | some d=>look E d fun v=>match v with
    | .p (.bool b)=>match want with | true=>R (some b) | false=>R (some (!b))
    | .opt g' (.p (.bool b))=>match want with | true=>R (some (g' && b)) | false=>R (some (g' && !b))
    | _=>False
   | none=>False
def putK (N:Nat) (d:Option Tmp) (v:FV) (E:Env) (R:Env → Prop):Prop :=
 match d with
 | some d=>match Nat.blt d N with
  | true=>forceF v fun v=>R ((d,v) :: E)
  | false=>False
 | none=>R E
def wrapF (g:G) (v:FV):FV:=match g with | none=>v | some g=>.opt g v
def vcOp (P:Program) (N:Nat) (all:List Oper) (o:Oper) (E:Env) (lo:List AObj) (R:Env → List AObj → Prop):Prop :=
 guardK all o E fun g =>
  match isLoad o.op with
  | true=>match o.op with
   | .load t x=>evS E g x fun x=>kLoad P t lo x fun v=>putK N o.dst (wrapF g v) E fun E=>R E lo
   | .convert s d x=>evS E g x fun x=>kBytes P g s d lo x fun v=>putK N o.dst (wrapF g v) E fun E=>R E lo
   | .lookup t x i ok=>evS E g x fun x=>evS E g i fun i=>kLookup P g t lo x i ok fun v=>putK N o.dst (wrapF g v) E fun E=>R E lo
   | _=>False
  | false=>match isEff o.op with
   | true=>match g with
    | none=>kEff P o.op E lo fun v lo=>putK N o.dst v E fun E=>R E lo
    | some _=>False
   | false=>kPure P o.op E g fun v=>putK N o.dst (wrapF g v) E fun E=>R E lo
inductive AX where
 | normal | exit (id:Nat) | ret
def ownB (inl:List Nat) (d:Option Tmp):Bool:=match d with | some d=>memB inl (10000000 + d) | none=>false
def ptrB (inl:List Nat) (d:Option Tmp):Bool:=match d with | some d=>memB inl (80000000 + d) | none=>false
def cloB (inl:List Nat) (t:Tmp):Bool:=memB inl (20000000 + t)
def looseB (inl:List Nat) (id:Nat):Bool:=memB inl (40000000 + id)
def isEffI (inl:List Nat) (o:Oper):Bool :=
 match o.op with
 | .call { callee:=.value (.func f),args:=_,argTypes:=_ }=>memB inl f
 | .call { callee:=.value (.tmp t),args:=_,argTypes:=_ }=>cloB inl t
 | .buildSlice _ _ _=>ownB inl o.dst
 | .convert _ _ _=>ownB inl o.dst
 | o=>isEff o
def mildO:Op → Bool
 | .box _ _ | .alloc _ | .makeMap _ _ | .buildSlice _ _ _ | .makeSlice _ _ _=>true
 | .call { callee:=.builtin .append,.. }=>true
 | _=>false
def storeB (inl:List Nat) (o:Oper):Bool:=match o.op with
 | .store _ (.tmp t) _=>memB inl (50000000 + t)
 | .call { callee:=.value (.tmp t),args:=_,argTypes:=_ }=>cloB inl t && memB inl (85000000 + t)
 | .call { callee:=.value (.func f),args:=_,argTypes:=_ }=>memB inl f && memB inl (86000000 + f)
 | _=>false
def mildI (inl:List Nat) (o:Oper):Bool:=mildO o.op || storeB inl o
def prot (sl:List Nat) (n0 k:Nat):Bool:=match Nat.blt k n0 with
 | true=>(match memB sl (60000000 + 1000 * n0 + k) with | true=>false | false=>true)
 | false=>false
def strictB (inl:List Nat) (o:Oper):Bool:=match o.dst with
 | some d=>memB inl (70000000 + d)
 | none=>false
def clash (inl:List Nat) (m:Bool) (oi oj:Oper):Bool:=isEffI inl oi && (isEffI inl oj || isLoad oj.op && !(m && mildI inl oi && !strictB inl oj))
def reachB (ops:Array Oper) (i:Nat):Nat → Nat → Bool
 | 0,_=>false
 | f + 1,j=>match ops[j]? with
  | some oj=>oj.after.any (fun e=>Region.binds .any e && e.on == i) || oj.after.any (fun e=>Region.binds .any e && reachB ops i f e.on)
  | none=>false
def Region.effFree (inl:List Nat) (m:Bool) (ops:Array Oper) (listed:Array Bool) (i:Nat):Bool :=
 match ops[i]? with
 | none=>false
 | some oi=>(List.range ops.size).all fun j=>j == i || listed.getD j true || match ops[j]? with
   | some oj=>(!clash inl m oi oj && !clash inl m oj oi) || reachB ops i ops.size j
   | none=>true
def Region.effFrom (inl:List Nat) (m:Bool) (ops:Array Oper):Nat → Nat → Array Bool → Bool
 | 0,_,_=>true
 | fuel + 1,k,listed=>Region.effFree inl m ops listed k && Region.effFrom inl m ops fuel (k + 1) (listed.setIfInBounds k true)
def drawOk (inl:List Nat) (m:Bool) (ops:Array Oper):Bool:=Go.Region.lexB .any ops && Region.effFrom inl m ops ops.size 0 (Array.replicate ops.size false)
end Ax
end
section
namespace Ax
open Go
variable {Lw:Nat}
def After (bs:(Base Lw)) (ρ:List Value) (H:(PH Lw)) (fv:FV) (lo':List AObj) (v:Value) (w':World):Prop :=
 ∃ ρ' H',ρ <+: ρ' ∧ PH.le H H' ∧ SatW bs ρ' H' lo' w' ∧ RepF ρ' H' fv v
def UponA (P:Program) (bs:(Base Lw)) (ρ:List Value) (H:(PH Lw)) (fv:FV) (lo':List AObj):Result Next → Prop
 | .ok (.value v) w'=>After bs ρ H fv lo' v w'
 | .ok .skip w'=>After bs ρ H fv lo' undef w'
 | .ok (.enter f args) w'=>Calls P f args w' fun en w''=>∃ v,en = .returned v ∧ After bs ρ H fv lo' v w''
 | _=>False
def StepSem (P:Program) (o:Oper) (e:Nat → FV) (lo:List AObj) (g:G) (fv:FV) (lo':List AObj):Prop :=
 gOn g → ∀ ⦃Lw:Nat⦄ (bs:(Base Lw)) (ρ:List Value) (H:(PH Lw)) (w:World) (eval:Operand → Value),SatW bs ρ H lo w →
  (∀ x ∈ o.op.operands,RepF ρ H (evF e x) (eval x)) → UponA P bs ρ H fv lo' ((execOp eval o).run P w)
theorem after_same {bs:(Base Lw)} {ρ:List Value} {H:(PH Lw)} {fv:FV} {lo:List AObj} {v:Value} {w:World} (s:SatW bs ρ H lo w) (r:RepF ρ H fv v) :
  After bs ρ H fv lo v w:=⟨ρ,H,List.prefix_refl _,PH.le.refl H,s,r⟩
theorem gI_on {g:G} {p:Prop} (h:gI g p) (hg:gOn g):p:=by
 cases g with
 | none=>exact h
 | some b=>exact h hg
theorem look_eq:∀ (E:Env) (t:Nat) (R:FV → Prop),look E t R = R (lookD E t)
 | [],_,_=>rfl
 | (t',v) :: E,t,R=>by
  simp only [look,lookD]
  cases Nat.beq t t' with
  | true=>rfl
  | false=>exact look_eq E t R
theorem ev_eq (E:Env) (x:Operand) (R:FV → Prop):ev E x R = R (evF (lookD E) x):=by
 cases x with
 | tmp t=>exact look_eq E t R
 | const v=>exact forceF_eq _ _
 | global g=>rfl
 | func f=>rfl
def Str (g:G) (f v:FV):Prop:=∀ ⦃Lw:Nat⦄ (ρ:List Value) (H:PH Lw) (x:Value),gOn g → RepF ρ H f x → RepF ρ H v x
theorem evS_spec {E:Env} {g:G} {x:Operand} {R:FV → Prop} (h:evS E g x R):∃ v,R v ∧ Str g (evF (lookD E) x) v:=by
 unfold evS at h
 rw [ev_eq] at h
 generalize evF (lookD E) x = f at *
 cases f <;> simp only at h
 case opt g' v' =>
  refine ⟨v',h.2,fun Lw ρ H y hg hy=>?_⟩
  have:=gI_on h.1 hg
  simpa [RepF,this] using hy
 all_goals exact ⟨_,h,fun _ _ _ _ _ hy=>hy⟩
theorem ofV1_spec {v:Value} {p:PV} (h:ofV1 v = some p) (H:(PH Lw)):RepP H p v:=by
 unfold ofV1 at h
 split at h <;> (cases h) <;> simp [RepP]
theorem ofVL_spec (H:(PH Lw)):∀ {vs:List Value} {ps:List PV},ofVL vs = some ps → RepL H ps vs
 | [],ps,h=>by simp only [ofVL] at h; cases h; simp [RepL]
 | v :: vs,ps,h=>by
  simp only [ofVL] at h
  split at h
  ·rename_i p hp
   split at h
   ·rename_i l hl
    cases h
    simp only [RepL]
    exact ⟨v,vs,rfl,ofV1_spec hp H,ofVL_spec H hl⟩
   ·cases h
  ·cases h
theorem ofVF_spec (v:Value) (ρ:List Value) (H:(PH Lw)):RepF ρ H (ofVF v) v:=by
 unfold ofVF
 split
 ·simp [RepF,RepP,RepL]
 ·split
  ·rename_i h
   simp only [RepF,RepP]
   exact ⟨_,rfl,ofVL_spec H h⟩
  ·trivial
 ·split
  ·rename_i h; exact ofV1_spec h H
  ·trivial
theorem evF_rep {ρ:List Value} {H:(PH Lw)} {e:Nat → FV} {a:Act} (h:∀ t,RepF ρ H (e t) (a.tmps.getD t undef)) (x:Operand):RepF ρ H (evF e x) (a.eval x):=by
 cases x with
 | tmp t=>exact h t
 | const v=>exact ofVF_spec v ρ H
 | func f=>simp [evF,RepF,RepP,Act.eval]
 | global g=>trivial
theorem rep_bool {ρ:List Value} {H:(PH Lw)} {b:Bool} {x:Value} (h:RepF ρ H (.p (.bool b)) x):x = .bool b:=by simpa [RepF,RepP] using h
theorem rep_int {ρ:List Value} {H:(PH Lw)} {k:IntKind} {n:Int} {x:Value} (h:RepF ρ H (.p (.int k n)) x):x = .int k n:=by simpa [RepF,RepP] using h
theorem rep_str {ρ:List Value} {H:(PH Lw)} {l:List UInt8} {x:Value} (h:RepF ρ H (.p (.str l)) x):x = .string ⟨l.toArray⟩:=by simpa [RepF,RepP] using h
theorem bool_rep {ρ:List Value} {H:(PH Lw)} {b:Bool}:RepF ρ H (.p (.bool b)) (.bool b):=by simp [RepF,RepP]
theorem int_rep {ρ:List Value} {H:(PH Lw)} {k:IntKind} {n:Int}:RepF ρ H (.p (.int k n)) (.int k n):=by simp [RepF,RepP]
theorem str_rep {ρ:List Value} {H:(PH Lw)} {l:List UInt8}:RepF ρ H (.p (.str l)) (.string ⟨l.toArray⟩):=by simp [RepF,RepP]
theorem takeK_spec {α:Type}:∀ {n:Nat} {l:List α} {R:List α → Prop},takeK n l R → R (l.take n) ∧ n ≤ l.length
 | 0,l,R,h=>by simpa [takeK] using h
 | n + 1,[],R,h=>by simp [takeK] at h
 | n + 1,a :: l,R,h=>by
  have:=takeK_spec (n:=n) (l:=l) (R:=fun l=>R (a :: l)) h
  simpa using this
theorem dropK_spec {α:Type}:∀ {n:Nat} {l:List α} {R:List α → Prop},dropK n l R → R (l.drop n) ∧ n ≤ l.length
 | 0,l,R,h=>by simpa [dropK] using h
 | n + 1,[],R,h=>by simp [dropK] at h
 | n + 1,a :: l,R,h=>by simpa using dropK_spec (n:=n) (l:=l) (R:=R) h
theorem nthK_spec {α:Type}:∀ {n:Nat} {l:List α} {R:α → Prop},nthK n l R → ∃ a,l[n]? = some a ∧ R a
 | 0,[],R,h=>by simp [nthK] at h
 | 0,a :: l,R,h=>⟨a,by simp,h⟩
 | n + 1,[],R,h=>by simp [nthK] at h
 | n + 1,a :: l,R,h=>by simpa using nthK_spec (n:=n) (l:=l) (R:=R) h
theorem setK_spec {α:Type}:∀ {n:Nat} {x:α} {l:List α} {R:List α → Prop},setK n x l R → R (l.set n x) ∧ n < l.length
 | 0,x,[],R,h=>by simp [setK] at h
 | 0,x,a :: l,R,h=>by simpa [setK] using h
 | n + 1,x,[],R,h=>by simp [setK] at h
 | n + 1,x,a :: l,R,h=>by simpa using setK_spec (n:=n) (x:=x) (l:=l) (R:=fun l=>R (a :: l)) h
theorem snocK_spec {α:Type}:∀ {l:List α} {x:α} {R:List α → Prop},snocK l x R → R (l ++ [x])
 | [],x,R,h=>by simpa [snocK] using h
 | a :: l,x,R,h=>snocK_spec (l:=l) (x:=x) (R:=fun l=>R (a :: l)) h
theorem lenK_spec {α:Type}:∀ {l:List α} {n:Nat} {R:Nat → Prop},lenK l n R → R (n + l.length)
 | [],n,R,h=>by simpa [lenK] using h
 | a :: l,n,R,h=>by
  have:=lenK_spec (l:=l) (n:=n + 1) (R:=R) h
  simpa [Nat.add_comm,Nat.add_left_comm,Nat.add_assoc] using this
theorem fieldK_spec {P:Program} {t f:Nat} {R:Nat → TypeId → Prop} (h:fieldK P t f R) :
  ∃ fs x i,P.underlying t = some (.struct fs) ∧ fs[f]? = some x ∧ P.info? x.type = some i ∧ i.size ≠ 0 ∧ R x.offset x.type:=by
 unfold fieldK at h
 split at h
 ·rename_i fs hu
  obtain ⟨x,hx,hr⟩:=nthK_spec h
  split at hr
  ·rename_i i hi
   split at hr
   ·exact hr.elim
   ·rename_i hz
    exact ⟨_,x,i,hu,by simpa using hx,hi,fun e=>by simp [e] at hz,hr⟩
  ·exact hr.elim
 ·exact h.elim
theorem typeK_spec {P:Program} {t:TypeId} {R:Bool → Nat → Prop} (h:typeK P t R) :
  ∃ d i,P.underlying t = some d ∧ P.info? t = some i ∧ R (aggD d) i.size:=by
 unfold typeK at h
 split at h
 ·rename_i d hd
  split at h
  ·rename_i i hi; exact ⟨d,i,hd,hi,h⟩
  ·exact h.elim
 ·exact h.elim
theorem elemK_spec {P:Program} {t:TypeId} {R:TypeId → Nat → Prop} (h:elemK P t R) :
  ∃ e i,P.underlying t = some (.slice e) ∧ P.info? e = some i ∧ R e i.size:=by
 unfold elemK at h
 split at h
 ·rename_i e he
  split at h
  ·rename_i i hi; exact ⟨e,i,he,hi,h⟩
  ·exact h.elim
 ·exact h.elim
theorem frz0_spec {v:FV} {R:PV → Prop} (h:frz0 v R):∃ p,R p ∧ ∀ ⦃Lw:Nat⦄ (ρ:List Value) (H:PH Lw) (x:Value),RepF ρ H v x → RepP H p x:=by
 cases v <;> simp only [frz0] at h
 case p p=>exact ⟨p,h,fun _ _ _ _ r=>r⟩
 case tsl k rows=>exact ⟨_,h,fun _ _ _ _ r=>r.2⟩
 case hptr row=>exact ⟨_,h,fun _ _ _ _ r=>by simp only [RepF] at r; simp only [RepP]; exact r⟩
theorem capsK_spec:∀ {c:FV} {R:List PV → Prop},capsK c R → ∃ ps,R ps ∧ ∀ ⦃Lw:Nat⦄ (ρ:List Value) (H:(PH Lw)) (vs:List Value),RepF ρ H c (.tuple vs.toArray) → RepL H ps vs
 | .cap0,R,h=>⟨[],h,fun Lw ρ H vs r=>by
   simp only [RepF,Value.tuple.injEq] at r
   simpa [RepL] using r⟩
 | .cap a b,R,h=>by
  simp only [capsK] at h
  obtain ⟨p,h,hp⟩:=frz0_spec h
  obtain ⟨ps,h,hps⟩:=capsK_spec h
  refine ⟨_,h,fun Lw ρ H vs r=>?_⟩
  obtain ⟨u,us,e,ra,rb⟩:=r
  have e:vs = u :: us:=by simpa using e
  subst e
  simp only [RepL]
  exact ⟨u,us,rfl,hp _ _ _ ra,hps _ _ _ rb⟩
 | .top,_,h | .p _,_,h | .opt _ _,_,h | .tsl _ _,_,h | .ptr _ _,_,h | .hptr _,_,h | .bself _,_,h | .bsl _ _ _ _,_,h | .vsl _ _,_,h | .eptr _ _ _ _,_,h | .mref _,_,h | .pair _ _,_,h | .stmp _,_,h | .clo _ _,_,h | .fagg _,_,h | .nxt _ _ _,_,h | .asl _ _ _,_,h | .ifs _ _,_,h | .cut _,_,h=>by
  simp [capsK] at h
theorem frzK_spec {v:FV} {R:PV → Prop} (h:frzK v R):∃ p,R p ∧ ∀ ⦃Lw:Nat⦄ (ρ:List Value) (H:PH Lw) (x:Value),RepF ρ H v x → RepP H p x:=by
 cases v <;> simp only [frzK] at h
 case p p=>exact ⟨p,h,fun _ _ _ _ r=>r⟩
 case tsl k rows=>exact ⟨_,h,fun _ _ _ _ r=>r.2⟩
 case hptr row=>exact ⟨_,h,fun _ _ _ _ r=>by simp only [RepF] at r; simp only [RepP]; exact r⟩
 case clo f c =>
  obtain ⟨ps,h,hs⟩:=capsK_spec h
  exact ⟨_,h,fun Lw ρ H x r=>by obtain ⟨vs,e,rc⟩:=r; simp only [RepP]; exact ⟨vs,e,hs _ _ _ rc⟩⟩
 case fagg c =>
  obtain ⟨ps,h,hs⟩:=capsK_spec h
  exact ⟨_,h,fun Lw ρ H x r=>by obtain ⟨vs,e,rc⟩:=r; simp only [RepP]; exact ⟨vs,e,hs _ _ _ rc⟩⟩
theorem frzL_spec:∀ {l:List FV} {R:List PV → Prop},frzL l R → ∃ ps,R ps ∧ ∀ ⦃Lw:Nat⦄ (ρ:List Value) (H:PH Lw) (vs:List Value),RepFL ρ H l vs → RepL H ps vs
 | [],R,h=>⟨[],h,fun _ _ vs r=>by simpa [RepL,RepFL] using r⟩
 | v :: l,R,h=>by
  simp only [frzL] at h
  obtain ⟨p,h1,h2⟩:=frzK_spec h
  obtain ⟨ps,h3,h4⟩:=frzL_spec h1
  refine ⟨_,h3,fun Lw ρ H vs r=>?_⟩
  obtain ⟨x,vs',e,r1,r2⟩:=r
  simp only [RepL]
  exact ⟨x,vs',e,h2 _ _ _ r1,h4 _ _ _ r2⟩
theorem evL_spec {E:Env} {g:G}:∀ {l:List Operand} {R:List FV → Prop},evL E g l R →
  ∃ vs,R vs ∧ ∀ ⦃Lw:Nat⦄ (ρ:List Value) (H:PH Lw) (eval:Operand → Value),gOn g → (∀ x ∈ l,RepF ρ H (evF (lookD E) x) (eval x)) → RepFL ρ H vs (l.map eval)
 | [],R,h=>⟨[],h,fun _ _ _ _ _ _=>by simp [RepFL]⟩
 | x :: l,R,h=>by
  simp only [evL] at h
  obtain ⟨v,h1,h2⟩:=evS_spec h
  obtain ⟨vs,h3,h4⟩:=evL_spec h1
  refine ⟨_,h3,fun Lw ρ H eval hg hx=>?_⟩
  simp only [List.map_cons,RepFL]
  exact ⟨_,_,rfl,h2 _ _ _ hg (hx x (by simp)),h4 _ _ _ hg (fun y hy=>hx y (by simp [hy]))⟩
theorem size_lit (l:List UInt8):(⟨l.toArray⟩:ByteArray).size = l.length:=ByteArray.size_mk_toArray l
section
variable {P:Program} {bs:(Base Lw)} {ρ:List Value} {H:(PH Lw)} {lo:List AObj} {w:World}
theorem run_equalIn_bool {t:TypeId} (hu:P.underlying t = some .bool) (n:Nat) (a b:Bool):(Op.equalIn (n + 1) t (.bool a) (.bool b)).run P w = .ok (a == b) w:=by
 simp [Op.equalIn,run_underlying hu]
theorem run_equal_bool {t:TypeId} (hu:P.underlying t = some .bool) (a b:Bool):(Op.equal t (.bool a) (.bool b)).run P w = .ok (a == b) w :=
 run_equalIn_bool hu 9999 a b
theorem run_isAgg {t:TypeId} {d:TypeDesc} (hu:P.underlying t = some d):(isAgg t).run P w = .ok (aggD d) w:=by
 simp only [isAgg,Sem.run_bind,run_underlying hu,Result.andThen_ok]
 cases d <;> rfl
def eqV:List PV → List PV → Option Bool
 | [],[]=>some true
 | .int k a :: as,.int k' b :: bs=>match kindEq k k' with
  | true=>(eqV as bs).map fun c=>bif a == b then c else false
  | false=>none
 | .str a :: as,.str b :: bs=>(eqV as bs).map fun c=>bif a == b then c else false
 | .bool a :: as,.bool b :: bs=>(eqV as bs).map fun c=>bif a == b then c else false
 | _,_=>none
theorem eqCs_spec:∀ {as bs:List PV} {R:Bool → Prop},eqCs as bs R → ∃ c,R c ∧ eqV as bs = some c:=by
 intro as
 induction as with
 | nil=>intro bs R h; cases bs with
  | nil=>exact ⟨true,h,rfl⟩
  | cons b bs=>simp [eqCs] at h
 | cons a as ih =>
  intro bs R h
  cases bs with
  | nil=>cases a <;> simp [eqCs] at h
  | cons b bs =>
   cases a <;> cases b <;> first
    | (simp [eqCs] at h; done)
    | (simp only [eqCs] at h; obtain ⟨c,hc,e⟩:=ih h; exact ⟨_,hc,by simp [eqV,e]⟩)
    | skip
   simp only [eqCs] at h
   split at h
   ·rename_i hk
    obtain ⟨c,hc,e⟩:=ih h
    exact ⟨_,hc,by simp [eqV,hk,e]⟩
   ·exact h.elim
theorem bytes_beq (a b:List UInt8):((⟨a.toArray⟩:ByteArray).toList == (⟨b.toArray⟩:ByteArray).toList) = (a == b):=by
 rw [ByteArray.toList_eq,ByteArray.toList_eq]
theorem run_eqFields {H:(PH Lw)} {xs ys:Array Value}:∀ {fs:List Field} {o:Nat} {as bs:List PV} {va vb:List Value} {c:Bool},fitsB P fs o as = true → RepL H as va → RepL H bs vb →
  (∀ j v,va[j]? = some v → xs[o + j]? = some v) → (∀ j v,vb[j]? = some v → ys[o + j]? = some v) → eqV as bs = some c → (Op.eqFields 9999 xs ys fs).run P w = .ok c w:=by
 intro fs
 induction fs with
 | nil =>
  intro o as bs va vb c hf ra rb hx hy he
  cases as with
  | nil=>cases bs with
   | nil=>simp [eqV] at he; subst he; simp [Op.eqFields]
   | cons b bs=>simp [eqV] at he
  | cons a as=>simp [fitsB] at hf
 | cons f fs ih =>
  intro o as bs va vb c hf ra rb hx hy he
  cases as with
  | nil=>simp [fitsB] at hf
  | cons a as =>
   cases bs with
   | nil=>cases a <;> simp [eqV] at he
   | cons b bs =>
    simp only [fitsB,Bool.and_eq_true] at hf
    obtain ⟨⟨⟨hn,ho⟩,hk⟩,hf⟩:=hf
    have hn : f.name ≠ "_" := by simpa using hn
    have ho:f.offset = o:=Nat.eq_of_beq_eq_true ho
    simp only [RepL] at ra rb
    obtain ⟨v,va',rfl,rv,ra'⟩:=ra
    obtain ⟨u,vb',rfl,ru,rb'⟩:=rb
    have hxv:=hx 0 v rfl
    have hyu:=hy 0 u rfl
    simp only [Nat.add_zero] at hxv hyu
    have step:∀ {x y:Bool},eqV as bs = some y → (Op.eqFields 9999 xs ys fs).run P w = .ok y w:=fun {x y} hxy =>
     ih hf ra' rb' (fun j v hv=>by rw [Nat.add_assoc,Nat.add_comm 1 j]; exact hx (j + 1) v hv) (fun j v hv=>by rw [Nat.add_assoc,Nat.add_comm 1 j]; exact hy (j + 1) v hv) hxy
    have fin:∀ {d:TypeDesc} {q:Bool},P.underlying f.type = some d → aggD d = false → (Op.equalIn 9999 f.type v u).run P w = .ok q w → ((eqV as bs).map fun c=>bif q then c else false) = some c →
      (Op.eqFields 9999 xs ys (f :: fs)).run P w = .ok c w:=by
     intro d q hu ha hq hc
     cases he2:eqV as bs with
     | none=>rw [he2] at hc; cases hc
     | some y =>
      rw [he2] at hc
      have hc:(bif q then y else false) = c:=by simpa using hc
      simp only [Op.eqFields,if_pos hn,Sem.run_bind,part,ho,run_isAgg hu,ha,Result.andThen_ok,hxv,hyu]
      simp [hq]
      cases q with
      | true=>simp at hc; subst hc; simpa using step (x:=true) he2
      | false=>simp at hc; subst hc; simp
    cases a <;> cases b <;> simp only [eqV] at he <;> first | (cases he; done) | skip
    ·split at hk
     all_goals first
      | (cases hk; done)
      | (rename_i hu hq; cases hq; done)
      | (rename_i hu hq; simp only [RepP] at rv ru; subst rv ru; exact fin hu rfl (run_equalIn_bool' w _ _ _ _ hu) he)
    ·split at he
     ·rename_i hkk
      have hkk:=kindEq_spec hkk
      subst hkk
      split at hk
      all_goals first
       | (cases hk; done)
       | (rename_i hu hq; cases hq; done)
       | (rename_i hu hq; simp only [RepP] at rv ru; subst rv ru; exact fin hu rfl (run_equalIn_int w _ _ _ _ _ _ hu) he)
     ·cases he
    ·split at hk
     all_goals first
      | (cases hk; done)
      | (rename_i hu hq; cases hq; done)
      | (rename_i hu hq; simp only [RepP] at rv ru; subst rv ru; exact fin hu rfl (run_equalIn_string w _ _ _ _ hu) (by rw [bytes_beq]; exact he))
theorem run_eqBools {H:(PH Lw)} {e:TypeId} (hu:P.underlying e = some .bool) {xs ys:Array Value}:∀ {as bs:List PV} {va vb:List Value} {o:Nat} {c:Bool},boolsB as = true → RepL H as va → RepL H bs vb →
  (∀ j v,va[j]? = some v → xs[o + j]? = some v) → (∀ j v,vb[j]? = some v → ys[o + j]? = some v) → eqV as bs = some c → (Op.eqItems 9999 e 1 xs ys (List.range' o as.length)).run P w = .ok c w:=by
 intro as
 induction as with
 | nil =>
  intro bs va vb o c hf ra rb hx hy he
  cases bs with
  | nil=>simp [eqV] at he; subst he; simp [Op.eqItems]
  | cons b bs=>simp [eqV] at he
 | cons a as ih =>
  intro bs va vb o c hf ra rb hx hy he
  cases bs with
  | nil=>cases a <;> simp [eqV] at he
  | cons b bs =>
   simp only [RepL] at ra rb
   obtain ⟨v,va',rfl,rv,ra'⟩:=ra
   obtain ⟨u,vb',rfl,ru,rb'⟩:=rb
   have hxv:=hx 0 v rfl
   have hyu:=hy 0 u rfl
   simp only [Nat.add_zero] at hxv hyu
   cases a <;> simp only [boolsB] at hf <;> first | (cases hf; done) | skip
   cases b <;> simp only [eqV] at he <;> first | (cases he; done) | skip
   rename_i a b
   simp only [RepP] at rv ru
   subst rv ru
   cases he2:eqV as bs with
   | none=>rw [he2] at he; cases he
   | some y =>
    rw [he2] at he
    have hc:(bif a == b then y else false) = c:=by simpa using he
    have step:=ih (o:=o + 1) hf ra' rb' (fun j v hv=>by rw [Nat.add_assoc,Nat.add_comm 1 j]; exact hx (j + 1) v hv) (fun j v hv=>by rw [Nat.add_assoc,Nat.add_comm 1 j]; exact hy (j + 1) v hv) he2
    have hq:=run_equalIn_bool' (P:=P) (w:=w) 9998 e a b hu
    simp only [List.length_cons,List.range'_succ,Op.eqItems,Sem.run_bind,part,Nat.mul_one,run_isAgg hu,aggD,Result.andThen_ok,hxv,hyu]
    simp [hq]
    cases h:a == b with
    | true=>rw [h] at hc; simp at hc; subst hc; have h':a = b:=(by simpa using h); simpa [h'] using step
    | false=>rw [h] at hc; simp at hc; subst hc; have h':¬ a = b:=(by simpa using h); simp [h']
theorem run_eqAgg {H:(PH Lw)} {t:TypeId} {as bs:List PV} {va vb:List Value} {c:Bool} (hf:flatB P t as = true) (ra:RepL H as va) (rb:RepL H bs vb) (he:eqV as bs = some c) :
  P.eqGuardType P.depth t = false ∧ (Op.equalIn 10000 t (.agg va.toArray) (.agg vb.toArray)).run P w = .ok c w:=by
 unfold flatB at hf
 split at hf
 ·rename_i n e hu
  simp only [boolArrB,Bool.and_eq_true,Bool.not_eq_true'] at hf
  obtain ⟨⟨⟨⟨⟨h1,h2⟩,h3⟩,h4⟩,h5⟩,h6⟩:=hf
  refine ⟨h1,?_⟩
  have hb:P.underlying e = some .bool:=by
   split at h2
   ·assumption
   ·cases h2
  obtain ⟨i,hi⟩:=Option.isSome_iff_exists.1 h3
  rw [run_equalIn_array w 9999 _ _ hu hi,Nat.eq_of_beq_eq_true h4,Nat.eq_of_beq_eq_true h5,List.range_eq_range']
  exact run_eqBools (o:=0) hb h6 ra rb (fun j v hv=>by simpa using hv) (fun j v hv=>by simpa using hv) he
 ·rename_i fs hu
  simp only [Bool.and_eq_true,Bool.not_eq_true'] at hf
  obtain ⟨⟨h1,h2⟩,h3⟩:=hf
  refine ⟨h2,?_⟩
  have hfs:P.fieldsOf t = ⟨fs⟩:=by simp [Program.fieldsOf,hu]
  rw [run_equalIn_agg w 9999 t _ _ (by rw [hfs]; exact hu) h1,hfs]
  exact run_eqFields (o:=0) h3 ra rb (fun j v hv=>by simpa using hv) (fun j v hv=>by simpa using hv) he
 ·cases hf
theorem kBin_spec {g:G} {op:BinOp} {t:TypeId} {x y:FV} {R:FV → Prop} (h:kBin P g op t x y R) :
  ∃ fv,R fv ∧ (gOn g → ∀ ⦃Lw:Nat⦄ (ρ:List Value) (H:(PH Lw)) (w:World) (xo yo:Operand) (a b:Value),RepF ρ H x a → RepF ρ H y b →
   ∃ v,(do eqGuard op t xo yo a b; binOp op t a b:Sem Value).run P w = .ok v w ∧ RepF ρ H fv v):=by
 unfold kBin at h
 split at h
 ·rename_i k n
  split at h
  ·rename_i k' m
   split at h
   ·refine ⟨_,h.2,fun hg Lw ρ H w xo yo a b ra rb=>?_⟩
    rw [rep_int ra,rep_int rb]
    have h0:=gI_on h.1 hg
    exact ⟨_,by simp [eqGuard,binOp,Op.shift,show ¬ m < 0 by omega],int_rep⟩
   ·refine ⟨_,h.2,fun hg Lw ρ H w xo yo a b ra rb=>?_⟩
    rw [rep_int ra,rep_int rb]
    have h0:=gI_on h.1 hg
    exact ⟨_,by simp [eqGuard,binOp,Op.shift,show ¬ m < 0 by omega],int_rep⟩
   ·split at h
    case h_2=>exact h.elim
    rename_i hk
    have hk:=kindEq_spec hk
    obtain ⟨h0,h⟩:=h
    refine ⟨_,h,fun hg Lw ρ H w xo yo a b ra rb=>?_⟩
    rw [rep_int ra,rep_int rb]
    have h0:=gI_on h0 hg
    exact ⟨_,by simp [eqGuard,binOp,Op.intDiv,hk,h0],int_rep⟩
   ·split at h
    case h_2=>exact h.elim
    rename_i hk
    have hk:=kindEq_spec hk
    obtain ⟨h0,h⟩:=h
    refine ⟨_,h,fun hg Lw ρ H w xo yo a b ra rb=>?_⟩
    rw [rep_int ra,rep_int rb]
    have h0:=gI_on h0 hg
    exact ⟨_,by simp [eqGuard,binOp,Op.intDiv,hk,h0],int_rep⟩
   ·split at h
    case h_2=>exact h.elim
    rename_i hk
    have hk:=kindEq_spec hk
    subst hk
    unfold binI at h
    split at h <;> first
     | exact h.elim
     | (refine ⟨_,h,fun hg Lw ρ H w xo yo a b ra rb=>?_⟩; rw [rep_int ra,rep_int rb]; exact ⟨_,by simp [eqGuard,binOp,Op.intArith,Op.intBits,Op.intCmp] <;> rfl,by simp [RepF,RepP]⟩)
  ·exact h.elim
 ·rename_i l
  split at h
  ·rename_i m
   unfold binS at h
   split at h
   ·obtain ⟨hs,h⟩:=h
    refine ⟨_,h,fun hg Lw ρ H w xo yo a b ra rb=>?_⟩
    rw [rep_str ra,rep_str rb]
    have hs:=gI_on hs hg
    refine ⟨.string ⟨(l ++ m).toArray⟩,?_,str_rep⟩
    have:=run_string_add_sum (P:=P) w ⟨l.toArray⟩ ⟨m.toArray⟩ (by rw [size_lit,size_lit]; unfold maxI at hs; omega)
    simp [eqGuard,binOp,this,ByteArray.mk_append_mk]
   all_goals first
    | exact h.elim
    | (refine ⟨_,h,fun hg Lw ρ H w xo yo a b ra rb=>?_⟩; rw [rep_str ra,rep_str rb]; exact ⟨_,by simp [eqGuard,binOp,Op.stringOp] <;> rfl,by simp [RepF,RepP]⟩)
  ·exact h.elim
 ·rename_i a'
  split at h
  ·rename_i b'
   unfold isBoolT at h
   split at h
   ·rename_i hu
    unfold binB at h
    split at h <;> first
     | exact h.elim
     | (refine ⟨_,h,fun hg Lw ρ H w xo yo a b ra rb=>?_⟩; rw [rep_bool ra,rep_bool rb]; exact ⟨_,by simp only [eqGuard,binOp,Sem.run_bind,run_equal_bool hu]; rfl,by simp [RepF,RepP]⟩)
   ·exact h.elim
  ·exact h.elim
 ·rename_i as
  split at h
  ·rename_i bs
   split at h
   ·obtain ⟨hf,h⟩:=h
    obtain ⟨c,hR,he⟩:=eqCs_spec h
    refine ⟨_,hR,fun hg Lw ρ H w xo yo a b ra rb=>?_⟩
    simp only [RepF,RepP] at ra rb
    obtain ⟨va,rfl,ra⟩:=ra
    obtain ⟨vb,rfl,rb⟩:=rb
    obtain ⟨h1,h2⟩:=run_eqAgg (w:=w) hf ra rb he
    exact ⟨.bool c,by rw [Sem.run_bind,run_eqGuard_agg w _ t xo yo _ _ h1,Result.andThen_ok,run_eql_struct,h2]; rfl,by simp [RepF,RepP]⟩
   ·obtain ⟨hf,h⟩:=h
    obtain ⟨c,hR,he⟩:=eqCs_spec h
    refine ⟨_,hR,fun hg Lw ρ H w xo yo a b ra rb=>?_⟩
    simp only [RepF,RepP] at ra rb
    obtain ⟨va,rfl,ra⟩:=ra
    obtain ⟨vb,rfl,rb⟩:=rb
    obtain ⟨h1,h2⟩:=run_eqAgg (w:=w) hf ra rb he
    exact ⟨.bool (!c),by rw [Sem.run_bind,run_eqGuard_agg w _ t xo yo _ _ h1,Result.andThen_ok,run_neq_struct,h2]; rfl,by simp [RepF,RepP]⟩
   ·exact h.elim
  ·exact h.elim
 ·exact h.elim
theorem kField_spec {t:TypeId} {x:FV} {f:Nat} {R:FV → Prop} (h:kField P t x f R) :
  ∃ fv,R fv ∧ ∀ ⦃Lw:Nat⦄ (ρ:List Value) (H:(PH Lw)) (w:World) (a:Value),RepF ρ H x a → ∃ v,(Instr.fieldAt t a f).run P w = .ok v w ∧ RepF ρ H fv v:=by
 unfold kField at h
 split at h
 ·rename_i k off
  obtain ⟨fs,y,i,hu,hf,hi,hz,hr⟩:=fieldK_spec h
  refine ⟨_,hr,fun Lw ρ H w a ra=>?_⟩
  obtain ⟨b,hb,rfl⟩:=ra
  exact ⟨.pointer (some ⟨b,off + y.offset,none⟩),by simp [Instr.fieldAt,run_underlying hu,hf,Instr.sureAddr,fieldPlace,Go.sizeOf,typeInfo,hi,hz,Addr.add_lit],b,hb,rfl⟩
 ·rename_i row
  obtain ⟨fs,y,i,hu,hf,hi,hz,hr⟩:=fieldK_spec h
  obtain ⟨hr,hlen⟩:=dropK_spec hr
  refine ⟨_,hr,fun Lw ρ H w a ra=>?_⟩
  obtain ⟨b,o,vs,rfl,q,c⟩:=ra
  refine ⟨.pointer (some ⟨b,o + y.offset,none⟩),by simp [Instr.fieldAt,run_underlying hu,hf,Instr.sureAddr,fieldPlace,Go.sizeOf,typeInfo,hi,hz,Addr.add_lit],b,o + y.offset,vs.drop y.offset,rfl,q.drop _,fun j v hv=>?_⟩
  rw [List.getElem?_drop] at hv
  have:=c _ _ hv
  rwa [← Nat.add_assoc] at this
 ·rename_i k z i' off
  obtain ⟨fs,y,i,hu,hf,hi,hz,hr⟩:=fieldK_spec h
  refine ⟨_,hr,fun Lw ρ H w a ra=>?_⟩
  obtain ⟨b,n,cap,hb,rfl⟩:=ra
  exact ⟨.pointer (some ⟨b,i' * z + off + y.offset,none⟩),by simp [Instr.fieldAt,run_underlying hu,hf,Instr.sureAddr,fieldPlace,Go.sizeOf,typeInfo,hi,hz,Addr.add_lit],b,n,cap,hb,by rw [Nat.add_assoc]⟩
 ·exact h.elim
theorem kPart_spec {t:TypeId} {x:FV} {f:Nat} {R:FV → Prop} (h:kPart P t x f R) :
  ∃ fv,R fv ∧ ∀ ⦃Lw:Nat⦄ (ρ:List Value) (H:(PH Lw)) (w:World) (a:Value),RepF ρ H x a → ∃ v,(Instr.field t a f).run P w = .ok v w ∧ RepF ρ H fv v:=by
 unfold kPart at h
 split at h
 ·rename_i cs
  obtain ⟨fs,y,i,hu,hf,hi,hz,hr⟩:=fieldK_spec h
  obtain ⟨hr,hlen⟩:=dropK_spec hr
  obtain ⟨d,i',hd,hi',hr⟩:=typeK_spec hr
  have hii:i' = i:=Option.some.inj (hi'.symm.trans hi)
  subst hii
  split at hr
  ·rename_i hagg
   obtain ⟨hr,hl⟩:=takeK_spec hr
   refine ⟨_,hr,fun Lw ρ H w a ra=>?_⟩
   simp only [RepF,RepP] at ra
   obtain ⟨vs,rfl,q⟩:=ra
   refine ⟨.agg ((vs.drop y.offset).take i'.size).toArray,?_,?_⟩
   ·simp [Instr.field,run_underlying hu,hf,asAgg,part,run_isAgg hd,hagg,Go.sizeOf,typeInfo,hi',List.extract_toArray,List.extract_eq_take_drop]
   ·simp only [RepF,RepP]; exact ⟨_,rfl,(q.drop _).take _⟩
  ·rename_i hagg
   split at hr
   ·rename_i c r hc
    refine ⟨_,hr,fun Lw ρ H w a ra=>?_⟩
    simp only [RepF,RepP] at ra
    obtain ⟨vs,rfl,q⟩:=ra
    have hg:cs[y.offset]? = some c:=by
     have:=congrArg (fun l=>l[0]?) hc
     simpa [List.getElem?_drop] using this
    obtain ⟨v,hv,rv⟩:=q.get hg
    exact ⟨v,by simp [Instr.field,run_underlying hu,hf,asAgg,part,run_isAgg hd,hagg,hv],rv⟩
   ·exact hr.elim
 ·exact h.elim
theorem indexAt_rows {ρ:List Value} {H:(PH Lw)} {w:World} {t e:TypeId} {ti:TypeInfo} (hu:P.underlying t = some (.slice e)) (hi:P.info? e = some ti) {rows:List (List PV)} {a:Value} (ra:RepP H (.sl rows) a)
  {k:IntKind} {i:Int} {row:List PV} (h0:0 ≤ i) (hrow:rows[i.toNat]? = some row) (hlen:row.length = ti.size) :
  ∃ v,(Instr.indexAt t a (.int k i)).run P w = .ok v w ∧ RepF ρ H (.hptr row) v:=by
 simp only [RepP] at ra
 rcases ra with ⟨rfl,_⟩ | ⟨b,o,z,cap,rfl,hc,rr⟩
 ·simp at hrow
 ·obtain ⟨hz,vs,q,c⟩:=rr.get hrow
  have hlt:i < rows.length:=by have:=(List.getElem?_eq_some_iff.1 hrow).1; omega
  refine ⟨.pointer (some ⟨b,o + i.toNat * ti.size,none⟩),?_,b,_,vs,rfl,q,?_⟩
  ·simp [Instr.indexAt,run_underlying hu,asIntOf,h0,hlt,Go.sizeOf,typeInfo,hi,Addr.add_lit]
  ·rw [← hlen,hz]; exact c
theorem kIndexAddr_spec {g:G} {t:TypeId} {x i:FV} {R:FV → Prop} (h:kIndexAddr P g t x i R) :
  ∃ fv,R fv ∧ (gOn g → ∀ ⦃Lw:Nat⦄ (ρ:List Value) (H:(PH Lw)) (w:World) (a b:Value),RepF ρ H x a → RepF ρ H i b → ∃ v,(Instr.indexAt t a b).run P w = .ok v w ∧ RepF ρ H fv v):=by
 unfold kIndexAddr at h
 split at h
 ·obtain ⟨e,ti,hu,hi,row,hr,hR⟩:=elemK_spec h
  refine ⟨_,hR,fun hg Lw ρ H w a b ra rb=>?_⟩
  obtain ⟨h0,h1,h2⟩:=gI_on hr hg
  rw [rep_int rb]
  exact indexAt_rows hu hi ra h0 h1 h2
 ·obtain ⟨e,ti,hu,hi,row,hr,hR⟩:=elemK_spec h
  refine ⟨_,hR,fun hg Lw ρ H w a b ra rb=>?_⟩
  obtain ⟨h0,h1,h2⟩:=gI_on hr hg
  rw [rep_int rb]
  exact indexAt_rows hu hi ra.2 h0 h1 h2
 ·rename_i k off kk n
  split at h
  ·rename_i len e hu
   split at h
   ·rename_i ti hi
    obtain ⟨hb,hR⟩:=h
    refine ⟨_,hR,fun hg Lw ρ H w a b ra rb=>?_⟩
    obtain ⟨h0,h1⟩:=gI_on hb hg
    obtain ⟨bl,hr,rfl⟩:=ra
    rw [rep_int rb]
    refine ⟨.pointer (some ⟨bl,off + n.toNat * ti.size,none⟩),?_,bl,hr,rfl⟩
    simp [Instr.indexAt,run_underlying hu,asIntOf,Instr.sureAddr,h0,h1,Go.sizeOf,typeInfo,hi,Addr.add_lit]
   ·exact h.elim
  ·exact h.elim
 ·rename_i k n kk i0
  obtain ⟨e,ti,hu,hi,j,hb,hR⟩:=elemK_spec h
  refine ⟨_,hR,fun hg Lw ρ H w a b ra rb=>?_⟩
  obtain ⟨rfl,hj⟩:=gI_on hb hg
  obtain ⟨hr,⟨h0,_⟩ | ⟨bl,cap,rfl⟩⟩:=ra
  ·omega
  ·rw [rep_int rb]
   refine ⟨.pointer (some ⟨bl,j * ti.size,none⟩),?_,bl,n,cap,hr,by rw [Nat.add_zero]⟩
   simp [Instr.indexAt,run_underlying hu,asIntOf,hj,Go.sizeOf,typeInfo,hi,Addr.add_lit]
 ·rename_i row kk n
  split at h
  ·rename_i len e hu
   split at h
   ·rename_i ti hi
    obtain ⟨hb,hR⟩:=h
    refine ⟨_,hR,fun hg Lw ρ H w a b ra rb=>?_⟩
    obtain ⟨h0,h1⟩:=gI_on hb hg
    obtain ⟨bl,o,vs,rfl,hr,hc⟩:=ra
    rw [rep_int rb]
    refine ⟨.pointer (some ⟨bl,o + n.toNat * ti.size,none⟩),?_,bl,o + n.toNat * ti.size,(vs.drop (n.toNat * ti.size)).take ti.size,rfl,(hr.drop _).take _,fun j u hj=>?_⟩
    ·simp [Instr.indexAt,run_underlying hu,asIntOf,Instr.sureAddr,h0,h1,Go.sizeOf,typeInfo,hi,Addr.add_lit]
    ·rw [List.getElem?_take] at hj
     split at hj
     ·rw [List.getElem?_drop] at hj
      rw [Nat.add_assoc]
      exact hc _ _ hj
     ·cases hj
   ·exact h.elim
  ·exact h.elim
 ·rename_i k off n cp kk i0
  obtain ⟨e,ti,hu,hi,hb,hR⟩:=elemK_spec h
  refine ⟨_,hR,fun hg Lw ρ H w a b ra rb=>?_⟩
  obtain ⟨rfl,hn⟩:=gI_on hb hg
  obtain ⟨bl,hr,c,rfl,_⟩:=ra
  rw [rep_int rb]
  refine ⟨.pointer (some ⟨bl,off,none⟩),?_,bl,hr,rfl⟩
  have h1:(0:Int) < (n:Int):=by omega
  simp [Instr.indexAt,run_underlying hu,asIntOf,h1,hn,Go.sizeOf,typeInfo,hi,Addr.add_lit]
 ·rename_i k z kk i0
  split at h
  ·rename_i len e hu
   split at h
   ·rename_i ti hi
    split at h
    ·rename_i hz
     have hz:ti.size = 1:=Nat.eq_of_beq_eq_true hz
     obtain ⟨j,hb,hR⟩:=h
     refine ⟨_,hR,fun hg Lw ρ H w a b ra rb=>?_⟩
     obtain ⟨rfl,rfl,hj⟩:=gI_on hb hg
     obtain ⟨bl,n,cap,hr,rfl⟩:=ra
     rw [rep_int rb]
     refine ⟨.pointer (some ⟨bl,j,none⟩),?_,bl,n,cap,hr,by simp⟩
     simp [Instr.indexAt,run_underlying hu,asIntOf,Instr.sureAddr,hj,Go.sizeOf,typeInfo,hi,hz,Addr.add_lit]
    ·exact h.elim
   ·exact h.elim
  ·exact h.elim
 ·exact h.elim
theorem kIndex_spec {g:G} {t:TypeId} {x i:FV} {R:FV → Prop} (h:kIndex P g t x i R) :
  ∃ fv,R fv ∧ (gOn g → ∀ ⦃Lw:Nat⦄ (ρ:List Value) (H:(PH Lw)) (w:World) (a b:Value),RepF ρ H x a → RepF ρ H i b → ∃ v,(Instr.index t a b).run P w = .ok v w ∧ RepF ρ H fv v):=by
 unfold kIndex at h
 split at h
 ·rename_i l k n
  split at h
  ·rename_i hu
   obtain ⟨b,hb,hR⟩:=h
   refine ⟨_,hR,fun hg Lw ρ H w x y ra rb=>?_⟩
   obtain ⟨h0,h1⟩:=gI_on hb hg
   rw [rep_str ra,rep_int rb]
   refine ⟨_,?_,int_rep⟩
   have hlt:=(List.getElem?_eq_some_iff.1 h1).1
   have hs:(⟨l.toArray⟩:ByteArray)[n.toNat]? = some b:=by
    rw [ByteArray.getElem?_lt' _ _ (by rw [size_lit]; exact hlt)]
    have:=(List.getElem?_eq_some_iff.1 h1).2
    rw [← this]
    rfl
   simp [Instr.index,asIntOf,run_underlying hu,h0,hs]
  ·exact h.elim
 ·rename_i cs k n
  split at h
  ·rename_i len e hu
   obtain ⟨d,ti,hd,hi,h⟩:=typeK_spec h
   split at h
   ·rename_i hagg
    split at h
    ·rename_i hz
     have hz:ti.size = 1:=Nat.eq_of_beq_eq_true hz
     obtain ⟨c,hb,hR⟩:=h
     refine ⟨_,hR,fun hg Lw ρ H w x y ra rb=>?_⟩
     obtain ⟨h0,h1,h2⟩:=gI_on hb hg
     simp only [RepF,RepP] at ra
     obtain ⟨vs,rfl,q⟩:=ra
     obtain ⟨v,hv,rv⟩:=q.get h2
     rw [rep_int rb]
     refine ⟨v,?_,rv⟩
     simp [Instr.index,asIntOf,run_underlying hu,h0,h1,Go.sizeOf,typeInfo,hi,hz,part,run_isAgg hd,hagg,hv]
    ·exact h.elim
   ·rename_i hagg
    obtain ⟨c,hb,hR⟩:=h
    refine ⟨_,hR,fun hg Lw ρ H w x y ra rb=>?_⟩
    obtain ⟨h0,h1,h2⟩:=gI_on hb hg
    simp only [RepF,RepP] at ra
    obtain ⟨vs,rfl,q⟩:=ra
    rw [rep_int rb]
    refine ⟨.agg ((vs.drop (n.toNat * ti.size)).take ti.size).toArray,?_,?_⟩
    ·simp [Instr.index,asIntOf,run_underlying hu,h0,h1,Go.sizeOf,typeInfo,hi,part,run_isAgg hd,hagg,List.extract_toArray,List.extract_eq_take_drop]
    ·simp only [RepF,RepP]
     exact ⟨_,rfl,by rw [← h2]; exact (q.drop _).take _⟩
  ·exact h.elim
 ·exact h.elim
theorem kLen_spec {t:TypeId} {x:FV} {R:FV → Prop} (h:kLen P t x R) :
  ∃ fv,R fv ∧ ∀ ⦃Lw:Nat⦄ (ρ:List Value) (H:(PH Lw)) (w:World) (ty:TypeId) (a:Value),RepF ρ H x a → ∃ v,(Builtin.len_ #[t] ty #[a]).run P w = .ok v w ∧ RepF ρ H fv v:=by
 have slice:∀ (e:TypeId),P.underlying t = some (.slice e) → ∀ (rows:List (List PV)) ⦃Lw:Nat⦄ (H:(PH Lw)) (w:World) (ty:TypeId) (a:Value),RepP H (.sl rows) a → (Builtin.len_ #[t] ty #[a]).run P w = .ok (.int .i64 rows.length) w:=by
  intro e hu rows Lw H w ty a ra
  simp only [RepP] at ra
  rcases ra with ⟨rfl,rfl | ⟨a',cap',rfl⟩⟩ | ⟨b,o,z,cap,rfl,_,_⟩
  ·simp [Builtin.len_,run_underlying hu,goInt]
  ·simp [Builtin.len_,run_underlying hu,goInt]
  ·simp [Builtin.len_,run_underlying hu,goInt]
 unfold kLen at h
 split at h
 ·rename_i l
  split at h
  ·rename_i hu
   refine ⟨_,h,fun Lw ρ H w ty a ra=>⟨.int .i64 l.length,?_,int_rep⟩⟩
   rw [rep_str ra]
   simp [Builtin.len_,run_underlying hu,goInt,size_lit]
  ·exact h.elim
 ·rename_i rows
  split at h
  ·rename_i e hu
   exact ⟨_,h,fun Lw ρ H w ty a ra=>⟨_,slice e hu rows H w ty a ra,int_rep⟩⟩
  ·exact h.elim
 ·rename_i k rows
  split at h
  ·rename_i e hu
   exact ⟨_,h,fun Lw ρ H w ty a ra=>⟨_,slice e hu rows H w ty a ra.2,int_rep⟩⟩
  ·exact h.elim
 ·rename_i k off n cap
  split at h
  ·rename_i e hu
   refine ⟨_,h,fun Lw ρ H w ty a ra=>⟨.int .i64 n,?_,int_rep⟩⟩
   obtain ⟨b,_,_,rfl,_⟩:=ra
   simp [Builtin.len_,run_underlying hu,goInt]
  ·exact h.elim
 ·rename_i k n
  split at h
  ·rename_i e hu
   refine ⟨_,h,fun Lw ρ H w ty a ra=>⟨.int .i64 n,?_,int_rep⟩⟩
   obtain ⟨_,⟨rfl,rfl⟩ | ⟨b,cap,rfl⟩⟩:=ra <;> simp [Builtin.len_,run_underlying hu,goInt]
  ·exact h.elim
 ·split at h
  ·rename_i e hu
   refine ⟨_,h,fun Lw ρ H w ty a ra=>⟨.int .i64 0,?_,int_rep⟩⟩
   simp only [RepF,RepP] at ra
   subst ra
   simp [Builtin.len_,run_underlying hu,goInt]
  ·exact h.elim
 ·exact h.elim
theorem kConvert_spec {s d:TypeId} {x:FV} {R:FV → Prop} (h:kConvert P s d x R) :
  ∃ fv,R fv ∧ ∀ ⦃Lw:Nat⦄ (ρ:List Value) (H:(PH Lw)) (w:World) (a:Value),RepF ρ H x a → ∃ v,(convert s d a).run P w = .ok v w ∧ RepF ρ H fv v:=by
 unfold kConvert at h
 split at h
 ·split at h
  ·rename_i hu
   split at h
   ·rename_i k hv
    refine ⟨_,h,fun Lw ρ H w a ra=>⟨_,?_,int_rep⟩⟩
    rw [rep_int ra]
    simp [convert,run_underlying hu,run_underlying hv,Conv.intToInt]
   ·exact h.elim
  ·exact h.elim
 ·split at h
  ·rename_i hu
   split at h
   ·rename_i hv
    refine ⟨_,h,fun Lw ρ H w a ra=>⟨_,?_,str_rep⟩⟩
    rw [rep_str ra]
    simp [convert,run_underlying hu,run_underlying hv]
   ·exact h.elim
  ·exact h.elim
 ·exact h.elim
theorem boundK_spec {E:Env} {g:G} {x:Option Operand} {d:Nat} {R:Nat → Prop} (h:boundK E g x d R) :
  ∃ n,R n ∧ (∀ ⦃Lw:Nat⦄ (ρ:List Value) (H:(PH Lw)) (eval:Operand → Value),gOn g → (∀ y ∈ x.toArray,RepF ρ H (evF (lookD E) y) (eval y)) → (x = none ∧ n = d) ∨ ∃ y k,x = some y ∧ eval y = .int k n):=by
 unfold boundK at h
 split at h
 ·exact ⟨d,h,fun _ _ _ _ _ _=>.inl ⟨rfl,rfl⟩⟩
 ·rename_i y
  obtain ⟨v,h,hs⟩:=evS_spec h
  split at h
  ·rename_i k i
   obtain ⟨n,hn,hR⟩:=h
   refine ⟨n,hR,fun Lw ρ H eval hg hy=>.inr ⟨y,k,rfl,?_⟩⟩
   rw [rep_int (hs ρ H _ hg (hy y (by simp))),gI_on hn hg]
  ·exact h.elim
theorem run_bounds {isSlice:Bool} {len cap:Nat} {lo hi:Option Operand} {eval:Operand → Value} {a h:Nat} (hlo:(lo = none ∧ a = 0) ∨ ∃ y k,lo = some y ∧ eval y = .int k a)
  (hhi:(hi = none ∧ h = len) ∨ ∃ y k,hi = some y ∧ eval y = .int k h) (h1:a ≤ h) (h2:h ≤ cap) :
  (Instr.sliceBounds isSlice len cap (lo.map eval) (hi.map eval) none).run P w = .ok (a,h,cap) w:=by
 rcases hlo with ⟨rfl,rfl⟩ | ⟨y,k,rfl,hy⟩ <;> rcases hhi with ⟨rfl,rfl⟩ | ⟨y',k',rfl,hy'⟩ <;>
  simp [Instr.sliceBounds,Instr.sliceBound,asIntOf, *,Int.toNat_natCast]
theorem kSlice_spec {E:Env} {g:G} {t:TypeId} {x:FV} {lo hi mx:Option Operand} {R:FV → Prop} (h:kSlice P E g t x lo hi mx R) :
  ∃ fv,R fv ∧ (∀ ⦃Lw:Nat⦄ (ρ:List Value) (H:(PH Lw)) (w:World) (eval:Operand → Value) (v:Value),gOn g → RepF ρ H x v → (∀ y ∈ lo.toArray,RepF ρ H (evF (lookD E) y) (eval y)) → (∀ y ∈ hi.toArray,RepF ρ H (evF (lookD E) y) (eval y)) → (∀ y ∈ mx.toArray,RepF ρ H (evF (lookD E) y) (eval y)) →
   ∃ u,(Instr.sliceAt t v (lo.map eval) (hi.map eval) (mx.map eval)).run P w = .ok u w ∧ RepF ρ H fv u):=by
 have rowsCase:∀ (e:TypeId) (i:TypeInfo) (rows:List (List PV)) (a h:Nat),P.underlying t = some (.slice e) → P.info? e = some i → (a ≤ h ∧ h ≤ rows.length ∧ ∀ r ∈ rows,r.length = i.size) →
   ∀ ⦃Lw:Nat⦄ (H:(PH Lw)) (w:World) (eval:Operand → Value) (v:Value),RepP H (.sl rows) v → ((lo = none ∧ a = 0) ∨ ∃ y k,lo = some y ∧ eval y = .int k a) → ((hi = none ∧ h = rows.length) ∨ ∃ y k,hi = some y ∧ eval y = .int k h) →
   ∃ u,(Instr.sliceAt t v (lo.map eval) (hi.map eval) none).run P w = .ok u w ∧ RepP H (.sl ((rows.take h).drop a)) u:=by
  intro e i rows a h hu hi hah Lw H w eval v rv hlo hhi
  obtain ⟨h1,h2,h3⟩:=hah
  simp only [RepP] at rv ⊢
  rcases rv with ⟨rfl,rfl | ⟨a',cap',rfl⟩⟩ | ⟨b,o,z,cap,rfl,hc,rr⟩
  rotate_left
  ·have h0:h = 0:=by simpa using h2
   subst h0
   have ha:a = 0:=by omega
   subst ha
   have:=run_bounds (P:=P) (w:=w) (isSlice:=true) (len:=0) (cap:=cap') hlo (by simpa using hhi) (Nat.le_refl 0) (Nat.zero_le _)
   by_cases hcap:cap' = 0
   ·subst hcap
    refine ⟨.slice (some a') 0 0,?_,.inl ⟨by simp,.inr ⟨_,_,rfl⟩⟩⟩
    simp [Instr.sliceAt,Instr.slice,run_underlying hu,this,Go.sizeOf,typeInfo,hi]
   ·refine ⟨.slice (some (a'.add 0)) 0 cap',?_,.inl ⟨by simp,.inr ⟨_,_,rfl⟩⟩⟩
    simp [Instr.sliceAt,Instr.slice,run_underlying hu,this,Go.sizeOf,typeInfo,hi,hcap]
  rotate_right
  ·have h0:h = 0:=by simpa using h2
   subst h0
   have ha:a = 0:=by omega
   subst ha
   have:=run_bounds (P:=P) (w:=w) (isSlice:=true) (len:=0) (cap:=0) hlo (by simpa using hhi) (Nat.le_refl 0) (Nat.le_refl 0)
   refine ⟨.slice none 0 0,?_,.inl ⟨by simp,.inl rfl⟩⟩
   simp [Instr.sliceAt,Instr.slice,run_underlying hu,this,Go.sizeOf,typeInfo,hi]
  ·have:=run_bounds (P:=P) (w:=w) (isSlice:=true) (len:=rows.length) (cap:=cap) hlo hhi h1 (by omega)
   have hlen:((rows.take h).drop a).length = h - a:=by simp; omega
   by_cases hcap:cap = a
   ·have hha:h = a:=by omega
    subst hha
    refine ⟨.slice (some ⟨b,o,none⟩) 0 0,?_,.inr ⟨b,o,z,0,?_,?_,?_⟩⟩
    ·subst hcap
     simp [Instr.sliceAt,Instr.slice,run_underlying hu,this,Go.sizeOf,typeInfo,hi]
    ·rw [hlen]; simp
    ·rw [hlen]; simp
    ·have e0:(rows.take h).drop h = []:=by
      apply List.eq_nil_of_length_eq_zero
      rw [hlen]
      omega
     rw [e0]
     simp [RepR]
   ·refine ⟨.slice (some ⟨b,o + a * i.size,none⟩) (h - a) (cap - a),?_,.inr ⟨b,o + a * i.size,z,cap - a,by rw [hlen],by rw [hlen]; omega,?_⟩⟩
    ·simp [Instr.sliceAt,Instr.slice,run_underlying hu,this,Go.sizeOf,typeInfo,hi,hcap,Addr.add_lit]
    ·have hz:rows = [] ∨ z = i.size:=by
      cases rows with
      | nil=>exact .inl rfl
      | cons r rs =>
       simp only [RepR] at rr
       exact .inr (by rw [← rr.1]; exact h3 r (by simp))
     rcases hz with hz | hz
     ·subst hz; simp [RepR]
     ·rw [← hz]; exact (rr.take h).drop a
 unfold kSlice at h
 split at h
 ·rename_i m
  have cutCase:∀ (rows:List (List PV)),kCut P E g t rows hi m R → ∃ fv,R fv ∧ (∀ ⦃Lw:Nat⦄ (ρ:List Value) (H:(PH Lw)) (w:World) (eval:Operand → Value) (v:Value),gOn g → RepP H (.sl rows) v → (∀ y ∈ hi.toArray,RepF ρ H (evF (lookD E) y) (eval y)) → (∀ y ∈ (some m).toArray,RepF ρ H (evF (lookD E) y) (eval y)) →
    ∃ u,(Instr.sliceAt t v none (hi.map eval) (some (eval m))).run P w = .ok u w ∧ RepF ρ H fv u):=by
   intro rows h
   unfold kCut at h
   split at h
   ·rename_i e hu
    split at h
    ·rename_i i hif
     obtain ⟨yh,rfl⟩:∃ y,hi = some y:=by
      cases hi with
      | none=>exact h.elim
      | some y=>exact ⟨y,rfl⟩
     obtain ⟨hh,h,hb1⟩:=boundK_spec h
     obtain ⟨cc,h,hb2⟩:=boundK_spec h
     refine ⟨_,h.2,fun Lw ρ H w eval v hg rv hhi hmx=>?_⟩
     obtain ⟨rfl,h2,h3⟩:=gI_on h.1 hg
     have em:∃ k,eval m = .int k hh:=by
      rcases hb2 ρ H eval hg hmx with ⟨e,_⟩ | ⟨y,k,e,e2⟩
      ·cases e
      ·cases e; exact ⟨k,e2⟩
     obtain ⟨km,em⟩:=em
     have bd:∀ cap:Nat,rows.length ≤ cap → (Instr.sliceBounds true rows.length cap none (some (eval yh)) (some (eval m))).run P w = .ok (0,hh,hh) w:=by
      intro cap hc
      rcases hb1 ρ H eval hg hhi with ⟨e,e2⟩ | ⟨y,k,e,e2⟩
      ·cases e
      ·cases e
       simp [Instr.sliceBounds,Instr.sliceBound,asIntOf,em,e2,Int.toNat_natCast,Nat.le_trans h2 hc]
     simp only [RepF]
     have rv0:=rv
     simp only [RepP] at rv
     rcases rv with ⟨rfl,rfl | ⟨a',cap',rfl⟩⟩ | ⟨b,o,z,cap,rfl,hc,rr⟩
     ·have h0:hh = 0:=by simpa using h2
      subst h0
      have:=bd 0 (Nat.le_refl _)
      refine ⟨.slice none 0 0,?_,by simp [RepP],_,_,rfl⟩
      simp only [List.length_nil] at this
      simp [Instr.sliceAt,Instr.slice,run_underlying hu,this,Go.sizeOf,typeInfo,hif]
     ·have h0:hh = 0:=by simpa using h2
      subst h0
      have:=bd cap' (Nat.zero_le _)
      simp only [List.length_nil] at this
      refine ⟨.slice (some a') 0 0,?_,by simp [RepP],_,_,rfl⟩
      simp [Instr.sliceAt,Instr.slice,run_underlying hu,this,Go.sizeOf,typeInfo,hif]
     ·have:=bd cap hc
      have hlen:(rows.take hh).length = hh:=by rw [List.length_take]; omega
      refine ⟨.slice (some ⟨b,o,none⟩) hh hh,?_,by simp only [RepP]; exact .inr ⟨b,o,z,hh,by rw [hlen],by rw [hlen]; exact Nat.le_refl _,rr.take hh⟩,_,_,rfl⟩
      by_cases h0:hh = 0
      ·subst h0
       simp [Instr.sliceAt,Instr.slice,run_underlying hu,this,Go.sizeOf,typeInfo,hif]
      ·simp [Instr.sliceAt,Instr.slice,run_underlying hu,this,Go.sizeOf,typeInfo,hif,h0,Addr.add_lit]
    ·exact h.elim
   ·exact h.elim
  split at h
  ·split at h
   ·obtain ⟨fv,h,hs⟩:=cutCase _ h
    exact ⟨fv,h,fun Lw ρ H w eval v hg rv _ hhi hmx=>hs ρ H w eval v hg rv hhi hmx⟩
   ·obtain ⟨fv,h,hs⟩:=cutCase _ h
    refine ⟨fv,h,fun Lw ρ H w eval v hg rv _ hhi hmx=>hs ρ H w eval v hg ?_ hhi hmx⟩
    simp only [RepF,RepP] at rv ⊢
    exact .inl ⟨trivial,.inl rv⟩
   ·obtain ⟨fv,h,hs⟩:=cutCase _ h
    exact ⟨fv,h,fun Lw ρ H w eval v hg rv _ hhi hmx=>hs ρ H w eval v hg rv.2 hhi hmx⟩
   ·exact h.elim
  ·exact h.elim
 ·split at h
  ·rename_i l
   split at h
   ·rename_i hu
    obtain ⟨hh,h,hb1⟩:=boundK_spec h
    obtain ⟨aa,h,hb2⟩:=boundK_spec h
    refine ⟨_,h.2,fun Lw ρ H w eval v hg rv hlo hhi _=>?_⟩
    obtain ⟨h1,h2⟩:=gI_on h.1 hg
    rw [rep_str rv]
    have:=run_bounds (P:=P) (w:=w) (isSlice:=false) (len:=l.length) (cap:=l.length) (hb2 ρ H eval hg hlo) (hb1 ρ H eval hg hhi) h1 h2
    refine ⟨.string ⟨((l.take hh).drop aa).toArray⟩,?_,str_rep⟩
    simp [Instr.sliceAt,Instr.slice,run_underlying hu,size_lit,this,ByteArray.extract_mk,List.drop_take]
   ·exact h.elim
  ·rename_i rows
   split at h
   ·rename_i e hu
    split at h
    ·rename_i i hi
     obtain ⟨hh,h,hb1⟩:=boundK_spec h
     obtain ⟨aa,h,hb2⟩:=boundK_spec h
     refine ⟨_,h.2,fun Lw ρ H w eval v hg rv hlo hhi _=>?_⟩
     exact rowsCase e i rows aa hh hu hi (gI_on h.1 hg) H w eval v rv (hb2 ρ H eval hg hlo) (hb1 ρ H eval hg hhi)
    ·exact h.elim
   ·exact h.elim
  ·rename_i k rows
   split at h
   ·rename_i e hu
    split at h
    ·rename_i i hi
     obtain ⟨hh,h,hb1⟩:=boundK_spec h
     obtain ⟨aa,h,hb2⟩:=boundK_spec h
     refine ⟨_,h.2,fun Lw ρ H w eval v hg rv hlo hhi _=>?_⟩
     exact rowsCase e i rows aa hh hu hi (gI_on h.1 hg) H w eval v rv.2 (hb2 ρ H eval hg hlo) (hb1 ρ H eval hg hhi)
    ·exact h.elim
   ·exact h.elim
  ·rename_i k off
   split at h
   ·rename_i n e hu
    split at h
    ·rename_i i hi
     split at h
     ·rename_i hz
      have hz:i.size = 1:=Nat.eq_of_beq_eq_true hz
      obtain ⟨hh,h,hb1⟩:=boundK_spec h
      obtain ⟨aa,h,hb2⟩:=boundK_spec h
      refine ⟨_,h.2,fun Lw ρ H w eval v hg rv hlo hhi _=>?_⟩
      obtain ⟨h1,h2,h3⟩:=gI_on h.1 hg
      obtain ⟨b,hr,rfl⟩:=rv
      have:=run_bounds (P:=P) (w:=w) (isSlice:=false) (len:=n) (cap:=n) (hb2 ρ H eval hg hlo) (hb1 ρ H eval hg hhi) h1 h2
      have hcap:¬ n = aa:=by omega
      refine ⟨.slice (some ⟨b,off + aa,none⟩) (hh - aa) (n - aa),?_,b,hr,_,rfl,.inr rfl⟩
      simp [Instr.sliceAt,Instr.sureAddr,run_underlying hu,this,Go.sizeOf,typeInfo,hi,hz,hcap,Addr.add_lit]
     ·exact h.elim
    ·exact h.elim
   ·exact h.elim
  ·rename_i k z
   split at h
   ·rename_i n e hu
    split at h
    ·rename_i i hi
     split at h
     ·rename_i hz
      have hz:i.size = 1:=Nat.eq_of_beq_eq_true hz
      obtain ⟨hh,h,hb1⟩:=boundK_spec h
      obtain ⟨aa,h,hb2⟩:=boundK_spec h
      refine ⟨_,h.2,fun Lw ρ H w eval v hg rv hlo hhi _=>?_⟩
      obtain ⟨rfl,h1,h2,h3⟩:=gI_on h.1 hg
      obtain ⟨b,n',cap',hr,rfl⟩:=rv
      have:=run_bounds (P:=P) (w:=w) (isSlice:=false) (len:=n) (cap:=n) (hb2 ρ H eval hg hlo) (hb1 ρ H eval hg hhi) h1 h2
      have hcap:¬ n = aa:=by omega
      refine ⟨.slice (some ⟨b,aa,none⟩) (hh - aa) (n - aa),?_,b,n',cap',_,hr,rfl⟩
      simp [Instr.sliceAt,Instr.sureAddr,run_underlying hu,this,Go.sizeOf,typeInfo,hi,hz,hcap,Addr.add_lit]
     ·exact h.elim
    ·exact h.elim
   ·exact h.elim
  ·exact h.elim
theorem cells_of_row {w:World} {b:Nat} {vs:List Value} {t:TypeId} {fr:Nat × Nat} (hg:w.heap[b]? = some (.cells vs.toArray t fr)) (off:Nat) :
  ∀ j v,(vs.drop off)[j]? = some v → w.cell? ⟨b,off + j,none⟩ = some v:=fun j v hv=>by
 rw [cell_of_row w b (off + j) _ t fr hg]
 rw [List.getElem?_drop] at hv
 simpa using hv
end
end Ax
end
section
namespace Ax
open Go
variable {Lw:Nat}
section
variable {P:Program}
theorem fold_set (off:Nat):∀ (l:List Value) (k:Nat) (cs:Array Value),off + k + l.length ≤ cs.size →
  ((l.zipIdx k).foldl (fun (cs:Array Value) (x:Value × Nat)=>cs.setIfInBounds (off + x.2) x.1) cs).toList = cs.toList.take (off + k) ++ l ++ cs.toList.drop (off + k + l.length)
 | [],k,cs,_=>by simp
 | c :: l,k,cs,h=>by
  simp only [List.length_cons] at h
  rw [List.zipIdx_cons,List.foldl_cons,fold_set off l (k + 1) _ (by simp; omega)]
  simp only [Array.toList_setIfInBounds,List.length_cons]
  have e:off + (k + 1) = off + k + 1:=by omega
  rw [e,List.take_add_one,List.getElem?_set_self (by simpa using (by omega:off + k < cs.size)),List.take_set_of_le (Nat.le_refl _),List.drop_set_of_lt (by omega)]
  have e2:off + k + 1 + l.length = off + k + (l.length + 1):=by omega
  rw [e2]
  simp
theorem fill_one (off:Nat) (v:Value) (cs:Array Value) (h:off + v.cells.size ≤ cs.size) :
  (v.cells.zipIdx.foldl (fun (cs:Array Value) (x:Value × Nat)=>cs.setIfInBounds (off + x.2) x.1) cs).toList = cs.toList.take off ++ v.cells.toList ++ cs.toList.drop (off + v.cells.size):=by
 rw [← Array.foldl_toList,Array.toList_zipIdx]
 have:=fold_set off v.cells.toList 0 cs (by simpa using h)
 simpa using this
theorem oneF_cells {ρ:List Value} {H:(PH Lw)} {f:FV} {x:Value} (h:oneF f = true) (r:RepF ρ H f x):x.cells = #[x] ∧ x.oneCell' = true:=by
 cases f with
 | p p =>
  cases p <;> simp [oneF] at h <;> simp only [RepF,RepP] at r
  case sl rows =>
   rcases r with ⟨_,rfl | ⟨_,_,rfl⟩⟩ | ⟨b,o,z,cap,rfl,_⟩ <;> exact ⟨rfl,rfl⟩
  case nsl rows =>
   rcases r with ⟨_,rfl | ⟨_,_,rfl⟩⟩ | ⟨b,o,z,cap,rfl,_⟩ <;> exact ⟨rfl,rfl⟩
  case ifc t p =>
   obtain ⟨u,rfl,_⟩:=r
   exact ⟨rfl,rfl⟩
  case hp row=>obtain ⟨b,o,vs,rfl,_⟩:=r; exact ⟨rfl,rfl⟩
  case clo f cs=>obtain ⟨vs,rfl,_⟩:=r; exact ⟨rfl,rfl⟩
  case bfn f cs=>obtain ⟨vs,rfl,_⟩:=r; exact ⟨rfl,rfl⟩
  case ifo n t p=>rcases r with ⟨_,rfl⟩ | ⟨_,u,rfl,_⟩ <;> exact ⟨rfl,rfl⟩
  all_goals (subst r; exact ⟨rfl,rfl⟩)
 | top=>simp [oneF] at h
 | opt g v=>simp [oneF] at h
 | tsl k rows =>
  have:=r.2
  simp only [RepP] at this
  rcases this with ⟨_,rfl | ⟨_,_,rfl⟩⟩ | ⟨b,o,z,cap,rfl,_⟩ <;> exact ⟨rfl,rfl⟩
 | ptr k off =>
  obtain ⟨b,_,rfl⟩:=r
  exact ⟨rfl,rfl⟩
 | hptr row =>
  obtain ⟨b,o,vs,rfl,_⟩:=r
  exact ⟨rfl,rfl⟩
 | bself k =>
  obtain ⟨b,_,rfl | rfl⟩:=r <;> exact ⟨rfl,rfl⟩
 | bsl k off len cap =>
  obtain ⟨b,_,c,rfl,_⟩:=r
  exact ⟨rfl,rfl⟩
 | vsl k n =>
  obtain ⟨_,⟨_,rfl⟩ | ⟨b,cap,rfl⟩⟩:=r <;> exact ⟨rfl,rfl⟩
 | eptr k z i off =>
  obtain ⟨b,n,cap,_,rfl⟩:=r
  exact ⟨rfl,rfl⟩
 | mref k =>
  obtain ⟨b,_,rfl⟩:=r
  exact ⟨rfl,rfl⟩
 | pair a b=>simp [oneF] at h
 | stmp k=>simp [oneF] at h
 | cap0=>simp [oneF] at h
 | cap a b=>simp [oneF] at h
 | fagg c=>simp [oneF] at h
 | nxt ok a b=>simp [oneF] at h
 | cut rows =>
  obtain ⟨_,p,n,rfl⟩:=r
  simp [Value.cells,Value.oneCell']
 | ifs t c =>
  obtain ⟨u,rfl,_⟩:=r
  exact ⟨rfl,rfl⟩
 | asl k off n =>
  obtain ⟨b,_,_,_,_,rfl⟩:=r
  exact ⟨rfl,rfl⟩
 | clo f c =>
  obtain ⟨vs,rfl,_⟩:=r
  exact ⟨rfl,rfl⟩
theorem mapP_spec:∀ {cs:List PV} {R:List FV → Prop},mapP cs R → R (cs.map .p)
 | [],R,h=>h
 | c :: cs,R,h=>by simpa using mapP_spec (cs:=cs) (R:=fun l=>R (.p c :: l)) h
theorem overK_spec:∀ {off:Nat} {vs old:List FV} {R:List FV → Prop},overK off vs old R → R (old.take off ++ vs ++ old.drop (off + vs.length)) ∧ off + vs.length ≤ old.length
 | 0,[],old,R,h=>by simpa [overK] using h
 | 0,v :: vs,[],R,h=>by simp [overK] at h
 | 0,v :: vs,a :: old,R,h=>by
  simp only [overK] at h
  have:=overK_spec (off:=0) h
  simpa using this
 | off + 1,vs,[],R,h=>by cases vs <;> simp [overK] at h
 | off + 1,vs,a :: old,R,h=>by
  have h':overK off vs old fun l=>R (a :: l):=by cases vs <;> simpa [overK] using h
  have:=overK_spec h'
  have e:off + 1 + vs.length = (off + vs.length) + 1:=by omega
  rw [e]
  simpa using this
theorem RepFL.append {ρ:List Value} {H:(PH Lw)}:∀ {cs ds:List FV} {vs us:List Value},RepFL ρ H cs vs → RepFL ρ H ds us → RepFL ρ H (cs ++ ds) (vs ++ us)
 | [],_,vs,_,x,y=>by simp only [RepFL] at x; simpa [x] using y
 | c :: cs,ds,vs,us,x,y=>by
  obtain ⟨v,vs',rfl,r,rs⟩:=x
  exact ⟨v,_,rfl,r,rs.append y⟩
theorem overP_spec:∀ {off:Nat} {vs old:List PV} {R:List PV → Prop},overP off vs old R → R (old.take off ++ vs ++ old.drop (off + vs.length)) ∧ off + vs.length ≤ old.length
 | 0,[],old,R,h=>by simpa [overP] using h
 | 0,v :: vs,[],R,h=>by simp [overP] at h
 | 0,v :: vs,a :: old,R,h=>by
  simp only [overP] at h
  have:=overP_spec (off:=0) h
  simpa using this
 | off + 1,vs,[],R,h=>by cases vs <;> simp [overP] at h
 | off + 1,vs,a :: old,R,h=>by
  have h':overP off vs old fun l=>R (a :: l):=by cases vs <;> simpa [overP] using h
  have:=overP_spec h'
  have e:off + 1 + vs.length = (off + vs.length) + 1:=by omega
  rw [e]
  simpa using this
theorem cellsP_spec {p:PV} {R:List PV → Prop} (h:cellsP p R):∃ c,R c ∧ ∀ ⦃Lw:Nat⦄ (H:(PH Lw)) (x:Value),RepP H p x → RepL H c x.cells.toList:=by
 unfold cellsP at h
 split at h
 ·rename_i cs
  refine ⟨cs,h,fun Lw H x r=>?_⟩
  simp only [RepP] at r
  obtain ⟨vs,rfl,q⟩:=r
  simpa [Value.cells] using q
 ·exact h.elim
 ·rename_i h1 h2
  refine ⟨[p],h,fun Lw H x r=>?_⟩
  have hc:x.cells = #[x]:=by
   cases p <;> simp only [RepP] at r
   case agg cs=>exact absurd rfl (h1 cs)
   case tup cs=>exact absurd rfl (h2 cs)
   case sl rows=>rcases r with ⟨_,rfl | ⟨_,_,rfl⟩⟩ | ⟨_,_,_,_,rfl,_⟩ <;> rfl
   case nsl rows=>rcases r with ⟨_,rfl | ⟨_,_,rfl⟩⟩ | ⟨_,_,_,_,rfl,_⟩ <;> rfl
   case ifc t p=>obtain ⟨_,rfl,_⟩:=r; rfl
   case hp row=>obtain ⟨b,o,vs,rfl,_⟩:=r; rfl
   case clo f cs=>obtain ⟨vs,rfl,_⟩:=r; rfl
   case bfn f cs=>obtain ⟨vs,rfl,_⟩:=r; rfl
   case ifo n t p=>rcases r with ⟨_,rfl⟩ | ⟨_,u,rfl,_⟩ <;> rfl
   all_goals (subst r; rfl)
  rw [hc]
  simp only [RepL]
  exact ⟨x,[],rfl,r,rfl⟩
theorem oneP_cell {H:(PH Lw)} {p:PV} {x:Value} (h:oneP p = true) (r:RepP H p x):x.oneCell' = true ∧ x.cells = #[x]:=by
 cases p <;> simp only [RepP] at r
 case agg cs=>simp [oneP] at h
 case tup cs=>simp [oneP] at h
 case sl rows=>rcases r with ⟨_,rfl | ⟨_,_,rfl⟩⟩ | ⟨_,_,_,_,rfl,_⟩ <;> exact ⟨rfl,rfl⟩
 case nsl rows=>rcases r with ⟨_,rfl | ⟨_,_,rfl⟩⟩ | ⟨_,_,_,_,rfl,_⟩ <;> exact ⟨rfl,rfl⟩
 case ifc t p=>obtain ⟨_,rfl,_⟩:=r; exact ⟨rfl,rfl⟩
 case hp row=>obtain ⟨b,o,vs,rfl,_⟩:=r; exact ⟨rfl,rfl⟩
 case clo f cs=>obtain ⟨vs,rfl,_⟩:=r; exact ⟨rfl,rfl⟩
 case bfn f cs=>obtain ⟨vs,rfl,_⟩:=r; exact ⟨rfl,rfl⟩
 case ifo n t p=>rcases r with ⟨_,rfl⟩ | ⟨_,u,rfl,_⟩ <;> exact ⟨rfl,rfl⟩
 all_goals (subst r; exact ⟨rfl,rfl⟩)
theorem RepL.one {H:(PH Lw)}:∀ {cs:List PV} {vs:List Value},(∀ c ∈ cs,oneP c = true) → RepL H cs vs → ∀ u ∈ vs,u.oneCell' = true
 | [],vs,_,r,u,hu=>by simp only [RepL] at r; simp [r] at hu
 | c :: cs,vs,h,r,u,hu=>by
  simp only [RepL] at r
  obtain ⟨v,vs',rfl,r1,rs⟩:=r
  rcases List.mem_cons.1 hu with rfl | hu
  ·exact (oneP_cell (h c (by simp)) r1).1
  ·exact RepL.one (fun c hc=>h c (by simp [hc])) rs u hu
theorem ofVs_spec:∀ {vs:List Value} {R:List PV → Prop},ofVs vs R → ∃ ps,R ps ∧ ∀ ⦃Lw:Nat⦄ (H:PH Lw),RepL H ps vs
 | [],R,h=>⟨[],h,fun Lw H=>by simp [RepL]⟩
 | v :: vs,R,h=>by
  simp only [ofVs] at h
  split at h
  ·rename_i p hp
   obtain ⟨ps,hr,hs⟩:=ofVs_spec h
   refine ⟨p :: ps,hr,fun Lw H=>?_⟩
   simp only [RepL]
   exact ⟨v,vs,rfl,ofV1_spec hp H,hs H⟩
  ·exact h.elim
theorem fillK_spec {E:Env} {g:G} {fs:List Field}:∀ {parts:List (Nat × Operand)} {cs:List PV} {R:List PV → Prop},fillK P E g fs parts cs R →
  ∃ cs',R cs' ∧ (gOn g → ∀ ⦃Lw:Nat⦄ (ρ:List Value) (H:(PH Lw)) (w:World) (eval:Operand → Value) (places:Array (Nat × Nat)) (cells:Array Value),(∀ x ∈ parts.map (·.2),RepF ρ H (evF (lookD E) x) (eval x)) →
   (∀ (i:Nat) (f:Field),fs[i]? = some f → ∀ ti,P.info? f.type = some ti → places[i]? = some (f.offset,ti.size)) → RepL H cs cells.toList →
   ∃ cells',Instr.fill (places[·]?) cells (parts.map fun (i,x)=>(i,eval x)) = some cells' ∧ RepL H cs' cells'.toList)
 | [],cs,R,h=>⟨cs,h,fun _ Lw ρ H w eval places cells _ _ r=>⟨cells,rfl,r⟩⟩
 | (i,x) :: l,cs,R,h=>by
  simp only [fillK] at h
  obtain ⟨f,hf,h⟩:=nthK_spec h
  split at h
  ·rename_i ti hti
   obtain ⟨v,h,hv⟩:=evS_spec h
   obtain ⟨p,h,hp⟩:=frzK_spec h
   obtain ⟨c,h,hc⟩:=cellsP_spec h
   split at h
   ·rename_i hsz
    have hsz:c.length = ti.size:=Nat.eq_of_beq_eq_true hsz
    obtain ⟨h,hlen⟩:=overP_spec h
    obtain ⟨cs',h,hs⟩:=fillK_spec h
    refine ⟨cs',h,fun hg Lw ρ H w eval places cells hx hpl r=>?_⟩
    have rc:=hc H _ (hp _ _ _ (hv ρ H _ hg (hx x (by simp))))
    have hvs:(eval x).cells.size = ti.size:=by have:=rc.length; simp at this; omega
    have hcl:=r.length
    simp at hcl
    have hle:f.offset + (eval x).cells.size ≤ cells.size:=by omega
    have h1:=fill_one f.offset (eval x) cells hle
    obtain ⟨cells',e',r'⟩:=hs hg ρ H w eval places ((eval x).cells.zipIdx.foldl (fun (cs:Array Value) (x:Value × Nat)=>cs.setIfInBounds (f.offset + x.2) x.1) cells) (fun y hy=>hx y (by simp at hy ⊢; exact .inr hy)) hpl (by
     rw [h1,hvs,← hsz]
     exact ((r.take _).append rc).append (r.drop _))
    refine ⟨cells',?_,r'⟩
    simp only [List.map_cons,Instr.fill,hpl i f hf ti hti]
    rw [if_neg (by simp [hvs]; omega)]
    exact e'
   ·exact h.elim
  ·exact h.elim
theorem partsK_spec {E:Env} {g:G}:∀ {parts:List (Nat × Operand)} {k:Nat} {R:List PV → Prop},partsK E g k parts R →
  ∃ ps,R ps ∧ ps.length = parts.length ∧ (gOn g → ∀ ⦃Lw:Nat⦄ (ρ:List Value) (H:(PH Lw)) (eval:Operand → Value),(∀ x ∈ parts.map (·.2),RepF ρ H (evF (lookD E) x) (eval x)) →
   ∃ vals,(parts.map fun (i,x)=>(i,eval x)) = (vals.zipIdx k).map (fun (v,i)=>(i,v)) ∧ RepL H ps vals)
 | [],k,R,h=>⟨[],h,rfl,fun _ Lw ρ H eval _=>⟨[],rfl,by simp [RepL]⟩⟩
 | (i,x) :: l,k,R,h=>by
  simp only [partsK] at h
  split at h
  ·rename_i hi
   have hi:i = k:=Nat.eq_of_beq_eq_true hi
   subst hi
   obtain ⟨v,h,hv⟩:=evS_spec h
   obtain ⟨p,h,hp⟩:=frzK_spec h
   obtain ⟨ps,h,hl,hs⟩:=partsK_spec h
   refine ⟨p :: ps,h,by simp [hl],fun hg Lw ρ H eval hx=>?_⟩
   obtain ⟨vals,e,r⟩:=hs hg ρ H eval (fun y hy=>hx y (by simp at hy ⊢; exact .inr hy))
   refine ⟨eval x :: vals,?_,?_⟩
   ·simp only [List.map_cons,List.zipIdx_cons,e]
   ·simp only [RepL]
    exact ⟨_,_,rfl,hp _ _ _ (hv ρ H _ hg (hx x (by simp))),r⟩
  ·exact h.elim
theorem fill_rows (size:Nat) (n:Nat) (pl:Nat → Option (Nat × Nat)) (hpl:∀ i,i < n → pl i = some (i * size,size)):∀ (vals:List Value) (k:Nat) (cells:Array Value),(∀ v ∈ vals,v.cells.size = size) → k + vals.length = n → n * size = cells.size →
  ∃ cells',Instr.fill pl cells ((vals.zipIdx k).map fun (v,i)=>(i,v)) = some cells' ∧ cells'.toList = cells.toList.take (k * size) ++ vals.flatMap (·.cells.toList)
 | [],k,cells,_,hn,hc=>by
  refine ⟨cells,rfl,?_⟩
  simp at hn
  subst hn
  rw [List.take_of_length_le (by simp; omega)]
  simp
 | v :: vals,k,cells,hv,hn,hc=>by
  have h1:=hv v (by simp)
  simp only [List.length_cons] at hn
  have hkn:(k + 1) * size ≤ n * size:=Nat.mul_le_mul_right _ (by omega)
  have hle:k * size + v.cells.size ≤ cells.size:=by rw [h1,← hc]; rw [Nat.add_mul,Nat.one_mul] at hkn; exact hkn
  have hf:=fill_one (k * size) v cells hle
  have hsz:(v.cells.zipIdx.foldl (fun (cs:Array Value) (x:Value × Nat)=>cs.setIfInBounds (k * size + x.2) x.1) cells).size = cells.size:=by
   rw [← Array.length_toList,hf]
   simp
   omega
  obtain ⟨cells',e,h⟩:=fill_rows size n pl hpl vals (k + 1) _ (fun u hu=>hv u (by simp [hu])) (by omega) (by rw [hsz]; exact hc)
  refine ⟨cells',?_,?_⟩
  ·simp only [List.zipIdx_cons,List.map_cons,Instr.fill,hpl k (by omega)]
   rw [if_neg (by simp [h1]; omega)]
   exact e
  ·rw [h,hf]
   have e1:(k + 1) * size = k * size + v.cells.size:=by rw [h1,Nat.add_mul,Nat.one_mul]
   rw [e1,List.flatMap_cons,← List.append_assoc]
   congr 1
   rw [List.append_assoc,List.take_append,List.take_append]
   simp only [List.length_take,Array.length_toList]
   have:min (k * size) cells.size = k * size:=Nat.min_eq_left (by omega)
   rw [this,List.take_of_length_le (l:=List.take (k * size) cells.toList) (by simp; omega)]
   simp
   exact List.take_of_length_le (by simp)
theorem rowsK_spec:∀ {ps:List PV} {R:List (List PV) → Prop},rowsK ps R → ∃ rows,R rows ∧ rows.length = ps.length ∧ ∀ ⦃Lw:Nat⦄ (H:(PH Lw)) (vals:List Value),RepL H ps vals →
  (∀ (i:Nat) (r:List PV) (v:Value),rows[i]? = some r → vals[i]? = some v → RepL H r v.cells.toList)
 | [],R,h=>⟨[],h,rfl,fun Lw H vals r i r' v hr=>by simp at hr⟩
 | p :: ps,R,h=>by
  simp only [rowsK] at h
  obtain ⟨c,h,hc⟩:=cellsP_spec h
  obtain ⟨rows,h,hl,hs⟩:=rowsK_spec h
  refine ⟨c :: rows,h,by simp [hl],fun Lw H vals r i r' v hr hv=>?_⟩
  simp only [RepL] at r
  obtain ⟨x,vs',rfl,rx,rs⟩:=r
  cases i with
  | zero=>simp at hr hv; subst hr; subst hv; exact hc H x rx
  | succ i=>exact hs H vs' rs i r' v (by simpa using hr) (by simpa using hv)
theorem calm_row {H:(PH Lw)} {w:World} (s:SatH H w) (e:TypeId) (ys:List Value) (h1:∀ u ∈ ys,u.oneCell' = true) :
  Calm H w (fun b o=>if b = w.heap.size then ys[o]? else H b o) (w.alloc (.cells ys.toArray e)):=by
 have hlt:∀ b o v,H b o = some v → b ≠ w.heap.size:=fun b o v hv e=>by
  have:=s.lt hv; omega
 refine ⟨fun b o v hv=>?_,⟨fun b o v hv=>?_,s.root.mono (fun b o v hv=>by rw [if_neg (hlt b o v hv)]; exact hv),by have:=s.low; simp; omega,fun b o v hv hb=>by
  split at hv
  ·rename_i e1; subst e1; exact .of (heap_alloc_new w _)
  ·exact (s.nf b o v hv hb).block (heap_alloc_old w _ (s.lt hv))⟩,⟨rfl,rfl,rfl,by simp,fun k hk _=>Go.RowKit.Below.heap_alloc w _ k hk⟩,fun b o v hv=>?_⟩
 ·rw [if_neg (hlt b o v hv)]; exact hv
 ·split at hv
  ·rename_i hb
   subst hb
   refine ⟨?_,h1 v (List.mem_of_getElem? hv)⟩
   rw [World.cell?_alloc_new]
   simpa using hv
  ·obtain ⟨c,o1⟩:=s.cell b o v hv
   exact ⟨by rw [World.cell?_alloc_lt (h:=s.lt hv)]; exact c,o1⟩
 ·split at hv
  ·rename_i hb; exact .inr (by omega)
  ·exact .inl ⟨v,hv⟩
theorem rowsV {H:(PH Lw)} {z:Nat}:∀ {rows:List (List PV)} {vals:List Value},rows.length = vals.length → (∀ r ∈ rows,r.length = z) →
  (∀ (i:Nat) (r:List PV) (v:Value),rows[i]? = some r → vals[i]? = some v → RepL H r v.cells.toList) → ∀ {b o:Nat} {H':(PH Lw)},PH.le H H' →
  (∀ (j:Nat) (u:Value),(vals.flatMap (·.cells.toList))[j]? = some u → H' b (o + j) = some u) → RepR H' b z o rows
 | [],_,_,_,_,_,_,_,_,_=>by simp [RepR]
 | r :: rs,[],hl,_,_,_,_,_,_,_=>by simp at hl
 | r :: rs,v :: vals,hl,hz,hr,b,o,H',hle,hc=>by
  have h0:=hr 0 r v rfl rfl
  have hlen:=h0.length
  have hrz:=hz r (by simp)
  simp only [RepR]
  refine ⟨hrz,⟨v.cells.toList,RepL.mono hle h0,fun j u hu=>hc j u ?_⟩,rowsV (by simpa using hl) (fun r hr=>hz r (by simp [hr])) (fun i r' v' h1 h2=>hr (i + 1) r' v' (by simpa using h1) (by simpa using h2)) hle (fun j u hu=>?_)⟩
  ·rw [List.flatMap_cons,List.getElem?_append_left (List.getElem?_eq_some_iff.1 hu).1]; exact hu
  ·have:=hc (z + j) u (by rw [List.flatMap_cons,List.getElem?_append_right (by rw [hlen,hrz]; omega),hlen,hrz,Nat.add_sub_cancel_left]; exact hu)
   rwa [← Nat.add_assoc] at this
theorem kBuildSlice_spec {E:Env} {g:G} {t:TypeId} {n:Nat} {parts:List (Nat × Operand)} {R:FV → Prop} (h:kBuildSlice P E g t n parts R) :
  ∃ fv,R fv ∧ (gOn g → ∀ ⦃Lw:Nat⦄ (ρ:List Value) (H:(PH Lw)) (w:World) (eval:Operand → Value),SatH H w → (∀ x ∈ parts.map (·.2),RepF ρ H (evF (lookD E) x) (eval x)) →
   ∃ v w' H',(Instr.buildSlice t n (parts.map fun (i,x)=>(i,eval x)).toArray).run P w = .ok v w' ∧ Calm H w H' w' ∧ RepF ρ H' fv v):=by
 unfold kBuildSlice at h
 obtain ⟨e,i,hu,hi,h⟩:=elemK_spec h
 split at h
 ·rename_i hn
  have hn:parts.length = n:=Nat.eq_of_beq_eq_true hn
  split at h
  ·rename_i h1n
   split at h
   ·rename_i h1z
    split at h
    case h_2=>exact h.elim
    rename_i hbig
    split at h
    case h_2=>exact h.elim
    rename_i i' hi'
    have:i' = i:=Option.some.inj (hi'.symm.trans hi)
    subst this
    split at h
    case h_2=>exact h.elim
    rename_i zv hzv
    obtain ⟨ps,h,hpl,hps⟩:=partsK_spec h
    obtain ⟨rows,h,hrl,hrows⟩:=rowsK_spec h
    obtain ⟨hok,rows',hle,h⟩:=h
    refine ⟨_,h,fun hg Lw ρ H w eval s hx=>?_⟩
    obtain ⟨vals,ev,rv⟩:=hps hg ρ H eval hx
    have hcells:=hrows H vals rv
    have hvl:vals.length = n:=by rw [rv.length,hpl,hn]
    have hsz:∀ v ∈ vals,v.cells.size = i'.size:=by
     intro v hv
     obtain ⟨j,hj⟩:=List.getElem?_of_mem hv
     have hjl:=(List.getElem?_eq_some_iff.1 hj).1
     have hrj:j < rows.length:=by rw [hrl,hpl,hn,← hvl]; exact hjl
     have:=(hcells j _ v (List.getElem?_eq_getElem hrj) hj).length
     rw [(hok _ (List.getElem_mem hrj)).1] at this
     simpa using this
    obtain ⟨cells',ef,hc'⟩:=fill_rows i'.size n (fun i_1=>some (i_1 * i'.size,i'.size)) (fun j _=>rfl) vals 0 ((Array.range (n * i'.size)).map (zv.cells[· % zv.cells.size]!)) hsz (by omega) (by simp)
    simp only [Nat.zero_mul,List.take_zero,List.nil_append] at hc'
    have hone:∀ u ∈ cells'.toList,u.oneCell' = true:=by
     rw [hc']
     intro u hu'
     obtain ⟨v,hv,huv⟩:=List.mem_flatMap.1 hu'
     obtain ⟨j,hj⟩:=List.getElem?_of_mem hv
     have hjl:=(List.getElem?_eq_some_iff.1 hj).1
     have hrj:j < rows.length:=by rw [hrl,hpl,hn,← hvl]; exact hjl
     have h1:=hcells j _ v (List.getElem?_eq_getElem hrj) hj
     have h2:=(hok _ (List.getElem_mem hrj)).2
     exact RepL.one (fun c hc=>(List.all_eq_true.1 h2) c hc) h1 u huv
    have hcalm:=calm_row s e cells'.toList hone
    refine ⟨.slice (some ⟨w.heap.size,0,none⟩) n n,_,_,?_,hcalm,?_⟩
    ·have h0:n * i'.size ≠ 0:=by
      have a1:1 ≤ n:=Nat.le_of_ble_eq_true h1n
      have a2:1 ≤ i'.size:=Nat.le_of_ble_eq_true h1z
      exact Nat.mul_ne_zero (by omega) (by omega)
     have hb:¬ 16777216 < n * i'.size:=by
      have:=Nat.le_of_ble_eq_true hbig
      omega
     simp only [Instr.buildSlice,Sem.run_bind,run_underlying hu,Result.andThen_ok,Go.sizeOf,typeInfo,run_program,hi,Sem.run_pure]
     rw [show (2:Nat) ^ 24 = 16777216 from rfl]
     simp only [hb,if_false,gt_iff_lt,h0,Sem.run_bind,zeroValue,typeInfo,run_program,hi,hzv,Result.andThen_ok,Sem.run_pure]
     rw [ev,ef]
     simp [newRow]
    ·simp only [RepF]
     refine sl_le hle ?_
     simp only [RepP]
     refine .inr ⟨w.heap.size,0,i'.size,n,by rw [hrl,hpl,hn],by rw [hrl,hpl,hn]; exact Nat.le_refl _,?_⟩
     refine rowsV (by rw [hrl,hpl,hn,hvl]) (fun r hr=>(hok r hr).1) hcells hcalm.le (fun j u hu'=>?_)
     rw [Nat.zero_add,if_pos rfl,hc']
     exact hu'
   ·exact h.elim
  ·exact h.elim
 ·exact h.elim
theorem run_places {w:World}:∀ {fs:List Field},infosB P fs = true →
  (fs.mapM (m:=Sem) fun f=>do pure (f.offset,← Go.sizeOf f.type)).run P w = .ok (fs.map fun f=>(f.offset,sizeT P f.type)) w
 | [],_=>by simp
 | f :: fs,h=>by
  simp only [infosB] at h
  split at h
  ·rename_i i hi
   have:=run_places (w:=w) h
   have hsz:(Go.sizeOf f.type).run P w = .ok i.size w:=by simp [Go.sizeOf,typeInfo,hi]
   simp only [List.mapM_cons,Sem.run_bind,hsz,Result.andThen_ok,Sem.run_pure,List.map_cons,sizeT,hi]
   rw [this]
   rfl
  ·cases h
theorem kBuild_spec {E:Env} {g:G} {t:TypeId} {parts:List (Nat × Operand)} {R:FV → Prop} (h:kBuild P E g t parts R) :
  ∃ fv,R fv ∧ (gOn g → ∀ ⦃Lw:Nat⦄ (ρ:List Value) (H:(PH Lw)) (w:World) (eval:Operand → Value),(∀ x ∈ parts.map (·.2),RepF ρ H (evF (lookD E) x) (eval x)) →
   ∃ v,(Instr.build t (parts.map fun (i,x)=>(i,eval x)).toArray).run P w = .ok v w ∧ RepF ρ H fv v):=by
 unfold kBuild at h
 split at h
 ·rename_i i hi
  split at h
  ·rename_i vs hz
   obtain ⟨zs,h,hzs⟩:=ofVs_spec h
   split at h
   ·rename_i fs hu
    split at h
    case h_2=>exact h.elim
    rename_i hinf
    obtain ⟨cs,h,hs⟩:=fillK_spec h
    refine ⟨_,h,fun hg Lw ρ H w eval hx=>?_⟩
    obtain ⟨cells',ef,rc⟩:=hs hg ρ H w eval (fs.map fun f=>(f.offset,sizeT P f.type)).toArray vs.toArray hx (fun i f hf ti hti=>by simp [hf,sizeT,hti]) (by simpa [Value.cells] using hzs H)
    refine ⟨.agg cells',?_,by simp only [RepF,RepP]; exact ⟨cells'.toList,by simp,rc⟩⟩
    simp only [Instr.build,Sem.run_bind,zeroValue,typeInfo,run_program,hi,hz,Result.andThen_ok,Sem.run_pure,run_underlying hu,Value.cells]
    rw [Array.mapM_eq_mapM_toList]
    simp only [Sem.run_map]
    rw [run_places hinf]
    simp only [Result.andThen_ok]
    rw [ef]
    rfl
   ·rename_i n e hu
    split at h
    ·rename_i ei hei
     split at h
     ·rename_i hsz
      have hsz:ei.size = 1:=Nat.eq_of_beq_eq_true hsz
      obtain ⟨ps,h,hpl,hps⟩:=partsK_spec h
      obtain ⟨hlen,hone,h⟩:=h
      refine ⟨_,h,fun hg Lw ρ H w eval hx=>?_⟩
      obtain ⟨vals,ev,rv⟩:=hps hg ρ H eval hx
      have hsz':∀ v ∈ vals,v.cells.size = 1:=by
       intro v hv
       obtain ⟨j,hj⟩:=List.getElem?_of_mem hv
       have hjl:=(List.getElem?_eq_some_iff.1 hj).1
       have hpj:j < ps.length:=by rw [← rv.length]; exact hjl
       obtain ⟨v',hv',r'⟩:=rv.get (List.getElem?_eq_getElem hpj)
       rw [hj] at hv'
       cases hv'
       rw [(oneP_cell (hone _ (List.getElem_mem hpj)) r').2]
       rfl
      have hvl:=rv.length
      obtain ⟨cells',ef,hc'⟩:=fill_rows 1 vals.length (fun i_1=>some (i_1 * 1,1)) (fun j _=>rfl) vals 0 ⟨vs⟩ hsz' (by omega) (by simp; omega)
      refine ⟨.agg cells',?_,?_⟩
      ·simp only [Instr.build,Sem.run_bind,zeroValue,typeInfo,run_program,hi,hz,Result.andThen_ok,Sem.run_pure,run_underlying hu,Go.sizeOf,hei,hsz,ev,Value.cells]
       simp only [Nat.mul_one] at ef ⊢
       rw [ef]
       rfl
      ·simp only [RepF,RepP]
       refine ⟨cells'.toList,by simp,?_⟩
       have e1:cells'.toList = vals:=by
        rw [hc']
        simp only [Nat.zero_mul,List.take_zero,List.nil_append]
        have:∀ (l:List Value),(∀ v ∈ l,v ∈ vals) → l.flatMap (·.cells.toList) = l:=by
         intro l
         induction l with
         | nil=>intro _; rfl
         | cons a l ih =>
          intro hl
          rw [List.flatMap_cons,ih (fun v hv=>hl v (by simp [hv]))]
          obtain ⟨j,hj⟩:=List.getElem?_of_mem (hl a (by simp))
          have hjl:=(List.getElem?_eq_some_iff.1 hj).1
          have hpj:j < ps.length:=by rw [← rv.length]; exact hjl
          obtain ⟨v',hv',r'⟩:=rv.get (List.getElem?_eq_getElem hpj)
          rw [hj] at hv'
          cases hv'
          rw [(oneP_cell (hone _ (List.getElem_mem hpj)) r').2]
          rfl
        exact this vals (fun v hv=>hv)
       rw [e1]
       exact rv
     ·obtain ⟨ps,h,hpl,hps⟩:=partsK_spec h
      obtain ⟨rows,h,hrl,hrows⟩:=rowsK_spec h
      obtain ⟨hr1,hlen,h⟩:=h
      refine ⟨_,h,fun hg Lw ρ H w eval hx=>?_⟩
      obtain ⟨vals,ev,rv⟩:=hps hg ρ H eval hx
      have hcell:=hrows H vals rv
      have hvl:=rv.length
      have hsz':∀ v ∈ vals,v.cells.size = ei.size:=by
       intro v hv
       obtain ⟨j,hj⟩:=List.getElem?_of_mem hv
       have hjl:=(List.getElem?_eq_some_iff.1 hj).1
       have hpj:j < rows.length:=by rw [hrl,← hvl]; exact hjl
       have l:=(hcell j _ v (List.getElem?_eq_getElem hpj) hj).length
       rw [Array.length_toList] at l
       rw [l]
       exact hr1 _ (List.getElem_mem hpj)
      have hfl:∀ l:List (List PV),(∀ r ∈ l,r.length = ei.size) → l.flatten.length = l.length * ei.size:=by
       intro l
       induction l with
       | nil=>intro _; simp
       | cons a l ih =>
        intro hl
        rw [List.flatten_cons,List.length_append,ih (fun r hr=>hl r (by simp [hr])),hl a (by simp),List.length_cons,Nat.succ_mul]
        omega
      have hvs:vals.length * ei.size = vs.length:=by rw [← hlen,hfl rows hr1,hrl,hvl]
      obtain ⟨cells',ef,hc'⟩:=fill_rows ei.size vals.length (fun i_1=>some (i_1 * ei.size,ei.size)) (fun j _=>rfl) vals 0 ⟨vs⟩ hsz' (by omega) (by simp; omega)
      have key:∀ (l:List (List PV)) (us:List Value),l.length = us.length → (∀ (i:Nat) (r:List PV) (v:Value),l[i]? = some r → us[i]? = some v → RepL H r v.cells.toList) → RepL H l.flatten (us.flatMap (·.cells.toList)):=by
       intro l
       induction l with
       | nil=>intro us h1 _; rw [List.length_eq_zero_iff.1 h1.symm]; simp [RepL]
       | cons a l ih =>
        intro us h1 h2
        cases us with
        | nil=>simp at h1
        | cons u us =>
         rw [List.flatten_cons,List.flatMap_cons]
         exact (h2 0 a u rfl rfl).append (ih us (by simpa using h1) fun i r v hr hv=>h2 (i + 1) r v (by simpa using hr) (by simpa using hv))
      refine ⟨.agg cells',?_,?_⟩
      ·simp only [Instr.build,Sem.run_bind,zeroValue,typeInfo,run_program,hi,hz,Result.andThen_ok,Sem.run_pure,run_underlying hu,Go.sizeOf,hei,ev,Value.cells]
       rw [ef]
       rfl
      ·simp only [RepF,RepP]
       refine ⟨cells'.toList,by simp,?_⟩
       rw [hc']
       simp only [Nat.zero_mul,List.take_zero,List.nil_append]
       exact key rows vals (by rw [hrl,hvl]) hcell
    ·exact h.elim
   ·exact h.elim
  ·exact h.elim
 ·exact h.elim
theorem anyOwnK_spec {E:Env} {yes no:Prop}:∀ {parts:List (Nat × Operand)},anyOwnK E parts yes no → yes ∨ no
 | [],h=>.inr h
 | (_,x) :: l,h=>by
  simp only [anyOwnK,ev_eq] at h
  split at h
  ·exact .inl h
  ·exact .inl h
  ·exact .inl h
  ·exact .inl h
  ·exact anyOwnK_spec h
theorem chainB_spec:∀ {c:FV} {R:List FV → Prop},chainK c R → ∃ cs,R cs ∧ ∀ ⦃Lw:Nat⦄ (ρ:List Value) (H:(PH Lw)) (vs:List Value),RepF ρ H c (.tuple vs.toArray) → RepFL ρ H cs vs
 | .cap0,R,h=>⟨[],h,fun Lw ρ H vs r=>by
   simp only [RepF,Value.tuple.injEq] at r
   simpa [RepFL] using r⟩
 | .cap a b,R,h=>by
  simp only [chainK] at h
  obtain ⟨ps,h,hps⟩:=chainB_spec h
  refine ⟨_,h,fun Lw ρ H vs r=>?_⟩
  obtain ⟨u,us,e,ra,rb⟩:=r
  have e:vs = u :: us:=by simpa using e
  subst e
  exact ⟨u,us,rfl,ra,hps _ _ _ rb⟩
 | .top,_,h | .p _,_,h | .opt _ _,_,h | .tsl _ _,_,h | .ptr _ _,_,h | .hptr _,_,h | .bself _,_,h | .bsl _ _ _ _,_,h | .vsl _ _,_,h | .eptr _ _ _ _,_,h | .mref _,_,h | .pair _ _,_,h | .stmp _,_,h | .clo _ _,_,h | .fagg _,_,h | .nxt _ _ _,_,h | .asl _ _ _,_,h | .ifs _ _,_,h | .cut _,_,h=>by
  simp [chainK] at h
theorem cellF_spec {v:FV} {R:List FV → Prop} (h:cellF v R):∃ c,R c ∧ ∀ ⦃Lw:Nat⦄ (ρ:List Value) (H:(PH Lw)) (x:Value),RepF ρ H v x → RepFL ρ H c x.cells.toList:=by
 unfold cellF at h
 split at h
 ·obtain ⟨c,h,hc⟩:=cellsP_spec h
  have h:=mapP_spec h
  exact ⟨_,h,fun Lw ρ H x r=>RepFL.of_RepL (hc H x r)⟩
 ·rename_i k rows
  refine ⟨_,h,fun Lw ρ H x r=>?_⟩
  have e:=(oneF_cells (f:=.tsl k rows) rfl r).1
  rw [e]
  exact ⟨x,[],rfl,r,rfl⟩
 ·rename_i k
  refine ⟨_,h,fun Lw ρ H x r=>?_⟩
  have e:=(oneF_cells (f:=.mref k) rfl r).1
  rw [e]
  exact ⟨x,[],rfl,r,rfl⟩
 ·rename_i k o
  refine ⟨_,h,fun Lw ρ H x r=>?_⟩
  have e:=(oneF_cells (f:=.ptr k o) rfl r).1
  rw [e]
  exact ⟨x,[],rfl,r,rfl⟩
 ·rename_i f c
  refine ⟨_,h,fun Lw ρ H x r=>?_⟩
  have e:=(oneF_cells (f:=.clo f c) rfl r).1
  rw [e]
  exact ⟨x,[],rfl,r,rfl⟩
 ·rename_i k o n c
  refine ⟨_,h,fun Lw ρ H x r=>?_⟩
  have e:=(oneF_cells (f:=.bsl k o n c) rfl r).1
  rw [e]
  exact ⟨x,[],rfl,r,rfl⟩
 ·rename_i c
  obtain ⟨cs,h,hcs⟩:=chainB_spec h
  refine ⟨_,h,fun Lw ρ H x r=>?_⟩
  obtain ⟨vs,rfl,rc⟩:=r
  simpa [Value.cells] using hcs ρ H vs rc
 ·exact h.elim
theorem fillF_spec {E:Env} {g:G} {fs:List Field}:∀ {parts:List (Nat × Operand)} {cs:List FV} {R:List FV → Prop},fillF P E g fs parts cs R →
  ∃ cs',R cs' ∧ (gOn g → ∀ ⦃Lw:Nat⦄ (ρ:List Value) (H:(PH Lw)) (w:World) (eval:Operand → Value) (places:Array (Nat × Nat)) (cells:Array Value),(∀ x ∈ parts.map (·.2),RepF ρ H (evF (lookD E) x) (eval x)) →
   (∀ (i:Nat) (f:Field),fs[i]? = some f → ∀ ti,P.info? f.type = some ti → places[i]? = some (f.offset,ti.size)) → RepFL ρ H cs cells.toList →
   ∃ cells',Instr.fill (places[·]?) cells (parts.map fun (i,x)=>(i,eval x)) = some cells' ∧ RepFL ρ H cs' cells'.toList)
 | [],cs,R,h=>⟨cs,h,fun _ Lw ρ H w eval places cells _ _ r=>⟨cells,rfl,r⟩⟩
 | (i,x) :: l,cs,R,h=>by
  simp only [fillF] at h
  obtain ⟨f,hf,h⟩:=nthK_spec h
  split at h
  ·rename_i ti hti
   obtain ⟨v,h,hv⟩:=evS_spec h
   obtain ⟨c,h,hc⟩:=cellF_spec h
   split at h
   ·rename_i hsz
    have hsz:c.length = ti.size:=Nat.eq_of_beq_eq_true hsz
    obtain ⟨h,hlen⟩:=overK_spec h
    obtain ⟨cs',h,hs⟩:=fillF_spec h
    refine ⟨cs',h,fun hg Lw ρ H w eval places cells hx hpl r=>?_⟩
    have rc:=hc ρ H _ (hv ρ H _ hg (hx x (by simp)))
    have hvs:(eval x).cells.size = ti.size:=by have:=rc.length; simp at this; omega
    have hcl:=r.length
    simp at hcl
    have hle:f.offset + (eval x).cells.size ≤ cells.size:=by omega
    have h1:=fill_one f.offset (eval x) cells hle
    obtain ⟨cells',e',r'⟩:=hs hg ρ H w eval places ((eval x).cells.zipIdx.foldl (fun (cs:Array Value) (x:Value × Nat)=>cs.setIfInBounds (f.offset + x.2) x.1) cells) (fun y hy=>hx y (by simp at hy ⊢; exact .inr hy)) hpl (by
     rw [h1,hvs,← hsz]
     exact ((r.take _).append rc).append (r.drop _))
    refine ⟨cells',?_,r'⟩
    simp only [List.map_cons,Instr.fill,hpl i f hf ti hti]
    rw [if_neg (by simp [hvs]; omega)]
    exact e'
   ·exact h.elim
  ·exact h.elim
theorem tupC_rep {ρ:List Value} {H:(PH Lw)}:∀ {cs:List FV} {vs:List Value},RepFL ρ H cs vs → RepF ρ H (tupC cs) (.tuple vs.toArray)
 | [],vs,r=>by
  simp only [RepFL] at r
  subst r
  simp [tupC,RepF]
 | c :: cs,vs,r=>by
  obtain ⟨u,us,rfl,r1,rs⟩:=r
  exact ⟨u,us,rfl,r1,tupC_rep rs⟩
theorem kBuildF_spec {E:Env} {g:G} {t:TypeId} {parts:List (Nat × Operand)} {R:FV → Prop} (h:kBuildF P E g t parts R) :
  ∃ fv,R fv ∧ (gOn g → ∀ ⦃Lw:Nat⦄ (ρ:List Value) (H:(PH Lw)) (w:World) (eval:Operand → Value),(∀ x ∈ parts.map (·.2),RepF ρ H (evF (lookD E) x) (eval x)) →
   ∃ v,(Instr.build t (parts.map fun (i,x)=>(i,eval x)).toArray).run P w = .ok v w ∧ RepF ρ H fv v):=by
 unfold kBuildF at h
 split at h
 ·rename_i i hi
  split at h
  ·rename_i vs hz
   obtain ⟨zs,h,hzs⟩:=ofVs_spec h
   have h:=mapP_spec h
   split at h
   ·rename_i fs hu
    split at h
    case h_2=>exact h.elim
    rename_i hinf
    obtain ⟨cs,h,hs⟩:=fillF_spec h
    refine ⟨_,h,fun hg Lw ρ H w eval hx=>?_⟩
    obtain ⟨cells',ef,rc⟩:=hs hg ρ H w eval (fs.map fun f=>(f.offset,sizeT P f.type)).toArray vs.toArray hx (fun i f hf ti hti=>by simp [hf,sizeT,hti]) (by simpa [Value.cells] using RepFL.of_RepL (hzs H))
    refine ⟨.agg cells',?_,⟨cells'.toList,by simp,tupC_rep rc⟩⟩
    simp only [Instr.build,Sem.run_bind,zeroValue,typeInfo,run_program,hi,hz,Result.andThen_ok,Sem.run_pure,run_underlying hu,Value.cells]
    rw [Array.mapM_eq_mapM_toList]
    simp only [Sem.run_map]
    rw [run_places hinf]
    simp only [Result.andThen_ok]
    rw [ef]
    rfl
   ·exact h.elim
  ·exact h.elim
 ·exact h.elim
theorem kFnNil_spec {op:BinOp} {t:TypeId} {n:Bool} {y:FV} {R:FV → Prop} (h:kFnNil P op t n y R) :
  ∃ fv,R fv ∧ ∀ ⦃Lw:Nat⦄ (ρ:List Value) (H:(PH Lw)) (w:World) (xo yo:Operand) (a b:Value),((n = true ∧ a = .nilFunc) ∨ (n = false ∧ ∃ f bs cs,a = .func f bs cs)) → RepF ρ H y b →
   ∃ v,(do eqGuard op t xo yo a b; binOp op t a b:Sem Value).run P w = .ok v w ∧ RepF ρ H fv v:=by
 unfold kFnNil at h
 split at h
 ·rename_i i1 i2 i3 hu
  split at h
  ·have eqN:∀ (w:World) (a:Value),((n = true ∧ a = .nilFunc) ∨ (n = false ∧ ∃ f bs cs,a = .func f bs cs)) → (Op.equal t a .nilFunc).run P w = .ok n w:=by
    intro w a ha
    have:∀ k,(Op.equalIn (k + 1) t a .nilFunc).run P w = .ok n w:=by
     intro k
     rcases ha with ⟨rfl,rfl⟩ | ⟨rfl,f,bs,cs,rfl⟩ <;> simp [Op.equalIn,run_underlying hu]
    exact this 9999
   split at h
   ·refine ⟨_,h,fun Lw ρ H w xo yo a b ra rb=>⟨.bool n,?_,bool_rep⟩⟩
    simp only [RepF,RepP] at rb
    subst rb
    simp [eqGuard,binOp,Sem.run_bind,eqN w a ra]
   ·refine ⟨_,h,fun Lw ρ H w xo yo a b ra rb=>⟨.bool (!n),?_,bool_rep⟩⟩
    simp only [RepF,RepP] at rb
    subst rb
    simp [eqGuard,binOp,Sem.run_bind,eqN w a ra]
   ·exact h.elim
  ·exact h.elim
 ·exact h.elim
theorem kPtr_spec {op:BinOp} {t:TypeId} {x y:FV} {R:FV → Prop} (h:kPtr P op t x y R) :
  ∃ fv,R fv ∧ ∀ ⦃Lw:Nat⦄ (ρ:List Value) (H:(PH Lw)) (w:World) (xo yo:Operand) (a b:Value),RepF ρ H x a → RepF ρ H y b →
   ∃ v,(do eqGuard op t xo yo a b; binOp op t a b:Sem Value).run P w = .ok v w ∧ RepF ρ H fv v:=by
 unfold kPtr at h
 split at h
 ·rename_i e hu
  split at h
  ·rename_i i hi
   have eqN:∀ (w:World) (p:Option Addr),(Op.equal t (.pointer p) (.pointer none)).run P w = .ok p.isNone w:=by
    intro w p
    have:∀ n,(Op.equalIn (n + 1) t (.pointer p) (.pointer none)).run P w = .ok p.isNone w:=by
     intro n
     cases p <;> simp [Op.equalIn,run_underlying hu]
    exact this 9999
   have fin:∀ (b:Bool) (w:World) (xo yo:Operand) (p:Option Addr),(do eqGuard .eql t xo yo (.pointer p) (.pointer none); binOp .eql t (.pointer p) (.pointer none):Sem Value).run P w = .ok (.bool p.isNone) w ∧
     (do eqGuard .neq t xo yo (.pointer p) (.pointer none); binOp .neq t (.pointer p) (.pointer none):Sem Value).run P w = .ok (.bool (!p.isNone)) w:=by
    intro b w xo yo p
    constructor
    ·simp only [eqGuard,binOp,Sem.run_bind,eqN]; rfl
    ·simp only [eqGuard,binOp,Sem.run_bind,eqN]; rfl
   split at h
   ·split at h
    ·refine ⟨_,h,fun Lw ρ H w xo yo a b ra rb=>?_⟩
     simp only [RepF,RepP] at ra rb
     subst ra; subst rb
     exact ⟨_,(fin true w xo yo none).1,bool_rep⟩
    ·refine ⟨_,h,fun Lw ρ H w xo yo a b ra rb=>?_⟩
     obtain ⟨bl,_,rfl⟩:=ra
     simp only [RepF,RepP] at rb
     subst rb
     exact ⟨_,(fin true w xo yo _).1,bool_rep⟩
    ·refine ⟨_,h,fun Lw ρ H w xo yo a b ra rb=>?_⟩
     obtain ⟨bl,o,vs,rfl,_⟩:=ra
     simp only [RepF,RepP] at rb
     subst rb
     exact ⟨_,(fin true w xo yo _).1,bool_rep⟩
    ·exact h.elim
   ·split at h
    ·refine ⟨_,h,fun Lw ρ H w xo yo a b ra rb=>?_⟩
     simp only [RepF,RepP] at ra rb
     subst ra; subst rb
     exact ⟨_,(fin true w xo yo none).2,bool_rep⟩
    ·refine ⟨_,h,fun Lw ρ H w xo yo a b ra rb=>?_⟩
     obtain ⟨bl,_,rfl⟩:=ra
     simp only [RepF,RepP] at rb
     subst rb
     exact ⟨_,(fin true w xo yo _).2,bool_rep⟩
    ·refine ⟨_,h,fun Lw ρ H w xo yo a b ra rb=>?_⟩
     obtain ⟨bl,o,vs,rfl,_⟩:=ra
     simp only [RepF,RepP] at rb
     subst rb
     exact ⟨_,(fin true w xo yo _).2,bool_rep⟩
    ·rename_i k off k' off'
     split at h
     ·rename_i hk
      have hk:=Nat.eq_of_beq_eq_true hk
      split at h
      ·rename_i ho
       have ho:=Nat.eq_of_beq_eq_true ho
       subst hk; subst ho
       refine ⟨_,h,fun Lw ρ H w xo yo a b ra rb=>?_⟩
       obtain ⟨b1,e1,rfl⟩:=ra
       obtain ⟨b2,e2,rfl⟩:=rb
       rw [e1] at e2
       cases e2
       refine ⟨.bool false,?_,bool_rep⟩
       simp only [eqGuard,Sem.run_bind]
       exact Lib.run_neq_ptr_same w _ hu hi
      ·exact h.elim
     ·exact h.elim
    ·exact h.elim
   ·exact h.elim
  ·exact h.elim
 ·exact h.elim
theorem u8T_spec {src dst:TypeId} {R:Prop} (h:u8T P src dst R):∃ e,P.underlying src = some (.slice e) ∧ P.underlying e = some (.int .u8) ∧ P.underlying dst = some .string ∧ R:=by
 unfold u8T at h
 split at h
 ·rename_i e he
  split at h
  ·rename_i h8
   split at h
   ·rename_i hs; exact ⟨e,he,h8,hs,h⟩
   ·exact h.elim
  ·exact h.elim
 ·exact h.elim
theorem bRows_get {l:List UInt8} {j:Nat} {x:UInt8} (h:l[j]? = some x):(bRows l)[j]? = some [.int .u8 x.toNat]:=by simp [bRows,h]
theorem rows_bytes {H:(PH Lw)} {w:World} (s:SatH H w) {b z o:Nat} {l:List UInt8} (r:RepR H b z o (bRows l)):∀ j (hj:j < l.length),w.cell? ((⟨b,o,none⟩:Addr).add j) = some (.int .u8 (l[j].toNat:Int)):=by
 intro j hj
 obtain ⟨hz,vs,q,c⟩:=r.get (bRows_get (List.getElem?_eq_getElem hj))
 simp at hz
 subst hz
 simp only [RepL,RepP] at q
 obtain ⟨v,_,rfl,rfl,rfl⟩:=q
 have:=c 0 _ rfl
 rw [Addr.add_lit]
 simpa using (s _ _ _ this).1
theorem unsK_spec {src dst:TypeId} {n:Nat} {t:TypeId} {R:Prop} (h:unsK P src dst n t R) :
  R ∧ ∀ (w:World) (b:Nat),w.shape? b = some (t,n) → (convert src dst (.pointer (some ⟨b,0,none⟩))).run P w = .ok (.pointer (some ⟨b,0,none⟩)) w:=by
 unfold unsK at h
 split at h
 ·rename_i u hsrc
  split at h
  ·rename_i hdst
   split at h
   ·rename_i i hi
    exact ⟨h.2,fun w b hsh=>Lib.run_to_unsafe w ⟨b,0,none⟩ hsrc hdst hi h.1.1 hsh h.1.2⟩
   ·exact h.elim
  ·exact h.elim
 ·rename_i hsrc
  split at h
  ·rename_i u hdst
   split at h
   ·rename_i i hi
    exact ⟨h.2,fun w b hsh=>Lib.run_from_unsafe w ⟨b,0,none⟩ hsrc hdst hi hsh h.1⟩
   ·exact h.elim
  ·exact h.elim
 ·exact h.elim
theorem kBytes_spec {g:G} {src dst:TypeId} {lo:List AObj} {x:FV} {R:FV → Prop} (h:kBytes P g src dst lo x R) :
  ∃ fv,R fv ∧ (gOn g → ∀ ⦃Lw:Nat⦄ (bs:(Base Lw)) (ρ:List Value) (H:(PH Lw)) (w:World) (v:Value),SatW bs ρ H lo w → RepF ρ H x v → ∃ u,(convert src dst v).run P w = .ok u w ∧ RepF ρ H fv u):=by
 have rowsCase:∀ (e:TypeId) (l:List UInt8),P.underlying src = some (.slice e) → P.underlying e = some (.int .u8) → P.underlying dst = some .string → ∀ ⦃Lw:Nat⦄ (H:(PH Lw)) (w:World) (v:Value),SatH H w → RepP H (.sl (bRows l)) v →
   (convert src dst v).run P w = .ok (.string ⟨l.toArray⟩) w:=by
  intro e l hs he hd Lw H w v s rv
  simp only [RepP] at rv
  rcases rv with ⟨h0,rfl | ⟨a',cap',rfl⟩⟩ | ⟨b,o,z,cap,rfl,hc,rr⟩
  ·have:l = []:=by simpa [bRows] using h0
   subst this
   exact run_convert_bytes_nil w src e hs he 0 0 dst hd
  ·have:l = []:=by simpa [bRows] using h0
   subst this
   exact run_convert_bytes_back (P:=P) w src dst e a' cap' [] hs he hd (fun j hj=>absurd hj (Nat.not_lt_zero _))
  ·have:=run_convert_bytes_back (P:=P) w src dst e ⟨b,o,none⟩ cap l hs he hd (rows_bytes s rr)
   simpa [bRows] using this
 unfold kBytes at h
 split at h
 ·rename_i rows
  obtain ⟨e,hs,he,hd,l,hl,h⟩:=u8T_spec h
  refine ⟨_,h,fun hg Lw bs ρ H w v s rv=>⟨_,rowsCase e l hs he hd H w v s.sath ?_,str_rep⟩⟩
  rw [← gI_on hl hg]; exact rv
 ·rename_i k rows
  obtain ⟨e,hs,he,hd,l,hl,h⟩:=u8T_spec h
  refine ⟨_,h,fun hg Lw bs ρ H w v s rv=>⟨_,rowsCase e l hs he hd H w v s.sath ?_,str_rep⟩⟩
  rw [← gI_on hl hg]; exact rv.2
 ·obtain ⟨e,hs,he,hd,h⟩:=u8T_spec h
  refine ⟨_,h,fun hg Lw bs ρ H w v s rv=>⟨_,rowsCase e [] hs he hd H w v s.sath ?_,str_rep⟩⟩
  simp only [RepF,RepP] at rv
  simp only [RepP]
  exact .inl ⟨rfl,.inl rv⟩
 ·rename_i k off n cap
  obtain ⟨e,hs,he,hd,h⟩:=u8T_spec h
  obtain ⟨ob,hob,h⟩:=nthK_spec h
  split at h
  ·rename_i bt cells
   obtain ⟨h,hoff⟩:=dropK_spec h
   obtain ⟨h,hn⟩:=takeK_spec h
   obtain ⟨ps,h,hps⟩:=frzL_spec h
   obtain ⟨l,hl,h⟩:=h
   refine ⟨_,h,fun hg Lw bs ρ H w v s rv=>?_⟩
   obtain ⟨b,hb,_,rfl,_⟩:=rv
   obtain ⟨b',vs,e',hg',hcs,_⟩:=s.objs k _ _ hob hb
   cases e'
   have hl:=gI_on hl hg
   have rl:=hps _ _ _ ((hcs.drop off).take n)
   rw [hl] at rl
   have hlen:=rl.length
   have hvl:=hcs.length
   simp at hlen hn
   have hnl:n = l.length:=by omega
   subst hnl
   refine ⟨_,run_convert_bytes_back (P:=P) w src dst e ⟨b,off,none⟩ _ l hs he hd (fun j hj=>?_),str_rep⟩
   obtain ⟨u,hu,ru⟩:=rl.get (i:=j) (c:=.int .u8 (l[j].toNat:Int)) (by simp [hj])
   simp only [RepP] at ru
   subst ru
   rw [Addr.add_lit]
   rw [List.getElem?_take,if_pos hj] at hu
   exact cells_of_row hg' off j _ hu
  ·exact h.elim
 ·rename_i k off
  split at h
  ·rename_i h0
   have h0:=Nat.eq_of_beq_eq_true h0
   subst h0
   obtain ⟨ob,hob,h⟩:=nthK_spec h
   split at h
   ·rename_i bt cells
    obtain ⟨h,hs⟩:=unsK_spec h
    refine ⟨_,h,fun hg Lw bs ρ H w v s rv=>?_⟩
    obtain ⟨b,hb,rfl⟩:=rv
    obtain ⟨b',vs,e',hg',hcs,_⟩:=s.objs k _ _ hob hb
    cases e'
    have hvl:=hcs.length
    have hsh:w.shape? b = some (bt,cells.length):=by simp [World.shape?,hg',hvl]
    exact ⟨_,hs w b hsh,b,hb,rfl⟩
   ·exact h.elim
  ·exact h.elim
 ·rename_i k n
  obtain ⟨e,hs,he,hd,h⟩:=u8T_spec h
  obtain ⟨ob,hob,h⟩:=nthK_spec h
  split at h
  ·rename_i l
   refine ⟨_,h.2,fun hg Lw bs ρ H w v s rv=>?_⟩
   have hn:=gI_on h.1 hg
   obtain ⟨b,cs,e',cap,lo',hi,rfl,hg',_,h2,_⟩:=s.objs k _ _ hob rv.1
   refine ⟨_,run_convert_bytes_back (P:=P) w src dst e ⟨b,0,none⟩ cap l hs he hd (fun j hj=>?_),str_rep⟩
   rw [Addr.add_lit]
   simp only [World.cell?,hg',Nat.zero_add]
   exact h2 j _ (List.getElem?_eq_getElem hj)
  ·exact h.elim
 ·rename_i k off n
  obtain ⟨e,hs,he,hd,h⟩:=u8T_spec h
  obtain ⟨ob,hob,h⟩:=nthK_spec h
  split at h
  ·rename_i l
   refine ⟨_,h.2,fun hg Lw bs ρ H w v s rv=>?_⟩
   have hn:=gI_on h.1 hg
   obtain ⟨b0,n',cap',c,hr,rfl⟩:=rv
   obtain ⟨b,cs,e',cap,lo',hi,e1,hg',_,h2,_⟩:=s.objs k _ _ hob hr
   obtain rfl:b0 = b:=by simpa [blkOf] using congrArg blkOf e1
   have hl:n = ((l.drop off).take n).length:=by simp; omega
   have hrun:=run_convert_bytes_back (P:=P) w src dst e ⟨b0,off,none⟩ c ((l.drop off).take n) hs he hd (fun j hj=>by
    rw [Addr.add_lit]
    simp only [World.cell?,hg']
    have hjn:j < n:=by omega
    have:l[off + j]? = some ((l.drop off).take n)[j]:=by
     have h3:=List.getElem?_eq_getElem hj
     rw [← h3,List.getElem?_take,if_pos hjn,List.getElem?_drop]
    exact h2 _ _ this)
   rw [← hl] at hrun
   exact ⟨_,hrun,str_rep⟩
  ·exact h.elim
 ·obtain ⟨fv,h,hs⟩:=kConvert_spec h
  exact ⟨fv,h,fun hg Lw bs ρ H w v s rv=>hs ρ H w v rv⟩
end
end Ax
end
section
namespace Ax
open Go
variable {Lw:Nat}
section
variable {P:Program}
theorem after_calm {bs:(Base Lw)} {ρ:List Value} {H H':(PH Lw)} {fv:FV} {lo:List AObj} {v:Value} {w w':World} (s:SatW bs ρ H lo w) (c:Calm H w H' w') (r:RepF ρ H' fv v) :
  After bs ρ H fv lo v w':=⟨ρ,H',List.prefix_refl _,c.le,s.calm c,r⟩
theorem upon_value {bs:(Base Lw)} {ρ:List Value} {H:(PH Lw)} {fv:FV} {lo:List AObj} {v:Value} {w:World} {x:Sem Value} (s:SatW bs ρ H lo w) (hr:x.run P w = .ok v w) (r:RepF ρ H fv v) :
  UponA P bs ρ H fv lo ((do pure (.value (← x)):Sem Next).run P w):=by
 simp only [Sem.run_bind,hr,Result.andThen_ok,Sem.run_pure]
 exact after_same s r
theorem uponA_call {bs:(Base Lw)} {ρ:List Value} {H:(PH Lw)} {lo:List AObj} {r:PV} {w:World} {x:Result Next} (s:SatW bs ρ H lo w) (h:CallUpon P H w r x):UponA P bs ρ H (.p r) lo x:=by
 unfold CallUpon at h
 split at h
 ·obtain ⟨H',c,rv⟩:=h
  exact after_calm s c rv
 ·obtain ⟨rfl,hcall⟩:=h
  exact hcall.mono fun en w'' ⟨v,H',e,c,rv⟩=>⟨v,e,after_calm s c rv⟩
 ·exact h.elim
theorem capsP_spec:∀ {c:FV} {R:List PV → Prop},capsP c R → ∃ ps,R ps ∧ ∀ ⦃Lw:Nat⦄ (ρ:List Value) (H:(PH Lw)) (vs:List Value),RepF ρ H c (.tuple vs.toArray) → RepL H ps vs
 | .cap0,R,h=>⟨[],h,fun Lw ρ H vs r=>by
   simp only [RepF,Value.tuple.injEq] at r
   simpa [RepL] using r⟩
 | .cap a b,R,h=>by
  simp only [capsP] at h
  obtain ⟨p,h,hp⟩:=frzK_spec h
  obtain ⟨ps,h,hps⟩:=capsP_spec h
  refine ⟨_,h,fun Lw ρ H vs r=>?_⟩
  obtain ⟨u,us,e,ra,rb⟩:=r
  have e:vs = u :: us:=by simpa using e
  subst e
  simp only [RepL]
  exact ⟨u,us,rfl,hp _ _ _ ra,hps _ _ _ rb⟩
 | .top,_,h | .p _,_,h | .opt _ _,_,h | .tsl _ _,_,h | .ptr _ _,_,h | .hptr _,_,h | .bself _,_,h | .bsl _ _ _ _,_,h | .vsl _ _,_,h | .eptr _ _ _ _,_,h | .mref _,_,h | .pair _ _,_,h | .stmp _,_,h | .clo _ _,_,h | .fagg _,_,h | .nxt _ _ _,_,h=>by
  simp [capsP] at h
theorem kPure2_sound {dst:Option Tmp} {op:Op} {ty:TypeId} {pos:String} {after:Array Edge} {guard:Option (Nat × Bool)} {E:Env} {g:G} {R:FV → Prop} (h:kPure2 P op E g R):∃ fv,R fv ∧ ∀ lo,StepSem P ⟨dst,op,ty,pos,after,guard⟩ (lookD E) lo g fv lo:=by
 unfold kPure2 at h
 split at h
 ·rename_i f b bs
  have h0:=evL_spec h; clear h; obtain ⟨vs,h,hvs⟩:=h0
  have h0:=frzL_spec h; clear h; obtain ⟨ps,h,hps⟩:=h0
  refine ⟨_,h,fun lo hg Lw bs' ρ H w eval s hx=>?_⟩
  have rl:=hps ρ H _ (hvs ρ H eval hg (fun y hy=>hx y (by simpa [Op.operands] using hy)))
  exact upon_value s (v:=.func (.func f) ((b :: bs).map eval).toArray #[]) (by simp [Instr.makeFunc]) (by simp only [RepF,RepP]; exact ⟨_,rfl,rl⟩)
 ·rename_i x xt a
  have h0:=evS_spec h; clear h; obtain ⟨x',h,hx0⟩:=h0
  have h0:=frzK_spec h; clear h; obtain ⟨p,h,hp⟩:=h0
  obtain ⟨r,hc,h⟩:=h
  refine ⟨_,h,fun lo hg Lw bs ρ H w eval s hx=>?_⟩
  obtain ⟨u,e,hr⟩:=gI_on hc hg H _ w (hp _ _ _ (hx0 ρ H _ hg (hx x (by simp [Op.operands]))))
  exact upon_value s e hr
 ·rename_i f xs
  split at h
  ·refine ⟨_,h,fun lo hg Lw bs ρ H w eval s hx=>?_⟩
   exact upon_value s (v:=.func (.func f) #[] #[]) (by simp [Instr.makeFunc]) (by simp [RepF,RepP])
  ·rename_i x xs
   have h0:=evL_spec h; clear h; obtain ⟨vs,h,hvs⟩:=h0
   refine ⟨_,h,fun lo hg Lw bs ρ H w eval s hx=>?_⟩
   have rl:=hvs ρ H eval hg (fun y hy=>hx y (by simpa [Op.operands] using hy))
   exact upon_value s (v:=.func (.func f) #[] ((x :: xs).map eval).toArray) (by simp [Instr.makeFunc]) ⟨_,rfl,tupC_rep rl⟩
 ·rename_i t xs ts
  have h0:=evS_spec h; clear h; obtain ⟨fv,h,hfv⟩:=h0
  have h0:=evL_spec h; clear h; obtain ⟨vs,h,hvs⟩:=h0
  have h0:=frzL_spec h; clear h; obtain ⟨ps,h,hps⟩:=h0
  split at h
  ·rename_i f
   obtain ⟨r,hc,h⟩:=h
   refine ⟨_,h,fun lo hg Lw bs ρ H w eval s hx=>?_⟩
   have hc:=gI_on hc hg
   have rl:=hps ρ H _ (hvs ρ H eval hg (fun y hy=>hx y (by simp [Op.operands,Call.operands,hy])))
   have:=hc H w _ s.sath rl
   have hf:(eval (.tmp t)) = .func (.func f) #[] #[]:=by
    have:=hfv ρ H _ hg (hx (.tmp t) (by simp [Op.operands,Call.operands]))
    simpa [RepF,RepP] using this
   simp only [execOp,resolve,Deferred.ofValue,invoke,hf,Sem.run_bind,Sem.run_pure,Result.andThen_ok,List.map_toArray,Array.empty_append,Array.append_empty]
   exact uponA_call s this
  ·rename_i f c
   have h0:=capsP_spec h; clear h; obtain ⟨cs,h,hcs⟩:=h0
   obtain ⟨r,hc,h⟩:=h
   refine ⟨_,h,fun lo hg Lw bs ρ H w eval s hx=>?_⟩
   have hc:=gI_on hc hg
   have rl:=hps ρ H _ (hvs ρ H eval hg (fun y hy=>hx y (by simp [Op.operands,Call.operands,hy])))
   obtain ⟨us,hf,rc⟩:=hfv ρ H _ hg (hx (.tmp t) (by simp [Op.operands,Call.operands]))
   have:=hc H w _ s.sath (rl.append (hcs _ _ _ rc))
   simp only [execOp,resolve,Deferred.ofValue,invoke,hf,Sem.run_bind,Sem.run_pure,Result.andThen_ok,List.map_toArray,List.append_toArray]
   exact uponA_call s this
  ·rename_i f cs
   obtain ⟨r,hc,h⟩:=h
   refine ⟨_,h,fun lo hg Lw bs ρ H w eval s hx=>?_⟩
   have hc:=gI_on hc hg
   have rl:=hps ρ H _ (hvs ρ H eval hg (fun y hy=>hx y (by simp [Op.operands,Call.operands,hy])))
   have rf:=hfv ρ H _ hg (hx (.tmp t) (by simp [Op.operands,Call.operands]))
   simp only [RepF,RepP] at rf
   obtain ⟨us,hf,rc⟩:=rf
   have:=hc H w _ s.sath (rl.append rc)
   simp only [execOp,resolve,Deferred.ofValue,invoke,hf,Sem.run_bind,Sem.run_pure,Result.andThen_ok,List.map_toArray,List.append_toArray]
   exact uponA_call s this
  ·rename_i f bs
   obtain ⟨r,hc,h⟩:=h
   refine ⟨_,h,fun lo hg Lw bs ρ H w eval s hx=>?_⟩
   have hc:=gI_on hc hg
   have rl:=hps ρ H _ (hvs ρ H eval hg (fun y hy=>hx y (by simp [Op.operands,Call.operands,hy])))
   have rf:=hfv ρ H _ hg (hx (.tmp t) (by simp [Op.operands,Call.operands]))
   simp only [RepF,RepP] at rf
   obtain ⟨us,hf,rc⟩:=rf
   have:=hc H w _ s.sath (rc.append rl)
   simp only [execOp,resolve,Deferred.ofValue,invoke,hf,Sem.run_bind,Sem.run_pure,Result.andThen_ok,List.map_toArray,List.append_toArray,Array.append_empty]
   exact uponA_call s this
  ·exact h.elim
 ·rename_i rv m xs ts
  have h0:=evS_spec h; clear h; obtain ⟨fv,h,hfv⟩:=h0
  have h0:=evL_spec h; clear h; obtain ⟨vs,h,hvs⟩:=h0
  have h0:=frzL_spec h; clear h; obtain ⟨ps,h,hps⟩:=h0
  split at h
  ·rename_i t v
   obtain ⟨f,r,hc,h⟩:=h
   refine ⟨_,h,fun lo hg Lw bs ρ H w eval s hx=>?_⟩
   obtain ⟨hmt,hc⟩:=gI_on hc hg
   have rl:=hps ρ H _ (hvs ρ H eval hg (fun y hy=>hx y (by simp [Op.operands,Call.operands,hy])))
   have rr:=hfv ρ H _ hg (hx rv (by simp [Op.operands,Call.operands]))
   simp only [RepF,RepP] at rr
   obtain ⟨u,hu,ru⟩:=rr
   have:=hc H w (u :: xs.map eval) s.sath (by simp only [RepL]; exact ⟨u,_,rfl,ru,rl⟩)
   have hme:=hmt u w
   simp only [execOp,resolve,invoke,hu,Sem.run_bind,Sem.run_pure,Result.andThen_ok,List.map_toArray,callMethod]
   have e:List.take xs.length (xs.map eval) = xs.map eval:=List.take_of_length_le (by simp)
   simp [hme,e]
   exact uponA_call s this
  ·exact h.elim
 ·rename_i x y ts
  have h0:=evS_spec h; clear h; obtain ⟨x',h,hx0⟩:=h0
  have h0:=evS_spec h; clear h; obtain ⟨y',h,hy0⟩:=h0
  split at h
  ·rename_i k a
   split at h
   ·rename_i k' b
    refine ⟨_,h,fun lo hg Lw bs ρ H w eval s hx=>?_⟩
    have r1:=rep_int (hx0 ρ H _ hg (hx x (by simp [Op.operands,Call.operands])))
    have r2:=rep_int (hy0 ρ H _ hg (hx y (by simp [Op.operands,Call.operands])))
    refine upon_value s (v:=.int k (bif decide (b > a) then b else a)) ?_ int_rep
    simp only [execOp,resolve,invoke,builtin,Sem.run_bind,Sem.run_pure,Result.andThen_ok,List.map_toArray,List.map_cons,List.map_nil,r1,r2,Builtin.max_,List.foldlM,Builtin.max2,Bool.cond_decide]
   ·exact h.elim
  ·exact h.elim
 ·rename_i x y ts
  have h0:=evS_spec h; clear h; obtain ⟨x',h,hx0⟩:=h0
  have h0:=evS_spec h; clear h; obtain ⟨y',h,hy0⟩:=h0
  split at h
  ·rename_i k a
   split at h
   ·rename_i k' b
    refine ⟨_,h,fun lo hg Lw bs ρ H w eval s hx=>?_⟩
    have r1:=rep_int (hx0 ρ H _ hg (hx x (by simp [Op.operands,Call.operands])))
    have r2:=rep_int (hy0 ρ H _ hg (hx y (by simp [Op.operands,Call.operands])))
    refine upon_value s (v:=.int k (bif decide (b < a) then b else a)) ?_ int_rep
    simp only [execOp,resolve,invoke,builtin,Sem.run_bind,Sem.run_pure,Result.andThen_ok,List.map_toArray,List.map_cons,List.map_nil,r1,r2,Builtin.min_,List.foldlM,Builtin.min2,Bool.cond_decide]
   ·exact h.elim
  ·exact h.elim
 ·exact h.elim
theorem kPure_sound {o:Oper} {E:Env} {g:G} {R:FV → Prop} (h:kPure P o.op E g R):∃ fv,R fv ∧ ∀ lo,StepSem P o (lookD E) lo g fv lo:=by
 obtain ⟨dst,op,ty,pos,after,guard⟩:=o
 simp only at h
 unfold kPure at h
 split at h
 ·
  rename_i x
  cases g with
  | none =>
   simp only [ev_eq] at h
   exact ⟨_,h,fun lo hg Lw bs ρ H w eval s hx=>after_same s (hx x (by simp [Op.operands]))⟩
  | some g =>
   obtain ⟨x',h,hx'⟩:=evS_spec h
   exact ⟨_,h,fun lo hg Lw bs ρ H w eval s hx=>after_same s (hx' ρ H _ hg (hx x (by simp [Op.operands])))⟩
 ·rename_i x
  cases g with
  | none =>
   simp only [ev_eq] at h
   exact ⟨_,h,fun lo hg Lw bs ρ H w eval s hx=>after_same s (hx x (by simp [Op.operands]))⟩
  | some g =>
   obtain ⟨x',h,hx'⟩:=evS_spec h
   exact ⟨_,h,fun lo hg Lw bs ρ H w eval s hx=>after_same s (hx' ρ H _ hg (hx x (by simp [Op.operands])))⟩
 ·
  rename_i c a b
  obtain ⟨c',h,hc⟩:=evS_spec h
  split at h
  ·rename_i cb
   have key:∃ fv,R fv ∧ (gOn g → ∀ ⦃Lw:Nat⦄ (ρ:List Value) (H:(PH Lw)) (va vb:Value),RepF ρ H (evF (lookD E) a) va → RepF ρ H (evF (lookD E) b) vb → RepF ρ H fv (if cb then va else vb)):=by
    have fin:∀ (ga gb:Bool) (a' b':FV),Str (some ga) (evF (lookD E) a) a' → Str (some gb) (evF (lookD E) b) b' → (gOn g → cb = true → ga = true) → (gOn g → cb = false → gb = true) →
      (match a',b' with
       | .p (.bool a),.p (.bool b)=>R (.p (.bool (bif cb then a else b)))
       | _,_=>False) → ∃ fv,R fv ∧ (gOn g → ∀ ⦃Lw:Nat⦄ (ρ:List Value) (H:(PH Lw)) (va vb:Value),RepF ρ H (evF (lookD E) a) va → RepF ρ H (evF (lookD E) b) vb → RepF ρ H fv (if cb then va else vb)):=by
     intro ga gb a' b' ha hb h1 h2 h
     split at h
     ·rename_i ab bb
      refine ⟨_,h,fun hg Lw ρ H va vb ra rb=>?_⟩
      cases cb with
      | true =>
       have:=rep_bool (ha ρ H _ (h1 hg rfl) ra)
       simp [this,RepF,RepP]
      | false =>
       have:=rep_bool (hb ρ H _ (h2 hg rfl) rb)
       simp [this,RepF,RepP]
     ·exact h.elim
    split at h
    ·obtain ⟨a',h,ha⟩:=evS_spec h
     obtain ⟨b',h,hb⟩:=evS_spec h
     exact fin _ _ a' b' ha hb (fun _ h=>h) (fun _ h=>by simp [h]) h
    ·obtain ⟨a',h,ha⟩:=evS_spec h
     obtain ⟨b',h,hb⟩:=evS_spec h
     exact fin _ _ a' b' ha hb (fun hg h=>by simp only [gOn] at hg; simp [hg,h]) (fun hg h=>by simp only [gOn] at hg; simp [hg,h]) h
   obtain ⟨fv,h,hs⟩:=key
   refine ⟨_,h,fun lo hg Lw bs ρ H w eval s hx=>?_⟩
   have rc:=rep_bool (hc ρ H _ hg (hx c (by simp [Op.operands])))
   simp only [execOp,rc,asBool,Sem.run_bind,Sem.run_pure,Result.andThen_ok]
   exact after_same s (hs hg ρ H _ _ (hx a (by simp [Op.operands])) (hx b (by simp [Op.operands])))
  ·exact h.elim
 ·rename_i t x f
  obtain ⟨x',h,hx'⟩:=evS_spec h
  obtain ⟨fv,h,hs⟩:=kField_spec h
  refine ⟨_,h,fun lo hg Lw bs ρ H w eval s hx=>?_⟩
  obtain ⟨v,hr,rv⟩:=hs ρ H w _ (hx' ρ H _ hg (hx x (by simp [Op.operands])))
  exact upon_value s hr rv
 ·rename_i t x f
  obtain ⟨x',h,hx'⟩:=evS_spec h
  obtain ⟨fv,h,hs⟩:=kPart_spec h
  refine ⟨_,h,fun lo hg Lw bs ρ H w eval s hx=>?_⟩
  obtain ⟨v,hr,rv⟩:=hs ρ H w _ (hx' ρ H _ hg (hx x (by simp [Op.operands])))
  exact upon_value s hr rv
 ·rename_i t x i
  obtain ⟨x',h,hx'⟩:=evS_spec h
  obtain ⟨i',h,hi'⟩:=evS_spec h
  obtain ⟨fv,h,hs⟩:=kIndexAddr_spec h
  refine ⟨_,h,fun lo hg Lw bs ρ H w eval s hx=>?_⟩
  obtain ⟨v,hr,rv⟩:=hs hg ρ H w _ _ (hx' ρ H _ hg (hx x (by simp [Op.operands]))) (hi' ρ H _ hg (hx i (by simp [Op.operands])))
  exact upon_value s hr rv
 ·rename_i t x i
  obtain ⟨x',h,hx'⟩:=evS_spec h
  obtain ⟨i',h,hi'⟩:=evS_spec h
  obtain ⟨fv,h,hs⟩:=kIndex_spec h
  refine ⟨_,h,fun lo hg Lw bs ρ H w eval s hx=>?_⟩
  obtain ⟨v,hr,rv⟩:=hs hg ρ H w _ _ (hx' ρ H _ hg (hx x (by simp [Op.operands]))) (hi' ρ H _ hg (hx i (by simp [Op.operands])))
  exact upon_value s hr rv
 ·rename_i op t x y t'
  obtain ⟨x',h,hx'⟩:=evS_spec h
  obtain ⟨y',h,hy'⟩:=evS_spec h
  have key:∃ fv,R fv ∧ (gOn g → ∀ ⦃Lw:Nat⦄ (ρ:List Value) (H:(PH Lw)) (w:World) (xo yo:Operand) (a b:Value),RepF ρ H x' a → RepF ρ H y' b →
    ∃ v,(do eqGuard op t xo yo a b; binOp op t a b:Sem Value).run P w = .ok v w ∧ RepF ρ H fv v):=by
   split at h
   ·obtain ⟨fv,h,hs⟩:=kPtr_spec h; exact ⟨fv,h,fun _=>hs⟩
   ·obtain ⟨fv,h,hs⟩:=kPtr_spec h; exact ⟨fv,h,fun _=>hs⟩
   ·obtain ⟨fv,h,hs⟩:=kPtr_spec h; exact ⟨fv,h,fun _=>hs⟩
   ·obtain ⟨fv,h,hs⟩:=kFnNil_spec h; exact ⟨fv,h,fun _ Lw ρ H w xo yo a b ra rb=>hs ρ H w xo yo a b (.inl ⟨rfl,by simpa only [RepF,RepP] using ra⟩) rb⟩
   ·obtain ⟨fv,h,hs⟩:=kFnNil_spec h; exact ⟨fv,h,fun _ Lw ρ H w xo yo a b ra rb=>hs ρ H w xo yo a b (.inr ⟨rfl,by simp only [RepF,RepP] at ra; exact ⟨_,_,_,ra⟩⟩) rb⟩
   ·obtain ⟨fv,h,hs⟩:=kFnNil_spec h; exact ⟨fv,h,fun _ Lw ρ H w xo yo a b ra rb=>hs ρ H w xo yo a b (.inr ⟨rfl,by simp only [RepF,RepP] at ra; obtain ⟨vs,e,_⟩:=ra; exact ⟨_,_,_,e⟩⟩) rb⟩
   ·obtain ⟨fv,h,hs⟩:=kFnNil_spec h; exact ⟨fv,h,fun _ Lw ρ H w xo yo a b ra rb=>hs ρ H w xo yo a b (.inr ⟨rfl,by simp only [RepF,RepP] at ra; obtain ⟨vs,e,_⟩:=ra; exact ⟨_,_,_,e⟩⟩) rb⟩
   ·exact kBin_spec h
  obtain ⟨fv,h,hs⟩:=key
  refine ⟨_,h,fun lo hg Lw bs ρ H w eval s hx=>?_⟩
  obtain ⟨v,hr,rv⟩:=hs hg ρ H w x y _ _ (hx' ρ H _ hg (hx x (by simp [Op.operands]))) (hy' ρ H _ hg (hx y (by simp [Op.operands])))
  exact upon_value s hr rv
 ·rename_i t x
  obtain ⟨x',h,hx'⟩:=evS_spec h
  split at h
  ·rename_i b
   refine ⟨_,h,fun lo hg Lw bs ρ H w eval s hx=>?_⟩
   have rx:=rep_bool (hx' ρ H _ hg (hx x (by simp [Op.operands])))
   exact upon_value s (v:=.bool !b) (by simp [rx,Op.unary]) bool_rep
  ·exact h.elim
 ·rename_i t x
  obtain ⟨x',h,hx'⟩:=evS_spec h
  split at h
  ·rename_i k n
   refine ⟨_,h,fun lo hg Lw bs ρ H w eval s hx=>?_⟩
   have rx:=rep_int (hx' ρ H _ hg (hx x (by simp [Op.operands])))
   exact upon_value s (v:=.int k (k.wrap (0 - n))) (by simp [rx,Op.unary,Op.intArith]) int_rep
  ·exact h.elim
 ·rename_i x
  obtain ⟨x',h,hx'⟩:=evS_spec h
  split at h
  ·rename_i k off
   refine ⟨_,h,fun lo hg Lw bs ρ H w eval s hx=>?_⟩
   have rx:=hx' ρ H _ hg (hx x (by simp [Op.operands]))
   obtain ⟨b,hb,e⟩:=rx
   simp only [execOp,e]
   exact after_same s ⟨b,hb,rfl⟩
  ·rename_i row
   refine ⟨_,h,fun lo hg Lw bs ρ H w eval s hx=>?_⟩
   have rx:=hx' ρ H _ hg (hx x (by simp [Op.operands]))
   obtain ⟨b,o,vs,e,q,c⟩:=rx
   simp only [execOp,e]
   exact after_same s ⟨b,o,vs,rfl,q,c⟩
  ·rename_i k z i off
   refine ⟨_,h,fun lo hg Lw bs ρ H w eval s hx=>?_⟩
   have rx:=hx' ρ H _ hg (hx x (by simp [Op.operands]))
   obtain ⟨b,n,cap,hb,e⟩:=rx
   simp only [execOp,e]
   exact after_same s ⟨b,n,cap,hb,rfl⟩
  ·exact h.elim
 ·rename_i t x lo hi mx
  obtain ⟨x',h,hx'⟩:=evS_spec h
  obtain ⟨fv,h,hs⟩:=kSlice_spec h
  refine ⟨_,h,fun lo' hg Lw bs ρ H w eval s hx=>?_⟩
  obtain ⟨u,hr,ru⟩:=hs ρ H w eval _ hg (hx' ρ H _ hg (hx x (by simp [Op.operands]))) (fun y hy=>hx y (by simp only [Op.operands]; simp only [Array.mem_append]; exact .inl (.inl (.inr hy)))) (fun y hy=>hx y (by simp only [Op.operands]; simp only [Array.mem_append]; exact .inl (.inr hy))) (fun y hy=>hx y (by simp only [Op.operands]; simp only [Array.mem_append]; exact .inr hy))
  exact upon_value s hr ru
 ·rename_i t n parts
  obtain ⟨fv,h,hs⟩:=kBuildSlice_spec h
  refine ⟨_,h,fun lo' hg Lw bs ρ H w eval s hx=>?_⟩
  obtain ⟨v,w',H',hr,c,rv⟩:=hs hg ρ H w eval s.sath (fun x hx'=>hx x (by simpa [Op.operands] using hx'))
  simp only [execOp,List.map_toArray,Sem.run_bind,hr,Result.andThen_ok,Sem.run_pure]
  exact after_calm s c rv
 ·rename_i t parts
  have key:∃ fv,R fv ∧ (gOn g → ∀ ⦃Lw:Nat⦄ (ρ:List Value) (H:(PH Lw)) (w:World) (eval:Operand → Value),(∀ x ∈ parts.map (·.2),RepF ρ H (evF (lookD E) x) (eval x)) →
   ∃ v,(Instr.build t (parts.map fun (i,x)=>(i,eval x)).toArray).run P w = .ok v w ∧ RepF ρ H fv v):=by
   rcases anyOwnK_spec h with h | h
   ·exact kBuildF_spec h
   ·exact kBuild_spec h
  clear h
  obtain ⟨fv,h,hs⟩:=key
  refine ⟨_,h,fun lo' hg Lw bs ρ H w eval s hx=>?_⟩
  obtain ⟨v,hr,rv⟩:=hs hg ρ H w eval (fun x hx'=>hx x (by simpa [Op.operands] using hx'))
  simp only [execOp,List.map_toArray]
  exact upon_value s hr rv
 ·rename_i x i
  obtain ⟨x',h,hx'⟩:=evS_spec h
  split at h
  ·rename_i vs
   obtain ⟨c,hc,h⟩:=nthK_spec h
   refine ⟨_,h,fun lo hg Lw bs ρ H w eval s hx=>?_⟩
   have rx:=hx' ρ H _ hg (hx x (by simp [Op.operands]))
   simp only [RepF,RepP] at rx
   obtain ⟨us,e,q⟩:=rx
   obtain ⟨v,hv,rv⟩:=q.get hc
   exact upon_value s (v:=v) (by simp [e,Instr.extract,hv]) rv
  ·rename_i a b
   split at h
   ·refine ⟨_,h,fun lo hg Lw bs ρ H w eval s hx=>?_⟩
    obtain ⟨u,v,e,ru,rv⟩:=hx' ρ H _ hg (hx x (by simp [Op.operands]))
    exact upon_value s (v:=u) (by simp [e,Instr.extract]) ru
   ·refine ⟨_,h,fun lo hg Lw bs ρ H w eval s hx=>?_⟩
    obtain ⟨u,v,e,ru,rv⟩:=hx' ρ H _ hg (hx x (by simp [Op.operands]))
    exact upon_value s (v:=v) (by simp [e,Instr.extract]) rv
   ·exact h.elim
  ·rename_i ok a b
   have cut:∀ {Lw:Nat} {ρ:List Value} {H:(PH Lw)} {u:Value},ok = true → RepF ρ H (.nxt ok a b) u → ∃ y z,u = .tuple #[.bool true,y,z] ∧ RepP H a y ∧ RepP H b z:=by
    intro Lw ρ H u hok r
    simp only [RepF,hok,if_true] at r
    exact r
   split at h
   ·refine ⟨_,h,fun lo hg Lw bs ρ H w eval s hx=>?_⟩
    have r:=hx' ρ H _ hg (hx x (by simp [Op.operands]))
    cases ok with
    | true =>
     obtain ⟨u,v,e,_,_⟩:=cut rfl r
     exact upon_value s (v:=.bool true) (by simp [e,Instr.extract]) bool_rep
    | false =>
     simp only [RepF,Bool.false_eq_true,if_false] at r
     exact upon_value s (v:=.bool false) (by simp [r,Instr.extract]) bool_rep
   ·refine ⟨_,h.2,fun lo hg Lw bs ρ H w eval s hx=>?_⟩
    obtain ⟨u,v,e,ru,rv⟩:=cut (gI_on h.1 hg) (hx' ρ H _ hg (hx x (by simp [Op.operands])))
    exact upon_value s (v:=u) (by simp [e,Instr.extract]) ru
   ·refine ⟨_,h.2,fun lo hg Lw bs ρ H w eval s hx=>?_⟩
    obtain ⟨u,v,e,ru,rv⟩:=cut (gI_on h.1 hg) (hx' ρ H _ hg (hx x (by simp [Op.operands])))
    exact upon_value s (v:=v) (by simp [e,Instr.extract]) rv
   ·exact h.elim
  ·exact h.elim
 ·rename_i t x
  obtain ⟨x',h,hx'⟩:=evS_spec h
  split at h
  ·exact h.elim
  ·rename_i d hd hu
   split at h
   ·refine ⟨_,h,fun lo hg Lw bs ρ H w eval s hx=>?_⟩
    have rx:=hx' ρ H _ hg (hx x (by simp [Op.operands]))
    refine upon_value s (v:=.iface t (eval x)) ?_ (by simp only [RepF]; exact ⟨_,rfl,rx⟩)
    simp only [Instr.makeInterface,Sem.run_bind,run_underlying hu,Result.andThen_ok]
    rfl
   ·obtain ⟨p,h,hp⟩:=frzK_spec h
    refine ⟨_,h,fun lo hg Lw bs ρ H w eval s hx=>?_⟩
    have rx:=hp ρ H _ (hx' ρ H _ hg (hx x (by simp [Op.operands])))
    refine upon_value s (v:=.iface t (eval x)) ?_ (by simp only [RepF,RepP]; exact ⟨_,rfl,rx⟩)
    simp only [Instr.makeInterface,Sem.run_bind,run_underlying hu,Result.andThen_ok]
    rfl
  ·exact h.elim
 ·rename_i x t
  obtain ⟨x',h,hx'⟩:=evS_spec h
  obtain ⟨fv,h,hs⟩:=kLen_spec h
  refine ⟨_,h,fun lo hg Lw bs ρ H w eval s hx=>?_⟩
  obtain ⟨v,hr,rv⟩:=hs ρ H w ty _ (hx' ρ H _ hg (hx x (by simp [Op.operands,Call.operands])))
  simp only [execOp,resolve,invoke,builtin,Sem.run_bind,Sem.run_pure,Result.andThen_ok,List.map_toArray,List.map_cons,List.map_nil,hr]
  exact after_same s rv
 ·rename_i f xs ts
  obtain ⟨vs,h,hvs⟩:=evL_spec h
  obtain ⟨ps,h,hps⟩:=frzL_spec h
  obtain ⟨r,hc,h⟩:=h
  refine ⟨_,h,fun lo hg Lw bs ρ H w eval s hx=>?_⟩
  have hc:=gI_on hc hg
  have rl:=hps ρ H _ (hvs ρ H eval hg (fun y hy=>hx y (by simp [Op.operands,Call.operands,hy])))
  have:=hc H w _ s.sath rl
  have hf:(eval (.func f)) = .func (.func f) #[] #[]:=by
   have:=hx (.func f) (by simp [Op.operands,Call.operands])
   simpa [evF,RepF,RepP] using this
  simp only [execOp,resolve,Deferred.ofValue,invoke,hf,Sem.run_bind,Sem.run_pure,Result.andThen_ok,List.map_toArray,Array.empty_append,Array.append_empty]
  exact uponA_call s this
 ·obtain ⟨fv,h,hs⟩:=kPure2_sound (dst:=dst) (ty:=ty) (pos:=pos) (after:=after) (guard:=guard) h
  exact ⟨fv,h,hs⟩
theorem cell_of_H {H:(PH Lw)} {w:World} (s:SatH H w) {b o:Nat} {v:Value} (h:H b o = some v):w.cell? ⟨b,o,none⟩ = some v:=(s.cell b o v h).1
theorem run_loadAt_cells {w:World} {t:TypeId} {d:TypeDesc} {i:TypeInfo} (hd:P.underlying t = some d) (hi:P.info? t = some i) {b o:Nat} {vs:List Value}
  (hc:∀ j v,vs[j]? = some v → w.cell? ⟨b,o + j,none⟩ = some v) (hn:i.size ≤ vs.length) (hagg:aggD d = true) :
  (Instr.loadAt t (.pointer (some ⟨b,o,none⟩))).run P w = .ok (.agg (vs.take i.size).toArray) w:=by
 have hl:(loadCells ⟨b,o,none⟩ (vs.take i.size).length).run P w = .ok (vs.take i.size).toArray w :=
  run_loadCells_list (P:=P) w ⟨b,o,none⟩ (vs.take i.size) (fun j v hv=>by
   rw [Addr.add_lit]
   rw [List.getElem?_take] at hv
   split at hv
   ·exact hc j v hv
   ·cases hv)
 rw [List.length_take,Nat.min_eq_left hn] at hl
 simp [Instr.loadAt,Instr.sureAddr,loadVar,run_isAgg hd,hagg,Go.sizeOf,typeInfo,hi,hl]
theorem run_loadAt_cell {w:World} {t:TypeId} {d:TypeDesc} (hd:P.underlying t = some d) {b o:Nat} {v:Value}
  (hc:w.cell? ⟨b,o,none⟩ = some v) (hagg:aggD d = false):(Instr.loadAt t (.pointer (some ⟨b,o,none⟩))).run P w = .ok v w:=by
 simp [Instr.loadAt,Instr.sureAddr,loadVar,run_isAgg hd,hagg,hc]
theorem kLoad_spec {t:TypeId} {lo:List AObj} {x':FV} {R:FV → Prop} (h:kLoad P t lo x' R) :
  ∃ fv,R fv ∧ ∀ ⦃Lw:Nat⦄ (bs:(Base Lw)) (ρ:List Value) (H:(PH Lw)) (w:World) (v:Value),SatW bs ρ H lo w → RepF ρ H x' v → ∃ a u,v = .pointer (some a) ∧ (Instr.loadAt t v).run P w = .ok u w ∧ RepF ρ H fv u:=by
 unfold kLoad at h
 split at h
 ·rename_i k off
  obtain ⟨ob,hob,h⟩:=nthK_spec h
  split at h
  ·rename_i bt cells
   obtain ⟨h,hoff⟩:=dropK_spec h
   obtain ⟨d,i,hd,hi,h⟩:=typeK_spec h
   split at h
   ·rename_i hagg
    obtain ⟨h,hn⟩:=takeK_spec h
    split at h
    ·refine ⟨_,h,fun Lw bs ρ H w v s hx=>?_⟩
     obtain ⟨b,hb,rfl⟩:=hx
     obtain ⟨b',vs,e',hg',hcs,_⟩:=s.objs k _ _ hob hb
     cases e'
     refine ⟨_,_,rfl,run_loadAt_cells hd hi (cells_of_row hg' off) (by rw [List.length_drop] at hn ⊢; rw [hcs.length]; exact hn) hagg,?_⟩
     exact ⟨_,rfl,tupC_rep ((hcs.drop off).take _)⟩
    ·obtain ⟨ps,h,hps⟩:=frzL_spec h
     refine ⟨_,h,fun Lw bs ρ H w v s hx=>?_⟩
     obtain ⟨b,hb,rfl⟩:=hx
     obtain ⟨b',vs,e',hg',hcs,_⟩:=s.objs k _ _ hob hb
     cases e'
     refine ⟨_,_,rfl,run_loadAt_cells hd hi (cells_of_row hg' off) (by rw [List.length_drop] at hn ⊢; rw [hcs.length]; exact hn) hagg,?_⟩
     simp only [RepF,RepP]
     exact ⟨_,rfl,hps _ _ _ ((hcs.drop off).take _)⟩
   ·rename_i hagg
    split at h
    ·rename_i c r hc
     refine ⟨_,h,fun Lw bs ρ H w v s hx=>?_⟩
     obtain ⟨b,hb,rfl⟩:=hx
     obtain ⟨b',vs,e',hg',hcs,_⟩:=s.objs k _ _ hob hb
     cases e'
     have hd2:=hcs.drop off
     rw [hc] at hd2
     obtain ⟨v,vs',e2,rv,_⟩:=hd2
     have:=cells_of_row hg' off 0 v (by rw [e2]; simp)
     exact ⟨_,_,rfl,run_loadAt_cell hd (by simpa using this) hagg,rv⟩
    ·exact h.elim
  ·rename_i bt c
   split at h
   ·rename_i ho
    obtain ⟨d,i,hd,hi,h⟩:=typeK_spec h
    split at h
    ·exact h.elim
    ·rename_i hagg
     refine ⟨_,h,fun Lw bs ρ H w v s hx=>?_⟩
     obtain ⟨b,hb,rfl⟩:=hx
     obtain ⟨b',u,us,e',hg',hcs,_⟩:=s.objs k _ _ hob hb
     cases e'
     have ho:=Nat.eq_of_beq_eq_true ho
     have:=cells_of_row hg' 0 0 u (by simp)
     rw [ho]
     exact ⟨_,_,rfl,run_loadAt_cell hd (by simpa using this) hagg,hcs⟩
   ·exact h.elim
  ·exact h.elim
 ·rename_i row
  obtain ⟨d,i,hd,hi,h⟩:=typeK_spec h
  split at h
  ·rename_i hagg
   obtain ⟨h,hn⟩:=takeK_spec h
   refine ⟨_,h,fun Lw bs ρ H w v s hx=>?_⟩
   obtain ⟨b,o',vs,rfl,q,c⟩:=hx
   refine ⟨_,_,rfl,run_loadAt_cells hd hi (fun j v hv=>cell_of_H s.sath (c j v hv)) (by rw [q.length]; exact hn) hagg,?_⟩
   simp only [RepF,RepP]
   exact ⟨_,rfl,q.take _⟩
  ·rename_i hagg
   split at h
   ·rename_i c0 r hc
    refine ⟨_,h,fun Lw bs ρ H w v s hx=>?_⟩
    obtain ⟨b,o',vs,rfl,q,c⟩:=hx
    simp only [RepL] at q
    obtain ⟨u,vs',e2,rv,_⟩:=q
    have:=cell_of_H s.sath (c 0 u (by rw [e2]; simp))
    exact ⟨_,_,rfl,run_loadAt_cell hd (by simpa using this) hagg,rv⟩
   ·exact h.elim
 ·exact h.elim
theorem kLoad_sound {o:Oper} {t:TypeId} {x:Operand} (ho:o.op = .load t x) {E:Env} {g:G} {lo:List AObj} {R:FV → Prop} (h:evS E g x fun x=>kLoad P t lo x R) :
  ∃ fv,R fv ∧ StepSem P o (lookD E) lo g fv lo:=by
 obtain ⟨x',h,hx'⟩:=evS_spec h
 obtain ⟨fv,h,hs⟩:=kLoad_spec h
 refine ⟨_,h,fun hg Lw bs ρ H w eval s hx=>?_⟩
 obtain ⟨a,u,_,hr,ru⟩:=hs bs ρ H w _ s (hx' ρ H _ hg (hx x (by simp [ho,Op.operands])))
 simp only [execOp,ho]
 exact upon_value s hr ru
theorem kConv_sound {o:Oper} {sr d:TypeId} {x:Operand} (ho:o.op = .convert sr d x) {E:Env} {g:G} {lo:List AObj} {R:FV → Prop} (h:evS E g x fun x=>kBytes P g sr d lo x R) :
  ∃ fv,R fv ∧ StepSem P o (lookD E) lo g fv lo:=by
 obtain ⟨x',h,hx'⟩:=evS_spec h
 obtain ⟨fv,h,hs⟩:=kBytes_spec h
 refine ⟨_,h,fun hg Lw bs ρ H w eval s hx=>?_⟩
 obtain ⟨u,hr,ru⟩:=hs hg bs ρ H w _ s (hx' ρ H _ hg (hx x (by simp [ho,Op.operands])))
 simp only [execOp,ho]
 exact upon_value s hr ru
end
end Ax
end
section
namespace Ax
open Go
variable {Lw:Nat}
theorem RepV.length {H:(PH Lw)} {z:Nat}:∀ {rows:List (List PV)} {vs:List Value},RepV H z rows vs → vs.length = rows.length * z
 | [],_,x=>by simp only [RepV] at x; simp [x]
 | r :: rs,vs,x=>by
  simp only [RepV] at x
  obtain ⟨hz,a,b,rfl,q,y⟩:=x
  rw [List.length_append,q.length,hz,y.length,List.length_cons,Nat.add_mul,Nat.one_mul,Nat.add_comm]
theorem RepV.append {H:(PH Lw)} {z:Nat}:∀ {rows rows':List (List PV)} {vs us:List Value},RepV H z rows vs → RepV H z rows' us → RepV H z (rows ++ rows') (vs ++ us)
 | [],_,vs,us,x,y=>by simp only [RepV] at x; simpa [x] using y
 | r :: rs,_,vs,us,x,y=>by
  obtain ⟨hz,a,b,e,q,x'⟩:=x
  exact ⟨hz,a,b ++ us,by rw [e,List.append_assoc],q,x'.append y⟩
theorem RepR.flat {H:(PH Lw)} {b z:Nat}:∀ {o:Nat} {rows:List (List PV)},RepR H b z o rows → ∃ vs,RepV H z rows vs ∧ ∀ j v,vs[j]? = some v → H b (o + j) = some v
 | o,[],_=>⟨[],rfl,fun j v h=>by simp at h⟩
 | o,r :: rs,x=>by
  simp only [RepR] at x
  obtain ⟨hz,⟨vs,q,c⟩,x'⟩:=x
  obtain ⟨us,y,c'⟩:=x'.flat
  refine ⟨vs ++ us,⟨hz,vs,us,rfl,q,y⟩,fun j v hv=>?_⟩
  have hl:vs.length = z:=by rw [q.length,hz]
  rcases Nat.lt_or_ge j vs.length with hj | hj
  ·rw [List.getElem?_append_left hj] at hv; exact c j v hv
  ·rw [List.getElem?_append_right hj] at hv
   have:=c' _ _ hv
   have e:o + z + (j - vs.length) = o + j:=by omega
   rwa [e] at this
theorem RepV.unflat {H:(PH Lw)} {b z:Nat}:∀ {o:Nat} {rows:List (List PV)} {vs:List Value},RepV H z rows vs → (∀ j v,vs[j]? = some v → H b (o + j) = some v) → RepR H b z o rows
 | _,[],_,_,_=>by simp [RepR]
 | o,r :: rs,vs,x,c=>by
  obtain ⟨hz,a,b',rfl,q,y⟩:=x
  have hl:a.length = z:=by rw [q.length,hz]
  simp only [RepR]
  refine ⟨hz,⟨a,q,fun j v hv=>c j v ?_⟩,y.unflat fun j v hv=>?_⟩
  ·have:=(List.getElem?_eq_some_iff.1 hv).1
   rw [List.getElem?_append_left this]; exact hv
  ·have:=c (z + j) v (by rw [List.getElem?_append_right (by omega)]; rw [hl,Nat.add_sub_cancel_left]; exact hv)
   rwa [← Nat.add_assoc] at this
theorem sl_flat {H:(PH Lw)} {rows:List (List PV)} {v:Value} {z:Nat} (h:RepP H (.sl rows) v) (hz:∀ r ∈ rows,r.length = z) :
  (rows = [] ∧ (v = .slice none 0 0 ∨ ∃ a cap,v = .slice (some a) 0 cap)) ∨ ∃ b o cap vs,v = .slice (some ⟨b,o,none⟩) rows.length cap ∧ rows.length ≤ cap ∧ RepV H z rows vs ∧ ∀ j u,vs[j]? = some u → H b (o + j) = some u:=by
 simp only [RepP] at h
 rcases h with h | ⟨b,o,z',cap,e,hc,r⟩
 ·exact .inl h
 ·refine .inr ⟨b,o,cap,?_⟩
  cases rows with
  | nil=>exact ⟨[],e,hc,rfl,fun j u h=>by simp at h⟩
  | cons r0 rs =>
   have:z' = z:=by
    simp only [RepR] at r
    rw [← r.1]; exact hz r0 (by simp)
   subst this
   obtain ⟨vs,y,c⟩:=r.flat
   exact ⟨vs,e,hc,y,c⟩
theorem SatW.kill {bs:(Base Lw)} {ρ:List Value} {H:(PH Lw)} {lo:List AObj} {w:World} (s:SatW bs ρ H lo w) (k:Nat):SatW bs ρ H (lo.set k .dead) w where
 sath:=s.sath
 hlen:=by simpa using s.hlen
 pre:=s.pre
 objs:=fun i o v hi hv=>by
  rw [List.getElem?_set] at hi
  split at hi
  ·split at hi
   ·cases hi; trivial
   ·cases hi
  ·exact s.objs i o v hi hv
 excl:=fun i j o o' v v' b hi hj hv hv' hne hl hl' hb=>by
  rw [List.getElem?_set] at hi hj
  split at hi
  ·split at hi
   ·cases hi; simp [AObj.live] at hl
   ·cases hi
  ·split at hj
   ·split at hj
    ·cases hj; simp [AObj.live] at hl'
    ·cases hj
   ·exact s.excl i j o o' v v' b hi hj hv hv' hne hl hl' hb
 own:=fun i o v b hi hv hl hb=>by
  rw [List.getElem?_set] at hi
  split at hi
  ·split at hi
   ·cases hi; simp [AObj.live] at hl
   ·cases hi
  ·exact s.own i o v b hi hv hl hb
 keep:=s.keep
 leH:=s.leH
 newH:=s.newH
theorem SatW.push {bs:(Base Lw)} {ρ:List Value} {H H':(PH Lw)} {lo:List AObj} {w w':World} (s:SatW bs ρ H lo w) {v:Value} {o:AObj} {g:Nat}
  (hv:blkOf v = some g ∨ blkOf v = none)
  (hfree:∀ (k:Nat) (o':AObj) (v':Value),lo[k]? = some o' → ρ[k]? = some v' → o'.live = true → blkOf v' ≠ some g)
  (hown:bs.S g ∨ bs.w0.heap.size ≤ g) (hle:PH.le H H') (hsat:SatH H' w')
  (hnew:∀ b o v,H' b o = some v → (∃ v,H b o = some v) ∨ b = g) (hkeep:Keep (fun b=>b = g) w w')
  (hok:ObjOk (ρ ++ [v]) H' w' v o):SatW bs (ρ ++ [v]) H' (lo ++ [o]) w' where
 sath:=hsat
 hlen:=by simp [s.hlen]
 pre:=s.pre.trans (List.prefix_append _ _)
 objs:=fun i ob u hi hu=>by
  rw [List.getElem?_append] at hi hu
  rw [s.hlen] at hu
  split at hi
  ·rename_i hlt
   simp only [hlt,if_true] at hu
   cases hl:ob.live with
   | false=>cases ob <;> simp [AObj.live] at hl; trivial
   | true =>
    refine (s.objs i ob u hi hu).keep (List.prefix_append _ _) hle (fun b hb hlt'=>hkeep.block b hlt' (fun e=>hfree i ob u hi hu hl (by rw [hb,e]))) (fun b o' hb _ hn=>?_)
    cases hx:H' b o' with
    | none=>rfl
    | some x =>
     rcases hnew b o' x hx with ⟨y,hy⟩ | e
     ·rw [hn] at hy; cases hy
     ·exact absurd (by rw [hb,e]) (hfree i ob u hi hu hl)
  ·rename_i hlt
   simp only [hlt,if_false] at hu
   have h1:=(List.getElem?_eq_some_iff.1 hi).1
   simp at h1
   have h0:i - lo.length = 0:=by omega
   rw [h0] at hi hu
   simp at hi hu
   subst hi; subst hu
   exact hok
 excl:=fun i j oi oj vi vj b hi hj hvi hvj hne hli hlj hb=>by
  rw [List.getElem?_append] at hi hj hvi hvj
  rw [s.hlen] at hvi hvj
  have last:∀ {x:Nat} {ob:AObj} {u:Value},¬ x < lo.length → [o][x - lo.length]? = some ob → [v][x - lo.length]? = some u → x = lo.length ∧ u = v:=by
   intro x ob u hx h1 h2
   have:=(List.getElem?_eq_some_iff.1 h1).1
   simp at this
   have h0:x - lo.length = 0:=by omega
   rw [h0] at h2
   simp at h2
   exact ⟨by omega,h2.symm⟩
  by_cases h1:i < lo.length <;> by_cases h2:j < lo.length <;> simp only [h1,h2,if_true,if_false] at hi hj hvi hvj
  ·exact s.excl i j oi oj vi vj b hi hj hvi hvj hne hli hlj hb
  ·obtain ⟨_,rfl⟩:=last h2 hj hvj
   intro hb'
   rcases hv with hv | hv
   ·rw [hv] at hb'; cases hb'; exact hfree i oi vi hi hvi hli hb
   ·rw [hv] at hb'; cases hb'
  ·obtain ⟨_,rfl⟩:=last h1 hi hvi
   intro hb'
   rcases hv with hv | hv
   ·rw [hv] at hb; cases hb; exact hfree j oj vj hj hvj hlj hb'
   ·rw [hv] at hb; cases hb
  ·obtain ⟨e1,_⟩:=last h1 hi hvi
   obtain ⟨e2,_⟩:=last h2 hj hvj
   omega
 own:=fun i ob u b hi hu hl hb=>by
  rw [List.getElem?_append] at hi hu
  rw [s.hlen] at hu
  split at hi
  ·rename_i hlt
   simp only [hlt,if_true] at hu
   exact s.own i ob u b hi hu hl hb
  ·rename_i hlt
   simp only [hlt,if_false] at hu
   have h1:=(List.getElem?_eq_some_iff.1 hi).1
   simp at h1
   have h0:i - lo.length = 0:=by omega
   rw [h0] at hu
   simp at hu
   subst hu
   rcases hv with hv | hv
   ·rw [hv] at hb; cases hb; exact hown
   ·rw [hv] at hb; cases hb
 keep:=s.keep.step hkeep (fun i hi=>by
  subst hi
  rcases hown with h | h
  ·exact .inl h
  ·exact .inr h)
 leH:=s.leH.trans hle
 newH:=fun b o v hb=>by
  rcases hnew b o v hb with ⟨y,hy⟩ | e
  ·exact s.newH b o y hy
  ·subst e; exact .inr hown
theorem SatW.fresh {bs:(Base Lw)} {ρ:List Value} {H:(PH Lw)} {lo:List AObj} {w:World} (s:SatW bs ρ H lo w) {g:Nat} (hg:w.heap.size ≤ g) :
  ∀ (k:Nat) (o':AObj) (v':Value),lo[k]? = some o' → ρ[k]? = some v' → o'.live = true → blkOf v' ≠ some g:=fun k o v hk hv hl hb=>by
 have:=s.objs k o v hk hv
 cases o with
 | dead=>simp [AObj.live] at hl
 | box t cells =>
  obtain ⟨b,vs,rfl,hgt,_⟩:=this
  simp [blkOf] at hb
  have:=lt_of_get hgt
  omega
 | tail e z n =>
  obtain ⟨xs,ho,_⟩:=this
  rcases ho.2 with ⟨rfl,_⟩ | ⟨g',cap,cur,rfl,_,hgt,_⟩
  ·simp [blkOf] at hb
  ·simp [blkOf] at hb
   have:=lt_of_get hgt
   omega
 | vec e z n =>
  obtain ⟨xs,ho,_⟩:=this
  rcases ho.2 with ⟨rfl,_⟩ | ⟨g',cap,cur,rfl,_,hgt,_⟩
  ·simp [blkOf] at hb
  ·simp [blkOf] at hb
   have:=lt_of_get hgt
   omega
 | mp d es mk =>
  obtain ⟨b,ents,clock,rfl,hgt,_⟩:=this
  simp [blkOf] at hb
  have:=lt_of_get hgt
  omega
 | sit l pos =>
  obtain ⟨b,rfl,hgt,_⟩:=this
  simp [blkOf] at hb
  have:=lt_of_get hgt
  omega
 | bv l =>
  obtain ⟨b,cs,e,cap,lo,hi,rfl,hgt,_⟩:=this
  simp [blkOf] at hb
  have:=lt_of_get hgt
  omega
 | pbx t c =>
  obtain ⟨b,u,us,rfl,hgt,_⟩:=this
  simp [blkOf] at hb
  have:=lt_of_get hgt
  omega
 | vl e z rows j k =>
  obtain ⟨xs,ho,_⟩:=this
  rcases ho.2 with ⟨rfl,_⟩ | ⟨g',cap,cur,rfl,_,hgt,_⟩
  ·simp [blkOf] at hb
  ·simp [blkOf] at hb
   have:=lt_of_get hgt
   omega
theorem keep_alloc (w:World) (o:Obj) (g:Nat):Keep (fun b=>b = g) w (w.alloc o) :=
 ⟨rfl,rfl,rfl,by simp,fun k hk _=>heap_alloc_old w o hk⟩
theorem keep_drew_alloc (w:World) (o:Obj) (g:Nat):Keep (fun b=>b = g) w (w.drew.alloc o) :=
 ⟨rfl,rfl,rfl,by simp,fun k hk _=>heap_alloc_old w.drew o hk⟩
theorem satH_alloc {H:(PH Lw)} {w:World} (s:SatH H w) (o:Obj):SatH H (w.alloc o):=⟨fun b p v hv=>by
 refine ⟨?_,(s.cell b p v hv).2⟩
 rw [World.cell?_alloc_lt (h:=s.lt hv)]
 exact (s.cell b p v hv).1,s.root,by have:=s.low; simp; omega,fun b p v hv hL=>(s.nf b p v hv hL).block (heap_alloc_old w o (s.lt hv))⟩
theorem SatW.pushBox {bs:(Base Lw)} {ρ:List Value} {H:(PH Lw)} {lo:List AObj} {w:World} (s:SatW bs ρ H lo w) {t:TypeId} {cells:List FV} {vs:List Value} (hc:RepFL ρ H cells vs) :
  SatW bs (ρ ++ [.pointer (some ⟨w.heap.size,0,none⟩)]) H (lo ++ [.box t cells]) (w.alloc (.cells vs.toArray t)):=by
 refine s.push (g:=w.heap.size) (.inl rfl) (s.fresh (Nat.le_refl _)) (.inr s.keep.size) (PH.le.refl H) (satH_alloc s.sath _) (fun b o v h=>.inl ⟨v,h⟩) (keep_alloc w _ _) ?_
 refine ⟨w.heap.size,vs,rfl,heap_alloc_new w _,hc.mono (List.prefix_append _ _) (PH.le.refl H),fun o=>?_⟩
 cases hx:H w.heap.size o with
 | none=>rfl
 | some x=>exact absurd (s.sath.lt hx) (Nat.lt_irrefl _)
theorem allOne_spec {ρ:List Value} {H:(PH Lw)}:∀ {fs:List FV} {vs:List Value},allOne fs = true → RepFL ρ H fs vs → ∀ u ∈ vs,u.oneCell' = true
 | [],vs,_,r,u,hu=>by simp only [RepFL] at r; simp [r] at hu
 | f :: fs,vs,h,r,u,hu=>by
  simp only [allOne] at h
  split at h
  ·rename_i h1
   obtain ⟨v,vs',rfl,r1,rs⟩:=r
   rcases List.mem_cons.1 hu with rfl | hu
   ·exact (oneF_cells h1 r1).2
   ·exact allOne_spec h rs u hu
  ·cases h
theorem chainK_spec:∀ {c:FV} {R:List FV → Prop},chainK c R → ∃ cs,R cs ∧ ∀ ⦃Lw:Nat⦄ (ρ:List Value) (H:(PH Lw)) (vs:List Value),RepF ρ H c (.tuple vs.toArray) → RepFL ρ H cs vs
 | .cap0,R,h=>⟨[],h,fun Lw ρ H vs r=>by
   simp only [RepF,Value.tuple.injEq] at r
   simpa [RepFL] using r⟩
 | .cap a b,R,h=>by
  simp only [chainK] at h
  obtain ⟨ps,h,hps⟩:=chainK_spec h
  refine ⟨_,h,fun Lw ρ H vs r=>?_⟩
  obtain ⟨u,us,e,ra,rb⟩:=r
  have e:vs = u :: us:=by simpa using e
  subst e
  exact ⟨u,us,rfl,ra,hps _ _ _ rb⟩
 | .top,_,h | .p _,_,h | .opt _ _,_,h | .tsl _ _,_,h | .ptr _ _,_,h | .hptr _,_,h | .bself _,_,h | .bsl _ _ _ _,_,h | .vsl _ _,_,h | .eptr _ _ _ _,_,h | .mref _,_,h | .pair _ _,_,h | .stmp _,_,h | .clo _ _,_,h | .fagg _,_,h | .nxt _ _ _,_,h | .asl _ _ _,_,h | .ifs _ _,_,h | .cut _,_,h=>by
  simp [chainK] at h
theorem cellsK_spec {f:FV} {R:List FV → Prop} (h:cellsK f R):∃ cs,R cs ∧ ∀ ⦃Lw:Nat⦄ (ρ:List Value) (H:(PH Lw)) (x:Value),RepF ρ H f x → RepFL ρ H cs x.cells.toList:=by
 unfold cellsK at h
 split at h
 ·rename_i cs
  refine ⟨_,mapP_spec h,fun Lw ρ H x r=>?_⟩
  simp only [RepF,RepP] at r
  obtain ⟨vs,rfl,q⟩:=r
  simpa [Value.cells] using RepFL.of_RepL q
 ·rename_i c
  obtain ⟨cs,h,hcs⟩:=chainK_spec h
  refine ⟨_,h,fun Lw ρ H x r=>?_⟩
  obtain ⟨vs,rfl,rc⟩:=r
  simpa [Value.cells] using hcs ρ H vs rc
 ·split at h
  ·rename_i h1
   refine ⟨_,h,fun Lw ρ H x r=>?_⟩
   rw [(oneF_cells h1 r).1]
   exact ⟨x,[],rfl,r,rfl⟩
  ·exact h.elim
theorem zeroK_spec {P:Program} {t:TypeId} {R:List PV → Prop} (h:zeroK P t R):∃ i z ps,P.info? t = some i ∧ i.zero = some z ∧ R ps ∧ ∀ ⦃Lw:Nat⦄ (H:PH Lw),RepL H ps z.cells.toList:=by
 unfold zeroK at h
 split at h
 ·rename_i i hi
  split at h
  ·rename_i vs hz
   obtain ⟨ps,hr,hs⟩:=ofVs_spec h
   exact ⟨i,_,ps,hi,hz,hr,fun Lw H=>by simpa [Value.cells] using hs H⟩
  ·rename_i v hne hz
   obtain ⟨ps,hr,hs⟩:=ofVs_spec h
   refine ⟨i,v,ps,hi,hz,hr,fun Lw H=>?_⟩
   have:v.cells = #[v]:=by
    cases v <;> first | rfl | skip
    rename_i cs
    exact absurd rfl (hne cs.toList)
   rw [this]
   simpa using hs H
  ·exact h.elim
 ·exact h.elim
theorem SatW.setBox {bs:(Base Lw)} {ρ:List Value} {H:(PH Lw)} {lo:List AObj} {w:World} (s:SatW bs ρ H lo w) {k b:Nat} {t:TypeId} {old cells:List FV} {vs0 vs:List Value}
  (hk:lo[k]? = some (.box t old)) (hv:ρ[k]? = some (.pointer (some ⟨b,0,none⟩))) (hg:w.heap[b]? = some (.cells vs0.toArray t (0,0))) (hH:∀ o,H b o = none)
  (hc:RepFL ρ H cells vs):SatW bs ρ H (lo.set k (.box t cells)) (w.setRow b vs.toArray) where
 sath:=s.sath.block (by simp [World.setRow]) fun b' o v hb=>setRow_other w b b' _ (fun e=>by subst e; rw [hH o] at hb; cases hb)
 hlen:=by simpa using s.hlen
 pre:=s.pre
 objs:=fun i o v hi hv'=>by
  rw [List.getElem?_set] at hi
  split at hi
  ·rename_i e
   subst e
   split at hi
   ·cases hi
    rw [hv] at hv'
    cases hv'
    exact ⟨b,vs,rfl,setRow_heap w b _ _ t _ hg,hc,hH⟩
   ·cases hi
  ·rename_i hne
   cases hl:o.live with
   | false=>cases o <;> simp [AObj.live] at hl; trivial
   | true =>
    have hex:=s.excl k i _ o _ v b hk hi hv hv' hne rfl hl rfl
    exact (s.objs i o v hi hv').keep (List.prefix_refl _) (PH.le.refl H) (fun b' hb' _=>setRow_other w b b' _ (fun e=>hex (by rw [hb',e]))) (fun b' o' _ _ hn=>hn)
 excl:=fun i j oi oj vi vj b' hi hj hvi hvj hne hli hlj hb=>by
  rw [List.getElem?_set] at hi hj
  have live:∀ {x:Nat} {ob:AObj},(if k = x then if k < lo.length then some (AObj.box t cells) else none else lo[x]?) = some ob → ob.live = true → ∃ o',lo[x]? = some o' ∧ o'.live = true:=by
   intro x ob h hl
   split at h
   ·rename_i e; subst e; exact ⟨_,hk,rfl⟩
   ·exact ⟨ob,h,hl⟩
  obtain ⟨o1,h1,l1⟩:=live hi hli
  obtain ⟨o2,h2,l2⟩:=live hj hlj
  exact s.excl i j o1 o2 vi vj b' h1 h2 hvi hvj hne l1 l2 hb
 own:=fun i o v b' hi hv' hl hb=>by
  rw [List.getElem?_set] at hi
  split at hi
  ·rename_i e; subst e; exact s.own k _ v b' hk hv' rfl hb
  ·exact s.own i o v b' hi hv' hl hb
 keep:=s.keep.step (S':=fun x=>x = b) ⟨rfl,rfl,rfl,by simp,fun x _ hx=>setRow_other w b x _ hx⟩ (fun i hi=>by
  subst hi
  exact s.own k _ _ i hk hv rfl rfl)
 leH:=s.leH
 newH:=s.newH
end Ax
end
section
namespace Ax
open Go
variable {Lw:Nat}
theorem SatW.upd {bs:(Base Lw)} {ρ:List Value} {H:(PH Lw)} {lo:List AObj} {w w':World} (s:SatW bs ρ H lo w) {k b:Nat} {o o':AObj} {v:Value}
  (hk:lo[k]? = some o) (hv:ρ[k]? = some v) (hl:o.live = true) (hb:blkOf v = some b) (hH:∀ i,H b i = none) (hkeep:Keep (fun x=>x = b) w w') (hob:ObjOk ρ H w' v o'):SatW bs ρ H (lo.set k o') w' where
 sath:=s.sath.block hkeep.size fun b' i u hu=>hkeep.block b' (s.sath.lt hu) (fun e=>by subst e; rw [hH i] at hu; cases hu)
 hlen:=by simpa using s.hlen
 pre:=s.pre
 objs:=fun i oi vi hi hvi=>by
  rw [List.getElem?_set] at hi
  split at hi
  ·rename_i e
   subst e
   split at hi
   ·cases hi
    rw [hv] at hvi
    cases hvi
    exact hob
   ·cases hi
  ·rename_i hne
   cases hli:oi.live with
   | false=>cases oi <;> simp [AObj.live] at hli; trivial
   | true =>
    have hex:=s.excl k i _ oi _ vi b hk hi hv hvi hne hl hli hb
    exact (s.objs i oi vi hi hvi).keep (List.prefix_refl _) (PH.le.refl H) (fun b' hb' hlt=>hkeep.block b' hlt (fun e=>hex (by rw [hb',e]))) (fun b' i' _ _ hn=>hn)
 excl:=fun i j oi oj vi vj b' hi hj hvi hvj hne hli hlj hbi=>by
  rw [List.getElem?_set] at hi hj
  have live:∀ {x:Nat} {ob:AObj},(if k = x then if k < lo.length then some o' else none else lo[x]?) = some ob → ob.live = true → ∃ o2,lo[x]? = some o2 ∧ o2.live = true:=by
   intro x ob h hl'
   split at h
   ·rename_i e; subst e; exact ⟨_,hk,hl⟩
   ·exact ⟨ob,h,hl'⟩
  obtain ⟨o1,h1,l1⟩:=live hi hli
  obtain ⟨o2,h2,l2⟩:=live hj hlj
  exact s.excl i j o1 o2 vi vj b' h1 h2 hvi hvj hne l1 l2 hbi
 own:=fun i oi vi b' hi hvi hli hbi=>by
  rw [List.getElem?_set] at hi
  split at hi
  ·rename_i e; subst e; exact s.own k _ vi b' hk hvi hl hbi
  ·exact s.own i oi vi b' hi hvi hli hbi
 keep:=s.keep.step hkeep (fun i hi=>by
  subst hi
  exact s.own k _ _ i hk hv hl hb)
 leH:=s.leH
 newH:=s.newH
def AObj.boxy:AObj → Bool
 | .box _ _=>true
 | .mp _ _ _=>true
 | .pbx _ _=>true
 | _=>false
def EffRel (b:Bool) (lo lo':List AObj):Prop:=lo.length ≤ lo'.length ∧ (b = true → ∀ k ob,k < lo.length → ob.boxy = true → (lo[k]? = some ob ↔ lo'[k]? = some ob))
theorem EffRel.refl {b:Bool} (lo:List AObj):EffRel b lo lo:=⟨Nat.le_refl _,fun _ _ _ _ _=>Iff.rfl⟩
theorem EffRel.push {b:Bool} {lo:List AObj} (o:AObj):EffRel b lo (lo ++ [o]):=⟨by simp,fun _ k ob hk _=>by rw [List.getElem?_append_left hk]⟩
theorem EffRel.set {lo:List AObj} (k:Nat) (o:AObj):EffRel false lo (lo.set k o):=⟨by simp,fun h=>by cases h⟩
theorem EffRel.len {lo lo':List AObj} (h:lo'.length = lo.length):EffRel false lo lo':=⟨by omega,fun h=>by cases h⟩
theorem EffRel.kill {b:Bool} {lo:List AObj} {k0:Nat} {o0:AObj} (o:AObj) (h:lo[k0]? = some o0) (h0:o0.boxy = false):EffRel b lo (lo.set k0 .dead ++ [o]):=⟨by simp,fun _ k ob hk hb=>by
 rw [List.getElem?_append_left (by simpa using hk),List.getElem?_set]
 split
 ·rename_i e
  subst e
  rw [if_pos hk,h]
  constructor
  ·intro e; cases e; rw [h0] at hb; cases hb
  ·intro e; cases e; cases hb
 ·exact Iff.rfl⟩
theorem EffRel.trans {b:Bool} {l1 l2 l3:List AObj} (h:EffRel b l1 l2) (k:EffRel b l2 l3):EffRel b l1 l3 :=
 ⟨Nat.le_trans h.1 k.1,fun hb i ob hi hy=>(h.2 hb i ob hi hy).trans (k.2 hb i ob (Nat.lt_of_lt_of_le hi h.1) hy)⟩
section
variable {P:Program} {w:World}
theorem keyIs_spec {d' d:TypeDesc} {kp:PV} {R:Prop} (h:keyIs d' d kp R):R ∧ d' = d ∧ ∀ ⦃Lw:Nat⦄ (H:(PH Lw)) (v:Value),RepP H kp v → MapKept.IsKey d v:=by
 unfold keyIs at h
 split at h
 ·exact ⟨h,rfl,fun Lw H v r=>by simp only [RepP] at r; subst r; trivial⟩
 ·exact ⟨h,rfl,fun Lw H v r=>by simp only [RepP] at r; subst r; trivial⟩
 ·split at h
  ·rename_i h1
   split at h
   ·rename_i h2
    have h1:=kindEq_spec h1
    have h2:=kindEq_spec h2
    subst h1; subst h2
    exact ⟨h,rfl,fun Lw H v r=>by simp only [RepP] at r; subst r; rfl⟩
   ·exact h.elim
  ·exact h.elim
 ·exact h.elim
theorem mapK_spec {t:TypeId} {d:TypeDesc} {kp:PV} {R:TypeId → Prop} (h:mapK P t d kp R):∃ kt et,R et ∧ P.underlying t = some (.map kt et) ∧ P.underlying kt = some d ∧ ∀ ⦃Lw:Nat⦄ (H:(PH Lw)) (v:Value),RepP H kp v → MapKept.IsKey d v:=by
 unfold mapK at h
 split at h
 ·rename_i kt et ht
  split at h
  ·rename_i d' hd
   obtain ⟨h2,rfl,hk⟩:=keyIs_spec h
   exact ⟨kt,et,h2,ht,hd,hk⟩
  ·exact h.elim
 ·exact h.elim
theorem bytes_inj {a b:List UInt8}:(Value.string ⟨a.toArray⟩ = Value.string ⟨b.toArray⟩) ↔ a = b:=by
 constructor
 ·intro h
  injection h with h
  injection h with h
  simpa using h
 ·rintro rfl; rfl
theorem kEqP_spec {H:(PH Lw)} {d:TypeDesc} {p q:PV} {x y:Value} (hp:RepP H p x) (hq:RepP H q y) (hx:MapKept.IsKey d x) (hy:MapKept.IsKey d y):kEqP p q = true ↔ y = x:=by
 have b1:∀ {p:PV} {b:Bool},RepP H p (.bool b) → p = .bool b:=by
  intro p b h
  cases p <;> simp only [RepP] at h <;> (try (obtain ⟨_,_,_,h,_,_⟩:=h; cases h; done)) <;> (try (obtain ⟨_,h,_⟩:=h; cases h)) <;> (try (rcases h with ⟨_,h | ⟨_,_,h⟩⟩ | ⟨_,_,_,_,h,_⟩ <;> cases h)) <;> (try (rcases h with ⟨_,h⟩ | ⟨_,_,h,_⟩ <;> cases h; done)) <;> try cases h
  rfl
 have b2:∀ {p:PV} {k:IntKind} {n:Int},RepP H p (.int k n) → p = .int k n:=by
  intro p k n h
  cases p <;> simp only [RepP] at h <;> (try (obtain ⟨_,_,_,h,_,_⟩:=h; cases h; done)) <;> (try (obtain ⟨_,h,_⟩:=h; cases h)) <;> (try (rcases h with ⟨_,h | ⟨_,_,h⟩⟩ | ⟨_,_,_,_,h,_⟩ <;> cases h)) <;> (try (rcases h with ⟨_,h⟩ | ⟨_,_,h,_⟩ <;> cases h; done)) <;> try cases h
  rfl
 have b3:∀ {p:PV} {b:ByteArray},RepP H p (.string b) → ∃ l:List UInt8,p = .str l ∧ b = ⟨l.toArray⟩:=by
  intro p b h
  cases p <;> simp only [RepP] at h <;> (try (obtain ⟨_,_,_,h,_,_⟩:=h; cases h; done)) <;> (try (obtain ⟨_,h,_⟩:=h; cases h)) <;> (try (rcases h with ⟨_,h | ⟨_,_,h⟩⟩ | ⟨_,_,_,_,h,_⟩ <;> cases h)) <;> (try (rcases h with ⟨_,h⟩ | ⟨_,_,h,_⟩ <;> cases h; done)) <;> try cases h
  exact ⟨_,rfl,rfl⟩
 cases d <;> cases x <;> cases y <;> simp only [MapKept.IsKey] at hx hy
 ·rw [b1 hp,b1 hq]
  simp only [kEqP,beq_iff_eq]
  exact ⟨fun h=>by rw [h],fun h=>by injection h with h; exact h.symm⟩
 ·subst hx; subst hy
  rw [b2 hp,b2 hq]
  simp only [kEqP,beq_iff_eq]
  exact ⟨fun h=>by rw [h],fun h=>by injection h with _ h; exact h.symm⟩
 ·obtain ⟨l,rfl,rfl⟩:=b3 hp
  obtain ⟨m,rfl,rfl⟩:=b3 hq
  simp only [kEqP,beq_iff_eq,bytes_inj]
  exact eq_comm
theorem find_spec {H:(PH Lw)} {d:TypeDesc} {kp:PV} {k:Value} (hkp:RepP H kp k) (hk:MapKept.IsKey d k):∀ (es:List (PV × PV)) (l:List MapEntry) (i:Nat),RepM H es l → (∀ x ∈ l,MapKept.IsKey d x.key) →
  (mFind kp es = none ∧ Instr.findNow d k l i = some none ∧ (∀ x ∈ l,x.key ≠ k) ∧ ∀ vp,mSet kp vp es = es ++ [(kp,vp)]) ∨
  ∃ j e p,mFind kp es = some p ∧ Instr.findNow d k l i = some (some (i + j,e.val)) ∧ l[j]? = some e ∧ e.key = k ∧ RepP H p e.val ∧ ∀ vp,mSet kp vp es = es.set j (kp,vp)
 | [],l,i,r,_=>by
  simp only [RepM] at r
  subst r
  exact .inl ⟨rfl,rfl,by simp,fun _=>rfl⟩
 | (p,q) :: es,l,i,r,h=>by
  obtain ⟨e,l',rfl,rk,rv,rr⟩:=r
  have he:=h e (.head _)
  obtain ⟨b,hb,hiff⟩:=MapKept.sameNow_of_keys hk he
  have hke:=kEqP_spec hkp rk hk he
  cases b with
  | true =>
   have heq:=hiff.1 rfl
   have hkk:kEqP kp p = true:=hke.2 heq.symm
   exact .inr ⟨0,e,q,by simp [mFind,hkk],by simp [Instr.findNow,hb],rfl,heq.symm,rv,fun vp=>by simp [mSet,hkk]⟩
  | false =>
   have hne:e.key ≠ k:=fun q=>by have:=hiff.2 q.symm; cases this
   have hkk:kEqP kp p = false:=by
    cases hx:kEqP kp p with
    | false=>rfl
    | true=>exact absurd (hke.1 hx) hne
   rcases find_spec hkp hk es l' (i + 1) rr (fun x hx=>h x (.tail _ hx)) with ⟨h1,h2,h3,h4⟩ | ⟨j,e',p',h1,h2,h3,h4,h5,h6⟩
   ·refine .inl ⟨by simp [mFind,hkk,h1],by simp [Instr.findNow,hb,h2],fun x hx=>?_,fun vp=>by simp [mSet,hkk,h4]⟩
    cases hx with
    | head=>exact hne
    | tail _ hx=>exact h3 x hx
   ·exact .inr ⟨j + 1,e',p',by simp [mFind,hkk,h1],by simp [Instr.findNow,hb,h2]; omega,by simpa using h3,h4,h5,fun vp=>by simp [mSet,hkk,h6]⟩
theorem RepM.length {H:(PH Lw)}:∀ {es:List (PV × PV)} {l:List MapEntry},RepM H es l → l.length = es.length
 | [],l,r=>by simp only [RepM] at r; simp [r]
 | (_,_) :: es,l,r=>by
  obtain ⟨e,l',rfl,_,_,rr⟩:=r
  simp [rr.length]
theorem RepM.push {H:(PH Lw)}:∀ {es:List (PV × PV)} {l:List MapEntry} {k v:PV} {e:MapEntry},RepM H es l → RepP H k e.key → RepP H v e.val → RepM H (es ++ [(k,v)]) (l ++ [e])
 | [],l,k,v,e,r,rk,rv=>by
  simp only [RepM] at r
  subst r
  exact ⟨e,[],rfl,rk,rv,rfl⟩
 | (_,_) :: es,l,k,v,e,r,rk,rv=>by
  obtain ⟨e',l',rfl,r1,r2,rr⟩:=r
  exact ⟨e',l' ++ [e],rfl,r1,r2,rr.push rk rv⟩
theorem RepM.set {H:(PH Lw)}:∀ {es:List (PV × PV)} {l:List MapEntry} {j:Nat} {k v:PV} {e:MapEntry},RepM H es l → RepP H k e.key → RepP H v e.val → RepM H (es.set j (k,v)) (l.set j e)
 | [],l,j,k,v,e,r,rk,rv=>by
  simp only [RepM] at r
  subst r
  simp [RepM]
 | (_,_) :: es,l,j,k,v,e,r,rk,rv=>by
  obtain ⟨e',l',rfl,r1,r2,rr⟩:=r
  cases j with
  | zero=>exact ⟨e,l',rfl,rk,rv,rr⟩
  | succ j=>exact ⟨e',l'.set j e,rfl,r1,r2,rr.set rk rv⟩
theorem zeroP_spec {t:TypeId} {R:PV → Prop} (h:zeroP P t R):∃ p z,R p ∧ (∀ w,(zeroValue t).run P w = .ok z w) ∧ ∀ ⦃Lw:Nat⦄ (H:PH Lw),RepP H p z:=by
 unfold zeroP at h
 split at h
 ·rename_i i hi
  split at h
  ·rename_i vs hz
   obtain ⟨ps,h,hps⟩:=ofVs_spec h
   exact ⟨.agg ps,.agg ⟨vs⟩,h,fun w=>by simp [zeroValue,typeInfo,hi,hz],fun Lw H=>by simp only [RepP]; exact ⟨vs,rfl,hps H⟩⟩
  ·rename_i v hne hz
   split at h
   ·rename_i p hp
    exact ⟨p,v,h,fun w=>by simp [zeroValue,typeInfo,hi,hz],fun Lw H=>ofV1_spec hp H⟩
   ·exact h.elim
  ·exact h.elim
 ·exact h.elim
theorem kLookup_spec {g:G} {t:TypeId} {lo:List AObj} {x key:FV} {ok:Bool} {R:FV → Prop} (h:kLookup P g t lo x key ok R) :
  ∃ fv,R fv ∧ ((∃ k o,x = .mref k ∧ lo[k]? = some o ∧ o.live = true) ∧ (gOn g → ∀ ⦃Lw:Nat⦄ (bs:(Base Lw)) (ρ:List Value) (H:(PH Lw)) (w:World) (a b:Value),SatW bs ρ H lo w → RepF ρ H x a → RepF ρ H key b →
   ∃ v,(Instr.lookup t a b ok).run P w = .ok v w ∧ RepF ρ H fv v)):=by
 unfold kLookup at h
 split at h
 ·rename_i k kp
  have h0:=nthK_spec h; clear h; obtain ⟨o,ho,h⟩:=h0
  split at h
  ·rename_i d es mk
   have h0:=mapK_spec h; clear h; obtain ⟨kt,et,h,ht,hd,hkey⟩:=h0
   have h0:=zeroP_spec h; clear h; obtain ⟨z,zv,h,hz,rz⟩:=h0
   obtain ⟨v,b,hvb,h⟩:=h
   refine ⟨_,h,⟨k,_,rfl,ho,rfl⟩,fun hg Lw bs ρ H w a kv s ra rk=>?_⟩
   obtain ⟨hv,hb⟩:=gI_on hvb hg
   obtain ⟨bl,hρ,rfl⟩:=ra
   obtain ⟨bl',ents,clock,e,hheap,rm,⟨hst,hks,_⟩,_⟩:=s.objs k _ _ ho hρ
   cases e
   have hik:=hkey H kv rk
   rcases find_spec rk hik es ents.toList 0 rm hks with ⟨h1,h2,_,_⟩ | ⟨j,e,p,h1,h2,_,_,h5,_⟩
   ·rw [h1] at hv hb
    simp only [Option.getD_none,Option.isSome_none] at hv hb
    subst hv; subst hb
    cases ok
    ·exact ⟨zv,by simp [Instr.lookup,run_underlying ht,MapKept.run_getObj_map hheap,MapKept.run_checkKey hd hik,MapKept.run_findKey hd h2,hz],rz H⟩
    ·exact ⟨.tuple #[zv,.bool false],by simp [Instr.lookup,run_underlying ht,MapKept.run_getObj_map hheap,MapKept.run_checkKey hd hik,MapKept.run_findKey hd h2,hz],by
      simp only [RepF,RepP]
      exact ⟨[zv,.bool false],rfl,by simp only [RepL]; exact ⟨zv,_,rfl,rz H,.bool false,[],rfl,by simp [RepP],rfl⟩⟩⟩
   ·rw [h1] at hv hb
    simp only [Option.getD_some,Option.isSome_some] at hv hb
    subst hv; subst hb
    cases ok
    ·exact ⟨e.val,by simp [Instr.lookup,run_underlying ht,MapKept.run_getObj_map hheap,MapKept.run_checkKey hd hik,MapKept.run_findKey hd h2],h5⟩
    ·exact ⟨.tuple #[e.val,.bool true],by simp [Instr.lookup,run_underlying ht,MapKept.run_getObj_map hheap,MapKept.run_checkKey hd hik,MapKept.run_findKey hd h2],by
      simp only [RepF,RepP]
      exact ⟨[e.val,.bool true],rfl,by simp only [RepL]; exact ⟨e.val,_,rfl,h5,.bool true,[],rfl,by simp [RepP],rfl⟩⟩⟩
  ·exact h.elim
 ·exact h.elim
theorem kLenM_spec {t:TypeId} {lo:List AObj} {x:FV} {R:FV → Prop} (h:kLenM P t lo x R) :
  ∃ fv,R fv ∧ ∀ ⦃Lw:Nat⦄ (bs:(Base Lw)) (ρ:List Value) (H:(PH Lw)) (w:World) (ty:TypeId) (a:Value),SatW bs ρ H lo w → RepF ρ H x a → ∃ v,(Builtin.len_ #[t] ty #[a]).run P w = .ok v w ∧ RepF ρ H fv v:=by
 unfold kLenM at h
 split at h
 ·rename_i k
  have h0:=nthK_spec h; clear h; obtain ⟨o,ho,h⟩:=h0
  split at h
  ·rename_i d es mk
   split at h
   ·rename_i kt et ht
    obtain ⟨n,hn,h⟩:=h
    refine ⟨_,h,fun Lw bs ρ H w ty a s ra=>⟨.int .i64 n,?_,int_rep⟩⟩
    obtain ⟨bl,hρ,rfl⟩:=ra
    obtain ⟨bl',ents,clock,e,hheap,rm,_⟩:=s.objs k _ _ ho hρ
    cases e
    have:=rm.length
    simp at this
    simp [Builtin.len_,run_underlying ht,MapKept.run_getObj_map hheap,goInt,this,hn]
   ·exact h.elim
  ·exact h.elim
 ·exact h.elim
theorem keep_set (w:World) (b:Nat) (o:Obj):Keep (fun x=>x = b) w { w with heap:=w.heap.setIfInBounds b o } :=
 ⟨rfl,rfl,rfl,by simp,fun k _ hk=>by simp [Ne.symm hk]⟩
theorem getElem?_modify' {es:Array MapEntry} {j:Nat} {f:MapEntry → MapEntry} {e:MapEntry} (h:es[j]? = some e):(es.modify j f).toList = es.toList.set j (f e):=by
 apply List.ext_getElem?
 intro i
 simp only [Array.getElem?_toList,Array.getElem?_modify,List.getElem?_set]
 by_cases hij:j = i
 ·subst hij
  obtain ⟨h1,h2⟩:=Array.getElem?_eq_some_iff.1 h
  simp [h1,h2]
 ·simp [hij]
theorem map_set_run {bs:(Base Lw)} {ρ:List Value} {H:(PH Lw)} {lo:List AObj} (s:SatW bs ρ H lo w) {t kt et:TypeId} {d:TypeDesc} (ht:P.underlying t = some (.map kt et)) (hd:P.underlying kt = some d)
  {j:Nat} {es:List (PV × PV)} {mk:Option (PV × Nat)} (ho:lo[j]? = some (.mp d es mk)) {m k x:Value} (rm:RepF ρ H (.mref j) m) {kp vp:PV} (rk:RepP H kp k) (rx:RepP H vp x) (hk:MapKept.IsKey d k) :
  ∃ w',(Instr.mapUpdate t m k x).run P w = .ok () w' ∧ SatW bs ρ H (lo.set j (.mp d (mSet kp vp es) none)) w':=by
 obtain ⟨bl,hρ,rfl⟩:=rm
 obtain ⟨bl',ents,clock,e,hheap,rmm,⟨hst,hks,_⟩,hH⟩:=s.objs j _ _ ho hρ
 cases e
 rcases find_spec rk hk es ents.toList 0 rmm hks with ⟨_,h2,h3,h4⟩ | ⟨i,e,p,_,h2,h3,h5,_,h6⟩
 ·refine ⟨{ w with heap:=w.heap.setIfInBounds bl (.map (ents.push { key:=k,val:=x,born:=clock }) (clock + 1)) },?_,s.upd ho hρ rfl rfl hH (keep_set w bl _) ?_⟩
  ·simp [Instr.mapUpdate,run_underlying ht,MapKept.run_getObj_map hheap,MapKept.run_checkKey hd hk,MapKept.run_findKey hd h2,MapKept.run_setObj_map _ hheap]
  ·refine ⟨bl,_,_,rfl,(MapKept.heap_set hheap).1,?_,⟨MapKept.stamped_push hst h3,?_,fun _ _ h=>by cases h⟩,hH⟩
   ·rw [h4,Array.toList_push]
    exact rmm.push rk rx
   ·intro y hy
    simp only [Array.toList_push,List.mem_append,List.mem_singleton] at hy
    rcases hy with hy | rfl
    ·exact hks y hy
    ·exact hk
 ·have hi:ents[i]? = some e:=by simpa using h3
  refine ⟨{ w with heap:=w.heap.setIfInBounds bl (.map (ents.modify i fun e=>{ e with key:=k,val:=x }) clock) },?_,s.upd ho hρ rfl rfl hH (keep_set w bl _) ?_⟩
  ·simp [Instr.mapUpdate,run_underlying ht,MapKept.run_getObj_map hheap,MapKept.run_checkKey hd hk,MapKept.run_findKey hd h2,hi,h5,MapKept.run_keyThatStays hk,MapKept.run_setObj_map _ hheap]
  ·have hkey:∀ e',ents[i]? = some e' → ({ e' with key:=k,val:=x }:MapEntry).key = e'.key:=fun e' he'=>by rw [hi] at he'; cases he'; exact h5.symm
   refine ⟨bl,_,_,rfl,(MapKept.heap_set hheap).1,?_,⟨MapKept.stamped_modify hst _ _ (fun _ _=>rfl) (fun e' _ he'=>hkey e' he'),MapKept.isKey_modify hks _ _ hkey,fun _ _ h=>by cases h⟩,hH⟩
   rw [h6,getElem?_modify' hi]
   exact rmm.set rk rx
theorem SatW.pushMap {bs:(Base Lw)} {ρ:List Value} {H:(PH Lw)} {lo:List AObj} (s:SatW bs ρ H lo w) {d:TypeDesc} :
  SatW bs (ρ ++ [.map (some w.heap.size)]) H (lo ++ [.mp d [] none]) (w.alloc (.map #[] 0)):=by
 refine s.push (g:=w.heap.size) (.inl rfl) (s.fresh (Nat.le_refl _)) (.inr s.keep.size) (PH.le.refl H) (satH_alloc s.sath _) (fun b o v h=>.inl ⟨v,h⟩) (keep_alloc w _ _) ?_
 refine ⟨w.heap.size,#[],0,rfl,heap_alloc_new w _,rfl,⟨MapKept.stamped_empty 0,by simp,fun _ _ h=>by cases h⟩,fun o=>?_⟩
 cases hx:H w.heap.size o with
 | none=>rfl
 | some x=>exact absurd (s.sath.lt hx) (Nat.lt_irrefl _)
theorem run_getObj_any {b:Nat} {l:ByteArray} {p:Nat} (h:w.heap[b]? = some (.stringIter l p)):(getObj b).run P w = .ok (.stringIter l p) w:=by
 simp [getObj,Sem.run,h]
theorem run_setObj_any {b:Nat} {l:ByteArray} {p:Nat} (o':Obj) (h:w.heap[b]? = some (.stringIter l p)):(setObj b o').run P w = .ok () { w with heap:=w.heap.setIfInBounds b o' }:=by
 simp [setObj,Sem.run,h]
theorem heap_set_any {b:Nat} {o o':Obj} (h:w.heap[b]? = some o):(w.heap.setIfInBounds b o')[b]? = some o':=by
 have:=(Array.getElem?_eq_some_iff.1 h).1
 simp [this]
theorem list_set_same {α:Type} {l:List α} {k:Nat} {a:α} (h:l[k]? = some a):l.set k a = l:=by
 apply List.ext_getElem?
 intro i
 rw [List.getElem?_set]
 split
 ·rename_i e
  subst e
  split
  ·exact h.symm
  ·rename_i hn
   simp [List.getElem?_eq_none (Nat.le_of_not_lt hn)]
 ·rfl
theorem SatW.pushSit {bs:(Base Lw)} {ρ:List Value} {H:(PH Lw)} {lo:List AObj} (s:SatW bs ρ H lo w) {l:List UInt8} :
  SatW bs (ρ ++ [.pointer (some ⟨w.heap.size,0,none⟩)]) H (lo ++ [.sit l 0]) (w.alloc (.stringIter ⟨l.toArray⟩ 0)):=by
 refine s.push (g:=w.heap.size) (.inl rfl) (s.fresh (Nat.le_refl _)) (.inr s.keep.size) (PH.le.refl H) (satH_alloc s.sath _) (fun b o v h=>.inl ⟨v,h⟩) (keep_alloc w _ _) ?_
 refine ⟨w.heap.size,rfl,heap_alloc_new w _,fun o=>?_⟩
 cases hx:H w.heap.size o with
 | none=>rfl
 | some x=>exact absurd (s.sath.lt hx) (Nat.lt_irrefl _)
theorem kMapSet_sound {E:Env} {lo:List AObj} {t:TypeId} {m k x:Operand} {R:FV → List AObj → Prop} (h:kMapSet P E lo t m k x R) :
  ∃ fv lo',R fv lo' ∧ lo'.length = lo.length ∧ ∀ ⦃Lw:Nat⦄ (bs:(Base Lw)) (ρ:List Value) (H:(PH Lw)) (w:World) (eval:Operand → Value),SatW bs ρ H lo w → RepF ρ H (evF (lookD E) m) (eval m) → RepF ρ H (evF (lookD E) k) (eval k) → RepF ρ H (evF (lookD E) x) (eval x) →
   ∃ w',(Instr.mapUpdate t (eval m) (eval k) (eval x)).run P w = .ok () w' ∧ After bs ρ H fv lo' undef w':=by
 unfold kMapSet at h
 have h0:=evS_spec h; clear h; obtain ⟨m',h,hm'⟩:=h0
 have h0:=evS_spec h; clear h; obtain ⟨k',h,hk'⟩:=h0
 have h0:=evS_spec h; clear h; obtain ⟨x',h,hx'⟩:=h0
 have h0:=frzK_spec h; clear h; obtain ⟨vp,h,hvp⟩:=h0
 split at h
 ·rename_i j kp
  have h0:=nthK_spec h; clear h; obtain ⟨o,ho,h⟩:=h0
  split at h
  ·rename_i d es mk
   have h0:=mapK_spec h; clear h; obtain ⟨kt,et,h,ht,hd,hkey⟩:=h0
   obtain ⟨es',hes,h⟩:=h
   obtain ⟨h,hlt⟩:=setK_spec h
   refine ⟨_,_,h,by simp,fun Lw bs ρ H w eval s rm rk rx=>?_⟩
   have rk:=hk' ρ H _ trivial rk
   obtain ⟨w',hr,s'⟩:=map_set_run s ht hd ho (hm' ρ H _ trivial rm) rk (hvp ρ H _ (hx' ρ H _ trivial rx)) (hkey H _ rk)
   rw [hes] at s'
   exact ⟨w',hr,ρ,H,List.prefix_refl _,PH.le.refl H,s',by simp [RepF,RepP,RepL,undef]⟩
  ·exact h.elim
 ·exact h.elim
theorem keyD_spec {d:TypeDesc} {R:Prop} (h:keyD d R):R:=by
 unfold keyD at h
 split at h <;> first | exact h | exact h.elim
theorem kEff2_sound {o:Oper} {E:Env} {lo:List AObj} {R:FV → List AObj → Prop} (h:kEff2 P o.op E lo R):∃ fv lo',R fv lo' ∧ EffRel (mildO o.op) lo lo' ∧ StepSem P o (lookD E) lo none fv lo':=by
 obtain ⟨dst,op,ty,pos,after,guard⟩:=o
 simp only at h
 unfold kEff2 at h
 split at h
 ·rename_i t x
  have h0:=evS_spec h; clear h; obtain ⟨x',h,hx'⟩:=h0
  split at h
  ·rename_i l
   split at h
   ·rename_i ht
    have h:=lenK_spec h
    have h:=snocK_spec h
    refine ⟨_,_,h,EffRel.push _,fun hg Lw bs ρ H w eval s hx=>?_⟩
    have e:=rep_str (hx' ρ H _ hg (hx x (by simp [Op.operands])))
    have hr:(Instr.range t (eval x)).run P w = .ok (.pointer (some ⟨w.heap.size,0,none⟩)) (w.alloc (.stringIter ⟨l.toArray⟩ 0)):=by
     simp [Instr.range,e,run_underlying ht]
    simp only [execOp,Sem.run_bind,hr,Result.andThen_ok,Sem.run_pure]
    refine ⟨_,H,List.prefix_append _ _,PH.le.refl H,s.pushSit,w.heap.size,by simp [← s.hlen],rfl⟩
   ·exact h.elim
  ·exact h.elim
 ·rename_i x
  have h0:=evS_spec h; clear h; obtain ⟨x',h,hx'⟩:=h0
  split at h
  ·rename_i k
   have h0:=nthK_spec h; clear h; obtain ⟨o,ho,h⟩:=h0
   split at h
   ·rename_i l pos
    obtain ⟨ok,p',⟨hok,hp⟩,h⟩:=h
    obtain ⟨h,hlt⟩:=setK_spec h
    refine ⟨_,_,h,EffRel.set _ _,fun hg Lw bs ρ H w eval s hx=>?_⟩
    obtain ⟨bl,hρ,ex⟩:=hx' ρ H _ hg (hx x (by simp [Op.operands]))
    obtain ⟨bl',e,hheap,hH⟩:=s.objs k _ _ ho hρ
    cases e
    simp only [execOp,Sem.run_bind,ex]
    by_cases hlt:pos < l.length
    ·have hok:ok = true:=by rw [← hok]; simpa using hlt
     subst hok
     have hr:(Instr.next (.pointer (some ⟨bl,0,none⟩)) true ty).run P w = .ok (.tuple #[.bool true,.int .i64 pos,.int .i32 (runeAt l pos)]) { w with heap:=w.heap.setIfInBounds bl (.stringIter ⟨l.toArray⟩ (runeEnd l pos)) }:=by
      have hsz:pos < (⟨l.toArray⟩:ByteArray).size:=by rw [ByteArray.size_mk_toArray]; exact hlt
      simp only [Instr.next,Sem.run_bind,run_getObj_any hheap,Result.andThen_ok]
      simp only [hsz,if_true,Sem.run_bind,run_setObj_any _ hheap,Result.andThen_ok,Sem.run_pure]
      rfl
     simp only [hr,Result.andThen_ok,Sem.run_pure]
     refine ⟨ρ,H,List.prefix_refl _,PH.le.refl H,?_,?_⟩
     ·refine s.upd ho hρ rfl rfl hH (keep_set w bl _) ⟨bl,rfl,?_,hH⟩
      rw [← hp]
      exact heap_set_any hheap
     ·simp only [RepF,if_true]
      exact ⟨_,_,rfl,by simp [RepP],by simp [RepP]⟩
    ·have hok:ok = false:=by rw [← hok]; simpa using hlt
     subst hok
     have hr:(Instr.next (.pointer (some ⟨bl,0,none⟩)) true ty).run P w = .ok (.tuple #[.bool false]) w:=by
      have hsz:¬ pos < (⟨l.toArray⟩:ByteArray).size:=by rw [ByteArray.size_mk_toArray]; exact hlt
      simp only [Instr.next,Sem.run_bind,run_getObj_any hheap,Result.andThen_ok]
      simp only [hsz,if_false,Sem.run_pure]
     simp only [hr,Result.andThen_ok,Sem.run_pure]
     refine ⟨ρ,H,List.prefix_refl _,PH.le.refl H,?_,by simp [RepF]⟩
     have hpp:p' = pos:=by rw [← hp]; rfl
     subst hpp
     rw [show lo.set k (.sit l p') = lo from list_set_same ho]
     exact s
   ·exact h.elim
  ·exact h.elim
 ·rename_i t
  split at h
  ·rename_i kt et ht
   split at h
   ·rename_i d hd
    have h:=keyD_spec h
    have h:=lenK_spec h
    have h:=snocK_spec h
    refine ⟨_,_,h,EffRel.push _,fun hg Lw bs ρ H w eval s hx=>?_⟩
    have hr:(Instr.makeMap t none).run P w = .ok (.map (some w.heap.size)) (w.alloc (.map #[] 0)):=rfl
    simp only [execOp,Option.map_none,Sem.run_bind,hr,Result.andThen_ok,Sem.run_pure]
    exact ⟨_,H,List.prefix_append _ _,PH.le.refl H,s.pushMap,w.heap.size,by simp [← s.hlen],rfl⟩
   ·exact h.elim
  ·exact h.elim
 ·rename_i t m k x
  obtain ⟨fv,lo',h,hl,hs⟩:=kMapSet_sound h
  refine ⟨fv,lo',h,EffRel.len hl,fun hg Lw bs ρ H w eval s hx=>?_⟩
  obtain ⟨w',hr,af⟩:=hs bs ρ H w eval s (hx m (by simp [Op.operands])) (hx k (by simp [Op.operands])) (hx x (by simp [Op.operands]))
  simp only [execOp,Sem.run_bind,hr,Result.andThen_ok,Sem.run_pure]
  exact af
 ·rename_i t m k x
  obtain ⟨fv,lo',h,hl,hs⟩:=kMapSet_sound h
  refine ⟨fv,lo',h,EffRel.len hl,fun hg Lw bs ρ H w eval s hx=>?_⟩
  obtain ⟨w',hr,af⟩:=hs bs ρ H w eval s (hx m (by simp [Op.operands])) (hx k (by simp [Op.operands])) (hx x (by simp [Op.operands]))
  simp only [execOp,Sem.run_bind,hr,Result.andThen_ok,Sem.run_pure]
  exact af
 ·rename_i x t
  have h0:=evS_spec h; clear h; obtain ⟨x',h,hx'⟩:=h0
  split at h
  ·rename_i k
   have h0:=nthK_spec h; clear h; obtain ⟨o,ho,h⟩:=h0
   split at h
   ·rename_i d es mk
    split at h
    ·rename_i kt et ht
     obtain ⟨h,hlt⟩:=setK_spec h
     refine ⟨_,_,h,EffRel.set _ _,fun hg Lw bs ρ H w eval s hx=>?_⟩
     obtain ⟨bl,hρ,ex⟩:=hx' ρ H _ hg (hx x (by simp [Op.operands,Call.operands]))
     obtain ⟨bl',ents,clock,e,hheap,rmm,_,hH⟩:=s.objs k _ _ ho hρ
     cases e
     simp only [execOp,resolve,invoke,builtin,Sem.run_bind,Sem.run_pure,Result.andThen_ok,List.map_toArray,List.map_cons,List.map_nil,ex]
     have hr:(Builtin.clear_ #[t] ty #[.map (some bl)]).run P w = .ok (.tuple #[]) { w with heap:=w.heap.setIfInBounds bl (.map #[] clock) }:=by
      simp [Builtin.clear_,run_underlying ht,MapKept.run_getObj_map hheap,MapKept.run_setObj_map _ hheap]
     simp only [hr,Result.andThen_ok]
     refine ⟨ρ,H,List.prefix_refl _,PH.le.refl H,?_,by simp [RepF,RepP,RepL]⟩
     refine s.upd ho hρ rfl rfl hH (keep_set w bl (.map #[] clock)) ?_
     exact ⟨bl,#[],clock,rfl,(MapKept.heap_set hheap).1,rfl,⟨MapKept.stamped_empty clock,by simp,fun _ _ h=>by cases h⟩,hH⟩
    ·exact h.elim
   ·exact h.elim
  ·exact h.elim
 ·exact h.elim
end
end Ax
end
section
namespace Ax
open Go
variable {Lw:Nat}
theorem RepV.get {H:(PH Lw)} {z:Nat}:∀ {rows:List (List PV)} {vs:List Value} {i:Nat} {r:List PV},RepV H z rows vs → rows[i]? = some r →
  ∃ a,RepL H r a ∧ ∀ j u,a[j]? = some u → vs[i * z + j]? = some u
 | [],_,_,_,_,h=>by simp at h
 | q :: rs,vs,i,r,x,h=>by
  obtain ⟨hz,a,b,rfl,ra,rb⟩:=x
  have hl:a.length = z:=by rw [ra.length,hz]
  cases i with
  | zero =>
   simp at h
   subst h
   refine ⟨a,ra,fun j u hu=>?_⟩
   rw [Nat.zero_mul,Nat.zero_add,List.getElem?_append_left (List.getElem?_eq_some_iff.1 hu).1]
   exact hu
  | succ i =>
   obtain ⟨c,rc,hc⟩:=rb.get (i:=i) (by simpa using h)
   refine ⟨c,rc,fun j u hu=>?_⟩
   have:=hc j u hu
   rw [List.getElem?_append_right (by rw [hl,Nat.add_mul]; omega)]
   have e:(i + 1) * z + j - a.length = i * z + j:=by rw [hl,Nat.add_mul]; omega
   rw [e]
   exact this
theorem RepV.over {H:(PH Lw)} {z:Nat}:∀ {rows:List (List PV)} {vs:List Value} {i off:Nat} {r ps:List PV} {c:List Value},RepV H z rows vs → rows[i]? = some r → RepL H ps c → off + ps.length ≤ r.length →
  RepV H z (rows.set i (r.take off ++ ps ++ r.drop (off + ps.length))) (vs.take (i * z + off) ++ c ++ vs.drop (i * z + off + c.length))
 | [],_,_,_,_,_,_,_,h,_,_=>by simp at h
 | q :: rs,vs,i,off,r,ps,c,x,h,rp,hle=>by
  obtain ⟨hz,a,b,rfl,ra,rb⟩:=x
  have hl:a.length = z:=by rw [ra.length,hz]
  have hc:=rp.length
  cases i with
  | zero =>
   simp at h
   subst h
   have hoff:off ≤ a.length:=by rw [ra.length]; omega
   have hoff2:off + c.length ≤ a.length:=by rw [ra.length,hc]; omega
   refine ⟨?_,a.take off ++ c ++ a.drop (off + c.length),b,?_,?_,rb⟩
   ·simp only [List.length_append,List.length_take,List.length_drop]; omega
   ·rw [Nat.zero_mul,Nat.zero_add,List.take_append_of_le_length hoff,List.drop_append_of_le_length hoff2]
    simp
   ·rw [hc]
    exact ((ra.take off).append rp).append (ra.drop _)
  | succ i =>
   refine ⟨hz,a,b.take (i * z + off) ++ c ++ b.drop (i * z + off + c.length),?_,ra,rb.over (by simpa using h) rp hle⟩
   have e1:(i + 1) * z + off = a.length + (i * z + off):=by rw [hl,Nat.add_mul]; omega
   rw [e1,List.take_length_add_append,Nat.add_assoc a.length,List.drop_length_add_append]
   simp
theorem take_over {α:Type} {cur c:List α} {p m N:Nat} (hp:p + m ≤ N) (hm:c.length = m) (hN:N ≤ cur.length):(cur.take p ++ c ++ cur.drop (p + m)).take N = (cur.take N).take p ++ c ++ (cur.take N).drop (p + m):=by
 have h1:(cur.take p ++ c).length = p + m:=by simp [List.length_take,hm]; omega
 rw [List.take_append,h1,List.take_of_length_le (by omega),List.take_take,Nat.min_eq_left (by omega),List.drop_take]
section
variable {P:Program} {w:World}
theorem vec_cells {ρ:List Value} {H:(PH Lw)} {e:TypeId} {z:Nat} {rows:List (List PV)} {b n cap:Nat} (h:ObjOk ρ H w (.slice (some ⟨b,0,none⟩) n cap) (.vec e z rows)) :
  ∃ (cap':Nat) (cur:Array Value) (xs:List Value),n = rows.length ∧ w.heap[b]? = some (.cells cur e (0,0)) ∧ rows.length ≤ cap' ∧ cap' ≤ maxLen ∧ cur.size = cap' * z ∧ cap = cap' ∧ cur.toList.take (rows.length * z) = xs ∧ RepV H z rows xs ∧ (∀ u ∈ xs,u.oneCell' = true) ∧ ∀ o,H b o = none:=by
 obtain ⟨xs,ho,hr,h1,hh⟩:=h
 rcases ho.2 with ⟨e,_⟩ | ⟨g,cap',cur,e,_,hg,hn,hm,hs,ht⟩
 ·cases e
 ·cases e
  exact ⟨cap,cur,xs,rfl,hg,hn,hm,hs,rfl,ht,hr,h1,hh b rfl⟩
theorem kLoadE_spec {t:TypeId} {lo:List AObj} {k i off z:Nat} {R:FV → Prop} (h:kLoadE P t lo k z i off R) :
  ∃ fv,R fv ∧ ∀ ⦃Lw:Nat⦄ (bs:(Base Lw)) (ρ:List Value) (H:(PH Lw)) (w:World) (v:Value),SatW bs ρ H lo w → RepF ρ H (.eptr k z i off) v → ∃ u,(Instr.loadAt t v).run P w = .ok u w ∧ RepF ρ H fv u:=by
 unfold kLoadE at h
 have h0:=nthK_spec h; clear h; obtain ⟨o,ho,h⟩:=h0
 split at h
 ·rename_i e z' rows
  obtain ⟨row,⟨rfl,hrow⟩,h⟩:=h
  obtain ⟨h,hoff⟩:=dropK_spec h
  obtain ⟨d,ti,hd,hi,h⟩:=typeK_spec h
  have cells:∀ ⦃Lw:Nat⦄ (bs:(Base Lw)) (ρ:List Value) (H:(PH Lw)) (w:World) (v:Value),SatW bs ρ H lo w → RepF ρ H (.eptr k z' i off) v →
    ∃ (b:Nat) (a:List Value),v = .pointer (some ⟨b,i * z' + off,none⟩) ∧ RepL H row a ∧ ∀ j u,(a.drop off)[j]? = some u → w.cell? ⟨b,i * z' + off + j,none⟩ = some u:=by
   intro Lw bs ρ H w v s hx
   obtain ⟨b,n,cap,hρ,rfl⟩:=hx
   obtain ⟨cap',cur,xs,rfl,hg,hn,hm,hs,rfl,ht,hr,h1,hh⟩:=vec_cells (s.objs k _ _ ho hρ)
   obtain ⟨a,ra,hc⟩:=hr.get hrow
   refine ⟨b,a,rfl,ra,fun j u hu=>?_⟩
   rw [List.getElem?_drop] at hu
   have:=hc _ _ hu
   rw [← ht,List.getElem?_take] at this
   split at this
   ·rw [Nat.add_assoc]
    rw [cell_of_row w b _ _ e _ hg]
    simpa using this
   ·cases this
  split at h
  ·rename_i hagg
   obtain ⟨h,hn⟩:=takeK_spec h
   refine ⟨_,h,fun Lw bs ρ H w v s hx=>?_⟩
   obtain ⟨b,a,rfl,ra,hc⟩:=cells bs ρ H w v s hx
   refine ⟨_,run_loadAt_cells hd hi hc (by have:=ra.length; simp at hn ⊢; omega) hagg,?_⟩
   simp only [RepF,RepP]
   exact ⟨_,rfl,(ra.drop off).take _⟩
  ·rename_i hagg
   split at h
   ·rename_i c r hcr
    refine ⟨_,h,fun Lw bs ρ H w v s hx=>?_⟩
    obtain ⟨b,a,rfl,ra,hc⟩:=cells bs ρ H w v s hx
    have rd:=ra.drop off
    rw [hcr] at rd
    simp only [RepL] at rd
    obtain ⟨u,us,e,ru,_⟩:=rd
    exact ⟨u,run_loadAt_cell hd (by simpa using hc 0 u (by rw [e]; rfl)) hagg,ru⟩
   ·exact h.elim
 ·rename_i e z' rows j kt
  obtain ⟨row,⟨rfl,hrow⟩,h⟩:=h
  obtain ⟨h,hoff⟩:=dropK_spec h
  obtain ⟨d,ti,hd,hi,h⟩:=typeK_spec h
  have cells:∀ ⦃Lw:Nat⦄ (bs:(Base Lw)) (ρ:List Value) (H:(PH Lw)) (w:World) (v:Value),SatW bs ρ H lo w → RepF ρ H (.eptr k z' i off) v →
    ∃ (b:Nat) (a:List Value),v = .pointer (some ⟨b,i * z' + off,none⟩) ∧ RepL H row a ∧ (∀ j u,(a.drop off)[j]? = some u → w.cell? ⟨b,i * z' + off + j,none⟩ = some u) ∧ (i + 1 = rows.length → off = j → ∀ u,(a.drop off)[0]? = some u → ρ[kt]? = some u):=by
   intro Lw bs ρ H w v s hx
   obtain ⟨b,n,cap,hρ,rfl⟩:=hx
   obtain ⟨xs0,hown,hr0,h10,hh0,hl⟩:=s.objs k _ _ ho hρ
   obtain ⟨cap',cur,xs,rfl,hg,hn,hm,hs,rfl,ht,hr,h1,hh⟩:=vec_cells (ρ:=ρ) (H:=H) ⟨xs0,hown,hr0,h10,hh0⟩
   obtain ⟨a,ra,hc⟩:=hr.get hrow
   have hxx:xs0 = xs:=by
    rcases hown.2 with ⟨e',_⟩ | ⟨g,cap',cur',e',_,hg',_,_,_,ht'⟩
    ·cases e'
    ·cases e'
     rw [hg] at hg'
     cases hg'
     rw [← ht',← ht]
   subst hxx
   refine ⟨b,a,rfl,ra,fun j u hu=>?_,fun hi1 hj u hu=>hl u ?_⟩
   ·rw [List.getElem?_drop] at hu
    have:=hc _ _ hu
    rw [← ht,List.getElem?_take] at this
    split at this
    ·rw [Nat.add_assoc]
     rw [cell_of_row w b _ _ e _ hg]
     simpa using this
    ·cases this
   ·rw [List.getElem?_drop] at hu
    have:=hc _ _ hu
    rw [← hj,show rows.length - 1 = i by omega]
    simpa using this
  split at h
  ·rename_i hagg
   obtain ⟨h,hn⟩:=takeK_spec h
   refine ⟨_,h,fun Lw bs ρ H w v s hx=>?_⟩
   obtain ⟨b,a,rfl,ra,hc,_⟩:=cells bs ρ H w v s hx
   refine ⟨_,run_loadAt_cells hd hi hc (by have:=ra.length; simp at hn ⊢; omega) hagg,?_⟩
   simp only [RepF,RepP]
   exact ⟨_,rfl,(ra.drop off).take _⟩
  ·rename_i hagg
   split at h
   ·rename_i c r hcr
    split at h
    ·rename_i hj
     have hj:=Nat.eq_of_beq_eq_true hj
     obtain ⟨hi1,rs,rfl,h⟩:=h
     refine ⟨_,h,fun Lw bs ρ H w v s hx=>?_⟩
     obtain ⟨b,a,rfl,ra,hc,hl⟩:=cells bs ρ H w v s hx
     have rd:=ra.drop off
     rw [hcr] at rd
     simp only [RepL] at rd
     obtain ⟨u,us,e,ru,_⟩:=rd
     exact ⟨u,run_loadAt_cell hd (by simpa using hc 0 u (by rw [e]; rfl)) hagg,hl hi1 hj u (by rw [e]; rfl),ru⟩
    ·refine ⟨_,h,fun Lw bs ρ H w v s hx=>?_⟩
     obtain ⟨b,a,rfl,ra,hc,_⟩:=cells bs ρ H w v s hx
     have rd:=ra.drop off
     rw [hcr] at rd
     simp only [RepL] at rd
     obtain ⟨u,us,e,ru,_⟩:=rd
     exact ⟨u,run_loadAt_cell hd (by simpa using hc 0 u (by rw [e]; rfl)) hagg,ru⟩
   ·exact h.elim
 ·rename_i l
  have h0:=typeK_spec h; clear h; obtain ⟨d,ti,hd,hi,h⟩:=h0
  split at h
  ·exact h.elim
  ·rename_i hagg
   have h0:=h; clear h; obtain ⟨c,⟨rfl,rfl,hc⟩,h⟩:=h0
   refine ⟨_,h,fun Lw bs ρ H w v s hx=>?_⟩
   obtain ⟨b,n,cap,hρ,rfl⟩:=hx
   obtain ⟨b',cs,e',cap',lo',hi',e1,hg,_,h2,_⟩:=s.objs k _ _ ho hρ
   cases e1
   refine ⟨.int .u8 c.toNat,run_loadAt_cell hd ?_ hagg,by simp [RepF,RepP]⟩
   simp only [World.cell?,hg,Nat.mul_one,Nat.add_zero]
   exact h2 i c hc
 ·exact h.elim
theorem rowsV2 {H:(PH Lw)} {z:Nat}:∀ {rows:List (List PV)} {vals:List Value},rows.length = vals.length → (∀ r ∈ rows,r.length = z) →
  (∀ (i:Nat) (r:List PV) (v:Value),rows[i]? = some r → vals[i]? = some v → RepL H r v.cells.toList) → RepV H z rows (vals.flatMap (·.cells.toList))
 | [],[],_,_,_=>rfl
 | [],_ :: _,hl,_,_=>by simp at hl
 | r :: rs,[],hl,_,_=>by simp at hl
 | r :: rs,v :: vals,hl,hz,hr=>⟨hz r (by simp),v.cells.toList,vals.flatMap (·.cells.toList),by rw [List.flatMap_cons],hr 0 r v rfl rfl,
   rowsV2 (by simpa using hl) (fun r hr=>hz r (by simp [hr])) (fun i r' v' h1 h2=>hr (i + 1) r' v' (by simpa using h1) (by simpa using h2))⟩
theorem RepV.le {H:(PH Lw)} {z:Nat} {p q:List (List PV)} {vs:List Value} (h:p = q ∨ nleR p q) (r:RepV H z p vs):RepV H z q vs:=by
 rcases h with rfl | h
 ·exact r
 ·have go:∀ {p q:List (List PV)} {vs:List Value},nleR p q → RepV H z p vs → RepV H z q vs:=by
   intro p
   induction p with
   | nil=>intro q vs h r; cases q with
    | nil=>exact r
    | cons _ _=>simp [nleR] at h
   | cons a l ih=>intro q vs h r; cases q with
    | nil=>simp [nleR] at h
    | cons b m =>
     simp only [nleR] at h
     obtain ⟨e,x,y,e1,q1,q2⟩:=r
     exact ⟨by rw [← e,nleL_length h.1],x,y,e1,nleL_rep h.1 q1,ih h.2 q2⟩
  exact go h r
theorem kBuildSlice_core {E:Env} {g:G} {t:TypeId} {n:Nat} {parts:List (Nat × Operand)} {R:FV → Prop} (h:kBuildSlice P E g t n parts R) :
  ∃ e i rows,P.underlying t = some (.slice e) ∧ P.info? e = some i ∧ R (.p (.sl rows)) ∧ rows.length = n ∧ n ≤ maxLen ∧ (gOn g → ∀ ⦃Lw:Nat⦄ (ρ:List Value) (H:(PH Lw)) (w:World) (eval:Operand → Value),(∀ x ∈ parts.map (·.2),RepF ρ H (evF (lookD E) x) (eval x)) →
   ∃ xs:List Value,(Instr.buildSlice t n (parts.map fun (i,x)=>(i,eval x)).toArray).run P w = .ok (.slice (some ⟨w.heap.size,0,none⟩) n n) (w.alloc (.cells xs.toArray e)) ∧ RepV H i.size rows xs ∧ ∀ u ∈ xs,u.oneCell' = true):=by
 unfold kBuildSlice at h
 obtain ⟨e,i,hu,hi,h⟩:=elemK_spec h
 split at h
 ·rename_i hn
  have hn:parts.length = n:=Nat.eq_of_beq_eq_true hn
  split at h
  ·rename_i h1n
   split at h
   ·rename_i h1z
    split at h
    case h_2=>exact h.elim
    rename_i hbig
    split at h
    case h_2=>exact h.elim
    rename_i i' hi'
    have:i' = i:=Option.some.inj (hi'.symm.trans hi)
    subst this
    split at h
    case h_2=>exact h.elim
    rename_i zv hzv
    obtain ⟨ps,h,hpl,hps⟩:=partsK_spec h
    obtain ⟨rows,h,hrl,hrows⟩:=rowsK_spec h
    obtain ⟨hok,rows',hle,h⟩:=h
    have hrl2:rows'.length = rows.length:=by
     rcases hle with rfl | hle
     ·rfl
     ·exact (nleR_length hle).symm
    have hn24:n ≤ maxLen:=by
     have a1:=Nat.le_of_ble_eq_true hbig
     have a2:1 ≤ i'.size:=Nat.le_of_ble_eq_true h1z
     have a3:n * 1 ≤ n * i'.size:=Nat.mul_le_mul_left n a2
     unfold maxLen
     omega
    refine ⟨e,i',rows',hu,hi,h,by rw [hrl2,hrl,hpl,hn],hn24,fun hg Lw ρ H w eval hx=>?_⟩
    obtain ⟨vals,ev,rv⟩:=hps hg ρ H eval hx
    have hcells:=hrows H vals rv
    have hvl:vals.length = n:=by rw [rv.length,hpl,hn]
    have hsz:∀ v ∈ vals,v.cells.size = i'.size:=by
     intro v hv
     obtain ⟨j,hj⟩:=List.getElem?_of_mem hv
     have hjl:=(List.getElem?_eq_some_iff.1 hj).1
     have hrj:j < rows.length:=by rw [hrl,hpl,hn,← hvl]; exact hjl
     have:=(hcells j _ v (List.getElem?_eq_getElem hrj) hj).length
     rw [(hok _ (List.getElem_mem hrj)).1] at this
     simpa using this
    obtain ⟨cells',ef,hc'⟩:=fill_rows i'.size n (fun i_1=>some (i_1 * i'.size,i'.size)) (fun j _=>rfl) vals 0 ((Array.range (n * i'.size)).map (zv.cells[· % zv.cells.size]!)) hsz (by omega) (by simp)
    simp only [Nat.zero_mul,List.take_zero,List.nil_append] at hc'
    have hone:∀ u ∈ cells'.toList,u.oneCell' = true:=by
     rw [hc']
     intro u hu'
     obtain ⟨v,hv,huv⟩:=List.mem_flatMap.1 hu'
     obtain ⟨j,hj⟩:=List.getElem?_of_mem hv
     have hjl:=(List.getElem?_eq_some_iff.1 hj).1
     have hrj:j < rows.length:=by rw [hrl,hpl,hn,← hvl]; exact hjl
     have h1:=hcells j _ v (List.getElem?_eq_getElem hrj) hj
     have h2:=(hok _ (List.getElem_mem hrj)).2
     exact RepL.one (fun c hc=>(List.all_eq_true.1 h2) c hc) h1 u huv
    refine ⟨cells'.toList,?_,?_,hone⟩
    ·have h0:n * i'.size ≠ 0:=by
      have a1:1 ≤ n:=Nat.le_of_ble_eq_true h1n
      have a2:1 ≤ i'.size:=Nat.le_of_ble_eq_true h1z
      exact Nat.mul_ne_zero (by omega) (by omega)
     have hb:¬ 16777216 < n * i'.size:=by
      have:=Nat.le_of_ble_eq_true hbig
      omega
     simp only [Instr.buildSlice,Sem.run_bind,run_underlying hu,Result.andThen_ok,Go.sizeOf,typeInfo,run_program,hi,Sem.run_pure]
     rw [show (2:Nat) ^ 24 = 16777216 from rfl]
     simp only [hb,if_false,gt_iff_lt,h0,Sem.run_bind,zeroValue,typeInfo,run_program,hi,hzv,Result.andThen_ok,Sem.run_pure]
     rw [ev,ef]
     simp [newRow]
    ·rw [hc']
     refine RepV.le hle ?_
     exact rowsV2 (by rw [hrl,hpl,hn,hvl]) (fun r hr=>(hok r hr).1) hcells
   ·exact h.elim
  ·exact h.elim
 ·exact h.elim
theorem kBuildV_spec {E:Env} {lo:List AObj} {t:TypeId} {n:Nat} {parts:List (Nat × Operand)} {R:FV → List AObj → Prop} (h:kBuildV P E lo t n parts R) :
  ∃ fv lo',R fv lo' ∧ EffRel true lo lo' ∧ ∀ ⦃Lw:Nat⦄ (bs:(Base Lw)) (ρ:List Value) (H:(PH Lw)) (w:World) (eval:Operand → Value),SatW bs ρ H lo w → (∀ x ∈ parts.map (·.2),RepF ρ H (evF (lookD E) x) (eval x)) →
   ∃ v w',(Instr.buildSlice t n (parts.map fun (i,x)=>(i,eval x)).toArray).run P w = .ok v w' ∧ After bs ρ H fv lo' v w':=by
 unfold kBuildV at h
 have h0:=elemK_spec h; clear h; obtain ⟨e,i,hu,hi,h⟩:=h0
 have h0:=kBuildSlice_core h; clear h; obtain ⟨e',i',rows,hu',hi',h,hn,hmax,hs⟩:=h0
 have e1:e' = e:=by rw [hu] at hu'; cases hu'; rfl
 subst e1
 have e2:i' = i:=Option.some.inj (hi'.symm.trans hi)
 subst e2
 simp only at h
 have h:=lenK_spec h
 have h:=snocK_spec h
 refine ⟨_,_,h,EffRel.push _,fun Lw bs ρ H w eval s hx=>?_⟩
 obtain ⟨xs,hr,hv,hone⟩:=hs trivial ρ H w eval hx
 refine ⟨_,_,hr,ρ ++ [.slice (some ⟨w.heap.size,0,none⟩) n n],H,List.prefix_append _ _,PH.le.refl H,?_,?_⟩
 ·have hnew:∀ o,H w.heap.size o = none:=fun o=>by
   cases hx:H w.heap.size o with
   | none=>rfl
   | some u=>exact absurd (s.sath.lt hx) (Nat.lt_irrefl _)
  refine s.push (g:=w.heap.size) (.inl rfl) (s.fresh (Nat.le_refl _)) (.inr s.keep.size) (PH.le.refl H) (satH_alloc s.sath _) (fun b o v h=>.inl ⟨v,h⟩) (keep_alloc w _ _) ?_
  refine ⟨xs,⟨hv.length,.inr ⟨w.heap.size,n,xs.toArray,by rw [hn],Nat.zero_le _,heap_alloc_new w _,by rw [hn]; exact Nat.le_refl _,hmax,by simp [hv.length,hn],?_⟩⟩,hv,hone,fun b hb=>?_⟩
  ·rw [← hv.length]
   exact List.take_length
  ·simp [blkOf] at hb
   subst hb
   exact hnew
 ·exact ⟨by simp [← s.hlen],.inr ⟨w.heap.size,n,by rw [hn]⟩⟩
end
theorem nthK_mon {α:Type} {R R':α → Prop} (hr:∀ a,R a → R' a):∀ {n:Nat} {l:List α},nthK n l R → nthK n l R'
 | 0,[],h=>by simp [nthK] at h
 | 0,a :: l,h=>hr a h
 | n + 1,[],h=>by simp [nthK] at h
 | n + 1,a :: l,h=>nthK_mon hr (n:=n) (l:=l) h
theorem dropK_mon {α:Type} {R R':List α → Prop} (hr:∀ a,R a → R' a):∀ {n:Nat} {l:List α},dropK n l R → dropK n l R'
 | 0,l,h=>hr l h
 | n + 1,[],h=>by simp [dropK] at h
 | n + 1,a :: l,h=>dropK_mon hr (n:=n) (l:=l) h
theorem typeK_mon {P:Program} {t:TypeId} {R R':Bool → Nat → Prop} (hr:∀ a n,R a n → R' a n) (h:typeK P t R):typeK P t R':=by
 unfold typeK at *
 split at h
 ·split at h
  ·exact hr _ _ h
  ·exact h.elim
 ·exact h.elim
theorem kLoadEG_spec {P:Program} {g:Bool} {t:TypeId} {lo:List AObj} {k i off z:Nat} {R:FV → Prop} (h:kLoadEG P g t lo k z i off R) :
  ∃ fv,R fv ∧ (g = true → ∀ ⦃Lw:Nat⦄ (bs:(Base Lw)) (ρ:List Value) (H:(PH Lw)) (w:World) (v:Value),SatW bs ρ H lo w → RepF ρ H (.eptr k z i off) v → ∃ u,(Instr.loadAt t v).run P w = .ok u w ∧ RepF ρ H fv u):=by
 cases g with
 | true =>
  have h1:kLoadE P t lo k z i off R:=by
   unfold kLoadEG at h
   unfold kLoadE
   refine nthK_mon (fun o ho=>?_) h
   cases o <;> first | exact False.elim ho | skip
   ·obtain ⟨row,hr,hd⟩:=ho
    refine ⟨row,hr rfl,dropK_mon (fun cs hc=>typeK_mon (fun a n ha=>?_) hc) hd⟩
    cases a
    ·exact ha
    ·exact ha.elim
   ·obtain ⟨row,hr,hd⟩:=ho
    refine ⟨row,hr rfl,dropK_mon (fun cs hc=>typeK_mon (fun a n ha=>?_) hc) hd⟩
    cases a
    ·cases cs with
     | nil=>exact ha
     | cons c cs =>
      cases hb:Nat.beq off _ <;> rw [hb] at ha
      ·exact ha
      ·exact False.elim ha
    ·exact ha.elim
  obtain ⟨fv,hR,hs⟩:=kLoadE_spec h1
  exact ⟨fv,hR,fun _=>hs⟩
 | false =>
  suffices hh:∃ fv,R fv by
   obtain ⟨fv,hR⟩:=hh
   exact ⟨fv,hR,fun hg=>by cases hg⟩
  unfold kLoadEG at h
  obtain ⟨o,_,h⟩:=nthK_spec h
  cases o <;> first | exact False.elim h | skip
  ·obtain ⟨row,_,hd⟩:=h
   obtain ⟨h,_⟩:=dropK_spec hd
   obtain ⟨d,ti,_,_,h⟩:=typeK_spec h
   split at h
   ·exact h.elim
   ·split at h
    ·exact ⟨_,h⟩
    ·exact h.elim
  ·obtain ⟨row,_,hd⟩:=h
   obtain ⟨h,_⟩:=dropK_spec hd
   obtain ⟨d,ti,_,_,h⟩:=typeK_spec h
   split at h
   ·exact h.elim
   ·split at h
    ·split at h
     ·exact h.elim
     ·exact ⟨_,h⟩
    ·exact h.elim
end Ax
end
