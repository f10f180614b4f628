/- A part of the proof: the abstract execution. -/
import Derived.Test.YtlbjambmfdlniaaGreatB
import Derived.Test.YtlbjambmfdlniaaGreatC
set_option linter.unusedVariables false
set_option linter.unusedSimpArgs false
set_option linter.unnecessarySimpa false
set_option linter.deprecated false
set_option linter.unusedSectionVars false
set_option linter.constructorNameAsVariable false
section
namespace Ax
open Go
variable {Lw:Nat}
end Ax
end
section
namespace Ax
open Go
variable {Lw:Nat}
mutual
def SO:PV->PV
 | .nsl rows=>.sl (SP rows)
 | .sl rows=>.sl (SP rows)
 | .agg cs=>.agg (SN cs)
 | .tup cs=>.tup (SN cs)
 | .ifc t p=>.ifc t (SO p)
 | .hp r=>.hp (SN r)
 | .clo f cs=>.clo f (SN cs)
 | .bfn f cs=>.bfn f (SN cs)
 | .ifo n t p=>.ifo n t (SO p)
 | .bool b=>.bool b
 | .int k n=>.int k n
 | .str l=>.str l
 | .nilsl=>.nilsl
 | .nilp=>.nilp
 | .fn f=>.fn f
 | .nilfn=>.nilfn
 | .nili=>.nili
 | .nilmap=>.nilmap
def SN:List PV->List PV
 | []=>[]
 | c::cs=>SO c::SN cs
def SP:List (List PV)->List (List PV)
 | []=>[]
 | r::rs=>SN r::SP rs
end
theorem Ga:∀ l:List PV,(SN l).length=l.length
 | []=>rfl
 | c::cs=>by simp only[SN,List.length_cons,Ga cs]
theorem nZ:∀ l:List (List PV),(SP l).length=l.length
 | []=>rfl
 | c::cs=>by simp only[SP,List.length_cons,nZ cs]
def part (lo hi:Nat) (H:(PH Lw)):PH 0:=fun b o=>if lo<=b/\b<hi then H b o else none
section
variable {H:(PH Lw)} {hi:Nat} (hh:∀ b o v,H b o=some v->b<hi)
include hh
end
mutual
theorem qp.base {L':Nat} {H:(PH Lw)} {H':PH L'} (h:∀ b o v,H b o=some v->H' b o=some v):∀ {p:PV} {v:Value},qp H p v->qp H' (SO p) v
 | .bool _,_,x|.int ..,_,x|.str _,_,x|.nilsl,_,x|.nilp,_,x|.fn _,_,x|.nilfn,_,x|.nili,_,x|.nilmap,_,x=>by
  simp only[qp,SO]at *; exact x
 | .agg cs,v,x=>by
  simp only[qp,SO]at *;obtain⟨vs,e,r⟩:=x;exact⟨vs,e,qJ.base h r⟩
 | .tup cs,v,x=>by
  simp only[qp,SO]at *;obtain⟨vs,e,r⟩:=x;exact⟨vs,e,qJ.base h r⟩
 | .nsl rows,v,x=>by
  simp only[qp,SO]at *;rcases x with ⟨rfl,x⟩|⟨b,o,z,cap,e,l,_,r⟩
  ·exact .inl ⟨rfl,x⟩
  exact .inr ⟨b,o,z,cap,by rw[nZ]; exact e,by rw[nZ]; exact l,fa.base h r⟩
 | .sl rows,v,x=>by
  simp only[qp,SO]at *;rcases x with ⟨rfl,x⟩|⟨b,o,z,cap,e,l,r⟩
  ·exact .inl ⟨rfl,x⟩
  exact .inr ⟨b,o,z,cap,by rw[nZ]; exact e,by rw[nZ]; exact l,fa.base h r⟩
 | .ifc t p,v,x=>by
  simp only[qp,SO]at *;obtain⟨u,e,r⟩:=x;exact⟨u,e,qp.base h r⟩
 | .hp row,v,x=>by
  simp only[qp,SO]at *;obtain⟨b,o,vs,e,r,c⟩:=x;exact⟨b,o,vs,e,qJ.base h r,fun j u hu=>h _ _ _ (c j u hu)⟩
 | .clo f cs,v,x=>by
  simp only[qp,SO]at *;obtain⟨vs,e,r⟩:=x;exact⟨vs,e,qJ.base h r⟩
 | .bfn f cs,v,x=>by
  simp only[qp,SO]at *;obtain⟨vs,e,r⟩:=x;exact⟨vs,e,qJ.base h r⟩
 | .ifo n t p,v,x=>by
  simp only[qp,SO]at *;rcases x with x|⟨e,u,e',r⟩
  ·exact .inl x
  exact .inr ⟨e,u,e',qp.base h r⟩
theorem qJ.base {L':Nat} {H:(PH Lw)} {H':PH L'} (h:∀ b o v,H b o=some v->H' b o=some v):∀ {cs:List PV} {vs:List Value},qJ H cs vs->qJ H' (SN cs) vs
 | [],_,x=>by simp only[qJ,SN]at *; exact x
 | c::cs,vs,x=>by
  simp only[qJ,SN]at *;obtain⟨v,vs',e,r,rs⟩:=x;exact⟨v,vs',e,qp.base h r,qJ.base h rs⟩
theorem fa.base {L':Nat} {H:(PH Lw)} {H':PH L'} (h:∀ b o v,H b o=some v->H' b o=some v) {b z:Nat}:∀ {o:Nat} {rows:List (List PV)},fa H b z o rows->fa H' b z o (SP rows)
 | _,[],_=>by simp only[fa,SP]
 | o,r::rs,x=>by
  simp only[fa,SP]at *;obtain⟨e,⟨vs,q,c⟩,x'⟩:=x;exact⟨by rw[Ga]; exact e,⟨vs,qJ.base h q,fun j v hv=>h _ _ _ (c j v hv)⟩,fa.base h x'⟩
end
end Ax
end
section
namespace Ax
open Go
def RU:Value->Value->Prop
 | .int k _,u=>∃ n,u=.int k n
 | .bool _,u=>∃ b,u=.bool b
 | .string _,u=>∃ s,u=.string s
 | .slice p n c,u=>u=.slice p n c\/u=.slice none 0 0
 | v,u=>u=v
theorem RU.refl (v:Value):RU v v:=by
 cases v<;>first|exact⟨_,rfl⟩|exact .inl rfl|rfl
theorem RU.trans {a b c:Value} (h:RU a b) (k:RU b c):RU a c:=by
 cases a<;>simp only[RU]at h
 case int=>obtain⟨n,rfl⟩:=h; exact k
 case bool=>obtain⟨n,rfl⟩:=h; exact k
 case string=>obtain⟨n,rfl⟩:=h; exact k
 case slice=>
  rcases h with rfl|rfl
  ·exact k
  simp only[RU,or_self]at k;exact .inr k
 all_goals subst h; exact k
def RZ (H:PH 0) (w:World):Prop:=∀ b o u,H b o=some u->∃ a,w.cell? ⟨b,o,none⟩=some a/\RU u a
theorem RZ.of {H:PH 0} {w:World} (h:∀ b o u,H b o=some u->w.cell? ⟨b,o,none⟩=some u):RZ H w:=fun b o u hu=>⟨u,h b o u hu,RU.refl u⟩
end Ax
end
section
namespace Ax
open Go
theorem tG (l:List Val):(Val.rows l).length=l.length:=by rw[rows_eq]; simp[vals]
end Ax
end
