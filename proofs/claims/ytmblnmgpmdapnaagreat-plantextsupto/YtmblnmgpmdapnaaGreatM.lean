/- A part of the proof: the plain law. -/
import Derived.Test.YtmblnmgpmdapnaaGreatRows
import Derived.Test.YtmblnmgpmdapnaaGreatShelf
import Derived.Deep.DeepHandedRow
import Derived.ChangeMaps5
import Derived.LaidLaws
import Derived.OpenShut
import Derived.Test.YtmblnmgpmdapnaaGreatC
import Derived.Test.YtmblnmgpmdapnaaGreatL
set_option linter.unusedVariables false
set_option linter.unusedSimpArgs false
set_option linter.unnecessarySimpa false
set_option linter.deprecated false
set_option linter.unusedSectionVars false
set_option linter.constructorNameAsVariable false
section
open Go Go.Proofs Ax
namespace W
open Go.Proofs.YtmblnmgpmdapnaaGreat
theorem qil:∀ l:List qaa,qf0 l=(l.map fun x=>qkb x+1).sum+1
 | []=>rfl
 | x::l=>by simp only[qf0,List.map_cons,List.sum_cons]; rw[qil l]; omega
theorem qip:∀ l:List Val,q1q l=(l.map fun x=>zax x+1).sum+1
 | []=>rfl
 | x::l=>by simp only[q1q,List.map_cons,List.sum_cons]; rw[qip l]; omega
def zxn:qhl->Nat
 | ⟨cl⟩=>qca cl
variable {Hd:Type} {enc:TypeId×Value->Hd} {w:World}
theorem q4j {H:PH}:∀ {a:List PV} {b:List PV} {x y:List Value},qdk H a x->qdk H b y->qdk H (a++b) (x++y)
 | [],_,x,_,h,h'=>by
  have:x=[]:=by simpa[qdk]using h
  subst this; exact h'
 | p::a,_,x,_,h,h'=>by
  simp only[qdk]at h;obtain⟨v,vs,rfl,h1,h2⟩:=h;simp only[List.cons_append,qdk];exact⟨_,_,rfl,h1,q4j h2 h'⟩
theorem qsq {H:PH} {a b:List PV} {cs:List Value} {o z:Nat} (h:qdk H a ((cs.drop o).take z)/\∀ u∈(cs.drop o).take z,u.oneCell'=true) (h':qdk H b (cs.drop (o+z))/\∀ u∈cs.drop (o+z),u.oneCell'=true) :
  qdk H (a++b) (cs.drop o)/\∀ u∈cs.drop o,u.oneCell'=true:=by
 have e:cs.drop o=(cs.drop o).take z++cs.drop (o+z):=by rw[← List.drop_drop,List.take_append_drop]
 refine⟨by rw[e]; exact q4j h.1 h'.1,fun u hu=>?_⟩;rw[e]at hu;rcases List.mem_append.1 hu with hu|hu
 ·exact h.2 u hu
 ·exact h'.2 u hu
theorem zma {H:PH} {cs:List Value} {z:Nat} (h:cs.length=z):qdk H [] (cs.drop z)/\∀ u∈cs.drop z,u.oneCell'=true:=by
 have:cs.drop z=[]:=List.drop_eq_nil_of_le (by omega);rw[this];exact⟨rfl,fun u hu=>by cases hu⟩
theorem q4n {α:Type} {sz:α->Nat}:∀ (l:List α) (elems:List (DataW Hd)),l.length=elems.length->(∀ (i:Nat) (d:DataW Hd) (v:α),elems[i]? =some d->l[i]? =some v->sz v<=Rows.uptoBulk d)->(l.map sz).sum<=Rows.uptoBulkAll elems
 | [],_,_,_=>Nat.zero_le _
 | v::l,[],h,_=>by simp at h
 | v::l,d::elems,h,hh=>by
  have:=q4n l elems (by simpa using h) fun i d v hd hv=>hh (i+1) d v (by simpa using hd) (by simpa using hv)
  have:=hh 0 d v rfl rfl;simp only[List.map_cons,List.sum_cons,Rows.uptoBulkAll]; omega
theorem qmo {α:Type} [Inhabited α] {P:Program} {t e:TypeId} {z n:Nat} {row:α->List PV} {sz:α->Nat} {rws:List α->List (List PV)} (ht:P.underlying t=some (.slice e)) (hz:P.cellsOf e=z) (hz1:1<=z)
  (hrow:∀ v,(row v).length=z) (hr:∀ l,rws l=l.map row) (hel:∀ m,m<n->qer enc P w e m row sz Rows.uptoBulk):qer enc P w t n (fun l:List α=>[PV.sl (rws l)]) (fun l=>(l.map sz).sum+1) Rows.uptoBulk:=by
 intro cs x h;obtain⟨l,v,rfl,o,r,b⟩:=zdg ht hz hz1 hrow hel h;refine⟨l,?_,by simpa using o,?_⟩
 ·simp only[qdk]
  exact⟨_,_,rfl,by rw[hr]; exact r,rfl⟩
 ·rcases b with ⟨e,rfl⟩|⟨el,rest,e,hl,hb⟩
  ·rw[e]; simp[Rows.uptoBulk]
  ·rw[e]
   have:=q4n l el hl hb;simp only[Rows.uptoBulk]; omega
theorem rd3 (n:Nat):qer (α:=Int) enc Tryz.prog w 3 n (fun i=>[PV.int .i64 i]) (isz) Rows.uptoBulk:=by
 intro cs x h;obtain⟨k,e,rfl,hw⟩:=DataW.trod_int Tryz.underlying3 h;cases e;exact⟨k,by simp[qdk,qco],by simp[Value.oneCell'],by simp only[Rows.uptoBulk]; exact Nat.le_of_eq (zwp (by simpa[Lit.wf]using hw))⟩
theorem rd9 (n:Nat):qer (α:=List UInt8) enc Tryz.prog w 9 n (fun s=>[PV.str s]) (fun s=>1+s.length) Rows.uptoBulk:=by
 intro cs x h;obtain⟨s,e,rfl,_⟩:=DataW.trod_string Tryz.underlying9 h;cases e;exact⟨s.data.toList,by simp[qdk,qco],by simp[Value.oneCell'],by simp[Rows.uptoBulk]; omega⟩
theorem zyy (n:Nat):qer (α:=qda) enc Tryz.prog w 53 n (qda.cells) (q26) Rows.uptoBulk:=by
 intro cs x h;obtain⟨xs,m,rfl,rfl,hcl,hxl,hf⟩:=DataW.trod_struct Tryz.underlying53 h;rw[show Tryz.prog.cellsOf 53=4 by kernel_rfl]at hcl;have hxl':xs.length=4:=hxl;obtain⟨y0,y1,y2,y3,rfl⟩:∃ y0 y1 y2 y3,xs=[y0,y1,y2,y3]:=by
  match xs,hxl' with
  | [y0,y1,y2,y3],_=>exact⟨y0,y1,y2,y3,rfl⟩
 have f0:=hf 0 _ rfl;change DataW.trod enc Tryz.prog w 0 _ true m 3 ((cs.drop 0).take (Tryz.prog.cellsOf 3))=some y0 at f0;rw[show Tryz.prog.cellsOf 3=1 by kernel_rfl]at f0;obtain⟨v0,r0,o0,b0⟩:=rd3 m _ _ f0;have f1:=hf 1 _ rfl;change DataW.trod enc Tryz.prog w 0 _ true m 3 ((cs.drop 1).take (Tryz.prog.cellsOf 3))=some y1 at f1;rw[show Tryz.prog.cellsOf 3=1 by kernel_rfl]at f1;obtain⟨v1,r1,o1,b1⟩:=rd3 m _ _ f1;have f2:=hf 2 _ rfl;change DataW.trod enc Tryz.prog w 0 _ true m 9 ((cs.drop 2).take (Tryz.prog.cellsOf 9))=some y2 at f2;rw[show Tryz.prog.cellsOf 9=1 by kernel_rfl]at f2;obtain⟨v2,r2,o2,b2⟩:=rd9 m _ _ f2;have f3:=hf 3 _ rfl;change DataW.trod enc Tryz.prog w 0 _ true m 9 ((cs.drop 3).take (Tryz.prog.cellsOf 9))=some y3 at f3;rw[show Tryz.prog.cellsOf 9=1 by kernel_rfl]at f3;obtain⟨v3,r3,o3,b3⟩:=rd9 m _ _ f3;have key:=qsq ⟨r0,o0⟩ (qsq ⟨r1,o1⟩ (qsq ⟨r2,o2⟩ (qsq ⟨r3,o3⟩ (zma hcl))));rw[List.drop_zero]at key;refine⟨⟨v0,v1,v2,v3⟩,?_,key.2,?_⟩
 ·have key:=key.1
  exact key
 ·simp only[q26,Rows.uptoBulk,Rows.uptoBulkAll,List.map_cons,List.map_nil,qil,qip,qwe,qwa,qca]
  simp only[]at b0 b1 b2 b3;omega
theorem zyq (n:Nat):qer (α:=List (qda)) enc Tryz.prog w 35 n (fun l=>[PV.sl (qda.rows l)]) (fun l=>(l.map (q26)).sum+1) Rows.uptoBulk:=
 qmo (α:=qda) (z:=4) (rws:=qda.rows) Tryz.underlying35 (by kernel_rfl) (by decide) (qyx.hz) (fun _=>rfl) (fun m hm=>zyy m)
theorem zyr (n:Nat):qer (α:=qao) enc Tryz.prog w 37 n (qao.cells) (qw2) Rows.uptoBulk:=by
 intro cs x h;obtain⟨xs,m,rfl,rfl,hcl,hxl,hf⟩:=DataW.trod_struct Tryz.underlying37 h;rw[show Tryz.prog.cellsOf 37=4 by kernel_rfl]at hcl;have hxl':xs.length=4:=hxl;obtain⟨y0,y1,y2,y3,rfl⟩:∃ y0 y1 y2 y3,xs=[y0,y1,y2,y3]:=by
  match xs,hxl' with
  | [y0,y1,y2,y3],_=>exact⟨y0,y1,y2,y3,rfl⟩
 have f0:=hf 0 _ rfl;change DataW.trod enc Tryz.prog w 0 _ true m 3 ((cs.drop 0).take (Tryz.prog.cellsOf 3))=some y0 at f0;rw[show Tryz.prog.cellsOf 3=1 by kernel_rfl]at f0;obtain⟨v0,r0,o0,b0⟩:=rd3 m _ _ f0;have f1:=hf 1 _ rfl;change DataW.trod enc Tryz.prog w 0 _ true m 3 ((cs.drop 1).take (Tryz.prog.cellsOf 3))=some y1 at f1;rw[show Tryz.prog.cellsOf 3=1 by kernel_rfl]at f1;obtain⟨v1,r1,o1,b1⟩:=rd3 m _ _ f1;have f2:=hf 2 _ rfl;change DataW.trod enc Tryz.prog w 0 _ true m 3 ((cs.drop 2).take (Tryz.prog.cellsOf 3))=some y2 at f2;rw[show Tryz.prog.cellsOf 3=1 by kernel_rfl]at f2;obtain⟨v2,r2,o2,b2⟩:=rd3 m _ _ f2;have f3:=hf 3 _ rfl;change DataW.trod enc Tryz.prog w 0 _ true m 35 ((cs.drop 3).take (Tryz.prog.cellsOf 35))=some y3 at f3;rw[show Tryz.prog.cellsOf 35=1 by kernel_rfl]at f3;obtain⟨v3,r3,o3,b3⟩:=zyq m _ _ f3;have key:=qsq ⟨r0,o0⟩ (qsq ⟨r1,o1⟩ (qsq ⟨r2,o2⟩ (qsq ⟨r3,o3⟩ (zma hcl))));rw[List.drop_zero]at key;refine⟨⟨v0,v1,v2,v3⟩,?_,key.2,?_⟩
 ·have key:=key.1
  exact key
 ·simp only[qw2,Rows.uptoBulk,Rows.uptoBulkAll,List.map_cons,List.map_nil,qil,qip,qwe,qwa,qca]
  simp only[]at b0 b1 b2 b3;omega
theorem zyp (n:Nat):qer (α:=List (qao)) enc Tryz.prog w 27 n (fun l=>[PV.sl (qao.rows l)]) (fun l=>(l.map (qw2)).sum+1) Rows.uptoBulk:=
 qmo (α:=qao) (z:=4) (rws:=qao.rows) Tryz.underlying27 (by kernel_rfl) (by decide) (qbf.hz) (fun _=>rfl) (fun m hm=>zyr m)
end W
end
section
namespace W
open Go Go.Proofs Ax Go.RowKit Go.ChangeShapes Go.WideShapes Go.ChangeAt
open Go.Proofs.YtmblnmgpmdapnaaGreat Go.ChangeMaps
theorem own:ownKnob Tryz.prog.godebug=none:=by kernel_rfl
theorem q5t:laidOutB Tryz.prog=true:=by kernel_rfl
theorem root {W:World} (h:W.ShapedOpen Tryz.prog):∃ m,W.cell? ⟨0,0,none⟩=some (.int .i64 m):=Tryz.laysM144.s1_3 W h
section
variable {Hd:Type} {enc:TypeId×Value->Hd} {W:World}
set_option maxRecDepth 100000 in
theorem zia {v0:Value} {d0:DataW Hd} {p:List MemPlace} {b:Nat} (hval:Value.okWide Tryz.prog W .any b 27 v0) (h:DataW.Trod enc Tryz.prog W 0 (fun _=>true) true 27 v0 d0 p) :
  ∃ l:List qao,qco (q5o W) (.sl (qao.rows l)) v0/\(l.map qw2).sum+1<=Rows.uptoBulk d0:=by
 obtain⟨a,len,cap,rfl⟩:=okWide_slice Tryz.underlying27 hval;obtain⟨fuel,h⟩:=h;obtain⟨l,r,_,hb⟩:=zyp fuel _ _ h;refine⟨l,?_,hb⟩;simp only[qdk]at r;obtain⟨v,vs,e,r1,_⟩:=r;cases e;exact r1
end
noncomputable def qtb (os:Os):World:=World.holding Tryz.prog os ⟨#[],#[],[]⟩
abbrev VM:Value:=.agg #[.slice none 0 0]
abbrev DM (H:Type):DataW H:=.agg [.nil]
abbrev VG:Value:=.slice none 0 0
abbrev DG (H:Type):DataW H:=.nil
end W
end
