/- A part of the proof: the plain law. -/
import Derived.Test.YtneaemdbncgcdaaGreatK
set_option linter.unusedVariables false
set_option linter.unusedSimpArgs false
set_option linter.unnecessarySimpa false
set_option linter.deprecated false
set_option linter.unusedSectionVars false
set_option linter.constructorNameAsVariable false
section
open Go Ax
namespace W
def qnd (k:Int):qac:=⟨k,[],[],q6q,[],[],false,[],[],[],[],[],false⟩
def q6c (c:qac):qac:=
 if c.kind=1 then{ qnd c.kind with paths:=c.paths,where_:=c.where_ }
 else if c.kind=2 then{ qnd c.kind with e:=c.e,var_:=c.var_ }
 else if c.kind=3 then{ qnd c.kind with where_:=c.where_,items:=c.items,unique:=c.unique,order:=c.order,skip:=c.skip,limit:=c.limit }
 else if c.kind=9 then{ qnd c.kind with items:=c.items,unique:=c.unique,order:=c.order,skip:=c.skip,limit:=c.limit }
 else if c.kind=4∨c.kind=5 then{ qnd c.kind with paths:=c.paths }
 else if c.kind=6∨c.kind=7 then{ qnd c.kind with sets:=c.sets }
 else if c.kind=8 then{ qnd c.kind with vars:=c.vars,detach:=c.detach }
 else qnd c.kind
theorem zk1 (c:qac):zik c=q6c c:=by
 obtain⟨x1,x2,x3,⟨x4,x5,⟨x6,x7,x8,x9,x10,x11⟩,x12,x13⟩,x14,x15,x16,x17,x18,x19,x20,x21,x22⟩:=c
 by_cases h1:x1=1; · subst h1; rfl
 by_cases h2:x1=2; · subst h2; rfl
 by_cases h3:x1=3; · subst h3; rfl
 by_cases h9:x1=9; · subst h9; rfl
 by_cases h4:x1=4; · subst h4; rfl
 by_cases h5:x1=5; · subst h5; rfl
 by_cases h6:x1=6; · subst h6; rfl
 by_cases h7:x1=7; · subst h7; rfl
 by_cases h8:x1=8; · subst h8; rfl
 simp only[q6c,if_neg h1,if_neg h2,if_neg h3,if_neg h9,h4,h5,h6,h7,if_neg h8,or_self,if_false]
 simp only[zik,qq3,qe6,qne,qm3,qm0,beq_eq_false_iff_ne.2 h1,beq_eq_false_iff_ne.2 h2,beq_eq_false_iff_ne.2 h3,beq_eq_false_iff_ne.2 h9,beq_eq_false_iff_ne.2 h4,beq_eq_false_iff_ne.2 h5,beq_eq_false_iff_ne.2 h6,beq_eq_false_iff_ne.2 h7,beq_eq_false_iff_ne.2 h8,cond_false]
 rfl
theorem zhb {n:Nat} (hn:n≤1073741824) {c:qac} (h:qir c.e<n):∃ b,qdo n c (q6c c)=some b∧(b=true→q6c c=c)∧(q6c c=c→b=true∨(c.kind=2∧(qia c.e).1=0)):=by
 obtain⟨b,h1,h2⟩:=zh9 hn (c':=q6c c) h
 refine⟨b,h1,?_⟩
 rw[h2]
 clear h1 h2
 obtain⟨x1,x2,x3,x4,x14,x15,x16,x17,x18,x19,x20,x21,x22⟩:=c
 have nl:∀ {A:Type} (l:List A),l.length=([]:List A).length↔l=[]:=fun l=>by simp
 have hb:(qia q6q).1=0:=rfl
 unfold q6c
 by_cases h1:x1=1
 ·subst h1
  simp only[qnd,nl,hb,qac.mk.injEq,ne_eq,show((1:Int)=1)=True by decide,show((1:Int)=2)=False by decide,show((1:Int)=3)=False by decide,show((1:Int)=9)=False by decide,show((1:Int)=4)=False by decide,show((1:Int)=5)=False by decide,show((1:Int)=6)=False by decide,show((1:Int)=7)=False by decide,show((1:Int)=8)=False by decide,if_true,if_false,or_true,true_or,or_self,or_false,false_or,not_true]
  constructor
  ·intro h; simp_all
  ·intro h
   left; simp_all
 by_cases h2:x1=2
 ·subst h2
  simp only[qnd,nl,hb,qac.mk.injEq,ne_eq,show((2:Int)=1)=False by decide,show((2:Int)=2)=True by decide,show((2:Int)=3)=False by decide,show((2:Int)=9)=False by decide,show((2:Int)=4)=False by decide,show((2:Int)=5)=False by decide,show((2:Int)=6)=False by decide,show((2:Int)=7)=False by decide,show((2:Int)=8)=False by decide,if_true,if_false,or_true,true_or,or_self,or_false,false_or,not_true]
  constructor
  ·intro h; simp_all
  ·intro h
   by_cases h0:(qia x4).1=0
   ·right; exact⟨trivial,h0⟩
   ·left; simp_all
 by_cases h3:x1=3
 ·subst h3
  simp only[qnd,nl,hb,qac.mk.injEq,ne_eq,show((3:Int)=1)=False by decide,show((3:Int)=2)=False by decide,show((3:Int)=3)=True by decide,show((3:Int)=9)=False by decide,show((3:Int)=4)=False by decide,show((3:Int)=5)=False by decide,show((3:Int)=6)=False by decide,show((3:Int)=7)=False by decide,show((3:Int)=8)=False by decide,if_true,if_false,or_true,true_or,or_self,or_false,false_or,not_true]
  constructor
  ·intro h; simp_all
  ·intro h
   left; simp_all
 by_cases h9:x1=9
 ·subst h9
  simp only[qnd,nl,hb,qac.mk.injEq,ne_eq,show((9:Int)=1)=False by decide,show((9:Int)=2)=False by decide,show((9:Int)=3)=False by decide,show((9:Int)=9)=True by decide,show((9:Int)=4)=False by decide,show((9:Int)=5)=False by decide,show((9:Int)=6)=False by decide,show((9:Int)=7)=False by decide,show((9:Int)=8)=False by decide,if_true,if_false,or_true,true_or,or_self,or_false,false_or,not_true]
  constructor
  ·intro h; simp_all
  ·intro h
   left; simp_all
 by_cases h4:x1=4
 ·subst h4
  simp only[qnd,nl,hb,qac.mk.injEq,ne_eq,show((4:Int)=1)=False by decide,show((4:Int)=2)=False by decide,show((4:Int)=3)=False by decide,show((4:Int)=9)=False by decide,show((4:Int)=4)=True by decide,show((4:Int)=5)=False by decide,show((4:Int)=6)=False by decide,show((4:Int)=7)=False by decide,show((4:Int)=8)=False by decide,if_true,if_false,or_true,true_or,or_self,or_false,false_or,not_true]
  constructor
  ·intro h; simp_all
  ·intro h
   left; simp_all
 by_cases h5:x1=5
 ·subst h5
  simp only[qnd,nl,hb,qac.mk.injEq,ne_eq,show((5:Int)=1)=False by decide,show((5:Int)=2)=False by decide,show((5:Int)=3)=False by decide,show((5:Int)=9)=False by decide,show((5:Int)=4)=False by decide,show((5:Int)=5)=True by decide,show((5:Int)=6)=False by decide,show((5:Int)=7)=False by decide,show((5:Int)=8)=False by decide,if_true,if_false,or_true,true_or,or_self,or_false,false_or,not_true]
  constructor
  ·intro h; simp_all
  ·intro h
   left; simp_all
 by_cases h6:x1=6
 ·subst h6
  simp only[qnd,nl,hb,qac.mk.injEq,ne_eq,show((6:Int)=1)=False by decide,show((6:Int)=2)=False by decide,show((6:Int)=3)=False by decide,show((6:Int)=9)=False by decide,show((6:Int)=4)=False by decide,show((6:Int)=5)=False by decide,show((6:Int)=6)=True by decide,show((6:Int)=7)=False by decide,show((6:Int)=8)=False by decide,if_true,if_false,or_true,true_or,or_self,or_false,false_or,not_true]
  constructor
  ·intro h; simp_all
  ·intro h
   left; simp_all
 by_cases h7:x1=7
 ·subst h7
  simp only[qnd,nl,hb,qac.mk.injEq,ne_eq,show((7:Int)=1)=False by decide,show((7:Int)=2)=False by decide,show((7:Int)=3)=False by decide,show((7:Int)=9)=False by decide,show((7:Int)=4)=False by decide,show((7:Int)=5)=False by decide,show((7:Int)=6)=False by decide,show((7:Int)=7)=True by decide,show((7:Int)=8)=False by decide,if_true,if_false,or_true,true_or,or_self,or_false,false_or,not_true]
  constructor
  ·intro h; simp_all
  ·intro h
   left; simp_all
 by_cases h8:x1=8
 ·subst h8
  simp only[qnd,nl,hb,qac.mk.injEq,ne_eq,show((8:Int)=1)=False by decide,show((8:Int)=2)=False by decide,show((8:Int)=3)=False by decide,show((8:Int)=9)=False by decide,show((8:Int)=4)=False by decide,show((8:Int)=5)=False by decide,show((8:Int)=6)=False by decide,show((8:Int)=7)=False by decide,show((8:Int)=8)=True by decide,if_true,if_false,or_true,true_or,or_self,or_false,false_or,not_true]
  constructor
  ·intro h; simp_all
  ·intro h
   left; simp_all
 simp only[qnd,nl,hb,qac.mk.injEq,ne_eq,if_neg h1,if_neg h2,if_neg h3,if_neg h9,h4,h5,h6,h7,if_neg h8,or_self,if_false,not_true,false_or]
 constructor
 ·intro h; simp_all
 ·intro h; left; simp_all
end W
end
section
open Go Ax
namespace W
abbrev PG:=List qbg×Int×Int
def g3 (g:qa4):PG:=(g.parts,g.least,g.most)
def qth (c:qac):List PG:=
 if c.kind=1 then[(c.paths.map .path,1,1048576),(c.where_.map .expr,0,1)]
 else if c.kind=2 then[([.expr c.e],1,1),([.name c.var_],1,1)]
 else if c.kind=3 then[(c.items.map .item,1,1048576),(c.order.map .sorted,0,1048576),(c.skip.map .expr,0,1),(c.limit.map .expr,0,1),(c.where_.map .expr,0,1)]
 else if c.kind=9 then[(c.items.map .item,1,1048576),(c.order.map .sorted,0,1048576),(c.skip.map .expr,0,1),(c.limit.map .expr,0,1)]
 else if c.kind=4 then[(c.paths.map .path,1,1048576)]
 else if c.kind=5 then[(c.paths.map .path,1,1)]
 else if c.kind=6∨c.kind=7 then[(c.sets.map (fun s=>.change ⟨s,c.kind==6⟩),1,1048576)]
 else if c.kind=8 then[(c.vars.map .name,1,1048576)]
 else[]
def q2k (c:qac):Prop:=c.kind=5∧∃ p,c.paths=[p]∧p.edges≠[]
def q3v (c:qac) (o:Option (List qa4×Bool)):Prop:=
 (q2k c∧o=some ([],false))∨(¬ q2k c∧∃ gl b,o=some (gl,b)∧gl.map g3=qth c∧(b=true→q6c c=c)∧(q6c c=c→b=true∨(c.kind=2∧(qia c.e).1=0)))
section
variable {n:Nat} (hn:n≤1073741824) {x1:Int} {x2:List qa8} {x3:List qab} {x4:Int} {x5:List UInt8} {x6:Int} {x7:Bool} {x8:Int} {x9:List UInt8} {x10:List Val} {x11:List (List UInt8)} {x12:List (List UInt8)} {x13:List qab} {x14:List UInt8} {x15:List qbf} {x16:Bool} {x17:List qaq} {x18:List qab} {x19:List qab} {x20:List qaf} {x21:List (List UInt8)} {x22:Bool}
include hn
theorem q9k (h:qir ⟨x4,x5,⟨x6,x7,x8,x9,x10,x11⟩,x12,x13⟩<n) {w:List UInt8} (hw:w.length≤9) :
  q3v ⟨x1,x2,x3,⟨x4,x5,⟨x6,x7,x8,x9,x10,x11⟩,x12,x13⟩,x14,x15,x16,x17,x18,x19,x20,x21,x22⟩
   (qgz n x1 x2 x3 x4 x5 x6 x7 x8 x9 x10 x11 x12 x13 x14 x15 x16 x17 x18 x19 x20 x21 x22 (x2.map .path) (x3.map .expr) (x15.map .item) (x17.map .sorted) (x18.map .expr) (x19.map .expr) (x20.map fun s=>.change ⟨s,x1==6⟩) (x21.map .name) w):=by
 obtain⟨b,hb,h1,h2⟩:=zhb hn (c:=⟨x1,x2,x3,⟨x4,x5,⟨x6,x7,x8,x9,x10,x11⟩,x12,x13⟩,x14,x15,x16,x17,x18,x19,x20,x21,x22⟩) h
 have hm:(100:Int)≤qy3:=by unfold qy3; decide
 unfold qgz
 by_cases k1:x1=1
 ·subst k1
  rw[beq_self_eq_true,cond_true]
  rw[show q6c _=_ from rfl]at hb
  exact .inr ⟨fun h=>absurd (show((1:Int)=5)from h.1) (by decide),_,b,Eq.trans (congrArg (fun o=>bnd o _) hb) rfl,rfl,h1,h2⟩
 rw[beq_eq_false_iff_ne.2 k1,cond_false]
 by_cases k2:x1=2
 ·subst k2
  rw[beq_self_eq_true,cond_true]
  exact .inr ⟨fun h=>absurd (show((2:Int)=5)from h.1) (by decide),_,b,Eq.trans (congrArg (fun o=>bnd o _) hb) rfl,rfl,h1,h2⟩
 rw[beq_eq_false_iff_ne.2 k2,cond_false]
 by_cases k3:x1=3
 ·subst k3
  rw[beq_self_eq_true,cond_true]
  unfold qg2
  generalize qy3=M at hm ⊢
  rw[cond_true,qhu (decide_eq_true (by simp only[List.length_cons,List.length_nil]; omega)),qhu (by simp[qa4.rows]),beq_self_eq_true,cond_true,qhu (decide_eq_true (by simp only[List.length_cons,List.length_nil]; omega)),qhu (by simp[qa4.rows])]
  simp only[List.cons_append,List.nil_append,List.getElem?_cons_zero,qai,List.set_cons_zero]
  rw[qhu (by simp[qa4.rows])]
  unfold qgw
  exact .inr ⟨fun h=>absurd (show((3:Int)=5)from h.1) (by decide),_,b,Eq.trans (congrArg (fun o=>bnd o _) hb) rfl,rfl,h1,h2⟩
 rw[beq_eq_false_iff_ne.2 k3,cond_false]
 unfold qg2
 by_cases k9:x1=9
 ·subst k9
  generalize qy3=M at hm ⊢
  rw[beq_self_eq_true,cond_true,qhu (decide_eq_true (by simp only[List.length_cons,List.length_nil]; omega)),qhu (by simp[qa4.rows]),show((9:Int)==3)=false from rfl,cond_false]
  unfold qgw
  exact .inr ⟨fun h=>absurd (show((9:Int)=5)from h.1) (by decide),_,b,Eq.trans (congrArg (fun o=>bnd o _) hb) rfl,rfl,h1,h2⟩
 rw[beq_eq_false_iff_ne.2 k9,cond_false]
 by_cases k4:x1=4
 ·subst k4
  rw[beq_self_eq_true,cond_true]
  exact .inr ⟨fun h=>absurd (show((4:Int)=5)from h.1) (by decide),_,b,Eq.trans (congrArg (fun o=>bnd o _) hb) rfl,rfl,h1,h2⟩
 rw[beq_eq_false_iff_ne.2 k4,cond_false]
 by_cases k5:x1=5
 ·subst k5
  rw[beq_self_eq_true,cond_true]
  have good:∀ hng:¬ q2k ⟨5,x2,x3,⟨x4,x5,⟨x6,x7,x8,x9,x10,x11⟩,x12,x13⟩,x14,x15,x16,x17,x18,x19,x20,x21,x22⟩,q3v ⟨5,x2,x3,⟨x4,x5,⟨x6,x7,x8,x9,x10,x11⟩,x12,x13⟩,x14,x15,x16,x17,x18,x19,x20,x21,x22⟩ (bnd (qdo n ⟨5,x2,x3,⟨x4,x5,⟨x6,x7,x8,x9,x10,x11⟩,x12,x13⟩,x14,x15,x16,x17,x18,x19,x20,x21,x22⟩ (q6c ⟨5,x2,x3,⟨x4,x5,⟨x6,x7,x8,x9,x10,x11⟩,x12,x13⟩,x14,x15,x16,x17,x18,x19,x20,x21,x22⟩)) fun x45=>
    some ([qa4.mk ([77,69,82,71,69,32]:List UInt8) (x2.map .path) (1:Int) (1:Int)],x45)):=fun hng=>
   .inr ⟨hng,_,b,Eq.trans (congrArg (fun o=>bnd o _) hb) rfl,rfl,h1,h2⟩
  match x2 with
  | []=>exact good (by rintro⟨_,p,hp,_⟩; cases hp)
  | [⟨nodes,[]⟩]=>exact good (by rintro⟨_,p,hp,he⟩; cases hp; exact he rfl)
  | [⟨nodes,e::es⟩]=>
   refine .inl ⟨⟨rfl,_,rfl,by simp⟩,?_⟩
   have e2:decide ((((qag.rows (e::es)).length:Nat):Int)>0)=true:=decide_eq_true (by rw[qe8]; simp only[List.length_cons]; omega)
   have e1:((((qa8.rows [⟨nodes,e::es⟩]).length:Nat):Int)==(1:Int))=true:=rfl
   rw[e1,qfa,qou,qai]
   simp only[e2,cond_true]
  | p::q::l=>
   have e1:((((qa8.rows (p::q::l)).length:Nat):Int)==(1:Int))=false:=by rw[qde]; simp only[List.length_cons]; rw[beq_eq_false_iff_ne]; omega
   rw[e1,q7b,qai]
   exact good (by rintro⟨_,p,hp,_⟩; cases hp)
 rw[beq_eq_false_iff_ne.2 k5,cond_false]
 unfold qin qhr qhh
 by_cases k6:x1=6
 ·subst k6
  rw[beq_self_eq_true,cond_true,cond_true,show((6:Int)==7)=false from rfl,cond_false]
  exact .inr ⟨fun h=>absurd (show((6:Int)=5)from h.1) (by decide),_,b,Eq.trans (congrArg (fun o=>bnd o _) hb) rfl,rfl,h1,h2⟩
 rw[beq_eq_false_iff_ne.2 k6,cond_false]
 by_cases k7:x1=7
 ·subst k7
  rw[beq_self_eq_true,cond_true,cond_true]
  exact .inr ⟨fun h=>absurd (show((7:Int)=5)from h.1) (by decide),_,b,Eq.trans (congrArg (fun o=>bnd o _) hb) rfl,rfl,h1,h2⟩
 rw[beq_eq_false_iff_ne.2 k7,cond_false]
 by_cases k8:x1=8
 ·subst k8
  rw[beq_self_eq_true,cond_true]
  cases x22 with
  | true=>
   rw[cond_true]
   exact .inr ⟨fun h=>absurd (show((8:Int)=5)from h.1) (by decide),_,b,Eq.trans (congrArg (fun o=>bnd o _) hb) rfl,rfl,h1,h2⟩
  | false=>
   rw[cond_false]
   exact .inr ⟨fun h=>absurd (show((8:Int)=5)from h.1) (by decide),_,b,Eq.trans (congrArg (fun o=>bnd o _) hb) rfl,rfl,h1,h2⟩
 rw[beq_eq_false_iff_ne.2 k8,cond_false]
 have eo:q6c ⟨x1,x2,x3,⟨x4,x5,⟨x6,x7,x8,x9,x10,x11⟩,x12,x13⟩,x14,x15,x16,x17,x18,x19,x20,x21,x22⟩=qnd x1:=by
  unfold q6c
  simp only[k1,k2,k3,k9,k4,k5,k6,k7,k8,if_false,or_self]
 refine .inr ⟨fun h=>absurd h.1 k5,[],b,Eq.trans (congrArg (fun o=>bnd o fun x=>some (([]:List qa4),x)) (show _=some b from ?_)) rfl,?_,h1,h2⟩
 ·rw[← hb,eo]; rfl
 ·unfold qth
  simp only[k1,k2,k3,k9,k4,k5,k6,k7,k8,if_false,or_self]
  rfl
end
theorem zg3 {n:Nat} (hn:n≤1073741824) {c:qac} (h:qd5 c<n):q3v c (qjx n c):=by
 have hp:=qbt qi4 (fun p=>by unfold qi4; omega) c.paths
 have hi:=qbt qpd (fun p=>by unfold qpd; omega) c.items
 have ho:=qbt qg8 (fun p=>by unfold qg8; omega) c.order
 have hs:=qbt qg3 (fun p=>by unfold qg3; omega) c.sets
 have hv:=qd8 c.vars
 have h3:=qdw c.where_
 have h4:=qdw c.skip
 have h5:=qdw c.limit
 unfold qd5 qv7 at h
 obtain⟨x1,x2,x3,⟨x4,x5,⟨x6,x7,x8,x9,x10,x11⟩,x12,x13⟩,x14,x15,x16,x17,x18,x19,x20,x21,x22⟩:=c
 simp only at h hp hi ho hs hv h3 h4 h5
 unfold qjx
 simp only[zg6 hn (l:=x2) (by omega),zgq hn (l:=x3) (by omega),zgu hn (l:=x15) (by omega),zgf hn (l:=x17) (by omega),zhg hn (l:=x18) (by omega),zhf hn (l:=x19) (by omega),zg2 hn (l:=x21) (by omega),zfw hn (l:=x20) (by omega),qai]
 cases x16 with
 | true=>exact q9k hn (by omega) (by decide)
 | false=>exact q9k hn (by omega) (by decide)
end W
end
section
open Go Ax
namespace W
def qtb (n:Nat) (x:qab):Bool:=(qco n x 32).getD false
def q01 (n:Nat) (p:qa8):Bool:=(qhf n p).getD false
def q8c (n:Nat) (f:Bool) (s:qaf):Bool:=(qfy n ⟨s,f⟩).getD false
def zcg (n:Nat):qbg→Bool
 | .path p=>q01 n p
 | .expr x=>qtb n x
 | .item i=>qdf i.as_&&qtb n i.e
 | .sorted s=>qtb n s.e
 | .name s=>qdf s
 | .change c=>q8c n c.set_ c.setItem
def q1w:qbg→Nat
 | .path p=>qi4 p
 | .expr x=>qir x
 | .item i=>qpd i
 | .sorted s=>qg8 s
 | .name s=>1+s.length
 | .change c=>qg3 c.setItem
theorem q8i {n:Nat} (hn:n≤1073741824) {x:qab} (h:40+qir x<n):qf6 n x=some (qtb n x):=by
 obtain⟨b,h1,_,_⟩:=qwf hn h
 unfold qtb
 rw[h1]
 obtain⟨x1,x2,⟨x3,x4,x5,x6,x7,x8⟩,x9,x10⟩:=x
 simp only[qf6,h1,qai,Option.getD_some]
theorem zis {n:Nat} (hn:n≤1073741824) {p:qbg} (h:42+q1w p<n):qnb n p=some (zcg n p):=by
 cases p with
 | path p=>
  obtain⟨b,h1,_,_⟩:=q7s hn (p:=p) h
  simp only[qnb,zcg,q01,h1,Option.getD_some]
 | expr x=>exact q8i hn (by simp only[q1w]at h; omega)
 | item i=>
  simp only[q1w,qpd]at h
  have h1:=q8i hn (x:=i.e) (by omega)
  have h2:=qhb (s:=i.as_) (n:=n) (by omega) hn
  obtain⟨⟨x1,x2,⟨x3,x4,x5,x6,x7,x8⟩,x9,x10⟩,x11⟩:=i
  simp only at h1 h2
  simp only[qnb,qmr,h1,h2,qai,zcg]
  cases qdf x11<;>rfl
 | sorted s=>
  simp only[q1w,qg8]at h
  have h1:=q8i hn (x:=s.e) (by omega)
  obtain⟨⟨x1,x2,⟨x3,x4,x5,x6,x7,x8⟩,x9,x10⟩,x11⟩:=s
  simp only at h1
  simp only[qnb,qkh,h1,qai,zcg]
 | name s=>
  simp only[q1w]at h
  have h2:=qhb (s:=s) (n:=n) (by omega) hn
  simp only[qnb,qmn,h2,qai,zcg]
 | change c=>
  obtain⟨s,f⟩:=c
  simp only[q1w,qg3]at h
  obtain⟨b,h1,_,_⟩:=q4g hn (s:=s) (by omega) f
  simp only[qnb,zcg,q8c,h1,Option.getD_some]
theorem qrv {A:Type} (g:A→Bool) (r:Option Bool):∀ l:List A,orE (qej (fun s=>if g s then none else some false) l) r=bif l.all g then r else some false
 | []=>rfl
 | a::l=>by
  simp only[qej,List.all_cons]
  cases g a with
  | true=>simpa using qrv g r l
  | false=>rfl
@[simp] theorem qtz (l:List qa4):(qa4.rows l).length=l.length:=by simp[qa4.rows]
theorem zd5 {n:Nat} (hn:n≤1073741824) {l:List qbg} (hp:∀ p∈l,42+q1w p<n) (hl:l.length<n) (nx2:Int→Option Bool) {k:Nat} (hk:k<n) :
  qas (qf7 n l nx2 (k:Int)) n (0:Int)=bif l.all (zcg n)then nx2 ((k+1:Nat):Int)else some false:=by
 have e:=qda (B:=qf7 n l nx2 (k:Int)) (fun k=>((k:Nat):Int)) (l:=l) (fun p=>if zcg n p then none else some false) (rest:=nx2 ((k+1:Nat):Int))
  (fun j x nx hx=>by
   have hj:=qcg hx
   simp only[qf7,qrq,qbk hj,cond_true,qao hx,qai,zis hn (hp x (qbi hx))]
   rw[qcq (by omega)]
   cases zcg n x<;>rfl)
  (fun nx=>by
   simp only[qf7,qrq,qaw,cond_false]
   rw[qcq (by omega)]) (n:=n) hl
 refine Eq.trans e ?_
 rw[qrv]
def gOk (n:Nat) (g:PG):Bool:=!(bif decide (((g.1.length:Nat):Int)<g.2.1)then true else decide (((g.1.length:Nat):Int)>g.2.2))&&g.1.all (zcg n)
theorem zbg {n:Nat} (hn:n≤1073741824) {gl:List qa4} (hg:∀ g∈gl,g.parts.length<n∧∀ p∈g.parts,42+q1w p<n) (hl:gl.length<n) (nx1:Int→Option Bool) {k:Nat} (hk:k<n) :
  qas (qga n gl nx1 (k:Int)) n (0:Int)=bif(gl.map g3).all (gOk n)then nx1 ((k+1:Nat):Int)else some false:=by
 have core:∀ (t a:Bool) (X:Option Bool),(bif t then some false else bif a then X else some false)=orE (if(!t&&a)then none else some false) X:=by
  intro t a X
  cases t<;>cases a<;>rfl
 have e:=qda (B:=qga n gl nx1 (k:Int)) (fun k=>((k:Nat):Int)) (l:=gl) (fun g=>if gOk n (g3 g)then none else some false) (rest:=nx1 ((k+1:Nat):Int))
  (fun j x nx hx=>by
   have hj:=qcg hx
   obtain⟨h1,h2⟩:=hg x (qbi hx)
   obtain⟨w,parts,least,most⟩:=x
   simp only at h1 h2
   have e3:=zd5 hn h2 h1 nx (k:=j) (by omega)
   simp only[qga,qtz,qrq,qbk hj,cond_true,qao hx,qai,e3]
   exact core _ _ _)
  (fun nx=>by
   simp only[qga,qtz,qaw,cond_false]
   rw[qcq (by omega)]) (n:=n) hl
 refine Eq.trans e ?_
 rw[qrv,List.all_map]
 rfl
theorem zb3 {c:qac} {m:Nat} (h:qd5 c≤m):∀ g∈qth c,g.1.length≤m∧∀ p∈g.1,q1w p≤m:=by
 have hp:=qbt qi4 (fun p=>by unfold qi4; omega) c.paths
 have hi:=qbt qpd (fun p=>by unfold qpd; omega) c.items
 have ho:=qbt qg8 (fun p=>by unfold qg8; omega) c.order
 have hs:=qbt qg3 (fun p=>by unfold qg3; omega) c.sets
 have hv:=qd8 c.vars
 have h3:=qdw c.where_
 have h4:=qdw c.skip
 have h5:=qdw c.limit
 have mp:∀ p∈c.paths,qi4 p≤m:=fun p hm=>by have:=qb3 qi4 hm; unfold qd5 qv7 at h; omega
 have mi:∀ p∈c.items,qpd p≤m:=fun p hm=>by have:=qb3 qpd hm; unfold qd5 at h; omega
 have mo:∀ p∈c.order,qg8 p≤m:=fun p hm=>by have:=qb3 qg8 hm; unfold qd5 at h; omega
 have ms:∀ p∈c.sets,qg3 p≤m:=fun p hm=>by have:=qb3 qg3 hm; unfold qd5 at h; omega
 have mv:∀ p∈c.vars,1+p.length≤m:=fun p hm=>by have:=qb3 (fun k:List UInt8=>1+k.length) hm; unfold qd5 qyi at h; omega
 have mw:∀ p∈c.where_,qir p≤m:=fun p hm=>by have:=qgc hm; unfold qd5 at h; omega
 have mk:∀ p∈c.skip,qir p≤m:=fun p hm=>by have:=qgc hm; unfold qd5 at h; omega
 have ml:∀ p∈c.limit,qir p≤m:=fun p hm=>by have:=qgc hm; unfold qd5 at h; omega
 have me:qir c.e≤m:=by unfold qd5 at h; omega
 have mr:1+c.var_.length≤m:=by unfold qd5 at h; omega
 have hb:1≤m:=by unfold qd5 at h; omega
 unfold qd5 qv7 at h
 have am:∀ {A:Type} (l:List A) (f:A→qbg) (hl:l.length≤m) (hf:∀ a∈l,q1w (f a)≤m) (least most:Int),(l.map f,least,most).1.length≤m∧∀ p∈(l.map f,least,most).1,q1w p≤m:=by
  intro A l f hl hf least most
  refine⟨by simpa using hl,fun p hp=>?_⟩
  obtain⟨a,ha,rfl⟩:=List.mem_map.1 hp
  exact hf a ha
 have gp:=fun a b=>am c.paths .path (by omega) mp a b
 have gw:=fun a b=>am c.where_ .expr (by omega) mw a b
 have gk:=fun a b=>am c.skip .expr (by omega) mk a b
 have gl:=fun a b=>am c.limit .expr (by omega) ml a b
 have gi:=fun a b=>am c.items .item (by omega) mi a b
 have go:=fun a b=>am c.order .sorted (by omega) mo a b
 have gv:=fun a b=>am c.vars .name (by omega) mv a b
 have gs:=fun a b=>am c.sets (fun s=>.change ⟨s,c.kind==6⟩) (by omega) ms a b
 have g1:=fun a b=>am [c.e] .expr (by simpa using hb) (fun a ha=>by simp at ha; subst ha; exact me) a b
 have g2:=fun a b=>am [c.var_] .name (by simpa using hb) (fun a ha=>by simp at ha; subst ha; exact mr) a b
 intro g hg
 unfold qth at hg
 repeat' split at hg
 all_goals
  simp only[List.mem_cons,List.not_mem_nil,or_false]at hg
 ·rcases hg with rfl|rfl
  ·exact gp _ _
  ·exact gw _ _
 ·rcases hg with rfl|rfl
  ·exact g1 _ _
  ·exact g2 _ _
 ·rcases hg with rfl|rfl|rfl|rfl|rfl
  ·exact gi _ _
  ·exact go _ _
  ·exact gk _ _
  ·exact gl _ _
  ·exact gw _ _
 ·rcases hg with rfl|rfl|rfl|rfl
  ·exact gi _ _
  ·exact go _ _
  ·exact gk _ _
  ·exact gl _ _
 ·subst hg; exact gp _ _
 ·subst hg; exact gp _ _
 ·subst hg; exact gs _ _
 ·subst hg; exact gv _ _
end W
end
section
open Go Ax
namespace W
theorem q4h {n:Nat} (hn:n≤1073741824) {l:List qab} (h:40+qfh l<n) (m:Int):qk7 n l m=some (l.all (qtb n)&&decide (((l.length:Nat):Int)≤m)):=zja hn h m
theorem q62 {n:Nat} (hn:n≤1073741824) {x:qab} (h:40+qir x<n):qe0 n x=some (qtb n x):=by
 obtain⟨b,h1,h2,_⟩:=qwf hn h
 unfold qtb
 rw[h1,h2]; rfl
theorem zif {n:Nat} (hn:n≤1073741824) {p:qa8} (h:42+qi4 p<n):qlo n p=some (q01 n p):=by
 obtain⟨b,h1,h2,_⟩:=q7s hn h
 unfold q01
 rw[h1,h2]; rfl
theorem zkx {n:Nat} (hn:n≤1073741824) {s:qaf} (h:42+qg3 s<n) (f:Bool):qnc n s f=some (q8c n f s):=by
 unfold qg3 at h
 obtain⟨b,h1,h2,_⟩:=q4g hn (s:=s) (by omega) f
 unfold q8c
 rw[h1,h2]; rfl
def exS (n:Nat) (l:List qab):Bool:=l.all (qtb n)&&decide (((l.length:Nat):Int)≤1)
def zbh (n:Nat) (c:qac):Bool:=c.items.all (fun i=>qdf i.as_&&qtb n i.e)&&(c.order.all (fun s=>qtb n s.e)&&(decide (((c.items.length:Nat):Int)>0)&&(exS n c.skip&&exS n c.limit)))
theorem zi2 {n:Nat} (hn:n≤1073741824) {c:qac} (h:42+qd5 c<n):qsx n c=some (zbh n c):=by
 have hi:=qbt qpd (fun p=>by unfold qpd; omega) c.items
 have ho:=qbt qg8 (fun p=>by unfold qg8; omega) c.order
 have mi:∀ p∈c.items,42+qpd p<n:=fun p hm=>by have:=qb3 qpd hm; unfold qd5 at h; omega
 have mo:∀ p∈c.order,42+qg8 p<n:=fun p hm=>by have:=qb3 qg8 hm; unfold qd5 at h; omega
 have e1:=q4h hn (l:=c.skip) (by unfold qd5 at h; omega) 1
 have e2:=q4h hn (l:=c.limit) (by unfold qd5 at h; omega) 1
 have a1:c.items.length<n:=by unfold qd5 at h; omega
 have a2:c.order.length<n:=by unfold qd5 at h; omega
 clear h
 unfold zbh exS
 obtain⟨x1,x2,x3,⟨x4,x5,⟨x6,x7,x8,x9,x10,x11⟩,x12,x13⟩,x14,x15,x16,x17,x18,x19,x20,x21,x22⟩:=c
 simp only at hi ho mi mo e1 e2 a1 a2 ⊢
 have l2:=qda (B:=qlj n x17 x15 x18 x19) (fun k=>((k:Nat):Int)) (l:=x17) (fun s=>if qtb n s.e then none else some false)
  (rest:=some (decide (((x15.length:Nat):Int)>0)&&((x18.all (qtb n)&&decide (((x18.length:Nat):Int)≤1))&&(x19.all (qtb n)&&decide (((x19.length:Nat):Int)≤1)))))
  (fun k x nx hx=>by
   have hk:=qcg hx
   have h1:=q62 hn (x:=x.e) (by have:=mo x (qbi hx); unfold qg8 at this; omega)
   obtain⟨⟨y1,y2,⟨y3,y4,y5,y6,y7,y8⟩,y9,y10⟩,y11⟩:=x
   simp only at h1
   simp only[qlj,qaq.rows,List.length_map,qbk hk,cond_true,qao hx,qai,h1]
   rw[qcq (by omega)]
   cases qtb n _<;>rfl)
  (fun nx=>by
   simp only[qlj,qaq.rows,qbf.rows,List.length_map,qaw,cond_false,e1,e2]
   generalize decide (((x15.length:Nat):Int)>0)=d
   generalize (x18.all (qtb n)&&decide (((x18.length:Nat):Int)≤1))=p
   generalize (x19.all (qtb n)&&decide (((x19.length:Nat):Int)≤1))=q
   cases d<;>cases p<;>cases q<;>rfl) (n:=n) a2
 rw[qrv]at l2
 have l1:=qda (B:=qla n x15 x17 x18 x19) (fun k=>((k:Nat):Int)) (l:=x15) (fun i=>if(qdf i.as_&&qtb n i.e)then none else some false) (rest:=_)
  (fun k x nx hx=>by
   have hk:=qcg hx
   have hb:=mi x (qbi hx)
   unfold qpd at hb
   have h1:=q62 hn (x:=x.e) (by omega)
   have h2:=qh8 (s:=x.as_) (n:=n) (by omega) (by omega) hn
   obtain⟨⟨y1,y2,⟨y3,y4,y5,y6,y7,y8⟩,y9,y10⟩,y11⟩:=x
   simp only at h1 h2
   simp only[qla,qbf.rows,List.length_map,qbk hk,cond_true,qao hx,qai,h1,h2]
   rw[qcq (by omega)]
   cases qdf y11 with
   | false=>rfl
   | true=>
    simp only[Bool.not_true,Bool.not_false,qfa,qai,h1,cond_false]
    cases qtb n _<;>rfl)
  (fun nx=>by
   simp only[qla,qbf.rows,List.length_map,qaw,cond_false]
   exact l2) (n:=n) a1
 rw[qrv]at l1
 unfold qsx
 refine Eq.trans l1 ?_
 generalize x15.all _=a
 generalize x17.all _=b
 cases a<;>cases b<;>rfl
def qy7 (n:Nat) (c:qac):Bool:=
 if c.kind=1 then decide (((c.paths.length:Nat):Int)>0)&&exS n c.where_
 else if c.kind=2 then qtb n c.e&&qdf c.var_
 else if c.kind=3∨c.kind=9 then zbh n c&&exS n c.where_
 else if c.kind=4 then decide (((c.paths.length:Nat):Int)>0)
 else if c.kind=5 then(match c.paths with|[p]=>(((p.edges.length:Nat):Int)==0)|_=>false)
 else if c.kind=6∨c.kind=7 then c.sets.all (q8c n (c.kind==6))&&decide (((c.sets.length:Nat):Int)>0)
 else if c.kind=8 then c.vars.all qdf&&decide (((c.vars.length:Nat):Int)>0)
 else false
theorem zan {n:Nat} (hn:n≤1073741824) {c:qac} (h:42+qd5 c<n):∃ s,(s=true↔q6c c=c)∧qev n c=some (s&&(c.paths.all (q01 n)&&qy7 n c)):=by
 have hp:=qbt qi4 (fun p=>by unfold qi4; omega) c.paths
 have hs:=qbt qg3 (fun p=>by unfold qg3; omega) c.sets
 have hi:=qbt qpd (fun p=>by unfold qpd; omega) c.items
 have ho:=qbt qg8 (fun p=>by unfold qg8; omega) c.order
 have hv:=qd8 c.vars
 have mp:∀ p∈c.paths,42+qi4 p<n:=fun p hm=>by have:=qb3 qi4 hm; unfold qd5 qv7 at h; omega
 have mi:∀ p∈c.items,qir p.e<n:=fun p hm=>by have:=qb3 qpd hm; have e:qpd p=1+p.as_.length+qir p.e:=rfl; unfold qd5 at h; omega
 have mo:∀ p∈c.order,qir p.e<n:=fun p hm=>by have:=qb3 qg8 hm; have e:qg8 p=1+qir p.e:=rfl; unfold qd5 at h; omega
 have ms:∀ p∈c.sets,42+qg3 p<n:=fun p hm=>by have:=qb3 qg3 hm; unfold qd5 at h; omega
 have ms':∀ p∈c.sets,qir p.e<n:=fun p hm=>by have:=ms p hm; unfold qg3 at this; omega
 have mv:∀ p∈c.vars,42+p.length<n:=fun p hm=>by have:=qb3 (fun k:List UInt8=>1+k.length) hm; unfold qd5 qyi at h; omega
 have hrow:=zi2 hn h
 have e1:=q4h hn (l:=c.where_) (by unfold qd5 at h; omega) 1
 have e2:=q62 hn (x:=c.e) (by unfold qd5 at h; omega)
 have e3:=qh8 (s:=c.var_) (n:=n) (by unfold qd5 at h; omega) (by omega) hn
 have h40:40<n:=by omega
 unfold qd5 qv7 at h
 have b1:([]:List qab).length=0:=rfl
 have eb:qir q6q=4:=rfl
 obtain⟨s,hs1,hs2⟩:∃ b,qfz n (q6c c) c=some b∧(b=true↔q6c c=c):=by
  have z1:∀ {A:Type} {P:A→Prop},∀ a∈([]:List A),P a:=fun a ha=>by cases ha
  have z2:qfh []<n:=by show 1<n; omega
  unfold q6c
  repeat' split
  all_goals
   refine q8l hn ?_ ?_ ?_ ?_ ?_ ?_ ?_ ?_ ?_ ?_ ?_ ?_ ?_<;>simp only[qnd]<;>first|exact z1|exact z2|exact mi|exact mo|exact ms'|(intro p hm; have:=mp p hm; omega)|(simp only[List.length_nil,eb]; omega)|omega
 refine⟨s,hs2,?_⟩
 have ho:=zln n c
 rw[zk1]at ho
 have l1:qev n c=(bif !s then some false else bif c.paths.all (q01 n)then some (qy7 n c)else some false):=by
  clear hs2
  obtain⟨x1,x2,x3,⟨x4,x5,⟨x6,x7,x8,x9,x10,x11⟩,x12,x13⟩,x14,x15,x16,x17,x18,x19,x20,x21,x22⟩:=c
  simp only at hp hs hi ho hv mp ms mv e1 e2 e3 h
  have eta:∀ (d:qac) {R:Type} (f:qac→Option R),(match d with|⟨x23,x24,x25,⟨x26,x27,⟨x28,x29,x30,x31,x32,x33⟩,x34,x35⟩,x36,x37,x38,x39,x40,x41,x42,x43,x44⟩=>f ⟨x23,x24,x25,⟨x26,x27,⟨x28,x29,x30,x31,x32,x33⟩,x34,x35⟩,x36,x37,x38,x39,x40,x41,x42,x43,x44⟩)=f d:=by
   intro d R f
   obtain⟨x1,x2,x3,⟨x4,x5,⟨x6,x7,x8,x9,x10,x11⟩,x12,x13⟩,x14,x15,x16,x17,x18,x19,x20,x21,x22⟩:=d
   rfl
  unfold qev
  simp only[ho,qai]
  refine Eq.trans (eta _ (fun d=>bnd (qfz n d _) fun x45=>bif(!x45)then some false else qas (qeu n x2 x1 x3 x4 x5 x6 x7 x8 x9 x10 x11 x12 x13 x14 x15 x16 x17 x18 x19 x20 x21 x22) n (0:Int))) ?_
  simp only[hs1,qai]
  congr 1
  have L:=qda (B:=qeu n x2 x1 x3 x4 x5 x6 x7 x8 x9 x10 x11 x12 x13 x14 x15 x16 x17 x18 x19 x20 x21 x22) (fun k=>((k:Nat):Int)) (l:=x2) (fun p=>if q01 n p then none else some false)
   (rest:=some (qy7 n ⟨x1,x2,x3,⟨x4,x5,⟨x6,x7,x8,x9,x10,x11⟩,x12,x13⟩,x14,x15,x16,x17,x18,x19,x20,x21,x22⟩))
   (fun k x nx hx=>by
    have hk:=qcg hx
    have h1:=zif hn (mp x (qbi hx))
    obtain⟨y1,y2⟩:=x
    simp only[qeu,qde,qbk hk,cond_true,qao hx,qai,h1]
    rw[qcq (by omega)]
    cases q01 n _<;>rfl)
   (fun nx=>by
    have A:∀ (d p:Bool),(bnd (qa2 d (some p)) fun x50=>some (bif d then x50 else false))=some (d&&p):=by intro d p; cases d<;>cases p<;>rfl
    have l3:=qda (B:=qes n x20 x1) (fun k=>((k:Nat):Int)) (l:=x20) (fun s=>if q8c n (x1==6) s then none else some false) (rest:=some (decide (((x20.length:Nat):Int)>0)))
     (fun k x nx hx=>by
      have hk:=qcg hx
      have h1:=zkx hn (ms x (qbi hx)) (x1==6)
      obtain⟨z1,z2,z3,⟨y1,y2,⟨y3,y4,y5,y6,y7,y8⟩,y9,y10⟩⟩:=x
      simp only[qes,qaf.rows,List.length_map,qbk hk,cond_true,qao hx,qai,h1]
      rw[qcq (by omega)]
      cases q8c n _ _<;>rfl)
     (fun nx=>by simp only[qes,qaf.rows,List.length_map,qaw,cond_false]) (n:=n) (by omega)
    rw[qrv]at l3
    have l3':qas (qes n x20 x1) n (0:Int)=some (x20.all (q8c n (x1==6))&&decide (((x20.length:Nat):Int)>0)):=by
     refine Eq.trans l3 ?_
     cases x20.all (q8c n (x1==6))<;>rfl
    have l4:=qda (B:=qe1 n x21) (fun k=>((k:Nat):Int)) (l:=x21) (fun s=>if qdf s then none else some false) (rest:=some (decide (((x21.length:Nat):Int)>0)))
     (fun k x nx hx=>by
      have hk:=qcg hx
      have h1:=qh8 (s:=x) (n:=n) (by have:=mv x (qbi hx); omega) (by omega) hn
      simp only[qe1,qax,qbk hk,cond_true,qao hx,qai,h1]
      rw[qcq (by omega)]
      cases qdf x<;>rfl)
     (fun nx=>by simp only[qe1,qax,qaw,cond_false]) (n:=n) (by omega)
    rw[qrv]at l4
    have l4':qas (qe1 n x21) n (0:Int)=some (x21.all qdf&&decide (((x21.length:Nat):Int)>0)):=by
     refine Eq.trans l4 ?_
     cases x21.all qdf<;>rfl
    simp only[qeu,qh0,qhm,qde,qaw,cond_false,e1,e2,e3,hrow,qai,l3',l4']
    unfold qy7 exS
    simp only
    by_cases k1:x1=1
    ·subst k1; exact A _ _
    by_cases k2:x1=2
    ·subst k2; exact A _ _
    by_cases k3:x1=3
    ·subst k3; exact A _ _
    by_cases k9:x1=9
    ·subst k9; exact A _ _
    by_cases k4:x1=4
    ·subst k4; rfl
    by_cases k5:x1=5
    ·subst k5
     match x2 with
     | []=>rfl
     | [p]=>obtain⟨p1,p2⟩:=p; show some ((((qag.rows p2).length:Nat):Int)==0)=some (((p2.length:Nat):Int)==0); rw[qe8]
     | p::q::l=>
      have e1:((((p::q::l).length:Nat):Int)==(1:Int))=false:=by simp only[List.length_cons]; rw[beq_eq_false_iff_ne]; omega
      rw[e1]; rfl
    by_cases k6:x1=6
    ·subst k6; rfl
    by_cases k7:x1=7
    ·subst k7; rfl
    by_cases k8:x1=8
    ·subst k8; rfl
    simp only[beq_eq_false_iff_ne.2 k1,beq_eq_false_iff_ne.2 k2,beq_eq_false_iff_ne.2 k3,beq_eq_false_iff_ne.2 k9,beq_eq_false_iff_ne.2 k4,beq_eq_false_iff_ne.2 k5,beq_eq_false_iff_ne.2 k6,beq_eq_false_iff_ne.2 k7,beq_eq_false_iff_ne.2 k8,cond_false,k1,k2,k3,k9,k4,k5,k6,k7,k8,if_false,or_self]) (n:=n) (by omega)
  rw[qrv]at L
  exact L
 rw[l1]
 cases s<;>cases c.paths.all (q01 n)<;>rfl
end W
end
section
open Go Ax
namespace W
theorem qs2 {n:Nat} {A:Type} (f:A→qbg) {l:List A} (h:l.length≤1048576):gOk n (l.map f,1,1048576)=(decide (((l.length:Nat):Int)>0)&&l.all (fun x=>zcg n (f x))):=by
 unfold gOk
 simp only[List.length_map,List.all_map]
 rw[decide_eq_false (p:=((l.length:Nat):Int)>1048576) (by omega)]
 have:decide (((l.length:Nat):Int)<1)=!decide (((l.length:Nat):Int)>0):=by
  rw[Bool.eq_iff_iff]; simp only[decide_eq_true_eq,Bool.not_eq_true',decide_eq_false_iff_not]; omega
 rw[this]
 cases decide (((l.length:Nat):Int)>0)<;>rfl
theorem zgn {n:Nat} {A:Type} (f:A→qbg) {l:List A} (h:l.length≤1048576):gOk n (l.map f,0,1048576)=l.all (fun x=>zcg n (f x)):=by
 unfold gOk
 simp only[List.length_map,List.all_map]
 rw[decide_eq_false (p:=((l.length:Nat):Int)>1048576) (by omega),decide_eq_false (p:=((l.length:Nat):Int)<0) (by omega)]
 rfl
theorem q0v {n:Nat} {A:Type} (f:A→qbg) {l:List A}:gOk n (l.map f,0,1)=(l.all (fun x=>zcg n (f x))&&decide (((l.length:Nat):Int)≤1)):=by
 unfold gOk
 simp only[List.length_map,List.all_map]
 rw[decide_eq_false (p:=((l.length:Nat):Int)<0) (by omega)]
 have:decide (((l.length:Nat):Int)>1)=!decide (((l.length:Nat):Int)≤1):=by
  rw[Bool.eq_iff_iff]; simp only[decide_eq_true_eq,Bool.not_eq_true',decide_eq_false_iff_not]; omega
 rw[this]
 show(!(!decide (((l.length:Nat):Int)≤1))&&_)=_
 rw[Bool.not_not,Bool.and_comm]
 rfl
theorem q0x {n:Nat} (p:qbg):gOk n ([p],1,1)=zcg n p:=by
 show(true&&(zcg n p&&true))=_
 simp
theorem qgk {A:Type} (x:A) (l:List A):((((x::l).length:Nat):Int)==0)=false:=by
 rw[beq_eq_false_iff_ne]; simp only[List.length_cons]; omega
theorem zgs {n:Nat} {x:qab} (h:(qia x).1=0):qtb n x=false:=by
 obtain⟨op,name,val,names,args⟩:=x
 have:op=0:=h
 subst this
 have:=zdi (n:=n) (name:=name) (val:=val) (names:=names) (args:=args) (d:=32)
 unfold qtb
 cases hr:qco n ⟨0,name,val,names,args⟩ 32 with
 | none=>rfl
 | some b=>
  cases b with
  | false=>rfl
  | true=>exact absurd hr this
structure LenOk (c:qac):Prop where
 paths:c.paths.length≤1048576
 items:c.items.length≤1048576
 order:c.order.length≤1048576
 sets:c.sets.length≤1048576
 vars:c.vars.length≤1048576
theorem zdb {c:qac} (hM:qd5 c≤1048576):LenOk c:=by
 have hp:=qbt qi4 (fun p=>by unfold qi4; omega) c.paths
 have hi:=qbt qpd (fun p=>by unfold qpd; omega) c.items
 have ho:=qbt qg8 (fun p=>by unfold qg8; omega) c.order
 have hs:=qbt qg3 (fun p=>by unfold qg3; omega) c.sets
 have hv:=qd8 c.vars
 unfold qd5 qv7 at hM
 exact⟨by omega,by omega,by omega,by omega,by omega⟩
theorem zfh {n:Nat} {c:qac} (hM:LenOk c) (hk:q6c c=c) (hb:¬ q2k c) {ok:Bool} (hok:ok=true∨(c.kind=2∧(qia c.e).1=0)) :
  (ok&&!((((qth c).length:Nat):Int)==0)&&(qth c).all (gOk n))=(c.paths.all (q01 n)&&qy7 n c):=by
 obtain⟨hp,hi,ho,hs,hv⟩:=hM
 obtain⟨x1,x2,x3,x4,x14,x15,x16,x17,x18,x19,x20,x21,x22⟩:=c
 simp only at hp hi ho hs hv hok
 by_cases k1:x1=1
 ·subst k1
  have hok:ok=true:=by rcases hok with h|h; exact h; exact absurd h.1 (by decide)
  subst hok
  have e:(qth ⟨1,x2,x3,x4,x14,x15,x16,x17,x18,x19,x20,x21,x22⟩)=[(x2.map .path,1,1048576),(x3.map .expr,0,1)]:=rfl
  rw[e,qgk,List.all_cons,List.all_cons,List.all_nil,qs2 .path (by omega),q0v]
  show(true&&(_&&x2.all (q01 n)&&(x3.all (qtb n)&&decide (((x3.length:Nat):Int)≤1)&&true)))=(x2.all (q01 n)&&(_&&(x3.all (qtb n)&&_)))
  generalize x2.all (q01 n)=a
  generalize x3.all (qtb n)=b
  generalize decide (((x2.length:Nat):Int)>0)=d
  generalize decide (((x3.length:Nat):Int)≤1)=f
  cases a<;>cases b<;>cases d<;>cases f<;>rfl
 by_cases k2:x1=2
 ·subst k2
  have hpn:x2=[]:=(congrArg qac.paths hk).symm
  subst hpn
  have e:(qth ⟨2,[],x3,x4,x14,x15,x16,x17,x18,x19,x20,x21,x22⟩)=[([.expr x4],1,1),([.name x14],1,1)]:=rfl
  rw[e,qgk,List.all_cons,List.all_cons,List.all_nil,q0x,q0x]
  show(ok&&true&&(qtb n x4&&(qdf x14&&true)))=(true&&(qtb n x4&&qdf x14))
  rcases hok with h|h
  ·subst h
   cases qtb n x4<;>cases qdf x14<;>rfl
  ·rw[zgs h.2]
   cases ok<;>rfl
 by_cases k3:x1=3
 ·subst k3
  have hok:ok=true:=by rcases hok with h|h; exact h; exact absurd h.1 (by decide)
  subst hok
  have hpn:x2=[]:=(congrArg qac.paths hk).symm
  subst hpn
  have e:(qth ⟨3,[],x3,x4,x14,x15,x16,x17,x18,x19,x20,x21,x22⟩)=[(x15.map .item,1,1048576),(x17.map .sorted,0,1048576),(x18.map .expr,0,1),(x19.map .expr,0,1),(x3.map .expr,0,1)]:=rfl
  rw[e,qgk,List.all_cons,List.all_cons,List.all_cons,List.all_cons,List.all_cons,List.all_nil,qs2 .item (by omega),zgn .sorted (by omega),q0v,q0v,q0v]
  show(true&&true&&((_&&x15.all (fun i=>qdf i.as_&&qtb n i.e))&&(x17.all (fun s=>qtb n s.e)&&(exS n x18&&(exS n x19&&(exS n x3&&true))))))=(true&&((x15.all (fun i=>qdf i.as_&&qtb n i.e)&&(x17.all (fun s=>qtb n s.e)&&(_&&(exS n x18&&exS n x19))))&&exS n x3))
  generalize x15.all _=a
  generalize x17.all _=b
  generalize decide (((x15.length:Nat):Int)>0)=d
  generalize exS n x18=f
  generalize exS n x19=g
  generalize exS n x3=h
  cases a<;>cases b<;>cases d<;>cases f<;>cases g<;>cases h<;>rfl
 by_cases k9:x1=9
 ·subst k9
  have hok:ok=true:=by rcases hok with h|h; exact h; exact absurd h.1 (by decide)
  subst hok
  have hpn:x2=[]:=(congrArg qac.paths hk).symm
  subst hpn
  have hwn:x3=[]:=(congrArg qac.where_ hk).symm
  subst hwn
  have e:(qth ⟨9,[],[],x4,x14,x15,x16,x17,x18,x19,x20,x21,x22⟩)=[(x15.map .item,1,1048576),(x17.map .sorted,0,1048576),(x18.map .expr,0,1),(x19.map .expr,0,1)]:=rfl
  rw[e,qgk,List.all_cons,List.all_cons,List.all_cons,List.all_cons,List.all_nil,qs2 .item (by omega),zgn .sorted (by omega),q0v,q0v]
  show(true&&true&&((_&&x15.all (fun i=>qdf i.as_&&qtb n i.e))&&(x17.all (fun s=>qtb n s.e)&&(exS n x18&&(exS n x19&&true)))))=(true&&((x15.all (fun i=>qdf i.as_&&qtb n i.e)&&(x17.all (fun s=>qtb n s.e)&&(_&&(exS n x18&&exS n x19))))&&true))
  generalize x15.all _=a
  generalize x17.all _=b
  generalize decide (((x15.length:Nat):Int)>0)=d
  generalize exS n x18=f
  generalize exS n x19=g
  cases a<;>cases b<;>cases d<;>cases f<;>cases g<;>rfl
 by_cases k4:x1=4
 ·subst k4
  have hok:ok=true:=by rcases hok with h|h; exact h; exact absurd h.1 (by decide)
  subst hok
  have e:(qth ⟨4,x2,x3,x4,x14,x15,x16,x17,x18,x19,x20,x21,x22⟩)=[(x2.map .path,1,1048576)]:=rfl
  rw[e,qgk,List.all_cons,List.all_nil,qs2 .path (by omega)]
  show(true&&true&&((_&&x2.all (q01 n))&&true))=(x2.all (q01 n)&&decide (((x2.length:Nat):Int)>0))
  generalize x2.all (q01 n)=a
  generalize decide (((x2.length:Nat):Int)>0)=d
  cases a<;>cases d<;>rfl
 by_cases k5:x1=5
 ·subst k5
  have hok:ok=true:=by rcases hok with h|h; exact h; exact absurd h.1 (by decide)
  subst hok
  have e:(qth ⟨5,x2,x3,x4,x14,x15,x16,x17,x18,x19,x20,x21,x22⟩)=[(x2.map .path,1,1)]:=rfl
  rw[e,qgk,List.all_cons,List.all_nil]
  match x2 with
  | []=>rfl
  | [⟨nodes,[]⟩]=>
   rw[show List.map qbg.path [⟨nodes,[]⟩]=[.path ⟨nodes,[]⟩]from rfl,q0x]
   show(true&&true&&(q01 n ⟨nodes,[]⟩&&true))=((q01 n ⟨nodes,[]⟩&&true)&&true)
   cases q01 n ⟨nodes,[]⟩<;>rfl
  | [⟨nodes,e::es⟩]=>exact absurd ⟨rfl,_,rfl,by simp⟩ hb
  | p::q::l=>
   have:gOk n (List.map qbg.path (p::q::l),1,1)=false:=by
    unfold gOk
    simp only[List.length_map,List.length_cons]
    rw[decide_eq_true (p:=((l.length+1+1:Nat):Int)>1) (by omega),Bool.cond_eq_ite]
    simp
   rw[this]
   show _=((p::q::l).all (q01 n)&&false)
   cases(p::q::l).all (q01 n)<;>rfl
 by_cases k6:x1=6
 ·subst k6
  have hok:ok=true:=by rcases hok with h|h; exact h; exact absurd h.1 (by decide)
  subst hok
  have hpn:x2=[]:=(congrArg qac.paths hk).symm
  subst hpn
  have e:(qth ⟨6,[],x3,x4,x14,x15,x16,x17,x18,x19,x20,x21,x22⟩)=[(x20.map (fun s=>.change ⟨s,true⟩),1,1048576)]:=rfl
  rw[e,qgk,List.all_cons,List.all_nil,qs2 _ (by omega)]
  show(true&&true&&((_&&x20.all (q8c n true))&&true))=(true&&(x20.all (q8c n true)&&_))
  generalize x20.all (q8c n true)=a
  generalize decide (((x20.length:Nat):Int)>0)=d
  cases a<;>cases d<;>rfl
 by_cases k7:x1=7
 ·subst k7
  have hok:ok=true:=by rcases hok with h|h; exact h; exact absurd h.1 (by decide)
  subst hok
  have hpn:x2=[]:=(congrArg qac.paths hk).symm
  subst hpn
  have e:(qth ⟨7,[],x3,x4,x14,x15,x16,x17,x18,x19,x20,x21,x22⟩)=[(x20.map (fun s=>.change ⟨s,false⟩),1,1048576)]:=rfl
  rw[e,qgk,List.all_cons,List.all_nil,qs2 _ (by omega)]
  show(true&&true&&((_&&x20.all (q8c n false))&&true))=(true&&(x20.all (q8c n false)&&_))
  generalize x20.all (q8c n false)=a
  generalize decide (((x20.length:Nat):Int)>0)=d
  cases a<;>cases d<;>rfl
 by_cases k8:x1=8
 ·subst k8
  have hok:ok=true:=by rcases hok with h|h; exact h; exact absurd h.1 (by decide)
  subst hok
  have hpn:x2=[]:=(congrArg qac.paths hk).symm
  subst hpn
  have e:(qth ⟨8,[],x3,x4,x14,x15,x16,x17,x18,x19,x20,x21,x22⟩)=[(x21.map .name,1,1048576)]:=rfl
  rw[e,qgk,List.all_cons,List.all_nil,qs2 .name (by omega)]
  show(true&&true&&((_&&x21.all qdf)&&true))=(true&&(x21.all qdf&&_))
  generalize x21.all qdf=a
  generalize decide (((x21.length:Nat):Int)>0)=d
  cases a<;>cases d<;>rfl
 have e:(qth ⟨x1,x2,x3,x4,x14,x15,x16,x17,x18,x19,x20,x21,x22⟩)=[]:=by
  unfold qth
  simp only[k1,k2,k3,k9,k4,k5,k6,k7,k8,if_false,or_self]
 have e2:qy7 n ⟨x1,x2,x3,x4,x14,x15,x16,x17,x18,x19,x20,x21,x22⟩=false:=by
  unfold qy7
  simp only[k1,k2,k3,k9,k4,k5,k6,k7,k8,if_false,or_self]
 rw[e,e2]
 cases ok<;>cases x2.all (q01 n)<;>rfl
end W
end
section
open Go Ax
namespace W
theorem zlu {n:Nat} (hn:n≤1073741824) {c:qac} (h:42+qd5 c<n) (hk:q6c c=c) (hp:c.paths.all (q01 n)=true) (hm:qy7 n c=true):WfC c:=by
 have mp:∀ p∈c.paths,42+qi4 p<n:=fun p hm=>by have:=qb3 qi4 hm; unfold qd5 qv7 at h; omega
 have mi:∀ p∈c.items,40+qir p.e<n:=fun p hm=>by have:=qb3 qpd hm; have e:qpd p=1+p.as_.length+qir p.e:=rfl; unfold qd5 at h; omega
 have mo:∀ p∈c.order,40+qir p.e<n:=fun p hm=>by have:=qb3 qg8 hm; have e:qg8 p=1+qir p.e:=rfl; unfold qd5 at h; omega
 have ms:∀ p∈c.sets,41+qg3 p<n:=fun p hm=>by have:=qb3 qg3 hm; unfold qd5 at h; omega
 have mw:∀ p∈c.where_,40+qir p<n:=fun p hm=>by have:=qgc hm; unfold qd5 at h; omega
 have mk:∀ p∈c.skip,40+qir p<n:=fun p hm=>by have:=qgc hm; unfold qd5 at h; omega
 have ml:∀ p∈c.limit,40+qir p<n:=fun p hm=>by have:=qgc hm; unfold qd5 at h; omega
 have me:40+qir c.e<n:=by unfold qd5 at h; omega
 have wE:∀ {x:qab},40+qir x<n→qtb n x=true→WfE x:=by
  intro x hx hb
  obtain⟨b,h1,_,h3⟩:=qwf hn hx
  unfold qtb at hb
  rw[h1]at hb
  exact h3 hb
 have wL:∀ {l:List qab},(∀ p∈l,40+qir p<n)→exS n l=true→∀ x∈l,WfE x:=by
  intro l hl hb x hx
  unfold exS at hb
  rw[Bool.and_eq_true,List.all_eq_true]at hb
  exact wE (hl x hx) (hb.1 x hx)
 have wP:∀ p∈c.paths,WfP p:=by
  intro p hm
  obtain⟨b,h1,_,h3⟩:=q7s hn (mp p hm)
  have:=List.all_eq_true.1 hp p hm
  unfold q01 at this
  rw[h1]at this
  exact h3 this
 have wS:∀ {f:Bool} {ck:Int},(f=true↔ck=6)→c.sets.all (q8c n f)=true→∀ s∈c.sets,WfSet ck s:=by
  intro f ck hf hb s hs
  have h0:=ms s hs
  unfold qg3 at h0
  obtain⟨b,h1,_,h3⟩:=q4g hn (s:=s) (by omega) f
  have:=List.all_eq_true.1 hb s hs
  unfold q8c at this
  rw[h1]at this
  obtain⟨a1,a2⟩:=h3 this
  rw[hf]at a1 a2
  exact⟨a1,a2⟩
 have wR:zbh n c=true→(∀ x∈c.where_,WfE x)→WfRows c:=by
  intro hb hw
  unfold zbh at hb
  simp only[Bool.and_eq_true]at hb
  obtain⟨h1,h2,h3,h4,h5⟩:=hb
  refine⟨fun i hi=>?_,fun s hs=>?_,wL mk h4,wL ml h5,hw⟩
  ·have:=List.all_eq_true.1 h1 i hi
   rw[Bool.and_eq_true]at this
   refine⟨wE (mi i hi) this.2,fun e=>?_⟩
   rw[e]at this
   exact absurd this.1 (by decide)
  ·exact wE (mo s hs) (List.all_eq_true.1 h2 s hs)
 clear h mp
 obtain⟨x1,x2,x3,x4,x14,x15,x16,x17,x18,x19,x20,x21,x22⟩:=c
 simp only at mi mo ms mw mk ml me wP wS wR hp
 have nil:∀ {A:Type} {P:A→Prop},∀ a∈([]:List A),P a:=fun a ha=>by cases ha
 by_cases k1:x1=1
 ·subst k1
  have hm':(decide (((x2.length:Nat):Int)>0)&&exS n x3)=true:=hm
  rw[Bool.and_eq_true]at hm'
  exact⟨wP,wL mw hm'.2,fun h=>absurd (show(1:Int)=2 from h) (by decide),fun h=>absurd (show(1:Int)=5 from h) (by decide),fun h=>absurd (show(1:Int)=6∨(1:Int)=7 from h) (by decide),fun h=>absurd (show(1:Int)=3∨(1:Int)=9 from h) (by decide),by simp⟩
 by_cases k2:x1=2
 ·subst k2
  have hw:([]:List qab)=x3:=congrArg qac.where_ hk
  subst hw
  have hm':(qtb n x4&&qdf x14)=true:=hm
  rw[Bool.and_eq_true]at hm'
  exact⟨wP,nil,fun _=>⟨wE me hm'.1,fun e=>by have e:x14=[]:=e; rw[e]at hm'; exact absurd hm'.2 (by decide)⟩,fun h=>absurd (show(2:Int)=5 from h) (by decide),fun h=>absurd (show(2:Int)=6∨(2:Int)=7 from h) (by decide),fun h=>absurd (show(2:Int)=3∨(2:Int)=9 from h) (by decide),by simp⟩
 by_cases k3:x1=3
 ·subst k3
  have hm':(zbh n ⟨3,x2,x3,x4,x14,x15,x16,x17,x18,x19,x20,x21,x22⟩&&exS n x3)=true:=hm
  rw[Bool.and_eq_true]at hm'
  have w:=wL mw hm'.2
  exact⟨wP,w,fun h=>absurd (show(3:Int)=2 from h) (by decide),fun h=>absurd (show(3:Int)=5 from h) (by decide),fun h=>absurd (show(3:Int)=6∨(3:Int)=7 from h) (by decide),fun _=>wR hm'.1 w,by simp⟩
 by_cases k9:x1=9
 ·subst k9
  have hm':(zbh n ⟨9,x2,x3,x4,x14,x15,x16,x17,x18,x19,x20,x21,x22⟩&&exS n x3)=true:=hm
  rw[Bool.and_eq_true]at hm'
  have w:=wL mw hm'.2
  exact⟨wP,w,fun h=>absurd (show(9:Int)=2 from h) (by decide),fun h=>absurd (show(9:Int)=5 from h) (by decide),fun h=>absurd (show(9:Int)=6∨(9:Int)=7 from h) (by decide),fun _=>wR hm'.1 w,by simp⟩
 by_cases k4:x1=4
 ·subst k4
  have hw:([]:List qab)=x3:=congrArg qac.where_ hk
  subst hw
  exact⟨wP,nil,fun h=>absurd (show(4:Int)=2 from h) (by decide),fun h=>absurd (show(4:Int)=5 from h) (by decide),fun h=>absurd (show(4:Int)=6∨(4:Int)=7 from h) (by decide),fun h=>absurd (show(4:Int)=3∨(4:Int)=9 from h) (by decide),by simp⟩
 by_cases k5:x1=5
 ·subst k5
  have hw:([]:List qab)=x3:=congrArg qac.where_ hk
  subst hw
  refine⟨wP,nil,fun h=>absurd (show(5:Int)=2 from h) (by decide),fun _=>?_,fun h=>absurd (show(5:Int)=6∨(5:Int)=7 from h) (by decide),fun h=>absurd (show(5:Int)=3∨(5:Int)=9 from h) (by decide),by simp⟩
  match x2 with
  | []=>exact absurd (show false=true from hm) (by decide)
  | [p]=>exact⟨p,rfl⟩
  | p::q::l=>exact absurd (show false=true from hm) (by decide)
 by_cases k6:x1=6
 ·subst k6
  have hw:([]:List qab)=x3:=congrArg qac.where_ hk
  subst hw
  have hm':(x20.all (q8c n true)&&decide (((x20.length:Nat):Int)>0))=true:=hm
  rw[Bool.and_eq_true]at hm'
  exact⟨wP,nil,fun h=>absurd (show(6:Int)=2 from h) (by decide),fun h=>absurd (show(6:Int)=5 from h) (by decide),fun _=>wS (by simp) hm'.1,fun h=>absurd (show(6:Int)=3∨(6:Int)=9 from h) (by decide),by simp⟩
 by_cases k7:x1=7
 ·subst k7
  have hw:([]:List qab)=x3:=congrArg qac.where_ hk
  subst hw
  have hm':(x20.all (q8c n false)&&decide (((x20.length:Nat):Int)>0))=true:=hm
  rw[Bool.and_eq_true]at hm'
  exact⟨wP,nil,fun h=>absurd (show(7:Int)=2 from h) (by decide),fun h=>absurd (show(7:Int)=5 from h) (by decide),fun _=>wS (by simp) hm'.1,fun h=>absurd (show(7:Int)=3∨(7:Int)=9 from h) (by decide),by simp⟩
 by_cases k8:x1=8
 ·subst k8
  have hw:([]:List qab)=x3:=congrArg qac.where_ hk
  subst hw
  exact⟨wP,nil,fun h=>absurd (show(8:Int)=2 from h) (by decide),fun h=>absurd (show(8:Int)=5 from h) (by decide),fun h=>absurd (show(8:Int)=6∨(8:Int)=7 from h) (by decide),fun h=>absurd (show(8:Int)=3∨(8:Int)=9 from h) (by decide),by simp⟩
 have e2:qy7 n ⟨x1,x2,x3,x4,x14,x15,x16,x17,x18,x19,x20,x21,x22⟩=false:=by
  unfold qy7
  simp only[k1,k2,k3,k9,k4,k5,k6,k7,k8,if_false,or_self]
 rw[e2]at hm
 cases hm
def zi8 (n:Nat) (c:qac):Bool:=(qev n c).getD false
theorem q0h {n:Nat} (hn:n≤1073741824) {c:qac} (h:42+qd5 c<n) (hM:LenOk c) :
  qev n c=some (zi8 n c)∧(zi8 n c=true→WfC c∧q6c c=c∧c.paths.all (q01 n)=true∧qy7 n c=true)∧∃ gl ok,qjx n c=some (gl,ok)∧gl.length≤5∧(∀ g∈gl,g.parts.length<n∧∀ p∈g.parts,42+q1w p<n) ∧
   (ok&&!(((gl.length:Nat):Int)==0)&&(gl.map g3).all (gOk n))=zi8 n c:=by
 obtain⟨s,hs,he⟩:=zan hn h
 have hmc:zi8 n c=(s&&(c.paths.all (q01 n)&&qy7 n c)):=by unfold zi8; rw[he]; rfl
 refine⟨by rw[he,hmc],fun hb=>?_,?_⟩
 ·rw[hmc]at hb
  simp only[Bool.and_eq_true]at hb
  exact⟨zlu hn h (hs.1 hb.1) hb.2.1 hb.2.2,hs.1 hb.1,hb.2.1,hb.2.2⟩
 ·rcases zg3 hn (c:=c) (by omega)with ⟨⟨hk5,p,hp,hpe⟩,ho⟩|⟨hb,gl,ok,ho,hg3,h1,h2⟩
  ·refine⟨[],false,ho,by simp,(fun g hg=>by cases hg),?_⟩
   have:qy7 n c=false:=by
    unfold qy7
    rw[hk5,hp]
    have:(((p.edges.length:Nat):Int)==0)=false:=by
     rw[beq_eq_false_iff_ne]
     intro e
     have:p.edges.length=0:=by omega
     exact hpe (List.length_eq_zero_iff.1 this)
    exact this
   rw[hmc,this]
   cases s<;>cases c.paths.all (q01 n)<;>rfl
  ·have hlen:gl.length=(qth c).length:=by rw[← hg3,List.length_map]
   refine⟨gl,ok,ho,?_,fun g hg=>?_,?_⟩
   ·rw[hlen]
    unfold qth
    repeat' split
    all_goals simp
   ·have:=zb3 (Nat.le_refl (qd5 c)) (g3 g) (by rw[← hg3]; exact List.mem_map.2 ⟨g,hg,rfl⟩)
    simp only[g3]at this
    exact⟨by omega,fun p hp=>by have:=this.2 p hp; omega⟩
   ·rw[hmc,hg3,hlen]
    cases hsb:s with
    | false=>
     have:ok=false:=by
      cases ok with
      | false=>rfl
      | true=>have:=hs.2 (h1 rfl); rw[hsb]at this; cases this
     rw[this]; rfl
    | true=>
     have hk:=hs.1 hsb
     rw[zfh hM hk hb (h2 hk)]
     rfl
end W
end
section
open Go Ax
namespace W
def wr (k:Int):Bool:=bif decide (k≥4)then decide (k≤8)else false
theorem zd4 (n:Nat) (k:Int):qm9 n k=some (wr k):=by
 unfold qm9 wr
 congr 1
 by_cases h4:k=4; · subst h4; rfl
 by_cases h5:k=5; · subst h5; rfl
 by_cases h6:k=6; · subst h6; rfl
 by_cases h7:k=7; · subst h7; rfl
 by_cases h8:k=8; · subst h8; rfl
 rw[beq_eq_false_iff_ne.2 h4,beq_eq_false_iff_ne.2 h5,beq_eq_false_iff_ne.2 h6,beq_eq_false_iff_ne.2 h7,beq_eq_false_iff_ne.2 h8]
 by_cases h:k≥4
 ·rw[decide_eq_true h,decide_eq_false (by omega)]; rfl
 ·rw[decide_eq_false h]; rfl
def q85 (cl:List qac):Bool:=match cl.getLast? with|some c=>(c.kind==9)||wr c.kind|none=>false
def zjt (cl:List qac):Bool:=(decide (0<cl.length)&&decide (cl.length≤64))&&q85 cl
def qpp (n:Nat):List qac→Bool
 | []=>true
 | c::l=>(zi8 n c&&!((c.kind==9)&&!l.isEmpty))&&qpp n l
def q6u (n:Nat) (cl:List qac):Bool:=zjt cl&&qpp n cl
theorem zhk {n:Nat} {cl:List qac} (h:q6u n cl=true):0<cl.length∧cl.length≤64:=by
 unfold q6u zjt at h
 simp only[Bool.and_eq_true,decide_eq_true_eq]at h
 exact h.1.1
theorem zba:∀ (ok e a nine lt r:Bool),(bif bif bif !ok then true else e then true else bif nine then lt else false then some false else bif a then some r else some false)=some (((ok&&!e&&a)&&!(nine&&lt))&&r):=by
 intro ok e a nine lt r
 cases ok<;>cases e<;>cases a<;>cases nine<;>cases lt<;>cases r<;>rfl
theorem zgh {cl:List qac} {k:Nat}:decide ((((k+1:Nat):Int))<((cl.length:Nat):Int))=!(cl.drop (k+1)).isEmpty:=by
 rw[Bool.eq_iff_iff,decide_eq_true_eq,Bool.not_eq_true',List.isEmpty_eq_false_iff,ne_eq,List.drop_eq_nil_iff]
 omega
section
variable {n:Nat} (hn:n≤1073741824) {cl:List qac} (h:42+qdu cl<n) (hM:∀ c∈cl,LenOk c)
include hn h hM
theorem zdx:∀ m k:Nat,k≤cl.length→cl.length - k<m→qas (qe7 n cl) m (k:Int)=some (qpp n (cl.drop k)):=by
 have hlen:=qbt qd5 qn8 cl
 unfold qdu at h
 intro m
 induction m with
 | zero=>intro k _ h; omega
 | succ m ih=>
  intro k hk hm
  rw[qci]
  by_cases he:k=cl.length
  ·subst he
   rw[List.drop_length]
   simp only[qe7,qcj,qaw,cond_false]
   rfl
  ·have hkl:k<cl.length:=by omega
   have hx:=List.getElem?_eq_getElem hkl
   rw[List.drop_eq_getElem_cons hkl]
   generalize cl[k]=x at hx
   have hb:=qb3 qd5 (qbi hx)
   obtain⟨_,_,gl,ok,ho,hg5,hgp,hval⟩:=q0h hn (c:=x) (by omega) (hM _ (qbi hx))
   have hgl:=zbg hn hgp (by omega) (qas (qe7 n cl) m) (k:=k) (by omega)
   rw[ih (k+1) (by omega) (by omega)]at hgl
   have hd:=zgh (cl:=cl) (k:=k)
   unfold qpp
   rw[← hval]
   clear hval
   obtain⟨x1,x2,x3,⟨x4,x5,⟨x6,x7,x8,x9,x10,x11⟩,x12,x13⟩,x14,x15,x16,x17,x18,x19,x20,x21,x22⟩:=x
   simp only[qe7,qcj,qbk hkl,cond_true,qao hx,qai,ho,qtz,hgl]
   rw[qcq (by omega),hd]
   exact zba _ _ _ _ _ _
theorem zke (nx:Int→Option Bool):qkq n cl nx ((cl.length:Nat):Int)=some (zjt cl):=by
 have hlen:=qbt qd5 qn8 cl
 unfold qdu at h
 simp only[qkq,qcj,qaw,cond_false,zd4]
 by_cases h0:cl=[]
 ·subst h0; rfl
 ·obtain⟨l,c,rfl⟩:∃ l c,cl=l++[c]:=⟨cl.dropLast,cl.getLast h0,(List.dropLast_concat_getLast h0).symm⟩
  have e1:IntKind.i64.wrap ((((l++[c]).length:Nat):Int) - 1)=((l.length:Nat):Int):=by
   rw[q5e (by omega) (by omega)]; simp
  have e2:(l++[c])[l.length]? =some c:=by simp
  have e3:q85 (l++[c])=((c.kind==9)||wr c.kind):=by unfold q85; simp
  rw[e1,qao e2]
  unfold zjt
  rw[e3]
  have e4:decide ((((l++[c]).length:Nat):Int)>0)=true:=decide_eq_true (by simp only[List.length_append,List.length_cons,List.length_nil]; omega)
  have e5:decide (0<(l++[c]).length)=true:=decide_eq_true (by simp)
  have e6:decide ((((l++[c]).length:Nat):Int)≤64)=decide ((l++[c]).length≤64):=by
   rw[Bool.eq_iff_iff]; simp only[decide_eq_true_eq]; omega
  rw[e4,e5,e6,cond_true]
  generalize decide ((l++[c]).length≤64)=d
  clear e1 e2 e3 e4 e5 e6 h hM hlen h0
  obtain⟨x1,x2,x3,⟨x4,x5,⟨x6,x7,x8,x9,x10,x11⟩,x12,x13⟩,x14,x15,x16,x17,x18,x19,x20,x21,x22⟩:=c
  cases d with
  | false=>rfl
  | true=>
   simp only[qfa,qai,Bool.true_and]
   cases hk:(x1==9)with
   | true=>rfl
   | false=>
    simp only[Bool.not_false,qfa,qai]
    rfl
theorem zir:∀ m k:Nat,k≤cl.length→cl.length - k<m→qas (qkq n cl) m (k:Int)=bif qpp n (cl.drop k)then some (zjt cl)else some false:=by
 have hlen:=qbt qd5 qn8 cl
 have hend:=zke hn h hM
 unfold qdu at h
 intro m
 induction m with
 | zero=>intro k _ h; omega
 | succ m ih=>
  intro k hk hm
  rw[qci]
  by_cases he:k=cl.length
  ·subst he
   rw[List.drop_length,hend]
   rfl
  ·have hkl:k<cl.length:=by omega
   have hx:=List.getElem?_eq_getElem hkl
   rw[List.drop_eq_getElem_cons hkl]
   generalize cl[k]=x at hx
   have hb:=qb3 qd5 (qbi hx)
   obtain⟨hmay,_⟩:=q0h hn (c:=x) (by omega) (hM _ (qbi hx))
   have hd:=zgh (cl:=cl) (k:=k)
   have ih':=ih (k+1) (by omega) (by omega)
   unfold qpp
   obtain⟨x1,x2,x3,⟨x4,x5,⟨x6,x7,x8,x9,x10,x11⟩,x12,x13⟩,x14,x15,x16,x17,x18,x19,x20,x21,x22⟩:=x
   simp only[qkq,qcj,qbk hkl,cond_true,qao hx,qai,hmay]
   rw[qcq (by omega),hd,ih']
   cases zi8 n _ with
   | false=>rfl
   | true=>
    simp only[Bool.not_true,Bool.not_false,qfa,qai,cond_false]
    cases(x1==9)<;>cases(cl.drop (k+1)).isEmpty<;>rfl
theorem q9y:qko n ⟨cl⟩=some (q6u n cl):=by
 have hlen:=qbt qd5 qn8 cl
 have e:=zir hn h hM n 0 (by omega) (by unfold qdu at h; omega)
 unfold qko q6u
 refine Eq.trans e ?_
 rw[List.drop_zero]
 cases qpp n cl<;>cases zjt cl<;>rfl
theorem zap:qlx n ⟨cl⟩=some (q6u n cl):=by
 have hlen:=qbt qd5 qn8 cl
 have e:=zdx hn h hM n 0 (by omega) (by unfold qdu at h; omega)
 rw[List.drop_zero]at e
 unfold qlx q6u
 unfold qdu at h
 simp only[qcj,qol]
 by_cases h0:cl=[]
 ·subst h0; rfl
 ·obtain⟨l,c,rfl⟩:∃ l c,cl=l++[c]:=⟨cl.dropLast,cl.getLast h0,(List.dropLast_concat_getLast h0).symm⟩
  have e1:IntKind.i64.wrap ((((l++[c]).length:Nat):Int) - 1)=((l.length:Nat):Int):=by
   rw[q5e (by omega) (by omega)]; simp
  have e2:(l++[c])[l.length]? =some c:=by simp
  have e3:q85 (l++[c])=((c.kind==9)||wr c.kind):=by unfold q85; simp
  rw[e1,qao e2]
  unfold zjt
  rw[e3]
  have e4:decide ((((l++[c]).length:Nat):Int)<1)=false:=decide_eq_false (by simp only[List.length_append,List.length_cons,List.length_nil]; omega)
  have e5:decide (0<(l++[c]).length)=true:=decide_eq_true (by simp)
  have e6:decide ((((l++[c]).length:Nat):Int)>64)=!decide ((l++[c]).length≤64):=by
   rw[Bool.eq_iff_iff]; simp only[decide_eq_true_eq,Bool.not_eq_true',decide_eq_false_iff_not]; omega
  rw[e4,e5,e6,cond_false]
  have e':qas (qe7 n (l++[c])) n 0=some (qpp n (l++[c])):=e
  rw[e']
  generalize qpp n (l++[c])=g
  generalize decide ((l++[c]).length≤64)=d
  clear e1 e2 e3 e4 e5 e6 h hM hlen h0 e e'
  obtain⟨x1,x2,x3,⟨x4,x5,⟨x6,x7,x8,x9,x10,x11⟩,x12,x13⟩,x14,x15,x16,x17,x18,x19,x20,x21,x22⟩:=c
  cases d with
  | false=>rfl
  | true=>
   simp only[Bool.not_true,Bool.not_false,qfa,qai,Bool.true_and]
   unfold wr
   cases(bif decide (x1≥4)then decide (x1≤8)else false)with
   | true=>cases(x1==9)<;>cases g<;>rfl
   | false=>
    simp only[Bool.not_false,qfa,qai]
    unfold bne
    cases(x1==9)<;>cases g<;>rfl
theorem q7i:q6u n cl=true→∀ c∈cl,WfC c:=by
 unfold qdu at h
 intro hm
 unfold q6u at hm
 rw[Bool.and_eq_true]at hm
 have key:∀ l:List qac,(∀ c∈l,c∈cl)→qpp n l=true→∀ c∈l,WfC c:=by
  intro l
  induction l with
  | nil=>intro _ _ c hc; cases hc
  | cons a l ih=>
   intro hs hg c hc
   simp only[qpp,Bool.and_eq_true]at hg
   have hb:=qb3 qd5 (hs a (by simp))
   rcases List.mem_cons.1 hc with rfl|hc
   ·exact((q0h hn (c:=c) (by omega) (hM _ (hs c (by simp)))).2.1 hg.1.1).1
   ·exact ih (fun c hc=>hs c (by simp[hc])) hg.2 c hc
 exact key cl (fun c hc=>hc) hm.2
end
end W
end
section
open Go Ax
namespace W
theorem qos {R:Type} {B:(Int×Int→Option R)→Int×Int→Option R} {len:Nat} (K:Int→Option R) (hs:∀ k:Nat,k<len→∀ (acc:Int) (nx:Int×Int→Option R),B nx (acc,(k:Int))=K acc∨∃ acc',B nx (acc,(k:Int))=nx (acc',((k+1:Nat):Int)))
  (he:∀ (acc:Int) (nx:Int×Int→Option R),B nx (acc,(len:Int))=K acc) {n:Nat} (hn:len<n) (acc:Int):∃ acc',qas B n (acc,(0:Int))=K acc':=by
 have key:∀ (m k:Nat) (acc:Int),k≤len→len - k<m→∃ acc',qas B m (acc,(k:Int))=K acc':=by
  intro m
  induction m with
  | zero=>intro k _ _ h; omega
  | succ m ih=>
   intro k acc hk hm
   rw[qci]
   by_cases h:k=len
   ·subst h; exact⟨_,he _ _⟩
   ·rcases hs k (by omega) acc (qas B m)with h|⟨acc',h⟩
    ·exact⟨_,h⟩
    ·rw[h]; exact ih (k+1) acc' (by omega) (by omega)
 exact key n 0 acc (by omega) (by omega)
theorem zfj:∀ n:Nat,n≤1073741824→∀ v:Val,q40 v<n→∃ r,qkn n v=some r:=by
 intro n
 induction n with
 | zero=>intro _ v h; omega
 | succ n ih=>
  intro hn v hv
  obtain⟨x1,x2,x3,x4,x5,x6⟩:=v
  have hl:=qnx x5
  simp only[q40]at hv
  simp only[qkn,qrf]
  obtain⟨a,h⟩:=qos (B:=qju n x5 (qkn n)) (len:=x5.length) some
   (fun k hk acc nx=>by
    have hx:=List.getElem?_eq_getElem hk
    generalize x5[k]=y at hx
    obtain⟨r,hr⟩:=ih (by omega) y (by have:=qu3 (qbi hx); omega)
    obtain⟨y1,y2,y3,y4,y5,y6⟩:=y
    right
    simp only[qju,qey,qbk hk,cond_true,qao hx,qai,hr]
    rw[qcq (by omega)]
    exact⟨_,rfl⟩)
   (fun acc nx=>by simp only[qju,qey,qaw,cond_false]) (n:=n) (by omega) 1
  exact⟨_,h⟩
theorem qux:∀ n:Nat,n≤1073741824→∀ x:qab,qir x<n→∀ m:Int,∃ r,qgb n x m=some r:=by
 intro n
 induction n with
 | zero=>intro _ v h; omega
 | succ n ih=>
  intro hn x hx m
  obtain⟨x1,x2,⟨x3,x4,x5,x6,x7,x8⟩,x9,x10⟩:=x
  have hl:=qdw x10
  simp only[qir]at hx
  obtain⟨p,hp⟩:=zfj n (by omega) ⟨x3,x4,x5,x6,x7,x8⟩ (by omega)
  simp only[qgb,qrr,hp,qai]
  obtain⟨a,h⟩:=qos (B:=qjz n x10 m (qgb n)) (len:=x10.length) some
   (fun k hk acc nx=>by
    have hx:=List.getElem?_eq_getElem hk
    generalize x10[k]=y at hx
    simp only[qjz,qap,qbk hk,cond_true]
    by_cases hc:acc<m
    ·obtain⟨r,hr⟩:=ih (by omega) y (by have:=qgc (qbi hx); omega) (IntKind.i64.wrap (m - acc))
     obtain⟨y1,y2,⟨y3,y4,y5,y6,y7,y8⟩,y9,y10⟩:=y
     right
     simp only[decide_eq_true hc,cond_true,qao hx,qai,hr]
     rw[qcq (by omega)]
     exact⟨_,rfl⟩
    ·left; rw[decide_eq_false hc]; rfl)
   (fun acc nx=>by simp only[qjz,qap,qaw,cond_false]) (n:=n) (by omega) _
  exact⟨_,h⟩
theorem qo9 {n:Nat} (hn:n≤1073741824) {l:List qab} (h:qfh l<n) (m:Int):∃ r,qfn n l m=some r:=by
 have hl:=qdw l
 unfold qfn
 exact qos (B:=qg1 n l m) (len:=l.length) some
  (fun k hk acc nx=>by
   have hx:=List.getElem?_eq_getElem hk
   generalize l[k]=y at hx
   simp only[qg1,qap,qbk hk,cond_true]
   by_cases hc:acc<m
   ·obtain⟨r,hr⟩:=qux n hn y (by have:=qgc (qbi hx); omega) (IntKind.i64.wrap (m - acc))
    obtain⟨y1,y2,⟨y3,y4,y5,y6,y7,y8⟩,y9,y10⟩:=y
    right
    simp only[decide_eq_true hc,cond_true,qao hx,qai,hr]
    rw[qcq (by omega)]
    exact⟨_,rfl⟩
   ·left; rw[decide_eq_false hc]; rfl)
  (fun acc nx=>by simp only[qg1,qap,qaw,cond_false]) (n:=n) (by omega) 0
theorem za5 {n:Nat} (hn:n≤1073741824) {cl:List qac} (h:qdu cl<n):∃ r,qok n ⟨cl⟩=some r:=by
 have hlen:=qbt qd5 qn8 cl
 unfold qdu at h
 unfold qok
 obtain⟨a,e⟩:=qos (B:=qjt n cl) (len:=cl.length) (fun acc=>some (decide (acc≥3000)))
  (fun k hk acc nx=>by
   have hx:=List.getElem?_eq_getElem hk
   generalize cl[k]=c at hx
   have hb:qd5 c<n:=by have:=qb3 qd5 (qbi hx); omega
   simp only[qjt,qcj,qbk hk,cond_true]
   by_cases hc:acc<3000
   ·right
    have hp:=qbt qi4 (fun p=>by unfold qi4; omega) c.paths
    have hi:=qbt qpd (fun p=>by unfold qpd; omega) c.items
    have ho:=qbt qg8 (fun p=>by unfold qg8; omega) c.order
    have hs:=qbt qg3 (fun p=>by unfold qg3; omega) c.sets
    have mp:∀ p∈c.paths,qi4 p<n:=fun p hm=>by have:=qb3 qi4 hm; unfold qd5 qv7 at hb; omega
    have mi:∀ p∈c.items,qir p.e<n:=fun p hm=>by have:=qb3 qpd hm; have e:qpd p=1+p.as_.length+qir p.e:=rfl; unfold qd5 at hb; omega
    have mo:∀ p∈c.order,qir p.e<n:=fun p hm=>by have:=qb3 qg8 hm; have e:qg8 p=1+qir p.e:=rfl; unfold qd5 at hb; omega
    have ms:∀ p∈c.sets,qir p.e<n:=fun p hm=>by have:=qb3 qg3 hm; have e:qg3 p=1+p.var_.length+p.key.length+p.label.length+qir p.e:=rfl; unfold qd5 at hb; omega
    obtain⟨r1,h1⟩:=qux n hn c.e (by unfold qd5 at hb; omega) 3000
    obtain⟨r2,h2⟩:=qo9 hn (l:=c.where_) (by unfold qd5 at hb; omega) 3000
    obtain⟨r3,h3⟩:=qo9 hn (l:=c.skip) (by unfold qd5 at hb; omega) 3000
    obtain⟨r4,h4⟩:=qo9 hn (l:=c.limit) (by unfold qd5 at hb; omega) 3000
    unfold qd5 qv7 at hb
    obtain⟨x1,x5,x6,⟨x7,x8,⟨x9,x10,x11,x12,x13,x14⟩,x15,x16⟩,x17,x18,x19,x20,x21,x22,x23,x24,x25⟩:=c
    simp only at hp hi ho hs mp mi mo ms h1 h2 h3 h4 hb
    simp only[decide_eq_true hc,cond_true,qao hx,qai,h1,h2,h3,h4]
    have L7:∀ acc:Int,∃ acc',qas (qgp n x23 nx (k:Int)) n (acc,(0:Int))=nx (acc',((k+1:Nat):Int)):=fun acc=>qos (B:=qgp n x23 nx (k:Int)) (len:=x23.length) (fun acc=>nx (acc,((k+1:Nat):Int)))
     (fun j hj acc nx2=>by
      have hy:=List.getElem?_eq_getElem hj
      generalize x23[j]=y at hy
      simp only[qgp,qaf.rows,List.length_map,qbk hj,cond_true]
      by_cases hc:acc<3000
      ·obtain⟨r,hr⟩:=qux n hn y.e (ms y (qbi hy)) 3000
       obtain⟨z1,z2,z3,⟨y1,y2,⟨y3,y4,y5,y6,y7,y8⟩,y9,y10⟩⟩:=y
       simp only at hr
       right
       simp only[decide_eq_true hc,cond_true,qao hy,qai,hr]
       rw[qcq (k:=j) (by omega)]
       exact⟨_,rfl⟩
      ·left; rw[decide_eq_false hc,cond_false,qcq (by omega)])
     (fun acc nx2=>by
      simp only[qgp,qaf.rows,List.length_map,qaw,cond_false]
      rw[qcq (by omega)]) (n:=n) (by omega) acc
    have L6:∀ acc:Int,∃ acc',qas (qgm n x20 x23 nx (k:Int)) n (acc,(0:Int))=nx (acc',((k+1:Nat):Int)):=fun acc=>by
     obtain⟨a,ha⟩:=qos (B:=qgm n x20 x23 nx (k:Int)) (len:=x20.length) (fun acc=>qas (qgp n x23 nx (k:Int)) n (acc,(0:Int)))
      (fun j hj acc nx2=>by
       have hy:=List.getElem?_eq_getElem hj
       generalize x20[j]=y at hy
       simp only[qgm,qaq.rows,List.length_map,qbk hj,cond_true]
       by_cases hc:acc<3000
       ·obtain⟨r,hr⟩:=qux n hn y.e (mo y (qbi hy)) 3000
        obtain⟨⟨y1,y2,⟨y3,y4,y5,y6,y7,y8⟩,y9,y10⟩,z1⟩:=y
        simp only at hr
        right
        simp only[decide_eq_true hc,cond_true,qao hy,qai,hr]
        rw[qcq (k:=j) (by omega)]
        exact⟨_,rfl⟩
       ·left; rw[decide_eq_false hc,cond_false])
      (fun acc nx2=>by simp only[qgm,qaq.rows,List.length_map,qaw,cond_false]) (n:=n) (by omega) acc
     rw[ha]; exact L7 a
    have L5:∀ acc:Int,∃ acc',qas (qgl n x18 x20 x23 nx (k:Int)) n (acc,(0:Int))=nx (acc',((k+1:Nat):Int)):=fun acc=>by
     obtain⟨a,ha⟩:=qos (B:=qgl n x18 x20 x23 nx (k:Int)) (len:=x18.length) (fun acc=>qas (qgm n x20 x23 nx (k:Int)) n (acc,(0:Int)))
      (fun j hj acc nx2=>by
       have hy:=List.getElem?_eq_getElem hj
       generalize x18[j]=y at hy
       simp only[qgl,qbf.rows,List.length_map,qbk hj,cond_true]
       by_cases hc:acc<3000
       ·obtain⟨r,hr⟩:=qux n hn y.e (mi y (qbi hy)) 3000
        obtain⟨⟨y1,y2,⟨y3,y4,y5,y6,y7,y8⟩,y9,y10⟩,z1⟩:=y
        simp only at hr
        right
        simp only[decide_eq_true hc,cond_true,qao hy,qai,hr]
        rw[qcq (k:=j) (by omega)]
        exact⟨_,rfl⟩
       ·left; rw[decide_eq_false hc,cond_false])
      (fun acc nx2=>by simp only[qgl,qbf.rows,List.length_map,qaw,cond_false]) (n:=n) (by omega) acc
     rw[ha]; exact L6 a
    have L2:∀ acc:Int,∃ acc',qas (qh4 n x5 x18 x20 x23 nx (k:Int)) n (acc,(0:Int))=nx (acc',((k+1:Nat):Int)):=fun acc=>by
     obtain⟨a,ha⟩:=qos (B:=qh4 n x5 x18 x20 x23 nx (k:Int)) (len:=x5.length) (fun acc=>qas (qgl n x18 x20 x23 nx (k:Int)) n (acc,(0:Int)))
      (fun j hj acc nx2=>by
       have hy:=List.getElem?_eq_getElem hj
       generalize x5[j]=p at hy
       have hpb:=mp p (qbi hy)
       simp only[qh4,qde,qbk hj,cond_true]
       by_cases hc:acc<3000
       ·right
        rw[decide_eq_true hc,cond_true]
        obtain⟨nodes,edges⟩:=p
        unfold qi4 at hpb
        simp only at hpb
        have hn1:=qbt qg9 (fun p=>by unfold qg9; omega) nodes
        have hn2:=qbt qi7 (fun p=>by unfold qi7; omega) edges
        obtain⟨b,hb3⟩:=qos (B:=qj2 n x5 (j:Int) nx2) (len:=nodes.length) (fun acc=>qas (qh5 n x5 (j:Int) nx2) n (acc,(0:Int)))
         (fun i hi acc nx3=>by
          have hz:=List.getElem?_eq_getElem hi
          generalize nodes[i]=d at hz
          have hdb:qg9 d<n:=by have:=qb3 qg9 (qbi hz); omega
          simp only[qj2,qao hy,qai,qdk,qbk hi,cond_true]
          by_cases hc:acc<3000
          ·obtain⟨r,hr⟩:=qo9 hn (l:=d.vals) (by unfold qg9 at hdb; omega) 3000
           obtain⟨d1,d2,d3,d4⟩:=d
           simp only at hr
           right
           simp only[decide_eq_true hc,cond_true,qao hz,qai,hr]
           rw[qcq (k:=i) (by omega)]
           exact⟨_,rfl⟩
          ·left; rw[decide_eq_false hc,cond_false])
         (fun acc nx3=>by simp only[qj2,qao hy,qai,qdk,qaw,cond_false]) (n:=n) (by omega) acc
        rw[hb3]
        exact qos (B:=qh5 n x5 (j:Int) nx2) (len:=edges.length) (fun acc=>nx2 (acc,((j+1:Nat):Int)))
         (fun i hi acc nx3=>by
          have hz:=List.getElem?_eq_getElem hi
          generalize edges[i]=d at hz
          have hdb:qi7 d<n:=by have:=qb3 qi7 (qbi hz); omega
          simp only[qh5,qao hy,qai,qe8,qbk hi,cond_true]
          by_cases hc:acc<3000
          ·obtain⟨r,hr⟩:=qo9 hn (l:=d.vals) (by unfold qi7 at hdb; omega) 3000
           obtain⟨d1,d2,d3,d4,d5⟩:=d
           simp only at hr
           right
           simp only[decide_eq_true hc,cond_true,qao hz,qai,hr]
           rw[qcq (k:=i) (by omega)]
           exact⟨_,rfl⟩
          ·left; rw[decide_eq_false hc,cond_false,qcq (by omega)])
         (fun acc nx3=>by
          simp only[qh5,qao hy,qai,qe8,qaw,cond_false]
          rw[qcq (by omega)]) (n:=n) (by omega) b
       ·left; rw[decide_eq_false hc,cond_false])
      (fun acc nx2=>by simp only[qh4,qde,qaw,cond_false]) (n:=n) (by omega) acc
     rw[ha]; exact L5 a
    exact L2 _
   ·left; rw[decide_eq_false hc]; rfl)
  (fun acc nx=>by simp only[qjt,qcj,qaw,cond_false]) (n:=n) (by omega) 0
 exact⟨_,e⟩
end W
end
section
open Go Ax
namespace W
theorem zjd (m:Nat):qh7 (m+400)=some true:=by kernel_rfl
theorem q8n {n:Nat} (h:400≤n):qh7 n=some true:=by
 obtain⟨m,rfl⟩:=Nat.exists_eq_add_of_le h
 rw[Nat.add_comm]; exact zjd m
theorem q2w {n:Nat} {x:List (List UInt8)} (h:x.length<n) (hn:n≤1073741824):qdg n x x=some true:=by
 obtain⟨b,h1,h2⟩:=qez (y:=x) h hn
 rw[h1,h2.2 rfl]
theorem q7m:∀ (l:List qac) (t v:Env),EnvOk t→(∀ c∈l,WfC c)→qdt qgh t l=.inr v→EnvOk v∧v.length≤t.length+2 * (l.map qd5).sum
 | [],t,v,ht,_,e=>by cases e; exact⟨ht,by omega⟩
 | c::l,t,v,ht,hw,e=>by
  simp only[qdt,qgh]at e
  by_cases h0:(qdz t c).1=0
  ·rw[if_neg (by simpa using h0)]at e
   have h1:=q6l ht (hw c (by simp)) h0
   have h2:=q7m l _ v h1.1 (fun c hc=>hw c (by simp[hc])) e
   simp only[List.map_cons,List.sum_cons]
   exact⟨h2.1,by omega⟩
  ·rw[if_pos h0]at e; cases e
theorem zh7 (cl:List qac) (m:Nat):((cl.take m).map qd5).sum≤(cl.map qd5).sum:=by
 have h0:cl.take m++cl.drop m=cl:=List.take_append_drop m cl
 have:((cl.take m++cl.drop m).map qd5).sum=((cl.take m).map qd5).sum+((cl.drop m).map qd5).sum:=by rw[List.map_append,List.sum_append]
 rw[h0]at this
 omega
theorem zgd {may:Bool} {cl:List qac} (hw:may=true→∀ c∈cl,WfC c) (at_:Int):(ql3 may cl at_).1.length≤2 * qdu cl∧(ql3 may cl at_).2.1.length≤2 * qdu cl:=by
 unfold ql3 qdu
 split
 ·simp
 ·rename_i hc
  simp only[not_or,Bool.not_eq_false]at hc
  have ht:=zh7 cl at_.toNat
  cases hf:qdt qgh [] (cl.take at_.toNat)with
  | inl e=>simp
  | inr v=>
   have:=(q7m _ _ v q21 (fun c hc'=>hw hc.1 c (List.mem_of_mem_take hc')) hf).2
   simp only[List.length_map,List.length_nil]at this ⊢
   omega
section
variable {n:Nat} (hn:n≤1073741824) {cl:List qac} (h:8 * qdu cl+400<n) (hM:∀ c∈cl,LenOk c)
include hn h hM
theorem zdv (at_:Int):qlp n ⟨cl⟩ at_=some (ql3 (q6u n cl) cl at_)∧qs5 n ⟨cl⟩ at_=some (ql3 (q6u n cl) cl at_):=
 ⟨q16 hn (zap hn (by omega) hM) (q7i hn (by omega) hM) (by omega) at_,q5q hn (q9y hn (by omega) hM) (q7i hn (by omega) hM) (by omega) at_⟩
def qn5 (may:Bool) (cl:List qac):List (List UInt8)×Int:=
 let r:=ql3 may cl cl.length
 if r.2.2=0∧(∃ c,cl.getLast? =some c∧c.kind=9)then(r.1,0)else([],r.2.2)
omit hn h hM in
theorem zd3 {may:Bool} (hl:may=true→cl≠[]) (hsz:cl.length≤1073741824):(bnd (some (ql3 may cl cl.length)) fun⟨x2,x3,x4⟩=>
  bnd (qa2 (!(x4 != (0:Int))) (idx cl (IntKind.i64.wrap (((cl.length:Nat):Int) - (1:Int))))) fun⟨x5,x6,x7,⟨x8,x9,⟨x10,x11,x12,x13,x14,x15⟩,x16,x17⟩,x18,x19,x20,x21,x22,x23,x24,x25,x26⟩=>
  bif(bif(x4 != (0:Int))then true else(x5 != (9:Int)))then(some (([]:List (List UInt8)),x4))else(some (x2,(0:Int))))=some (qn5 may cl):=by
 unfold qn5
 cases hr:ql3 may cl cl.length with
 | mk a be=>
  obtain⟨b,e⟩:=be
  simp only[qai]
  by_cases he:e=0
  ·subst he
   have hc:cl≠[]:=by
    intro h0
    apply hl _ h0
    cases may with
    | true=>rfl
    | false=>
     unfold ql3 at hr
     rw[if_pos (.inl rfl)]at hr
     cases hr
   obtain⟨l,c,rfl⟩:∃ l c,cl=l++[c]:=⟨cl.dropLast,cl.getLast hc,(List.dropLast_concat_getLast hc).symm⟩
   have e1:IntKind.i64.wrap ((((l++[c]).length:Nat):Int) - 1)=((l.length:Nat):Int):=by
    rw[q5e (by omega) (by omega)]; simp
   have e2:(l++[c])[l.length]? =some c:=by simp
   have e3:(l++[c]).getLast? =some c:=by simp
   rw[e1,show(!((0:Int) != 0))=true from rfl,qfa,qao e2,qai,e3]
   clear hr e1 e2 e3 hl hsz hc
   obtain⟨x1,x2,x3,⟨x4,x5,⟨x6,x7,x8,x9,x10,x11⟩,x12,x13⟩,x14,x15,x16,x17,x18,x19,x20,x21,x22⟩:=c
   by_cases h9:x1=9
   ·subst h9
    rw[if_pos ⟨rfl,_,rfl,rfl⟩]
    rfl
   ·rw[if_neg (by rintro⟨_,c,hc,hk⟩; cases hc; exact h9 hk)]
    show(bif(bif((0:Int) != 0)then true else(x1 != 9))then _ else _)=_
    rw[show(x1 != 9)=true from by simpa using h9]
    rfl
  ·rw[if_neg (by rintro⟨h0,_⟩; exact he h0)]
   have:(e != 0)=true:=by simpa using he
   rw[this]
   rfl
theorem qwj:qex n ⟨cl⟩=some (qn5 (q6u n cl) cl)∧q39 n ⟨cl⟩=some (qn5 (q6u n cl) cl):=by
 have hlen:=qbt qd5 qn8 cl
 have hl:q6u n cl=true→cl≠[]:=fun hm h0=>by have:=(zhk hm).1; rw[h0]at this; simp at this
 have hc:=zd3 hl (by unfold qdu at h; omega)
 obtain⟨n1,n2⟩:=zdv hn h hM cl.length
 refine⟨?_,?_⟩
 ·unfold qex
  simp only[qcj,n1]
  exact hc
 ·unfold q39
  simp only[qcj,n2]
  exact hc
theorem zaz:(qn5 (q6u n cl) cl).1.length≤2 * qdu cl:=by
 unfold qn5
 have:=(zgd (q7i hn (by omega) hM) cl.length).1
 simp only
 split
 ·exact this
 ·simp
end
end W
end
section
open Go Ax
namespace W
theorem zf9 {c:qac} (h:LenOk c):LenOk (qh2 c):=by
 obtain⟨h1,h2,h3,h4,h5⟩:=h
 exact⟨by simpa[qh2]using h1,by simpa[qh2]using h2,by simpa[qh2]using h3,by simpa[qh2]using h4,by simpa[qh2]using h5⟩
def q7a (P:List UInt8→Prop) (v:Env):Prop:=∀ e∈v,P e.1
structure ClP (P:List UInt8→Prop) (c:qac):Prop where
 nodes:∀ p∈c.paths,∀ d∈p.nodes,P d.var_
 edges:∀ p∈c.paths,∀ d∈p.edges,P d.var_
 var:P c.var_
 items:∀ i∈c.items,P i.as_
section
variable {P:List UInt8→Prop}
theorem q8z {v:Env} {s:List UInt8} {k:Int} (h:q7a P v) (hs:P s):q7a P (qi3 v s k):=by
 unfold qi3
 split
 ·exact h
 ·intro e he
  rcases List.mem_append.1 he with he|he
  ·exact h e he
  ·simp at he; subst he; exact hs
theorem q25 {A R:Type} {F:Env→A→R ⊕ Env}:∀ (l:List A) {v w:Env},(∀ x∈l,∀ t t',q7a P t→F t x=.inr t'→q7a P t')→q7a P v→qdt F v l=.inr w→q7a P w
 | [],v,w,_,hv,e=>by cases e; exact hv
 | x::l,v,w,h,hv,e=>by
  simp only[qdt]at e
  cases hf:F v x with
  | inl r=>rw[hf]at e; cases e
  | inr t=>
   rw[hf]at e
   exact q25 l (fun y hy=>h y (by simp[hy])) (h x (by simp) v t hv hf) e
theorem zho {made:Bool} {a v w:Env} {d:qad} (h:q7a P v) (hd:P d.var_) (e:quk made a v d=.inr w):q7a P w:=by
 unfold quk at e
 split at e
 ·cases e
 ·split at e
  ·cases e
  ·split at e
   ·cases e
   ·cases e; exact q8z h hd
theorem zkb {made:Bool} {a v w:Env} {d:qag} (h:q7a P v) (hd:P d.var_) (e:qrc made a v d=.inr w):q7a P w:=by
 unfold qrc at e
 split at e
 ·cases e
 ·split at e
  ·cases e
  ·cases e; exact q8z h hd
theorem zks {made:Bool} {a v w:Env} {p:qa8} (h:q7a P v) (h1:∀ d∈p.nodes,P d.var_) (h2:∀ d∈p.edges,P d.var_) (e:qpl made a v p=.inr w):q7a P w:=by
 refine q25 (qvt p) (fun x hx t t' ht hf=>?_) h e
 obtain⟨eo,d⟩:=x
 unfold qvt at hx
 have hd:=(List.of_mem_zip hx).2
 have he:=(List.of_mem_zip hx).1
 cases eo with
 | none=>exact zho ht (h1 d hd) hf
 | some g=>
  simp only[List.mem_cons,reduceCtorEq,List.mem_map,Option.some.injEq,exists_eq_right,false_or]at he
  simp only[qnm]at hf
  cases hg:qrc made a t g with
  | inl r=>rw[hg]at hf; cases hf
  | inr u=>rw[hg]at hf; exact zho (zkb ht (h2 g he) hg) (h1 d hd) hf
theorem zhc {v:Env} {c:qac} (h:q7a P v) (hc:ClP P c) (e:(qdz v c).1=0):q7a P (qdz v c).2:=by
 have hpaths:∀ {made:Bool} {m:Env},qkj made v v c.paths=.inr m→q7a P m:=fun hm=>
  q25 c.paths (fun p hp t t' ht hf=>zks ht (hc.nodes p hp) (hc.edges p hp) hf) h hm
 have hout:∀ {made:Bool},(q80 (qkj made v v c.paths)).1=0→q7a P (q80 (qkj made v v c.paths)).2:=by
  intro made he
  cases hm:qkj made v v c.paths with
  | inl r=>rw[hm]at he; exact absurd he (qog hm)
  | inr m=>exact hpaths hm
 unfold qdz at e ⊢
 split
 ·rename_i k; rw[if_pos k]at e
  cases hm:qkj false v v c.paths with
  | inl r=>rw[hm]at e; exact absurd e (qog hm)
  | inr m=>exact hpaths hm
 ·rename_i k; rw[if_neg k]at e
  split
  ·split
   ·exact h
   ·split
    ·exact h
    ·exact q8z h hc.var
  ·rename_i k2; rw[if_neg k2]at e
   split
   ·rename_i k4; rw[if_pos k4]at e; exact hout e
   ·rename_i k4; rw[if_neg k4]at e
    split
    ·rename_i k5; rw[if_pos k5]at e
     split
     ·exact h
     ·rename_i k6; rw[if_neg k6]at e; exact hout e
    ·split
     ·exact h
     ·split
      ·exact h
      ·unfold qum
       cases hf:qdt (qcz c.kind v) [] c.items with
       | inl r=>intro e he; cases he
       | inr m=>
        have hm:q7a P m:=q25 c.items (fun it hi t t' ht hs=>by
         unfold qcz at hs
         split at hs
         ·cases hs
         ·split at hs
          ·cases hs
          ·split at hs
           ·cases hs
           ·cases hs; exact q8z ht (hc.items it hi)) (fun e he=>by cases he) hf
        simp only
        cases qej (qha m) c.order with
        | some e=>intro e he; cases he
        | none=>
         simp only
         split
         ·intro e he; cases he
         ·split
          ·intro e he; cases he
          ·exact hm
theorem zlx:∀ (l:List qac) {v w:Env},q7a P v→(∀ c∈l,ClP P c)→qdt qgh v l=.inr w→q7a P w:=by
 intro l v w hv hc e
 refine q25 l (fun c hm t t' ht hf=>?_) hv e
 unfold qgh at hf
 by_cases h0:(qdz t c).1=0
 ·rw[if_neg (by simpa using h0)]at hf
  cases hf
  exact zhc ht (hc c hm) h0
 ·rw[if_pos h0]at hf; cases hf
end
theorem zkj {cl:List qac}:∀ c∈cl,ClP (fun s=>s.length≤qdu cl) c:=by
 intro c hc
 have hb:qd5 c≤qdu cl:=by have:=qb3 qd5 hc; unfold qdu; omega
 have mp:∀ p∈c.paths,qi4 p≤qd5 c:=fun p hm=>by have:=qb3 qi4 hm; unfold qd5 qv7; omega
 refine⟨fun p hp d hd=>?_,fun p hp d hd=>?_,?_,fun i hi=>?_⟩
 ·have h1:=mp p hp
  have h2:=qb3 qg9 hd
  have h3:d.var_.length≤qg9 d:=by unfold qg9; omega
  have h4:(p.nodes.map qg9).sum≤qi4 p:=by unfold qi4; omega
  omega
 ·have h1:=mp p hp
  have h2:=qb3 qi7 hd
  have h3:d.var_.length≤qi7 d:=by unfold qi7; omega
  have h4:(p.edges.map qi7).sum≤qi4 p:=by unfold qi4; omega
  omega
 ·have:c.var_.length≤qd5 c:=by unfold qd5; omega
  omega
 ·have h1:=qb3 qpd hi
  have h2:i.as_.length≤qpd i:=by unfold qpd; omega
  have h3:(c.items.map qpd).sum≤qd5 c:=by unfold qd5; omega
  omega
theorem za1 {may:Bool} {cl:List qac} (hw:may=true→∀ c∈cl,WfC c):∀ s∈(qn5 may cl).1,s≠[]∧s.length≤qdu cl:=by
 intro s hs
 unfold qn5 at hs
 simp only at hs
 split at hs
 ·unfold ql3 at hs
  split at hs
  ·simp at hs
  ·rename_i hc
   simp only[not_or,Bool.not_eq_false]at hc
   rw[Int.toNat_natCast,List.take_length]at hs
   cases hf:qdt qgh [] cl with
   | inl e=>rw[hf]at hs; simp at hs
   | inr v=>
    rw[hf]at hs
    simp only at hs
    obtain⟨x,hx,rfl⟩:=List.mem_map.1 hs
    exact⟨(q7m cl [] v q21 (hw hc.1) hf).1.names x hx,zlx cl (fun e he=>by cases he) zkj hf x hx⟩
 ·simp at hs
theorem zea (may:Bool) (cl:List qac):qn5 may (cl.map qh2)=((qn5 may cl).1.map nm,(qn5 may cl).2):=by
 unfold qn5
 simp only
 rw[List.length_map,zd8]
 have:(∃ c,(cl.map qh2).getLast? =some c∧c.kind=9)↔∃ c,cl.getLast? =some c∧c.kind=9:=by
  rw[List.getLast?_map]
  cases cl.getLast? with
  | none=>simp
  | some c=>simp[qh2]
 simp only[this]
 split<;>rfl
theorem q97 {n:Nat} (hn:n≤1073741824) {a:List (List UInt8)} (hnm:∀ s∈a,s≠[]∧s.length≤1073741824) (hlen:a.length<n) (h4:400≤n):qas (qdv n a (a.map nm)) n (0:Int)=some true:=
 qq6 (B:=qdv n a (a.map nm)) (fun k=>((k:Nat):Int)) a.length (r:=some true)
  (fun k hk nx=>by
   have hx:=List.getElem?_eq_getElem hk
   generalize a[k]=s at hx
   obtain⟨s1,s2⟩:=hnm s (qbi hx)
   have hx2:(a.map nm)[k]? =some (nm s):=by simp[hx]
   have hMx:decide (((s.length+([95,55]:List UInt8).length:Nat):Int)≤qy3)=true:=decide_eq_true (by unfold qy3; simp only[List.length_cons,List.length_nil]; omega)
   unfold qdv
   rw[qax,qbk hk,cond_true,qao hx2,qai,qao hx,qai,qhu hMx]
   have:(nm s==s++[95,55])=true:=by unfold nm; rw[if_neg s1]; simp
   rw[this,Bool.not_true,cond_false,qcq (by omega)])
  (fun nx=>by simp only[qdv,qax,qaw,cond_false,q8n (n:=n) h4,qai]) (n:=n) hlen
section
variable {n:Nat} (hn:n≤1073741824) {cl:List qac} (h:32 * qdu cl+2000<n) (hM:∀ c∈cl,LenOk c)
include hn h hM
omit hn h in
theorem q6y:∀ c∈cl.map qh2,LenOk c:=by
 intro c hc
 obtain⟨x,hx,rfl⟩:=List.mem_map.1 hc
 exact zf9 (hM x hx)
theorem zbl:qkd n ⟨cl⟩=some true:=by
 have hr:=q6i cl
 obtain⟨b,hb⟩:=za5 hn (cl:=cl) (by omega)
 have m1:=q9y hn (cl:=cl) (by omega) hM
 have m2:=q9y hn (cl:=cl.map qh2) (by omega) (q6y hM)
 have c1:=(qwj hn (cl:=cl) (by omega) hM).1
 have c2:=(qwj hn (cl:=cl.map qh2) (by omega) (q6y hM)).1
 have hre:=zay hn (cl:=cl) (by omega)
 have hnm:=za1 (q7i hn (cl:=cl) (by omega) hM)
 have hlen:=zaz hn (cl:=cl) (by omega) hM
 unfold q9b at hre
 unfold qkd
 simp only[hb,qai,q8n (n:=n) (by omega),m1,hre,m2,c1,c2]
 cases b with
 | true=>rfl
 | false=>
  cases hm1:q6u n cl with
  | false=>rfl
  | true=>
   cases hm2:q6u n (cl.map qh2)with
   | false=>rfl
   | true=>
    rw[hm1]at hnm hlen
    rw[zea]
    generalize qn5 true cl=r at hnm hlen
    obtain⟨a,e⟩:=r
    simp only at hnm hlen
    simp only[qai,Bool.not_false,qfa,Bool.not_true,cond_false,qax,List.length_map]
    rw[show(e != e)=false from by simp,show(((a.length:Nat):Int) != ((a.length:Nat):Int))=false from by simp]
    simp only[cond_false]
    exact q97 hn (fun s hs=>⟨(hnm s hs).1,by have:=(hnm s hs).2; omega⟩) (by omega) (by omega)
def qss:qac:=⟨2,[],[],⟨5,[],⟨0,false,0,[],[],[]⟩,[],[]⟩,[105,100,108,101],[],false,[],[],[],[],[],false⟩
omit hn h hM in
theorem ziq (m:Nat):qev (m+400) qss=some true:=by kernel_rfl
omit hn h hM in
theorem q6n (cl:List qac):ql3 true cl (cl.length:Int)=(match qdt qgh [] cl with|.inl e=>([],[],e)|.inr v=>(v.map (·.1),v.map (·.2),0)):=by
 unfold ql3
 rw[if_neg (by simp only[Bool.true_eq_false,false_or,not_or]; omega),Int.toNat_natCast,List.take_length]
 cases qdt qgh [] cl<;>rfl
omit hn h hM in
theorem zfz:qgh [] qss=.inr (idl []):=by
 simp[qgh,qdz,qss,qic,qkk,qi3,idl,qxm,zit,qb5,qdj,qqx]
omit hn h hM in
theorem zdr {cl:List qac} (hne:cl≠[]):qn5 true (qss::cl.map qh2)=qn5 true (cl.map qh2):=by
 obtain⟨l,c,rfl⟩:∃ l c,cl=l++[c]:=⟨cl.dropLast,cl.getLast hne,(List.dropLast_concat_getLast hne).symm⟩
 have g1:(qss::(l++[c]).map qh2).getLast? =some (qh2 c):=by
  rw[show qss::(l++[c]).map qh2=(qss::l.map qh2)++[qh2 c]from by simp,List.getLast?_concat]
 have g2:((l++[c]).map qh2).getLast? =some (qh2 c):=by rw[List.map_append]; simp
 have n1:ql3 true (qss::(l++[c]).map qh2) ((qss::(l++[c]).map qh2).length:Int)=(match qdt qgh (idl []) ((l++[c]).map qh2)with|.inl e=>([],[],e)|.inr v=>(v.map (·.1),v.map (·.2),0)):=by
  rw[q6n]
  simp only[qdt,zfz]
 have n2:ql3 true ((l++[c]).map qh2) (((l++[c]).map qh2).length:Int)=(match qdt qgh (qxm []) ((l++[c]).map qh2)with|.inl e=>([],[],e)|.inr v=>(v.map (·.1),v.map (·.2),0)):=by
  rw[q6n]
  rfl
 unfold qn5
 simp only
 rw[g1,g2,n1,n2]
 by_cases h9:c.kind=9
 ·rw[zli l c h9]
 ·have hno:¬ ∃ c',some (qh2 c)=some c'∧c'.kind=9:=by
   rintro⟨c',e,hk⟩
   cases e
   exact h9 hk
  rw[if_neg (fun h=>hno h.2),if_neg (fun h=>hno h.2)]
  rcases q61 (l++[c]) []with ⟨e,h1,h2⟩|⟨u,h1,h2|h2⟩
  ·rw[h1,h2]
  ·rw[h1,h2]
  ·rw[h1,h2]
theorem zh8:qnr n ⟨cl⟩=some true:=by
 have hr:=q6i cl
 have hlen:=qbt qd5 qn8 cl
 have hcb:(cl.map qd5).sum=qdu cl:=rfl
 obtain⟨b,hb⟩:=za5 hn (cl:=cl) (by omega)
 have m1:=q9y hn (cl:=cl) (by omega) hM
 have m2:=q9y hn (cl:=cl.map qh2) (by omega) (q6y hM)
 have hre:=zay hn (cl:=cl) (by omega)
 have hic:qdu (qss::cl.map qh2)≤qdu (cl.map qh2)+100:=by
  have:qd5 qss≤100:=by decide
  unfold qdu
  simp only[List.map_cons,List.sum_cons]; omega
 have hMi:∀ c∈qss::cl.map qh2,LenOk c:=by
  intro c hc
  rcases List.mem_cons.1 hc with rfl|hc
  ·exact⟨by decide,by decide,by decide,by decide,by decide⟩
  ·exact q6y hM c hc
 have c1:=(qwj hn (cl:=cl.map qh2) (by omega) (q6y hM)).1
 have c2:=(qwj hn (cl:=qss::cl.map qh2) (by omega) hMi).1
 have hcl:=zaz hn (cl:=cl.map qh2) (by omega) (q6y hM)
 have himay:zi8 n qss=true:=by
  obtain⟨m,rfl⟩:=Nat.exists_eq_add_of_le (show 400≤n by omega)
  unfold zi8
  rw[Nat.add_comm,ziq]
  rfl
 unfold q9b at hre
 unfold qnr
 simp only[hb,qai,q8n (n:=n) (by omega),m1,hre,m2,qcj]
 cases b with
 | true=>rfl
 | false=>
  by_cases h64:((cl.length:Nat):Int)≥64
  ·rw[decide_eq_true h64]; rfl
  ·rw[decide_eq_false h64]
   simp only[cond_false,Bool.not_false,qfa,qai]
   cases hm1:q6u n cl with
   | false=>rfl
   | true=>
    cases hm2:q6u n (cl.map qh2)with
    | false=>rfl
    | true=>
     have hne:cl≠[]:=fun e=>by have:=(zhk hm1).1; rw[e]at this; simp at this
     have hm3:q6u n (qss::cl.map qh2)=true:=by
      have h2:=hm2
      unfold q6u zjt at h2 ⊢
      simp only[Bool.and_eq_true,decide_eq_true_eq,List.length_map]at h2
      obtain⟨⟨⟨h3,h4⟩,h5⟩,h6⟩:=h2
      have e1:q85 (qss::cl.map qh2)=q85 (cl.map qh2):=by
       unfold q85
       obtain⟨l,c,rfl⟩:∃ l c,cl=l++[c]:=⟨cl.dropLast,cl.getLast hne,(List.dropLast_concat_getLast hne).symm⟩
       have g1:(qss::(l++[c]).map qh2).getLast? =some (qh2 c):=by
        rw[show qss::(l++[c]).map qh2=(qss::l.map qh2)++[qh2 c]from by simp,List.getLast?_concat]
       have g2:((l++[c]).map qh2).getLast? =some (qh2 c):=by rw[List.map_append]; simp
       rw[g1,g2]
      rw[e1,h5]
      simp only[qpp,himay,h6]
      rw[decide_eq_true (by simp only[List.length_cons]; omega),decide_eq_true (by simp only[List.length_cons,List.length_map]; omega)]
      rfl
     rw[hm2]at c1 hcl
     rw[hm3,zdr hne]at c2
     have hsn:=q2w (x:=(qn5 true (cl.map qh2)).1) (n:=n) (by omega) hn
     simp only[Bool.not_true,cond_false]
     rw[qhu (decide_eq_true (by rw[List.length_append,List.length_map]; simp only[List.length_cons,List.length_nil]; omega))]
     have e0:([⟨2,[],[],⟨5,[],⟨0,false,0,[],[],[]⟩,[],[]⟩,[105,100,108,101],[],false,[],[],[],[],[],false⟩]:List qac)++cl.map qh2=qss::cl.map qh2:=rfl
     rw[e0,c1,c2]
     simp only[qai]
     rw[show((qn5 true (cl.map qh2)).2==(qn5 true (cl.map qh2)).2)=true from by simp,qfa,hsn]
     rfl
end
end W
end
