/- A part of the proof: the plain law. -/
import Derived.Test.YtneaemdbncgcdaaGreatK
set_option linter.unusedVariables false
set_option linter.unusedSimpArgs false
set_option linter.unnecessarySimpa false
set_option linter.deprecated false
set_option linter.unusedSectionVars false
set_option linter.constructorNameAsVariable false
section
open Go Ax
namespace W
theorem q36 {n:Nat} (hn:n≤1073741824) {l:List qab} (h:40+qf0 l<n) (m:Int):qkj n l m=some (l.all (qs5 n)&&decide (((l.length:Nat):Int)≤m)):=zhh hn h m
theorem q8c {n:Nat} (hn:n≤1073741824) {x:qab} (h:40+qi8 x<n):qev n x=some (qs5 n x):=by
 obtain⟨b,h1,h2,_⟩:=qvs hn h
 unfold qs5
 rw[h1,h2]; rfl
theorem zhs {n:Nat} (hn:n≤1073741824) {p:qbq} (h:42+qly p<n):qk9 n p=some (qz8 n p):=by
 obtain⟨b,h1,h2,_⟩:=q6f hn h
 unfold qz8
 rw[h1,h2]; rfl
theorem zig {n:Nat} (hn:n≤1073741824) {s:qag} (h:42+qir s<n) (f:Bool):qm6 n s f=some (q6c n f s):=by
 unfold qir at h
 obtain⟨b,h1,h2,_⟩:=q3r hn (s:=s) (by omega) f
 unfold q6c
 rw[h1,h2]; rfl
def exS (n:Nat) (l:List qab):Bool:=l.all (qs5 n)&&decide (((l.length:Nat):Int)≤1)
def za1 (n:Nat) (c:qad):Bool:=c.items.all (fun i=>qde i.as_&&qs5 n i.e)&&(c.order.all (fun s=>qs5 n s.e)&&(decide (((c.items.length:Nat):Int)>0)&&(exS n c.skip&&exS n c.limit)))
theorem zgs {n:Nat} (hn:n≤1073741824) {c:qad} (h:42+qe3 c<n):qsb n c=some (za1 n c):=by
 have hi:=qb7 qsd (fun p=>by unfold qsd; omega) c.items
 have ho:=qb7 qi2 (fun p=>by unfold qi2; omega) c.order
 have mi:∀ p∈c.items,42+qsd p<n:=fun p hm=>by have:=qct qsd hm; unfold qe3 at h; omega
 have mo:∀ p∈c.order,42+qi2 p<n:=fun p hm=>by have:=qct qi2 hm; unfold qe3 at h; omega
 have e1:=q36 hn (l:=c.skip) (by unfold qe3 at h; omega) 1
 have e2:=q36 hn (l:=c.limit) (by unfold qe3 at h; omega) 1
 have a1:c.items.length<n:=by unfold qe3 at h; omega
 have a2:c.order.length<n:=by unfold qe3 at h; omega
 clear h
 unfold za1 exS
 obtain⟨x1,x2,x3,⟨x4,x5,⟨x6,x7,x8,x9,x10,x11⟩,x12,x13⟩,x14,x15,x16,x17,x18,x19,x20,x21,x22⟩:=c
 simp only at hi ho mi mo e1 e2 a1 a2 ⊢
 have l2:=qda (B:=qlk n x17 x15 x18 x19) (fun k=>((k:Nat):Int)) (l:=x17) (fun s=>if qs5 n s.e then none else some false)
  (rest:=some (decide (((x15.length:Nat):Int)>0)&&((x18.all (qs5 n)&&decide (((x18.length:Nat):Int)≤1))&&(x19.all (qs5 n)&&decide (((x19.length:Nat):Int)≤1)))))
  (fun k x nx hx=>by
   have hk:=qcn hx
   have h1:=q8c hn (x:=x.e) (by have:=mo x (qb1 hx); unfold qi2 at this; omega)
   obtain⟨⟨y1,y2,⟨y3,y4,y5,y6,y7,y8⟩,y9,y10⟩,y11⟩:=x
   simp only at h1
   simp only[qlk,qav.rows,List.length_map,qby hk,cond_true,qap hx,qaj,h1]
   rw[qcy (by omega)]
   cases qs5 n _<;>rfl)
  (fun nx=>by
   simp only[qlk,qav.rows,qbz.rows,List.length_map,qaz,cond_false,e1,e2]
   generalize decide (((x15.length:Nat):Int)>0)=d
   generalize (x18.all (qs5 n)&&decide (((x18.length:Nat):Int)≤1))=p
   generalize (x19.all (qs5 n)&&decide (((x19.length:Nat):Int)≤1))=q
   cases d<;>cases p<;>cases q<;>rfl) (n:=n) a2
 rw[qrk]at l2
 have l1:=qda (B:=qll n x15 x17 x18 x19) (fun k=>((k:Nat):Int)) (l:=x15) (fun i=>if(qde i.as_&&qs5 n i.e)then none else some false) (rest:=_)
  (fun k x nx hx=>by
   have hk:=qcn hx
   have hb:=mi x (qb1 hx)
   unfold qsd at hb
   have h1:=q8c hn (x:=x.e) (by omega)
   have h2:=qh0 (s:=x.as_) (n:=n) (by omega) (by omega) hn
   obtain⟨⟨y1,y2,⟨y3,y4,y5,y6,y7,y8⟩,y9,y10⟩,y11⟩:=x
   simp only at h1 h2
   simp only[qll,qbz.rows,List.length_map,qby hk,cond_true,qap hx,qaj,h1,h2]
   rw[qcy (by omega)]
   cases qde y11 with
   | false=>rfl
   | true=>
    simp only[Bool.not_true,Bool.not_false,qfs,qaj,h1,cond_false]
    cases qs5 n _<;>rfl)
  (fun nx=>by
   simp only[qll,qbz.rows,List.length_map,qaz,cond_false]
   exact l2) (n:=n) a1
 rw[qrk]at l1
 unfold qsb
 refine Eq.trans l1 ?_
 generalize x15.all _=a
 generalize x17.all _=b
 cases a<;>cases b<;>rfl
def qx6 (n:Nat) (c:qad):Bool:=
 if c.kind=1 then decide (((c.paths.length:Nat):Int)>0)&&exS n c.where_
 else if c.kind=2 then qs5 n c.e&&qde c.var_
 else if c.kind=3∨c.kind=9 then za1 n c&&exS n c.where_
 else if c.kind=4 then decide (((c.paths.length:Nat):Int)>0)
 else if c.kind=5 then(match c.paths with|[p]=>(((p.edges.length:Nat):Int)==0)|_=>false)
 else if c.kind=6∨c.kind=7 then c.sets.all (q6c n (c.kind==6))&&decide (((c.sets.length:Nat):Int)>0)
 else if c.kind=8 then c.vars.all qde&&decide (((c.vars.length:Nat):Int)>0)
 else false
theorem q8s {n:Nat} (hn:n≤1073741824) {c:qad} (h:42+qe3 c<n):∃ s,(s=true↔q55 c=c)∧qer n c=some (s&&(c.paths.all (qz8 n)&&qx6 n c)):=by
 have hp:=qb7 qly (fun p=>by unfold qly; omega) c.paths
 have hs:=qb7 qir (fun p=>by unfold qir; omega) c.sets
 have hi:=qb7 qsd (fun p=>by unfold qsd; omega) c.items
 have ho:=qb7 qi2 (fun p=>by unfold qi2; omega) c.order
 have hv:=qd8 c.vars
 have mp:∀ p∈c.paths,42+qly p<n:=fun p hm=>by have:=qct qly hm; unfold qe3 qxv at h; omega
 have mi:∀ p∈c.items,qi8 p.e<n:=fun p hm=>by have:=qct qsd hm; have e:qsd p=1+p.as_.length+qi8 p.e:=rfl; unfold qe3 at h; omega
 have mo:∀ p∈c.order,qi8 p.e<n:=fun p hm=>by have:=qct qi2 hm; have e:qi2 p=1+qi8 p.e:=rfl; unfold qe3 at h; omega
 have ms:∀ p∈c.sets,42+qir p<n:=fun p hm=>by have:=qct qir hm; unfold qe3 at h; omega
 have ms':∀ p∈c.sets,qi8 p.e<n:=fun p hm=>by have:=ms p hm; unfold qir at this; omega
 have mv:∀ p∈c.vars,42+p.length<n:=fun p hm=>by have:=qct (fun k:List UInt8=>1+k.length) hm; unfold qe3 qy9 at h; omega
 have hrow:=zgs hn h
 have e1:=q36 hn (l:=c.where_) (by unfold qe3 at h; omega) 1
 have e2:=q8c hn (x:=c.e) (by unfold qe3 at h; omega)
 have e3:=qh0 (s:=c.var_) (n:=n) (by unfold qe3 at h; omega) (by omega) hn
 have h40:40<n:=by omega
 unfold qe3 qxv at h
 have b1:([]:List qab).length=0:=rfl
 have eb:qi8 q58=4:=rfl
 obtain⟨s,hs1,hs2⟩:∃ b,qfx n (q55 c) c=some b∧(b=true↔q55 c=c):=by
  have z1:∀ {A:Type} {P:A→Prop},∀ a∈([]:List A),P a:=fun a ha=>by cases ha
  have z2:qf0 []<n:=by show 1<n; omega
  unfold q55
  repeat' split
  all_goals
   refine q6o hn ?_ ?_ ?_ ?_ ?_ ?_ ?_ ?_ ?_ ?_ ?_ ?_ ?_<;>simp only[qnh]<;>first|exact z1|exact z2|exact mi|exact mo|exact ms'|(intro p hm; have:=mp p hm; omega)|(simp only[List.length_nil,eb]; omega)|omega
 refine⟨s,hs2,?_⟩
 have ho:=zjx n c
 rw[zi8]at ho
 have l1:qer n c=(bif !s then some false else bif c.paths.all (qz8 n)then some (qx6 n c)else some false):=by
  clear hs2
  obtain⟨x1,x2,x3,⟨x4,x5,⟨x6,x7,x8,x9,x10,x11⟩,x12,x13⟩,x14,x15,x16,x17,x18,x19,x20,x21,x22⟩:=c
  simp only at hp hs hi ho hv mp ms mv e1 e2 e3 h
  have eta:∀ (d:qad) {R:Type} (f:qad→Option R),(match d with|⟨x23,x24,x25,⟨x26,x27,⟨x28,x29,x30,x31,x32,x33⟩,x34,x35⟩,x36,x37,x38,x39,x40,x41,x42,x43,x44⟩=>f ⟨x23,x24,x25,⟨x26,x27,⟨x28,x29,x30,x31,x32,x33⟩,x34,x35⟩,x36,x37,x38,x39,x40,x41,x42,x43,x44⟩)=f d:=by
   intro d R f
   obtain⟨x1,x2,x3,⟨x4,x5,⟨x6,x7,x8,x9,x10,x11⟩,x12,x13⟩,x14,x15,x16,x17,x18,x19,x20,x21,x22⟩:=d
   rfl
  unfold qer
  simp only[ho,qaj]
  refine Eq.trans (eta _ (fun d=>bnd (qfx n d _) fun x45=>bif(!x45)then some false else qas (qex n x2 x1 x3 x4 x5 x6 x7 x8 x9 x10 x11 x12 x13 x14 x15 x16 x17 x18 x19 x20 x21 x22) n (0:Int))) ?_
  simp only[hs1,qaj]
  congr 1
  have L:=qda (B:=qex n x2 x1 x3 x4 x5 x6 x7 x8 x9 x10 x11 x12 x13 x14 x15 x16 x17 x18 x19 x20 x21 x22) (fun k=>((k:Nat):Int)) (l:=x2) (fun p=>if qz8 n p then none else some false)
   (rest:=some (qx6 n ⟨x1,x2,x3,⟨x4,x5,⟨x6,x7,x8,x9,x10,x11⟩,x12,x13⟩,x14,x15,x16,x17,x18,x19,x20,x21,x22⟩))
   (fun k x nx hx=>by
    have hk:=qcn hx
    have h1:=zhs hn (mp x (qb1 hx))
    obtain⟨y1,y2⟩:=x
    simp only[qex,qds,qby hk,cond_true,qap hx,qaj,h1]
    rw[qcy (by omega)]
    cases qz8 n _<;>rfl)
   (fun nx=>by
    have A:∀ (d p:Bool),(bnd (qa4 d (some p)) fun x50=>some (bif d then x50 else false))=some (d&&p):=by intro d p; cases d<;>cases p<;>rfl
    have l3:=qda (B:=qeu n x20 x1) (fun k=>((k:Nat):Int)) (l:=x20) (fun s=>if q6c n (x1==6) s then none else some false) (rest:=some (decide (((x20.length:Nat):Int)>0)))
     (fun k x nx hx=>by
      have hk:=qcn hx
      have h1:=zig hn (ms x (qb1 hx)) (x1==6)
      obtain⟨z1,z2,z3,⟨y1,y2,⟨y3,y4,y5,y6,y7,y8⟩,y9,y10⟩⟩:=x
      simp only[qeu,qag.rows,List.length_map,qby hk,cond_true,qap hx,qaj,h1]
      rw[qcy (by omega)]
      cases q6c n _ _<;>rfl)
     (fun nx=>by simp only[qeu,qag.rows,List.length_map,qaz,cond_false]) (n:=n) (by omega)
    rw[qrk]at l3
    have l3':qas (qeu n x20 x1) n (0:Int)=some (x20.all (q6c n (x1==6))&&decide (((x20.length:Nat):Int)>0)):=by
     refine Eq.trans l3 ?_
     cases x20.all (q6c n (x1==6))<;>rfl
    have l4:=qda (B:=qeo n x21) (fun k=>((k:Nat):Int)) (l:=x21) (fun s=>if qde s then none else some false) (rest:=some (decide (((x21.length:Nat):Int)>0)))
     (fun k x nx hx=>by
      have hk:=qcn hx
      have h1:=qh0 (s:=x) (n:=n) (by have:=mv x (qb1 hx); omega) (by omega) hn
      simp only[qeo,qa0,qby hk,cond_true,qap hx,qaj,h1]
      rw[qcy (by omega)]
      cases qde x<;>rfl)
     (fun nx=>by simp only[qeo,qa0,qaz,cond_false]) (n:=n) (by omega)
    rw[qrk]at l4
    have l4':qas (qeo n x21) n (0:Int)=some (x21.all qde&&decide (((x21.length:Nat):Int)>0)):=by
     refine Eq.trans l4 ?_
     cases x21.all qde<;>rfl
    simp only[qex,qhs,qhr,qds,qaz,cond_false,e1,e2,e3,hrow,qaj,l3',l4']
    unfold qx6 exS
    simp only
    by_cases k1:x1=1
    ·subst k1; exact A _ _
    by_cases k2:x1=2
    ·subst k2; exact A _ _
    by_cases k3:x1=3
    ·subst k3; exact A _ _
    by_cases k9:x1=9
    ·subst k9; exact A _ _
    by_cases k4:x1=4
    ·subst k4; rfl
    by_cases k5:x1=5
    ·subst k5
     match x2 with
     | []=>rfl
     | [p]=>obtain⟨p1,p2⟩:=p; show some ((((qah.rows p2).length:Nat):Int)==0)=some (((p2.length:Nat):Int)==0); rw[qge]
     | p::q::l=>
      have e1:((((p::q::l).length:Nat):Int)==(1:Int))=false:=by simp only[List.length_cons]; rw[beq_eq_false_iff_ne]; omega
      rw[e1]; rfl
    by_cases k6:x1=6
    ·subst k6; rfl
    by_cases k7:x1=7
    ·subst k7; rfl
    by_cases k8:x1=8
    ·subst k8; rfl
    simp only[beq_eq_false_iff_ne.2 k1,beq_eq_false_iff_ne.2 k2,beq_eq_false_iff_ne.2 k3,beq_eq_false_iff_ne.2 k9,beq_eq_false_iff_ne.2 k4,beq_eq_false_iff_ne.2 k5,beq_eq_false_iff_ne.2 k6,beq_eq_false_iff_ne.2 k7,beq_eq_false_iff_ne.2 k8,cond_false,k1,k2,k3,k9,k4,k5,k6,k7,k8,if_false,or_self]) (n:=n) (by omega)
  rw[qrk]at L
  exact L
 rw[l1]
 cases s<;>cases c.paths.all (qz8 n)<;>rfl
end W
end
section
open Go Ax
namespace W
theorem qto {n:Nat} {A:Type} (f:A→qbe) {l:List A} (h:l.length≤1048576):gOk n (l.map f,1,1048576)=(decide (((l.length:Nat):Int)>0)&&l.all (fun x=>zan n (f x))):=by
 unfold gOk
 simp only[List.length_map,List.all_map]
 rw[decide_eq_false (p:=((l.length:Nat):Int)>1048576) (by omega)]
 have:decide (((l.length:Nat):Int)<1)=!decide (((l.length:Nat):Int)>0):=by
  rw[Bool.eq_iff_iff]; simp only[decide_eq_true_eq,Bool.not_eq_true',decide_eq_false_iff_not]; omega
 rw[this]
 cases decide (((l.length:Nat):Int)>0)<;>rfl
theorem zfn {n:Nat} {A:Type} (f:A→qbe) {l:List A} (h:l.length≤1048576):gOk n (l.map f,0,1048576)=l.all (fun x=>zan n (f x)):=by
 unfold gOk
 simp only[List.length_map,List.all_map]
 rw[decide_eq_false (p:=((l.length:Nat):Int)>1048576) (by omega),decide_eq_false (p:=((l.length:Nat):Int)<0) (by omega)]
 rfl
theorem qzf {n:Nat} {A:Type} (f:A→qbe) {l:List A}:gOk n (l.map f,0,1)=(l.all (fun x=>zan n (f x))&&decide (((l.length:Nat):Int)≤1)):=by
 unfold gOk
 simp only[List.length_map,List.all_map]
 rw[decide_eq_false (p:=((l.length:Nat):Int)<0) (by omega)]
 have:decide (((l.length:Nat):Int)>1)=!decide (((l.length:Nat):Int)≤1):=by
  rw[Bool.eq_iff_iff]; simp only[decide_eq_true_eq,Bool.not_eq_true',decide_eq_false_iff_not]; omega
 rw[this]
 show(!(!decide (((l.length:Nat):Int)≤1))&&_)=_
 rw[Bool.not_not,Bool.and_comm]
 rfl
theorem qzs {n:Nat} (p:qbe):gOk n ([p],1,1)=zan n p:=by
 show(true&&(zan n p&&true))=_
 simp
theorem qga {A:Type} (x:A) (l:List A):((((x::l).length:Nat):Int)==0)=false:=by
 rw[beq_eq_false_iff_ne]; simp only[List.length_cons]; omega
theorem zeh {n:Nat} {x:qab} (h:(qis x).1=0):qs5 n x=false:=by
 obtain⟨op,name,val,names,args⟩:=x
 have:op=0:=h
 subst this
 have:=zb7 (n:=n) (name:=name) (val:=val) (names:=names) (args:=args) (d:=32)
 unfold qs5
 cases hr:qcl n ⟨0,name,val,names,args⟩ 32 with
 | none=>rfl
 | some b=>
  cases b with
  | false=>rfl
  | true=>exact absurd hr this
structure LenOk (c:qad):Prop where
 paths:c.paths.length≤1048576
 items:c.items.length≤1048576
 order:c.order.length≤1048576
 sets:c.sets.length≤1048576
 vars:c.vars.length≤1048576
theorem q7m {c:qad} (hM:qe3 c≤1048576):LenOk c:=by
 have hp:=qb7 qly (fun p=>by unfold qly; omega) c.paths
 have hi:=qb7 qsd (fun p=>by unfold qsd; omega) c.items
 have ho:=qb7 qi2 (fun p=>by unfold qi2; omega) c.order
 have hs:=qb7 qir (fun p=>by unfold qir; omega) c.sets
 have hv:=qd8 c.vars
 unfold qe3 qxv at hM
 exact⟨by omega,by omega,by omega,by omega,by omega⟩
theorem zf1 {n:Nat} {c:qad} (hM:LenOk c) (hk:q55 c=c) (hb:¬ q15 c) {ok:Bool} (hok:ok=true∨(c.kind=2∧(qis c.e).1=0)) :
  (ok&&!((((qtm c).length:Nat):Int)==0)&&(qtm c).all (gOk n))=(c.paths.all (qz8 n)&&qx6 n c):=by
 obtain⟨hp,hi,ho,hs,hv⟩:=hM
 obtain⟨x1,x2,x3,x4,x14,x15,x16,x17,x18,x19,x20,x21,x22⟩:=c
 simp only at hp hi ho hs hv hok
 by_cases k1:x1=1
 ·subst k1
  have hok:ok=true:=by rcases hok with h|h; exact h; exact absurd h.1 (by decide)
  subst hok
  have e:(qtm ⟨1,x2,x3,x4,x14,x15,x16,x17,x18,x19,x20,x21,x22⟩)=[(x2.map .path,1,1048576),(x3.map .expr,0,1)]:=rfl
  rw[e,qga,List.all_cons,List.all_cons,List.all_nil,qto .path (by omega),qzf]
  show(true&&(_&&x2.all (qz8 n)&&(x3.all (qs5 n)&&decide (((x3.length:Nat):Int)≤1)&&true)))=(x2.all (qz8 n)&&(_&&(x3.all (qs5 n)&&_)))
  generalize x2.all (qz8 n)=a
  generalize x3.all (qs5 n)=b
  generalize decide (((x2.length:Nat):Int)>0)=d
  generalize decide (((x3.length:Nat):Int)≤1)=f
  cases a<;>cases b<;>cases d<;>cases f<;>rfl
 by_cases k2:x1=2
 ·subst k2
  have hpn:x2=[]:=(congrArg qad.paths hk).symm
  subst hpn
  have e:(qtm ⟨2,[],x3,x4,x14,x15,x16,x17,x18,x19,x20,x21,x22⟩)=[([.expr x4],1,1),([.name x14],1,1)]:=rfl
  rw[e,qga,List.all_cons,List.all_cons,List.all_nil,qzs,qzs]
  show(ok&&true&&(qs5 n x4&&(qde x14&&true)))=(true&&(qs5 n x4&&qde x14))
  rcases hok with h|h
  ·subst h
   cases qs5 n x4<;>cases qde x14<;>rfl
  ·rw[zeh h.2]
   cases ok<;>rfl
 by_cases k3:x1=3
 ·subst k3
  have hok:ok=true:=by rcases hok with h|h; exact h; exact absurd h.1 (by decide)
  subst hok
  have hpn:x2=[]:=(congrArg qad.paths hk).symm
  subst hpn
  have e:(qtm ⟨3,[],x3,x4,x14,x15,x16,x17,x18,x19,x20,x21,x22⟩)=[(x15.map .item,1,1048576),(x17.map .sorted,0,1048576),(x18.map .expr,0,1),(x19.map .expr,0,1),(x3.map .expr,0,1)]:=rfl
  rw[e,qga,List.all_cons,List.all_cons,List.all_cons,List.all_cons,List.all_cons,List.all_nil,qto .item (by omega),zfn .sorted (by omega),qzf,qzf,qzf]
  show(true&&true&&((_&&x15.all (fun i=>qde i.as_&&qs5 n i.e))&&(x17.all (fun s=>qs5 n s.e)&&(exS n x18&&(exS n x19&&(exS n x3&&true))))))=(true&&((x15.all (fun i=>qde i.as_&&qs5 n i.e)&&(x17.all (fun s=>qs5 n s.e)&&(_&&(exS n x18&&exS n x19))))&&exS n x3))
  generalize x15.all _=a
  generalize x17.all _=b
  generalize decide (((x15.length:Nat):Int)>0)=d
  generalize exS n x18=f
  generalize exS n x19=g
  generalize exS n x3=h
  cases a<;>cases b<;>cases d<;>cases f<;>cases g<;>cases h<;>rfl
 by_cases k9:x1=9
 ·subst k9
  have hok:ok=true:=by rcases hok with h|h; exact h; exact absurd h.1 (by decide)
  subst hok
  have hpn:x2=[]:=(congrArg qad.paths hk).symm
  subst hpn
  have hwn:x3=[]:=(congrArg qad.where_ hk).symm
  subst hwn
  have e:(qtm ⟨9,[],[],x4,x14,x15,x16,x17,x18,x19,x20,x21,x22⟩)=[(x15.map .item,1,1048576),(x17.map .sorted,0,1048576),(x18.map .expr,0,1),(x19.map .expr,0,1)]:=rfl
  rw[e,qga,List.all_cons,List.all_cons,List.all_cons,List.all_cons,List.all_nil,qto .item (by omega),zfn .sorted (by omega),qzf,qzf]
  show(true&&true&&((_&&x15.all (fun i=>qde i.as_&&qs5 n i.e))&&(x17.all (fun s=>qs5 n s.e)&&(exS n x18&&(exS n x19&&true)))))=(true&&((x15.all (fun i=>qde i.as_&&qs5 n i.e)&&(x17.all (fun s=>qs5 n s.e)&&(_&&(exS n x18&&exS n x19))))&&true))
  generalize x15.all _=a
  generalize x17.all _=b
  generalize decide (((x15.length:Nat):Int)>0)=d
  generalize exS n x18=f
  generalize exS n x19=g
  cases a<;>cases b<;>cases d<;>cases f<;>cases g<;>rfl
 by_cases k4:x1=4
 ·subst k4
  have hok:ok=true:=by rcases hok with h|h; exact h; exact absurd h.1 (by decide)
  subst hok
  have e:(qtm ⟨4,x2,x3,x4,x14,x15,x16,x17,x18,x19,x20,x21,x22⟩)=[(x2.map .path,1,1048576)]:=rfl
  rw[e,qga,List.all_cons,List.all_nil,qto .path (by omega)]
  show(true&&true&&((_&&x2.all (qz8 n))&&true))=(x2.all (qz8 n)&&decide (((x2.length:Nat):Int)>0))
  generalize x2.all (qz8 n)=a
  generalize decide (((x2.length:Nat):Int)>0)=d
  cases a<;>cases d<;>rfl
 by_cases k5:x1=5
 ·subst k5
  have hok:ok=true:=by rcases hok with h|h; exact h; exact absurd h.1 (by decide)
  subst hok
  have e:(qtm ⟨5,x2,x3,x4,x14,x15,x16,x17,x18,x19,x20,x21,x22⟩)=[(x2.map .path,1,1)]:=rfl
  rw[e,qga,List.all_cons,List.all_nil]
  match x2 with
  | []=>rfl
  | [⟨nodes,[]⟩]=>
   rw[show List.map qbe.path [⟨nodes,[]⟩]=[.path ⟨nodes,[]⟩]from rfl,qzs]
   show(true&&true&&(qz8 n ⟨nodes,[]⟩&&true))=((qz8 n ⟨nodes,[]⟩&&true)&&true)
   cases qz8 n ⟨nodes,[]⟩<;>rfl
  | [⟨nodes,e::es⟩]=>exact absurd ⟨rfl,_,rfl,by simp⟩ hb
  | p::q::l=>
   have:gOk n (List.map qbe.path (p::q::l),1,1)=false:=by
    unfold gOk
    simp only[List.length_map,List.length_cons]
    rw[decide_eq_true (p:=((l.length+1+1:Nat):Int)>1) (by omega),Bool.cond_eq_ite]
    simp
   rw[this]
   show _=((p::q::l).all (qz8 n)&&false)
   cases(p::q::l).all (qz8 n)<;>rfl
 by_cases k6:x1=6
 ·subst k6
  have hok:ok=true:=by rcases hok with h|h; exact h; exact absurd h.1 (by decide)
  subst hok
  have hpn:x2=[]:=(congrArg qad.paths hk).symm
  subst hpn
  have e:(qtm ⟨6,[],x3,x4,x14,x15,x16,x17,x18,x19,x20,x21,x22⟩)=[(x20.map (fun s=>.change ⟨s,true⟩),1,1048576)]:=rfl
  rw[e,qga,List.all_cons,List.all_nil,qto _ (by omega)]
  show(true&&true&&((_&&x20.all (q6c n true))&&true))=(true&&(x20.all (q6c n true)&&_))
  generalize x20.all (q6c n true)=a
  generalize decide (((x20.length:Nat):Int)>0)=d
  cases a<;>cases d<;>rfl
 by_cases k7:x1=7
 ·subst k7
  have hok:ok=true:=by rcases hok with h|h; exact h; exact absurd h.1 (by decide)
  subst hok
  have hpn:x2=[]:=(congrArg qad.paths hk).symm
  subst hpn
  have e:(qtm ⟨7,[],x3,x4,x14,x15,x16,x17,x18,x19,x20,x21,x22⟩)=[(x20.map (fun s=>.change ⟨s,false⟩),1,1048576)]:=rfl
  rw[e,qga,List.all_cons,List.all_nil,qto _ (by omega)]
  show(true&&true&&((_&&x20.all (q6c n false))&&true))=(true&&(x20.all (q6c n false)&&_))
  generalize x20.all (q6c n false)=a
  generalize decide (((x20.length:Nat):Int)>0)=d
  cases a<;>cases d<;>rfl
 by_cases k8:x1=8
 ·subst k8
  have hok:ok=true:=by rcases hok with h|h; exact h; exact absurd h.1 (by decide)
  subst hok
  have hpn:x2=[]:=(congrArg qad.paths hk).symm
  subst hpn
  have e:(qtm ⟨8,[],x3,x4,x14,x15,x16,x17,x18,x19,x20,x21,x22⟩)=[(x21.map .name,1,1048576)]:=rfl
  rw[e,qga,List.all_cons,List.all_nil,qto .name (by omega)]
  show(true&&true&&((_&&x21.all qde)&&true))=(true&&(x21.all qde&&_))
  generalize x21.all qde=a
  generalize decide (((x21.length:Nat):Int)>0)=d
  cases a<;>cases d<;>rfl
 have e:(qtm ⟨x1,x2,x3,x4,x14,x15,x16,x17,x18,x19,x20,x21,x22⟩)=[]:=by
  unfold qtm
  simp only[k1,k2,k3,k9,k4,k5,k6,k7,k8,if_false,or_self]
 have e2:qx6 n ⟨x1,x2,x3,x4,x14,x15,x16,x17,x18,x19,x20,x21,x22⟩=false:=by
  unfold qx6
  simp only[k1,k2,k3,k9,k4,k5,k6,k7,k8,if_false,or_self]
 rw[e,e2]
 cases ok<;>cases x2.all (qz8 n)<;>rfl
end W
end
section
open Go Ax
namespace W
theorem zjo {n:Nat} (hn:n≤1073741824) {c:qad} (h:42+qe3 c<n) (hk:q55 c=c) (hp:c.paths.all (qz8 n)=true) (hm:qx6 n c=true):WfC c:=by
 have mp:∀ p∈c.paths,42+qly p<n:=fun p hm=>by have:=qct qly hm; unfold qe3 qxv at h; omega
 have mi:∀ p∈c.items,40+qi8 p.e<n:=fun p hm=>by have:=qct qsd hm; have e:qsd p=1+p.as_.length+qi8 p.e:=rfl; unfold qe3 at h; omega
 have mo:∀ p∈c.order,40+qi8 p.e<n:=fun p hm=>by have:=qct qi2 hm; have e:qi2 p=1+qi8 p.e:=rfl; unfold qe3 at h; omega
 have ms:∀ p∈c.sets,41+qir p<n:=fun p hm=>by have:=qct qir hm; unfold qe3 at h; omega
 have mw:∀ p∈c.where_,40+qi8 p<n:=fun p hm=>by have:=qgx hm; unfold qe3 at h; omega
 have mk:∀ p∈c.skip,40+qi8 p<n:=fun p hm=>by have:=qgx hm; unfold qe3 at h; omega
 have ml:∀ p∈c.limit,40+qi8 p<n:=fun p hm=>by have:=qgx hm; unfold qe3 at h; omega
 have me:40+qi8 c.e<n:=by unfold qe3 at h; omega
 have wE:∀ {x:qab},40+qi8 x<n→qs5 n x=true→WfE x:=by
  intro x hx hb
  obtain⟨b,h1,_,h3⟩:=qvs hn hx
  unfold qs5 at hb
  rw[h1]at hb
  exact h3 hb
 have wL:∀ {l:List qab},(∀ p∈l,40+qi8 p<n)→exS n l=true→∀ x∈l,WfE x:=by
  intro l hl hb x hx
  unfold exS at hb
  rw[Bool.and_eq_true,List.all_eq_true]at hb
  exact wE (hl x hx) (hb.1 x hx)
 have wP:∀ p∈c.paths,WfP p:=by
  intro p hm
  obtain⟨b,h1,_,h3⟩:=q6f hn (mp p hm)
  have:=List.all_eq_true.1 hp p hm
  unfold qz8 at this
  rw[h1]at this
  exact h3 this
 have wS:∀ {f:Bool} {ck:Int},(f=true↔ck=6)→c.sets.all (q6c n f)=true→∀ s∈c.sets,WfSet ck s:=by
  intro f ck hf hb s hs
  have h0:=ms s hs
  unfold qir at h0
  obtain⟨b,h1,_,h3⟩:=q3r hn (s:=s) (by omega) f
  have:=List.all_eq_true.1 hb s hs
  unfold q6c at this
  rw[h1]at this
  obtain⟨a1,a2⟩:=h3 this
  rw[hf]at a1 a2
  exact⟨a1,a2⟩
 have wR:za1 n c=true→(∀ x∈c.where_,WfE x)→WfRows c:=by
  intro hb hw
  unfold za1 at hb
  simp only[Bool.and_eq_true]at hb
  obtain⟨h1,h2,h3,h4,h5⟩:=hb
  refine⟨fun i hi=>?_,fun s hs=>?_,wL mk h4,wL ml h5,hw⟩
  ·have:=List.all_eq_true.1 h1 i hi
   rw[Bool.and_eq_true]at this
   refine⟨wE (mi i hi) this.2,fun e=>?_⟩
   rw[e]at this
   exact absurd this.1 (by decide)
  ·exact wE (mo s hs) (List.all_eq_true.1 h2 s hs)
 clear h mp
 obtain⟨x1,x2,x3,x4,x14,x15,x16,x17,x18,x19,x20,x21,x22⟩:=c
 simp only at mi mo ms mw mk ml me wP wS wR hp
 have nil:∀ {A:Type} {P:A→Prop},∀ a∈([]:List A),P a:=fun a ha=>by cases ha
 by_cases k1:x1=1
 ·subst k1
  have hm':(decide (((x2.length:Nat):Int)>0)&&exS n x3)=true:=hm
  rw[Bool.and_eq_true]at hm'
  exact⟨wP,wL mw hm'.2,fun h=>absurd (show(1:Int)=2 from h) (by decide),fun h=>absurd (show(1:Int)=5 from h) (by decide),fun h=>absurd (show(1:Int)=6∨(1:Int)=7 from h) (by decide),fun h=>absurd (show(1:Int)=3∨(1:Int)=9 from h) (by decide),by simp⟩
 by_cases k2:x1=2
 ·subst k2
  have hw:([]:List qab)=x3:=congrArg qad.where_ hk
  subst hw
  have hm':(qs5 n x4&&qde x14)=true:=hm
  rw[Bool.and_eq_true]at hm'
  exact⟨wP,nil,fun _=>⟨wE me hm'.1,fun e=>by have e:x14=[]:=e; rw[e]at hm'; exact absurd hm'.2 (by decide)⟩,fun h=>absurd (show(2:Int)=5 from h) (by decide),fun h=>absurd (show(2:Int)=6∨(2:Int)=7 from h) (by decide),fun h=>absurd (show(2:Int)=3∨(2:Int)=9 from h) (by decide),by simp⟩
 by_cases k3:x1=3
 ·subst k3
  have hm':(za1 n ⟨3,x2,x3,x4,x14,x15,x16,x17,x18,x19,x20,x21,x22⟩&&exS n x3)=true:=hm
  rw[Bool.and_eq_true]at hm'
  have w:=wL mw hm'.2
  exact⟨wP,w,fun h=>absurd (show(3:Int)=2 from h) (by decide),fun h=>absurd (show(3:Int)=5 from h) (by decide),fun h=>absurd (show(3:Int)=6∨(3:Int)=7 from h) (by decide),fun _=>wR hm'.1 w,by simp⟩
 by_cases k9:x1=9
 ·subst k9
  have hm':(za1 n ⟨9,x2,x3,x4,x14,x15,x16,x17,x18,x19,x20,x21,x22⟩&&exS n x3)=true:=hm
  rw[Bool.and_eq_true]at hm'
  have w:=wL mw hm'.2
  exact⟨wP,w,fun h=>absurd (show(9:Int)=2 from h) (by decide),fun h=>absurd (show(9:Int)=5 from h) (by decide),fun h=>absurd (show(9:Int)=6∨(9:Int)=7 from h) (by decide),fun _=>wR hm'.1 w,by simp⟩
 by_cases k4:x1=4
 ·subst k4
  have hw:([]:List qab)=x3:=congrArg qad.where_ hk
  subst hw
  exact⟨wP,nil,fun h=>absurd (show(4:Int)=2 from h) (by decide),fun h=>absurd (show(4:Int)=5 from h) (by decide),fun h=>absurd (show(4:Int)=6∨(4:Int)=7 from h) (by decide),fun h=>absurd (show(4:Int)=3∨(4:Int)=9 from h) (by decide),by simp⟩
 by_cases k5:x1=5
 ·subst k5
  have hw:([]:List qab)=x3:=congrArg qad.where_ hk
  subst hw
  refine⟨wP,nil,fun h=>absurd (show(5:Int)=2 from h) (by decide),fun _=>?_,fun h=>absurd (show(5:Int)=6∨(5:Int)=7 from h) (by decide),fun h=>absurd (show(5:Int)=3∨(5:Int)=9 from h) (by decide),by simp⟩
  match x2 with
  | []=>exact absurd (show false=true from hm) (by decide)
  | [p]=>exact⟨p,rfl⟩
  | p::q::l=>exact absurd (show false=true from hm) (by decide)
 by_cases k6:x1=6
 ·subst k6
  have hw:([]:List qab)=x3:=congrArg qad.where_ hk
  subst hw
  have hm':(x20.all (q6c n true)&&decide (((x20.length:Nat):Int)>0))=true:=hm
  rw[Bool.and_eq_true]at hm'
  exact⟨wP,nil,fun h=>absurd (show(6:Int)=2 from h) (by decide),fun h=>absurd (show(6:Int)=5 from h) (by decide),fun _=>wS (by simp) hm'.1,fun h=>absurd (show(6:Int)=3∨(6:Int)=9 from h) (by decide),by simp⟩
 by_cases k7:x1=7
 ·subst k7
  have hw:([]:List qab)=x3:=congrArg qad.where_ hk
  subst hw
  have hm':(x20.all (q6c n false)&&decide (((x20.length:Nat):Int)>0))=true:=hm
  rw[Bool.and_eq_true]at hm'
  exact⟨wP,nil,fun h=>absurd (show(7:Int)=2 from h) (by decide),fun h=>absurd (show(7:Int)=5 from h) (by decide),fun _=>wS (by simp) hm'.1,fun h=>absurd (show(7:Int)=3∨(7:Int)=9 from h) (by decide),by simp⟩
 by_cases k8:x1=8
 ·subst k8
  have hw:([]:List qab)=x3:=congrArg qad.where_ hk
  subst hw
  exact⟨wP,nil,fun h=>absurd (show(8:Int)=2 from h) (by decide),fun h=>absurd (show(8:Int)=5 from h) (by decide),fun h=>absurd (show(8:Int)=6∨(8:Int)=7 from h) (by decide),fun h=>absurd (show(8:Int)=3∨(8:Int)=9 from h) (by decide),by simp⟩
 have e2:qx6 n ⟨x1,x2,x3,x4,x14,x15,x16,x17,x18,x19,x20,x21,x22⟩=false:=by
  unfold qx6
  simp only[k1,k2,k3,k9,k4,k5,k6,k7,k8,if_false,or_self]
 rw[e2]at hm
 cases hm
def zgk (n:Nat) (c:qad):Bool:=(qer n c).getD false
theorem qz0 {n:Nat} (hn:n≤1073741824) {c:qad} (h:42+qe3 c<n) (hM:LenOk c) :
  qer n c=some (zgk n c)∧(zgk n c=true→WfC c∧q55 c=c∧c.paths.all (qz8 n)=true∧qx6 n c=true)∧∃ gl ok,qjx n c=some (gl,ok)∧gl.length≤5∧(∀ g∈gl,g.parts.length<n∧∀ p∈g.parts,42+q1t p<n) ∧
   (ok&&!(((gl.length:Nat):Int)==0)&&(gl.map g3).all (gOk n))=zgk n c:=by
 obtain⟨s,hs,he⟩:=q8s hn h
 have hmc:zgk n c=(s&&(c.paths.all (qz8 n)&&qx6 n c)):=by unfold zgk; rw[he]; rfl
 refine⟨by rw[he,hmc],fun hb=>?_,?_⟩
 ·rw[hmc]at hb
  simp only[Bool.and_eq_true]at hb
  exact⟨zjo hn h (hs.1 hb.1) hb.2.1 hb.2.2,hs.1 hb.1,hb.2.1,hb.2.2⟩
 ·rcases zfr hn (c:=c) (by omega)with ⟨⟨hk5,p,hp,hpe⟩,ho⟩|⟨hb,gl,ok,ho,hg3,h1,h2⟩
  ·refine⟨[],false,ho,by simp,(fun g hg=>by cases hg),?_⟩
   have:qx6 n c=false:=by
    unfold qx6
    rw[hk5,hp]
    have:(((p.edges.length:Nat):Int)==0)=false:=by
     rw[beq_eq_false_iff_ne]
     intro e
     have:p.edges.length=0:=by omega
     exact hpe (List.length_eq_zero_iff.1 this)
    exact this
   rw[hmc,this]
   cases s<;>cases c.paths.all (qz8 n)<;>rfl
  ·have hlen:gl.length=(qtm c).length:=by rw[← hg3,List.length_map]
   refine⟨gl,ok,ho,?_,fun g hg=>?_,?_⟩
   ·rw[hlen]
    unfold qtm
    repeat' split
    all_goals simp
   ·have:=zbq (Nat.le_refl (qe3 c)) (g3 g) (by rw[← hg3]; exact List.mem_map.2 ⟨g,hg,rfl⟩)
    simp only[g3]at this
    exact⟨by omega,fun p hp=>by have:=this.2 p hp; omega⟩
   ·rw[hmc,hg3,hlen]
    cases hsb:s with
    | false=>
     have:ok=false:=by
      cases ok with
      | false=>rfl
      | true=>have:=hs.2 (h1 rfl); rw[hsb]at this; cases this
     rw[this]; rfl
    | true=>
     have hk:=hs.1 hsb
     rw[zf1 hM hk hb (h2 hk)]
     rfl
end W
end
section
open Go Ax
namespace W
def wr (k:Int):Bool:=bif decide (k≥4)then decide (k≤8)else false
theorem zdd (n:Nat) (k:Int):qng n k=some (wr k):=by
 unfold qng wr
 congr 1
 by_cases h4:k=4; · subst h4; rfl
 by_cases h5:k=5; · subst h5; rfl
 by_cases h6:k=6; · subst h6; rfl
 by_cases h7:k=7; · subst h7; rfl
 by_cases h8:k=8; · subst h8; rfl
 rw[beq_eq_false_iff_ne.2 h4,beq_eq_false_iff_ne.2 h5,beq_eq_false_iff_ne.2 h6,beq_eq_false_iff_ne.2 h7,beq_eq_false_iff_ne.2 h8]
 by_cases h:k≥4
 ·rw[decide_eq_true h,decide_eq_false (by omega)]; rfl
 ·rw[decide_eq_false h]; rfl
def zbb (cl:List qad):Bool:=match cl.getLast? with|some c=>(c.kind==9)||wr c.kind|none=>false
def zh9 (cl:List qad):Bool:=(decide (0<cl.length)&&decide (cl.length≤64))&&zbb cl
def qkc (n:Nat):List qad→Bool
 | []=>true
 | c::l=>(zgk n c&&!((c.kind==9)&&!l.isEmpty))&&qkc n l
def q17 (n:Nat) (cl:List qad):Bool:=zh9 cl&&qkc n cl
theorem zfy {n:Nat} {cl:List qad} (h:q17 n cl=true):0<cl.length∧cl.length≤64:=by
 unfold q17 zh9 at h
 simp only[Bool.and_eq_true,decide_eq_true_eq]at h
 exact h.1.1
theorem za2:∀ (ok e a nine lt r:Bool),(bif bif bif !ok then true else e then true else bif nine then lt else false then some false else bif a then some r else some false)=some (((ok&&!e&&a)&&!(nine&&lt))&&r):=by
 intro ok e a nine lt r
 cases ok<;>cases e<;>cases a<;>cases nine<;>cases lt<;>cases r<;>rfl
theorem zeq {cl:List qad} {k:Nat}:decide ((((k+1:Nat):Int))<((cl.length:Nat):Int))=!(cl.drop (k+1)).isEmpty:=by
 rw[Bool.eq_iff_iff,decide_eq_true_eq,Bool.not_eq_true',List.isEmpty_eq_false_iff,ne_eq,List.drop_eq_nil_iff]
 omega
section
variable {n:Nat} (hn:n≤1073741824) {cl:List qad} (h:42+qea cl<n) (hM:∀ c∈cl,LenOk c)
include hn h hM
theorem zdg:∀ m k:Nat,k≤cl.length→cl.length - k<m→qas (qe4 n cl) m (k:Int)=some (qkc n (cl.drop k)):=by
 have hlen:=qb7 qe3 qox cl
 unfold qea at h
 intro m
 induction m with
 | zero=>intro k _ h; omega
 | succ m ih=>
  intro k hk hm
  rw[qci]
  by_cases he:k=cl.length
  ·subst he
   rw[List.drop_length]
   simp only[qe4,qc6,qaz,cond_false]
   rfl
  ·have hkl:k<cl.length:=by omega
   have hx:=List.getElem?_eq_getElem hkl
   rw[List.drop_eq_getElem_cons hkl]
   generalize cl[k]=x at hx
   have hb:=qct qe3 (qb1 hx)
   obtain⟨_,_,gl,ok,ho,hg5,hgp,hval⟩:=qz0 hn (c:=x) (by omega) (hM _ (qb1 hx))
   have hgl:=zbi hn hgp (by omega) (qas (qe4 n cl) m) (k:=k) (by omega)
   rw[ih (k+1) (by omega) (by omega)]at hgl
   have hd:=zeq (cl:=cl) (k:=k)
   unfold qkc
   rw[← hval]
   clear hval
   obtain⟨x1,x2,x3,⟨x4,x5,⟨x6,x7,x8,x9,x10,x11⟩,x12,x13⟩,x14,x15,x16,x17,x18,x19,x20,x21,x22⟩:=x
   simp only[qe4,qc6,qby hkl,cond_true,qap hx,qaj,ho,qs3,hgl]
   rw[qcy (by omega),hd]
   exact za2 _ _ _ _ _ _
theorem zjd (nx:Int→Option Bool):qkz n cl nx ((cl.length:Nat):Int)=some (zh9 cl):=by
 have hlen:=qb7 qe3 qox cl
 unfold qea at h
 simp only[qkz,qc6,qaz,cond_false,zdd]
 by_cases h0:cl=[]
 ·subst h0; rfl
 ·obtain⟨l,c,rfl⟩:∃ l c,cl=l++[c]:=⟨cl.dropLast,cl.getLast h0,(List.dropLast_concat_getLast h0).symm⟩
  have e1:IntKind.i64.wrap ((((l++[c]).length:Nat):Int) - 1)=((l.length:Nat):Int):=by
   rw[q24 (by omega) (by omega)]; simp
  have e2:(l++[c])[l.length]? =some c:=by simp
  have e3:zbb (l++[c])=((c.kind==9)||wr c.kind):=by unfold zbb; simp
  rw[e1,qap e2]
  unfold zh9
  rw[e3]
  have e4:decide ((((l++[c]).length:Nat):Int)>0)=true:=decide_eq_true (by simp only[List.length_append,List.length_cons,List.length_nil]; omega)
  have e5:decide (0<(l++[c]).length)=true:=decide_eq_true (by simp)
  have e6:decide ((((l++[c]).length:Nat):Int)≤64)=decide ((l++[c]).length≤64):=by
   rw[Bool.eq_iff_iff]; simp only[decide_eq_true_eq]; omega
  rw[e4,e5,e6,cond_true]
  generalize decide ((l++[c]).length≤64)=d
  clear e1 e2 e3 e4 e5 e6 h hM hlen h0
  obtain⟨x1,x2,x3,⟨x4,x5,⟨x6,x7,x8,x9,x10,x11⟩,x12,x13⟩,x14,x15,x16,x17,x18,x19,x20,x21,x22⟩:=c
  cases d with
  | false=>rfl
  | true=>
   simp only[qfs,qaj,Bool.true_and]
   cases hk:(x1==9)with
   | true=>rfl
   | false=>
    simp only[Bool.not_false,qfs,qaj]
    rfl
theorem zhm:∀ m k:Nat,k≤cl.length→cl.length - k<m→qas (qkz n cl) m (k:Int)=bif qkc n (cl.drop k)then some (zh9 cl)else some false:=by
 have hlen:=qb7 qe3 qox cl
 have hend:=zjd hn h hM
 unfold qea at h
 intro m
 induction m with
 | zero=>intro k _ h; omega
 | succ m ih=>
  intro k hk hm
  rw[qci]
  by_cases he:k=cl.length
  ·subst he
   rw[List.drop_length,hend]
   rfl
  ·have hkl:k<cl.length:=by omega
   have hx:=List.getElem?_eq_getElem hkl
   rw[List.drop_eq_getElem_cons hkl]
   generalize cl[k]=x at hx
   have hb:=qct qe3 (qb1 hx)
   obtain⟨hmay,_⟩:=qz0 hn (c:=x) (by omega) (hM _ (qb1 hx))
   have hd:=zeq (cl:=cl) (k:=k)
   have ih':=ih (k+1) (by omega) (by omega)
   unfold qkc
   obtain⟨x1,x2,x3,⟨x4,x5,⟨x6,x7,x8,x9,x10,x11⟩,x12,x13⟩,x14,x15,x16,x17,x18,x19,x20,x21,x22⟩:=x
   simp only[qkz,qc6,qby hkl,cond_true,qap hx,qaj,hmay]
   rw[qcy (by omega),hd,ih']
   cases zgk n _ with
   | false=>rfl
   | true=>
    simp only[Bool.not_true,Bool.not_false,qfs,qaj,cond_false]
    cases(x1==9)<;>cases(cl.drop (k+1)).isEmpty<;>rfl
theorem zj5:qqd n ⟨cl⟩=some (q17 n cl):=by
 have hlen:=qb7 qe3 qox cl
 have e:=zhm hn h hM n 0 (by omega) (by unfold qea at h; omega)
 unfold qqd q17
 refine Eq.trans e ?_
 rw[List.drop_zero]
 cases qkc n cl<;>cases zh9 cl<;>rfl
theorem q9r:qls n ⟨cl⟩=some (q17 n cl):=by
 have hlen:=qb7 qe3 qox cl
 have e:=zdg hn h hM n 0 (by omega) (by unfold qea at h; omega)
 rw[List.drop_zero]at e
 unfold qls q17
 unfold qea at h
 simp only[qc6,qoq]
 by_cases h0:cl=[]
 ·subst h0; rfl
 ·obtain⟨l,c,rfl⟩:∃ l c,cl=l++[c]:=⟨cl.dropLast,cl.getLast h0,(List.dropLast_concat_getLast h0).symm⟩
  have e1:IntKind.i64.wrap ((((l++[c]).length:Nat):Int) - 1)=((l.length:Nat):Int):=by
   rw[q24 (by omega) (by omega)]; simp
  have e2:(l++[c])[l.length]? =some c:=by simp
  have e3:zbb (l++[c])=((c.kind==9)||wr c.kind):=by unfold zbb; simp
  rw[e1,qap e2]
  unfold zh9
  rw[e3]
  have e4:decide ((((l++[c]).length:Nat):Int)<1)=false:=decide_eq_false (by simp only[List.length_append,List.length_cons,List.length_nil]; omega)
  have e5:decide (0<(l++[c]).length)=true:=decide_eq_true (by simp)
  have e6:decide ((((l++[c]).length:Nat):Int)>64)=!decide ((l++[c]).length≤64):=by
   rw[Bool.eq_iff_iff]; simp only[decide_eq_true_eq,Bool.not_eq_true',decide_eq_false_iff_not]; omega
  rw[e4,e5,e6,cond_false]
  have e':qas (qe4 n (l++[c])) n 0=some (qkc n (l++[c])):=e
  rw[e']
  generalize qkc n (l++[c])=g
  generalize decide ((l++[c]).length≤64)=d
  clear e1 e2 e3 e4 e5 e6 h hM hlen h0 e e'
  obtain⟨x1,x2,x3,⟨x4,x5,⟨x6,x7,x8,x9,x10,x11⟩,x12,x13⟩,x14,x15,x16,x17,x18,x19,x20,x21,x22⟩:=c
  cases d with
  | false=>rfl
  | true=>
   simp only[Bool.not_true,Bool.not_false,qfs,qaj,Bool.true_and]
   unfold wr
   cases(bif decide (x1≥4)then decide (x1≤8)else false)with
   | true=>cases(x1==9)<;>cases g<;>rfl
   | false=>
    simp only[Bool.not_false,qfs,qaj]
    unfold bne
    cases(x1==9)<;>cases g<;>rfl
theorem q71:q17 n cl=true→∀ c∈cl,WfC c:=by
 unfold qea at h
 intro hm
 unfold q17 at hm
 rw[Bool.and_eq_true]at hm
 have key:∀ l:List qad,(∀ c∈l,c∈cl)→qkc n l=true→∀ c∈l,WfC c:=by
  intro l
  induction l with
  | nil=>intro _ _ c hc; cases hc
  | cons a l ih=>
   intro hs hg c hc
   simp only[qkc,Bool.and_eq_true]at hg
   have hb:=qct qe3 (hs a (by simp))
   rcases List.mem_cons.1 hc with rfl|hc
   ·exact((qz0 hn (c:=c) (by omega) (hM _ (hs c (by simp)))).2.1 hg.1.1).1
   ·exact ih (fun c hc=>hs c (by simp[hc])) hg.2 c hc
 exact key cl (fun c hc=>hc) hm.2
end
end W
end
section
open Go Ax
namespace W
theorem qou {R:Type} {B:(Int×Int→Option R)→Int×Int→Option R} {len:Nat} (K:Int→Option R) (hs:∀ k:Nat,k<len→∀ (acc:Int) (nx:Int×Int→Option R),B nx (acc,(k:Int))=K acc∨∃ acc',B nx (acc,(k:Int))=nx (acc',((k+1:Nat):Int)))
  (he:∀ (acc:Int) (nx:Int×Int→Option R),B nx (acc,(len:Int))=K acc) {n:Nat} (hn:len<n) (acc:Int):∃ acc',qas B n (acc,(0:Int))=K acc':=by
 have key:∀ (m k:Nat) (acc:Int),k≤len→len - k<m→∃ acc',qas B m (acc,(k:Int))=K acc':=by
  intro m
  induction m with
  | zero=>intro k _ _ h; omega
  | succ m ih=>
   intro k acc hk hm
   rw[qci]
   by_cases h:k=len
   ·subst h; exact⟨_,he _ _⟩
   ·rcases hs k (by omega) acc (qas B m)with h|⟨acc',h⟩
    ·exact⟨_,h⟩
    ·rw[h]; exact ih (k+1) acc' (by omega) (by omega)
 exact key n 0 acc (by omega) (by omega)
theorem zf5:∀ n:Nat,n≤1073741824→∀ v:Val,q5f v<n→∃ r,qk0 n v=some r:=by
 intro n
 induction n with
 | zero=>intro _ v h; omega
 | succ n ih=>
  intro hn v hv
  obtain⟨x1,x2,x3,x4,x5,x6⟩:=v
  have hl:=qn6 x5
  simp only[q5f]at hv
  simp only[qk0,qrg]
  obtain⟨a,h⟩:=qou (B:=qjw n x5 (qk0 n)) (len:=x5.length) some
   (fun k hk acc nx=>by
    have hx:=List.getElem?_eq_getElem hk
    generalize x5[k]=y at hx
    obtain⟨r,hr⟩:=ih (by omega) y (by have:=qu4 (qb1 hx); omega)
    obtain⟨y1,y2,y3,y4,y5,y6⟩:=y
    right
    simp only[qjw,qes,qby hk,cond_true,qap hx,qaj,hr]
    rw[qcy (by omega)]
    exact⟨_,rfl⟩)
   (fun acc nx=>by simp only[qjw,qes,qaz,cond_false]) (n:=n) (by omega) 1
  exact⟨_,h⟩
theorem qum:∀ n:Nat,n≤1073741824→∀ x:qab,qi8 x<n→∀ m:Int,∃ r,qfu n x m=some r:=by
 intro n
 induction n with
 | zero=>intro _ v h; omega
 | succ n ih=>
  intro hn x hx m
  obtain⟨x1,x2,⟨x3,x4,x5,x6,x7,x8⟩,x9,x10⟩:=x
  have hl:=qd0 x10
  simp only[qi8]at hx
  obtain⟨p,hp⟩:=zf5 n (by omega) ⟨x3,x4,x5,x6,x7,x8⟩ (by omega)
  simp only[qfu,qrf,hp,qaj]
  obtain⟨a,h⟩:=qou (B:=qjy n x10 m (qfu n)) (len:=x10.length) some
   (fun k hk acc nx=>by
    have hx:=List.getElem?_eq_getElem hk
    generalize x10[k]=y at hx
    simp only[qjy,qao,qby hk,cond_true]
    by_cases hc:acc<m
    ·obtain⟨r,hr⟩:=ih (by omega) y (by have:=qgx (qb1 hx); omega) (IntKind.i64.wrap (m - acc))
     obtain⟨y1,y2,⟨y3,y4,y5,y6,y7,y8⟩,y9,y10⟩:=y
     right
     simp only[decide_eq_true hc,cond_true,qap hx,qaj,hr]
     rw[qcy (by omega)]
     exact⟨_,rfl⟩
    ·left; rw[decide_eq_false hc]; rfl)
   (fun acc nx=>by simp only[qjy,qao,qaz,cond_false]) (n:=n) (by omega) _
  exact⟨_,h⟩
theorem qo3 {n:Nat} (hn:n≤1073741824) {l:List qab} (h:qf0 l<n) (m:Int):∃ r,qfg n l m=some r:=by
 have hl:=qd0 l
 unfold qfg
 exact qou (B:=qgv n l m) (len:=l.length) some
  (fun k hk acc nx=>by
   have hx:=List.getElem?_eq_getElem hk
   generalize l[k]=y at hx
   simp only[qgv,qao,qby hk,cond_true]
   by_cases hc:acc<m
   ·obtain⟨r,hr⟩:=qum n hn y (by have:=qgx (qb1 hx); omega) (IntKind.i64.wrap (m - acc))
    obtain⟨y1,y2,⟨y3,y4,y5,y6,y7,y8⟩,y9,y10⟩:=y
    right
    simp only[decide_eq_true hc,cond_true,qap hx,qaj,hr]
    rw[qcy (by omega)]
    exact⟨_,rfl⟩
   ·left; rw[decide_eq_false hc]; rfl)
  (fun acc nx=>by simp only[qgv,qao,qaz,cond_false]) (n:=n) (by omega) 0
theorem q4b {n:Nat} (hn:n≤1073741824) {cl:List qad} (h:qea cl<n):∃ r,qmy n ⟨cl⟩=some r:=by
 have hlen:=qb7 qe3 qox cl
 unfold qea at h
 unfold qmy
 obtain⟨a,e⟩:=qou (B:=qj0 n cl) (len:=cl.length) (fun acc=>some (decide (acc≥3000)))
  (fun k hk acc nx=>by
   have hx:=List.getElem?_eq_getElem hk
   generalize cl[k]=c at hx
   have hb:qe3 c<n:=by have:=qct qe3 (qb1 hx); omega
   simp only[qj0,qc6,qby hk,cond_true]
   by_cases hc:acc<3000
   ·right
    have hp:=qb7 qly (fun p=>by unfold qly; omega) c.paths
    have hi:=qb7 qsd (fun p=>by unfold qsd; omega) c.items
    have ho:=qb7 qi2 (fun p=>by unfold qi2; omega) c.order
    have hs:=qb7 qir (fun p=>by unfold qir; omega) c.sets
    have mp:∀ p∈c.paths,qly p<n:=fun p hm=>by have:=qct qly hm; unfold qe3 qxv at hb; omega
    have mi:∀ p∈c.items,qi8 p.e<n:=fun p hm=>by have:=qct qsd hm; have e:qsd p=1+p.as_.length+qi8 p.e:=rfl; unfold qe3 at hb; omega
    have mo:∀ p∈c.order,qi8 p.e<n:=fun p hm=>by have:=qct qi2 hm; have e:qi2 p=1+qi8 p.e:=rfl; unfold qe3 at hb; omega
    have ms:∀ p∈c.sets,qi8 p.e<n:=fun p hm=>by have:=qct qir hm; have e:qir p=1+p.var_.length+p.key.length+p.label.length+qi8 p.e:=rfl; unfold qe3 at hb; omega
    obtain⟨r1,h1⟩:=qum n hn c.e (by unfold qe3 at hb; omega) 3000
    obtain⟨r2,h2⟩:=qo3 hn (l:=c.where_) (by unfold qe3 at hb; omega) 3000
    obtain⟨r3,h3⟩:=qo3 hn (l:=c.skip) (by unfold qe3 at hb; omega) 3000
    obtain⟨r4,h4⟩:=qo3 hn (l:=c.limit) (by unfold qe3 at hb; omega) 3000
    unfold qe3 qxv at hb
    obtain⟨x1,x5,x6,⟨x7,x8,⟨x9,x10,x11,x12,x13,x14⟩,x15,x16⟩,x17,x18,x19,x20,x21,x22,x23,x24,x25⟩:=c
    simp only at hp hi ho hs mp mi mo ms h1 h2 h3 h4 hb
    simp only[decide_eq_true hc,cond_true,qap hx,qaj,h1,h2,h3,h4]
    have L7:∀ acc:Int,∃ acc',qas (qgf n x23 nx (k:Int)) n (acc,(0:Int))=nx (acc',((k+1:Nat):Int)):=fun acc=>qou (B:=qgf n x23 nx (k:Int)) (len:=x23.length) (fun acc=>nx (acc,((k+1:Nat):Int)))
     (fun j hj acc nx2=>by
      have hy:=List.getElem?_eq_getElem hj
      generalize x23[j]=y at hy
      simp only[qgf,qag.rows,List.length_map,qby hj,cond_true]
      by_cases hc:acc<3000
      ·obtain⟨r,hr⟩:=qum n hn y.e (ms y (qb1 hy)) 3000
       obtain⟨z1,z2,z3,⟨y1,y2,⟨y3,y4,y5,y6,y7,y8⟩,y9,y10⟩⟩:=y
       simp only at hr
       right
       simp only[decide_eq_true hc,cond_true,qap hy,qaj,hr]
       rw[qcy (k:=j) (by omega)]
       exact⟨_,rfl⟩
      ·left; rw[decide_eq_false hc,cond_false,qcy (by omega)])
     (fun acc nx2=>by
      simp only[qgf,qag.rows,List.length_map,qaz,cond_false]
      rw[qcy (by omega)]) (n:=n) (by omega) acc
    have L6:∀ acc:Int,∃ acc',qas (qgj n x20 x23 nx (k:Int)) n (acc,(0:Int))=nx (acc',((k+1:Nat):Int)):=fun acc=>by
     obtain⟨a,ha⟩:=qou (B:=qgj n x20 x23 nx (k:Int)) (len:=x20.length) (fun acc=>qas (qgf n x23 nx (k:Int)) n (acc,(0:Int)))
      (fun j hj acc nx2=>by
       have hy:=List.getElem?_eq_getElem hj
       generalize x20[j]=y at hy
       simp only[qgj,qav.rows,List.length_map,qby hj,cond_true]
       by_cases hc:acc<3000
       ·obtain⟨r,hr⟩:=qum n hn y.e (mo y (qb1 hy)) 3000
        obtain⟨⟨y1,y2,⟨y3,y4,y5,y6,y7,y8⟩,y9,y10⟩,z1⟩:=y
        simp only at hr
        right
        simp only[decide_eq_true hc,cond_true,qap hy,qaj,hr]
        rw[qcy (k:=j) (by omega)]
        exact⟨_,rfl⟩
       ·left; rw[decide_eq_false hc,cond_false])
      (fun acc nx2=>by simp only[qgj,qav.rows,List.length_map,qaz,cond_false]) (n:=n) (by omega) acc
     rw[ha]; exact L7 a
    have L5:∀ acc:Int,∃ acc',qas (qgk n x18 x20 x23 nx (k:Int)) n (acc,(0:Int))=nx (acc',((k+1:Nat):Int)):=fun acc=>by
     obtain⟨a,ha⟩:=qou (B:=qgk n x18 x20 x23 nx (k:Int)) (len:=x18.length) (fun acc=>qas (qgj n x20 x23 nx (k:Int)) n (acc,(0:Int)))
      (fun j hj acc nx2=>by
       have hy:=List.getElem?_eq_getElem hj
       generalize x18[j]=y at hy
       simp only[qgk,qbz.rows,List.length_map,qby hj,cond_true]
       by_cases hc:acc<3000
       ·obtain⟨r,hr⟩:=qum n hn y.e (mi y (qb1 hy)) 3000
        obtain⟨⟨y1,y2,⟨y3,y4,y5,y6,y7,y8⟩,y9,y10⟩,z1⟩:=y
        simp only at hr
        right
        simp only[decide_eq_true hc,cond_true,qap hy,qaj,hr]
        rw[qcy (k:=j) (by omega)]
        exact⟨_,rfl⟩
       ·left; rw[decide_eq_false hc,cond_false])
      (fun acc nx2=>by simp only[qgk,qbz.rows,List.length_map,qaz,cond_false]) (n:=n) (by omega) acc
     rw[ha]; exact L6 a
    have L2:∀ acc:Int,∃ acc',qas (qhx n x5 x18 x20 x23 nx (k:Int)) n (acc,(0:Int))=nx (acc',((k+1:Nat):Int)):=fun acc=>by
     obtain⟨a,ha⟩:=qou (B:=qhx n x5 x18 x20 x23 nx (k:Int)) (len:=x5.length) (fun acc=>qas (qgk n x18 x20 x23 nx (k:Int)) n (acc,(0:Int)))
      (fun j hj acc nx2=>by
       have hy:=List.getElem?_eq_getElem hj
       generalize x5[j]=p at hy
       have hpb:=mp p (qb1 hy)
       simp only[qhx,qds,qby hj,cond_true]
       by_cases hc:acc<3000
       ·right
        rw[decide_eq_true hc,cond_true]
        obtain⟨nodes,edges⟩:=p
        unfold qly at hpb
        simp only at hpb
        have hn1:=qb7 qkg (fun p=>by unfold qkg; omega) nodes
        have hn2:=qb7 qn8 (fun p=>by unfold qn8; omega) edges
        obtain⟨b,hb3⟩:=qou (B:=qjj n x5 (j:Int) nx2) (len:=nodes.length) (fun acc=>qas (qh1 n x5 (j:Int) nx2) n (acc,(0:Int)))
         (fun i hi acc nx3=>by
          have hz:=List.getElem?_eq_getElem hi
          generalize nodes[i]=d at hz
          have hdb:qkg d<n:=by have:=qct qkg (qb1 hz); omega
          simp only[qjj,qap hy,qaj,qd3,qby hi,cond_true]
          by_cases hc:acc<3000
          ·obtain⟨r,hr⟩:=qo3 hn (l:=d.vals) (by unfold qkg at hdb; omega) 3000
           obtain⟨d1,d2,d3,d4⟩:=d
           simp only at hr
           right
           simp only[decide_eq_true hc,cond_true,qap hz,qaj,hr]
           rw[qcy (k:=i) (by omega)]
           exact⟨_,rfl⟩
          ·left; rw[decide_eq_false hc,cond_false])
         (fun acc nx3=>by simp only[qjj,qap hy,qaj,qd3,qaz,cond_false]) (n:=n) (by omega) acc
        rw[hb3]
        exact qou (B:=qh1 n x5 (j:Int) nx2) (len:=edges.length) (fun acc=>nx2 (acc,((j+1:Nat):Int)))
         (fun i hi acc nx3=>by
          have hz:=List.getElem?_eq_getElem hi
          generalize edges[i]=d at hz
          have hdb:qn8 d<n:=by have:=qct qn8 (qb1 hz); omega
          simp only[qh1,qap hy,qaj,qge,qby hi,cond_true]
          by_cases hc:acc<3000
          ·obtain⟨r,hr⟩:=qo3 hn (l:=d.vals) (by unfold qn8 at hdb; omega) 3000
           obtain⟨d1,d2,d3,d4,d5⟩:=d
           simp only at hr
           right
           simp only[decide_eq_true hc,cond_true,qap hz,qaj,hr]
           rw[qcy (k:=i) (by omega)]
           exact⟨_,rfl⟩
          ·left; rw[decide_eq_false hc,cond_false,qcy (by omega)])
         (fun acc nx3=>by
          simp only[qh1,qap hy,qaj,qge,qaz,cond_false]
          rw[qcy (by omega)]) (n:=n) (by omega) b
       ·left; rw[decide_eq_false hc,cond_false])
      (fun acc nx2=>by simp only[qhx,qds,qaz,cond_false]) (n:=n) (by omega) acc
     rw[ha]; exact L5 a
    exact L2 _
   ·left; rw[decide_eq_false hc]; rfl)
  (fun acc nx=>by simp only[qj0,qc6,qaz,cond_false]) (n:=n) (by omega) 0
 exact⟨_,e⟩
end W
end
section
open Go Ax
namespace W
theorem zhl (m:Nat):qgz (m+400)=some true:=by kernel_rfl
theorem q8e {n:Nat} (h:400≤n):qgz n=some true:=by
 obtain⟨m,rfl⟩:=Nat.exists_eq_add_of_le h
 rw[Nat.add_comm]; exact zhl m
theorem q0g {n:Nat} {x y:List Int} (h:x.length<n) (hn:n≤1073741824):∃ b,qjr n x y=some b∧(b=true↔x=y):=by
 unfold qjr
 by_cases hl:x.length=y.length
 ·have:((((qbj .i64 x).length:Nat):Int) != (((qbj .i64 y).length:Nat):Int))=false:=by simp[hl]
  rw[this,cond_false]
  refine q0l hl (fun k a b nx ha hb=>⟨a==b,beq_iff_eq,?_⟩) (fun nx=>by simp only[qin,qtt,qaz,cond_false]) h
  have hk:=qcn ha
  simp only[qin,qtt,qby hk,cond_true,qap ha,qap hb,qaj]
  rw[qcy (by omega)]
  unfold bne
  cases a==b<;>rfl
 ·have:((((qbj .i64 x).length:Nat):Int) != (((qbj .i64 y).length:Nat):Int))=true:=by rw[qtt,qtt]; exact qrv.2 hl
  rw[this]
  exact⟨false,rfl,by simp; intro e; exact hl (congrArg _ e)⟩
theorem quz {n:Nat} {x:List (List UInt8)} (h:x.length<n) (hn:n≤1073741824):qcx n x x=some true:=by
 obtain⟨b,h1,h2⟩:=qew (y:=x) h hn
 rw[h1,h2.2 rfl]
theorem q5l {n:Nat} {x:List Int} (h:x.length<n) (hn:n≤1073741824):qjr n x x=some true:=by
 obtain⟨b,h1,h2⟩:=q0g (y:=x) h hn
 rw[h1,h2.2 rfl]
theorem zcf:∀ (l:List qad) (t v:Env),EnvOk t→(∀ c∈l,WfC c)→qe0 qmw t l=.inr v→EnvOk v∧v.length≤t.length+2 * (l.map qe3).sum
 | [],t,v,ht,_,e=>by cases e; exact⟨ht,by omega⟩
 | c::l,t,v,ht,hw,e=>by
  simp only[qe0,qmw]at e
  by_cases h0:(qhy t c).1=0
  ·rw[if_neg (by simpa using h0)]at e
   have h1:=q5t ht (hw c (by simp)) h0
   have h2:=zcf l _ v h1.1 (fun c hc=>hw c (by simp[hc])) e
   simp only[List.map_cons,List.sum_cons]
   exact⟨h2.1,by omega⟩
  ·rw[if_pos h0]at e; cases e
theorem zb6 (cl:List qad) (m:Nat):((cl.take m).map qe3).sum≤(cl.map qe3).sum:=by
 have h0:cl.take m++cl.drop m=cl:=List.take_append_drop m cl
 have:((cl.take m++cl.drop m).map qe3).sum=((cl.take m).map qe3).sum+((cl.drop m).map qe3).sum:=by rw[List.map_append,List.sum_append]
 rw[h0]at this
 omega
theorem q9w {may:Bool} {cl:List qad} (hw:may=true→∀ c∈cl,WfC c) (at_:Int):(qnk may cl at_).1.length≤2 * qea cl∧(qnk may cl at_).2.1.length≤2 * qea cl:=by
 unfold qnk qea
 split
 ·simp
 ·rename_i hc
  simp only[not_or,Bool.not_eq_false]at hc
  have ht:=zb6 cl at_.toNat
  cases hf:qe0 qmw [] (cl.take at_.toNat)with
  | inl e=>simp
  | inr v=>
   have:=(zcf _ _ v q5j (fun c hc'=>hw hc.1 c (List.mem_of_mem_take hc')) hf).2
   simp only[List.length_map,List.length_nil]at this ⊢
   omega
section
variable {n:Nat} (hn:n≤1073741824) {cl:List qad} (h:8 * qea cl+400<n) (hM:∀ c∈cl,LenOk c)
include hn h hM
theorem q54 (at_:Int):qi3 n ⟨cl⟩ at_=some (qnk (q17 n cl) cl at_)∧qm0 n ⟨cl⟩ at_=some (qnk (q17 n cl) cl at_):=
 ⟨q01 hn (q9r hn (by omega) hM) (q71 hn (by omega) hM) (by omega) at_,q5i hn (zj5 hn (by omega) hM) (q71 hn (by omega) hM) (by omega) at_⟩
def qtv (may:Bool) (cl:List qad):List (List UInt8)×Int:=
 let r:=qnk may cl cl.length
 if r.2.2=0∧(∃ c,cl.getLast? =some c∧c.kind=9)then(r.1,0)else([],r.2.2)
omit hn h hM in
theorem zcw {may:Bool} (hl:may=true→cl≠[]) (hsz:cl.length≤1073741824):(bnd (some (qnk may cl cl.length)) fun⟨x2,x3,x4⟩=>
  bnd (qa4 (!(x4 != (0:Int))) (idx cl (IntKind.i64.wrap (((cl.length:Nat):Int) - (1:Int))))) fun⟨x5,x6,x7,⟨x8,x9,⟨x10,x11,x12,x13,x14,x15⟩,x16,x17⟩,x18,x19,x20,x21,x22,x23,x24,x25,x26⟩=>
  bif(bif(x4 != (0:Int))then true else(x5 != (9:Int)))then(some (([]:List (List UInt8)),x4))else(some (x2,(0:Int))))=some (qtv may cl):=by
 unfold qtv
 cases hr:qnk may cl cl.length with
 | mk a be=>
  obtain⟨b,e⟩:=be
  simp only[qaj]
  by_cases he:e=0
  ·subst he
   have hc:cl≠[]:=by
    intro h0
    apply hl _ h0
    cases may with
    | true=>rfl
    | false=>
     unfold qnk at hr
     rw[if_pos (.inl rfl)]at hr
     cases hr
   obtain⟨l,c,rfl⟩:∃ l c,cl=l++[c]:=⟨cl.dropLast,cl.getLast hc,(List.dropLast_concat_getLast hc).symm⟩
   have e1:IntKind.i64.wrap ((((l++[c]).length:Nat):Int) - 1)=((l.length:Nat):Int):=by
    rw[q24 (by omega) (by omega)]; simp
   have e2:(l++[c])[l.length]? =some c:=by simp
   have e3:(l++[c]).getLast? =some c:=by simp
   rw[e1,show(!((0:Int) != 0))=true from rfl,qfs,qap e2,qaj,e3]
   clear hr e1 e2 e3 hl hsz hc
   obtain⟨x1,x2,x3,⟨x4,x5,⟨x6,x7,x8,x9,x10,x11⟩,x12,x13⟩,x14,x15,x16,x17,x18,x19,x20,x21,x22⟩:=c
   by_cases h9:x1=9
   ·subst h9
    rw[if_pos ⟨rfl,_,rfl,rfl⟩]
    rfl
   ·rw[if_neg (by rintro⟨_,c,hc,hk⟩; cases hc; exact h9 hk)]
    show(bif(bif((0:Int) != 0)then true else(x1 != 9))then _ else _)=_
    rw[show(x1 != 9)=true from by simpa using h9]
    rfl
  ·rw[if_neg (by rintro⟨h0,_⟩; exact he h0)]
   have:(e != 0)=true:=by simpa using he
   rw[this]
   rfl
theorem qzp:qfh n ⟨cl⟩=some (qtv (q17 n cl) cl)∧qqv n ⟨cl⟩=some (qtv (q17 n cl) cl):=by
 have hlen:=qb7 qe3 qox cl
 have hl:q17 n cl=true→cl≠[]:=fun hm h0=>by have:=(zfy hm).1; rw[h0]at this; simp at this
 have hc:=zcw hl (by unfold qea at h; omega)
 obtain⟨n1,n2⟩:=q54 hn h hM cl.length
 refine⟨?_,?_⟩
 ·unfold qfh
  simp only[qc6,n1]
  exact hc
 ·unfold qqv
  simp only[qc6,n2]
  exact hc
theorem zee:(qtv (q17 n cl) cl).1.length≤2 * qea cl:=by
 unfold qtv
 have:=(q9w (q71 hn (by omega) hM) cl.length).1
 simp only
 split
 ·exact this
 ·simp
theorem zc0:qk1 n ⟨cl⟩=some true:=by
 obtain⟨b,hb⟩:=q4b hn (cl:=cl) (by omega)
 obtain⟨c1,c2⟩:=qzp hn h hM
 have hs:=quz (x:=(qtv (q17 n cl) cl).1) (n:=n) (by have:=zee hn h hM; omega) hn
 unfold qk1
 simp only[hb,qaj,q8e (n:=n) (by omega),c1,c2,hs]
 cases b with
 | true=>rfl
 | false=>simp
theorem ze4 (at_:Int):qmu n ⟨cl⟩ at_=some true:=by
 obtain⟨b,hb⟩:=q4b hn (cl:=cl) (by omega)
 obtain⟨n1,n2⟩:=q54 hn h hM at_
 have hl:=q9w (q71 hn (by omega) hM) at_
 have hs:=quz (x:=(qnk (q17 n cl) cl at_).1) (n:=n) (by omega) hn
 have hi:=q5l (x:=(qnk (q17 n cl) cl at_).2.1) (n:=n) (by omega) hn
 unfold qmu
 simp only[hb,qaj,q8e (n:=n) (by omega),n1,n2,hs,hi]
 cases b with
 | true=>rfl
 | false=>simp[hi]
end
end W
end
section
open Go Ax
namespace W
def nm (s:List UInt8):List UInt8:=if s=[]then[]else s++[95,55]
structure RenOk (f:Env→Env):Prop where
 kind:∀ v s,qce (f v) (nm s)=qce v s
 wth:∀ v s k,qka (f v) (nm s) k=f (qka v s k)
section
variable {f:Env→Env} (hf:RenOk f)
include hf
end
def rr (f:Env→Env) (r:Int×Env):Int×Env:=(r.1,f r.2)
section
variable {f:Env→Env} (hf:RenOk f)
include hf
end
section
variable {f:Env→Env} (hf:RenOk f)
include hf
end
theorem qug {A R T:Type} (F:T→A→R ⊕ T):∀ (a b:List A) (t:T),qe0 F t (a++b)=(match qe0 F t a with|.inl r=>.inl r|.inr u=>qe0 F u b)
 | [],_,_=>rfl
 | x::a,b,t=>by
  simp only[List.cons_append,qe0]
  cases F t x with
  | inl r=>rfl
  | inr u=>exact qug F a b u
end W
end
section
open Go Ax
namespace W
end W
end
section
open Go Ax
namespace W
section
variable {P:List UInt8→Prop}
end
section
variable {n:Nat} (hn:n≤1073741824) {cl:List qad} (h:32 * qea cl+2000<n) (hM:∀ c∈cl,LenOk c)
include hn h hM
omit hn h hM in
theorem q5w (cl:List qad):qnk true cl (cl.length:Int)=(match qe0 qmw [] cl with|.inl e=>([],[],e)|.inr v=>(v.map (·.1),v.map (·.2),0)):=by
 unfold qnk
 rw[if_neg (by simp only[Bool.true_eq_false,false_or,not_or]; omega),Int.toNat_natCast,List.take_length]
 cases qe0 qmw [] cl<;>rfl
def zav:qad:=⟨9,[],[],⟨0,[],⟨0,false,0,[],[],[]⟩,[],[]⟩,[],[⟨⟨1,[],⟨2,false,1,[],[],[]⟩,[],[]⟩,[111,110,101]⟩],false,[],[],[],[],[],false⟩
omit hn h hM in
theorem zjc (m:Nat):qer (m+400) zav=some true:=by kernel_rfl
omit hn h hM in
theorem zhf (v:Env):qmw v zav=.inr [([111,110,101],3)]:=by
 simp[qmw,qhy,zav,qxa,qe0,qeq,qdo,qv1,qis,qit,ql8,qka,qce,qdm,qr8]
omit hn h hM in
theorem q94 {n:Nat}:∀ (l:List qad) (k:Nat),qkc n l=true→k<l.length→zgk n zav=true→qkc n (l.take k++[zav])=true
 | [],k,_,h,_=>by simp at h
 | c::l,0,_,_,ho=>by simp[qkc,ho]
 | c::l,k+1,hg,hk,ho=>by
  simp only[qkc,Bool.and_eq_true]at hg
  have hl:k<l.length:=by simpa using hk
  have hne:l.isEmpty=false:=by cases l with
   | nil=>simp at hl
   | cons a l=>rfl
  rw[hne]at hg
  simp only[List.take_succ_cons,List.cons_append,qkc,Bool.and_eq_true]
  refine⟨⟨hg.1.1,?_⟩,q94 l k hg.2 hl ho⟩
  have:=hg.1.2
  cases h9:(c.kind==9)with
  | true=>rw[h9]at this; cases this
  | false=>rfl
theorem zd1 (at_:Int):qmq n ⟨cl⟩ at_=some true:=by
 have hlen:=qb7 qe3 qox cl
 have hcb:(cl.map qe3).sum=qea cl:=rfl
 obtain⟨b,hb⟩:=q4b hn (cl:=cl) (by omega)
 have c1:=(qzp hn (cl:=cl) (by omega) hM).1
 have homay:zgk n zav=true:=by
  obtain⟨m,rfl⟩:=Nat.exists_eq_add_of_le (show 400≤n by omega)
  unfold zgk
  rw[Nat.add_comm,zjc]
  rfl
 unfold qmq
 simp only[hb,qaj,q8e (n:=n) (by omega),c1,qc6]
 cases b with
 | true=>rfl
 | false=>
  by_cases h0:cl=[]
  ·subst h0; rfl
  ·have hpos:0<cl.length:=List.length_pos_iff.2 h0
   rw[show(((cl.length:Nat):Int)==0)=false from by rw[beq_eq_false_iff_ne]; omega]
   simp only[cond_false]
   by_cases he:(qtv (q17 n cl) cl).2=0
   ·rw[he,show((0:Int) != 0)=false from rfl,cond_false]
    have hu:IntKind.u64.wrap ((cl.length:Nat):Int)=((cl.length:Nat):Int):=by
     unfold IntKind.wrap
     simp[IntKind.signed,IntKind.bits]
     omega
    obtain⟨k,hk,hkl⟩:∃ k:Nat,q02 (IntKind.i64.wrap (Int.tmod (IntKind.u64.wrap at_) ((cl.length:Nat):Int)))=some k∧k<cl.length:=by
     have hx:0≤IntKind.u64.wrap at_:=by
      unfold IntKind.wrap
      simp[IntKind.signed,IntKind.bits]
      omega
     have h1:=Int.tmod_nonneg ((cl.length:Nat):Int) hx
     have h2:=Int.tmod_lt_of_pos (IntKind.u64.wrap at_) (show(0:Int)<((cl.length:Nat):Int) by omega)
     generalize Int.tmod (IntKind.u64.wrap at_) ((cl.length:Nat):Int)=z at h1 h2
     obtain⟨k,rfl⟩:=Int.eq_ofNat_of_zero_le h1
     exact⟨k,by rw[q24 (by omega) (by omega),q13],by omega⟩
    rw[hu,qmb (decide_eq_true (by omega)),hk]
    simp only[qaj]
    have htl:(cl.take k).length=k:=by rw[List.length_take]; omega
    rw[qmb (decide_eq_true (by omega)),qmb (decide_eq_true (by rw[htl]; omega)),qmb (decide_eq_true (by rw[List.length_append,htl]; simp only[List.length_cons,List.length_nil]; omega))]
    have e0:cl.take k++([⟨9,[],[],⟨0,[],⟨0,false,0,[],[],[]⟩,[],[]⟩,[],[⟨⟨1,[],⟨2,false,1,[],[],[]⟩,[],[]⟩,[111,110,101]⟩],false,[],[],[],[],[],false⟩]:List qad)=cl.take k++[zav]:=rfl
    rw[e0]
    have hts:=zb6 cl k
    have hsz:qea (cl.take k++[zav])≤qea cl+100:=by
     have:qe3 zav≤100:=by decide
     unfold qea
     rw[List.map_append,List.sum_append]
     simp only[List.map_cons,List.map_nil,List.sum_cons,List.sum_nil]
     omega
    have hMo:∀ c∈cl.take k++[zav],LenOk c:=by
     intro c hc
     rcases List.mem_append.1 hc with hc|hc
     ·exact hM c (List.mem_of_mem_take hc)
     ·simp only[List.mem_singleton]at hc
      subst hc
      exact⟨by decide,by decide,by decide,by decide,by decide⟩
    have c2:=(qzp hn (cl:=cl.take k++[zav]) (by omega) hMo).1
    have hm:q17 n cl=true∧∃ v,qe0 qmw [] cl=.inr v:=by
     unfold qtv at he
     simp only at he
     cases hmm:q17 n cl with
     | false=>
      rw[hmm,show qnk false cl (cl.length:Int)=([],[],20)from by unfold qnk; rw[if_pos (.inl rfl)]]at he
      simp at he
     | true=>
      refine⟨rfl,?_⟩
      rw[hmm,q5w]at he
      cases hf:qe0 qmw [] cl with
      | inr v=>exact⟨v,rfl⟩
      | inl e=>
       exfalso
       rw[hf]at he
       simp only at he
       have hne:e≠0:=by
        have:∀ (l:List qad) (t:Env),qe0 qmw t l=.inl e→e≠0:=by
         intro l
         induction l with
         | nil=>intro t h; cases h
         | cons c l ih=>
          intro t h
          simp only[qe0,qmw]at h
          by_cases h0:(qhy t c).1=0
          ·rw[if_neg (by simpa using h0)]at h; exact ih _ h
          ·rw[if_pos h0]at h; cases h; exact h0
        exact this cl [] hf
       rw[if_neg (fun h=>hne h.1)]at he
       exact hne he
    obtain⟨hm,v,hv⟩:=hm
    obtain⟨w,hw⟩:∃ w,qe0 qmw [] (cl.take k)=.inr w:=by
     have:=qug qmw (cl.take k) (cl.drop k) []
     rw[List.take_append_drop,hv]at this
     cases hf:qe0 qmw [] (cl.take k)with
     | inl e=>rw[hf]at this; cases this
     | inr w=>exact⟨w,rfl⟩
    have hgood:qkc n cl=true:=by
     unfold q17 at hm
     rw[Bool.and_eq_true]at hm
     exact hm.2
    have hm2:q17 n (cl.take k++[zav])=true:=by
     have h64:=(zfy hm).2
     unfold q17 zh9
     rw[q94 cl k hgood hkl homay]
     have e1:zbb (cl.take k++[zav])=true:=by
      unfold zbb
      rw[List.getLast?_concat]
      rfl
     rw[e1,decide_eq_true (by rw[List.length_append]; simp only[List.length_cons,List.length_nil]; omega),decide_eq_true (by rw[List.length_append,htl]; simp only[List.length_cons,List.length_nil]; omega)]
     rfl
    have hck:qtv true (cl.take k++[zav])=([[111,110,101]],0):=by
     unfold qtv
     simp only
     rw[q5w,qug,hw]
     simp only[qe0,zhf]
     rw[if_pos ⟨trivial,zav,by simp,rfl⟩]
     rfl
    rw[hm2,hck]at c2
    rw[c2]
    rfl
   ·rw[show((qtv (q17 n cl) cl).2 != 0)=true from by simpa using he]
    rfl
end
end W
end
