/- A part of the proof: the plain law. -/
import Derived.Test.YtneaemdbncgcdaaGreatK
set_option linter.unusedVariables false
set_option linter.unusedSimpArgs false
set_option linter.unnecessarySimpa false
set_option linter.deprecated false
set_option linter.unusedSectionVars false
set_option linter.constructorNameAsVariable false
section
open Go Ax
namespace W
theorem q6b {n:Nat} (hn:n≤1073741824) {l:List qab} (h:40+qc6 l<n) (m:Int):qms n l m=some (l.all (qvl n)&&decide (((l.length:Nat):Int)≤m)):=zlj hn h m
theorem za6 {n:Nat} (hn:n≤1073741824) {x:qab} (h:40+qex x<n):qfd n x=some (qvl n x):=by
 obtain⟨b,h1,h2,_⟩:=qxp hn h
 unfold qvl
 rw[h1,h2]; rfl
theorem zl8 {n:Nat} (hn:n≤1073741824) {p:qa9} (h:42+qi3 p<n):qnj n p=some (q2s n p):=by
 obtain⟨b,h1,h2,_⟩:=za4 hn h
 unfold q2s
 rw[h1,h2]; rfl
theorem zoi {n:Nat} (hn:n≤1073741824) {s:qag} (h:42+qg2 s<n) (f:Bool):qph n s f=some (zay n f s):=by
 unfold qg2 at h
 obtain⟨b,h1,h2,_⟩:=q55 hn (s:=s) (by omega) f
 unfold zay
 rw[h1,h2]; rfl
def exS (n:Nat) (l:List qab):Bool:=l.all (qvl n)&&decide (((l.length:Nat):Int)≤1)
def ze1 (n:Nat) (c:qad):Bool:=c.items.all (fun i=>qdy i.as_&&qvl n i.e)&&(c.order.all (fun s=>qvl n s.e)&&(decide (((c.items.length:Nat):Int)>0)&&(exS n c.skip&&exS n c.limit)))
theorem zmi {n:Nat} (hn:n≤1073741824) {c:qad} (h:42+qdp c<n):quk n c=some (ze1 n c):=by
 have hi:=qbx qqj (fun p=>by unfold qqj; omega) c.items
 have ho:=qbx qg1 (fun p=>by unfold qg1; omega) c.order
 have mi:∀ p∈c.items,42+qqj p<n:=fun p hm=>by have:=qbz qqj hm; unfold qdp at h; omega
 have mo:∀ p∈c.order,42+qg1 p<n:=fun p hm=>by have:=qbz qg1 hm; unfold qdp at h; omega
 have e1:=q6b hn (l:=c.skip) (by unfold qdp at h; omega) 1
 have e2:=q6b hn (l:=c.limit) (by unfold qdp at h; omega) 1
 have a1:c.items.length<n:=by unfold qdp at h; omega
 have a2:c.order.length<n:=by unfold qdp at h; omega
 clear h
 unfold ze1 exS
 obtain⟨x1,x2,x3,⟨x4,x5,⟨x6,x7,x8,x9,x10,x11⟩,x12,x13⟩,x14,x15,x16,x17,x18,x19,x20,x21,x22⟩:=c
 simp only at hi ho mi mo e1 e2 a1 a2 ⊢
 have l2:=qds (B:=qnm n x17 x15 x18 x19) (fun k=>((k:Nat):Int)) (l:=x17) (fun s=>if qvl n s.e then none else some false)
  (rest:=some (decide (((x15.length:Nat):Int)>0)&&((x18.all (qvl n)&&decide (((x18.length:Nat):Int)≤1))&&(x19.all (qvl n)&&decide (((x19.length:Nat):Int)≤1)))))
  (fun k x nx hx=>by
   have hk:=qcm hx
   have h1:=za6 hn (x:=x.e) (by have:=mo x (qbn hx); unfold qg1 at this; omega)
   obtain⟨⟨y1,y2,⟨y3,y4,y5,y6,y7,y8⟩,y9,y10⟩,y11⟩:=x
   simp only at h1
   simp only[qnm,qar.rows,List.length_map,qbf hk,cond_true,qal hx,qac,h1]
   rw[qb8 (by omega)]
   cases qvl n _<;>rfl)
  (fun nx=>by
   simp only[qnm,qar.rows,qbh.rows,List.length_map,qaz,cond_false,e1,e2]
   generalize decide (((x15.length:Nat):Int)>0)=d
   generalize (x18.all (qvl n)&&decide (((x18.length:Nat):Int)≤1))=p
   generalize (x19.all (qvl n)&&decide (((x19.length:Nat):Int)≤1))=q
   cases d<;>cases p<;>cases q<;>rfl) (n:=n) a2
 rw[qtv]at l2
 have l1:=qds (B:=qnl n x15 x17 x18 x19) (fun k=>((k:Nat):Int)) (l:=x15) (fun i=>if(qdy i.as_&&qvl n i.e)then none else some false) (rest:=_)
  (fun k x nx hx=>by
   have hk:=qcm hx
   have hb:=mi x (qbn hx)
   unfold qqj at hb
   have h1:=za6 hn (x:=x.e) (by omega)
   have h2:=qi6 (s:=x.as_) (n:=n) (by omega) (by omega) hn
   obtain⟨⟨y1,y2,⟨y3,y4,y5,y6,y7,y8⟩,y9,y10⟩,y11⟩:=x
   simp only at h1 h2
   simp only[qnl,qbh.rows,List.length_map,qbf hk,cond_true,qal hx,qac,h1,h2]
   rw[qb8 (by omega)]
   cases qdy y11 with
   | false=>rfl
   | true=>
    simp only[Bool.not_true,Bool.not_false,qdw,qac,h1,cond_false]
    cases qvl n _<;>rfl)
  (fun nx=>by
   simp only[qnl,qbh.rows,List.length_map,qaz,cond_false]
   exact l2) (n:=n) a1
 rw[qtv]at l1
 unfold quk
 refine Eq.trans l1 ?_
 generalize x15.all _=a
 generalize x17.all _=b
 cases a<;>cases b<;>rfl
def q1e (n:Nat) (c:qad):Bool:=
 if c.kind=1 then decide (((c.paths.length:Nat):Int)>0)&&exS n c.where_
 else if c.kind=2 then qvl n c.e&&qdy c.var_
 else if c.kind=3∨c.kind=9 then ze1 n c&&exS n c.where_
 else if c.kind=4 then decide (((c.paths.length:Nat):Int)>0)
 else if c.kind=5 then(match c.paths with|[p]=>(((p.edges.length:Nat):Int)==0)|_=>false)
 else if c.kind=6∨c.kind=7 then c.sets.all (zay n (c.kind==6))&&decide (((c.sets.length:Nat):Int)>0)
 else if c.kind=8 then c.vars.all qdy&&decide (((c.vars.length:Nat):Int)>0)
 else false
theorem zcu {n:Nat} (hn:n≤1073741824) {c:qad} (h:42+qdp c<n):∃ s,(s=true↔q8z c=c)∧qet n c=some (s&&(c.paths.all (q2s n)&&q1e n c)):=by
 have hp:=qbx qi3 (fun p=>by unfold qi3; omega) c.paths
 have hs:=qbx qg2 (fun p=>by unfold qg2; omega) c.sets
 have hi:=qbx qqj (fun p=>by unfold qqj; omega) c.items
 have ho:=qbx qg1 (fun p=>by unfold qg1; omega) c.order
 have hv:=qep c.vars
 have mp:∀ p∈c.paths,42+qi3 p<n:=fun p hm=>by have:=qbz qi3 hm; unfold qdp qud at h; omega
 have mi:∀ p∈c.items,qex p.e<n:=fun p hm=>by have:=qbz qqj hm; have e:qqj p=1+p.as_.length+qex p.e:=rfl; unfold qdp at h; omega
 have mo:∀ p∈c.order,qex p.e<n:=fun p hm=>by have:=qbz qg1 hm; have e:qg1 p=1+qex p.e:=rfl; unfold qdp at h; omega
 have ms:∀ p∈c.sets,42+qg2 p<n:=fun p hm=>by have:=qbz qg2 hm; unfold qdp at h; omega
 have ms':∀ p∈c.sets,qex p.e<n:=fun p hm=>by have:=ms p hm; unfold qg2 at this; omega
 have mv:∀ p∈c.vars,42+p.length<n:=fun p hm=>by have:=qbz (fun k:List UInt8=>1+k.length) hm; unfold qdp qo6 at h; omega
 have hrow:=zmi hn h
 have e1:=q6b hn (l:=c.where_) (by unfold qdp at h; omega) 1
 have e2:=za6 hn (x:=c.e) (by unfold qdp at h; omega)
 have e3:=qi6 (s:=c.var_) (n:=n) (by unfold qdp at h; omega) (by omega) hn
 have h40:40<n:=by omega
 unfold qdp qud at h
 have b1:([]:List qab).length=0:=rfl
 have eb:qex q8j=4:=rfl
 obtain⟨s,hs1,hs2⟩:∃ b,qgr n (q8z c) c=some b∧(b=true↔q8z c=c):=by
  have z1:∀ {A:Type} {P:A→Prop},∀ a∈([]:List A),P a:=fun a ha=>by cases ha
  have z2:qc6 []<n:=by show 1<n; omega
  unfold q8z
  repeat' split
  all_goals
   refine za7 hn ?_ ?_ ?_ ?_ ?_ ?_ ?_ ?_ ?_ ?_ ?_ ?_ ?_<;>simp only[qps]<;>first|exact z1|exact z2|exact mi|exact mo|exact ms'|(intro p hm; have:=mp p hm; omega)|(simp only[List.length_nil,eb]; omega)|omega
 refine⟨s,hs2,?_⟩
 have ho:=zps n c
 rw[zoe]at ho
 have l1:qet n c=(bif !s then some false else bif c.paths.all (q2s n)then some (q1e n c)else some false):=by
  clear hs2
  obtain⟨x1,x2,x3,⟨x4,x5,⟨x6,x7,x8,x9,x10,x11⟩,x12,x13⟩,x14,x15,x16,x17,x18,x19,x20,x21,x22⟩:=c
  simp only at hp hs hi ho hv mp ms mv e1 e2 e3 h
  have eta:∀ (d:qad) {R:Type} (f:qad→Option R),(match d with|⟨x23,x24,x25,⟨x26,x27,⟨x28,x29,x30,x31,x32,x33⟩,x34,x35⟩,x36,x37,x38,x39,x40,x41,x42,x43,x44⟩=>f ⟨x23,x24,x25,⟨x26,x27,⟨x28,x29,x30,x31,x32,x33⟩,x34,x35⟩,x36,x37,x38,x39,x40,x41,x42,x43,x44⟩)=f d:=by
   intro d R f
   obtain⟨x1,x2,x3,⟨x4,x5,⟨x6,x7,x8,x9,x10,x11⟩,x12,x13⟩,x14,x15,x16,x17,x18,x19,x20,x21,x22⟩:=d
   rfl
  unfold qet
  simp only[ho,qac]
  refine Eq.trans (eta _ (fun d=>bnd (qgr n d _) fun x45=>bif(!x45)then some false else qap (qfe n x2 x1 x3 x4 x5 x6 x7 x8 x9 x10 x11 x12 x13 x14 x15 x16 x17 x18 x19 x20 x21 x22) n (0:Int))) ?_
  simp only[hs1,qac]
  congr 1
  have L:=qds (B:=qfe n x2 x1 x3 x4 x5 x6 x7 x8 x9 x10 x11 x12 x13 x14 x15 x16 x17 x18 x19 x20 x21 x22) (fun k=>((k:Nat):Int)) (l:=x2) (fun p=>if q2s n p then none else some false)
   (rest:=some (q1e n ⟨x1,x2,x3,⟨x4,x5,⟨x6,x7,x8,x9,x10,x11⟩,x12,x13⟩,x14,x15,x16,x17,x18,x19,x20,x21,x22⟩))
   (fun k x nx hx=>by
    have hk:=qcm hx
    have h1:=zl8 hn (mp x (qbn hx))
    obtain⟨y1,y2⟩:=x
    simp only[qfe,qdb,qbf hk,cond_true,qal hx,qac,h1]
    rw[qb8 (by omega)]
    cases q2s n _<;>rfl)
   (fun nx=>by
    have A:∀ (d p:Bool),(bnd (qa5 d (some p)) fun x50=>some (bif d then x50 else false))=some (d&&p):=by intro d p; cases d<;>cases p<;>rfl
    have l3:=qds (B:=qff n x20 x1) (fun k=>((k:Nat):Int)) (l:=x20) (fun s=>if zay n (x1==6) s then none else some false) (rest:=some (decide (((x20.length:Nat):Int)>0)))
     (fun k x nx hx=>by
      have hk:=qcm hx
      have h1:=zoi hn (ms x (qbn hx)) (x1==6)
      obtain⟨z1,z2,z3,⟨y1,y2,⟨y3,y4,y5,y6,y7,y8⟩,y9,y10⟩⟩:=x
      simp only[qff,qag.rows,List.length_map,qbf hk,cond_true,qal hx,qac,h1]
      rw[qb8 (by omega)]
      cases zay n _ _<;>rfl)
     (fun nx=>by simp only[qff,qag.rows,List.length_map,qaz,cond_false]) (n:=n) (by omega)
    rw[qtv]at l3
    have l3':qap (qff n x20 x1) n (0:Int)=some (x20.all (zay n (x1==6))&&decide (((x20.length:Nat):Int)>0)):=by
     refine Eq.trans l3 ?_
     cases x20.all (zay n (x1==6))<;>rfl
    have l4:=qds (B:=qfg n x21) (fun k=>((k:Nat):Int)) (l:=x21) (fun s=>if qdy s then none else some false) (rest:=some (decide (((x21.length:Nat):Int)>0)))
     (fun k x nx hx=>by
      have hk:=qcm hx
      have h1:=qi6 (s:=x) (n:=n) (by have:=mv x (qbn hx); omega) (by omega) hn
      simp only[qfg,qay,qbf hk,cond_true,qal hx,qac,h1]
      rw[qb8 (by omega)]
      cases qdy x<;>rfl)
     (fun nx=>by simp only[qfg,qay,qaz,cond_false]) (n:=n) (by omega)
    rw[qtv]at l4
    have l4':qap (qfg n x21) n (0:Int)=some (x21.all qdy&&decide (((x21.length:Nat):Int)>0)):=by
     refine Eq.trans l4 ?_
     cases x21.all qdy<;>rfl
    simp only[qfe,qij,qik,qdb,qaz,cond_false,e1,e2,e3,hrow,qac,l3',l4']
    unfold q1e exS
    simp only
    by_cases k1:x1=1
    ·subst k1; exact A _ _
    by_cases k2:x1=2
    ·subst k2; exact A _ _
    by_cases k3:x1=3
    ·subst k3; exact A _ _
    by_cases k9:x1=9
    ·subst k9; exact A _ _
    by_cases k4:x1=4
    ·subst k4; rfl
    by_cases k5:x1=5
    ·subst k5
     match x2 with
     | []=>rfl
     | [p]=>obtain⟨p1,p2⟩:=p; show some ((((qai.rows p2).length:Nat):Int)==0)=some (((p2.length:Nat):Int)==0); rw[qfa]
     | p::q::l=>
      have e1:((((p::q::l).length:Nat):Int)==(1:Int))=false:=by simp only[List.length_cons]; rw[beq_eq_false_iff_ne]; omega
      rw[e1]; rfl
    by_cases k6:x1=6
    ·subst k6; rfl
    by_cases k7:x1=7
    ·subst k7; rfl
    by_cases k8:x1=8
    ·subst k8; rfl
    simp only[beq_eq_false_iff_ne.2 k1,beq_eq_false_iff_ne.2 k2,beq_eq_false_iff_ne.2 k3,beq_eq_false_iff_ne.2 k9,beq_eq_false_iff_ne.2 k4,beq_eq_false_iff_ne.2 k5,beq_eq_false_iff_ne.2 k6,beq_eq_false_iff_ne.2 k7,beq_eq_false_iff_ne.2 k8,cond_false,k1,k2,k3,k9,k4,k5,k6,k7,k8,if_false,or_self]) (n:=n) (by omega)
  rw[qtv]at L
  exact L
 rw[l1]
 cases s<;>cases c.paths.all (q2s n)<;>rfl
end W
end
section
open Go Ax
namespace W
theorem qvg {n:Nat} {A:Type} (f:A→qbl) {l:List A} (h:l.length≤1048576):gOk n (l.map f,1,1048576)=(decide (((l.length:Nat):Int)>0)&&l.all (fun x=>zex n (f x))):=by
 unfold gOk
 simp only[List.length_map,List.all_map]
 rw[decide_eq_false (p:=((l.length:Nat):Int)>1048576) (by omega)]
 have:decide (((l.length:Nat):Int)<1)=!decide (((l.length:Nat):Int)>0):=by
  rw[Bool.eq_iff_iff]; simp only[decide_eq_true_eq,Bool.not_eq_true',decide_eq_false_iff_not]; omega
 rw[this]
 cases decide (((l.length:Nat):Int)>0)<;>rfl
theorem zis {n:Nat} {A:Type} (f:A→qbl) {l:List A} (h:l.length≤1048576):gOk n (l.map f,0,1048576)=l.all (fun x=>zex n (f x)):=by
 unfold gOk
 simp only[List.length_map,List.all_map]
 rw[decide_eq_false (p:=((l.length:Nat):Int)>1048576) (by omega),decide_eq_false (p:=((l.length:Nat):Int)<0) (by omega)]
 rfl
theorem q2i {n:Nat} {A:Type} (f:A→qbl) {l:List A}:gOk n (l.map f,0,1)=(l.all (fun x=>zex n (f x))&&decide (((l.length:Nat):Int)≤1)):=by
 unfold gOk
 simp only[List.length_map,List.all_map]
 rw[decide_eq_false (p:=((l.length:Nat):Int)<0) (by omega)]
 have:decide (((l.length:Nat):Int)>1)=!decide (((l.length:Nat):Int)≤1):=by
  rw[Bool.eq_iff_iff]; simp only[decide_eq_true_eq,Bool.not_eq_true',decide_eq_false_iff_not]; omega
 rw[this]
 show(!(!decide (((l.length:Nat):Int)≤1))&&_)=_
 rw[Bool.not_not,Bool.and_comm]
 rfl
theorem q2j {n:Nat} (p:qbl):gOk n ([p],1,1)=zex n p:=by
 show(true&&(zex n p&&true))=_
 simp
theorem qhb {A:Type} (x:A) (l:List A):((((x::l).length:Nat):Int)==0)=false:=by
 rw[beq_eq_false_iff_ne]; simp only[List.length_cons]; omega
theorem zkg {n:Nat} {x:qab} (h:(qi1 x).1=0):qvl n x=false:=by
 obtain⟨op,name,val,names,args⟩:=x
 have:op=0:=h
 subst this
 have:=zf4 (n:=n) (name:=name) (val:=val) (names:=names) (args:=args) (d:=32)
 unfold qvl
 cases hr:qcv n ⟨0,name,val,names,args⟩ 32 with
 | none=>rfl
 | some b=>
  cases b with
  | false=>rfl
  | true=>exact absurd hr this
structure LenOk (c:qad):Prop where
 paths:c.paths.length≤1048576
 items:c.items.length≤1048576
 order:c.order.length≤1048576
 sets:c.sets.length≤1048576
 vars:c.vars.length≤1048576
theorem qxo {c:qad} (hM:qdp c≤1048576):LenOk c:=by
 have hp:=qbx qi3 (fun p=>by unfold qi3; omega) c.paths
 have hi:=qbx qqj (fun p=>by unfold qqj; omega) c.items
 have ho:=qbx qg1 (fun p=>by unfold qg1; omega) c.order
 have hs:=qbx qg2 (fun p=>by unfold qg2; omega) c.sets
 have hv:=qep c.vars
 unfold qdp qud at hM
 exact⟨by omega,by omega,by omega,by omega,by omega⟩
theorem zkp {n:Nat} {c:qad} (hM:LenOk c) (hk:q8z c=c) (hb:¬ q4s c) {ok:Bool} (hok:ok=true∨(c.kind=2∧(qi1 c.e).1=0)) :
  (ok&&!((((qvs c).length:Nat):Int)==0)&&(qvs c).all (gOk n))=(c.paths.all (q2s n)&&q1e n c):=by
 obtain⟨hp,hi,ho,hs,hv⟩:=hM
 obtain⟨x1,x2,x3,x4,x14,x15,x16,x17,x18,x19,x20,x21,x22⟩:=c
 simp only at hp hi ho hs hv hok
 by_cases k1:x1=1
 ·subst k1
  have hok:ok=true:=by rcases hok with h|h; exact h; exact absurd h.1 (by decide)
  subst hok
  have e:(qvs ⟨1,x2,x3,x4,x14,x15,x16,x17,x18,x19,x20,x21,x22⟩)=[(x2.map .path,1,1048576),(x3.map .expr,0,1)]:=rfl
  rw[e,qhb,List.all_cons,List.all_cons,List.all_nil,qvg .path (by omega),q2i]
  show(true&&(_&&x2.all (q2s n)&&(x3.all (qvl n)&&decide (((x3.length:Nat):Int)≤1)&&true)))=(x2.all (q2s n)&&(_&&(x3.all (qvl n)&&_)))
  generalize x2.all (q2s n)=a
  generalize x3.all (qvl n)=b
  generalize decide (((x2.length:Nat):Int)>0)=d
  generalize decide (((x3.length:Nat):Int)≤1)=f
  cases a<;>cases b<;>cases d<;>cases f<;>rfl
 by_cases k2:x1=2
 ·subst k2
  have hpn:x2=[]:=(congrArg qad.paths hk).symm
  subst hpn
  have e:(qvs ⟨2,[],x3,x4,x14,x15,x16,x17,x18,x19,x20,x21,x22⟩)=[([.expr x4],1,1),([.name x14],1,1)]:=rfl
  rw[e,qhb,List.all_cons,List.all_cons,List.all_nil,q2j,q2j]
  show(ok&&true&&(qvl n x4&&(qdy x14&&true)))=(true&&(qvl n x4&&qdy x14))
  rcases hok with h|h
  ·subst h
   cases qvl n x4<;>cases qdy x14<;>rfl
  ·rw[zkg h.2]
   cases ok<;>rfl
 by_cases k3:x1=3
 ·subst k3
  have hok:ok=true:=by rcases hok with h|h; exact h; exact absurd h.1 (by decide)
  subst hok
  have hpn:x2=[]:=(congrArg qad.paths hk).symm
  subst hpn
  have e:(qvs ⟨3,[],x3,x4,x14,x15,x16,x17,x18,x19,x20,x21,x22⟩)=[(x15.map .item,1,1048576),(x17.map .sorted,0,1048576),(x18.map .expr,0,1),(x19.map .expr,0,1),(x3.map .expr,0,1)]:=rfl
  rw[e,qhb,List.all_cons,List.all_cons,List.all_cons,List.all_cons,List.all_cons,List.all_nil,qvg .item (by omega),zis .sorted (by omega),q2i,q2i,q2i]
  show(true&&true&&((_&&x15.all (fun i=>qdy i.as_&&qvl n i.e))&&(x17.all (fun s=>qvl n s.e)&&(exS n x18&&(exS n x19&&(exS n x3&&true))))))=(true&&((x15.all (fun i=>qdy i.as_&&qvl n i.e)&&(x17.all (fun s=>qvl n s.e)&&(_&&(exS n x18&&exS n x19))))&&exS n x3))
  generalize x15.all _=a
  generalize x17.all _=b
  generalize decide (((x15.length:Nat):Int)>0)=d
  generalize exS n x18=f
  generalize exS n x19=g
  generalize exS n x3=h
  cases a<;>cases b<;>cases d<;>cases f<;>cases g<;>cases h<;>rfl
 by_cases k9:x1=9
 ·subst k9
  have hok:ok=true:=by rcases hok with h|h; exact h; exact absurd h.1 (by decide)
  subst hok
  have hpn:x2=[]:=(congrArg qad.paths hk).symm
  subst hpn
  have hwn:x3=[]:=(congrArg qad.where_ hk).symm
  subst hwn
  have e:(qvs ⟨9,[],[],x4,x14,x15,x16,x17,x18,x19,x20,x21,x22⟩)=[(x15.map .item,1,1048576),(x17.map .sorted,0,1048576),(x18.map .expr,0,1),(x19.map .expr,0,1)]:=rfl
  rw[e,qhb,List.all_cons,List.all_cons,List.all_cons,List.all_cons,List.all_nil,qvg .item (by omega),zis .sorted (by omega),q2i,q2i]
  show(true&&true&&((_&&x15.all (fun i=>qdy i.as_&&qvl n i.e))&&(x17.all (fun s=>qvl n s.e)&&(exS n x18&&(exS n x19&&true)))))=(true&&((x15.all (fun i=>qdy i.as_&&qvl n i.e)&&(x17.all (fun s=>qvl n s.e)&&(_&&(exS n x18&&exS n x19))))&&true))
  generalize x15.all _=a
  generalize x17.all _=b
  generalize decide (((x15.length:Nat):Int)>0)=d
  generalize exS n x18=f
  generalize exS n x19=g
  cases a<;>cases b<;>cases d<;>cases f<;>cases g<;>rfl
 by_cases k4:x1=4
 ·subst k4
  have hok:ok=true:=by rcases hok with h|h; exact h; exact absurd h.1 (by decide)
  subst hok
  have e:(qvs ⟨4,x2,x3,x4,x14,x15,x16,x17,x18,x19,x20,x21,x22⟩)=[(x2.map .path,1,1048576)]:=rfl
  rw[e,qhb,List.all_cons,List.all_nil,qvg .path (by omega)]
  show(true&&true&&((_&&x2.all (q2s n))&&true))=(x2.all (q2s n)&&decide (((x2.length:Nat):Int)>0))
  generalize x2.all (q2s n)=a
  generalize decide (((x2.length:Nat):Int)>0)=d
  cases a<;>cases d<;>rfl
 by_cases k5:x1=5
 ·subst k5
  have hok:ok=true:=by rcases hok with h|h; exact h; exact absurd h.1 (by decide)
  subst hok
  have e:(qvs ⟨5,x2,x3,x4,x14,x15,x16,x17,x18,x19,x20,x21,x22⟩)=[(x2.map .path,1,1)]:=rfl
  rw[e,qhb,List.all_cons,List.all_nil]
  match x2 with
  | []=>rfl
  | [⟨nodes,[]⟩]=>
   rw[show List.map qbl.path [⟨nodes,[]⟩]=[.path ⟨nodes,[]⟩]from rfl,q2j]
   show(true&&true&&(q2s n ⟨nodes,[]⟩&&true))=((q2s n ⟨nodes,[]⟩&&true)&&true)
   cases q2s n ⟨nodes,[]⟩<;>rfl
  | [⟨nodes,e::es⟩]=>exact absurd ⟨rfl,_,rfl,by simp⟩ hb
  | p::q::l=>
   have:gOk n (List.map qbl.path (p::q::l),1,1)=false:=by
    unfold gOk
    simp only[List.length_map,List.length_cons]
    rw[decide_eq_true (p:=((l.length+1+1:Nat):Int)>1) (by omega),Bool.cond_eq_ite]
    simp
   rw[this]
   show _=((p::q::l).all (q2s n)&&false)
   cases(p::q::l).all (q2s n)<;>rfl
 by_cases k6:x1=6
 ·subst k6
  have hok:ok=true:=by rcases hok with h|h; exact h; exact absurd h.1 (by decide)
  subst hok
  have hpn:x2=[]:=(congrArg qad.paths hk).symm
  subst hpn
  have e:(qvs ⟨6,[],x3,x4,x14,x15,x16,x17,x18,x19,x20,x21,x22⟩)=[(x20.map (fun s=>.change ⟨s,true⟩),1,1048576)]:=rfl
  rw[e,qhb,List.all_cons,List.all_nil,qvg _ (by omega)]
  show(true&&true&&((_&&x20.all (zay n true))&&true))=(true&&(x20.all (zay n true)&&_))
  generalize x20.all (zay n true)=a
  generalize decide (((x20.length:Nat):Int)>0)=d
  cases a<;>cases d<;>rfl
 by_cases k7:x1=7
 ·subst k7
  have hok:ok=true:=by rcases hok with h|h; exact h; exact absurd h.1 (by decide)
  subst hok
  have hpn:x2=[]:=(congrArg qad.paths hk).symm
  subst hpn
  have e:(qvs ⟨7,[],x3,x4,x14,x15,x16,x17,x18,x19,x20,x21,x22⟩)=[(x20.map (fun s=>.change ⟨s,false⟩),1,1048576)]:=rfl
  rw[e,qhb,List.all_cons,List.all_nil,qvg _ (by omega)]
  show(true&&true&&((_&&x20.all (zay n false))&&true))=(true&&(x20.all (zay n false)&&_))
  generalize x20.all (zay n false)=a
  generalize decide (((x20.length:Nat):Int)>0)=d
  cases a<;>cases d<;>rfl
 by_cases k8:x1=8
 ·subst k8
  have hok:ok=true:=by rcases hok with h|h; exact h; exact absurd h.1 (by decide)
  subst hok
  have hpn:x2=[]:=(congrArg qad.paths hk).symm
  subst hpn
  have e:(qvs ⟨8,[],x3,x4,x14,x15,x16,x17,x18,x19,x20,x21,x22⟩)=[(x21.map .name,1,1048576)]:=rfl
  rw[e,qhb,List.all_cons,List.all_nil,qvg .name (by omega)]
  show(true&&true&&((_&&x21.all qdy)&&true))=(true&&(x21.all qdy&&_))
  generalize x21.all qdy=a
  generalize decide (((x21.length:Nat):Int)>0)=d
  cases a<;>cases d<;>rfl
 have e:(qvs ⟨x1,x2,x3,x4,x14,x15,x16,x17,x18,x19,x20,x21,x22⟩)=[]:=by
  unfold qvs
  simp only[k1,k2,k3,k9,k4,k5,k6,k7,k8,if_false,or_self]
 have e2:q1e n ⟨x1,x2,x3,x4,x14,x15,x16,x17,x18,x19,x20,x21,x22⟩=false:=by
  unfold q1e
  simp only[k1,k2,k3,k9,k4,k5,k6,k7,k8,if_false,or_self]
 rw[e,e2]
 cases ok<;>cases x2.all (q2s n)<;>rfl
end W
end
section
open Go Ax
namespace W
theorem zqd {n:Nat} (hn:n≤1073741824) {c:qad} (h:42+qdp c<n) (hk:q8z c=c) (hp:c.paths.all (q2s n)=true) (hm:q1e n c=true):WfC c:=by
 have mp:∀ p∈c.paths,42+qi3 p<n:=fun p hm=>by have:=qbz qi3 hm; unfold qdp qud at h; omega
 have mi:∀ p∈c.items,40+qex p.e<n:=fun p hm=>by have:=qbz qqj hm; have e:qqj p=1+p.as_.length+qex p.e:=rfl; unfold qdp at h; omega
 have mo:∀ p∈c.order,40+qex p.e<n:=fun p hm=>by have:=qbz qg1 hm; have e:qg1 p=1+qex p.e:=rfl; unfold qdp at h; omega
 have ms:∀ p∈c.sets,41+qg2 p<n:=fun p hm=>by have:=qbz qg2 hm; unfold qdp at h; omega
 have mw:∀ p∈c.where_,40+qex p<n:=fun p hm=>by have:=qg8 hm; unfold qdp at h; omega
 have mk:∀ p∈c.skip,40+qex p<n:=fun p hm=>by have:=qg8 hm; unfold qdp at h; omega
 have ml:∀ p∈c.limit,40+qex p<n:=fun p hm=>by have:=qg8 hm; unfold qdp at h; omega
 have me:40+qex c.e<n:=by unfold qdp at h; omega
 have wE:∀ {x:qab},40+qex x<n→qvl n x=true→WfE x:=by
  intro x hx hb
  obtain⟨b,h1,_,h3⟩:=qxp hn hx
  unfold qvl at hb
  rw[h1]at hb
  exact h3 hb
 have wL:∀ {l:List qab},(∀ p∈l,40+qex p<n)→exS n l=true→∀ x∈l,WfE x:=by
  intro l hl hb x hx
  unfold exS at hb
  rw[Bool.and_eq_true,List.all_eq_true]at hb
  exact wE (hl x hx) (hb.1 x hx)
 have wP:∀ p∈c.paths,WfP p:=by
  intro p hm
  obtain⟨b,h1,_,h3⟩:=za4 hn (mp p hm)
  have:=List.all_eq_true.1 hp p hm
  unfold q2s at this
  rw[h1]at this
  exact h3 this
 have wS:∀ {f:Bool} {ck:Int},(f=true↔ck=6)→c.sets.all (zay n f)=true→∀ s∈c.sets,WfSet ck s:=by
  intro f ck hf hb s hs
  have h0:=ms s hs
  unfold qg2 at h0
  obtain⟨b,h1,_,h3⟩:=q55 hn (s:=s) (by omega) f
  have:=List.all_eq_true.1 hb s hs
  unfold zay at this
  rw[h1]at this
  obtain⟨a1,a2⟩:=h3 this
  rw[hf]at a1 a2
  exact⟨a1,a2⟩
 have wR:ze1 n c=true→(∀ x∈c.where_,WfE x)→WfRows c:=by
  intro hb hw
  unfold ze1 at hb
  simp only[Bool.and_eq_true]at hb
  obtain⟨h1,h2,h3,h4,h5⟩:=hb
  refine⟨fun i hi=>?_,fun s hs=>?_,wL mk h4,wL ml h5,hw⟩
  ·have:=List.all_eq_true.1 h1 i hi
   rw[Bool.and_eq_true]at this
   refine⟨wE (mi i hi) this.2,fun e=>?_⟩
   rw[e]at this
   exact absurd this.1 (by decide)
  ·exact wE (mo s hs) (List.all_eq_true.1 h2 s hs)
 clear h mp
 obtain⟨x1,x2,x3,x4,x14,x15,x16,x17,x18,x19,x20,x21,x22⟩:=c
 simp only at mi mo ms mw mk ml me wP wS wR hp
 have nil:∀ {A:Type} {P:A→Prop},∀ a∈([]:List A),P a:=fun a ha=>by cases ha
 by_cases k1:x1=1
 ·subst k1
  have hm':(decide (((x2.length:Nat):Int)>0)&&exS n x3)=true:=hm
  rw[Bool.and_eq_true]at hm'
  exact⟨wP,wL mw hm'.2,fun h=>absurd (show(1:Int)=2 from h) (by decide),fun h=>absurd (show(1:Int)=5 from h) (by decide),fun h=>absurd (show(1:Int)=6∨(1:Int)=7 from h) (by decide),fun h=>absurd (show(1:Int)=3∨(1:Int)=9 from h) (by decide),by simp⟩
 by_cases k2:x1=2
 ·subst k2
  have hw:([]:List qab)=x3:=congrArg qad.where_ hk
  subst hw
  have hm':(qvl n x4&&qdy x14)=true:=hm
  rw[Bool.and_eq_true]at hm'
  exact⟨wP,nil,fun _=>⟨wE me hm'.1,fun e=>by have e:x14=[]:=e; rw[e]at hm'; exact absurd hm'.2 (by decide)⟩,fun h=>absurd (show(2:Int)=5 from h) (by decide),fun h=>absurd (show(2:Int)=6∨(2:Int)=7 from h) (by decide),fun h=>absurd (show(2:Int)=3∨(2:Int)=9 from h) (by decide),by simp⟩
 by_cases k3:x1=3
 ·subst k3
  have hm':(ze1 n ⟨3,x2,x3,x4,x14,x15,x16,x17,x18,x19,x20,x21,x22⟩&&exS n x3)=true:=hm
  rw[Bool.and_eq_true]at hm'
  have w:=wL mw hm'.2
  exact⟨wP,w,fun h=>absurd (show(3:Int)=2 from h) (by decide),fun h=>absurd (show(3:Int)=5 from h) (by decide),fun h=>absurd (show(3:Int)=6∨(3:Int)=7 from h) (by decide),fun _=>wR hm'.1 w,by simp⟩
 by_cases k9:x1=9
 ·subst k9
  have hm':(ze1 n ⟨9,x2,x3,x4,x14,x15,x16,x17,x18,x19,x20,x21,x22⟩&&exS n x3)=true:=hm
  rw[Bool.and_eq_true]at hm'
  have w:=wL mw hm'.2
  exact⟨wP,w,fun h=>absurd (show(9:Int)=2 from h) (by decide),fun h=>absurd (show(9:Int)=5 from h) (by decide),fun h=>absurd (show(9:Int)=6∨(9:Int)=7 from h) (by decide),fun _=>wR hm'.1 w,by simp⟩
 by_cases k4:x1=4
 ·subst k4
  have hw:([]:List qab)=x3:=congrArg qad.where_ hk
  subst hw
  exact⟨wP,nil,fun h=>absurd (show(4:Int)=2 from h) (by decide),fun h=>absurd (show(4:Int)=5 from h) (by decide),fun h=>absurd (show(4:Int)=6∨(4:Int)=7 from h) (by decide),fun h=>absurd (show(4:Int)=3∨(4:Int)=9 from h) (by decide),by simp⟩
 by_cases k5:x1=5
 ·subst k5
  have hw:([]:List qab)=x3:=congrArg qad.where_ hk
  subst hw
  refine⟨wP,nil,fun h=>absurd (show(5:Int)=2 from h) (by decide),fun _=>?_,fun h=>absurd (show(5:Int)=6∨(5:Int)=7 from h) (by decide),fun h=>absurd (show(5:Int)=3∨(5:Int)=9 from h) (by decide),by simp⟩
  match x2 with
  | []=>exact absurd (show false=true from hm) (by decide)
  | [p]=>exact⟨p,rfl⟩
  | p::q::l=>exact absurd (show false=true from hm) (by decide)
 by_cases k6:x1=6
 ·subst k6
  have hw:([]:List qab)=x3:=congrArg qad.where_ hk
  subst hw
  have hm':(x20.all (zay n true)&&decide (((x20.length:Nat):Int)>0))=true:=hm
  rw[Bool.and_eq_true]at hm'
  exact⟨wP,nil,fun h=>absurd (show(6:Int)=2 from h) (by decide),fun h=>absurd (show(6:Int)=5 from h) (by decide),fun _=>wS (by simp) hm'.1,fun h=>absurd (show(6:Int)=3∨(6:Int)=9 from h) (by decide),by simp⟩
 by_cases k7:x1=7
 ·subst k7
  have hw:([]:List qab)=x3:=congrArg qad.where_ hk
  subst hw
  have hm':(x20.all (zay n false)&&decide (((x20.length:Nat):Int)>0))=true:=hm
  rw[Bool.and_eq_true]at hm'
  exact⟨wP,nil,fun h=>absurd (show(7:Int)=2 from h) (by decide),fun h=>absurd (show(7:Int)=5 from h) (by decide),fun _=>wS (by simp) hm'.1,fun h=>absurd (show(7:Int)=3∨(7:Int)=9 from h) (by decide),by simp⟩
 by_cases k8:x1=8
 ·subst k8
  have hw:([]:List qab)=x3:=congrArg qad.where_ hk
  subst hw
  exact⟨wP,nil,fun h=>absurd (show(8:Int)=2 from h) (by decide),fun h=>absurd (show(8:Int)=5 from h) (by decide),fun h=>absurd (show(8:Int)=6∨(8:Int)=7 from h) (by decide),fun h=>absurd (show(8:Int)=3∨(8:Int)=9 from h) (by decide),by simp⟩
 have e2:q1e n ⟨x1,x2,x3,x4,x14,x15,x16,x17,x18,x19,x20,x21,x22⟩=false:=by
  unfold q1e
  simp only[k1,k2,k3,k9,k4,k5,k6,k7,k8,if_false,or_self]
 rw[e2]at hm
 cases hm
def zho (n:Nat) (c:qad):Bool:=(qet n c).getD false
theorem q2g {n:Nat} (hn:n≤1073741824) {c:qad} (h:42+qdp c<n) (hM:LenOk c) :
  qet n c=some (zho n c)∧(zho n c=true→WfC c∧q8z c=c∧c.paths.all (q2s n)=true∧q1e n c=true)∧∃ gl ok,ql3 n c=some (gl,ok)∧gl.length≤5∧(∀ g∈gl,g.parts.length<n∧∀ p∈g.parts,42+q4l p<n) ∧
   (ok&&!(((gl.length:Nat):Int)==0)&&(gl.map g3).all (gOk n))=zho n c:=by
 obtain⟨s,hs,he⟩:=zcu hn h
 have hmc:zho n c=(s&&(c.paths.all (q2s n)&&q1e n c)):=by unfold zho; rw[he]; rfl
 refine⟨by rw[he,hmc],fun hb=>?_,?_⟩
 ·rw[hmc]at hb
  simp only[Bool.and_eq_true]at hb
  exact⟨zqd hn h (hs.1 hb.1) hb.2.1 hb.2.2,hs.1 hb.1,hb.2.1,hb.2.2⟩
 ·rcases zi2 hn (c:=c) (by omega)with ⟨⟨hk5,p,hp,hpe⟩,ho⟩|⟨hb,gl,ok,ho,hg3,h1,h2⟩
  ·refine⟨[],false,ho,by simp,(fun g hg=>by cases hg),?_⟩
   have:q1e n c=false:=by
    unfold q1e
    rw[hk5,hp]
    have:(((p.edges.length:Nat):Int)==0)=false:=by
     rw[beq_eq_false_iff_ne]
     intro e
     have:p.edges.length=0:=by omega
     exact hpe (List.length_eq_zero_iff.1 this)
    exact this
   rw[hmc,this]
   cases s<;>cases c.paths.all (q2s n)<;>rfl
  ·have hlen:gl.length=(qvs c).length:=by rw[← hg3,List.length_map]
   refine⟨gl,ok,ho,?_,fun g hg=>?_,?_⟩
   ·rw[hlen]
    unfold qvs
    repeat' split
    all_goals simp
   ·have:=ze6 (Nat.le_refl (qdp c)) (g3 g) (by rw[← hg3]; exact List.mem_map.2 ⟨g,hg,rfl⟩)
    simp only[g3]at this
    exact⟨by omega,fun p hp=>by have:=this.2 p hp; omega⟩
   ·rw[hmc,hg3,hlen]
    cases hsb:s with
    | false=>
     have:ok=false:=by
      cases ok with
      | false=>rfl
      | true=>have:=hs.2 (h1 rfl); rw[hsb]at this; cases this
     rw[this]; rfl
    | true=>
     have hk:=hs.1 hsb
     rw[zkp hM hk hb (h2 hk)]
     rfl
end W
end
section
open Go Ax
namespace W
def wr (k:Int):Bool:=bif decide (k≥4)then decide (k≤8)else false
theorem q81 (n:Nat) (k:Int):qpg n k=some (wr k):=by
 unfold qpg wr
 congr 1
 by_cases h4:k=4; · subst h4; rfl
 by_cases h5:k=5; · subst h5; rfl
 by_cases h6:k=6; · subst h6; rfl
 by_cases h7:k=7; · subst h7; rfl
 by_cases h8:k=8; · subst h8; rfl
 rw[beq_eq_false_iff_ne.2 h4,beq_eq_false_iff_ne.2 h5,beq_eq_false_iff_ne.2 h6,beq_eq_false_iff_ne.2 h7,beq_eq_false_iff_ne.2 h8]
 by_cases h:k≥4
 ·rw[decide_eq_true h,decide_eq_false (by omega)]; rfl
 ·rw[decide_eq_false h]; rfl
def q79 (cl:List qad):Bool:=match cl.getLast? with|some c=>(c.kind==9)||wr c.kind|none=>false
def zlh (cl:List qad):Bool:=(decide (0<cl.length)&&decide (cl.length≤64))&&q79 cl
def qmc (n:Nat):List qad→Bool
 | []=>true
 | c::l=>(zho n c&&!((c.kind==9)&&!l.isEmpty))&&qmc n l
def qy5 (n:Nat) (cl:List qad):Bool:=zlh cl&&qmc n cl
theorem zes {n:Nat} {cl:List qad} (h:qy5 n cl=true):0<cl.length∧cl.length≤64:=by
 unfold qy5 zlh at h
 simp only[Bool.and_eq_true,decide_eq_true_eq]at h
 exact h.1.1
theorem ze0:∀ (ok e a nine lt r:Bool),(bif bif bif !ok then true else e then true else bif nine then lt else false then some false else bif a then some r else some false)=some (((ok&&!e&&a)&&!(nine&&lt))&&r):=by
 intro ok e a nine lt r
 cases ok<;>cases e<;>cases a<;>cases nine<;>cases lt<;>cases r<;>rfl
theorem zij {cl:List qad} {k:Nat}:decide ((((k+1:Nat):Int))<((cl.length:Nat):Int))=!(cl.drop (k+1)).isEmpty:=by
 rw[Bool.eq_iff_iff,decide_eq_true_eq,Bool.not_eq_true',List.isEmpty_eq_false_iff,ne_eq,List.drop_eq_nil_iff]
 omega
section
variable {n:Nat} (hn:n≤1073741824) {cl:List qad} (h:42+qck cl<n) (hM:∀ c∈cl,LenOk c)
include hn h hM
theorem zg2:∀ m k:Nat,k≤cl.length→cl.length - k<m→qap (qfs n cl) m (k:Int)=some (qmc n (cl.drop k)):=by
 have hlen:=qbx qdp qo5 cl
 unfold qck at h
 intro m
 induction m with
 | zero=>intro k _ h; omega
 | succ m ih=>
  intro k hk hm
  rw[qa0]
  by_cases he:k=cl.length
  ·subst he
   rw[List.drop_length]
   simp only[qfs,qcf,qaz,cond_false]
   rfl
  ·have hkl:k<cl.length:=by omega
   have hx:=List.getElem?_eq_getElem hkl
   rw[List.drop_eq_getElem_cons hkl]
   generalize cl[k]=x at hx
   have hb:=qbz qdp (qbn hx)
   obtain⟨_,_,gl,ok,ho,hg5,hgp,hval⟩:=q2g hn (c:=x) (by omega) (hM _ (qbn hx))
   have hgl:=zd7 hn hgp (by omega) (qap (qfs n cl) m) (k:=k) (by omega)
   rw[ih (k+1) (by omega) (by omega)]at hgl
   have hd:=zij (cl:=cl) (k:=k)
   unfold qmc
   rw[← hval]
   clear hval
   obtain⟨x1,x2,x3,⟨x4,x5,⟨x6,x7,x8,x9,x10,x11⟩,x12,x13⟩,x14,x15,x16,x17,x18,x19,x20,x21,x22⟩:=x
   simp only[qfs,qcf,qbf hkl,cond_true,qal hx,qac,ho,qvh,hgl]
   rw[qb8 (by omega),hd]
   exact ze0 _ _ _ _ _ _
theorem zn9 (nx:Int→Option Bool):qmr n cl nx ((cl.length:Nat):Int)=some (zlh cl):=by
 have hlen:=qbx qdp qo5 cl
 unfold qck at h
 simp only[qmr,qcf,qaz,cond_false,q81]
 by_cases h0:cl=[]
 ·subst h0; rfl
 ·obtain⟨l,c,rfl⟩:∃ l c,cl=l++[c]:=⟨cl.dropLast,cl.getLast h0,(List.dropLast_concat_getLast h0).symm⟩
  have e1:IntKind.i64.wrap ((((l++[c]).length:Nat):Int) - 1)=((l.length:Nat):Int):=by
   rw[qvx (by omega) (by omega)]; simp
  have e2:(l++[c])[l.length]? =some c:=by simp
  have e3:q79 (l++[c])=((c.kind==9)||wr c.kind):=by unfold q79; simp
  rw[e1,qal e2]
  unfold zlh
  rw[e3]
  have e4:decide ((((l++[c]).length:Nat):Int)>0)=true:=decide_eq_true (by simp only[List.length_append,List.length_cons,List.length_nil]; omega)
  have e5:decide (0<(l++[c]).length)=true:=decide_eq_true (by simp)
  have e6:decide ((((l++[c]).length:Nat):Int)≤64)=decide ((l++[c]).length≤64):=by
   rw[Bool.eq_iff_iff]; simp only[decide_eq_true_eq]; omega
  rw[e4,e5,e6,cond_true]
  generalize decide ((l++[c]).length≤64)=d
  clear e1 e2 e3 e4 e5 e6 h hM hlen h0
  obtain⟨x1,x2,x3,⟨x4,x5,⟨x6,x7,x8,x9,x10,x11⟩,x12,x13⟩,x14,x15,x16,x17,x18,x19,x20,x21,x22⟩:=c
  cases d with
  | false=>rfl
  | true=>
   simp only[qdw,qac,Bool.true_and]
   cases hk:(x1==9)with
   | true=>rfl
   | false=>
    simp only[Bool.not_false,qdw,qac]
    rfl
theorem zlv:∀ m k:Nat,k≤cl.length→cl.length - k<m→qap (qmr n cl) m (k:Int)=bif qmc n (cl.drop k)then some (zlh cl)else some false:=by
 have hlen:=qbx qdp qo5 cl
 have hend:=zn9 hn h hM
 unfold qck at h
 intro m
 induction m with
 | zero=>intro k _ h; omega
 | succ m ih=>
  intro k hk hm
  rw[qa0]
  by_cases he:k=cl.length
  ·subst he
   rw[List.drop_length,hend]
   rfl
  ·have hkl:k<cl.length:=by omega
   have hx:=List.getElem?_eq_getElem hkl
   rw[List.drop_eq_getElem_cons hkl]
   generalize cl[k]=x at hx
   have hb:=qbz qdp (qbn hx)
   obtain⟨hmay,_⟩:=q2g hn (c:=x) (by omega) (hM _ (qbn hx))
   have hd:=zij (cl:=cl) (k:=k)
   have ih':=ih (k+1) (by omega) (by omega)
   unfold qmc
   obtain⟨x1,x2,x3,⟨x4,x5,⟨x6,x7,x8,x9,x10,x11⟩,x12,x13⟩,x14,x15,x16,x17,x18,x19,x20,x21,x22⟩:=x
   simp only[qmr,qcf,qbf hkl,cond_true,qal hx,qac,hmay]
   rw[qb8 (by omega),hd,ih']
   cases zho n _ with
   | false=>rfl
   | true=>
    simp only[Bool.not_true,Bool.not_false,qdw,qac,cond_false]
    cases(x1==9)<;>cases(cl.drop (k+1)).isEmpty<;>rfl
theorem q8v:qmq n ⟨cl⟩=some (qy5 n cl):=by
 have hlen:=qbx qdp qo5 cl
 have e:=zlv hn h hM n 0 (by omega) (by unfold qck at h; omega)
 unfold qmq qy5
 refine Eq.trans e ?_
 rw[List.drop_zero]
 cases qmc n cl<;>cases zlh cl<;>rfl
theorem zdf:qnu n ⟨cl⟩=some (qy5 n cl):=by
 have hlen:=qbx qdp qo5 cl
 have e:=zg2 hn h hM n 0 (by omega) (by unfold qck at h; omega)
 rw[List.drop_zero]at e
 unfold qnu qy5
 unfold qck at h
 simp only[qcf,qrd]
 by_cases h0:cl=[]
 ·subst h0; rfl
 ·obtain⟨l,c,rfl⟩:∃ l c,cl=l++[c]:=⟨cl.dropLast,cl.getLast h0,(List.dropLast_concat_getLast h0).symm⟩
  have e1:IntKind.i64.wrap ((((l++[c]).length:Nat):Int) - 1)=((l.length:Nat):Int):=by
   rw[qvx (by omega) (by omega)]; simp
  have e2:(l++[c])[l.length]? =some c:=by simp
  have e3:q79 (l++[c])=((c.kind==9)||wr c.kind):=by unfold q79; simp
  rw[e1,qal e2]
  unfold zlh
  rw[e3]
  have e4:decide ((((l++[c]).length:Nat):Int)<1)=false:=decide_eq_false (by simp only[List.length_append,List.length_cons,List.length_nil]; omega)
  have e5:decide (0<(l++[c]).length)=true:=decide_eq_true (by simp)
  have e6:decide ((((l++[c]).length:Nat):Int)>64)=!decide ((l++[c]).length≤64):=by
   rw[Bool.eq_iff_iff]; simp only[decide_eq_true_eq,Bool.not_eq_true',decide_eq_false_iff_not]; omega
  rw[e4,e5,e6,cond_false]
  have e':qap (qfs n (l++[c])) n 0=some (qmc n (l++[c])):=e
  rw[e']
  generalize qmc n (l++[c])=g
  generalize decide ((l++[c]).length≤64)=d
  clear e1 e2 e3 e4 e5 e6 h hM hlen h0 e e'
  obtain⟨x1,x2,x3,⟨x4,x5,⟨x6,x7,x8,x9,x10,x11⟩,x12,x13⟩,x14,x15,x16,x17,x18,x19,x20,x21,x22⟩:=c
  cases d with
  | false=>rfl
  | true=>
   simp only[Bool.not_true,Bool.not_false,qdw,qac,Bool.true_and]
   unfold wr
   cases(bif decide (x1≥4)then decide (x1≤8)else false)with
   | true=>cases(x1==9)<;>cases g<;>rfl
   | false=>
    simp only[Bool.not_false,qdw,qac]
    unfold bne
    cases(x1==9)<;>cases g<;>rfl
theorem q6k:qy5 n cl=true→∀ c∈cl,WfC c:=by
 unfold qck at h
 intro hm
 unfold qy5 at hm
 rw[Bool.and_eq_true]at hm
 have key:∀ l:List qad,(∀ c∈l,c∈cl)→qmc n l=true→∀ c∈l,WfC c:=by
  intro l
  induction l with
  | nil=>intro _ _ c hc; cases hc
  | cons a l ih=>
   intro hs hg c hc
   simp only[qmc,Bool.and_eq_true]at hg
   have hb:=qbz qdp (hs a (by simp))
   rcases List.mem_cons.1 hc with rfl|hc
   ·exact((q2g hn (c:=c) (by omega) (hM _ (hs c (by simp)))).2.1 hg.1.1).1
   ·exact ih (fun c hc=>hs c (by simp[hc])) hg.2 c hc
 exact key cl (fun c hc=>hc) hm.2
end
end W
end
section
open Go Ax
namespace W
theorem qrk {R:Type} {B:(Int×Int→Option R)→Int×Int→Option R} {len:Nat} (K:Int→Option R) (hs:∀ k:Nat,k<len→∀ (acc:Int) (nx:Int×Int→Option R),B nx (acc,(k:Int))=K acc∨∃ acc',B nx (acc,(k:Int))=nx (acc',((k+1:Nat):Int)))
  (he:∀ (acc:Int) (nx:Int×Int→Option R),B nx (acc,(len:Int))=K acc) {n:Nat} (hn:len<n) (acc:Int):∃ acc',qap B n (acc,(0:Int))=K acc':=by
 have key:∀ (m k:Nat) (acc:Int),k≤len→len - k<m→∃ acc',qap B m (acc,(k:Int))=K acc':=by
  intro m
  induction m with
  | zero=>intro k _ _ h; omega
  | succ m ih=>
   intro k acc hk hm
   rw[qa0]
   by_cases h:k=len
   ·subst h; exact⟨_,he _ _⟩
   ·rcases hs k (by omega) acc (qap B m)with h|⟨acc',h⟩
    ·exact⟨_,h⟩
    ·rw[h]; exact ih (k+1) acc' (by omega) (by omega)
 exact key n 0 acc (by omega) (by omega)
theorem zka:∀ n:Nat,n≤1073741824→∀ v:Val,q0e v<n→∃ r,qmk n v=some r:=by
 intro n
 induction n with
 | zero=>intro _ v h; omega
 | succ n ih=>
  intro hn v hv
  obtain⟨x1,x2,x3,x4,x5,x6⟩:=v
  have hl:=qqs x5
  simp only[q0e]at hv
  simp only[qmk,qti]
  obtain⟨a,h⟩:=qrk (B:=qlj n x5 (qmk n)) (len:=x5.length) some
   (fun k hk acc nx=>by
    have hx:=List.getElem?_eq_getElem hk
    generalize x5[k]=y at hx
    obtain⟨r,hr⟩:=ih (by omega) y (by have:=qxg (qbn hx); omega)
    obtain⟨y1,y2,y3,y4,y5,y6⟩:=y
    right
    simp only[qlj,qfk,qbf hk,cond_true,qal hx,qac,hr]
    rw[qb8 (by omega)]
    exact⟨_,rfl⟩)
   (fun acc nx=>by simp only[qlj,qfk,qaz,cond_false]) (n:=n) (by omega) 1
  exact⟨_,h⟩
theorem qxh:∀ n:Nat,n≤1073741824→∀ x:qab,qex x<n→∀ m:Int,∃ r,qgs n x m=some r:=by
 intro n
 induction n with
 | zero=>intro _ v h; omega
 | succ n ih=>
  intro hn x hx m
  obtain⟨x1,x2,⟨x3,x4,x5,x6,x7,x8⟩,x9,x10⟩:=x
  have hl:=qeg x10
  simp only[qex]at hx
  obtain⟨p,hp⟩:=zka n (by omega) ⟨x3,x4,x5,x6,x7,x8⟩ (by omega)
  simp only[qgs,qtj,hp,qac]
  obtain⟨a,h⟩:=qrk (B:=qlr n x10 m (qgs n)) (len:=x10.length) some
   (fun k hk acc nx=>by
    have hx:=List.getElem?_eq_getElem hk
    generalize x10[k]=y at hx
    simp only[qlr,qaq,qbf hk,cond_true]
    by_cases hc:acc<m
    ·obtain⟨r,hr⟩:=ih (by omega) y (by have:=qg8 (qbn hx); omega) (IntKind.i64.wrap (m - acc))
     obtain⟨y1,y2,⟨y3,y4,y5,y6,y7,y8⟩,y9,y10⟩:=y
     right
     simp only[decide_eq_true hc,cond_true,qal hx,qac,hr]
     rw[qb8 (by omega)]
     exact⟨_,rfl⟩
    ·left; rw[decide_eq_false hc]; rfl)
   (fun acc nx=>by simp only[qlr,qaq,qaz,cond_false]) (n:=n) (by omega) _
  exact⟨_,h⟩
theorem qr4 {n:Nat} (hn:n≤1073741824) {l:List qab} (h:qc6 l<n) (m:Int):∃ r,qf8 n l m=some r:=by
 have hl:=qeg l
 unfold qf8
 exact qrk (B:=qhn n l m) (len:=l.length) some
  (fun k hk acc nx=>by
   have hx:=List.getElem?_eq_getElem hk
   generalize l[k]=y at hx
   simp only[qhn,qaq,qbf hk,cond_true]
   by_cases hc:acc<m
   ·obtain⟨r,hr⟩:=qxh n hn y (by have:=qg8 (qbn hx); omega) (IntKind.i64.wrap (m - acc))
    obtain⟨y1,y2,⟨y3,y4,y5,y6,y7,y8⟩,y9,y10⟩:=y
    right
    simp only[decide_eq_true hc,cond_true,qal hx,qac,hr]
    rw[qb8 (by omega)]
    exact⟨_,rfl⟩
   ·left; rw[decide_eq_false hc]; rfl)
  (fun acc nx=>by simp only[qhn,qaq,qaz,cond_false]) (n:=n) (by omega) 0
theorem qw6 {n:Nat} (hn:n≤1073741824) {cl:List qad} (h:qck cl<n):∃ r,qkt n ⟨cl⟩=some r:=by
 have hlen:=qbx qdp qo5 cl
 unfold qck at h
 unfold qkt
 obtain⟨a,e⟩:=qrk (B:=qlm n cl) (len:=cl.length) (fun acc=>some (decide (acc≥3000)))
  (fun k hk acc nx=>by
   have hx:=List.getElem?_eq_getElem hk
   generalize cl[k]=c at hx
   have hb:qdp c<n:=by have:=qbz qdp (qbn hx); omega
   simp only[qlm,qcf,qbf hk,cond_true]
   by_cases hc:acc<3000
   ·right
    have hp:=qbx qi3 (fun p=>by unfold qi3; omega) c.paths
    have hi:=qbx qqj (fun p=>by unfold qqj; omega) c.items
    have ho:=qbx qg1 (fun p=>by unfold qg1; omega) c.order
    have hs:=qbx qg2 (fun p=>by unfold qg2; omega) c.sets
    have mp:∀ p∈c.paths,qi3 p<n:=fun p hm=>by have:=qbz qi3 hm; unfold qdp qud at hb; omega
    have mi:∀ p∈c.items,qex p.e<n:=fun p hm=>by have:=qbz qqj hm; have e:qqj p=1+p.as_.length+qex p.e:=rfl; unfold qdp at hb; omega
    have mo:∀ p∈c.order,qex p.e<n:=fun p hm=>by have:=qbz qg1 hm; have e:qg1 p=1+qex p.e:=rfl; unfold qdp at hb; omega
    have ms:∀ p∈c.sets,qex p.e<n:=fun p hm=>by have:=qbz qg2 hm; have e:qg2 p=1+p.var_.length+p.key.length+p.label.length+qex p.e:=rfl; unfold qdp at hb; omega
    obtain⟨r1,h1⟩:=qxh n hn c.e (by unfold qdp at hb; omega) 3000
    obtain⟨r2,h2⟩:=qr4 hn (l:=c.where_) (by unfold qdp at hb; omega) 3000
    obtain⟨r3,h3⟩:=qr4 hn (l:=c.skip) (by unfold qdp at hb; omega) 3000
    obtain⟨r4,h4⟩:=qr4 hn (l:=c.limit) (by unfold qdp at hb; omega) 3000
    unfold qdp qud at hb
    obtain⟨x1,x5,x6,⟨x7,x8,⟨x9,x10,x11,x12,x13,x14⟩,x15,x16⟩,x17,x18,x19,x20,x21,x22,x23,x24,x25⟩:=c
    simp only at hp hi ho hs mp mi mo ms h1 h2 h3 h4 hb
    simp only[decide_eq_true hc,cond_true,qal hx,qac,h1,h2,h3,h4]
    have L7:∀ acc:Int,∃ acc',qap (qhf n x23 nx (k:Int)) n (acc,(0:Int))=nx (acc',((k+1:Nat):Int)):=fun acc=>qrk (B:=qhf n x23 nx (k:Int)) (len:=x23.length) (fun acc=>nx (acc,((k+1:Nat):Int)))
     (fun j hj acc nx2=>by
      have hy:=List.getElem?_eq_getElem hj
      generalize x23[j]=y at hy
      simp only[qhf,qag.rows,List.length_map,qbf hj,cond_true]
      by_cases hc:acc<3000
      ·obtain⟨r,hr⟩:=qxh n hn y.e (ms y (qbn hy)) 3000
       obtain⟨z1,z2,z3,⟨y1,y2,⟨y3,y4,y5,y6,y7,y8⟩,y9,y10⟩⟩:=y
       simp only at hr
       right
       simp only[decide_eq_true hc,cond_true,qal hy,qac,hr]
       rw[qb8 (k:=j) (by omega)]
       exact⟨_,rfl⟩
      ·left; rw[decide_eq_false hc,cond_false,qb8 (by omega)])
     (fun acc nx2=>by
      simp only[qhf,qag.rows,List.length_map,qaz,cond_false]
      rw[qb8 (by omega)]) (n:=n) (by omega) acc
    have L6:∀ acc:Int,∃ acc',qap (qhe n x20 x23 nx (k:Int)) n (acc,(0:Int))=nx (acc',((k+1:Nat):Int)):=fun acc=>by
     obtain⟨a,ha⟩:=qrk (B:=qhe n x20 x23 nx (k:Int)) (len:=x20.length) (fun acc=>qap (qhf n x23 nx (k:Int)) n (acc,(0:Int)))
      (fun j hj acc nx2=>by
       have hy:=List.getElem?_eq_getElem hj
       generalize x20[j]=y at hy
       simp only[qhe,qar.rows,List.length_map,qbf hj,cond_true]
       by_cases hc:acc<3000
       ·obtain⟨r,hr⟩:=qxh n hn y.e (mo y (qbn hy)) 3000
        obtain⟨⟨y1,y2,⟨y3,y4,y5,y6,y7,y8⟩,y9,y10⟩,z1⟩:=y
        simp only at hr
        right
        simp only[decide_eq_true hc,cond_true,qal hy,qac,hr]
        rw[qb8 (k:=j) (by omega)]
        exact⟨_,rfl⟩
       ·left; rw[decide_eq_false hc,cond_false])
      (fun acc nx2=>by simp only[qhe,qar.rows,List.length_map,qaz,cond_false]) (n:=n) (by omega) acc
     rw[ha]; exact L7 a
    have L5:∀ acc:Int,∃ acc',qap (qhd n x18 x20 x23 nx (k:Int)) n (acc,(0:Int))=nx (acc',((k+1:Nat):Int)):=fun acc=>by
     obtain⟨a,ha⟩:=qrk (B:=qhd n x18 x20 x23 nx (k:Int)) (len:=x18.length) (fun acc=>qap (qhe n x20 x23 nx (k:Int)) n (acc,(0:Int)))
      (fun j hj acc nx2=>by
       have hy:=List.getElem?_eq_getElem hj
       generalize x18[j]=y at hy
       simp only[qhd,qbh.rows,List.length_map,qbf hj,cond_true]
       by_cases hc:acc<3000
       ·obtain⟨r,hr⟩:=qxh n hn y.e (mi y (qbn hy)) 3000
        obtain⟨⟨y1,y2,⟨y3,y4,y5,y6,y7,y8⟩,y9,y10⟩,z1⟩:=y
        simp only at hr
        right
        simp only[decide_eq_true hc,cond_true,qal hy,qac,hr]
        rw[qb8 (k:=j) (by omega)]
        exact⟨_,rfl⟩
       ·left; rw[decide_eq_false hc,cond_false])
      (fun acc nx2=>by simp only[qhd,qbh.rows,List.length_map,qaz,cond_false]) (n:=n) (by omega) acc
     rw[ha]; exact L6 a
    have L2:∀ acc:Int,∃ acc',qap (qi7 n x5 x18 x20 x23 nx (k:Int)) n (acc,(0:Int))=nx (acc',((k+1:Nat):Int)):=fun acc=>by
     obtain⟨a,ha⟩:=qrk (B:=qi7 n x5 x18 x20 x23 nx (k:Int)) (len:=x5.length) (fun acc=>qap (qhd n x18 x20 x23 nx (k:Int)) n (acc,(0:Int)))
      (fun j hj acc nx2=>by
       have hy:=List.getElem?_eq_getElem hj
       generalize x5[j]=p at hy
       have hpb:=mp p (qbn hy)
       simp only[qi7,qdb,qbf hj,cond_true]
       by_cases hc:acc<3000
       ·right
        rw[decide_eq_true hc,cond_true]
        obtain⟨nodes,edges⟩:=p
        unfold qi3 at hpb
        simp only at hpb
        have hn1:=qbx qg9 (fun p=>by unfold qg9; omega) nodes
        have hn2:=qbx qjg (fun p=>by unfold qjg; omega) edges
        obtain⟨b,hb3⟩:=qrk (B:=qln n x5 (j:Int) nx2) (len:=nodes.length) (fun acc=>qap (qi8 n x5 (j:Int) nx2) n (acc,(0:Int)))
         (fun i hi acc nx3=>by
          have hz:=List.getElem?_eq_getElem hi
          generalize nodes[i]=d at hz
          have hdb:qg9 d<n:=by have:=qbz qg9 (qbn hz); omega
          simp only[qln,qal hy,qac,qda,qbf hi,cond_true]
          by_cases hc:acc<3000
          ·obtain⟨r,hr⟩:=qr4 hn (l:=d.vals) (by unfold qg9 at hdb; omega) 3000
           obtain⟨d1,d2,d3,d4⟩:=d
           simp only at hr
           right
           simp only[decide_eq_true hc,cond_true,qal hz,qac,hr]
           rw[qb8 (k:=i) (by omega)]
           exact⟨_,rfl⟩
          ·left; rw[decide_eq_false hc,cond_false])
         (fun acc nx3=>by simp only[qln,qal hy,qac,qda,qaz,cond_false]) (n:=n) (by omega) acc
        rw[hb3]
        exact qrk (B:=qi8 n x5 (j:Int) nx2) (len:=edges.length) (fun acc=>nx2 (acc,((j+1:Nat):Int)))
         (fun i hi acc nx3=>by
          have hz:=List.getElem?_eq_getElem hi
          generalize edges[i]=d at hz
          have hdb:qjg d<n:=by have:=qbz qjg (qbn hz); omega
          simp only[qi8,qal hy,qac,qfa,qbf hi,cond_true]
          by_cases hc:acc<3000
          ·obtain⟨r,hr⟩:=qr4 hn (l:=d.vals) (by unfold qjg at hdb; omega) 3000
           obtain⟨d1,d2,d3,d4,d5⟩:=d
           simp only at hr
           right
           simp only[decide_eq_true hc,cond_true,qal hz,qac,hr]
           rw[qb8 (k:=i) (by omega)]
           exact⟨_,rfl⟩
          ·left; rw[decide_eq_false hc,cond_false,qb8 (by omega)])
         (fun acc nx3=>by
          simp only[qi8,qal hy,qac,qfa,qaz,cond_false]
          rw[qb8 (by omega)]) (n:=n) (by omega) b
       ·left; rw[decide_eq_false hc,cond_false])
      (fun acc nx2=>by simp only[qi7,qdb,qaz,cond_false]) (n:=n) (by omega) acc
     rw[ha]; exact L5 a
    exact L2 _
   ·left; rw[decide_eq_false hc]; rfl)
  (fun acc nx=>by simp only[qlm,qcf,qaz,cond_false]) (n:=n) (by omega) 0
 exact⟨_,e⟩
end W
end
section
open Go Ax
namespace W
theorem zmq (m:Nat):qdu (m+400)=some true:=by kernel_rfl
theorem qvw {n:Nat} (h:400≤n):qdu n=some true:=by
 obtain⟨m,rfl⟩:=Nat.exists_eq_add_of_le h
 rw[Nat.add_comm]; exact zmq m
theorem q1z {n:Nat} {x y:List Int} (h:x.length<n) (hn:n≤1073741824):∃ b,qlw n x y=some b∧(b=true↔x=y):=by
 unfold qlw
 by_cases hl:x.length=y.length
 ·have:((((qbp .i64 x).length:Nat):Int) != (((qbp .i64 y).length:Nat):Int))=false:=by simp[hl]
  rw[this,cond_false]
  refine q27 hl (fun k a b nx ha hb=>⟨a==b,beq_iff_eq,?_⟩) (fun nx=>by simp only[qkb,qvi,qaz,cond_false]) h
  have hk:=qcm ha
  simp only[qkb,qvi,qbf hk,cond_true,qal ha,qal hb,qac]
  rw[qb8 (by omega)]
  unfold bne
  cases a==b<;>rfl
 ·have:((((qbp .i64 x).length:Nat):Int) != (((qbp .i64 y).length:Nat):Int))=true:=by rw[qvi,qvi]; exact qua.2 hl
  rw[this]
  exact⟨false,rfl,by simp; intro e; exact hl (congrArg _ e)⟩
theorem qqq {n:Nat} {x:List (List UInt8)} (h:x.length<n) (hn:n≤1073741824):qcu n x x=some true:=by
 obtain⟨b,h1,h2⟩:=qfc (y:=x) h hn
 rw[h1,h2.2 rfl]
theorem q8d {n:Nat} {x:List Int} (h:x.length<n) (hn:n≤1073741824):qlw n x x=some true:=by
 obtain⟨b,h1,h2⟩:=q1z (y:=x) h hn
 rw[h1,h2.2 rfl]
theorem zao:∀ (l:List qad) (t v:Env),EnvOk t→(∀ c∈l,WfC c)→qdo qfj t l=.inr v→EnvOk v∧v.length≤t.length+2 * (l.map qdp).sum
 | [],t,v,ht,_,e=>by cases e; exact⟨ht,by omega⟩
 | c::l,t,v,ht,hw,e=>by
  simp only[qdo,qfj]at e
  by_cases h0:(qd6 t c).1=0
  ·rw[if_neg (by simpa using h0)]at e
   have h1:=q8l ht (hw c (by simp)) h0
   have h2:=zao l _ v h1.1 (fun c hc=>hw c (by simp[hc])) e
   simp only[List.map_cons,List.sum_cons]
   exact⟨h2.1,by omega⟩
  ·rw[if_pos h0]at e; cases e
theorem zf8 (cl:List qad) (m:Nat):((cl.take m).map qdp).sum≤(cl.map qdp).sum:=by
 have h0:cl.take m++cl.drop m=cl:=List.take_append_drop m cl
 have:((cl.take m++cl.drop m).map qdp).sum=((cl.take m).map qdp).sum+((cl.drop m).map qdp).sum:=by rw[List.map_append,List.sum_append]
 rw[h0]at this
 omega
theorem zc0 {may:Bool} {cl:List qad} (hw:may=true→∀ c∈cl,WfC c) (at_:Int):(qkn may cl at_).1.length≤2 * qck cl∧(qkn may cl at_).2.1.length≤2 * qck cl:=by
 unfold qkn qck
 split
 ·simp
 ·rename_i hc
  simp only[not_or,Bool.not_eq_false]at hc
  have ht:=zf8 cl at_.toNat
  cases hf:qdo qfj [] (cl.take at_.toNat)with
  | inl e=>simp
  | inr v=>
   have:=(zao _ _ v q6n (fun c hc'=>hw hc.1 c (List.mem_of_mem_take hc')) hf).2
   simp only[List.length_map,List.length_nil]at this ⊢
   omega
section
variable {n:Nat} (hn:n≤1073741824) {cl:List qad} (h:8 * qck cl+400<n) (hM:∀ c∈cl,LenOk c)
include hn h hM
theorem q8y (at_:Int):qkx n ⟨cl⟩ at_=some (qkn (qy5 n cl) cl at_)∧qo8 n ⟨cl⟩ at_=some (qkn (qy5 n cl) cl at_):=
 ⟨q3o hn (zdf hn (by omega) hM) (q6k hn (by omega) hM) (by omega) at_,q7f hn (q8v hn (by omega) hM) (q6k hn (by omega) hM) (by omega) at_⟩
def qkm (may:Bool) (cl:List qad):List (List UInt8)×Int:=
 let r:=qkn may cl cl.length
 if r.2.2=0∧(∃ c,cl.getLast? =some c∧c.kind=9)then(r.1,0)else([],r.2.2)
omit hn h hM in
theorem zgg {may:Bool} (hl:may=true→cl≠[]) (hsz:cl.length≤1073741824):(bnd (some (qkn may cl cl.length)) fun⟨x2,x3,x4⟩=>
  bnd (qa5 (!(x4 != (0:Int))) (idx cl (IntKind.i64.wrap (((cl.length:Nat):Int) - (1:Int))))) fun⟨x5,x6,x7,⟨x8,x9,⟨x10,x11,x12,x13,x14,x15⟩,x16,x17⟩,x18,x19,x20,x21,x22,x23,x24,x25,x26⟩=>
  bif(bif(x4 != (0:Int))then true else(x5 != (9:Int)))then(some (([]:List (List UInt8)),x4))else(some (x2,(0:Int))))=some (qkm may cl):=by
 unfold qkm
 cases hr:qkn may cl cl.length with
 | mk a be=>
  obtain⟨b,e⟩:=be
  simp only[qac]
  by_cases he:e=0
  ·subst he
   have hc:cl≠[]:=by
    intro h0
    apply hl _ h0
    cases may with
    | true=>rfl
    | false=>
     unfold qkn at hr
     rw[if_pos (.inl rfl)]at hr
     cases hr
   obtain⟨l,c,rfl⟩:∃ l c,cl=l++[c]:=⟨cl.dropLast,cl.getLast hc,(List.dropLast_concat_getLast hc).symm⟩
   have e1:IntKind.i64.wrap ((((l++[c]).length:Nat):Int) - 1)=((l.length:Nat):Int):=by
    rw[qvx (by omega) (by omega)]; simp
   have e2:(l++[c])[l.length]? =some c:=by simp
   have e3:(l++[c]).getLast? =some c:=by simp
   rw[e1,show(!((0:Int) != 0))=true from rfl,qdw,qal e2,qac,e3]
   clear hr e1 e2 e3 hl hsz hc
   obtain⟨x1,x2,x3,⟨x4,x5,⟨x6,x7,x8,x9,x10,x11⟩,x12,x13⟩,x14,x15,x16,x17,x18,x19,x20,x21,x22⟩:=c
   by_cases h9:x1=9
   ·subst h9
    rw[if_pos ⟨rfl,_,rfl,rfl⟩]
    rfl
   ·rw[if_neg (by rintro⟨_,c,hc,hk⟩; cases hc; exact h9 hk)]
    show(bif(bif((0:Int) != 0)then true else(x1 != 9))then _ else _)=_
    rw[show(x1 != 9)=true from by simpa using h9]
    rfl
  ·rw[if_neg (by rintro⟨h0,_⟩; exact he h0)]
   have:(e != 0)=true:=by simpa using he
   rw[this]
   rfl
theorem qpt:qdv n ⟨cl⟩=some (qkm (qy5 n cl) cl)∧qq0 n ⟨cl⟩=some (qkm (qy5 n cl) cl):=by
 have hlen:=qbx qdp qo5 cl
 have hl:qy5 n cl=true→cl≠[]:=fun hm h0=>by have:=(zes hm).1; rw[h0]at this; simp at this
 have hc:=zgg hl (by unfold qck at h; omega)
 obtain⟨n1,n2⟩:=q8y hn h hM cl.length
 refine⟨?_,?_⟩
 ·unfold qdv
  simp only[qcf,n1]
  exact hc
 ·unfold qq0
  simp only[qcf,n2]
  exact hc
theorem q03:(qkm (qy5 n cl) cl).1.length≤2 * qck cl:=by
 unfold qkm
 have:=(zc0 (q6k hn (by omega) hM) cl.length).1
 simp only
 split
 ·exact this
 ·simp
theorem zgn:qnb n ⟨cl⟩=some true:=by
 obtain⟨b,hb⟩:=qw6 hn (cl:=cl) (by omega)
 obtain⟨c1,c2⟩:=qpt hn h hM
 have hs:=qqq (x:=(qkm (qy5 n cl) cl).1) (n:=n) (by have:=q03 hn h hM; omega) hn
 unfold qnb
 simp only[hb,qac,qvw (n:=n) (by omega),c1,c2,hs]
 cases b with
 | true=>rfl
 | false=>simp
theorem zjp (at_:Int):qou n ⟨cl⟩ at_=some true:=by
 obtain⟨b,hb⟩:=qw6 hn (cl:=cl) (by omega)
 obtain⟨n1,n2⟩:=q8y hn h hM at_
 have hl:=zc0 (q6k hn (by omega) hM) at_
 have hs:=qqq (x:=(qkn (qy5 n cl) cl at_).1) (n:=n) (by omega) hn
 have hi:=q8d (x:=(qkn (qy5 n cl) cl at_).2.1) (n:=n) (by omega) hn
 unfold qou
 simp only[hb,qac,qvw (n:=n) (by omega),n1,n2,hs,hi]
 cases b with
 | true=>rfl
 | false=>simp[hi]
end
end W
end
section
open Go Ax
namespace W
def nm (s:List UInt8):List UInt8:=if s=[]then[]else s++[95,55]
structure RenOk (f:Env→Env):Prop where
 kind:∀ v s,qcb (f v) (nm s)=qcb v s
 wth:∀ v s k,qkk (f v) (nm s) k=f (qkk v s k)
section
variable {f:Env→Env} (hf:RenOk f)
include hf
end
def rr (f:Env→Env) (r:Int×Env):Int×Env:=(r.1,f r.2)
section
variable {f:Env→Env} (hf:RenOk f)
include hf
end
section
variable {f:Env→Env} (hf:RenOk f)
include hf
end
theorem qr0 {A R T:Type} (F:T→A→R ⊕ T):∀ (a b:List A) (t:T),qdo F t (a++b)=(match qdo F t a with|.inl r=>.inl r|.inr u=>qdo F u b)
 | [],_,_=>rfl
 | x::a,b,t=>by
  simp only[List.cons_append,qdo]
  cases F t x with
  | inl r=>rfl
  | inr u=>exact qr0 F a b u
end W
end
section
open Go Ax
namespace W
end W
end
section
open Go Ax
namespace W
section
variable {P:List UInt8→Prop}
end
section
variable {n:Nat} (hn:n≤1073741824) {cl:List qad} (h:32 * qck cl+2000<n) (hM:∀ c∈cl,LenOk c)
include hn h hM
omit hn h hM in
theorem qxq (cl:List qad):qkn true cl (cl.length:Int)=(match qdo qfj [] cl with|.inl e=>([],[],e)|.inr v=>(v.map (·.1),v.map (·.2),0)):=by
 unfold qkn
 rw[if_neg (by simp only[Bool.true_eq_false,false_or,not_or]; omega),Int.toNat_natCast,List.take_length]
 cases qdo qfj [] cl<;>rfl
def zew:qad:=⟨9,[],[],⟨0,[],⟨0,false,0,[],[],[]⟩,[],[]⟩,[],[⟨⟨1,[],⟨2,false,1,[],[],[]⟩,[],[]⟩,[111,110,101]⟩],false,[],[],[],[],[],false⟩
omit hn h hM in
theorem zod (m:Nat):qet (m+400) zew=some true:=by kernel_rfl
omit hn h hM in
theorem zl1 (v:Env):qfj v zew=.inr [([111,110,101],3)]:=by
 simp[qfj,qd6,zew,qvq,qdo,qew,qc5,qvj,qi1,qjf,qmb,qkk,qcb,qd0,qst]
omit hn h hM in
theorem zcc {n:Nat}:∀ (l:List qad) (k:Nat),qmc n l=true→k<l.length→zho n zew=true→qmc n (l.take k++[zew])=true
 | [],k,_,h,_=>by simp at h
 | c::l,0,_,_,ho=>by simp[qmc,ho]
 | c::l,k+1,hg,hk,ho=>by
  simp only[qmc,Bool.and_eq_true]at hg
  have hl:k<l.length:=by simpa using hk
  have hne:l.isEmpty=false:=by cases l with
   | nil=>simp at hl
   | cons a l=>rfl
  rw[hne]at hg
  simp only[List.take_succ_cons,List.cons_append,qmc,Bool.and_eq_true]
  refine⟨⟨hg.1.1,?_⟩,zcc l k hg.2 hl ho⟩
  have:=hg.1.2
  cases h9:(c.kind==9)with
  | true=>rw[h9]at this; cases this
  | false=>rfl
theorem zjo (at_:Int):qot n ⟨cl⟩ at_=some true:=by
 have hlen:=qbx qdp qo5 cl
 have hcb:(cl.map qdp).sum=qck cl:=rfl
 obtain⟨b,hb⟩:=qw6 hn (cl:=cl) (by omega)
 have c1:=(qpt hn (cl:=cl) (by omega) hM).1
 have homay:zho n zew=true:=by
  obtain⟨m,rfl⟩:=Nat.exists_eq_add_of_le (show 400≤n by omega)
  unfold zho
  rw[Nat.add_comm,zod]
  rfl
 unfold qot
 simp only[hb,qac,qvw (n:=n) (by omega),c1,qcf]
 cases b with
 | true=>rfl
 | false=>
  by_cases h0:cl=[]
  ·subst h0; rfl
  ·have hpos:0<cl.length:=List.length_pos_iff.2 h0
   rw[show(((cl.length:Nat):Int)==0)=false from by rw[beq_eq_false_iff_ne]; omega]
   simp only[cond_false]
   by_cases he:(qkm (qy5 n cl) cl).2=0
   ·rw[he,show((0:Int) != 0)=false from rfl,cond_false]
    have hu:IntKind.u64.wrap ((cl.length:Nat):Int)=((cl.length:Nat):Int):=by
     unfold IntKind.wrap
     simp[IntKind.signed,IntKind.bits]
     omega
    obtain⟨k,hk,hkl⟩:∃ k:Nat,qz9 (IntKind.i64.wrap (Int.tmod (IntKind.u64.wrap at_) ((cl.length:Nat):Int)))=some k∧k<cl.length:=by
     have hx:0≤IntKind.u64.wrap at_:=by
      unfold IntKind.wrap
      simp[IntKind.signed,IntKind.bits]
      omega
     have h1:=Int.tmod_nonneg ((cl.length:Nat):Int) hx
     have h2:=Int.tmod_lt_of_pos (IntKind.u64.wrap at_) (show(0:Int)<((cl.length:Nat):Int) by omega)
     generalize Int.tmod (IntKind.u64.wrap at_) ((cl.length:Nat):Int)=z at h1 h2
     obtain⟨k,rfl⟩:=Int.eq_ofNat_of_zero_le h1
     exact⟨k,by rw[qvx (by omega) (by omega),qqn],by omega⟩
    rw[hu,qc9 (decide_eq_true (by omega)),hk]
    simp only[qac]
    have htl:(cl.take k).length=k:=by rw[List.length_take]; omega
    rw[qc9 (decide_eq_true (by omega)),qc9 (decide_eq_true (by rw[htl]; omega)),qc9 (decide_eq_true (by rw[List.length_append,htl]; simp only[List.length_cons,List.length_nil]; omega))]
    have e0:cl.take k++([⟨9,[],[],⟨0,[],⟨0,false,0,[],[],[]⟩,[],[]⟩,[],[⟨⟨1,[],⟨2,false,1,[],[],[]⟩,[],[]⟩,[111,110,101]⟩],false,[],[],[],[],[],false⟩]:List qad)=cl.take k++[zew]:=rfl
    rw[e0]
    have hts:=zf8 cl k
    have hsz:qck (cl.take k++[zew])≤qck cl+100:=by
     have:qdp zew≤100:=by decide
     unfold qck
     rw[List.map_append,List.sum_append]
     simp only[List.map_cons,List.map_nil,List.sum_cons,List.sum_nil]
     omega
    have hMo:∀ c∈cl.take k++[zew],LenOk c:=by
     intro c hc
     rcases List.mem_append.1 hc with hc|hc
     ·exact hM c (List.mem_of_mem_take hc)
     ·simp only[List.mem_singleton]at hc
      subst hc
      exact⟨by decide,by decide,by decide,by decide,by decide⟩
    have c2:=(qpt hn (cl:=cl.take k++[zew]) (by omega) hMo).1
    have hm:qy5 n cl=true∧∃ v,qdo qfj [] cl=.inr v:=by
     unfold qkm at he
     simp only at he
     cases hmm:qy5 n cl with
     | false=>
      rw[hmm,show qkn false cl (cl.length:Int)=([],[],20)from by unfold qkn; rw[if_pos (.inl rfl)]]at he
      simp at he
     | true=>
      refine⟨rfl,?_⟩
      rw[hmm,qxq]at he
      cases hf:qdo qfj [] cl with
      | inr v=>exact⟨v,rfl⟩
      | inl e=>
       exfalso
       rw[hf]at he
       simp only at he
       have hne:e≠0:=by
        have:∀ (l:List qad) (t:Env),qdo qfj t l=.inl e→e≠0:=by
         intro l
         induction l with
         | nil=>intro t h; cases h
         | cons c l ih=>
          intro t h
          simp only[qdo,qfj]at h
          by_cases h0:(qd6 t c).1=0
          ·rw[if_neg (by simpa using h0)]at h; exact ih _ h
          ·rw[if_pos h0]at h; cases h; exact h0
        exact this cl [] hf
       rw[if_neg (fun h=>hne h.1)]at he
       exact hne he
    obtain⟨hm,v,hv⟩:=hm
    obtain⟨w,hw⟩:∃ w,qdo qfj [] (cl.take k)=.inr w:=by
     have:=qr0 qfj (cl.take k) (cl.drop k) []
     rw[List.take_append_drop,hv]at this
     cases hf:qdo qfj [] (cl.take k)with
     | inl e=>rw[hf]at this; cases this
     | inr w=>exact⟨w,rfl⟩
    have hgood:qmc n cl=true:=by
     unfold qy5 at hm
     rw[Bool.and_eq_true]at hm
     exact hm.2
    have hm2:qy5 n (cl.take k++[zew])=true:=by
     have h64:=(zes hm).2
     unfold qy5 zlh
     rw[zcc cl k hgood hkl homay]
     have e1:q79 (cl.take k++[zew])=true:=by
      unfold q79
      rw[List.getLast?_concat]
      rfl
     rw[e1,decide_eq_true (by rw[List.length_append]; simp only[List.length_cons,List.length_nil]; omega),decide_eq_true (by rw[List.length_append,htl]; simp only[List.length_cons,List.length_nil]; omega)]
     rfl
    have hck:qkm true (cl.take k++[zew])=([[111,110,101]],0):=by
     unfold qkm
     simp only
     rw[qxq,qr0,hw]
     simp only[qdo,zl1]
     rw[if_pos ⟨trivial,zew,by simp,rfl⟩]
     rfl
    rw[hm2,hck]at c2
    rw[c2]
    rfl
   ·rw[show((qkm (qy5 n cl) cl).2 != 0)=true from by simpa using he]
    rfl
end
end W
end
