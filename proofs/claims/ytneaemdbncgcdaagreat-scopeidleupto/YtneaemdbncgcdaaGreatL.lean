/- A part of the proof: the plain law. -/
import Derived.Test.YtneaemdbncgcdaaGreatK
set_option linter.unusedVariables false
set_option linter.unusedSimpArgs false
set_option linter.unnecessarySimpa false
set_option linter.deprecated false
set_option linter.unusedSectionVars false
set_option linter.constructorNameAsVariable false
section
open Go Ax
namespace W
theorem q6b {n:Nat} (hn:n≤1073741824) {l:List qab} (h:40+qc6 l<n) (m:Int):qms n l m=some (l.all (qvl n)&&decide (((l.length:Nat):Int)≤m)):=zlj hn h m
theorem za6 {n:Nat} (hn:n≤1073741824) {x:qab} (h:40+qex x<n):qfd n x=some (qvl n x):=by
 obtain⟨b,h1,h2,_⟩:=qxp hn h
 unfold qvl
 rw[h1,h2]; rfl
theorem zl8 {n:Nat} (hn:n≤1073741824) {p:qa9} (h:42+qi3 p<n):qnj n p=some (q2s n p):=by
 obtain⟨b,h1,h2,_⟩:=za4 hn h
 unfold q2s
 rw[h1,h2]; rfl
theorem zoi {n:Nat} (hn:n≤1073741824) {s:qag} (h:42+qg2 s<n) (f:Bool):qph n s f=some (zay n f s):=by
 unfold qg2 at h
 obtain⟨b,h1,h2,_⟩:=q55 hn (s:=s) (by omega) f
 unfold zay
 rw[h1,h2]; rfl
def exS (n:Nat) (l:List qab):Bool:=l.all (qvl n)&&decide (((l.length:Nat):Int)≤1)
def ze1 (n:Nat) (c:qad):Bool:=c.items.all (fun i=>qdy i.as_&&qvl n i.e)&&(c.order.all (fun s=>qvl n s.e)&&(decide (((c.items.length:Nat):Int)>0)&&(exS n c.skip&&exS n c.limit)))
theorem zmi {n:Nat} (hn:n≤1073741824) {c:qad} (h:42+qdp c<n):quk n c=some (ze1 n c):=by
 have hi:=qbx qqj (fun p=>by unfold qqj; omega) c.items
 have ho:=qbx qg1 (fun p=>by unfold qg1; omega) c.order
 have mi:∀ p∈c.items,42+qqj p<n:=fun p hm=>by have:=qbz qqj hm; unfold qdp at h; omega
 have mo:∀ p∈c.order,42+qg1 p<n:=fun p hm=>by have:=qbz qg1 hm; unfold qdp at h; omega
 have e1:=q6b hn (l:=c.skip) (by unfold qdp at h; omega) 1
 have e2:=q6b hn (l:=c.limit) (by unfold qdp at h; omega) 1
 have a1:c.items.length<n:=by unfold qdp at h; omega
 have a2:c.order.length<n:=by unfold qdp at h; omega
 clear h
 unfold ze1 exS
 obtain⟨x1,x2,x3,⟨x4,x5,⟨x6,x7,x8,x9,x10,x11⟩,x12,x13⟩,x14,x15,x16,x17,x18,x19,x20,x21,x22⟩:=c
 simp only at hi ho mi mo e1 e2 a1 a2 ⊢
 have l2:=qds (B:=qnm n x17 x15 x18 x19) (fun k=>((k:Nat):Int)) (l:=x17) (fun s=>if qvl n s.e then none else some false)
  (rest:=some (decide (((x15.length:Nat):Int)>0)&&((x18.all (qvl n)&&decide (((x18.length:Nat):Int)≤1))&&(x19.all (qvl n)&&decide (((x19.length:Nat):Int)≤1)))))
  (fun k x nx hx=>by
   have hk:=qcm hx
   have h1:=za6 hn (x:=x.e) (by have:=mo x (qbn hx); unfold qg1 at this; omega)
   obtain⟨⟨y1,y2,⟨y3,y4,y5,y6,y7,y8⟩,y9,y10⟩,y11⟩:=x
   simp only at h1
   simp only[qnm,qar.rows,List.length_map,qbf hk,cond_true,qal hx,qac,h1]
   rw[qb8 (by omega)]
   cases qvl n _<;>rfl)
  (fun nx=>by
   simp only[qnm,qar.rows,qbh.rows,List.length_map,qaz,cond_false,e1,e2]
   generalize decide (((x15.length:Nat):Int)>0)=d
   generalize (x18.all (qvl n)&&decide (((x18.length:Nat):Int)≤1))=p
   generalize (x19.all (qvl n)&&decide (((x19.length:Nat):Int)≤1))=q
   cases d<;>cases p<;>cases q<;>rfl) (n:=n) a2
 rw[qtv]at l2
 have l1:=qds (B:=qnl n x15 x17 x18 x19) (fun k=>((k:Nat):Int)) (l:=x15) (fun i=>if(qdy i.as_&&qvl n i.e)then none else some false) (rest:=_)
  (fun k x nx hx=>by
   have hk:=qcm hx
   have hb:=mi x (qbn hx)
   unfold qqj at hb
   have h1:=za6 hn (x:=x.e) (by omega)
   have h2:=qi6 (s:=x.as_) (n:=n) (by omega) (by omega) hn
   obtain⟨⟨y1,y2,⟨y3,y4,y5,y6,y7,y8⟩,y9,y10⟩,y11⟩:=x
   simp only at h1 h2
   simp only[qnl,qbh.rows,List.length_map,qbf hk,cond_true,qal hx,qac,h1,h2]
   rw[qb8 (by omega)]
   cases qdy y11 with
   | false=>rfl
   | true=>
    simp only[Bool.not_true,Bool.not_false,qdw,qac,h1,cond_false]
    cases qvl n _<;>rfl)
  (fun nx=>by
   simp only[qnl,qbh.rows,List.length_map,qaz,cond_false]
   exact l2) (n:=n) a1
 rw[qtv]at l1
 unfold quk
 refine Eq.trans l1 ?_
 generalize x15.all _=a
 generalize x17.all _=b
 cases a<;>cases b<;>rfl
def q1e (n:Nat) (c:qad):Bool:=
 if c.kind=1 then decide (((c.paths.length:Nat):Int)>0)&&exS n c.where_
 else if c.kind=2 then qvl n c.e&&qdy c.var_
 else if c.kind=3∨c.kind=9 then ze1 n c&&exS n c.where_
 else if c.kind=4 then decide (((c.paths.length:Nat):Int)>0)
 else if c.kind=5 then(match c.paths with|[p]=>(((p.edges.length:Nat):Int)==0)|_=>false)
 else if c.kind=6∨c.kind=7 then c.sets.all (zay n (c.kind==6))&&decide (((c.sets.length:Nat):Int)>0)
 else if c.kind=8 then c.vars.all qdy&&decide (((c.vars.length:Nat):Int)>0)
 else false
theorem zcu {n:Nat} (hn:n≤1073741824) {c:qad} (h:42+qdp c<n):∃ s,(s=true↔q8z c=c)∧qet n c=some (s&&(c.paths.all (q2s n)&&q1e n c)):=by
 have hp:=qbx qi3 (fun p=>by unfold qi3; omega) c.paths
 have hs:=qbx qg2 (fun p=>by unfold qg2; omega) c.sets
 have hi:=qbx qqj (fun p=>by unfold qqj; omega) c.items
 have ho:=qbx qg1 (fun p=>by unfold qg1; omega) c.order
 have hv:=qep c.vars
 have mp:∀ p∈c.paths,42+qi3 p<n:=fun p hm=>by have:=qbz qi3 hm; unfold qdp qud at h; omega
 have mi:∀ p∈c.items,qex p.e<n:=fun p hm=>by have:=qbz qqj hm; have e:qqj p=1+p.as_.length+qex p.e:=rfl; unfold qdp at h; omega
 have mo:∀ p∈c.order,qex p.e<n:=fun p hm=>by have:=qbz qg1 hm; have e:qg1 p=1+qex p.e:=rfl; unfold qdp at h; omega
 have ms:∀ p∈c.sets,42+qg2 p<n:=fun p hm=>by have:=qbz qg2 hm; unfold qdp at h; omega
 have ms':∀ p∈c.sets,qex p.e<n:=fun p hm=>by have:=ms p hm; unfold qg2 at this; omega
 have mv:∀ p∈c.vars,42+p.length<n:=fun p hm=>by have:=qbz (fun k:List UInt8=>1+k.length) hm; unfold qdp qo6 at h; omega
 have hrow:=zmi hn h
 have e1:=q6b hn (l:=c.where_) (by unfold qdp at h; omega) 1
 have e2:=za6 hn (x:=c.e) (by unfold qdp at h; omega)
 have e3:=qi6 (s:=c.var_) (n:=n) (by unfold qdp at h; omega) (by omega) hn
 have h40:40<n:=by omega
 unfold qdp qud at h
 have b1:([]:List qab).length=0:=rfl
 have eb:qex q8j=4:=rfl
 obtain⟨s,hs1,hs2⟩:∃ b,qgr n (q8z c) c=some b∧(b=true↔q8z c=c):=by
  have z1:∀ {A:Type} {P:A→Prop},∀ a∈([]:List A),P a:=fun a ha=>by cases ha
  have z2:qc6 []<n:=by show 1<n; omega
  unfold q8z
  repeat' split
  all_goals
   refine za7 hn ?_ ?_ ?_ ?_ ?_ ?_ ?_ ?_ ?_ ?_ ?_ ?_ ?_<;>simp only[qps]<;>first|exact z1|exact z2|exact mi|exact mo|exact ms'|(intro p hm; have:=mp p hm; omega)|(simp only[List.length_nil,eb]; omega)|omega
 refine⟨s,hs2,?_⟩
 have ho:=zps n c
 rw[zoe]at ho
 have l1:qet n c=(bif !s then some false else bif c.paths.all (q2s n)then some (q1e n c)else some false):=by
  clear hs2
  obtain⟨x1,x2,x3,⟨x4,x5,⟨x6,x7,x8,x9,x10,x11⟩,x12,x13⟩,x14,x15,x16,x17,x18,x19,x20,x21,x22⟩:=c
  simp only at hp hs hi ho hv mp ms mv e1 e2 e3 h
  have eta:∀ (d:qad) {R:Type} (f:qad→Option R),(match d with|⟨x23,x24,x25,⟨x26,x27,⟨x28,x29,x30,x31,x32,x33⟩,x34,x35⟩,x36,x37,x38,x39,x40,x41,x42,x43,x44⟩=>f ⟨x23,x24,x25,⟨x26,x27,⟨x28,x29,x30,x31,x32,x33⟩,x34,x35⟩,x36,x37,x38,x39,x40,x41,x42,x43,x44⟩)=f d:=by
   intro d R f
   obtain⟨x1,x2,x3,⟨x4,x5,⟨x6,x7,x8,x9,x10,x11⟩,x12,x13⟩,x14,x15,x16,x17,x18,x19,x20,x21,x22⟩:=d
   rfl
  unfold qet
  simp only[ho,qac]
  refine Eq.trans (eta _ (fun d=>bnd (qgr n d _) fun x45=>bif(!x45)then some false else qap (qfe n x2 x1 x3 x4 x5 x6 x7 x8 x9 x10 x11 x12 x13 x14 x15 x16 x17 x18 x19 x20 x21 x22) n (0:Int))) ?_
  simp only[hs1,qac]
  congr 1
  have L:=qds (B:=qfe n x2 x1 x3 x4 x5 x6 x7 x8 x9 x10 x11 x12 x13 x14 x15 x16 x17 x18 x19 x20 x21 x22) (fun k=>((k:Nat):Int)) (l:=x2) (fun p=>if q2s n p then none else some false)
   (rest:=some (q1e n ⟨x1,x2,x3,⟨x4,x5,⟨x6,x7,x8,x9,x10,x11⟩,x12,x13⟩,x14,x15,x16,x17,x18,x19,x20,x21,x22⟩))
   (fun k x nx hx=>by
    have hk:=qcm hx
    have h1:=zl8 hn (mp x (qbn hx))
    obtain⟨y1,y2⟩:=x
    simp only[qfe,qdb,qbf hk,cond_true,qal hx,qac,h1]
    rw[qb8 (by omega)]
    cases q2s n _<;>rfl)
   (fun nx=>by
    have A:∀ (d p:Bool),(bnd (qa5 d (some p)) fun x50=>some (bif d then x50 else false))=some (d&&p):=by intro d p; cases d<;>cases p<;>rfl
    have l3:=qds (B:=qff n x20 x1) (fun k=>((k:Nat):Int)) (l:=x20) (fun s=>if zay n (x1==6) s then none else some false) (rest:=some (decide (((x20.length:Nat):Int)>0)))
     (fun k x nx hx=>by
      have hk:=qcm hx
      have h1:=zoi hn (ms x (qbn hx)) (x1==6)
      obtain⟨z1,z2,z3,⟨y1,y2,⟨y3,y4,y5,y6,y7,y8⟩,y9,y10⟩⟩:=x
      simp only[qff,qag.rows,List.length_map,qbf hk,cond_true,qal hx,qac,h1]
      rw[qb8 (by omega)]
      cases zay n _ _<;>rfl)
     (fun nx=>by simp only[qff,qag.rows,List.length_map,qaz,cond_false]) (n:=n) (by omega)
    rw[qtv]at l3
    have l3':qap (qff n x20 x1) n (0:Int)=some (x20.all (zay n (x1==6))&&decide (((x20.length:Nat):Int)>0)):=by
     refine Eq.trans l3 ?_
     cases x20.all (zay n (x1==6))<;>rfl
    have l4:=qds (B:=qfg n x21) (fun k=>((k:Nat):Int)) (l:=x21) (fun s=>if qdy s then none else some false) (rest:=some (decide (((x21.length:Nat):Int)>0)))
     (fun k x nx hx=>by
      have hk:=qcm hx
      have h1:=qi6 (s:=x) (n:=n) (by have:=mv x (qbn hx); omega) (by omega) hn
      simp only[qfg,qay,qbf hk,cond_true,qal hx,qac,h1]
      rw[qb8 (by omega)]
      cases qdy x<;>rfl)
     (fun nx=>by simp only[qfg,qay,qaz,cond_false]) (n:=n) (by omega)
    rw[qtv]at l4
    have l4':qap (qfg n x21) n (0:Int)=some (x21.all qdy&&decide (((x21.length:Nat):Int)>0)):=by
     refine Eq.trans l4 ?_
     cases x21.all qdy<;>rfl
    simp only[qfe,qij,qik,qdb,qaz,cond_false,e1,e2,e3,hrow,qac,l3',l4']
    unfold q1e exS
    simp only
    by_cases k1:x1=1
    ·subst k1; exact A _ _
    by_cases k2:x1=2
    ·subst k2; exact A _ _
    by_cases k3:x1=3
    ·subst k3; exact A _ _
    by_cases k9:x1=9
    ·subst k9; exact A _ _
    by_cases k4:x1=4
    ·subst k4; rfl
    by_cases k5:x1=5
    ·subst k5
     match x2 with
     | []=>rfl
     | [p]=>obtain⟨p1,p2⟩:=p; show some ((((qai.rows p2).length:Nat):Int)==0)=some (((p2.length:Nat):Int)==0); rw[qfa]
     | p::q::l=>
      have e1:((((p::q::l).length:Nat):Int)==(1:Int))=false:=by simp only[List.length_cons]; rw[beq_eq_false_iff_ne]; omega
      rw[e1]; rfl
    by_cases k6:x1=6
    ·subst k6; rfl
    by_cases k7:x1=7
    ·subst k7; rfl
    by_cases k8:x1=8
    ·subst k8; rfl
    simp only[beq_eq_false_iff_ne.2 k1,beq_eq_false_iff_ne.2 k2,beq_eq_false_iff_ne.2 k3,beq_eq_false_iff_ne.2 k9,beq_eq_false_iff_ne.2 k4,beq_eq_false_iff_ne.2 k5,beq_eq_false_iff_ne.2 k6,beq_eq_false_iff_ne.2 k7,beq_eq_false_iff_ne.2 k8,cond_false,k1,k2,k3,k9,k4,k5,k6,k7,k8,if_false,or_self]) (n:=n) (by omega)
  rw[qtv]at L
  exact L
 rw[l1]
 cases s<;>cases c.paths.all (q2s n)<;>rfl
end W
end
section
open Go Ax
namespace W
theorem qvg {n:Nat} {A:Type} (f:A→qbl) {l:List A} (h:l.length≤1048576):gOk n (l.map f,1,1048576)=(decide (((l.length:Nat):Int)>0)&&l.all (fun x=>zex n (f x))):=by
 unfold gOk
 simp only[List.length_map,List.all_map]
 rw[decide_eq_false (p:=((l.length:Nat):Int)>1048576) (by omega)]
 have:decide (((l.length:Nat):Int)<1)=!decide (((l.length:Nat):Int)>0):=by
  rw[Bool.eq_iff_iff]; simp only[decide_eq_true_eq,Bool.not_eq_true',decide_eq_false_iff_not]; omega
 rw[this]
 cases decide (((l.length:Nat):Int)>0)<;>rfl
theorem zis {n:Nat} {A:Type} (f:A→qbl) {l:List A} (h:l.length≤1048576):gOk n (l.map f,0,1048576)=l.all (fun x=>zex n (f x)):=by
 unfold gOk
 simp only[List.length_map,List.all_map]
 rw[decide_eq_false (p:=((l.length:Nat):Int)>1048576) (by omega),decide_eq_false (p:=((l.length:Nat):Int)<0) (by omega)]
 rfl
theorem q2i {n:Nat} {A:Type} (f:A→qbl) {l:List A}:gOk n (l.map f,0,1)=(l.all (fun x=>zex n (f x))&&decide (((l.length:Nat):Int)≤1)):=by
 unfold gOk
 simp only[List.length_map,List.all_map]
 rw[decide_eq_false (p:=((l.length:Nat):Int)<0) (by omega)]
 have:decide (((l.length:Nat):Int)>1)=!decide (((l.length:Nat):Int)≤1):=by
  rw[Bool.eq_iff_iff]; simp only[decide_eq_true_eq,Bool.not_eq_true',decide_eq_false_iff_not]; omega
 rw[this]
 show(!(!decide (((l.length:Nat):Int)≤1))&&_)=_
 rw[Bool.not_not,Bool.and_comm]
 rfl
theorem q2j {n:Nat} (p:qbl):gOk n ([p],1,1)=zex n p:=by
 show(true&&(zex n p&&true))=_
 simp
theorem qhb {A:Type} (x:A) (l:List A):((((x::l).length:Nat):Int)==0)=false:=by
 rw[beq_eq_false_iff_ne]; simp only[List.length_cons]; omega
theorem zkg {n:Nat} {x:qab} (h:(qi1 x).1=0):qvl n x=false:=by
 obtain⟨op,name,val,names,args⟩:=x
 have:op=0:=h
 subst this
 have:=zf4 (n:=n) (name:=name) (val:=val) (names:=names) (args:=args) (d:=32)
 unfold qvl
 cases hr:qcv n ⟨0,name,val,names,args⟩ 32 with
 | none=>rfl
 | some b=>
  cases b with
  | false=>rfl
  | true=>exact absurd hr this
structure LenOk (c:qad):Prop where
 paths:c.paths.length≤1048576
 items:c.items.length≤1048576
 order:c.order.length≤1048576
 sets:c.sets.length≤1048576
 vars:c.vars.length≤1048576
theorem qxo {c:qad} (hM:qdp c≤1048576):LenOk c:=by
 have hp:=qbx qi3 (fun p=>by unfold qi3; omega) c.paths
 have hi:=qbx qqj (fun p=>by unfold qqj; omega) c.items
 have ho:=qbx qg1 (fun p=>by unfold qg1; omega) c.order
 have hs:=qbx qg2 (fun p=>by unfold qg2; omega) c.sets
 have hv:=qep c.vars
 unfold qdp qud at hM
 exact⟨by omega,by omega,by omega,by omega,by omega⟩
theorem zkp {n:Nat} {c:qad} (hM:LenOk c) (hk:q8z c=c) (hb:¬ q4s c) {ok:Bool} (hok:ok=true∨(c.kind=2∧(qi1 c.e).1=0)) :
  (ok&&!((((qvs c).length:Nat):Int)==0)&&(qvs c).all (gOk n))=(c.paths.all (q2s n)&&q1e n c):=by
 obtain⟨hp,hi,ho,hs,hv⟩:=hM
 obtain⟨x1,x2,x3,x4,x14,x15,x16,x17,x18,x19,x20,x21,x22⟩:=c
 simp only at hp hi ho hs hv hok
 by_cases k1:x1=1
 ·subst k1
  have hok:ok=true:=by rcases hok with h|h; exact h; exact absurd h.1 (by decide)
  subst hok
  have e:(qvs ⟨1,x2,x3,x4,x14,x15,x16,x17,x18,x19,x20,x21,x22⟩)=[(x2.map .path,1,1048576),(x3.map .expr,0,1)]:=rfl
  rw[e,qhb,List.all_cons,List.all_cons,List.all_nil,qvg .path (by omega),q2i]
  show(true&&(_&&x2.all (q2s n)&&(x3.all (qvl n)&&decide (((x3.length:Nat):Int)≤1)&&true)))=(x2.all (q2s n)&&(_&&(x3.all (qvl n)&&_)))
  generalize x2.all (q2s n)=a
  generalize x3.all (qvl n)=b
  generalize decide (((x2.length:Nat):Int)>0)=d
  generalize decide (((x3.length:Nat):Int)≤1)=f
  cases a<;>cases b<;>cases d<;>cases f<;>rfl
 by_cases k2:x1=2
 ·subst k2
  have hpn:x2=[]:=(congrArg qad.paths hk).symm
  subst hpn
  have e:(qvs ⟨2,[],x3,x4,x14,x15,x16,x17,x18,x19,x20,x21,x22⟩)=[([.expr x4],1,1),([.name x14],1,1)]:=rfl
  rw[e,qhb,List.all_cons,List.all_cons,List.all_nil,q2j,q2j]
  show(ok&&true&&(qvl n x4&&(qdy x14&&true)))=(true&&(qvl n x4&&qdy x14))
  rcases hok with h|h
  ·subst h
   cases qvl n x4<;>cases qdy x14<;>rfl
  ·rw[zkg h.2]
   cases ok<;>rfl
 by_cases k3:x1=3
 ·subst k3
  have hok:ok=true:=by rcases hok with h|h; exact h; exact absurd h.1 (by decide)
  subst hok
  have hpn:x2=[]:=(congrArg qad.paths hk).symm
  subst hpn
  have e:(qvs ⟨3,[],x3,x4,x14,x15,x16,x17,x18,x19,x20,x21,x22⟩)=[(x15.map .item,1,1048576),(x17.map .sorted,0,1048576),(x18.map .expr,0,1),(x19.map .expr,0,1),(x3.map .expr,0,1)]:=rfl
  rw[e,qhb,List.all_cons,List.all_cons,List.all_cons,List.all_cons,List.all_cons,List.all_nil,qvg .item (by omega),zis .sorted (by omega),q2i,q2i,q2i]
  show(true&&true&&((_&&x15.all (fun i=>qdy i.as_&&qvl n i.e))&&(x17.all (fun s=>qvl n s.e)&&(exS n x18&&(exS n x19&&(exS n x3&&true))))))=(true&&((x15.all (fun i=>qdy i.as_&&qvl n i.e)&&(x17.all (fun s=>qvl n s.e)&&(_&&(exS n x18&&exS n x19))))&&exS n x3))
  generalize x15.all _=a
  generalize x17.all _=b
  generalize decide (((x15.length:Nat):Int)>0)=d
  generalize exS n x18=f
  generalize exS n x19=g
  generalize exS n x3=h
  cases a<;>cases b<;>cases d<;>cases f<;>cases g<;>cases h<;>rfl
 by_cases k9:x1=9
 ·subst k9
  have hok:ok=true:=by rcases hok with h|h; exact h; exact absurd h.1 (by decide)
  subst hok
  have hpn:x2=[]:=(congrArg qad.paths hk).symm
  subst hpn
  have hwn:x3=[]:=(congrArg qad.where_ hk).symm
  subst hwn
  have e:(qvs ⟨9,[],[],x4,x14,x15,x16,x17,x18,x19,x20,x21,x22⟩)=[(x15.map .item,1,1048576),(x17.map .sorted,0,1048576),(x18.map .expr,0,1),(x19.map .expr,0,1)]:=rfl
  rw[e,qhb,List.all_cons,List.all_cons,List.all_cons,List.all_cons,List.all_nil,qvg .item (by omega),zis .sorted (by omega),q2i,q2i]
  show(true&&true&&((_&&x15.all (fun i=>qdy i.as_&&qvl n i.e))&&(x17.all (fun s=>qvl n s.e)&&(exS n x18&&(exS n x19&&true)))))=(true&&((x15.all (fun i=>qdy i.as_&&qvl n i.e)&&(x17.all (fun s=>qvl n s.e)&&(_&&(exS n x18&&exS n x19))))&&true))
  generalize x15.all _=a
  generalize x17.all _=b
  generalize decide (((x15.length:Nat):Int)>0)=d
  generalize exS n x18=f
  generalize exS n x19=g
  cases a<;>cases b<;>cases d<;>cases f<;>cases g<;>rfl
 by_cases k4:x1=4
 ·subst k4
  have hok:ok=true:=by rcases hok with h|h; exact h; exact absurd h.1 (by decide)
  subst hok
  have e:(qvs ⟨4,x2,x3,x4,x14,x15,x16,x17,x18,x19,x20,x21,x22⟩)=[(x2.map .path,1,1048576)]:=rfl
  rw[e,qhb,List.all_cons,List.all_nil,qvg .path (by omega)]
  show(true&&true&&((_&&x2.all (q2s n))&&true))=(x2.all (q2s n)&&decide (((x2.length:Nat):Int)>0))
  generalize x2.all (q2s n)=a
  generalize decide (((x2.length:Nat):Int)>0)=d
  cases a<;>cases d<;>rfl
 by_cases k5:x1=5
 ·subst k5
  have hok:ok=true:=by rcases hok with h|h; exact h; exact absurd h.1 (by decide)
  subst hok
  have e:(qvs ⟨5,x2,x3,x4,x14,x15,x16,x17,x18,x19,x20,x21,x22⟩)=[(x2.map .path,1,1)]:=rfl
  rw[e,qhb,List.all_cons,List.all_nil]
  match x2 with
  | []=>rfl
  | [⟨nodes,[]⟩]=>
   rw[show List.map qbl.path [⟨nodes,[]⟩]=[.path ⟨nodes,[]⟩]from rfl,q2j]
   show(true&&true&&(q2s n ⟨nodes,[]⟩&&true))=((q2s n ⟨nodes,[]⟩&&true)&&true)
   cases q2s n ⟨nodes,[]⟩<;>rfl
  | [⟨nodes,e::es⟩]=>exact absurd ⟨rfl,_,rfl,by simp⟩ hb
  | p::q::l=>
   have:gOk n (List.map qbl.path (p::q::l),1,1)=false:=by
    unfold gOk
    simp only[List.length_map,List.length_cons]
    rw[decide_eq_true (p:=((l.length+1+1:Nat):Int)>1) (by omega),Bool.cond_eq_ite]
    simp
   rw[this]
   show _=((p::q::l).all (q2s n)&&false)
   cases(p::q::l).all (q2s n)<;>rfl
 by_cases k6:x1=6
 ·subst k6
  have hok:ok=true:=by rcases hok with h|h; exact h; exact absurd h.1 (by decide)
  subst hok
  have hpn:x2=[]:=(congrArg qad.paths hk).symm
  subst hpn
  have e:(qvs ⟨6,[],x3,x4,x14,x15,x16,x17,x18,x19,x20,x21,x22⟩)=[(x20.map (fun s=>.change ⟨s,true⟩),1,1048576)]:=rfl
  rw[e,qhb,List.all_cons,List.all_nil,qvg _ (by omega)]
  show(true&&true&&((_&&x20.all (zay n true))&&true))=(true&&(x20.all (zay n true)&&_))
  generalize x20.all (zay n true)=a
  generalize decide (((x20.length:Nat):Int)>0)=d
  cases a<;>cases d<;>rfl
 by_cases k7:x1=7
 ·subst k7
  have hok:ok=true:=by rcases hok with h|h; exact h; exact absurd h.1 (by decide)
  subst hok
  have hpn:x2=[]:=(congrArg qad.paths hk).symm
  subst hpn
  have e:(qvs ⟨7,[],x3,x4,x14,x15,x16,x17,x18,x19,x20,x21,x22⟩)=[(x20.map (fun s=>.change ⟨s,false⟩),1,1048576)]:=rfl
  rw[e,qhb,List.all_cons,List.all_nil,qvg _ (by omega)]
  show(true&&true&&((_&&x20.all (zay n false))&&true))=(true&&(x20.all (zay n false)&&_))
  generalize x20.all (zay n false)=a
  generalize decide (((x20.length:Nat):Int)>0)=d
  cases a<;>cases d<;>rfl
 by_cases k8:x1=8
 ·subst k8
  have hok:ok=true:=by rcases hok with h|h; exact h; exact absurd h.1 (by decide)
  subst hok
  have hpn:x2=[]:=(congrArg qad.paths hk).symm
  subst hpn
  have e:(qvs ⟨8,[],x3,x4,x14,x15,x16,x17,x18,x19,x20,x21,x22⟩)=[(x21.map .name,1,1048576)]:=rfl
  rw[e,qhb,List.all_cons,List.all_nil,qvg .name (by omega)]
  show(true&&true&&((_&&x21.all qdy)&&true))=(true&&(x21.all qdy&&_))
  generalize x21.all qdy=a
  generalize decide (((x21.length:Nat):Int)>0)=d
  cases a<;>cases d<;>rfl
 have e:(qvs ⟨x1,x2,x3,x4,x14,x15,x16,x17,x18,x19,x20,x21,x22⟩)=[]:=by
  unfold qvs
  simp only[k1,k2,k3,k9,k4,k5,k6,k7,k8,if_false,or_self]
 have e2:q1e n ⟨x1,x2,x3,x4,x14,x15,x16,x17,x18,x19,x20,x21,x22⟩=false:=by
  unfold q1e
  simp only[k1,k2,k3,k9,k4,k5,k6,k7,k8,if_false,or_self]
 rw[e,e2]
 cases ok<;>cases x2.all (q2s n)<;>rfl
end W
end
section
open Go Ax
namespace W
theorem zqd {n:Nat} (hn:n≤1073741824) {c:qad} (h:42+qdp c<n) (hk:q8z c=c) (hp:c.paths.all (q2s n)=true) (hm:q1e n c=true):WfC c:=by
 have mp:∀ p∈c.paths,42+qi3 p<n:=fun p hm=>by have:=qbz qi3 hm; unfold qdp qud at h; omega
 have mi:∀ p∈c.items,40+qex p.e<n:=fun p hm=>by have:=qbz qqj hm; have e:qqj p=1+p.as_.length+qex p.e:=rfl; unfold qdp at h; omega
 have mo:∀ p∈c.order,40+qex p.e<n:=fun p hm=>by have:=qbz qg1 hm; have e:qg1 p=1+qex p.e:=rfl; unfold qdp at h; omega
 have ms:∀ p∈c.sets,41+qg2 p<n:=fun p hm=>by have:=qbz qg2 hm; unfold qdp at h; omega
 have mw:∀ p∈c.where_,40+qex p<n:=fun p hm=>by have:=qg8 hm; unfold qdp at h; omega
 have mk:∀ p∈c.skip,40+qex p<n:=fun p hm=>by have:=qg8 hm; unfold qdp at h; omega
 have ml:∀ p∈c.limit,40+qex p<n:=fun p hm=>by have:=qg8 hm; unfold qdp at h; omega
 have me:40+qex c.e<n:=by unfold qdp at h; omega
 have wE:∀ {x:qab},40+qex x<n→qvl n x=true→WfE x:=by
  intro x hx hb
  obtain⟨b,h1,_,h3⟩:=qxp hn hx
  unfold qvl at hb
  rw[h1]at hb
  exact h3 hb
 have wL:∀ {l:List qab},(∀ p∈l,40+qex p<n)→exS n l=true→∀ x∈l,WfE x:=by
  intro l hl hb x hx
  unfold exS at hb
  rw[Bool.and_eq_true,List.all_eq_true]at hb
  exact wE (hl x hx) (hb.1 x hx)
 have wP:∀ p∈c.paths,WfP p:=by
  intro p hm
  obtain⟨b,h1,_,h3⟩:=za4 hn (mp p hm)
  have:=List.all_eq_true.1 hp p hm
  unfold q2s at this
  rw[h1]at this
  exact h3 this
 have wS:∀ {f:Bool} {ck:Int},(f=true↔ck=6)→c.sets.all (zay n f)=true→∀ s∈c.sets,WfSet ck s:=by
  intro f ck hf hb s hs
  have h0:=ms s hs
  unfold qg2 at h0
  obtain⟨b,h1,_,h3⟩:=q55 hn (s:=s) (by omega) f
  have:=List.all_eq_true.1 hb s hs
  unfold zay at this
  rw[h1]at this
  obtain⟨a1,a2⟩:=h3 this
  rw[hf]at a1 a2
  exact⟨a1,a2⟩
 have wR:ze1 n c=true→(∀ x∈c.where_,WfE x)→WfRows c:=by
  intro hb hw
  unfold ze1 at hb
  simp only[Bool.and_eq_true]at hb
  obtain⟨h1,h2,h3,h4,h5⟩:=hb
  refine⟨fun i hi=>?_,fun s hs=>?_,wL mk h4,wL ml h5,hw⟩
  ·have:=List.all_eq_true.1 h1 i hi
   rw[Bool.and_eq_true]at this
   refine⟨wE (mi i hi) this.2,fun e=>?_⟩
   rw[e]at this
   exact absurd this.1 (by decide)
  ·exact wE (mo s hs) (List.all_eq_true.1 h2 s hs)
 clear h mp
 obtain⟨x1,x2,x3,x4,x14,x15,x16,x17,x18,x19,x20,x21,x22⟩:=c
 simp only at mi mo ms mw mk ml me wP wS wR hp
 have nil:∀ {A:Type} {P:A→Prop},∀ a∈([]:List A),P a:=fun a ha=>by cases ha
 by_cases k1:x1=1
 ·subst k1
  have hm':(decide (((x2.length:Nat):Int)>0)&&exS n x3)=true:=hm
  rw[Bool.and_eq_true]at hm'
  exact⟨wP,wL mw hm'.2,fun h=>absurd (show(1:Int)=2 from h) (by decide),fun h=>absurd (show(1:Int)=5 from h) (by decide),fun h=>absurd (show(1:Int)=6∨(1:Int)=7 from h) (by decide),fun h=>absurd (show(1:Int)=3∨(1:Int)=9 from h) (by decide),by simp⟩
 by_cases k2:x1=2
 ·subst k2
  have hw:([]:List qab)=x3:=congrArg qad.where_ hk
  subst hw
  have hm':(qvl n x4&&qdy x14)=true:=hm
  rw[Bool.and_eq_true]at hm'
  exact⟨wP,nil,fun _=>⟨wE me hm'.1,fun e=>by have e:x14=[]:=e; rw[e]at hm'; exact absurd hm'.2 (by decide)⟩,fun h=>absurd (show(2:Int)=5 from h) (by decide),fun h=>absurd (show(2:Int)=6∨(2:Int)=7 from h) (by decide),fun h=>absurd (show(2:Int)=3∨(2:Int)=9 from h) (by decide),by simp⟩
 by_cases k3:x1=3
 ·subst k3
  have hm':(ze1 n ⟨3,x2,x3,x4,x14,x15,x16,x17,x18,x19,x20,x21,x22⟩&&exS n x3)=true:=hm
  rw[Bool.and_eq_true]at hm'
  have w:=wL mw hm'.2
  exact⟨wP,w,fun h=>absurd (show(3:Int)=2 from h) (by decide),fun h=>absurd (show(3:Int)=5 from h) (by decide),fun h=>absurd (show(3:Int)=6∨(3:Int)=7 from h) (by decide),fun _=>wR hm'.1 w,by simp⟩
 by_cases k9:x1=9
 ·subst k9
  have hm':(ze1 n ⟨9,x2,x3,x4,x14,x15,x16,x17,x18,x19,x20,x21,x22⟩&&exS n x3)=true:=hm
  rw[Bool.and_eq_true]at hm'
  have w:=wL mw hm'.2
  exact⟨wP,w,fun h=>absurd (show(9:Int)=2 from h) (by decide),fun h=>absurd (show(9:Int)=5 from h) (by decide),fun h=>absurd (show(9:Int)=6∨(9:Int)=7 from h) (by decide),fun _=>wR hm'.1 w,by simp⟩
 by_cases k4:x1=4
 ·subst k4
  have hw:([]:List qab)=x3:=congrArg qad.where_ hk
  subst hw
  exact⟨wP,nil,fun h=>absurd (show(4:Int)=2 from h) (by decide),fun h=>absurd (show(4:Int)=5 from h) (by decide),fun h=>absurd (show(4:Int)=6∨(4:Int)=7 from h) (by decide),fun h=>absurd (show(4:Int)=3∨(4:Int)=9 from h) (by decide),by simp⟩
 by_cases k5:x1=5
 ·subst k5
  have hw:([]:List qab)=x3:=congrArg qad.where_ hk
  subst hw
  refine⟨wP,nil,fun h=>absurd (show(5:Int)=2 from h) (by decide),fun _=>?_,fun h=>absurd (show(5:Int)=6∨(5:Int)=7 from h) (by decide),fun h=>absurd (show(5:Int)=3∨(5:Int)=9 from h) (by decide),by simp⟩
  match x2 with
  | []=>exact absurd (show false=true from hm) (by decide)
  | [p]=>exact⟨p,rfl⟩
  | p::q::l=>exact absurd (show false=true from hm) (by decide)
 by_cases k6:x1=6
 ·subst k6
  have hw:([]:List qab)=x3:=congrArg qad.where_ hk
  subst hw
  have hm':(x20.all (zay n true)&&decide (((x20.length:Nat):Int)>0))=true:=hm
  rw[Bool.and_eq_true]at hm'
  exact⟨wP,nil,fun h=>absurd (show(6:Int)=2 from h) (by decide),fun h=>absurd (show(6:Int)=5 from h) (by decide),fun _=>wS (by simp) hm'.1,fun h=>absurd (show(6:Int)=3∨(6:Int)=9 from h) (by decide),by simp⟩
 by_cases k7:x1=7
 ·subst k7
  have hw:([]:List qab)=x3:=congrArg qad.where_ hk
  subst hw
  have hm':(x20.all (zay n false)&&decide (((x20.length:Nat):Int)>0))=true:=hm
  rw[Bool.and_eq_true]at hm'
  exact⟨wP,nil,fun h=>absurd (show(7:Int)=2 from h) (by decide),fun h=>absurd (show(7:Int)=5 from h) (by decide),fun _=>wS (by simp) hm'.1,fun h=>absurd (show(7:Int)=3∨(7:Int)=9 from h) (by decide),by simp⟩
 by_cases k8:x1=8
 ·subst k8
  have hw:([]:List qab)=x3:=congrArg qad.where_ hk
  subst hw
  exact⟨wP,nil,fun h=>absurd (show(8:Int)=2 from h) (by decide),fun h=>absurd (show(8:Int)=5 from h) (by decide),fun h=>absurd (show(8:Int)=6∨(8:Int)=7 from h) (by decide),fun h=>absurd (show(8:Int)=3∨(8:Int)=9 from h) (by decide),by simp⟩
 have e2:q1e n ⟨x1,x2,x3,x4,x14,x15,x16,x17,x18,x19,x20,x21,x22⟩=false:=by
  unfold q1e
  simp only[k1,k2,k3,k9,k4,k5,k6,k7,k8,if_false,or_self]
 rw[e2]at hm
 cases hm
def zho (n:Nat) (c:qad):Bool:=(qet n c).getD false
theorem q2g {n:Nat} (hn:n≤1073741824) {c:qad} (h:42+qdp c<n) (hM:LenOk c) :
  qet n c=some (zho n c)∧(zho n c=true→WfC c∧q8z c=c∧c.paths.all (q2s n)=true∧q1e n c=true)∧∃ gl ok,ql3 n c=some (gl,ok)∧gl.length≤5∧(∀ g∈gl,g.parts.length<n∧∀ p∈g.parts,42+q4l p<n) ∧
   (ok&&!(((gl.length:Nat):Int)==0)&&(gl.map g3).all (gOk n))=zho n c:=by
 obtain⟨s,hs,he⟩:=zcu hn h
 have hmc:zho n c=(s&&(c.paths.all (q2s n)&&q1e n c)):=by unfold zho; rw[he]; rfl
 refine⟨by rw[he,hmc],fun hb=>?_,?_⟩
 ·rw[hmc]at hb
  simp only[Bool.and_eq_true]at hb
  exact⟨zqd hn h (hs.1 hb.1) hb.2.1 hb.2.2,hs.1 hb.1,hb.2.1,hb.2.2⟩
 ·rcases zi2 hn (c:=c) (by omega)with ⟨⟨hk5,p,hp,hpe⟩,ho⟩|⟨hb,gl,ok,ho,hg3,h1,h2⟩
  ·refine⟨[],false,ho,by simp,(fun g hg=>by cases hg),?_⟩
   have:q1e n c=false:=by
    unfold q1e
    rw[hk5,hp]
    have:(((p.edges.length:Nat):Int)==0)=false:=by
     rw[beq_eq_false_iff_ne]
     intro e
     have:p.edges.length=0:=by omega
     exact hpe (List.length_eq_zero_iff.1 this)
    exact this
   rw[hmc,this]
   cases s<;>cases c.paths.all (q2s n)<;>rfl
  ·have hlen:gl.length=(qvs c).length:=by rw[← hg3,List.length_map]
   refine⟨gl,ok,ho,?_,fun g hg=>?_,?_⟩
   ·rw[hlen]
    unfold qvs
    repeat' split
    all_goals simp
   ·have:=ze6 (Nat.le_refl (qdp c)) (g3 g) (by rw[← hg3]; exact List.mem_map.2 ⟨g,hg,rfl⟩)
    simp only[g3]at this
    exact⟨by omega,fun p hp=>by have:=this.2 p hp; omega⟩
   ·rw[hmc,hg3,hlen]
    cases hsb:s with
    | false=>
     have:ok=false:=by
      cases ok with
      | false=>rfl
      | true=>have:=hs.2 (h1 rfl); rw[hsb]at this; cases this
     rw[this]; rfl
    | true=>
     have hk:=hs.1 hsb
     rw[zkp hM hk hb (h2 hk)]
     rfl
end W
end
section
open Go Ax
namespace W
def wr (k:Int):Bool:=bif decide (k≥4)then decide (k≤8)else false
theorem q81 (n:Nat) (k:Int):qpg n k=some (wr k):=by
 unfold qpg wr
 congr 1
 by_cases h4:k=4; · subst h4; rfl
 by_cases h5:k=5; · subst h5; rfl
 by_cases h6:k=6; · subst h6; rfl
 by_cases h7:k=7; · subst h7; rfl
 by_cases h8:k=8; · subst h8; rfl
 rw[beq_eq_false_iff_ne.2 h4,beq_eq_false_iff_ne.2 h5,beq_eq_false_iff_ne.2 h6,beq_eq_false_iff_ne.2 h7,beq_eq_false_iff_ne.2 h8]
 by_cases h:k≥4
 ·rw[decide_eq_true h,decide_eq_false (by omega)]; rfl
 ·rw[decide_eq_false h]; rfl
def q79 (cl:List qad):Bool:=match cl.getLast? with|some c=>(c.kind==9)||wr c.kind|none=>false
def zlh (cl:List qad):Bool:=(decide (0<cl.length)&&decide (cl.length≤64))&&q79 cl
def qmc (n:Nat):List qad→Bool
 | []=>true
 | c::l=>(zho n c&&!((c.kind==9)&&!l.isEmpty))&&qmc n l
def qy5 (n:Nat) (cl:List qad):Bool:=zlh cl&&qmc n cl
theorem zes {n:Nat} {cl:List qad} (h:qy5 n cl=true):0<cl.length∧cl.length≤64:=by
 unfold qy5 zlh at h
 simp only[Bool.and_eq_true,decide_eq_true_eq]at h
 exact h.1.1
theorem ze0:∀ (ok e a nine lt r:Bool),(bif bif bif !ok then true else e then true else bif nine then lt else false then some false else bif a then some r else some false)=some (((ok&&!e&&a)&&!(nine&&lt))&&r):=by
 intro ok e a nine lt r
 cases ok<;>cases e<;>cases a<;>cases nine<;>cases lt<;>cases r<;>rfl
theorem zij {cl:List qad} {k:Nat}:decide ((((k+1:Nat):Int))<((cl.length:Nat):Int))=!(cl.drop (k+1)).isEmpty:=by
 rw[Bool.eq_iff_iff,decide_eq_true_eq,Bool.not_eq_true',List.isEmpty_eq_false_iff,ne_eq,List.drop_eq_nil_iff]
 omega
section
variable {n:Nat} (hn:n≤1073741824) {cl:List qad} (h:42+qck cl<n) (hM:∀ c∈cl,LenOk c)
include hn h hM
theorem zg2:∀ m k:Nat,k≤cl.length→cl.length - k<m→qap (qfs n cl) m (k:Int)=some (qmc n (cl.drop k)):=by
 have hlen:=qbx qdp qo5 cl
 unfold qck at h
 intro m
 induction m with
 | zero=>intro k _ h; omega
 | succ m ih=>
  intro k hk hm
  rw[qa0]
  by_cases he:k=cl.length
  ·subst he
   rw[List.drop_length]
   simp only[qfs,qcf,qaz,cond_false]
   rfl
  ·have hkl:k<cl.length:=by omega
   have hx:=List.getElem?_eq_getElem hkl
   rw[List.drop_eq_getElem_cons hkl]
   generalize cl[k]=x at hx
   have hb:=qbz qdp (qbn hx)
   obtain⟨_,_,gl,ok,ho,hg5,hgp,hval⟩:=q2g hn (c:=x) (by omega) (hM _ (qbn hx))
   have hgl:=zd7 hn hgp (by omega) (qap (qfs n cl) m) (k:=k) (by omega)
   rw[ih (k+1) (by omega) (by omega)]at hgl
   have hd:=zij (cl:=cl) (k:=k)
   unfold qmc
   rw[← hval]
   clear hval
   obtain⟨x1,x2,x3,⟨x4,x5,⟨x6,x7,x8,x9,x10,x11⟩,x12,x13⟩,x14,x15,x16,x17,x18,x19,x20,x21,x22⟩:=x
   simp only[qfs,qcf,qbf hkl,cond_true,qal hx,qac,ho,qvh,hgl]
   rw[qb8 (by omega),hd]
   exact ze0 _ _ _ _ _ _
theorem zn9 (nx:Int→Option Bool):qmr n cl nx ((cl.length:Nat):Int)=some (zlh cl):=by
 have hlen:=qbx qdp qo5 cl
 unfold qck at h
 simp only[qmr,qcf,qaz,cond_false,q81]
 by_cases h0:cl=[]
 ·subst h0; rfl
 ·obtain⟨l,c,rfl⟩:∃ l c,cl=l++[c]:=⟨cl.dropLast,cl.getLast h0,(List.dropLast_concat_getLast h0).symm⟩
  have e1:IntKind.i64.wrap ((((l++[c]).length:Nat):Int) - 1)=((l.length:Nat):Int):=by
   rw[qvx (by omega) (by omega)]; simp
  have e2:(l++[c])[l.length]? =some c:=by simp
  have e3:q79 (l++[c])=((c.kind==9)||wr c.kind):=by unfold q79; simp
  rw[e1,qal e2]
  unfold zlh
  rw[e3]
  have e4:decide ((((l++[c]).length:Nat):Int)>0)=true:=decide_eq_true (by simp only[List.length_append,List.length_cons,List.length_nil]; omega)
  have e5:decide (0<(l++[c]).length)=true:=decide_eq_true (by simp)
  have e6:decide ((((l++[c]).length:Nat):Int)≤64)=decide ((l++[c]).length≤64):=by
   rw[Bool.eq_iff_iff]; simp only[decide_eq_true_eq]; omega
  rw[e4,e5,e6,cond_true]
  generalize decide ((l++[c]).length≤64)=d
  clear e1 e2 e3 e4 e5 e6 h hM hlen h0
  obtain⟨x1,x2,x3,⟨x4,x5,⟨x6,x7,x8,x9,x10,x11⟩,x12,x13⟩,x14,x15,x16,x17,x18,x19,x20,x21,x22⟩:=c
  cases d with
  | false=>rfl
  | true=>
   simp only[qdw,qac,Bool.true_and]
   cases hk:(x1==9)with
   | true=>rfl
   | false=>
    simp only[Bool.not_false,qdw,qac]
    rfl
theorem zlv:∀ m k:Nat,k≤cl.length→cl.length - k<m→qap (qmr n cl) m (k:Int)=bif qmc n (cl.drop k)then some (zlh cl)else some false:=by
 have hlen:=qbx qdp qo5 cl
 have hend:=zn9 hn h hM
 unfold qck at h
 intro m
 induction m with
 | zero=>intro k _ h; omega
 | succ m ih=>
  intro k hk hm
  rw[qa0]
  by_cases he:k=cl.length
  ·subst he
   rw[List.drop_length,hend]
   rfl
  ·have hkl:k<cl.length:=by omega
   have hx:=List.getElem?_eq_getElem hkl
   rw[List.drop_eq_getElem_cons hkl]
   generalize cl[k]=x at hx
   have hb:=qbz qdp (qbn hx)
   obtain⟨hmay,_⟩:=q2g hn (c:=x) (by omega) (hM _ (qbn hx))
   have hd:=zij (cl:=cl) (k:=k)
   have ih':=ih (k+1) (by omega) (by omega)
   unfold qmc
   obtain⟨x1,x2,x3,⟨x4,x5,⟨x6,x7,x8,x9,x10,x11⟩,x12,x13⟩,x14,x15,x16,x17,x18,x19,x20,x21,x22⟩:=x
   simp only[qmr,qcf,qbf hkl,cond_true,qal hx,qac,hmay]
   rw[qb8 (by omega),hd,ih']
   cases zho n _ with
   | false=>rfl
   | true=>
    simp only[Bool.not_true,Bool.not_false,qdw,qac,cond_false]
    cases(x1==9)<;>cases(cl.drop (k+1)).isEmpty<;>rfl
theorem q8v:qmq n ⟨cl⟩=some (qy5 n cl):=by
 have hlen:=qbx qdp qo5 cl
 have e:=zlv hn h hM n 0 (by omega) (by unfold qck at h; omega)
 unfold qmq qy5
 refine Eq.trans e ?_
 rw[List.drop_zero]
 cases qmc n cl<;>cases zlh cl<;>rfl
theorem zdf:qnu n ⟨cl⟩=some (qy5 n cl):=by
 have hlen:=qbx qdp qo5 cl
 have e:=zg2 hn h hM n 0 (by omega) (by unfold qck at h; omega)
 rw[List.drop_zero]at e
 unfold qnu qy5
 unfold qck at h
 simp only[qcf,qrd]
 by_cases h0:cl=[]
 ·subst h0; rfl
 ·obtain⟨l,c,rfl⟩:∃ l c,cl=l++[c]:=⟨cl.dropLast,cl.getLast h0,(List.dropLast_concat_getLast h0).symm⟩
  have e1:IntKind.i64.wrap ((((l++[c]).length:Nat):Int) - 1)=((l.length:Nat):Int):=by
   rw[qvx (by omega) (by omega)]; simp
  have e2:(l++[c])[l.length]? =some c:=by simp
  have e3:q79 (l++[c])=((c.kind==9)||wr c.kind):=by unfold q79; simp
  rw[e1,qal e2]
  unfold zlh
  rw[e3]
  have e4:decide ((((l++[c]).length:Nat):Int)<1)=false:=decide_eq_false (by simp only[List.length_append,List.length_cons,List.length_nil]; omega)
  have e5:decide (0<(l++[c]).length)=true:=decide_eq_true (by simp)
  have e6:decide ((((l++[c]).length:Nat):Int)>64)=!decide ((l++[c]).length≤64):=by
   rw[Bool.eq_iff_iff]; simp only[decide_eq_true_eq,Bool.not_eq_true',decide_eq_false_iff_not]; omega
  rw[e4,e5,e6,cond_false]
  have e':qap (qfs n (l++[c])) n 0=some (qmc n (l++[c])):=e
  rw[e']
  generalize qmc n (l++[c])=g
  generalize decide ((l++[c]).length≤64)=d
  clear e1 e2 e3 e4 e5 e6 h hM hlen h0 e e'
  obtain⟨x1,x2,x3,⟨x4,x5,⟨x6,x7,x8,x9,x10,x11⟩,x12,x13⟩,x14,x15,x16,x17,x18,x19,x20,x21,x22⟩:=c
  cases d with
  | false=>rfl
  | true=>
   simp only[Bool.not_true,Bool.not_false,qdw,qac,Bool.true_and]
   unfold wr
   cases(bif decide (x1≥4)then decide (x1≤8)else false)with
   | true=>cases(x1==9)<;>cases g<;>rfl
   | false=>
    simp only[Bool.not_false,qdw,qac]
    unfold bne
    cases(x1==9)<;>cases g<;>rfl
theorem q6k:qy5 n cl=true→∀ c∈cl,WfC c:=by
 unfold qck at h
 intro hm
 unfold qy5 at hm
 rw[Bool.and_eq_true]at hm
 have key:∀ l:List qad,(∀ c∈l,c∈cl)→qmc n l=true→∀ c∈l,WfC c:=by
  intro l
  induction l with
  | nil=>intro _ _ c hc; cases hc
  | cons a l ih=>
   intro hs hg c hc
   simp only[qmc,Bool.and_eq_true]at hg
   have hb:=qbz qdp (hs a (by simp))
   rcases List.mem_cons.1 hc with rfl|hc
   ·exact((q2g hn (c:=c) (by omega) (hM _ (hs c (by simp)))).2.1 hg.1.1).1
   ·exact ih (fun c hc=>hs c (by simp[hc])) hg.2 c hc
 exact key cl (fun c hc=>hc) hm.2
end
end W
end
section
open Go Ax
namespace W
theorem qrk {R:Type} {B:(Int×Int→Option R)→Int×Int→Option R} {len:Nat} (K:Int→Option R) (hs:∀ k:Nat,k<len→∀ (acc:Int) (nx:Int×Int→Option R),B nx (acc,(k:Int))=K acc∨∃ acc',B nx (acc,(k:Int))=nx (acc',((k+1:Nat):Int)))
  (he:∀ (acc:Int) (nx:Int×Int→Option R),B nx (acc,(len:Int))=K acc) {n:Nat} (hn:len<n) (acc:Int):∃ acc',qap B n (acc,(0:Int))=K acc':=by
 have key:∀ (m k:Nat) (acc:Int),k≤len→len - k<m→∃ acc',qap B m (acc,(k:Int))=K acc':=by
  intro m
  induction m with
  | zero=>intro k _ _ h; omega
  | succ m ih=>
   intro k acc hk hm
   rw[qa0]
   by_cases h:k=len
   ·subst h; exact⟨_,he _ _⟩
   ·rcases hs k (by omega) acc (qap B m)with h|⟨acc',h⟩
    ·exact⟨_,h⟩
    ·rw[h]; exact ih (k+1) acc' (by omega) (by omega)
 exact key n 0 acc (by omega) (by omega)
theorem zka:∀ n:Nat,n≤1073741824→∀ v:Val,q0e v<n→∃ r,qmk n v=some r:=by
 intro n
 induction n with
 | zero=>intro _ v h; omega
 | succ n ih=>
  intro hn v hv
  obtain⟨x1,x2,x3,x4,x5,x6⟩:=v
  have hl:=qqs x5
  simp only[q0e]at hv
  simp only[qmk,qti]
  obtain⟨a,h⟩:=qrk (B:=qlj n x5 (qmk n)) (len:=x5.length) some
   (fun k hk acc nx=>by
    have hx:=List.getElem?_eq_getElem hk
    generalize x5[k]=y at hx
    obtain⟨r,hr⟩:=ih (by omega) y (by have:=qxg (qbn hx); omega)
    obtain⟨y1,y2,y3,y4,y5,y6⟩:=y
    right
    simp only[qlj,qfk,qbf hk,cond_true,qal hx,qac,hr]
    rw[qb8 (by omega)]
    exact⟨_,rfl⟩)
   (fun acc nx=>by simp only[qlj,qfk,qaz,cond_false]) (n:=n) (by omega) 1
  exact⟨_,h⟩
theorem qxh:∀ n:Nat,n≤1073741824→∀ x:qab,qex x<n→∀ m:Int,∃ r,qgs n x m=some r:=by
 intro n
 induction n with
 | zero=>intro _ v h; omega
 | succ n ih=>
  intro hn x hx m
  obtain⟨x1,x2,⟨x3,x4,x5,x6,x7,x8⟩,x9,x10⟩:=x
  have hl:=qeg x10
  simp only[qex]at hx
  obtain⟨p,hp⟩:=zka n (by omega) ⟨x3,x4,x5,x6,x7,x8⟩ (by omega)
  simp only[qgs,qtj,hp,qac]
  obtain⟨a,h⟩:=qrk (B:=qlr n x10 m (qgs n)) (len:=x10.length) some
   (fun k hk acc nx=>by
    have hx:=List.getElem?_eq_getElem hk
    generalize x10[k]=y at hx
    simp only[qlr,qaq,qbf hk,cond_true]
    by_cases hc:acc<m
    ·obtain⟨r,hr⟩:=ih (by omega) y (by have:=qg8 (qbn hx); omega) (IntKind.i64.wrap (m - acc))
     obtain⟨y1,y2,⟨y3,y4,y5,y6,y7,y8⟩,y9,y10⟩:=y
     right
     simp only[decide_eq_true hc,cond_true,qal hx,qac,hr]
     rw[qb8 (by omega)]
     exact⟨_,rfl⟩
    ·left; rw[decide_eq_false hc]; rfl)
   (fun acc nx=>by simp only[qlr,qaq,qaz,cond_false]) (n:=n) (by omega) _
  exact⟨_,h⟩
theorem qr4 {n:Nat} (hn:n≤1073741824) {l:List qab} (h:qc6 l<n) (m:Int):∃ r,qf8 n l m=some r:=by
 have hl:=qeg l
 unfold qf8
 exact qrk (B:=qhn n l m) (len:=l.length) some
  (fun k hk acc nx=>by
   have hx:=List.getElem?_eq_getElem hk
   generalize l[k]=y at hx
   simp only[qhn,qaq,qbf hk,cond_true]
   by_cases hc:acc<m
   ·obtain⟨r,hr⟩:=qxh n hn y (by have:=qg8 (qbn hx); omega) (IntKind.i64.wrap (m - acc))
    obtain⟨y1,y2,⟨y3,y4,y5,y6,y7,y8⟩,y9,y10⟩:=y
    right
    simp only[decide_eq_true hc,cond_true,qal hx,qac,hr]
    rw[qb8 (by omega)]
    exact⟨_,rfl⟩
   ·left; rw[decide_eq_false hc]; rfl)
  (fun acc nx=>by simp only[qhn,qaq,qaz,cond_false]) (n:=n) (by omega) 0
theorem qw6 {n:Nat} (hn:n≤1073741824) {cl:List qad} (h:qck cl<n):∃ r,qkt n ⟨cl⟩=some r:=by
 have hlen:=qbx qdp qo5 cl
 unfold qck at h
 unfold qkt
 obtain⟨a,e⟩:=qrk (B:=qlm n cl) (len:=cl.length) (fun acc=>some (decide (acc≥3000)))
  (fun k hk acc nx=>by
   have hx:=List.getElem?_eq_getElem hk
   generalize cl[k]=c at hx
   have hb:qdp c<n:=by have:=qbz qdp (qbn hx); omega
   simp only[qlm,qcf,qbf hk,cond_true]
   by_cases hc:acc<3000
   ·right
    have hp:=qbx qi3 (fun p=>by unfold qi3; omega) c.paths
    have hi:=qbx qqj (fun p=>by unfold qqj; omega) c.items
    have ho:=qbx qg1 (fun p=>by unfold qg1; omega) c.order
    have hs:=qbx qg2 (fun p=>by unfold qg2; omega) c.sets
    have mp:∀ p∈c.paths,qi3 p<n:=fun p hm=>by have:=qbz qi3 hm; unfold qdp qud at hb; omega
    have mi:∀ p∈c.items,qex p.e<n:=fun p hm=>by have:=qbz qqj hm; have e:qqj p=1+p.as_.length+qex p.e:=rfl; unfold qdp at hb; omega
    have mo:∀ p∈c.order,qex p.e<n:=fun p hm=>by have:=qbz qg1 hm; have e:qg1 p=1+qex p.e:=rfl; unfold qdp at hb; omega
    have ms:∀ p∈c.sets,qex p.e<n:=fun p hm=>by have:=qbz qg2 hm; have e:qg2 p=1+p.var_.length+p.key.length+p.label.length+qex p.e:=rfl; unfold qdp at hb; omega
    obtain⟨r1,h1⟩:=qxh n hn c.e (by unfold qdp at hb; omega) 3000
    obtain⟨r2,h2⟩:=qr4 hn (l:=c.where_) (by unfold qdp at hb; omega) 3000
    obtain⟨r3,h3⟩:=qr4 hn (l:=c.skip) (by unfold qdp at hb; omega) 3000
    obtain⟨r4,h4⟩:=qr4 hn (l:=c.limit) (by unfold qdp at hb; omega) 3000
    unfold qdp qud at hb
    obtain⟨x1,x5,x6,⟨x7,x8,⟨x9,x10,x11,x12,x13,x14⟩,x15,x16⟩,x17,x18,x19,x20,x21,x22,x23,x24,x25⟩:=c
    simp only at hp hi ho hs mp mi mo ms h1 h2 h3 h4 hb
    simp only[decide_eq_true hc,cond_true,qal hx,qac,h1,h2,h3,h4]
    have L7:∀ acc:Int,∃ acc',qap (qhf n x23 nx (k:Int)) n (acc,(0:Int))=nx (acc',((k+1:Nat):Int)):=fun acc=>qrk (B:=qhf n x23 nx (k:Int)) (len:=x23.length) (fun acc=>nx (acc,((k+1:Nat):Int)))
     (fun j hj acc nx2=>by
      have hy:=List.getElem?_eq_getElem hj
      generalize x23[j]=y at hy
      simp only[qhf,qag.rows,List.length_map,qbf hj,cond_true]
      by_cases hc:acc<3000
      ·obtain⟨r,hr⟩:=qxh n hn y.e (ms y (qbn hy)) 3000
       obtain⟨z1,z2,z3,⟨y1,y2,⟨y3,y4,y5,y6,y7,y8⟩,y9,y10⟩⟩:=y
       simp only at hr
       right
       simp only[decide_eq_true hc,cond_true,qal hy,qac,hr]
       rw[qb8 (k:=j) (by omega)]
       exact⟨_,rfl⟩
      ·left; rw[decide_eq_false hc,cond_false,qb8 (by omega)])
     (fun acc nx2=>by
      simp only[qhf,qag.rows,List.length_map,qaz,cond_false]
      rw[qb8 (by omega)]) (n:=n) (by omega) acc
    have L6:∀ acc:Int,∃ acc',qap (qhe n x20 x23 nx (k:Int)) n (acc,(0:Int))=nx (acc',((k+1:Nat):Int)):=fun acc=>by
     obtain⟨a,ha⟩:=qrk (B:=qhe n x20 x23 nx (k:Int)) (len:=x20.length) (fun acc=>qap (qhf n x23 nx (k:Int)) n (acc,(0:Int)))
      (fun j hj acc nx2=>by
       have hy:=List.getElem?_eq_getElem hj
       generalize x20[j]=y at hy
       simp only[qhe,qar.rows,List.length_map,qbf hj,cond_true]
       by_cases hc:acc<3000
       ·obtain⟨r,hr⟩:=qxh n hn y.e (mo y (qbn hy)) 3000
        obtain⟨⟨y1,y2,⟨y3,y4,y5,y6,y7,y8⟩,y9,y10⟩,z1⟩:=y
        simp only at hr
        right
        simp only[decide_eq_true hc,cond_true,qal hy,qac,hr]
        rw[qb8 (k:=j) (by omega)]
        exact⟨_,rfl⟩
       ·left; rw[decide_eq_false hc,cond_false])
      (fun acc nx2=>by simp only[qhe,qar.rows,List.length_map,qaz,cond_false]) (n:=n) (by omega) acc
     rw[ha]; exact L7 a
    have L5:∀ acc:Int,∃ acc',qap (qhd n x18 x20 x23 nx (k:Int)) n (acc,(0:Int))=nx (acc',((k+1:Nat):Int)):=fun acc=>by
     obtain⟨a,ha⟩:=qrk (B:=qhd n x18 x20 x23 nx (k:Int)) (len:=x18.length) (fun acc=>qap (qhe n x20 x23 nx (k:Int)) n (acc,(0:Int)))
      (fun j hj acc nx2=>by
       have hy:=List.getElem?_eq_getElem hj
       generalize x18[j]=y at hy
       simp only[qhd,qbh.rows,List.length_map,qbf hj,cond_true]
       by_cases hc:acc<3000
       ·obtain⟨r,hr⟩:=qxh n hn y.e (mi y (qbn hy)) 3000
        obtain⟨⟨y1,y2,⟨y3,y4,y5,y6,y7,y8⟩,y9,y10⟩,z1⟩:=y
        simp only at hr
        right
        simp only[decide_eq_true hc,cond_true,qal hy,qac,hr]
        rw[qb8 (k:=j) (by omega)]
        exact⟨_,rfl⟩
       ·left; rw[decide_eq_false hc,cond_false])
      (fun acc nx2=>by simp only[qhd,qbh.rows,List.length_map,qaz,cond_false]) (n:=n) (by omega) acc
     rw[ha]; exact L6 a
    have L2:∀ acc:Int,∃ acc',qap (qi7 n x5 x18 x20 x23 nx (k:Int)) n (acc,(0:Int))=nx (acc',((k+1:Nat):Int)):=fun acc=>by
     obtain⟨a,ha⟩:=qrk (B:=qi7 n x5 x18 x20 x23 nx (k:Int)) (len:=x5.length) (fun acc=>qap (qhd n x18 x20 x23 nx (k:Int)) n (acc,(0:Int)))
      (fun j hj acc nx2=>by
       have hy:=List.getElem?_eq_getElem hj
       generalize x5[j]=p at hy
       have hpb:=mp p (qbn hy)
       simp only[qi7,qdb,qbf hj,cond_true]
       by_cases hc:acc<3000
       ·right
        rw[decide_eq_true hc,cond_true]
        obtain⟨nodes,edges⟩:=p
        unfold qi3 at hpb
        simp only at hpb
        have hn1:=qbx qg9 (fun p=>by unfold qg9; omega) nodes
        have hn2:=qbx qjg (fun p=>by unfold qjg; omega) edges
        obtain⟨b,hb3⟩:=qrk (B:=qln n x5 (j:Int) nx2) (len:=nodes.length) (fun acc=>qap (qi8 n x5 (j:Int) nx2) n (acc,(0:Int)))
         (fun i hi acc nx3=>by
          have hz:=List.getElem?_eq_getElem hi
          generalize nodes[i]=d at hz
          have hdb:qg9 d<n:=by have:=qbz qg9 (qbn hz); omega
          simp only[qln,qal hy,qac,qda,qbf hi,cond_true]
          by_cases hc:acc<3000
          ·obtain⟨r,hr⟩:=qr4 hn (l:=d.vals) (by unfold qg9 at hdb; omega) 3000
           obtain⟨d1,d2,d3,d4⟩:=d
           simp only at hr
           right
           simp only[decide_eq_true hc,cond_true,qal hz,qac,hr]
           rw[qb8 (k:=i) (by omega)]
           exact⟨_,rfl⟩
          ·left; rw[decide_eq_false hc,cond_false])
         (fun acc nx3=>by simp only[qln,qal hy,qac,qda,qaz,cond_false]) (n:=n) (by omega) acc
        rw[hb3]
        exact qrk (B:=qi8 n x5 (j:Int) nx2) (len:=edges.length) (fun acc=>nx2 (acc,((j+1:Nat):Int)))
         (fun i hi acc nx3=>by
          have hz:=List.getElem?_eq_getElem hi
          generalize edges[i]=d at hz
          have hdb:qjg d<n:=by have:=qbz qjg (qbn hz); omega
          simp only[qi8,qal hy,qac,qfa,qbf hi,cond_true]
          by_cases hc:acc<3000
          ·obtain⟨r,hr⟩:=qr4 hn (l:=d.vals) (by unfold qjg at hdb; omega) 3000
           obtain⟨d1,d2,d3,d4,d5⟩:=d
           simp only at hr
           right
           simp only[decide_eq_true hc,cond_true,qal hz,qac,hr]
           rw[qb8 (k:=i) (by omega)]
           exact⟨_,rfl⟩
          ·left; rw[decide_eq_false hc,cond_false,qb8 (by omega)])
         (fun acc nx3=>by
          simp only[qi8,qal hy,qac,qfa,qaz,cond_false]
          rw[qb8 (by omega)]) (n:=n) (by omega) b
       ·left; rw[decide_eq_false hc,cond_false])
      (fun acc nx2=>by simp only[qi7,qdb,qaz,cond_false]) (n:=n) (by omega) acc
     rw[ha]; exact L5 a
    exact L2 _
   ·left; rw[decide_eq_false hc]; rfl)
  (fun acc nx=>by simp only[qlm,qcf,qaz,cond_false]) (n:=n) (by omega) 0
 exact⟨_,e⟩
end W
end
section
open Go Ax
namespace W
theorem zmq (m:Nat):qdu (m+400)=some true:=by kernel_rfl
theorem qvw {n:Nat} (h:400≤n):qdu n=some true:=by
 obtain⟨m,rfl⟩:=Nat.exists_eq_add_of_le h
 rw[Nat.add_comm]; exact zmq m
theorem qqq {n:Nat} {x:List (List UInt8)} (h:x.length<n) (hn:n≤1073741824):qcu n x x=some true:=by
 obtain⟨b,h1,h2⟩:=qfc (y:=x) h hn
 rw[h1,h2.2 rfl]
theorem zao:∀ (l:List qad) (t v:Env),EnvOk t→(∀ c∈l,WfC c)→qdo qfj t l=.inr v→EnvOk v∧v.length≤t.length+2 * (l.map qdp).sum
 | [],t,v,ht,_,e=>by cases e; exact⟨ht,by omega⟩
 | c::l,t,v,ht,hw,e=>by
  simp only[qdo,qfj]at e
  by_cases h0:(qd6 t c).1=0
  ·rw[if_neg (by simpa using h0)]at e
   have h1:=q8l ht (hw c (by simp)) h0
   have h2:=zao l _ v h1.1 (fun c hc=>hw c (by simp[hc])) e
   simp only[List.map_cons,List.sum_cons]
   exact⟨h2.1,by omega⟩
  ·rw[if_pos h0]at e; cases e
theorem zf8 (cl:List qad) (m:Nat):((cl.take m).map qdp).sum≤(cl.map qdp).sum:=by
 have h0:cl.take m++cl.drop m=cl:=List.take_append_drop m cl
 have:((cl.take m++cl.drop m).map qdp).sum=((cl.take m).map qdp).sum+((cl.drop m).map qdp).sum:=by rw[List.map_append,List.sum_append]
 rw[h0]at this
 omega
theorem zc0 {may:Bool} {cl:List qad} (hw:may=true→∀ c∈cl,WfC c) (at_:Int):(qkn may cl at_).1.length≤2 * qck cl∧(qkn may cl at_).2.1.length≤2 * qck cl:=by
 unfold qkn qck
 split
 ·simp
 ·rename_i hc
  simp only[not_or,Bool.not_eq_false]at hc
  have ht:=zf8 cl at_.toNat
  cases hf:qdo qfj [] (cl.take at_.toNat)with
  | inl e=>simp
  | inr v=>
   have:=(zao _ _ v q6n (fun c hc'=>hw hc.1 c (List.mem_of_mem_take hc')) hf).2
   simp only[List.length_map,List.length_nil]at this ⊢
   omega
section
variable {n:Nat} (hn:n≤1073741824) {cl:List qad} (h:8 * qck cl+400<n) (hM:∀ c∈cl,LenOk c)
include hn h hM
theorem q8y (at_:Int):qkx n ⟨cl⟩ at_=some (qkn (qy5 n cl) cl at_)∧qo8 n ⟨cl⟩ at_=some (qkn (qy5 n cl) cl at_):=
 ⟨q3o hn (zdf hn (by omega) hM) (q6k hn (by omega) hM) (by omega) at_,q7f hn (q8v hn (by omega) hM) (q6k hn (by omega) hM) (by omega) at_⟩
def qkm (may:Bool) (cl:List qad):List (List UInt8)×Int:=
 let r:=qkn may cl cl.length
 if r.2.2=0∧(∃ c,cl.getLast? =some c∧c.kind=9)then(r.1,0)else([],r.2.2)
omit hn h hM in
theorem zgg {may:Bool} (hl:may=true→cl≠[]) (hsz:cl.length≤1073741824):(bnd (some (qkn may cl cl.length)) fun⟨x2,x3,x4⟩=>
  bnd (qa5 (!(x4 != (0:Int))) (idx cl (IntKind.i64.wrap (((cl.length:Nat):Int) - (1:Int))))) fun⟨x5,x6,x7,⟨x8,x9,⟨x10,x11,x12,x13,x14,x15⟩,x16,x17⟩,x18,x19,x20,x21,x22,x23,x24,x25,x26⟩=>
  bif(bif(x4 != (0:Int))then true else(x5 != (9:Int)))then(some (([]:List (List UInt8)),x4))else(some (x2,(0:Int))))=some (qkm may cl):=by
 unfold qkm
 cases hr:qkn may cl cl.length with
 | mk a be=>
  obtain⟨b,e⟩:=be
  simp only[qac]
  by_cases he:e=0
  ·subst he
   have hc:cl≠[]:=by
    intro h0
    apply hl _ h0
    cases may with
    | true=>rfl
    | false=>
     unfold qkn at hr
     rw[if_pos (.inl rfl)]at hr
     cases hr
   obtain⟨l,c,rfl⟩:∃ l c,cl=l++[c]:=⟨cl.dropLast,cl.getLast hc,(List.dropLast_concat_getLast hc).symm⟩
   have e1:IntKind.i64.wrap ((((l++[c]).length:Nat):Int) - 1)=((l.length:Nat):Int):=by
    rw[qvx (by omega) (by omega)]; simp
   have e2:(l++[c])[l.length]? =some c:=by simp
   have e3:(l++[c]).getLast? =some c:=by simp
   rw[e1,show(!((0:Int) != 0))=true from rfl,qdw,qal e2,qac,e3]
   clear hr e1 e2 e3 hl hsz hc
   obtain⟨x1,x2,x3,⟨x4,x5,⟨x6,x7,x8,x9,x10,x11⟩,x12,x13⟩,x14,x15,x16,x17,x18,x19,x20,x21,x22⟩:=c
   by_cases h9:x1=9
   ·subst h9
    rw[if_pos ⟨rfl,_,rfl,rfl⟩]
    rfl
   ·rw[if_neg (by rintro⟨_,c,hc,hk⟩; cases hc; exact h9 hk)]
    show(bif(bif((0:Int) != 0)then true else(x1 != 9))then _ else _)=_
    rw[show(x1 != 9)=true from by simpa using h9]
    rfl
  ·rw[if_neg (by rintro⟨h0,_⟩; exact he h0)]
   have:(e != 0)=true:=by simpa using he
   rw[this]
   rfl
theorem qpt:qdv n ⟨cl⟩=some (qkm (qy5 n cl) cl)∧qq0 n ⟨cl⟩=some (qkm (qy5 n cl) cl):=by
 have hlen:=qbx qdp qo5 cl
 have hl:qy5 n cl=true→cl≠[]:=fun hm h0=>by have:=(zes hm).1; rw[h0]at this; simp at this
 have hc:=zgg hl (by unfold qck at h; omega)
 obtain⟨n1,n2⟩:=q8y hn h hM cl.length
 refine⟨?_,?_⟩
 ·unfold qdv
  simp only[qcf,n1]
  exact hc
 ·unfold qq0
  simp only[qcf,n2]
  exact hc
theorem q03:(qkm (qy5 n cl) cl).1.length≤2 * qck cl:=by
 unfold qkm
 have:=(zc0 (q6k hn (by omega) hM) cl.length).1
 simp only
 split
 ·exact this
 ·simp
end
end W
end
section
open Go Ax
namespace W
def nm (s:List UInt8):List UInt8:=if s=[]then[]else s++[95,55]
theorem zfz {s:List UInt8}:nm s=[]↔s=[]:=by
 unfold nm
 split
 ·rename_i h; simp[h]
 ·rename_i h; simp[h]
theorem zpp {a b:List UInt8}:nm a=nm b↔a=b:=by
 constructor
 ·intro h
  by_cases ha:a=[]
  ·subst ha
   have:nm b=[]:=by rw[← h]; rfl
   exact(zfz.1 this).symm
  ·by_cases hb:b=[]
   ·subst hb
    have:nm a=[]:=by rw[h]; rfl
    exact absurd (zfz.1 this) ha
   ·unfold nm at h
    rw[if_neg ha,if_neg hb]at h
    exact List.append_cancel_right h
 ·rintro rfl; rfl
mutual
def q1m:qab→qab
 | .mk op name val names args=>.mk op (if op=2 then nm name else name) val names (qr5 args)
def qr5:List qab→List qab
 | []=>[]
 | x::l=>q1m x::qr5 l
end
theorem zez:∀ l:List qab,qr5 l=l.map q1m
 | []=>rfl
 | x::l=>by simp only[qr5,List.map_cons]; rw[zez l]
theorem zma (l:List qab):(qr5 l).length=l.length:=by rw[zez,List.length_map]
def qy8 (v:Env):Env:=v.map fun x=>(nm x.1,x.2)
structure RenOk (f:Env→Env):Prop where
 kind:∀ v s,qcb (f v) (nm s)=qcb v s
 wth:∀ v s k,qkk (f v) (nm s) k=f (qkk v s k)
theorem zfu (s:List UInt8):∀ v:Env,qst (nm s) (qy8 v)=qst s v
 | []=>rfl
 | (s',k)::v=>by
  have:(nm s==nm s')=(s==s'):=by rw[Bool.eq_iff_iff]; simp[zpp]
  simp only[qy8,List.map_cons,qst,this]
  rw[← zfu s v]
  rfl
theorem qub:RenOk qy8:=by
 have hk:∀ v s,qcb (qy8 v) (nm s)=qcb v s:=fun v s=>by unfold qcb qd0; rw[zfu]
 refine⟨hk,fun v s k=>?_⟩
 unfold qkk
 rw[hk]
 simp only[zfz]
 by_cases h:s=[]∨qcb v s≠0
 ·rw[if_pos h,if_pos h]
 ·rw[if_neg h,if_neg h]
  simp[qy8]
def zln:List UInt8:=[105,100,108,101]
def idl (v:Env):Env:=(zln,3)::qy8 v
theorem zoc (s:List UInt8):(nm s==zln)=false:=by
 rw[beq_eq_false_iff_ne]
 unfold nm
 split
 ·decide
 ·intro h
  have:=congrArg List.getLast? h
  simp[zln]at this
theorem zm0:RenOk idl:=by
 have hk:∀ v s,qcb (idl v) (nm s)=qcb v s:=fun v s=>by
  rw[← qub.kind v s]
  unfold qcb qd0 idl
  simp only[qst,zoc,cond_false]
 refine⟨hk,fun v s k=>?_⟩
 have h0:=qub.wth v s k
 unfold qkk at h0 ⊢
 rw[hk]
 rw[qub.kind]at h0
 simp only[zfz]at h0 ⊢
 by_cases h:s=[]∨qcb v s≠0
 ·rw[if_pos h,if_pos h]
 ·rw[if_neg h]at h0
  rw[if_neg h]at h0 ⊢
  rw[if_neg h]
  unfold idl
  rw[← h0]
  rfl
section
variable {f:Env→Env} (hf:RenOk f)
include hf
mutual
theorem q05 (v:Env):∀ x:qab,qmb (f v) (q1m x)=qmb v x
 | .mk op name val names args=>by
  have ha:=fun k=>qtq v args k
  have hb:=zh4 v args
  have hl:=zma args
  by_cases h2:op=2
  ·subst h2
   simp only[q1m,qmb,if_true,hf.kind]
  ·simp only[q1m,qmb,if_neg h2,hl,ha,hb]
theorem qtq (v:Env):∀ (l:List qab) (k:Int),qjf (f v) k (qr5 l)=qjf v k l
 | [],_=>rfl
 | x::l,k=>by simp only[qr5,qjf,q05 v x,qtq v l k]
theorem zh4 (v:Env):∀ l:List qab,zd4 (f v) (qr5 l)=zd4 v l
 | []=>rfl
 | [_]=>rfl
 | x::y::l=>by simp only[qr5,zd4,q05 v x,q05 v y]
end
theorem zah (v:Env) (x:qab) (k:Int):qjf (f v) k [q1m x]=qjf v k [x]:=qtq hf v [x] k
theorem q80 (v:Env) (keys:List (List UInt8)) (vals:List qab):qpy (f v) keys (qr5 vals)=qpy v keys vals:=by
 unfold qpy
 rw[qtq hf]
end
def zk7 (d:qaf):qaf:=⟨nm d.var_,d.labels,d.keys,qr5 d.vals⟩
def zgz (d:qai):qai:=⟨nm d.var_,d.type_,d.dir,d.keys,qr5 d.vals⟩
def zf2 (p:qa9):qa9:=⟨p.nodes.map zk7,p.edges.map zgz⟩
def rr (f:Env→Env) (r:Int×Env):Int×Env:=(r.1,f r.2)
theorem qss {A A' R R' T T':Type} (a:R→R') (b:T→T') (g:A→A') {F:T→A→R ⊕ T} {F':T'→A'→R' ⊕ T'} (h:∀ t x,F' (b t) (g x)=Sum.map a b (F t x)) :
  ∀ (l:List A) (t:T),qdo F' (b t) (l.map g)=Sum.map a b (qdo F t l)
 | [],t=>rfl
 | x::l,t=>by
  simp only[List.map_cons,qdo,h]
  cases F t x with
  | inl r=>rfl
  | inr t'=>exact qss a b g h l t'
theorem qxl {A A' R:Type} (g:A→A') {F:A→Option R} {F':A'→Option R} (h:∀ x,F' (g x)=F x):∀ l:List A,qew F' (l.map g)=qew F l
 | []=>rfl
 | x::l=>by
  simp only[List.map_cons,qew,h]
  rw[qxl g h l]
theorem zkr (p:qa9):qxe (zf2 p)=(qxe p).map (fun x=>(x.1.map zgz,zk7 x.2)):=by
 unfold qxe zf2
 have:(none::(p.edges.map zgz).map some)=(none::p.edges.map some).map (Option.map zgz):=by simp
 simp only
 rw[this,List.zip_map]
 rfl
section
variable {f:Env→Env} (hf:RenOk f)
include hf
theorem zik (made:Bool) (a v:Env) (d:qai):qth made (f a) (f v) (zgz d)=Sum.map (rr f) f (qth made a v d):=by
 simp only[qth,zgz,hf.kind,q80 hf,hf.wth,apply_ite (Sum.map (rr f) f),Sum.map_inl,Sum.map_inr,rr]
theorem zc2 (made:Bool) (a v:Env) (d:qaf):qwa made (f a) (f v) (zk7 d)=Sum.map (rr f) f (qwa made a v d):=by
 simp only[qwa,zk7,hf.kind,q80 hf,hf.wth,apply_ite (Sum.map (rr f) f),Sum.map_inl,Sum.map_inr,rr]
theorem zkq (made:Bool) (a v:Env) (x:Option qai×qaf):qqr made (f a) (f v) (x.1.map zgz,zk7 x.2)=Sum.map (rr f) f (qqr made a v x):=by
 obtain⟨eo,d⟩:=x
 cases eo with
 | none=>exact zc2 hf made a v d
 | some e=>
  simp only[Option.map_some,qqr,zik hf]
  cases qth made a v e with
  | inl r=>rfl
  | inr w=>exact zc2 hf made a w d
theorem zkb (made:Bool) (a v:Env) (p:qa9):qsa made (f a) (f v) (zf2 p)=Sum.map (rr f) f (qsa made a v p):=by
 unfold qsa
 rw[zkr]
 exact qss (rr f) f (fun x:Option qai×qaf=>(x.1.map zgz,zk7 x.2)) (fun t x=>zkq hf made a t x) _ v
theorem zgv (made:Bool) (a v:Env) (l:List qa9):qmi made (f a) (f v) (l.map zf2)=Sum.map (rr f) f (qmi made a v l):=
 qss (rr f) f zf2 (fun t x=>zkb hf made a t x) l v
theorem zi5 (v:Env) (x:qab):qvj (f v) (q1m x)=qvj v x:=by
 obtain⟨op,name,val,names,args⟩:=x
 have h:=q05 hf v (.mk op name val names args)
 unfold qvj
 rw[h]
 by_cases h14:op=14
 ·subst h14
  simp only[q1m,qi1,qtq hf,show((14:Int)=2)=False by decide,if_false]
  rfl
 ·have e1:(qi1 (.mk op name val names args)).1≠14:=h14
  have e2:(qi1 (q1m (.mk op name val names args))).1≠14:=h14
  rw[if_pos e1,if_pos e2]
end
def zl9 (i:qbh):qbh:=⟨q1m i.e,nm i.as_⟩
def zmb (s:qar):qar:=⟨q1m s.e,s.down⟩
def zhr (s:qag):qag:=⟨nm s.var_,s.key,s.label,q1m s.e⟩
def qi4 (c:qad):qad:=⟨c.kind,c.paths.map zf2,qr5 c.where_,q1m c.e,nm c.var_,c.items.map zl9,c.unique,c.order.map zmb,qr5 c.skip,qr5 c.limit,c.sets.map zhr,c.vars.map nm,c.detach⟩
section
variable {f:Env→Env} (hf:RenOk f)
include hf
theorem zci (ck:Int) (v m:Env) (it:qbh):qc5 ck (f v) (qy8 m) (zl9 it)=Sum.map id qy8 (qc5 ck v m it):=by
 simp only[qc5,zl9,zi5 hf,qub.kind,qub.wth,apply_ite (Sum.map (id:Int→Int) qy8),Sum.map_inl,Sum.map_inr,id]
theorem zdg (v:Env) (c:qad):qvq (f v) (qi4 c)=rr qy8 (qvq v c):=by
 have h1:=qss (id:Int→Int) qy8 zl9 (fun m x=>zci hf c.kind v m x) c.items []
 have h2:=fun m=>qxl (F:=qh4 m) (F':=qh4 (qy8 m)) zmb (fun s=>by unfold qh4 zmb; rw[zah qub]) c.order
 have h3:=fun l=>qtq qub [] l 3
 have h4:=fun m l=>qtq qub m l 3
 have e0:qy8 []=[]:=rfl
 rw[e0]at h1 h3
 unfold qvq
 simp only[qi4]
 rw[h1]
 cases qdo (qc5 c.kind v) [] c.items with
 | inl e=>rfl
 | inr m=>
  simp only[Sum.map_inr,h2]
  cases qew (qh4 m) c.order with
  | some e=>rfl
  | none=>
   simp only[h3,h4]
   split
   ·rfl
   ·split
    ·rfl
    ·rfl
theorem zko (ck:Int) (v:Env) (l:List qag):zdj ck (f v) (l.map zhr)=zdj ck v l:=by
 unfold zdj
 rw[qxl (F:=zhs ck v) zhr (fun s=>by simp only[zhs,zhr,hf.kind,zah hf])]
theorem zii (v:Env) (l:List (List UInt8)):zb7 (f v) (l.map nm)=zb7 v l:=by
 unfold zb7
 rw[qxl (F:=q4g v) nm (fun s=>by simp only[q4g,hf.kind])]
omit hf in
theorem zca (l:List qa9):q07 (l.map zf2)=nm (q07 l):=by
 match l with
 | []=>rfl
 | ⟨[],_⟩::_=>rfl
 | ⟨d::_,_⟩::_=>rfl
omit hf in
theorem zl2 (o:Out):zbc (Sum.map (rr f) f o)=rr f (zbc o):=by cases o<;>rfl
theorem q56 (v:Env) (c:qad):qd6 (f v) (qi4 c)=rr f (qd6 v c)∨qd6 (f v) (qi4 c)=rr qy8 (qd6 v c):=by
 unfold qd6
 have e1:(qi4 c).kind=c.kind:=rfl
 have e2:(qi4 c).paths=c.paths.map zf2:=rfl
 have e3:(qi4 c).where_=qr5 c.where_:=rfl
 have e4:(qi4 c).e=q1m c.e:=rfl
 have e5:(qi4 c).var_=nm c.var_:=rfl
 have e6:(qi4 c).sets=c.sets.map zhr:=rfl
 have e7:(qi4 c).vars=c.vars.map nm:=rfl
 simp only[e1,e2,e3,e4,e5,e6,e7,zgv hf,zca,hf.kind,hf.wth,zko hf,zii hf,zah hf,zl2,zdg hf]
 by_cases h1:c.kind=1
 ·left
  simp only[if_pos h1]
  cases qmi false v v c.paths with
  | inl r=>rfl
  | inr m=>simp only[Sum.map_inr,qtq hf]; rfl
 by_cases h2:c.kind=2
 ·left
  simp only[if_neg h1,if_pos h2]
  split
  ·rfl
  ·split
   ·rfl
   ·rfl
 by_cases h4:c.kind=4
 ·left; simp only[if_neg h1,if_neg h2,if_pos h4]
 by_cases h5:c.kind=5
 ·left
  simp only[if_neg h1,if_neg h2,if_neg h4,if_pos h5]
  split
  ·rfl
  ·rfl
 by_cases h6:c.kind=6∨c.kind=7
 ·left; simp only[if_neg h1,if_neg h2,if_neg h4,if_neg h5,if_pos h6]; rfl
 by_cases h8:c.kind=8
 ·left; simp only[if_neg h1,if_neg h2,if_neg h4,if_neg h5,if_neg h6,if_pos h8]; rfl
 right; simp only[if_neg h1,if_neg h2,if_neg h4,if_neg h5,if_neg h6,if_neg h8]
end
def zf6 (r:Int×Env):Int ⊕ Env:=if r.1≠0 then .inl r.1 else .inr r.2
theorem q4o (v:Env) (c:qad):qfj v c=zf6 (qd6 v c):=rfl
theorem q6y (f:Env→Env) (r:Int×Env):zf6 (rr f r)=Sum.map id f (zf6 r):=by
 obtain⟨e,w⟩:=r
 by_cases h:e=0<;>simp[zf6,rr,h]
theorem q57 (v:Env) (c:qad):qfj (qy8 v) (qi4 c)=Sum.map id qy8 (qfj v c):=by
 have h:qd6 (qy8 v) (qi4 c)=rr qy8 (qd6 v c):=by rcases q56 qub v c with h|h<;>exact h
 rw[q4o,q4o,h,q6y]
theorem zgq (may:Bool) (cl:List qad) (at_:Int):qkn may (cl.map qi4) at_=((qkn may cl at_).1.map nm,(qkn may cl at_).2):=by
 unfold qkn
 rw[List.length_map,← List.map_take]
 split
 ·rfl
 ·have:=qss (id:Int→Int) qy8 qi4 (fun t x=>q57 t x) (cl.take at_.toNat) []
  have e0:qy8 []=[]:=rfl
  rw[e0]at this
  rw[this]
  cases qdo qfj [] (cl.take at_.toNat)with
  | inl e=>rfl
  | inr v=>simp[qy8,List.map_map,Function.comp_def]
theorem q6p (s:List UInt8):(nm s).length≤s.length+2:=by unfold nm; split<;>simp
mutual
theorem q04:∀ x:qab,qex (q1m x)≤3 * qex x
 | .mk op name val names args=>by
  have:=qs7 args
  have:=q6p name
  simp only[q1m,qex]
  split<;>omega
theorem qs7:∀ l:List qab,qc6 (qr5 l)≤3 * qc6 l
 | []=>by simp[qr5,qc6]
 | x::l=>by
  have:=q04 x
  have:=qs7 l
  simp only[qr5,qc6]; omega
end
theorem qvt {A:Type} {m:A→Nat} {g:A→A} (h:∀ x,m (g x)≤3 * m x):∀ l:List A,((l.map g).map m).sum≤3 * (l.map m).sum
 | []=>by simp
 | x::l=>by
  have:=qvt h l
  have:=h x
  simp only[List.map_cons,List.sum_cons]; omega
theorem zl0:∀ l:List (List UInt8),qo6 (l.map nm)≤3 * qo6 l:=by
 intro l
 exact qvt (m:=fun k:List UInt8=>1+k.length) (g:=nm) (fun x=>by have:=q6p x; omega) l
theorem zlc (c:qad):qdp (qi4 c)≤3 * qdp c:=by
 have h1:=qvt (m:=qi3) (g:=zf2) (fun p=>by
  have a:=qvt (m:=qg9) (g:=zk7) (fun d=>by
   have:=q6p d.var_; have:=qs7 d.vals
   simp only[qg9,zk7]; omega) p.nodes
  have b:=qvt (m:=qjg) (g:=zgz) (fun d=>by
   have:=q6p d.var_; have:=qs7 d.vals
   simp only[qjg,zgz]; omega) p.edges
  simp only[qi3,zf2]; omega) c.paths
 have h2:=qvt (m:=qqj) (g:=zl9) (fun i=>by have:=q6p i.as_; have:=q04 i.e; simp only[qqj,zl9]; omega) c.items
 have h3:=qvt (m:=qg1) (g:=zmb) (fun i=>by have:=q04 i.e; simp only[qg1,zmb]; omega) c.order
 have h4:=qvt (m:=qg2) (g:=zhr) (fun i=>by have:=q6p i.var_; have:=q04 i.e; simp only[qg2,zhr]; omega) c.sets
 have h5:=zl0 c.vars
 have h6:=qs7 c.where_
 have h7:=qs7 c.skip
 have h8:=qs7 c.limit
 have h9:=q04 c.e
 have h10:=q6p c.var_
 simp only[qdp,qi4,qud]
 omega
theorem q8m (l:List qad):qck (l.map qi4)≤3 * qck l:=qvt (m:=qdp) (g:=qi4) zlc l
theorem qr0 {A R T:Type} (F:T→A→R ⊕ T):∀ (a b:List A) (t:T),qdo F t (a++b)=(match qdo F t a with|.inl r=>.inl r|.inr u=>qdo F u b)
 | [],_,_=>rfl
 | x::a,b,t=>by
  simp only[List.cons_append,qdo]
  cases F t x with
  | inl r=>rfl
  | inr u=>exact qr0 F a b u
theorem zih (v:Env) (c:qad):qfj (idl v) (qi4 c)=Sum.map id idl (qfj v c)∨qfj (idl v) (qi4 c)=Sum.map id qy8 (qfj v c):=by
 rw[q4o,q4o]
 rcases q56 zm0 v c with h|h
 ·left; rw[h,q6y]
 ·right; rw[h,q6y]
theorem zgh (v:Env) (c:qad) (h9:c.kind=9):qfj (idl v) (qi4 c)=qfj (qy8 v) (qi4 c):=by
 have e:∀ {f:Env→Env},RenOk f→qd6 (f v) (qi4 c)=rr qy8 (qd6 v c):=by
  intro f hf
  unfold qd6
  have e1:(qi4 c).kind=9:=h9
  rw[e1,h9]
  exact zdg hf v c
 unfold qfj
 rw[e zm0,e qub]
theorem zap:∀ (cl:List qad) (v:Env),(∃ e,qdo qfj (qy8 v) (cl.map qi4)=.inl e∧qdo qfj (idl v) (cl.map qi4)=.inl e) ∨
  (∃ u,qdo qfj (qy8 v) (cl.map qi4)=.inr (qy8 u)∧(qdo qfj (idl v) (cl.map qi4)=.inr (idl u)∨qdo qfj (idl v) (cl.map qi4)=.inr (qy8 u)))
 | [],v=>.inr ⟨v,rfl,.inl rfl⟩
 | c::l,v=>by
  simp only[List.map_cons,qdo,q57]
  rcases zih v c with h|h
  ·rw[h]
   cases qfj v c with
   | inl e=>exact .inl ⟨e,rfl,rfl⟩
   | inr w=>exact zap l w
  ·rw[h]
   cases qfj v c with
   | inl e=>exact .inl ⟨e,rfl,rfl⟩
   | inr w=>
    have:=qss (id:Int→Int) qy8 qi4 (fun t x=>q57 t x) l w
    simp only[Sum.map_inr]
    rw[this]
    cases qdo qfj w l with
    | inl e=>exact .inl ⟨e,rfl,rfl⟩
    | inr u=>exact .inr ⟨u,rfl,.inr rfl⟩
theorem zph (l:List qad) (c:qad) (h9:c.kind=9) (v:Env):qdo qfj (idl v) ((l++[c]).map qi4)=qdo qfj (qy8 v) ((l++[c]).map qi4):=by
 rw[List.map_append,qr0,qr0]
 rcases zap l v with ⟨e,h1,h2⟩|⟨u,h1,h2|h2⟩
 ·rw[h1,h2]
 ·rw[h1,h2]
  simp only[List.map_cons,List.map_nil,qdo,zgh u c h9]
 ·rw[h1,h2]
end W
end
section
open Go Ax
namespace W
theorem zlu {A C S R:Type} {B:(S→Option R)→S→Option R} (mk:Nat→List C→S) {l:List A} (f:A→C) (K:List C→Option R)
  (step:∀ (k:Nat) (x:A) (nx:S→Option R) (acc:List C),l[k]? =some x→acc.length=k→B nx (mk k acc)=nx (mk (k+1) (acc++[f x])))
  (hend:∀ nx acc,B nx (mk l.length acc)=K acc) {n:Nat} (hn:l.length<n):qap B n (mk 0 [])=K (l.map f):=by
 have main:∀ m k:Nat,k≤l.length→l.length - k<m→qap B m (mk k ((l.take k).map f))=K (l.map f):=by
  intro m
  induction m with
  | zero=>intro k _ h; omega
  | succ m ih=>
   intro k hk hm
   rw[qa0]
   by_cases he:k=l.length
   ·subst he
    rw[hend,List.take_length]
   ·have h1:k<l.length:=by omega
    have hx:=List.getElem?_eq_getElem h1
    rw[step k _ _ _ hx (by rw[List.length_map,List.length_take]; omega)]
    have e:(l.take k).map f++[f l[k]]=(l.take (k+1)).map f:=by
     rw[List.take_succ,hx,List.map_append]; rfl
    rw[e]
    exact ih (k+1) (by omega) (by omega)
 have:=main n 0 (by omega) (by omega)
 simpa using this
def zcx:List UInt8:=[95,55]
theorem qz8 {n:Nat} {s:List UInt8} (h:s.length≤1073741824):qj4 n s zcx=some (nm s):=by
 unfold qj4 nm zcx
 by_cases hs:s=[]
 ·subst hs; rfl
 ·rw[beq_eq_false_iff_ne.2 hs,cond_false,if_neg hs,qc9 (decide_eq_true (by unfold q1g; simp only[List.length_cons,List.length_nil]; omega))]
theorem qvp:∀ n:Nat,n≤1073741824→(∀ x,qex x<n→qcy n x zcx=some (q1m x))∧(∀ l,qc6 l<n→qcr n l zcx=some (qr5 l)):=by
 intro n
 induction n with
 | zero=>intro _; exact⟨fun _ h=>by omega,fun _ h=>by omega⟩
 | succ n ih=>
  intro hn
  obtain⟨ihe,ihl⟩:=ih (by omega)
  refine⟨fun x hx=>?_,fun l hl=>?_⟩
  ·obtain⟨x1,x2,⟨x3,x4,x5,x6,x7,x8⟩,x9,x10⟩:=x
   simp only[qex]at hx
   simp only[qcy,qna,qh0,qz8 (s:=x2) (n:=n) (by omega),ihl x10 (by omega),qac,q1m]
   by_cases h2:x1=2
   ·subst h2; rfl
   ·rw[beq_eq_false_iff_ne.2 h2,cond_false,if_neg h2]
  ·have hlen:=qeg l
   simp only[qcr,qmd]
   rw[zez]
   exact zlu (B:=qfl n l (qcy n) zcx) (fun k acc=>(acc,(k:Int))) (l:=l) q1m some
    (fun k x nx acc hx hk=>by
     have hkl:=qcm hx
     have he:=ihe x (by have:=qg8 (qbn hx); omega)
     obtain⟨y1,y2,⟨y3,y4,y5,y6,y7,y8⟩,y9,y10⟩:=x
     simp only[q1m]at he
     simp only[qfl,qaq,qbf hkl,cond_true,qal hx,qac,he,q1m]
     rw[qc9 (decide_eq_true (by rw[List.length_append]; simp only[List.length_cons,List.length_nil]; omega)),qb8 (by omega)])
    (fun nx acc=>by simp only[qfl,qaq,qaz,cond_false]) (n:=n) (by omega)
theorem zg0 {n:Nat} (hn:n≤1073741824) {p:qa9} (h:qi3 p<n):qlb n p zcx=some (zf2 p):=by
 obtain⟨nodes,edges⟩:=p
 unfold qi3 at h
 simp only at h
 have h1:=qbx qg9 (fun p=>by unfold qg9; omega) nodes
 have h2:=qbx qjg (fun p=>by unfold qjg; omega) edges
 unfold qlb
 simp only
 refine Eq.trans (zlu (B:=qf4 n nodes zcx edges) (fun k acc=>((k:Int),acc)) (l:=nodes) zk7 (fun acc=>some ⟨acc,edges.map zgz⟩)
  (fun k x nx acc hx hk=>by
   have hkl:=qcm hx
   have hb:qg9 x<n:=by have:=qbz qg9 (qbn hx); omega
   obtain⟨d1,d2,d3,d4⟩:=x
   unfold qg9 at hb
   simp only at hb
   simp only[qf4,qda,qbf hkl,cond_true,qal hx,qac,qz8 (s:=d1) (n:=n) (by omega),(qvp n hn).2 d4 (by omega),zk7]
   rw[qc9 (decide_eq_true (by rw[List.length_append]; simp only[List.length_cons,List.length_nil]; omega)),qb8 (by omega)])
  (fun nx acc=>by
   simp only[qf4,qda,qaz,cond_false]
   exact zlu (B:=qf5 n edges zcx acc) (fun k acc=>((k:Int),acc)) (l:=edges) zgz (fun acc2=>some ⟨acc,acc2⟩)
    (fun k x nx acc2 hx hk=>by
     have hkl:=qcm hx
     have hb:qjg x<n:=by have:=qbz qjg (qbn hx); omega
     obtain⟨d1,d2,d3,d4,d5⟩:=x
     unfold qjg at hb
     simp only at hb
     simp only[qf5,qfa,qbf hkl,cond_true,qal hx,qac,qz8 (s:=d1) (n:=n) (by omega),(qvp n hn).2 d5 (by omega),zgz]
     rw[qc9 (decide_eq_true (by rw[List.length_append]; simp only[List.length_cons,List.length_nil]; omega)),qb8 (by omega)])
    (fun nx acc2=>by simp only[qf5,qfa,qaz,cond_false]) (n:=n) (by omega)) (n:=n) (by omega)) ?_
 rfl
theorem zda {n:Nat} (hn:n≤1073741824) {cl:List qad} (h:qck cl<n):qpo n ⟨cl⟩ zcx=some ⟨cl.map qi4⟩:=by
 have hlen:=qbx qdp qo5 cl
 unfold qck at h
 unfold qpo
 simp only
 exact zlu (B:=qj5 n cl zcx) (fun k acc=>((k:Int),acc)) (l:=cl) qi4 (fun acc=>some ⟨acc⟩)
  (fun k c nx acc hx hk=>by
   have hkl:=qcm hx
   have hb:qdp c<n:=by have:=qbz qdp (qbn hx); omega
   have hp:=qbx qi3 (fun p=>by unfold qi3; omega) c.paths
   have hi:=qbx qqj (fun p=>by unfold qqj; omega) c.items
   have ho:=qbx qg1 (fun p=>by unfold qg1; omega) c.order
   have hs:=qbx qg2 (fun p=>by unfold qg2; omega) c.sets
   have hv:=qep c.vars
   have mp:∀ p∈c.paths,qi3 p<n:=fun p hm=>by have:=qbz qi3 hm; unfold qdp qud at hb; omega
   have mi:∀ p∈c.items,qqj p<n:=fun p hm=>by have:=qbz qqj hm; unfold qdp at hb; omega
   have mo:∀ p∈c.order,qg1 p<n:=fun p hm=>by have:=qbz qg1 hm; unfold qdp at hb; omega
   have ms:∀ p∈c.sets,qg2 p<n:=fun p hm=>by have:=qbz qg2 hm; unfold qdp at hb; omega
   have mv:∀ p∈c.vars,p.length<n:=fun p hm=>by have:=qbz (fun k:List UInt8=>1+k.length) hm; unfold qdp qo6 at hb; omega
   have e1:=(qvp n hn).2 c.where_ (by unfold qdp at hb; omega)
   have e2:=(qvp n hn).2 c.skip (by unfold qdp at hb; omega)
   have e3:=(qvp n hn).2 c.limit (by unfold qdp at hb; omega)
   have e4:=(qvp n hn).1 c.e (by unfold qdp at hb; omega)
   have e5:=qz8 (s:=c.var_) (n:=n) (by unfold qdp at hb; omega)
   unfold qdp qud at hb
   obtain⟨x5,x6,x7,⟨x8,x9,⟨x10,x11,x12,x13,x14,x15⟩,x16,x17⟩,x18,x19,x20,x21,x22,x23,x24,x25,x26⟩:=c
   simp only at hp hi ho hs hv mp mi mo ms mv e1 e2 e3 e4 e5 hb
   simp only[q1m]at e4
   simp only[qj5,qcf,qbf hkl,cond_true,qal hx,qac,qi4,q1m]
   refine Eq.trans (zlu (B:=qj6 n x6 zcx x7 x8 x9 x10 x11 x12 x13 x14 x15 x16 x17 x18 x19 x21 x22 x23 x24 x25 acc x5 x20 x26 nx (k:Int)) (fun k acc=>((k:Int),acc)) (l:=x6) zf2
    (fun a2=>nx (((k+1:Nat):Int),acc++[⟨x5,a2,qr5 x7,⟨x8,if x8=2 then nm x9 else x9,⟨x10,x11,x12,x13,x14,x15⟩,x16,qr5 x17⟩,nm x18,x19.map zl9,x20,x21.map zmb,qr5 x22,qr5 x23,x24.map zhr,x25.map nm,x26⟩]))
    (fun j x nx2 a2 hy hj=>by
     have hjl:=qcm hy
     have hp2:=zg0 hn (mp x (qbn hy))
     obtain⟨p1,p2⟩:=x
     simp only[zf2]at hp2
     simp only[qj6,qdb,qbf hjl,cond_true,qal hy,qac,hp2,zf2]
     rw[qc9 (decide_eq_true (by rw[List.length_append]; simp only[List.length_cons,List.length_nil]; omega)),qb8 (k:=j) (by omega)])
    (fun nx2 a2=>by
     simp only[qj6,qdb,qaz,cond_false,e1,e4,e5,qac]
     exact zlu (B:=qj7 n x19 zcx x21 x22 x23 x24 x25 acc x5 a2 (qr5 x7) x8 (if x8=2 then nm x9 else x9) x10 x11 x12 x13 x14 x15 x16 (qr5 x17) (nm x18) x20 x26 nx (k:Int)) (fun k acc=>((k:Int),acc)) (l:=x19) zl9
      (fun a3=>nx (((k+1:Nat):Int),acc++[⟨x5,a2,qr5 x7,⟨x8,if x8=2 then nm x9 else x9,⟨x10,x11,x12,x13,x14,x15⟩,x16,qr5 x17⟩,nm x18,a3,x20,x21.map zmb,qr5 x22,qr5 x23,x24.map zhr,x25.map nm,x26⟩]))
      (fun j x nx3 a3 hy hj=>by
       have hjl:=qcm hy
       have hb2:=mi x (qbn hy)
       unfold qqj at hb2
       have he:=(qvp n hn).1 x.e (by omega)
       have hnm:=qz8 (s:=x.as_) (n:=n) (by omega)
       obtain⟨⟨y1,y2,⟨y3,y4,y5,y6,y7,y8⟩,y9,y10⟩,y11⟩:=x
       simp only[q1m]at he hnm
       simp only[qj7,qbh.rows,List.length_map,qbf hjl,cond_true,qal hy,qac,he,hnm,zl9,q1m]
       rw[qc9 (decide_eq_true (by rw[List.length_append]; simp only[List.length_cons,List.length_nil]; omega)),qb8 (k:=j) (by omega)])
      (fun nx3 a3=>by
       simp only[qj7,qbh.rows,List.length_map,qaz,cond_false]
       exact zlu (B:=qj8 n x21 zcx x22 x23 x24 x25 acc x5 a2 (qr5 x7) x8 (if x8=2 then nm x9 else x9) x10 x11 x12 x13 x14 x15 x16 (qr5 x17) (nm x18) a3 x20 x26 nx (k:Int)) (fun k acc=>((k:Int),acc)) (l:=x21) zmb
        (fun a4=>nx (((k+1:Nat):Int),acc++[⟨x5,a2,qr5 x7,⟨x8,if x8=2 then nm x9 else x9,⟨x10,x11,x12,x13,x14,x15⟩,x16,qr5 x17⟩,nm x18,a3,x20,a4,qr5 x22,qr5 x23,x24.map zhr,x25.map nm,x26⟩]))
        (fun j x nx4 a4 hy hj=>by
         have hjl:=qcm hy
         have hb2:=mo x (qbn hy)
         unfold qg1 at hb2
         have he:=(qvp n hn).1 x.e (by omega)
         obtain⟨⟨y1,y2,⟨y3,y4,y5,y6,y7,y8⟩,y9,y10⟩,y11⟩:=x
         simp only[q1m]at he
         simp only[qj8,qar.rows,List.length_map,qbf hjl,cond_true,qal hy,qac,he,zmb,q1m]
         rw[qc9 (decide_eq_true (by rw[List.length_append]; simp only[List.length_cons,List.length_nil]; omega)),qb8 (k:=j) (by omega)])
        (fun nx4 a4=>by
         simp only[qj8,qar.rows,List.length_map,qaz,cond_false,e2,e3,qac]
         exact zlu (B:=qj9 n x24 zcx x25 acc x5 a2 (qr5 x7) x8 (if x8=2 then nm x9 else x9) x10 x11 x12 x13 x14 x15 x16 (qr5 x17) (nm x18) a3 x20 a4 (qr5 x22) (qr5 x23) x26 nx (k:Int)) (fun k acc=>((k:Int),acc)) (l:=x24) zhr
          (fun a5=>nx (((k+1:Nat):Int),acc++[⟨x5,a2,qr5 x7,⟨x8,if x8=2 then nm x9 else x9,⟨x10,x11,x12,x13,x14,x15⟩,x16,qr5 x17⟩,nm x18,a3,x20,a4,qr5 x22,qr5 x23,a5,x25.map nm,x26⟩]))
          (fun j x nx5 a5 hy hj=>by
           have hjl:=qcm hy
           have hb2:=ms x (qbn hy)
           unfold qg2 at hb2
           have he:=(qvp n hn).1 x.e (by omega)
           have hnm:=qz8 (s:=x.var_) (n:=n) (by omega)
           obtain⟨z1,z2,z3,⟨y1,y2,⟨y3,y4,y5,y6,y7,y8⟩,y9,y10⟩⟩:=x
           simp only[q1m]at he hnm
           simp only[qj9,qag.rows,List.length_map,qbf hjl,cond_true,qal hy,qac,he,hnm,zhr,q1m]
           rw[qc9 (decide_eq_true (by rw[List.length_append]; simp only[List.length_cons,List.length_nil]; omega)),qb8 (k:=j) (by omega)])
          (fun nx5 a5=>by
           simp only[qj9,qag.rows,List.length_map,qaz,cond_false]
           exact zlu (B:=qka n x25 zcx acc x5 a2 (qr5 x7) x8 (if x8=2 then nm x9 else x9) x10 x11 x12 x13 x14 x15 x16 (qr5 x17) (nm x18) a3 x20 a4 (qr5 x22) (qr5 x23) a5 x26 nx (k:Int)) (fun k acc=>((k:Int),acc)) (l:=x25) nm
            (fun a6=>nx (((k+1:Nat):Int),acc++[⟨x5,a2,qr5 x7,⟨x8,if x8=2 then nm x9 else x9,⟨x10,x11,x12,x13,x14,x15⟩,x16,qr5 x17⟩,nm x18,a3,x20,a4,qr5 x22,qr5 x23,a5,a6,x26⟩]))
            (fun j x nx6 a6 hy hj=>by
             have hjl:=qcm hy
             have hb2:=mv x (qbn hy)
             have hnm:=qz8 (s:=x) (n:=n) (by omega)
             simp only[qka,qay,qbf hjl,cond_true,qal hy,qac,hnm]
             rw[qc9 (decide_eq_true (by rw[List.length_append]; simp only[List.length_cons,List.length_nil]; omega)),qb8 (k:=j) (by omega)])
            (fun nx6 a6=>by
             simp only[qka,qay,qcf,qaz,cond_false]
             rw[qc9 (decide_eq_true (by rw[List.length_append]; simp only[List.length_cons,List.length_nil]; omega)),qb8 (k:=k) (by omega)]) (n:=n) (by omega)) (n:=n) (by omega)) (n:=n) (by omega)) (n:=n) (by omega)) (n:=n) (by omega)) ?_
   rfl)
  (fun nx acc=>by simp only[qj5,qcf,qaz,cond_false]) (n:=n) (by omega)
end W
end
section
open Go Ax
namespace W
theorem zjt {c:qad} (h:LenOk c):LenOk (qi4 c):=by
 obtain⟨h1,h2,h3,h4,h5⟩:=h
 exact⟨by simpa[qi4]using h1,by simpa[qi4]using h2,by simpa[qi4]using h3,by simpa[qi4]using h4,by simpa[qi4]using h5⟩
def q88 (P:List UInt8→Prop) (v:Env):Prop:=∀ e∈v,P e.1
structure ClP (P:List UInt8→Prop) (c:qad):Prop where
 nodes:∀ p∈c.paths,∀ d∈p.nodes,P d.var_
 edges:∀ p∈c.paths,∀ d∈p.edges,P d.var_
 var:P c.var_
 items:∀ i∈c.items,P i.as_
section
variable {P:List UInt8→Prop}
theorem zbb {v:Env} {s:List UInt8} {k:Int} (h:q88 P v) (hs:P s):q88 P (qkk v s k):=by
 unfold qkk
 split
 ·exact h
 ·intro e he
  rcases List.mem_append.1 he with he|he
  ·exact h e he
  ·simp at he; subst he; exact hs
theorem q6d {A R:Type} {F:Env→A→R ⊕ Env}:∀ (l:List A) {v w:Env},(∀ x∈l,∀ t t',q88 P t→F t x=.inr t'→q88 P t')→q88 P v→qdo F v l=.inr w→q88 P w
 | [],v,w,_,hv,e=>by cases e; exact hv
 | x::l,v,w,h,hv,e=>by
  simp only[qdo]at e
  cases hf:F v x with
  | inl r=>rw[hf]at e; cases e
  | inr t=>
   rw[hf]at e
   exact q6d l (fun y hy=>h y (by simp[hy])) (h x (by simp) v t hv hf) e
theorem zj1 {made:Bool} {a v w:Env} {d:qaf} (h:q88 P v) (hd:P d.var_) (e:qwa made a v d=.inr w):q88 P w:=by
 unfold qwa at e
 split at e
 ·cases e
 ·split at e
  ·cases e
  ·split at e
   ·cases e
   ·cases e; exact zbb h hd
theorem zno {made:Bool} {a v w:Env} {d:qai} (h:q88 P v) (hd:P d.var_) (e:qth made a v d=.inr w):q88 P w:=by
 unfold qth at e
 split at e
 ·cases e
 ·split at e
  ·cases e
  ·cases e; exact zbb h hd
theorem zog {made:Bool} {a v w:Env} {p:qa9} (h:q88 P v) (h1:∀ d∈p.nodes,P d.var_) (h2:∀ d∈p.edges,P d.var_) (e:qsa made a v p=.inr w):q88 P w:=by
 refine q6d (qxe p) (fun x hx t t' ht hf=>?_) h e
 obtain⟨eo,d⟩:=x
 unfold qxe at hx
 have hd:=(List.of_mem_zip hx).2
 have he:=(List.of_mem_zip hx).1
 cases eo with
 | none=>exact zj1 ht (h1 d hd) hf
 | some g=>
  simp only[List.mem_cons,reduceCtorEq,List.mem_map,Option.some.injEq,exists_eq_right,false_or]at he
  simp only[qqr]at hf
  cases hg:qth made a t g with
  | inl r=>rw[hg]at hf; cases hf
  | inr u=>rw[hg]at hf; exact zj1 (zno ht (h2 g he) hg) (h1 d hd) hf
theorem zh9 {v:Env} {c:qad} (h:q88 P v) (hc:ClP P c) (e:(qd6 v c).1=0):q88 P (qd6 v c).2:=by
 have hpaths:∀ {made:Bool} {m:Env},qmi made v v c.paths=.inr m→q88 P m:=fun hm=>
  q6d c.paths (fun p hp t t' ht hf=>zog ht (hc.nodes p hp) (hc.edges p hp) hf) h hm
 have hout:∀ {made:Bool},(zbc (qmi made v v c.paths)).1=0→q88 P (zbc (qmi made v v c.paths)).2:=by
  intro made he
  cases hm:qmi made v v c.paths with
  | inl r=>rw[hm]at he; exact absurd he (qra hm)
  | inr m=>exact hpaths hm
 unfold qd6 at e ⊢
 split
 ·rename_i k; rw[if_pos k]at e
  cases hm:qmi false v v c.paths with
  | inl r=>rw[hm]at e; exact absurd e (qra hm)
  | inr m=>exact hpaths hm
 ·rename_i k; rw[if_neg k]at e
  split
  ·split
   ·exact h
   ·split
    ·exact h
    ·exact zbb h hc.var
  ·rename_i k2; rw[if_neg k2]at e
   split
   ·rename_i k4; rw[if_pos k4]at e; exact hout e
   ·rename_i k4; rw[if_neg k4]at e
    split
    ·rename_i k5; rw[if_pos k5]at e
     split
     ·exact h
     ·rename_i k6; rw[if_neg k6]at e; exact hout e
    ·split
     ·exact h
     ·split
      ·exact h
      ·unfold qvq
       cases hf:qdo (qc5 c.kind v) [] c.items with
       | inl r=>intro e he; cases he
       | inr m=>
        have hm:q88 P m:=q6d c.items (fun it hi t t' ht hs=>by
         unfold qc5 at hs
         split at hs
         ·cases hs
         ·split at hs
          ·cases hs
          ·split at hs
           ·cases hs
           ·cases hs; exact zbb ht (hc.items it hi)) (fun e he=>by cases he) hf
        simp only
        cases qew (qh4 m) c.order with
        | some e=>intro e he; cases he
        | none=>
         simp only
         split
         ·intro e he; cases he
         ·split
          ·intro e he; cases he
          ·exact hm
theorem zpe:∀ (l:List qad) {v w:Env},q88 P v→(∀ c∈l,ClP P c)→qdo qfj v l=.inr w→q88 P w:=by
 intro l v w hv hc e
 refine q6d l (fun c hm t t' ht hf=>?_) hv e
 unfold qfj at hf
 by_cases h0:(qd6 t c).1=0
 ·rw[if_neg (by simpa using h0)]at hf
  cases hf
  exact zh9 ht (hc c hm) h0
 ·rw[if_pos h0]at hf; cases hf
end
theorem znn {cl:List qad}:∀ c∈cl,ClP (fun s=>s.length≤qck cl) c:=by
 intro c hc
 have hb:qdp c≤qck cl:=by have:=qbz qdp hc; unfold qck; omega
 have mp:∀ p∈c.paths,qi3 p≤qdp c:=fun p hm=>by have:=qbz qi3 hm; unfold qdp qud; omega
 refine⟨fun p hp d hd=>?_,fun p hp d hd=>?_,?_,fun i hi=>?_⟩
 ·have h1:=mp p hp
  have h2:=qbz qg9 hd
  have h3:d.var_.length≤qg9 d:=by unfold qg9; omega
  have h4:(p.nodes.map qg9).sum≤qi3 p:=by unfold qi3; omega
  omega
 ·have h1:=mp p hp
  have h2:=qbz qjg hd
  have h3:d.var_.length≤qjg d:=by unfold qjg; omega
  have h4:(p.edges.map qjg).sum≤qi3 p:=by unfold qi3; omega
  omega
 ·have:c.var_.length≤qdp c:=by unfold qdp; omega
  omega
 ·have h1:=qbz qqj hi
  have h2:i.as_.length≤qqj i:=by unfold qqj; omega
  have h3:(c.items.map qqj).sum≤qdp c:=by unfold qdp; omega
  omega
theorem zb4 {may:Bool} {cl:List qad} (hw:may=true→∀ c∈cl,WfC c):∀ s∈(qkm may cl).1,s≠[]∧s.length≤qck cl:=by
 intro s hs
 unfold qkm at hs
 simp only at hs
 split at hs
 ·unfold qkn at hs
  split at hs
  ·simp at hs
  ·rename_i hc
   simp only[not_or,Bool.not_eq_false]at hc
   rw[Int.toNat_natCast,List.take_length]at hs
   cases hf:qdo qfj [] cl with
   | inl e=>rw[hf]at hs; simp at hs
   | inr v=>
    rw[hf]at hs
    simp only at hs
    obtain⟨x,hx,rfl⟩:=List.mem_map.1 hs
    exact⟨(zao cl [] v q6n (hw hc.1) hf).1.names x hx,zpe cl (fun e he=>by cases he) znn hf x hx⟩
 ·simp at hs
theorem zgf (may:Bool) (cl:List qad):qkm may (cl.map qi4)=((qkm may cl).1.map nm,(qkm may cl).2):=by
 unfold qkm
 simp only
 rw[List.length_map,zgq]
 have:(∃ c,(cl.map qi4).getLast? =some c∧c.kind=9)↔∃ c,cl.getLast? =some c∧c.kind=9:=by
  rw[List.getLast?_map]
  cases cl.getLast? with
  | none=>simp
  | some c=>simp[qi4]
 simp only[this]
 split<;>rfl
theorem zdb {n:Nat} (hn:n≤1073741824) {a:List (List UInt8)} (hnm:∀ s∈a,s≠[]∧s.length≤1073741824) (hlen:a.length<n) (h4:400≤n):qap (qed n a (a.map nm)) n (0:Int)=some true:=
 qte (B:=qed n a (a.map nm)) (fun k=>((k:Nat):Int)) a.length (r:=some true)
  (fun k hk nx=>by
   have hx:=List.getElem?_eq_getElem hk
   generalize a[k]=s at hx
   obtain⟨s1,s2⟩:=hnm s (qbn hx)
   have hx2:(a.map nm)[k]? =some (nm s):=by simp[hx]
   have hMx:decide (((s.length+([95,55]:List UInt8).length:Nat):Int)≤q1g)=true:=decide_eq_true (by unfold q1g; simp only[List.length_cons,List.length_nil]; omega)
   unfold qed
   rw[qay,qbf hk,cond_true,qal hx2,qac,qal hx,qac,qc9 hMx]
   have:(nm s==s++[95,55])=true:=by unfold nm; rw[if_neg s1]; simp
   rw[this,Bool.not_true,cond_false,qb8 (by omega)])
  (fun nx=>by simp only[qed,qay,qaz,cond_false,qvw (n:=n) h4,qac]) (n:=n) hlen
section
variable {n:Nat} (hn:n≤1073741824) {cl:List qad} (h:32 * qck cl+2000<n) (hM:∀ c∈cl,LenOk c)
include hn h hM
omit hn h in
theorem q8q:∀ c∈cl.map qi4,LenOk c:=by
 intro c hc
 obtain⟨x,hx,rfl⟩:=List.mem_map.1 hc
 exact zjt (hM x hx)
theorem zeo:qmf n ⟨cl⟩=some true:=by
 have hr:=q8m cl
 obtain⟨b,hb⟩:=qw6 hn (cl:=cl) (by omega)
 have m1:=q8v hn (cl:=cl) (by omega) hM
 have m2:=q8v hn (cl:=cl.map qi4) (by omega) (q8q hM)
 have c1:=(qpt hn (cl:=cl) (by omega) hM).1
 have c2:=(qpt hn (cl:=cl.map qi4) (by omega) (q8q hM)).1
 have hre:=zda hn (cl:=cl) (by omega)
 have hnm:=zb4 (q6k hn (cl:=cl) (by omega) hM)
 have hlen:=q03 hn (cl:=cl) (by omega) hM
 unfold zcx at hre
 unfold qmf
 simp only[hb,qac,qvw (n:=n) (by omega),m1,hre,m2,c1,c2]
 cases b with
 | true=>rfl
 | false=>
  cases hm1:qy5 n cl with
  | false=>rfl
  | true=>
   cases hm2:qy5 n (cl.map qi4)with
   | false=>rfl
   | true=>
    rw[hm1]at hnm hlen
    rw[zgf]
    generalize qkm true cl=r at hnm hlen
    obtain⟨a,e⟩:=r
    simp only at hnm hlen
    simp only[qac,Bool.not_false,qdw,Bool.not_true,cond_false,qay,List.length_map]
    rw[show(e != e)=false from by simp,show(((a.length:Nat):Int) != ((a.length:Nat):Int))=false from by simp]
    simp only[cond_false]
    exact zdb hn (fun s hs=>⟨(hnm s hs).1,by have:=(hnm s hs).2; omega⟩) (by omega) (by omega)
def qus:qad:=⟨2,[],[],⟨5,[],⟨0,false,0,[],[],[]⟩,[],[]⟩,[105,100,108,101],[],false,[],[],[],[],[],false⟩
omit hn h hM in
theorem zlo (m:Nat):qet (m+400) qus=some true:=by kernel_rfl
omit hn h hM in
theorem qxq (cl:List qad):qkn true cl (cl.length:Int)=(match qdo qfj [] cl with|.inl e=>([],[],e)|.inr v=>(v.map (·.1),v.map (·.2),0)):=by
 unfold qkn
 rw[if_neg (by simp only[Bool.true_eq_false,false_or,not_or]; omega),Int.toNat_natCast,List.take_length]
 cases qdo qfj [] cl<;>rfl
omit hn h hM in
theorem zi3:qfj [] qus=.inr (idl []):=by
 simp[qfj,qd6,qus,qjf,qmb,qkk,idl,qy8,zln,qcb,qd0,qst]
omit hn h hM in
theorem zgi {cl:List qad} (hne:cl≠[]):qkm true (qus::cl.map qi4)=qkm true (cl.map qi4):=by
 obtain⟨l,c,rfl⟩:∃ l c,cl=l++[c]:=⟨cl.dropLast,cl.getLast hne,(List.dropLast_concat_getLast hne).symm⟩
 have g1:(qus::(l++[c]).map qi4).getLast? =some (qi4 c):=by
  rw[show qus::(l++[c]).map qi4=(qus::l.map qi4)++[qi4 c]from by simp,List.getLast?_concat]
 have g2:((l++[c]).map qi4).getLast? =some (qi4 c):=by rw[List.map_append]; simp
 have n1:qkn true (qus::(l++[c]).map qi4) ((qus::(l++[c]).map qi4).length:Int)=(match qdo qfj (idl []) ((l++[c]).map qi4)with|.inl e=>([],[],e)|.inr v=>(v.map (·.1),v.map (·.2),0)):=by
  rw[qxq]
  simp only[qdo,zi3]
 have n2:qkn true ((l++[c]).map qi4) (((l++[c]).map qi4).length:Int)=(match qdo qfj (qy8 []) ((l++[c]).map qi4)with|.inl e=>([],[],e)|.inr v=>(v.map (·.1),v.map (·.2),0)):=by
  rw[qxq]
  rfl
 unfold qkm
 simp only
 rw[g1,g2,n1,n2]
 by_cases h9:c.kind=9
 ·rw[zph l c h9]
 ·have hno:¬ ∃ c',some (qi4 c)=some c'∧c'.kind=9:=by
   rintro⟨c',e,hk⟩
   cases e
   exact h9 hk
  rw[if_neg (fun h=>hno h.2),if_neg (fun h=>hno h.2)]
  rcases zap (l++[c]) []with ⟨e,h1,h2⟩|⟨u,h1,h2|h2⟩
  ·rw[h1,h2]
  ·rw[h1,h2]
  ·rw[h1,h2]
theorem zlr:qp6 n ⟨cl⟩=some true:=by
 have hr:=q8m cl
 have hlen:=qbx qdp qo5 cl
 have hcb:(cl.map qdp).sum=qck cl:=rfl
 obtain⟨b,hb⟩:=qw6 hn (cl:=cl) (by omega)
 have m1:=q8v hn (cl:=cl) (by omega) hM
 have m2:=q8v hn (cl:=cl.map qi4) (by omega) (q8q hM)
 have hre:=zda hn (cl:=cl) (by omega)
 have hic:qck (qus::cl.map qi4)≤qck (cl.map qi4)+100:=by
  have:qdp qus≤100:=by decide
  unfold qck
  simp only[List.map_cons,List.sum_cons]; omega
 have hMi:∀ c∈qus::cl.map qi4,LenOk c:=by
  intro c hc
  rcases List.mem_cons.1 hc with rfl|hc
  ·exact⟨by decide,by decide,by decide,by decide,by decide⟩
  ·exact q8q hM c hc
 have c1:=(qpt hn (cl:=cl.map qi4) (by omega) (q8q hM)).1
 have c2:=(qpt hn (cl:=qus::cl.map qi4) (by omega) hMi).1
 have hcl:=q03 hn (cl:=cl.map qi4) (by omega) (q8q hM)
 have himay:zho n qus=true:=by
  obtain⟨m,rfl⟩:=Nat.exists_eq_add_of_le (show 400≤n by omega)
  unfold zho
  rw[Nat.add_comm,zlo]
  rfl
 unfold zcx at hre
 unfold qp6
 simp only[hb,qac,qvw (n:=n) (by omega),m1,hre,m2,qcf]
 cases b with
 | true=>rfl
 | false=>
  by_cases h64:((cl.length:Nat):Int)≥64
  ·rw[decide_eq_true h64]; rfl
  ·rw[decide_eq_false h64]
   simp only[cond_false,Bool.not_false,qdw,qac]
   cases hm1:qy5 n cl with
   | false=>rfl
   | true=>
    cases hm2:qy5 n (cl.map qi4)with
    | false=>rfl
    | true=>
     have hne:cl≠[]:=fun e=>by have:=(zes hm1).1; rw[e]at this; simp at this
     have hm3:qy5 n (qus::cl.map qi4)=true:=by
      have h2:=hm2
      unfold qy5 zlh at h2 ⊢
      simp only[Bool.and_eq_true,decide_eq_true_eq,List.length_map]at h2
      obtain⟨⟨⟨h3,h4⟩,h5⟩,h6⟩:=h2
      have e1:q79 (qus::cl.map qi4)=q79 (cl.map qi4):=by
       unfold q79
       obtain⟨l,c,rfl⟩:∃ l c,cl=l++[c]:=⟨cl.dropLast,cl.getLast hne,(List.dropLast_concat_getLast hne).symm⟩
       have g1:(qus::(l++[c]).map qi4).getLast? =some (qi4 c):=by
        rw[show qus::(l++[c]).map qi4=(qus::l.map qi4)++[qi4 c]from by simp,List.getLast?_concat]
       have g2:((l++[c]).map qi4).getLast? =some (qi4 c):=by rw[List.map_append]; simp
       rw[g1,g2]
      rw[e1,h5]
      simp only[qmc,himay,h6]
      rw[decide_eq_true (by simp only[List.length_cons]; omega),decide_eq_true (by simp only[List.length_cons,List.length_map]; omega)]
      rfl
     rw[hm2]at c1 hcl
     rw[hm3,zgi hne]at c2
     have hsn:=qqq (x:=(qkm true (cl.map qi4)).1) (n:=n) (by omega) hn
     simp only[Bool.not_true,cond_false]
     rw[qc9 (decide_eq_true (by rw[List.length_append,List.length_map]; simp only[List.length_cons,List.length_nil]; omega))]
     have e0:([⟨2,[],[],⟨5,[],⟨0,false,0,[],[],[]⟩,[],[]⟩,[105,100,108,101],[],false,[],[],[],[],[],false⟩]:List qad)++cl.map qi4=qus::cl.map qi4:=rfl
     rw[e0,c1,c2]
     simp only[qac]
     rw[show((qkm true (cl.map qi4)).2==(qkm true (cl.map qi4)).2)=true from by simp,qdw,hsn]
     rfl
end
end W
end
