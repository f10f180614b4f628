/- A part of the proof: the plain law. -/
import Derived.Test.YtneaemdbncgcdaaGreatK
set_option linter.unusedVariables false
set_option linter.unusedSimpArgs false
set_option linter.unnecessarySimpa false
set_option linter.deprecated false
set_option linter.unusedSectionVars false
set_option linter.constructorNameAsVariable false
section
open Go Ax
namespace W
def wr (k:Int):Bool:=bif decide (k≥4)then decide (k<=8)else false
theorem q81 (n:Nat) (k:Int):qpg n k=some (wr k):=by
 unfold qpg wr
 congr 1
 by_cases h4:k=4; · subst h4; rfl
 by_cases h5:k=5; · subst h5; rfl
 by_cases h6:k=6; · subst h6; rfl
 by_cases h7:k=7; · subst h7; rfl
 by_cases h8:k=8; · subst h8; rfl
 rw[beq_eq_false_iff_ne.2 h4,beq_eq_false_iff_ne.2 h5,beq_eq_false_iff_ne.2 h6,beq_eq_false_iff_ne.2 h7,beq_eq_false_iff_ne.2 h8]
 by_cases h:k≥4
 ·rw[decide_eq_true h,decide_eq_false (by omega)]; rfl
 ·rw[decide_eq_false h]; rfl
def q79 (cl:List qad):Bool:=match cl.getLast? with|some c=>(c.kind==9)||wr c.kind|none=>false
def zlh (cl:List qad):Bool:=(decide (0<cl.length)&&decide (cl.length<=64))&&q79 cl
def qmc (n:Nat):List qad->Bool
 | []=>true
 | c::l=>(zho n c&&!((c.kind==9)&&!l.isEmpty))&&qmc n l
def qy5 (n:Nat) (cl:List qad):Bool:=zlh cl&&qmc n cl
theorem zes {n:Nat} {cl:List qad} (h:qy5 n cl=true):0<cl.length/\cl.length<=64:=by
 unfold qy5 zlh at h
 simp only[Bool.and_eq_true,decide_eq_true_eq]at h
 exact h.1.1
theorem ze0:∀ (ok e a nine lt r:Bool),(bif bif bif !ok then true else e then true else bif nine then lt else false then some false else bif a then some r else some false)=some (((ok&&!e&&a)&&!(nine&&lt))&&r):=by
 intro ok e a nine lt r
 cases ok<;>cases e<;>cases a<;>cases nine<;>cases lt<;>cases r<;>rfl
theorem zij {cl:List qad} {k:Nat}:decide ((((k+1:Nat):Int))<((cl.length:Nat):Int))=!(cl.drop (k+1)).isEmpty:=by
 rw[Bool.eq_iff_iff,decide_eq_true_eq,Bool.not_eq_true',List.isEmpty_eq_false_iff,ne_eq,List.drop_eq_nil_iff]
 omega
section
variable {n:Nat} (hn:n<=1073741824) {cl:List qad} (h:42+qck cl<n) (hM:∀ c∈cl,LenOk c)
include hn h hM
theorem zg2:∀ m k:Nat,k<=cl.length->cl.length - k<m->qap (qfs n cl) m (k:Int)=some (qmc n (cl.drop k)):=by
 have hlen:=qbx qdp qo5 cl
 unfold qck at h
 intro m
 induction m with
 | zero=>intro k _ h; omega
 | succ m ih=>
  intro k hk hm
  rw[qa0]
  by_cases he:k=cl.length
  ·subst he
   rw[List.drop_length]
   simp only[qfs,qcf,qaz,cond_false]
   rfl
  ·have hkl:k<cl.length:=by omega
   have hx:=List.getElem?_eq_getElem hkl
   rw[List.drop_eq_getElem_cons hkl]
   generalize cl[k]=x at hx
   have hb:=qbz qdp (qbn hx)
   obtain⟨_,_,gl,ok,ho,hg5,hgp,hval⟩:=q2g hn (c:=x) (by omega) (hM _ (qbn hx))
   have hgl:=zd7 hn hgp (by omega) (qap (qfs n cl) m) (k:=k) (by omega)
   rw[ih (k+1) (by omega) (by omega)]at hgl
   have hd:=zij (cl:=cl) (k:=k)
   unfold qmc
   rw[← hval]
   clear hval
   obtain⟨x1,x2,x3,⟨x4,x5,⟨x6,x7,x8,x9,x10,x11⟩,x12,x13⟩,x14,x15,x16,x17,x18,x19,x20,x21,x22⟩:=x
   simp only[qfs,qcf,qbf hkl,cond_true,qal hx,qac,ho,qvh,hgl]
   rw[qb8 (by omega),hd]
   exact ze0 _ _ _ _ _ _
theorem zn9 (nx:Int->Option Bool):qmr n cl nx ((cl.length:Nat):Int)=some (zlh cl):=by
 have hlen:=qbx qdp qo5 cl
 unfold qck at h
 simp only[qmr,qcf,qaz,cond_false,q81]
 by_cases h0:cl=[]
 ·subst h0; rfl
 ·obtain⟨l,c,rfl⟩:∃ l c,cl=l++[c]:=⟨cl.dropLast,cl.getLast h0,(List.dropLast_concat_getLast h0).symm⟩
  have e1:IntKind.i64.wrap ((((l++[c]).length:Nat):Int) - 1)=((l.length:Nat):Int):=by
   rw[qvx (by omega) (by omega)]; simp
  have e2:(l++[c])[l.length]? =some c:=by simp
  have e3:q79 (l++[c])=((c.kind==9)||wr c.kind):=by unfold q79; simp
  rw[e1,qal e2]
  unfold zlh
  rw[e3]
  have e4:decide ((((l++[c]).length:Nat):Int)>0)=true:=decide_eq_true (by simp only[List.length_append,List.length_cons,List.length_nil]; omega)
  have e5:decide (0<(l++[c]).length)=true:=decide_eq_true (by simp)
  have e6:decide ((((l++[c]).length:Nat):Int)<=64)=decide ((l++[c]).length<=64):=by
   rw[Bool.eq_iff_iff]; simp only[decide_eq_true_eq]; omega
  rw[e4,e5,e6,cond_true]
  generalize decide ((l++[c]).length<=64)=d
  clear e1 e2 e3 e4 e5 e6 h hM hlen h0
  obtain⟨x1,x2,x3,⟨x4,x5,⟨x6,x7,x8,x9,x10,x11⟩,x12,x13⟩,x14,x15,x16,x17,x18,x19,x20,x21,x22⟩:=c
  cases d with
  | false=>rfl
  | true=>
   simp only[qdw,qac,Bool.true_and]
   cases hk:(x1==9)with
   | true=>rfl
   | false=>
    simp only[Bool.not_false,qdw,qac]
    rfl
theorem zlv:∀ m k:Nat,k<=cl.length->cl.length - k<m->qap (qmr n cl) m (k:Int)=bif qmc n (cl.drop k)then some (zlh cl)else some false:=by
 have hlen:=qbx qdp qo5 cl
 have hend:=zn9 hn h hM
 unfold qck at h
 intro m
 induction m with
 | zero=>intro k _ h; omega
 | succ m ih=>
  intro k hk hm
  rw[qa0]
  by_cases he:k=cl.length
  ·subst he
   rw[List.drop_length,hend]
   rfl
  ·have hkl:k<cl.length:=by omega
   have hx:=List.getElem?_eq_getElem hkl
   rw[List.drop_eq_getElem_cons hkl]
   generalize cl[k]=x at hx
   have hb:=qbz qdp (qbn hx)
   obtain⟨hmay,_⟩:=q2g hn (c:=x) (by omega) (hM _ (qbn hx))
   have hd:=zij (cl:=cl) (k:=k)
   have ih':=ih (k+1) (by omega) (by omega)
   unfold qmc
   obtain⟨x1,x2,x3,⟨x4,x5,⟨x6,x7,x8,x9,x10,x11⟩,x12,x13⟩,x14,x15,x16,x17,x18,x19,x20,x21,x22⟩:=x
   simp only[qmr,qcf,qbf hkl,cond_true,qal hx,qac,hmay]
   rw[qb8 (by omega),hd,ih']
   cases zho n _ with
   | false=>rfl
   | true=>
    simp only[Bool.not_true,Bool.not_false,qdw,qac,cond_false]
    cases(x1==9)<;>cases(cl.drop (k+1)).isEmpty<;>rfl
theorem q8v:qmq n ⟨cl⟩=some (qy5 n cl):=by
 have hlen:=qbx qdp qo5 cl
 have e:=zlv hn h hM n 0 (by omega) (by unfold qck at h; omega)
 unfold qmq qy5
 refine Eq.trans e ?_
 rw[List.drop_zero]
 cases qmc n cl<;>cases zlh cl<;>rfl
theorem zdf:qnu n ⟨cl⟩=some (qy5 n cl):=by
 have hlen:=qbx qdp qo5 cl
 have e:=zg2 hn h hM n 0 (by omega) (by unfold qck at h; omega)
 rw[List.drop_zero]at e
 unfold qnu qy5
 unfold qck at h
 simp only[qcf,qrd]
 by_cases h0:cl=[]
 ·subst h0; rfl
 ·obtain⟨l,c,rfl⟩:∃ l c,cl=l++[c]:=⟨cl.dropLast,cl.getLast h0,(List.dropLast_concat_getLast h0).symm⟩
  have e1:IntKind.i64.wrap ((((l++[c]).length:Nat):Int) - 1)=((l.length:Nat):Int):=by
   rw[qvx (by omega) (by omega)]; simp
  have e2:(l++[c])[l.length]? =some c:=by simp
  have e3:q79 (l++[c])=((c.kind==9)||wr c.kind):=by unfold q79; simp
  rw[e1,qal e2]
  unfold zlh
  rw[e3]
  have e4:decide ((((l++[c]).length:Nat):Int)<1)=false:=decide_eq_false (by simp only[List.length_append,List.length_cons,List.length_nil]; omega)
  have e5:decide (0<(l++[c]).length)=true:=decide_eq_true (by simp)
  have e6:decide ((((l++[c]).length:Nat):Int)>64)=!decide ((l++[c]).length<=64):=by
   rw[Bool.eq_iff_iff]; simp only[decide_eq_true_eq,Bool.not_eq_true',decide_eq_false_iff_not]; omega
  rw[e4,e5,e6,cond_false]
  have e':qap (qfs n (l++[c])) n 0=some (qmc n (l++[c])):=e
  rw[e']
  generalize qmc n (l++[c])=g
  generalize decide ((l++[c]).length<=64)=d
  clear e1 e2 e3 e4 e5 e6 h hM hlen h0 e e'
  obtain⟨x1,x2,x3,⟨x4,x5,⟨x6,x7,x8,x9,x10,x11⟩,x12,x13⟩,x14,x15,x16,x17,x18,x19,x20,x21,x22⟩:=c
  cases d with
  | false=>rfl
  | true=>
   simp only[Bool.not_true,Bool.not_false,qdw,qac,Bool.true_and]
   unfold wr
   cases(bif decide (x1≥4)then decide (x1<=8)else false)with
   | true=>cases(x1==9)<;>cases g<;>rfl
   | false=>
    simp only[Bool.not_false,qdw,qac]
    unfold bne
    cases(x1==9)<;>cases g<;>rfl
theorem q6k:qy5 n cl=true->∀ c∈cl,WfC c:=by
 unfold qck at h
 intro hm
 unfold qy5 at hm
 rw[Bool.and_eq_true]at hm
 have key:∀ l:List qad,(∀ c∈l,c∈cl)->qmc n l=true->∀ c∈l,WfC c:=by
  intro l
  induction l with
  | nil=>intro _ _ c hc; cases hc
  | cons a l ih=>
   intro hs hg c hc
   simp only[qmc,Bool.and_eq_true]at hg
   have hb:=qbz qdp (hs a (by simp))
   rcases List.mem_cons.1 hc with rfl|hc
   ·exact((q2g hn (c:=c) (by omega) (hM _ (hs c (by simp)))).2.1 hg.1.1).1
   ·exact ih (fun c hc=>hs c (by simp[hc])) hg.2 c hc
 exact key cl (fun c hc=>hc) hm.2
end
end W
end
section
open Go Ax
namespace W
end W
end
section
open Go Ax
namespace W
theorem zmq (m:Nat):qdu (m+400)=some true:=by kernel_rfl
theorem qvw {n:Nat} (h:400<=n):qdu n=some true:=by
 obtain⟨m,rfl⟩:=Nat.exists_eq_add_of_le h
 rw[Nat.add_comm]; exact zmq m
theorem qqq {n:Nat} {x:List (List UInt8)} (h:x.length<n) (hn:n<=1073741824):qcu n x x=some true:=by
 obtain⟨b,h1,h2⟩:=qfc (y:=x) h hn
 rw[h1,h2.2 rfl]
theorem zao:∀ (l:List qad) (t v:Env),EnvOk t->(∀ c∈l,WfC c)->qdo qfj t l=.inr v->EnvOk v/\v.length<=t.length+2 * (l.map qdp).sum
 | [],t,v,ht,_,e=>by cases e; exact⟨ht,by omega⟩
 | c::l,t,v,ht,hw,e=>by
  simp only[qdo,qfj]at e
  by_cases h0:(qd6 t c).1=0
  ·rw[if_neg (by simpa using h0)]at e
   have h1:=q8l ht (hw c (by simp)) h0
   have h2:=zao l _ v h1.1 (fun c hc=>hw c (by simp[hc])) e
   simp only[List.map_cons,List.sum_cons]
   exact⟨h2.1,by omega⟩
  ·rw[if_pos h0]at e; cases e
theorem zf8 (cl:List qad) (m:Nat):((cl.take m).map qdp).sum<=(cl.map qdp).sum:=by
 have h0:cl.take m++cl.drop m=cl:=List.take_append_drop m cl
 have:((cl.take m++cl.drop m).map qdp).sum=((cl.take m).map qdp).sum+((cl.drop m).map qdp).sum:=by rw[List.map_append,List.sum_append]
 rw[h0]at this
 omega
theorem zc0 {may:Bool} {cl:List qad} (hw:may=true->∀ c∈cl,WfC c) (at_:Int):(qkn may cl at_).1.length<=2 * qck cl/\(qkn may cl at_).2.1.length<=2 * qck cl:=by
 unfold qkn qck
 split
 ·simp
 ·rename_i hc
  simp only[not_or,Bool.not_eq_false]at hc
  have ht:=zf8 cl at_.toNat
  cases hf:qdo qfj [] (cl.take at_.toNat)with
  | inl e=>simp
  | inr v=>
   have:=(zao _ _ v q6n (fun c hc'=>hw hc.1 c (List.mem_of_mem_take hc')) hf).2
   simp only[List.length_map,List.length_nil]at this ⊢
   omega
section
variable {n:Nat} (hn:n<=1073741824) {cl:List qad} (h:8 * qck cl+400<n) (hM:∀ c∈cl,LenOk c)
include hn h hM
theorem q8y (at_:Int):qkx n ⟨cl⟩ at_=some (qkn (qy5 n cl) cl at_)/\qo8 n ⟨cl⟩ at_=some (qkn (qy5 n cl) cl at_):=
 ⟨q3o hn (zdf hn (by omega) hM) (q6k hn (by omega) hM) (by omega) at_,q7f hn (q8v hn (by omega) hM) (q6k hn (by omega) hM) (by omega) at_⟩
def qkm (may:Bool) (cl:List qad):List (List UInt8)×Int:=
 let r:=qkn may cl cl.length
 if r.2.2=0/\(∃ c,cl.getLast? =some c/\c.kind=9)then(r.1,0)else([],r.2.2)
omit hn h hM in
theorem zgg {may:Bool} (hl:may=true->cl≠[]) (hsz:cl.length<=1073741824):(bnd (some (qkn may cl cl.length)) fun⟨x2,x3,x4⟩=>
  bnd (qa5 (!(x4 != (0:Int))) (idx cl (IntKind.i64.wrap (((cl.length:Nat):Int) - (1:Int))))) fun⟨x5,x6,x7,⟨x8,x9,⟨x10,x11,x12,x13,x14,x15⟩,x16,x17⟩,x18,x19,x20,x21,x22,x23,x24,x25,x26⟩=>
  bif(bif(x4 != (0:Int))then true else(x5 != (9:Int)))then(some (([]:List (List UInt8)),x4))else(some (x2,(0:Int))))=some (qkm may cl):=by
 unfold qkm
 cases hr:qkn may cl cl.length with
 | mk a be=>
  obtain⟨b,e⟩:=be
  simp only[qac]
  by_cases he:e=0
  ·subst he
   have hc:cl≠[]:=by
    intro h0
    apply hl _ h0
    cases may with
    | true=>rfl
    | false=>
     unfold qkn at hr
     rw[if_pos (.inl rfl)]at hr
     cases hr
   obtain⟨l,c,rfl⟩:∃ l c,cl=l++[c]:=⟨cl.dropLast,cl.getLast hc,(List.dropLast_concat_getLast hc).symm⟩
   have e1:IntKind.i64.wrap ((((l++[c]).length:Nat):Int) - 1)=((l.length:Nat):Int):=by
    rw[qvx (by omega) (by omega)]; simp
   have e2:(l++[c])[l.length]? =some c:=by simp
   have e3:(l++[c]).getLast? =some c:=by simp
   rw[e1,show(!((0:Int) != 0))=true from rfl,qdw,qal e2,qac,e3]
   clear hr e1 e2 e3 hl hsz hc
   obtain⟨x1,x2,x3,⟨x4,x5,⟨x6,x7,x8,x9,x10,x11⟩,x12,x13⟩,x14,x15,x16,x17,x18,x19,x20,x21,x22⟩:=c
   by_cases h9:x1=9
   ·subst h9
    rw[if_pos ⟨rfl,_,rfl,rfl⟩]
    rfl
   ·rw[if_neg (by rintro⟨_,c,hc,hk⟩; cases hc; exact h9 hk)]
    show(bif(bif((0:Int) != 0)then true else(x1 != 9))then _ else _)=_
    rw[show(x1 != 9)=true from by simpa using h9]
    rfl
  ·rw[if_neg (by rintro⟨h0,_⟩; exact he h0)]
   have:(e != 0)=true:=by simpa using he
   rw[this]
   rfl
theorem qpt:qdv n ⟨cl⟩=some (qkm (qy5 n cl) cl)/\qq0 n ⟨cl⟩=some (qkm (qy5 n cl) cl):=by
 have hlen:=qbx qdp qo5 cl
 have hl:qy5 n cl=true->cl≠[]:=fun hm h0=>by have:=(zes hm).1; rw[h0]at this; simp at this
 have hc:=zgg hl (by unfold qck at h; omega)
 obtain⟨n1,n2⟩:=q8y hn h hM cl.length
 refine⟨?_,?_⟩
 ·unfold qdv
  simp only[qcf,n1]
  exact hc
 ·unfold qq0
  simp only[qcf,n2]
  exact hc
theorem q03:(qkm (qy5 n cl) cl).1.length<=2 * qck cl:=by
 unfold qkm
 have:=(zc0 (q6k hn (by omega) hM) cl.length).1
 simp only
 split
 ·exact this
 ·simp
end
end W
end
section
open Go Ax
namespace W
def wt (t:qaj):Nat:=t.text.length+100
def Wt (L:List qaj) (k:Nat):Nat:=((L.take k).map wt).sum
structure LOk (L:List qaj):Prop where
 len:L.length<=4096
 last:∀ t,L[L.length - 1]? =some t->t.kind=6
theorem q2c {L:List qaj} {k:Nat} {t:qaj} (h:L[k]? =some t):Wt L (k+1)=Wt L k+t.text.length+100:=by
 unfold Wt
 rw[List.take_succ,h]
 simp[wt]; omega
theorem za2 {L:List qaj} (hL:LOk L) {k:Nat} {t:qaj} (h:L[k]? =some t) (hk:t.kind≠6):k+1<L.length:=by
 have hlt:=qcm h
 by_cases he:k+1<L.length
 ·exact he
 ·have:k=L.length - 1:=by omega
  rw[this]at h
  exact absurd (hL.last t h) hk
section
variable {L:List qaj} (hL:LOk L) {k:Nat} (hk:k<L.length) (n:Nat) (s:List UInt8) (bad:Bool)
include hL hk
theorem qk3:∃ b,qcx n s L (k:Int) bad=some b/\(b=true->k+1<L.length/\bad=false/\Wt L (k+1)=Wt L k+s.length+100):=by
 have hx:=List.getElem?_eq_getElem hk
 generalize L[k]=t at hx
 have hw:=q2c hx
 have hl:=fun h=>za2 hL hx h
 obtain⟨t1,t2,t3,t4⟩:=t
 simp only[qcx,qal hx,qac]
 refine⟨_,rfl,fun h=>?_⟩
 simp only at hw hl
 cases bad with
 | true=>cases h
 | false=>
  by_cases h5:t1=5
  ·subst h5
   have:(t2==s)=true:=h
   have:=beq_iff_eq.1 this
   subst this
   exact⟨hl (by decide),rfl,hw⟩
  ·by_cases h2:t1=2
   ·subst h2
    have:(t2==s)=true:=h
    have:=beq_iff_eq.1 this
    subst this
    exact⟨hl (by decide),rfl,hw⟩
   ·rw[beq_eq_false_iff_ne.2 h5,beq_eq_false_iff_ne.2 h2]at h
    cases h
theorem qbd:qan n s L (k:Int) bad=some (false,(k:Int))\/(qan n s L (k:Int) bad=some (true,((k+1:Nat):Int))/\k+1<L.length/\bad=false/\Wt L (k+1)=Wt L k+s.length+100):=by
 obtain⟨b,hb,h⟩:=qk3 hL hk n s bad
 have:=hL.len
 simp only[qan,hb,qac]
 cases b with
 | false=>exact .inl rfl
 | true=>
  right
  rw[qb8 (by omega)]
  exact⟨rfl,h rfl⟩
theorem qie:qax n s L (k:Int) bad=some ((k:Int),true)\/(qax n s L (k:Int) bad=some (((k+1:Nat):Int),bad)/\k+1<L.length/\bad=false/\Wt L (k+1)=Wt L k+s.length+100):=by
 simp only[qax]
 rcases qbd hL hk n s bad with h|⟨h,h'⟩
 ·left; rw[h]; rfl
 ·right; rw[h]; exact⟨rfl,h'⟩
theorem q2t:qd3 n L (k:Int) bad=some ([],(k:Int),true)\/∃ s,qd3 n L (k:Int) bad=some (s,((k+1:Nat):Int),bad)/\k+1<L.length/\bad=false/\Wt L (k+1)=Wt L k+s.length+100:=by
 have hx:=List.getElem?_eq_getElem hk
 generalize L[k]=t at hx
 have hw:=q2c hx
 have hl:=fun h=>za2 hL hx h
 have:=hL.len
 obtain⟨t1,t2,t3,t4⟩:=t
 simp only[qd3,qal hx,qac]
 cases bad with
 | true=>exact .inl rfl
 | false=>
  by_cases h1:t1=1
  ·subst h1
   right
   rw[qb8 (by omega)]
   exact⟨t2,rfl,hl (show(1:Int)≠6 by decide),rfl,hw⟩
  ·left
   rw[show(t1 != 1)=true from by simpa using h1]
   rfl
theorem q8e:qei n L (k:Int) bad=some ([],(k:Int),bad)\/∃ s,qei n L (k:Int) bad=some (s,((k+1:Nat):Int),bad)/\k+1<L.length/\bad=false/\Wt L (k+1)=Wt L k+s.length+100:=by
 have hx:=List.getElem?_eq_getElem hk
 have hn:=q2t hL hk n bad
 generalize L[k]=t at hx
 obtain⟨t1,t2,t3,t4⟩:=t
 simp only[qei,qal hx]
 cases bad with
 | true=>exact .inl rfl
 | false=>
  simp only[Bool.not_false,qdw,qac,cond_false]
  by_cases h1:t1=1
  ·subst h1
   rw[show((1:Int) != 1)=false from rfl,cond_false]
   rcases hn with h|⟨s,h,h'⟩
   ·exfalso
    have hlt:qd3 n L (k:Int) false=some (t2,IntKind.i64.wrap ((k:Int)+1),false):=by
     simp only[qd3,qal hx,qac]; rfl
    rw[hlt]at h
    simp at h
   ·right
    rw[h]
    exact⟨s,rfl,h'.1,trivial,h'.2.2⟩
  ·left
   rw[show(t1 != 1)=true from by simpa using h1]
   rfl
theorem q1d:qeo n L (k:Int) bad=some ([],(k:Int),true)\/∃ s,qeo n L (k:Int) bad=some (s,((k+1:Nat):Int),bad)/\k+1<L.length/\bad=false/\Wt L (k+1)=Wt L k+s.length+100:=by
 have hx:=List.getElem?_eq_getElem hk
 generalize L[k]=t at hx
 have hw:=q2c hx
 have hl:=fun h=>za2 hL hx h
 have:=hL.len
 obtain⟨t1,t2,t3,t4⟩:=t
 simp only[qeo,qal hx,qac,qcq]
 cases bad with
 | true=>exact .inl rfl
 | false=>
  by_cases h1:t1=1
  ·subst h1
   right
   rw[qb8 (by omega)]
   exact⟨t2,rfl,hl (show(1:Int)≠6 by decide),rfl,hw⟩
  ·rw[show(t1 != 1)=true from by simpa using h1]
   by_cases h4:t1=4
   ·subst h4
    rw[qb8 (by omega)]
    cases qtg t2 with
    | false=>exact .inl rfl
    | true=>exact .inr ⟨t2,rfl,hl (show(4:Int)≠6 by decide),rfl,hw⟩
   ·rw[show(t1 != 4)=true from by simpa using h4]
    exact .inl rfl
end
theorem qpc {L:List qaj} {k k':Nat} (h:k<=k'):Wt L k<=Wt L k':=by
 unfold Wt
 have e:L.take k=(L.take k').take k:=by rw[List.take_take]; congr 1; omega
 have h0:(L.take k').take k++(L.take k').drop k=L.take k':=List.take_append_drop k _
 rw[e,← h0,List.map_append,List.sum_append,h0]
 omega
def zbd (s:List UInt8) (a b:qab):qab:=⟨10,s,⟨0,false,0,[],[],[]⟩,[],[a,b]⟩
def zc4 (op:Int) (a:qab):qab:=⟨op,[],⟨0,false,0,[],[],[]⟩,[],[a]⟩
theorem q1p (n:Nat) (s:List UInt8) (a b:qab):qj3 n s a b=some (zbd s a b):=by
 obtain⟨x1,x2,⟨x3,x4,x5,x6,x7,x8⟩,x9,x10⟩:=a
 obtain⟨y1,y2,⟨y3,y4,y5,y6,y7,y8⟩,y9,y10⟩:=b
 rfl
theorem q3d (n:Nat) (op:Int) (a:qab):qqa n op a=some (zc4 op a):=by
 obtain⟨x1,x2,⟨x3,x4,x5,x6,x7,x8⟩,x9,x10⟩:=a
 rfl
theorem q2z (s:List UInt8) (a b:qab):qex (zbd s a b)=s.length+qex a+qex b+6:=by
 simp only[zbd,qex,qc6,q0e,qtf,qo6,List.map_nil,List.sum_nil,List.length_nil]; omega
theorem za3 (op:Int) (a:qab):qex (zc4 op a)=qex a+5:=by
 simp only[zc4,qex,qc6,q0e,qtf,qo6,List.map_nil,List.sum_nil,List.length_nil]; omega
def qjj (L:List qaj) (k c:Nat) (o:Option (qab×Int×Bool)):Prop:=∃ e k' b',o=some (e,((k':Nat):Int),b')/\k<=k'/\k'<L.length/\qex e+Wt L k<=Wt L k'+c
abbrev St:=Int×Bool×Int×List UInt8×Int×Bool×Int×List UInt8×List Val×List (List UInt8)×List (List UInt8)×List qab
def stE (k:Nat) (b:Bool):qab->St
 | .mk op name ⟨a1,a2,a3,a4,a5,a6⟩ names args=>((k:Int),b,op,name,a1,a2,a3,a4,a5,a6,names,args)
end W
end
section
open Go Ax
namespace W
theorem q2u {L:List qaj} {B:(St->Option (qab×Int×Bool))->St->Option (qab×Int×Bool)} (k0:Nat)
  (step:∀ (k:Nat) (b:Bool) (e:qab) (nx:St->Option (qab×Int×Bool)),k0<=k->k<L.length->B nx (stE k b e)=some (e,(k:Int),b) \/
   ∃ e' k' b',B nx (stE k b e)=nx (stE k' b' e')/\k<k'/\k'<L.length/\qex e'+Wt L k<=Wt L k'+qex e) :
  ∀ (m k:Nat) (b:Bool) (e:qab),k0<=k->k<L.length->L.length - k<m->qjj L k (qex e) (qap B m (stE k b e)):=by
 intro m
 induction m with
 | zero=>intro k b e _ _ h; omega
 | succ m ih=>
  intro k b e hk0 hk hm
  rw[qa0]
  rcases step k b e (qap B m) hk0 hk with h|⟨e',k',b',h,h1,h2,h3⟩
  ·exact⟨e,k,b,h,Nat.le_refl _,hk,by omega⟩
  ·rw[h]
   obtain⟨e2,k2,b2,g1,g2,g3,g4⟩:=ih k' b' e' (by omega) h2 (by omega)
   exact⟨e2,k2,b2,g1,by omega,g3,by omega⟩
theorem qjj.step {L:List qaj} {k k1 c:Nat} {e:qab} {o:Option (qab×Int×Bool)} (h:qjj L k1 (qex e) o) (h1:k<=k1) (h2:qex e+Wt L k<=Wt L k1+c):qjj L k c o:=by
 obtain⟨e',k',b',g1,g2,g3,g4⟩:=h
 exact⟨e',k',b',g1,by omega,g3,by omega⟩
def Rd (L:List qaj) (n lv:Nat) (g:List qaj->Int->Bool->Option (qab×Int×Bool)):Prop:=∀ (k:Nat) (b:Bool),k<L.length->12 * (L.length - k)+lv<n->qjj L k 4 (g L (k:Int) b)
section
variable {L:List qaj} (hL:LOk L) {n:Nat}
include hL
theorem zng {g:List qaj->Int->Bool->Option (qab×Int×Bool)} (hg:Rd L n 8 g) {g98 g144' g143' a1 a2 a3 a4 a5 a6 a7 a8} :
  ∀ (k:Nat) (b:Bool),k<L.length->12 * (L.length - k)+9<n+1->qjj L k 4 (qp3 n g98 a1 g a2 a3 a4 a5 a6 a7 a8 g143' g144' L (k:Int) b):=by
 intro k b hk hn
 obtain⟨e,k1,b1,h1,h2,h3,h4⟩:=hg k b hk (by omega)
 have key:=q2u (L:=L) (B:=qjt n L g) k (fun k2 b2 e2 nx hk0 hk2=>by
  obtain⟨o,nm,⟨v1,v2,v3,v4,v5,v6⟩,ns,ar⟩:=e2
  rcases qbd hL hk2 n [79,82] b2 with h|⟨h,p1,p2,p3⟩
  ·left
   simp only[qjt,stE,h,qac,cond_false]
  ·right
   obtain⟨e3,k3,b3,q1,q2,q3,q4⟩:=hg (k2+1) b2 p1 (by omega)
   refine⟨zbd [79,82] ⟨o,nm,⟨v1,v2,v3,v4,v5,v6⟩,ns,ar⟩ e3,k3,b3,?_,by omega,q3,?_⟩
   ·obtain⟨o',nm',⟨w1,w2,w3,w4,w5,w6⟩,ns',ar'⟩:=e3
    simp only[qjt,stE,h,qac,cond_true,q1,q1p,zbd]
   ·rw[q2z]; simp only[List.length_cons,List.length_nil]at *; omega) n k1 b1 e h2 h3 (by omega)
 refine qjj.step ?_ h2 h4 (e:=e)
 obtain⟨o,nm,⟨v1,v2,v3,v4,v5,v6⟩,ns,ar⟩:=e
 simp only[qp3,h1,qac]
 exact key
theorem zqf {g:List qaj->Int->Bool->Option (qab×Int×Bool)} (hg:Rd L n 7 g) {g98 g144' g143' a1 a2 a3 a4 a5 a6 a7 a8} :
  ∀ (k:Nat) (b:Bool),k<L.length->12 * (L.length - k)+8<n+1->qjj L k 4 (qrn n g98 a1 a2 g a3 a4 a5 a6 a7 a8 g143' g144' L (k:Int) b):=by
 intro k b hk hn
 obtain⟨e,k1,b1,h1,h2,h3,h4⟩:=hg k b hk (by omega)
 have key:=q2u (L:=L) (B:=qlv n L g) k (fun k2 b2 e2 nx hk0 hk2=>by
  obtain⟨o,nm,⟨v1,v2,v3,v4,v5,v6⟩,ns,ar⟩:=e2
  rcases qbd hL hk2 n [88,79,82] b2 with h|⟨h,p1,p2,p3⟩
  ·left
   simp only[qlv,stE,h,qac,cond_false]
  ·right
   obtain⟨e3,k3,b3,q1,q2,q3,q4⟩:=hg (k2+1) b2 p1 (by omega)
   refine⟨zbd [88,79,82] ⟨o,nm,⟨v1,v2,v3,v4,v5,v6⟩,ns,ar⟩ e3,k3,b3,?_,by omega,q3,?_⟩
   ·obtain⟨o',nm',⟨w1,w2,w3,w4,w5,w6⟩,ns',ar'⟩:=e3
    simp only[qlv,stE,h,qac,cond_true,q1,q1p,zbd]
   ·rw[q2z]; simp only[List.length_cons,List.length_nil]at *; omega) n k1 b1 e h2 h3 (by omega)
 refine qjj.step ?_ h2 h4 (e:=e)
 obtain⟨o,nm,⟨v1,v2,v3,v4,v5,v6⟩,ns,ar⟩:=e
 simp only[qrn,h1,qac]
 exact key
theorem zpa {g:List qaj->Int->Bool->Option (qab×Int×Bool)} (hg:Rd L n 6 g) {g98 g144' g143' a1 a2 a3 a4 a5 a6 a7 a8} :
  ∀ (k:Nat) (b:Bool),k<L.length->12 * (L.length - k)+7<n+1->qjj L k 4 (qrl n g98 a1 a2 a3 g a4 a5 a6 a7 a8 g143' g144' L (k:Int) b):=by
 intro k b hk hn
 obtain⟨e,k1,b1,h1,h2,h3,h4⟩:=hg k b hk (by omega)
 have key:=q2u (L:=L) (B:=qls n L g) k (fun k2 b2 e2 nx hk0 hk2=>by
  obtain⟨o,nm,⟨v1,v2,v3,v4,v5,v6⟩,ns,ar⟩:=e2
  rcases qbd hL hk2 n [65,78,68] b2 with h|⟨h,p1,p2,p3⟩
  ·left
   simp only[qls,stE,h,qac,cond_false]
  ·right
   obtain⟨e3,k3,b3,q1,q2,q3,q4⟩:=hg (k2+1) b2 p1 (by omega)
   refine⟨zbd [65,78,68] ⟨o,nm,⟨v1,v2,v3,v4,v5,v6⟩,ns,ar⟩ e3,k3,b3,?_,by omega,q3,?_⟩
   ·obtain⟨o',nm',⟨w1,w2,w3,w4,w5,w6⟩,ns',ar'⟩:=e3
    simp only[qls,stE,h,qac,cond_true,q1,q1p,zbd]
   ·rw[q2z]; simp only[List.length_cons,List.length_nil]at *; omega) n k1 b1 e h2 h3 (by omega)
 refine qjj.step ?_ h2 h4 (e:=e)
 obtain⟨o,nm,⟨v1,v2,v3,v4,v5,v6⟩,ns,ar⟩:=e
 simp only[qrl,h1,qac]
 exact key
theorem zpq {g gs:List qaj->Int->Bool->Option (qab×Int×Bool)} (hg:Rd L n 6 g) (hs:Rd L n 5 gs) {g98 g144' g143' a1 a2 a3 a5 a6 a7 a8} :
  ∀ (k:Nat) (b:Bool),k<L.length->12 * (L.length - k)+6<n+1->qjj L k 4 (qpe n g98 a1 a2 a3 g gs a5 a6 a7 a8 g143' g144' L (k:Int) b):=by
 intro k b hk hn
 rcases qbd hL hk n [78,79,84] b with h|⟨h,p1,p2,p3⟩
 ·obtain⟨e,k1,b1,h1,h2,h3,h4⟩:=hs k b hk (by omega)
  refine⟨e,k1,b1,?_,h2,h3,h4⟩
  obtain⟨o,nm,⟨v1,v2,v3,v4,v5,v6⟩,ns,ar⟩:=e
  simp only[qpe,h,qac,cond_false,h1]
 ·obtain⟨e,k1,b1,h1,h2,h3,h4⟩:=hg (k+1) b p1 (by omega)
  refine⟨zc4 9 e,k1,b1,?_,by omega,h3,?_⟩
  ·obtain⟨o,nm,⟨v1,v2,v3,v4,v5,v6⟩,ns,ar⟩:=e
   simp only[qpe,h,qac,cond_true,h1,q3d,zc4]
  ·rw[za3]; simp only[List.length_cons,List.length_nil]at *; omega
theorem zp9 {g:List qaj->Int->Bool->Option (qab×Int×Bool)} (hg:Rd L n 3 g) {g98 g144' g143' a1 a2 a3 a4 a5 a6 a7 a8} :
  ∀ (k:Nat) (b:Bool),k<L.length->12 * (L.length - k)+4<n+1->qjj L k 4 (qrm n g98 a1 a2 a3 a4 a5 a6 g a7 a8 g143' g144' L (k:Int) b):=by
 intro k b hk hn
 have hlen:=hL.len
 obtain⟨e,k1,b1,h1,h2,h3,h4⟩:=hg k b hk (by omega)
 have key:=q2u (L:=L) (B:=qlu n L g) k (fun k2 b2 e2 nx hk0 hk2=>by
  obtain⟨o,nm,⟨v1,v2,v3,v4,v5,v6⟩,ns,ar⟩:=e2
  obtain⟨c1,i1,j1⟩:=qk3 hL hk2 n [43] b2
  obtain⟨c2,i2,j2⟩:=qk3 hL hk2 n [45] b2
  by_cases hc:c1=true\/c2=true
  ·right
   have p1:k2+1<L.length:=by rcases hc with hc|hc; exact(j1 hc).1; exact(j2 hc).1
   obtain⟨e3,k3,b3,q1,q2,q3,q4⟩:=hg (k2+1) b2 p1 (by omega)
   have hx:=List.getElem?_eq_getElem hk2
   generalize L[k2]=t at hx
   have hw:=q2c hx
   obtain⟨t1,t2,t3,t4⟩:=t
   simp only at hw
   refine⟨zbd t2 ⟨o,nm,⟨v1,v2,v3,v4,v5,v6⟩,ns,ar⟩ e3,k3,b3,?_,by omega,q3,?_⟩
   ·obtain⟨o',nm',⟨w1,w2,w3,w4,w5,w6⟩,ns',ar'⟩:=e3
    rw[← qb8 (k:=k2) (by omega)]at q1
    simp only[qlu,stE,i1,i2,qac]
    cases c1 with
    | true=>simp only[Bool.not_true,cond_true,cond_false,qal hx,qac,q1,q1p,zbd]
    | false=>
     cases c2 with
     | true=>simp only[Bool.not_false,cond_true,cond_false,qal hx,qac,q1,q1p,zbd]
     | false=>rcases hc with hc|hc<;>cases hc
   ·rw[q2z]; omega
  ·left
   simp only[not_or,Bool.not_eq_true]at hc
   simp only[qlu,stE,i1,i2,qac,hc.1,hc.2,Bool.not_false,cond_true,cond_false]) n k1 b1 e h2 h3 (by omega)
 refine qjj.step ?_ h2 h4 (e:=e)
 obtain⟨o,nm,⟨v1,v2,v3,v4,v5,v6⟩,ns,ar⟩:=e
 simp only[qrm,h1,qac]
 exact key
theorem zgw {g:List qaj->Int->Bool->Option (qab×Int×Bool)} (hg:Rd L n 2 g) {g98 g144' g143' a1 a2 a3 a4 a5 a6 a7 a8} :
  ∀ (k:Nat) (b:Bool),k<L.length->12 * (L.length - k)+3<n+1->qjj L k 4 (qk6 n g98 a1 a2 a3 a4 a5 a6 a7 g a8 g143' g144' L (k:Int) b):=by
 intro k b hk hn
 have hlen:=hL.len
 obtain⟨e,k1,b1,h1,h2,h3,h4⟩:=hg k b hk (by omega)
 have key:=q2u (L:=L) (B:=qgl n L g) k (fun k2 b2 e2 nx hk0 hk2=>by
  obtain⟨o,nm,⟨v1,v2,v3,v4,v5,v6⟩,ns,ar⟩:=e2
  obtain⟨c1,i1,j1⟩:=qk3 hL hk2 n [42] b2
  obtain⟨c2,i2,j2⟩:=qk3 hL hk2 n [47] b2
  obtain⟨c3,i3,j3⟩:=qk3 hL hk2 n [37] b2
  by_cases hc:c1=true\/c2=true\/c3=true
  ·right
   have p1:k2+1<L.length:=by rcases hc with hc|hc|hc; exact(j1 hc).1; exact(j2 hc).1; exact(j3 hc).1
   obtain⟨e3,k3,b3,q1,q2,q3,q4⟩:=hg (k2+1) b2 p1 (by omega)
   have hx:=List.getElem?_eq_getElem hk2
   generalize L[k2]=t at hx
   have hw:=q2c hx
   obtain⟨t1,t2,t3,t4⟩:=t
   simp only at hw
   refine⟨zbd t2 ⟨o,nm,⟨v1,v2,v3,v4,v5,v6⟩,ns,ar⟩ e3,k3,b3,?_,by omega,q3,?_⟩
   ·obtain⟨o',nm',⟨w1,w2,w3,w4,w5,w6⟩,ns',ar'⟩:=e3
    rw[← qb8 (k:=k2) (by omega)]at q1
    simp only[qgl,stE,i1,i2,i3,qac]
    cases c1 with
    | true=>simp only[Bool.not_true,cond_true,cond_false,qal hx,qac,q1,q1p,zbd]
    | false=>
     cases c2 with
     | true=>simp only[Bool.not_false,Bool.not_true,cond_true,cond_false,qal hx,qac,q1,q1p,zbd]
     | false=>
      cases c3 with
      | true=>simp only[Bool.not_false,cond_true,cond_false,qal hx,qac,q1,q1p,zbd]
      | false=>rcases hc with hc|hc|hc<;>cases hc
   ·rw[q2z]; omega
  ·left
   simp only[not_or,Bool.not_eq_true]at hc
   simp only[qgl,stE,i1,i2,i3,qac,hc.1,hc.2.1,hc.2.2,Bool.not_false,cond_true,cond_false]) n k1 b1 e h2 h3 (by omega)
 refine qjj.step ?_ h2 h4 (e:=e)
 obtain⟨o,nm,⟨v1,v2,v3,v4,v5,v6⟩,ns,ar⟩:=e
 simp only[qk6,h1,qac]
 exact key
end
end W
end
section
open Go Ax
namespace W
theorem q2h:∀ (l:List qab) (e:qab),qc6 (l++[e])=qc6 l+qex e+1
 | [],e=>by simp only[List.nil_append,qc6]
 | x::l,e=>by
  have:=q2h l e
  simp only[List.cons_append,qc6]; omega
theorem q6m (l:List (List UInt8)) (s:List UInt8):qo6 (l++[s])=qo6 l+s.length+1:=by
 unfold qo6; simp; omega
def q8h (L:List qaj) (k c:Nat) (o:Option (List qab×Int×Bool)):Prop:=∃ l k' b',o=some (l,((k':Nat):Int),b')/\k<=k'/\k'<L.length/\qc6 l+Wt L k<=Wt L k'+c
def q5n (L:List qaj) (k:Nat) (o:Option (List (List UInt8)×List qab×Int×Bool)):Prop:=∃ ks l k' b',o=some (ks,l,((k':Nat):Int),b')/\k'<L.length/\((k'=k/\ks=[]/\l=[])\/(k<k'/\qo6 ks+qc6 l+Wt L k+80<=Wt L k'))
section
variable {L:List qaj} (hL:LOk L) {n:Nat}
include hL
theorem zkn {g:List qaj->Int->Bool->Option (qab×Int×Bool)} {k1:Nat} (hk:k1<L.length) (hg:∀ b,k1+1<L.length->qjj L (k1+1) 4 (g L ((k1+1:Nat):Int) b)) (b:Bool) {o:Int} {nm:List UInt8} {v1:Int} {v2:Bool} {v3:Int} {v4:List UInt8} {v5:List Val} {v6 ns:List (List UInt8)} {ar:List qab} :
  ∀ m i:Nat,i<=7->7 - i<m->qjj L k1 (qex ⟨o,nm,⟨v1,v2,v3,v4,v5,v6⟩,ns,ar⟩) (qap (qj1 n L b g o nm v1 v2 v3 v4 v5 v6 ns ar) m ((i:Int),(k1:Int))):=by
 obtain⟨ops,hO,hl,hs⟩:∃ ops:List (List UInt8),ops=[[61],[60,62],[60,61],[60],[62,61],[62],[73,78]]/\ops.length=7/\∀ s∈ops,s.length<=2:=⟨_,rfl,rfl,by decide⟩
 intro m
 induction m with
 | zero=>intro i _ h; omega
 | succ m ih=>
  intro i hi hm
  rw[qa0]
  generalize qap (qj1 n L b g o nm v1 v2 v3 v4 v5 v6 ns ar) m=nx at ih ⊢
  simp only[qj1,← hO,qay]
  by_cases h7:i=7
  ·subst h7
   rw[show decide (((7:Nat):Int)<((ops.length:Nat):Int))=false from by rw[hl]; rfl,cond_false]
   exact⟨_,k1,b,rfl,Nat.le_refl _,hk,by omega⟩
  ·have hlt:i<ops.length:=by omega
   have hx:=List.getElem?_eq_getElem hlt
   generalize ops[i]=s at hx
   have hsl:=hs s (qbn hx)
   rw[qbf hlt,cond_true,qal hx,qac]
   rcases qbd hL hk n s b with h|⟨h,p1,p2,p3⟩
   ·rw[h]
    simp only[qac,cond_false]
    rw[qb8 (by omega)]
    exact ih (i+1) (by omega) (by omega)
   ·rw[h]
    simp only[qac,cond_true]
    obtain⟨e2,k2,b2,q1,q2,q3,q4⟩:=hg b p1
    rw[q1]
    refine⟨zbd s ⟨o,nm,⟨v1,v2,v3,v4,v5,v6⟩,ns,ar⟩ e2,k2,b2,?_,by omega,q3,?_⟩
    ·obtain⟨o',nm',⟨w1,w2,w3,w4,w5,w6⟩,ns',ar'⟩:=e2
     simp only[qac,qal hx,q1p,zbd]
    ·rw[q2z]; omega
theorem zok {g:List qaj->Int->Bool->Option (qab×Int×Bool)} (hg:Rd L n 4 g) {g98 g144' g143' a1 a2 a3 a4 a5 a6 a7 a8} :
  ∀ (k:Nat) (b:Bool),k<L.length->12 * (L.length - k)+5<n+1->qjj L k 4 (qko n g98 a1 a2 a3 a4 a5 g a6 a7 a8 g143' g144' L (k:Int) b):=by
 intro k b hk hn
 obtain⟨e,k1,b1,h1,h2,h3,h4⟩:=hg k b hk (by omega)
 rcases qbd hL h3 n [73,83] b1 with h|⟨h,p1,p2,p3⟩
 ·refine qjj.step ?_ h2 h4 (e:=e)
  obtain⟨o,nm,⟨v1,v2,v3,v4,v5,v6⟩,ns,ar⟩:=e
  simp only[qko,h1,qac,h,cond_false]
  exact zkn hL h3 (fun b p=>hg (k1+1) b p (by omega)) b1 n 0 (by omega) (by omega)
 ·have tail:∀ (k2:Nat) (op:Int),k1+1<=k2->k2<L.length->∀ b2,∃ k3 b3,qax n [78,85,76,76] L (k2:Int) b2=some (((k3:Nat):Int),b3)/\k1+1<=k3/\k3<L.length:=by
   intro k2 op hk2 hk2l b2
   rcases qie hL hk2l n [78,85,76,76] b2 with m|⟨m,m1,_,_⟩
   ·exact⟨k2,true,m,hk2,hk2l⟩
   ·exact⟨k2+1,b2,m,by omega,m1⟩
  have fin:∀ (op:Int) (k3:Nat),k1+1<=k3->qex (zc4 op e)+Wt L k<=Wt L k3+4:=by
   intro op k3 hk3
   have:=qpc (L:=L) hk3
   rw[za3]; simp only[List.length_cons,List.length_nil]at p3; omega
  rcases qbd hL p1 n [78,79,84] b1 with h5|⟨h5,p5,_,_⟩
  ·obtain⟨k3,b3,m,m1,m2⟩:=tail (k1+1) 11 (by omega) p1 b1
   refine⟨zc4 11 e,k3,b3,?_,by omega,m2,fin 11 k3 m1⟩
   obtain⟨o,nm,⟨v1,v2,v3,v4,v5,v6⟩,ns,ar⟩:=e
   simp only[qko,h1,qac,h,cond_true,h5,m,cond_false,q3d,zc4]
  ·obtain⟨k3,b3,m,m1,m2⟩:=tail (k1+1+1) 12 (by omega) p5 b1
   refine⟨zc4 12 e,k3,b3,?_,by omega,m2,fin 12 k3 m1⟩
   obtain⟨o,nm,⟨v1,v2,v3,v4,v5,v6⟩,ns,ar⟩:=e
   simp only[qko,h1,qac,h,cond_true,h5,m,q3d,zc4]
theorem zlx {g ga ge:List qaj->Int->Bool->Option (qab×Int×Bool)} (hg:Rd L n 2 g) (ha:Rd L n 1 ga) (hge:Rd L n 9 ge) {g98 g144' g143' a2 a3 a4 a5 a6 a7} :
  ∀ (k:Nat) (b:Bool),k<L.length->12 * (L.length - k)+2<n+1->qjj L k 4 (qlf n g98 ge a2 a3 a4 a5 a6 a7 g ga g143' g144' L (k:Int) b):=by
 intro k b hk hn
 rcases qbd hL hk n [45] b with h|⟨h,p1,p2,p3⟩
 ·obtain⟨e,k1,b1,h1,h2,h3,h4⟩:=ha k b hk (by omega)
  have key:=q2u (L:=L) (B:=qdd n L ge) k (fun k2 b2 e2 nx hk0 hk2=>by
   obtain⟨o,nm,⟨v1,v2,v3,v4,v5,v6⟩,ns,ar⟩:=e2
   have named:∀ (op:Int) (k3:Nat) (s:List UInt8),qex ⟨op,s,⟨0,false,0,[],[],[]⟩,[],[⟨o,nm,⟨v1,v2,v3,v4,v5,v6⟩,ns,ar⟩]⟩=qex ⟨o,nm,⟨v1,v2,v3,v4,v5,v6⟩,ns,ar⟩+s.length+5:=by
    intro op k3 s
    have:=za3 op ⟨o,nm,⟨v1,v2,v3,v4,v5,v6⟩,ns,ar⟩
    simp only[zc4,qex,qc6,q0e,qtf,qo6,List.map_nil,List.sum_nil,List.length_nil]at this ⊢; omega
   rcases qbd hL hk2 n [46] b2 with d|⟨d,d1,d2,d3⟩
   ·rcases qbd hL hk2 n [91] b2 with f|⟨f,f1,f2,f3⟩
    ·by_cases ho:o=2
     ·subst ho
      rcases qbd hL hk2 n [58] b2 with c|⟨c,c1,c2,c3⟩
      ·left
       simp only[qdd,stE,d,f,c,qac,cond_false,beq_self_eq_true,cond_true]
      ·right
       rcases q1d hL c1 n b2 with q|⟨s,q,q1,q2,q3⟩
       ·refine⟨⟨15,[],⟨0,false,0,[],[],[]⟩,[],[⟨2,nm,⟨v1,v2,v3,v4,v5,v6⟩,ns,ar⟩]⟩,k2+1,true,?_,by omega,c1,?_⟩
        ·simp only[qdd,stE,d,f,c,qac,cond_false,beq_self_eq_true,cond_true,q3d,zc4,q]
        ·rw[named 15 0 []]; simp only[List.length_cons,List.length_nil]at *; omega
       ·refine⟨⟨15,s,⟨0,false,0,[],[],[]⟩,[],[⟨2,nm,⟨v1,v2,v3,v4,v5,v6⟩,ns,ar⟩]⟩,k2+1+1,b2,?_,by omega,q1,?_⟩
        ·simp only[qdd,stE,d,f,c,qac,cond_false,beq_self_eq_true,cond_true,q3d,zc4,q]
        ·rw[named 15 0 s]; simp only[List.length_cons,List.length_nil]at *; omega
     ·left
      simp only[qdd,stE,d,f,qac,cond_false,beq_eq_false_iff_ne.2 ho]
    ·right
     obtain⟨e3,k3,b3,q1,q2,q3,q4⟩:=hge (k2+1) b2 f1 (by omega)
     have two:qex ⟨7,[],⟨0,false,0,[],[],[]⟩,[],[⟨o,nm,⟨v1,v2,v3,v4,v5,v6⟩,ns,ar⟩,e3]⟩=qex ⟨o,nm,⟨v1,v2,v3,v4,v5,v6⟩,ns,ar⟩+qex e3+6:=by
      simp only[qex,qc6,q0e,qtf,qo6,List.map_nil,List.sum_nil,List.length_nil]; omega
     rcases qie hL q3 n [93] b3 with m|⟨m,m1,m2,m3⟩
     ·refine⟨⟨7,[],⟨0,false,0,[],[],[]⟩,[],[⟨o,nm,⟨v1,v2,v3,v4,v5,v6⟩,ns,ar⟩,e3]⟩,k3,true,?_,by omega,q3,?_⟩
      ·obtain⟨o',nm',⟨w1,w2,w3,w4,w5,w6⟩,ns',ar'⟩:=e3
       simp only[qdd,stE,d,f,qac,cond_false,cond_true,q1,m]
      ·rw[two]; simp only[List.length_cons,List.length_nil]at *; omega
     ·refine⟨⟨7,[],⟨0,false,0,[],[],[]⟩,[],[⟨o,nm,⟨v1,v2,v3,v4,v5,v6⟩,ns,ar⟩,e3]⟩,k3+1,b3,?_,by omega,m1,?_⟩
      ·obtain⟨o',nm',⟨w1,w2,w3,w4,w5,w6⟩,ns',ar'⟩:=e3
       simp only[qdd,stE,d,f,qac,cond_false,cond_true,q1,m]
      ·rw[two]; simp only[List.length_cons,List.length_nil]at *; omega
   ·right
    rcases q1d hL d1 n b2 with q|⟨s,q,q1,q2,q3⟩
    ·refine⟨⟨4,[],⟨0,false,0,[],[],[]⟩,[],[⟨o,nm,⟨v1,v2,v3,v4,v5,v6⟩,ns,ar⟩]⟩,k2+1,true,?_,by omega,d1,?_⟩
     ·simp only[qdd,stE,d,qac,cond_true,q3d,zc4,q]
     ·rw[named 4 0 []]; simp only[List.length_cons,List.length_nil]at *; omega
    ·refine⟨⟨4,s,⟨0,false,0,[],[],[]⟩,[],[⟨o,nm,⟨v1,v2,v3,v4,v5,v6⟩,ns,ar⟩]⟩,k2+1+1,b2,?_,by omega,q1,?_⟩
     ·simp only[qdd,stE,d,qac,cond_true,q3d,zc4,q]
     ·rw[named 4 0 s]; simp only[List.length_cons,List.length_nil]at *; omega) n k1 b1 e h2 h3 (by omega)
  refine qjj.step ?_ h2 h4 (e:=e)
  obtain⟨o,nm,⟨v1,v2,v3,v4,v5,v6⟩,ns,ar⟩:=e
  simp only[qlf,h,h1,qac,cond_false]
  exact key
 ·obtain⟨e,k1,b1,h1,h2,h3,h4⟩:=hg (k+1) b p1 (by omega)
  refine⟨zc4 8 e,k1,b1,?_,by omega,h3,?_⟩
  ·obtain⟨o,nm,⟨v1,v2,v3,v4,v5,v6⟩,ns,ar⟩:=e
   simp only[qlf,h,qac,cond_true,h1,q3d,zc4]
  ·rw[za3]; simp only[List.length_cons,List.length_nil]at *; omega
theorem zn6 {ge:List qaj->Int->Bool->Option (qab×Int×Bool)} (hge:Rd L n 9 ge) {g98 g144' g143' a2 a3 a4 a5 a6 a7 a8 a9} (s:List UInt8) :
  ∀ (k:Nat) (b:Bool),k<L.length->12 * (L.length - k)+10<n+1->q8h L k 6 (qp5 n g98 ge a2 a3 a4 a5 a6 a7 a8 a9 g143' g144' s L (k:Int) b):=by
 intro k b hk hn
 have hlen:=hL.len
 have loop:∀ (m k2:Nat) (b2:Bool) (acc:List qab),k<=k2->k2<L.length->acc.length<=k2->qc6 acc+Wt L k<=Wt L k2+1->L.length - k2<m->q8h L k 6 (qap (qju n ge L s) m (acc,(k2:Int),b2)):=by
  intro m
  induction m with
  | zero=>intro k2 b2 acc _ _ _ _ h; omega
  | succ m ih=>
   intro k2 b2 acc hk0 hk2 hacc hsz hm
   rw[qa0]
   generalize qap (qju n ge L s) m=nx at ih ⊢
   obtain⟨e,k3,b3,q1,q2,q3,q4⟩:=hge k2 b2 hk2 (by omega)
   have hsn:=q2h acc e
   obtain⟨o,nm,⟨v1,v2,v3,v4,v5,v6⟩,ns,ar⟩:=e
   simp only[qju,q1,qac]
   rw[qc9 (decide_eq_true (by rw[qaq,List.length_append]; simp only[List.length_cons,List.length_nil]; omega))]
   rcases qbd hL q3 n [44] b3 with h|⟨h,p1,p2,p3⟩
   ·rw[h]
    simp only[qac,Bool.not_false,cond_true]
    rcases qie hL q3 n s b3 with m|⟨m,m1,m2,m3⟩
    ·rw[m]
     exact⟨_,k3,true,rfl,by omega,q3,by omega⟩
    ·rw[m]
     exact⟨_,k3+1,b3,rfl,by omega,m1,by omega⟩
   ·rw[h]
    simp only[qac,Bool.not_true,cond_false]
    refine ih (k3+1) b3 _ (by omega) p1 (by rw[List.length_append]; simp only[List.length_cons,List.length_nil]; omega) ?_ (by omega)
    simp only[List.length_cons,List.length_nil]at p3; omega
 simp only[qp5]
 rcases qbd hL hk n s b with h|⟨h,p1,p2,p3⟩
 ·rw[h]
  simp only[qac,cond_false]
  exact loop n k b [] (Nat.le_refl _) hk (by simp) (by simp only[qc6]; omega) (by omega)
 ·rw[h]
  simp only[qac,cond_true]
  exact⟨[],k+1,b,rfl,by omega,p1,by simp only[qc6]; omega⟩
theorem znk {ge:List qaj->Int->Bool->Option (qab×Int×Bool)} {gl:List UInt8->List qaj->Int->Bool->Option (List qab×Int×Bool)} (hge:Rd L n 9 ge)
  (hl:∀ (s:List UInt8) (k:Nat) (b:Bool),k<L.length->12 * (L.length - k)+10<n->q8h L k 6 (gl s L (k:Int) b)) {g98 g143' a2 a3 a4 a5 a6 a7 a8 a9} (s:List UInt8) :
  ∀ (k:Nat) (b:Bool),k<L.length->12 * (L.length - k)+11<n+1->qjj L k (s.length+20) (qp4 n g98 ge a2 a3 a4 a5 a6 a7 a8 a9 g143' gl s L (k:Int) b):=by
 intro k b hk hn
 have nil14:qex ⟨14,s,⟨0,false,0,[],[],[]⟩,[],[]⟩=s.length+4:=by
  simp only[qex,qc6,q0e,qtf,qo6,List.map_nil,List.sum_nil,List.length_nil]; omega
 have one14:∀ e,qex ⟨14,s,⟨0,false,0,[],[],[]⟩,[],[e]⟩=qex e+s.length+5:=fun e=>by
  simp only[qex,qc6,q0e,qtf,qo6,List.map_nil,List.sum_nil,List.length_nil]; omega
 have agg:∀ k2,k<=k2->k2<L.length->∀ b2,∃ e k3 b3,(bnd (ge L (k2:Int) b2) fun⟨⟨x27,x28,⟨x29,x30,x31,x32,x33,x34⟩,x35,x36⟩,x37,x38⟩=>
   bnd (qax n ([41]:List UInt8) L x37 x38) fun⟨x39,x40⟩=>
   some (qab.mk (14:Int) s (Val.mk (0:Int) false (0:Int) ([]:List UInt8) ([]:List Val) ([]:List (List UInt8))) ([]:List (List UInt8)) [qab.mk x27 x28 (Val.mk x29 x30 x31 x32 x33 x34) x35 x36],x39,x40))=some (e,((k3:Nat):Int),b3)/\k2<=k3/\k3<L.length/\qex e+Wt L k2<=Wt L k3+s.length+9:=by
  intro k2 hk0 hk2 b2
  obtain⟨e,k3,b3,q1,q2,q3,q4⟩:=hge k2 b2 hk2 (by omega)
  have h1:=one14 e
  obtain⟨o,nm,⟨v1,v2,v3,v4,v5,v6⟩,ns,ar⟩:=e
  simp only[q1,qac]
  rcases qie hL q3 n [41] b3 with m|⟨m,m1,m2,m3⟩
  ·rw[m]
   exact⟨_,k3,true,rfl,q2,q3,by omega⟩
  ·rw[m]
   exact⟨_,k3+1,b3,rfl,by omega,m1,by omega⟩
 simp only[qp4,qhw,qac]
 generalize (bif(bif(bif(bif(s==([99,111,117,110,116]:List UInt8))then true else(s==([115,117,109]:List UInt8)))then true else(s==([109,105,110]:List UInt8)))then true else(s==([109,97,120]:List UInt8)))then true else(s==([99,111,108,108,101,99,116]:List UInt8)))=ag
 cases ag with
 | false=>
  obtain⟨l,k1,b1,q1,q2,q3,q4⟩:=hl [41] k b hk (by omega)
  simp only[Bool.not_false,cond_true,q1,qac]
  refine⟨_,k1,b1,rfl,q2,q3,?_⟩
  simp only[qex,q0e,qtf,qo6,List.map_nil,List.sum_nil,List.length_nil]; omega
 | true=>
  simp only[Bool.not_true,cond_false]
  cases hc:(s==([99,111,117,110,116]:List UInt8))with
  | false=>
   simp only[cond_false]
   obtain⟨e,k3,b3,q1,q2,q3,q4⟩:=agg k (Nat.le_refl _) hk b
   exact⟨e,k3,b3,q1,q2,q3,by omega⟩
  | true=>
   simp only[cond_true]
   rcases qbd hL hk n [42] b with h|⟨h,p1,p2,p3⟩
   ·rw[h]
    simp only[qac,cond_false]
    obtain⟨e,k3,b3,q1,q2,q3,q4⟩:=agg k (Nat.le_refl _) hk b
    exact⟨e,k3,b3,q1,q2,q3,by omega⟩
   ·rw[h]
    simp only[qac,cond_true]
    rcases qie hL p1 n [41] b with m|⟨m,m1,m2,m3⟩
    ·rw[m]
     exact⟨_,k+1,true,rfl,by omega,p1,by rw[nil14]; omega⟩
    ·rw[m]
     exact⟨_,k+1+1,b,rfl,by omega,m1,by rw[nil14]; omega⟩
end
end W
end
section
open Go Ax
namespace W
section
variable {L:List qaj} (hL:LOk L) {n:Nat}
include hL
theorem zl6 {ge:List qaj->Int->Bool->Option (qab×Int×Bool)} (hge:Rd L n 9 ge) {g98 g144' g143' a2 a3 a4 a5 a6 a7 a8 a9} :
  ∀ (k:Nat) (b:Bool),k<L.length->12 * (L.length - k)<n+1->q5n L k (qoe n g98 ge a2 a3 a4 a5 a6 a7 a8 a9 g143' g144' L (k:Int) b):=by
 intro k b hk hn
 have hlen:=hL.len
 have loop:∀ (m k2:Nat) (b2:Bool) (ks:List (List UInt8)) (acc:List qab),k+1<=k2->k2<L.length->ks.length<=k2->acc.length<=k2->qo6 ks+qc6 acc+Wt L k+100<=Wt L k2+1->L.length - k2<m ->
   q5n L k (qap (qfr n L ge) m (ks,acc,(k2:Int),b2)):=by
  intro m
  induction m with
  | zero=>intro k2 b2 ks acc _ _ _ _ _ h; omega
  | succ m ih=>
   intro k2 b2 ks acc hkk hk2 hks hacc hsz hm
   rw[qa0]
   generalize qap (qfr n L ge) m=nx at ih ⊢
   cases b2 with
   | true=>
    simp only[qfr,Bool.not_true,cond_false]
    exact⟨ks,acc,k2,true,rfl,hk2,.inr ⟨by omega,by omega⟩⟩
   | false=>
    simp only[qfr,Bool.not_false,cond_true]
    obtain⟨s,k3,b3,hky,y1,y2,y3⟩:∃ s k3 b3,qeo n L (k2:Int) false=some (s,((k3:Nat):Int),b3)/\k2<=k3/\k3<L.length/\s.length+Wt L k2<=Wt L k3:=by
     rcases q1d hL hk2 n false with q|⟨s,q,q1,q2,q3⟩
     ·exact⟨[],k2,true,q,Nat.le_refl _,hk2,by simp⟩
     ·exact⟨s,k2+1,false,q,by omega,q1,by omega⟩
    obtain⟨k4,b4,hmu,z1,z2,z3⟩:∃ k4 b4,qax n [58] L (k3:Int) b3=some (((k4:Nat):Int),b4)/\k3<=k4/\k4<L.length/\Wt L k3<=Wt L k4:=by
     rcases qie hL y2 n [58] b3 with q|⟨q,q1,q2,q3⟩
     ·exact⟨k3,true,q,Nat.le_refl _,y2,Nat.le_refl _⟩
     ·exact⟨k3+1,b3,q,by omega,q1,by omega⟩
    obtain⟨e,k5,b5,q1,q2,q3,q4⟩:=hge k4 b4 z2 (by omega)
    have hsn:=q2h acc e
    have hns:=q6m ks s
    obtain⟨o,nm,⟨v1,v2,v3,v4,v5,v6⟩,ns,ar⟩:=e
    simp only[hky,hmu,q1,qac]
    rw[qc9 (decide_eq_true (by rw[qay,List.length_append]; simp only[List.length_cons,List.length_nil]; omega)),qc9 (decide_eq_true (by rw[qaq,List.length_append]; simp only[List.length_cons,List.length_nil]; omega))]
    rcases qbd hL q3 n [44] b5 with h|⟨h,p1,p2,p3⟩
    ·rw[h]
     simp only[qac,Bool.not_false,cond_true]
     rcases qie hL q3 n [125] b5 with m|⟨m,m1,m2,m3⟩
     ·rw[m]
      exact⟨_,_,k5,true,rfl,q3,.inr ⟨by omega,by omega⟩⟩
     ·rw[m]
      exact⟨_,_,k5+1,b5,rfl,m1,.inr ⟨by omega,by omega⟩⟩
    ·rw[h]
     simp only[qac,Bool.not_true,cond_false]
     simp only[List.length_cons,List.length_nil]at p3
     exact ih (k5+1) b5 _ _ (by omega) p1 (by rw[List.length_append]; simp only[List.length_cons,List.length_nil]; omega) (by rw[List.length_append]; simp only[List.length_cons,List.length_nil]; omega) (by omega) (by omega)
 have nil:qo6 []+qc6 []=1:=rfl
 simp only[qoe]
 rcases qie hL hk n [123] b with m|⟨m,m1,m2,m3⟩
 ·rw[m]
  simp only[qac]
  rcases qbd hL hk n [125] true with h|⟨h,p1,p2,p3⟩
  ·rw[h]
   simp only[qac,cond_false]
   obtain⟨j,rfl⟩:=Nat.exists_eq_succ_of_ne_zero (by omega:n≠0)
   rw[qa0]
   simp only[qfr,Bool.not_true,cond_false]
   exact⟨[],[],k,true,rfl,hk,.inl ⟨rfl,rfl,rfl⟩⟩
  ·cases p2
 ·rw[m]
  simp only[qac]
  simp only[List.length_cons,List.length_nil]at m3
  rcases qbd hL m1 n [125] b with h|⟨h,p1,p2,p3⟩
  ·rw[h]
   simp only[qac,cond_false]
   exact loop n (k+1) b [] [] (Nat.le_refl _) m1 (by simp) (by simp) (by rw[nil]; omega) (by omega)
  ·rw[h]
   simp only[qac,cond_true]
   exact⟨[],[],k+1+1,b,rfl,p1,.inr ⟨by omega,by rw[nil]; omega⟩⟩
theorem zni {ge:List qaj->Int->Bool->Option (qab×Int×Bool)} {gp:List qaj->Int->Bool->Option (List (List UInt8)×List qab×Int×Bool)} {gc:List UInt8->List qaj->Int->Bool->Option (qab×Int×Bool)} {gl:List UInt8->List qaj->Int->Bool->Option (List qab×Int×Bool)} (hge:Rd L n 9 ge)
  (hl:∀ (s:List UInt8) (k:Nat) (b:Bool),k<L.length->12 * (L.length - k)+10<n->q8h L k 6 (gl s L (k:Int) b))
  (hc:∀ (s:List UInt8) (k:Nat) (b:Bool),k<L.length->12 * (L.length - k)+11<n->qjj L k (s.length+20) (gc s L (k:Int) b))
  (hp:∀ (k:Nat) (b:Bool),k<L.length->12 * (L.length - k)<n->q5n L k (gp L (k:Int) b)) {a2 a3 a4 a5 a6 a7 a8 a9} :
  ∀ (k:Nat) (b:Bool),k<L.length->12 * (L.length - k)+1<n+1->qjj L k 4 (qm9 n gp ge a2 a3 a4 a5 a6 a7 a8 a9 gc gl L (k:Int) b):=by
 intro k b hk hn
 have hlen:=hL.len
 have lit:∀ (op:Int) (s:List UInt8) (v1:Int) (v2:Bool) (v3:Int) (v4:List UInt8),qex ⟨op,s,⟨v1,v2,v3,v4,[],[]⟩,[],[]⟩=s.length+v4.length+4:=fun op s v1 v2 v3 v4=>by
  simp only[qex,qc6,q0e,qtf,qo6,List.map_nil,List.sum_nil,List.length_nil]; omega
 have litl:∀ (op:Int) (ks:List (List UInt8)) (l:List qab),qex ⟨op,[],⟨0,false,0,[],[],[]⟩,ks,l⟩=qo6 ks+qc6 l+3:=fun op ks l=>by
  simp only[qex,q0e,qtf,List.map_nil,List.sum_nil,List.length_nil]; omega
 cases b with
 | true=>
  simp only[qm9,cond_true]
  exact⟨_,k,true,rfl,Nat.le_refl _,hk,by rw[lit]; simp only[List.length_nil]; omega⟩
 | false=>
  have hx:=List.getElem?_eq_getElem hk
  generalize L[k]=t at hx
  have hw:=q2c hx
  have hnl:=fun h=>za2 hL hx h
  obtain⟨t1,t2,t3,t4⟩:=t
  simp only at hw hnl
  simp only[qm9,cond_false,qal hx,qac]
  by_cases k3:t1=3
  ·subst k3
   rw[beq_self_eq_true,cond_true,qb8 (by omega)]
   exact⟨_,k+1,false,rfl,by omega,hnl (by decide),by rw[lit]; simp only[List.length_nil]; omega⟩
  rw[beq_eq_false_iff_ne.2 k3,cond_false]
  by_cases k4:t1=4
  ·subst k4
   rw[beq_self_eq_true,cond_true,qb8 (by omega)]
   exact⟨_,k+1,false,rfl,by omega,hnl (by decide),by rw[lit]; simp only[List.length_nil]; omega⟩
  rw[beq_eq_false_iff_ne.2 k4,cond_false]
  by_cases k1:t1=1
  ·subst k1
   have hk1:=hnl (by decide)
   rw[beq_self_eq_true,cond_true,qb8 (by omega)]
   rcases qbd hL hk1 n [40] false with h|⟨h,p1,p2,p3⟩
   ·rw[h]
    simp only[qac,cond_false]
    exact⟨_,k+1,false,rfl,by omega,hk1,by rw[lit]; simp only[List.length_nil]; omega⟩
   ·rw[h]
    simp only[qac,cond_true]
    obtain⟨e,k2,b2,q1,q2,q3,q4⟩:=hc t2 (k+1+1) false p1 (by omega)
    refine⟨e,k2,b2,?_,by omega,q3,by simp only[List.length_cons,List.length_nil]at p3; omega⟩
    obtain⟨o,nm,⟨v1,v2,v3,v4,v5,v6⟩,ns,ar⟩:=e
    simp only[q1,qac]
  rw[beq_eq_false_iff_ne.2 k1,cond_false]
  rcases qbd hL hk n [78,85,76,76] false with h1|⟨h1,p1,p2,p3⟩
  rotate_left
  ·rw[h1]
   simp only[qac,cond_true]
   exact⟨_,k+1,false,rfl,by omega,p1,by rw[lit]; simp only[List.length_nil,List.length_cons]at *; omega⟩
  rw[h1]; simp only[qac,cond_false]; clear h1
  rcases qbd hL hk n [84,82,85,69] false with h1|⟨h1,p1,p2,p3⟩
  rotate_left
  ·rw[h1]
   simp only[qac,cond_true]
   exact⟨_,k+1,false,rfl,by omega,p1,by rw[lit]; simp only[List.length_nil,List.length_cons]at *; omega⟩
  rw[h1]; simp only[qac,cond_false]; clear h1
  rcases qbd hL hk n [70,65,76,83,69] false with h1|⟨h1,p1,p2,p3⟩
  rotate_left
  ·rw[h1]
   simp only[qac,cond_true]
   exact⟨_,k+1,false,rfl,by omega,p1,by rw[lit]; simp only[List.length_nil,List.length_cons]at *; omega⟩
  rw[h1]; simp only[qac,cond_false]; clear h1
  rcases qbd hL hk n [36] false with h1|⟨h1,p1,p2,p3⟩
  rotate_left
  ·rw[h1]
   simp only[qac,cond_true]
   rcases q2t hL p1 n false with q|⟨s,q,q1,q2,q3⟩
   ·rw[q]
    exact⟨_,k+1,true,rfl,by omega,p1,by rw[lit]; simp only[List.length_nil,List.length_cons]at *; omega⟩
   ·rw[q]
    exact⟨_,k+1+1,false,rfl,by omega,q1,by rw[lit]; simp only[List.length_nil,List.length_cons]at *; omega⟩
  rw[h1]; simp only[qac,cond_false]; clear h1
  rcases qbd hL hk n [40] false with h1|⟨h1,p1,p2,p3⟩
  rotate_left
  ·rw[h1]
   simp only[qac,cond_true]
   obtain⟨e,k2,b2,q1,q2,q3,q4⟩:=hge (k+1) false p1 (by omega)
   simp only[List.length_cons,List.length_nil]at p3
   rcases qie hL q3 n [41] b2 with m|⟨m,m1,m2,m3⟩
   ·refine⟨e,k2,true,?_,by omega,q3,by omega⟩
    obtain⟨o,nm,⟨v1,v2,v3,v4,v5,v6⟩,ns,ar⟩:=e
    simp only[q1,qac,m]
   ·refine⟨e,k2+1,b2,?_,by omega,m1,by omega⟩
    obtain⟨o,nm,⟨v1,v2,v3,v4,v5,v6⟩,ns,ar⟩:=e
    simp only[q1,qac,m]
  rw[h1]; simp only[qac,cond_false]; clear h1
  rcases qbd hL hk n [91] false with h1|⟨h1,p1,p2,p3⟩
  rotate_left
  ·rw[h1]
   simp only[qac,cond_true]
   obtain⟨l,k2,b2,q1,q2,q3,q4⟩:=hl [93] (k+1) false p1 (by omega)
   rw[q1]
   exact⟨_,k2,b2,rfl,by omega,q3,by rw[litl]; simp only[qo6,List.map_nil,List.sum_nil,List.length_nil,List.length_cons]at *; omega⟩
  rw[h1]; simp only[qac,cond_false]; clear h1
  obtain⟨c,i1,j1⟩:=qk3 hL hk n [123] false
  rw[i1]
  simp only[qac]
  cases c with
  | false=>
   simp only[cond_false]
   exact⟨_,k,true,rfl,Nat.le_refl _,hk,by rw[lit]; simp only[List.length_nil]; omega⟩
  | true=>
   simp only[cond_true]
   obtain⟨ks,l,k2,b2,q1,q3,q4⟩:=hp k false hk (by omega)
   rw[q1]
   simp only[qac]
   rcases q4 with ⟨rfl,rfl,rfl⟩|⟨q4,q5⟩
   ·exact⟨_,k2,b2,rfl,Nat.le_refl _,q3,by rw[litl]; simp only[qo6,qc6,List.map_nil,List.sum_nil]; omega⟩
   ·exact⟨_,k2,b2,rfl,by omega,q3,by rw[litl]; omega⟩
theorem zfk:∀ n:Nat,Rd L n 9 (qbb n)/\Rd L n 8 (qcj n)/\Rd L n 7 (qcg n)/\Rd L n 6 (qch n)/\Rd L n 5 (qb3 n)/\Rd L n 4 (qci n)/\Rd L n 3 (qa8 n)/\Rd L n 2 (qbk n)/\Rd L n 1 (qb0 n) /\
  (∀ (s:List UInt8) (k:Nat) (b:Bool),k<L.length->12 * (L.length - k)+10<n->q8h L k 6 (qb2 n s L (k:Int) b)) /\
  (∀ (s:List UInt8) (k:Nat) (b:Bool),k<L.length->12 * (L.length - k)+11<n->qjj L k (s.length+20) (qb1 n s L (k:Int) b)) /\
  (∀ (k:Nat) (b:Bool),k<L.length->12 * (L.length - k)<n->q5n L k (qa4 n L (k:Int) b)):=by
 intro n
 induction n with
 | zero=>exact⟨fun _ _ _ h=>by omega,fun _ _ _ h=>by omega,fun _ _ _ h=>by omega,fun _ _ _ h=>by omega,fun _ _ _ h=>by omega,fun _ _ _ h=>by omega,fun _ _ _ h=>by omega,fun _ _ _ h=>by omega,fun _ _ _ h=>by omega,fun _ _ _ _ h=>by omega,fun _ _ _ _ h=>by omega,fun _ _ _ h=>by omega⟩
 | succ n ih=>
  obtain⟨i1,i2,i3,i4,i5,i6,i7,i8,i9,i10,i11,i12⟩:=ih
  refine⟨fun k b hk hn=>?_,fun k b hk hn=>?_,fun k b hk hn=>?_,fun k b hk hn=>?_,fun k b hk hn=>?_,fun k b hk hn=>?_,fun k b hk hn=>?_,fun k b hk hn=>?_,fun k b hk hn=>?_,fun s k b hk hn=>?_,fun s k b hk hn=>?_,fun k b hk hn=>?_⟩
  ·exact zng hL i2 k b hk hn
  ·exact zqf hL i3 k b hk hn
  ·exact zpa hL i4 k b hk hn
  ·exact zpq hL i4 i5 k b hk hn
  ·exact zok hL i6 k b hk hn
  ·exact zp9 hL i7 k b hk hn
  ·exact zgw hL i8 k b hk hn
  ·exact zlx hL i8 i9 i1 k b hk hn
  ·exact zni hL i1 i10 i11 i12 k b hk hn
  ·exact zn6 hL i1 s k b hk hn
  ·exact znk hL i1 i10 s k b hk hn
  ·exact zl6 hL i1 k b hk hn
end
end W
end
section
open Go Ax
namespace W
section
variable {L:List qaj} (hL:LOk L) {n:Nat}
include hL
theorem zb9 {k:Nat} (hk:k<L.length) (hn:60000<n) (b:Bool):qjj L k 4 (qbb n L (k:Int) b):=
 (zfk hL n).1 k b hk (by have:=hL.len; omega)
theorem zoh {k:Nat} (hk:k<L.length) (hn:60000<n) (b:Bool):q5n L k (qa4 n L (k:Int) b):=
 (zfk hL n).2.2.2.2.2.2.2.2.2.2.2 k b hk (by have:=hL.len; omega)
theorem zpf {k:Nat} (hk:k<L.length) (s:List UInt8) (b:Bool):∃ c k',qan n s L (k:Int) b=some (c,((k':Nat):Int))/\k<=k'/\k'<L.length/\(c=true->b=false/\Wt L k+100<=Wt L k')/\(c=false->k'=k):=by
 rcases qbd hL hk n s b with h|⟨h,p1,p2,p3⟩
 ·exact⟨false,k,h,Nat.le_refl _,hk,fun h=>(by cases h),fun _=>rfl⟩
 ·exact⟨true,k+1,h,by omega,p1,fun _=>⟨p2,by omega⟩,fun h=>by cases h⟩
theorem qxa {k:Nat} (hk:k<L.length) (s:List UInt8) (b:Bool):∃ k' b',qax n s L (k:Int) b=some (((k':Nat):Int),b')/\k<=k'/\k'<L.length/\Wt L k<=Wt L k':=by
 rcases qie hL hk n s b with h|⟨h,p1,p2,p3⟩
 ·exact⟨k,true,h,Nat.le_refl _,hk,Nat.le_refl _⟩
 ·exact⟨k+1,b,h,by omega,p1,by omega⟩
theorem zfx {k:Nat} (hk:k<L.length) (b:Bool):∃ s k' b',qd3 n L (k:Int) b=some (s,((k':Nat):Int),b')/\k<=k'/\k'<L.length/\s.length+Wt L k<=Wt L k'/\(b'=false->Wt L k+s.length+100<=Wt L k'):=by
 rcases q2t hL hk n b with h|⟨s,h,p1,p2,p3⟩
 ·exact⟨[],k,true,h,Nat.le_refl _,hk,by simp,fun h=>by cases h⟩
 ·exact⟨s,k+1,b,h,by omega,p1,by omega,fun _=>by omega⟩
theorem q85 {k:Nat} (hk:k<L.length) (b:Bool):∃ s k' b',qei n L (k:Int) b=some (s,((k':Nat):Int),b')/\k<=k'/\k'<L.length/\s.length+Wt L k<=Wt L k':=by
 rcases q8e hL hk n b with h|⟨s,h,p1,p2,p3⟩
 ·exact⟨[],k,b,h,Nat.le_refl _,hk,by simp⟩
 ·exact⟨s,k+1,b,h,by omega,p1,by omega⟩
theorem zlq {k:Nat} (hk:k<L.length) (b:Bool):∃ s k' b',qeo n L (k:Int) b=some (s,((k':Nat):Int),b')/\k<=k'/\k'<L.length/\s.length+Wt L k<=Wt L k':=by
 rcases q1d hL hk n b with h|⟨s,h,p1,p2,p3⟩
 ·exact⟨[],k,true,h,Nat.le_refl _,hk,by simp⟩
 ·exact⟨s,k+1,b,h,by omega,p1,by omega⟩
theorem zjx {k:Nat} (hk:k<L.length) (hn:60000<n) (b:Bool) {R:Type} (K:Int×Bool×List (List UInt8)×List qab->Option R) :
  ∃ ks l k' b',(bnd (qcx n ([123]:List UInt8) L (k:Int) b) fun x23=>bif x23 then(bnd (qa4 n L (k:Int) b) fun⟨x24,x25,x26,x27⟩=>K (x26,x27,x24,x25))else K ((k:Int),b,([]:List _),([]:List _)))=K (((k':Nat):Int),b',ks,l)/\k<=k'/\k'<L.length/\qo6 ks+qc6 l+Wt L k<=Wt L k'+1:=by
 obtain⟨c,i1,j1⟩:=qk3 hL hk n [123] b
 rw[i1]
 simp only[qac]
 have nil:qo6 []+qc6 []=1:=rfl
 cases c with
 | false=>exact⟨[],[],k,b,rfl,Nat.le_refl _,hk,by rw[nil]; omega⟩
 | true=>
  simp only[cond_true]
  obtain⟨ks,l,k',b',h1,h2,h3⟩:=zoh hL hk hn b
  rw[h1]
  rcases h3 with ⟨rfl,rfl,rfl⟩|⟨h3,h4⟩
  ·exact⟨[],[],k',b',rfl,Nat.le_refl _,hk,by rw[nil]; omega⟩
  ·exact⟨ks,l,k',b',rfl,by omega,h2,by omega⟩
def zhv (L:List qaj) (k c:Nat) (o:Option (qaf×Int×Bool)):Prop:=∃ d k' b',o=some (d,((k':Nat):Int),b')/\k<=k'/\k'<L.length/\qg9 d+Wt L k<=Wt L k'+c
theorem zj2 {k:Nat} (hk:k<L.length) (hn:60000<n) (b:Bool):zhv L k 10 (qkl n L (k:Int) b):=by
 have hlen:=hL.len
 obtain⟨k1,b1,e1,a1,a2,a3⟩:=qxa (n:=n) hL hk [40] b
 obtain⟨v,k2,b2,e2,c1,c2,c3⟩:=q85 (n:=n) hL a2 b1
 have loop:∀ (m k3:Nat) (b3:Bool) (ls:List (List UInt8)),k2<=k3->k3<L.length->ls.length<=k3->qo6 ls+Wt L k2<=Wt L k3->L.length - k3<m->zhv L k 10 (qap (qjw n L v) m ((k3:Int),b3,ls)):=by
  intro m
  induction m with
  | zero=>intro k3 b3 ls _ _ _ _ h; omega
  | succ m ih=>
   intro k3 b3 ls h0 h1 h2 h3 hm
   rw[qa0]
   generalize qap (qjw n L v) m=nx at ih ⊢
   simp only[qjw]
   rcases qbd hL h1 n [58] b3 with h|⟨h,p1,p2,p3⟩
   ·rw[h]
    simp only[qac,cond_false]
    obtain⟨ks,l,k4,b4,g1,g2,g3,g4⟩:=zjx hL h1 hn b3 (qjv n L v ls)
    refine cast (congrArg (zhv L k 10) g1.symm) ?_
    simp only[qjv]
    obtain⟨k5,b5,f1,f2,f3,f4⟩:=qxa (n:=n) hL g3 [41] b4
    rw[f1]
    refine⟨_,k5,b5,rfl,by omega,f3,?_⟩
    simp only[qg9]; omega
   ·rw[h]
    simp only[qac,cond_true]
    obtain⟨s,k4,b4,g1,g2,g3,g4⟩:=zlq (n:=n) hL p1 b3
    rw[g1]
    simp only[qac]
    have hns:=q6m ls s
    simp only[List.length_cons,List.length_nil]at p3
    rw[qc9 (decide_eq_true (by rw[qay,List.length_append]; simp only[List.length_cons,List.length_nil]; omega))]
    exact ih k4 b4 _ (by omega) g3 (by rw[List.length_append]; simp only[List.length_cons,List.length_nil]; omega) (by omega) (by omega)
 simp only[qkl,e1,e2,qac]
 have:=loop n k2 b2 [] (Nat.le_refl _) c2 (by simp) (by simp[qo6]) (by omega)
 exact this
end
end W
end
section
open Go Ax
namespace W
theorem zpk:@qk7 = @qfp:=rfl
theorem zpl:@qk9 = @qfq:=rfl
section
variable {L:List qaj} (hL:LOk L) {n:Nat} (hn:60000<n)
include hL hn
def zbz (L:List qaj) (k c:Nat) (N:List qaf) (E:List qai) (nx:Int×Bool×List qaf×List qai->Option (qa9×Int×Bool)) (es:Nat) (o:Option (qa9×Int×Bool)):Prop:=
 ∃ d e k' b',o=nx (((k':Nat):Int),b',N++[d],E++[e])/\k<=k'/\k'<L.length/\qg9 d+qjg e+Wt L k<=Wt L k'+es+c
theorem znr {k:Nat} (hk:k<L.length) (b:Bool) (v t:List UInt8) (dir:Int) (ks:List (List UInt8)) (l:List qab) {N:List qaf} {E:List qai} (hN:N.length<=5000) (hE:E.length<=5000) (nx:Int×Bool×List qaf×List qai->Option (qa9×Int×Bool)) :
  zbz L k 11 N E nx (v.length+t.length+qo6 ks+qc6 l) (qgt n L b E v t ks l N nx ((k:Int),dir)):=by
 obtain⟨d,k',b',h1,h2,h3,h4⟩:=zj2 hL hk hn b
 refine⟨d,⟨v,t,dir,ks,l⟩,k',b',?_,h2,h3,?_⟩
 ·obtain⟨d1,d2,d3,d4⟩:=d
  simp only[qgt,h1,qac]
  rw[qc9 (decide_eq_true (by rw[qfa,List.length_append]; simp only[List.length_cons,List.length_nil]; omega)),qc9 (decide_eq_true (by rw[qda,List.length_append]; simp only[List.length_cons,List.length_nil]; omega))]
 ·simp only[qjg]; omega
theorem zpi {k:Nat} (hk:k<L.length) (b bk:Bool) (v t:List UInt8) (ks:List (List UInt8)) (l:List qab) {N:List qaf} {E:List qai} (hN:N.length<=5000) (hE:E.length<=5000) (nx:Int×Bool×List qaf×List qai->Option (qa9×Int×Bool)) :
  zbz L k 11 N E nx (v.length+t.length+qo6 ks+qc6 l) (qfp n L bk E N nx ((k:Int),b,v,t,ks,l)):=by
 obtain⟨k1,b1,h1,h2,h3,h4⟩:=qxa (n:=n) hL hk [45] b
 simp only[qfp,h1,qac]
 cases bk with
 | true=>
  simp only[cond_true]
  obtain⟨d,e,k',b',g1,g2,g3,g4⟩:=znr hL hn h3 b1 v t 1 ks l hN hE nx
  exact⟨d,e,k',b',g1,by omega,g3,by omega⟩
 | false=>
  simp only[cond_false]
  obtain⟨c,k2,f1,f2,f3,f4,f5⟩:=zpf (n:=n) hL h3 [62] b1
  have hm:=qpc (L:=L) f2
  rw[f1]
  simp only[qac]
  cases c with
  | true=>
   simp only[cond_true]
   obtain⟨d,e,k',b',g1,g2,g3,g4⟩:=znr hL hn f3 b1 v t 0 ks l hN hE nx
   exact⟨d,e,k',b',g1,by omega,g3,by omega⟩
  | false=>
   simp only[cond_false]
   obtain⟨d,e,k',b',g1,g2,g3,g4⟩:=znr hL hn f3 b1 v t 2 ks l hN hE nx
   exact⟨d,e,k',b',g1,by omega,g3,by omega⟩
theorem zpj {k:Nat} (hk:k<L.length) (b bk:Bool) (v t:List UInt8) {N:List qaf} {E:List qai} (hN:N.length<=5000) (hE:E.length<=5000) (nx:Int×Bool×List qaf×List qai->Option (qa9×Int×Bool)) :
  zbz L k 12 N E nx (v.length+t.length) (qfq n L bk E N nx v ((k:Int),b,t)):=by
 obtain⟨ks,l,k1,b1,h1,h2,h3,h4⟩:=zjx hL hk hn b (qh7 n L bk E N nx v t)
 obtain⟨k2,b2,f1,f2,f3,f4⟩:=qxa (n:=n) hL h3 [93] b1
 obtain⟨d,e,k',b',g1,g2,g3,g4⟩:=zpi hL hn f3 b2 bk v t ks l hN hE nx
 refine⟨d,e,k',b',?_,by omega,g3,by omega⟩
 refine Eq.trans h1 ?_
 simp only[qh7,f1,qac]
 exact g1
theorem zmu {k:Nat} (hk:k<L.length) (b bk:Bool) {N:List qaf} {E:List qai} (hN:N.length<=5000) (hE:E.length<=5000) (nx:Int×Bool×List qaf×List qai->Option (qa9×Int×Bool)) :
  zbz L k 12 N E nx 0 (bnd (qan n ([91]:List UInt8) L (k:Int) b) fun⟨x38,x39⟩=>
   bif x38 then(
   bnd (qei n L x39 b) fun⟨x40,x41,x42⟩=>
   bnd (qan n ([58]:List UInt8) L x41 x42) fun⟨x57,x58⟩=>
   bif x57 then(
   bnd (qeo n L x58 x42) fun⟨x59,x60,x61⟩=>
   qfq n L bk E N nx x40 (x60,x61,x59))
   else(
   qfq n L bk E N nx x40 (x58,x42,([]:List UInt8))))
   else(
   qfp n L bk E N nx (x39,b,([]:List UInt8),([]:List UInt8),([]:List _),([]:List _)))):=by
 rcases qbd hL hk n [91] b with h|⟨h,p1,p2,p3⟩
 ·rw[h]
  simp only[qac,cond_false]
  obtain⟨d,e,k',b',g1,g2,g3,g4⟩:=zpi hL hn hk b bk [] [] [] [] hN hE nx
  refine⟨d,e,k',b',g1,by omega,g3,?_⟩
  simp only[qo6,qc6,List.map_nil,List.sum_nil,List.length_nil]at g4; omega
 ·rw[h]
  simp only[qac,cond_true]
  obtain⟨v,k1,b1,e1,a1,a2,a3⟩:=q85 (n:=n) hL p1 b
  rw[e1]
  simp only[qac]
  rcases qbd hL a2 n [58] b1 with f|⟨f,q1,q2,q3⟩
  ·rw[f]
   simp only[qac,cond_false]
   obtain⟨d,e,k',b',g1,g2,g3,g4⟩:=zpj hL hn a2 b1 bk v [] hN hE nx
   refine⟨d,e,k',b',g1,by omega,g3,?_⟩
   simp only[List.length_nil]at g4; omega
  ·rw[f]
   simp only[qac,cond_true]
   obtain⟨s,k2,b2,e2,c1,c2,c3⟩:=zlq (n:=n) hL q1 b1
   rw[e2]
   simp only[qac]
   obtain⟨d,e,k',b',g1,g2,g3,g4⟩:=zpj hL hn c2 b2 bk v s hN hE nx
   exact⟨d,e,k',b',g1,by omega,g3,by omega⟩
omit hn in
theorem zqu {k:Nat} (hk:k<L.length) (b:Bool) (h:qcx n [45] L (k:Int) b=some true\/qcx n [60] L (k:Int) b=some true) :
  ∃ c k1 k2 b2,qan n [60] L (k:Int) b=some (c,((k1:Nat):Int))/\qax n [45] L (k1:Int) b=some (((k2:Nat):Int),b2)/\k<k2/\k2<L.length/\Wt L k+100<=Wt L k2:=by
 rcases qbd hL hk n [60] b with f|⟨f,p1,p2,p3⟩
 ·rcases h with h|h
  ·obtain⟨c,i1,j1⟩:=qk3 hL hk n [45] b
   rw[h]at i1
   cases i1
   obtain⟨u1,u2,u3⟩:=j1 rfl
   rcases qie hL hk n [45] b with m|⟨m,m1,m2,m3⟩
   ·exfalso
    simp only[qax,qan,h,qac,Bool.not_true,cond_false,Option.some.injEq,Prod.mk.injEq]at m
    rw[u2]at m
    exact absurd m.2 (by decide)
   ·exact⟨false,k,k+1,b,f,m,by omega,m1,by omega⟩
  ·exfalso
   simp only[qan,h,qac,Bool.not_true,cond_false,Option.some.injEq,Prod.mk.injEq]at f
   exact absurd f.1 (by decide)
 ·obtain⟨k2,b2,m,m1,m2,m3⟩:=qxa (n:=n) hL p1 [45] b
  exact⟨true,k+1,k2,b2,f,m,by omega,m2,by omega⟩
def zfd (L:List qaj) (k c:Nat) (o:Option (qa9×Int×Bool)):Prop:=∃ p k' b',o=some (p,((k':Nat):Int),b')/\k<=k'/\k'<L.length/\qi3 p+Wt L k<=Wt L k'+c
theorem zpt {k:Nat} (hk:k<L.length) (b:Bool):zfd L k 12 (qrr n L (k:Int) b):=by
 have hlen:=hL.len
 obtain⟨d,k1,b1,h1,h2,h3,h4⟩:=zj2 hL hk hn b
 have loop:∀ (m k2:Nat) (b2:Bool) (N:List qaf) (E:List qai),k<=k2->k2<L.length->N.length<=k2+1->E.length<=k2->(N.map qg9).sum+(E.map qjg).sum+Wt L k<=Wt L k2+10->L.length - k2<m ->
   zfd L k 12 (qap (qjx n L) m ((k2:Int),b2,N,E)):=by
  intro m
  induction m with
  | zero=>intro k2 b2 N E _ _ _ _ _ h; omega
  | succ m ih=>
   intro k2 b2 N E hk0 hk2 hN hE hsz hm
   rw[qa0]
   generalize qap (qjx n L) m=nx at ih ⊢
   obtain⟨c1,i1,j1⟩:=qk3 hL hk2 n [45] b2
   obtain⟨c2,i2,j2⟩:=qk3 hL hk2 n [60] b2
   simp only[qjx,i1,i2,qac,zpk,zpl]
   have done:zfd L k 12 (some (⟨N,E⟩,(k2:Int),b2)):=⟨_,k2,b2,rfl,hk0,hk2,by simp only[qi3]; omega⟩
   have go:(c1=true\/c2=true)->∃ c k1 k3 b3,qan n [60] L (k2:Int) b2=some (c,((k1:Nat):Int))/\qax n [45] L (k1:Int) b2=some (((k3:Nat):Int),b3)/\k2<k3/\k3<L.length/\Wt L k2+100<=Wt L k3:=fun hc=>zqu hL hk2 b2 (by rcases hc with rfl|rfl; exact .inl i1; exact .inr i2)
   have step:∀ {o:Option (qa9×Int×Bool)} {k3:Nat},k2<k3->Wt L k2+100<=Wt L k3->zbz L k3 12 N E nx 0 o->zfd L k 12 o:=by
    intro o k3 hk3 hw ⟨d,e,k',b',g1,g2,g3,g4⟩
    rw[g1]
    refine ih k' b' _ _ (by omega) g3 (by rw[List.length_append]; simp only[List.length_cons,List.length_nil]; omega) (by rw[List.length_append]; simp only[List.length_cons,List.length_nil]; omega) ?_ (by omega)
    simp only[List.map_append,List.map_cons,List.map_nil,List.sum_append,List.sum_cons,List.sum_nil]
    omega
   cases c1 with
   | true=>
    obtain⟨c,k3,k4,b4,e1,e2,e3,e4,e5⟩:=go (.inl rfl)
    simp only[Bool.not_true,cond_false,cond_true,e1,e2,qac]
    exact step e3 e5 (zmu hL hn e4 b4 c (by omega) (by omega) nx)
   | false=>
    cases c2 with
    | true=>
     obtain⟨c,k3,k4,b4,e1,e2,e3,e4,e5⟩:=go (.inr rfl)
     simp only[Bool.not_false,cond_false,cond_true,e1,e2,qac]
     exact step e3 e5 (zmu hL hn e4 b4 c (by omega) (by omega) nx)
    | false=>
     simp only[Bool.not_false,cond_false,cond_true]
     exact done
 simp only[qrr,h1,qac]
 obtain⟨d1,d2,d3,d4⟩:=d
 rw[qc9 (decide_eq_true (by rw[qda]; simp only[List.length_cons,List.length_nil]; omega))]
 exact loop n k1 b1 [⟨d1,d2,d3,d4⟩] [] h2 h3 (by simp) (by simp) (by simp only[List.map_cons,List.map_nil,List.sum_cons,List.sum_nil]; omega) (by omega)
def zhw (L:List qaj) (k c:Nat) (o:Option (List qa9×Int×Bool)):Prop:=∃ l k' b',o=some (l,((k':Nat):Int),b')/\k<=k'/\k'<L.length/\(l.map qi3).sum+Wt L k<=Wt L k'+c/\l.length<=5000
theorem zkc {k:Nat} (hk:k<L.length) (b:Bool):zhw L k 12 (qnp n L (k:Int) b):=by
 have hlen:=hL.len
 have loop:∀ (m k2:Nat) (b2:Bool) (acc:List qa9),k<=k2->k2<L.length->acc.length<=k2->(acc.map qi3).sum+Wt L k<=Wt L k2->L.length - k2<m->zhw L k 12 (qap (qh8 n L) m (acc,(k2:Int),b2)):=by
  intro m
  induction m with
  | zero=>intro k2 b2 acc _ _ _ _ h; omega
  | succ m ih=>
   intro k2 b2 acc hk0 hk2 hacc hsz hm
   rw[qa0]
   generalize qap (qh8 n L) m=nx at ih ⊢
   obtain⟨p,k3,b3,q1,q2,q3,q4⟩:=zpt hL hn hk2 b2
   have hs:((acc++[p]).map qi3).sum=(acc.map qi3).sum+qi3 p:=by simp
   obtain⟨p1,p2⟩:=p
   simp only[qh8,q1,qac]
   rw[qc9 (decide_eq_true (by rw[qdb,List.length_append]; simp only[List.length_cons,List.length_nil]; omega))]
   rcases qbd hL q3 n [44] b3 with h|⟨h,r1,r2,r3⟩
   ·rw[h]
    simp only[qac,Bool.not_false,cond_true]
    exact⟨_,k3,b3,rfl,by omega,q3,by omega,by rw[List.length_append]; simp only[List.length_cons,List.length_nil]; omega⟩
   ·rw[h]
    simp only[qac,Bool.not_true,cond_false]
    simp only[List.length_cons,List.length_nil]at r3
    exact ih (k3+1) b3 _ (by omega) r1 (by rw[List.length_append]; simp only[List.length_cons,List.length_nil]; omega) (by omega) (by omega)
 simp only[qnp]
 exact loop n k b [] (Nat.le_refl _) hk (by simp) (by simp) (by omega)
theorem q4n {k:Nat} (hk:k<L.length) (s:List UInt8) (b:Bool):q8h L k 1 (qhg n s L (k:Int) b):=by
 simp only[qhg]
 rcases qbd hL hk n s b with h|⟨h,p1,p2,p3⟩
 ·rw[h]
  exact⟨[],k,b,rfl,Nat.le_refl _,hk,by simp only[qc6]; omega⟩
 ·rw[h]
  simp only[qac,Bool.not_true,cond_false]
  obtain⟨e,k2,b2,q1,q2,q3,q4⟩:=zb9 hL p1 hn b
  have h1:qc6 [e]=qex e+2:=by simp only[qc6]; omega
  obtain⟨o,nm,⟨v1,v2,v3,v4,v5,v6⟩,ns,ar⟩:=e
  rw[q1]
  exact⟨_,k2,b2,rfl,by omega,q3,by omega⟩
end
end W
end
section
open Go Ax
namespace W
section
variable {L:List qaj} (hL:LOk L) {n:Nat} (hn:60000<n)
include hL hn
def COk (L:List qaj) (k c0:Nat) (o:Option (qad×Int×Bool)):Prop:=∃ c k' b',o=some (c,((k':Nat):Int),b')/\k<=k'/\k'<L.length/\qdp c+2 * Wt L k<=2 * Wt L k'+c0
section
variable (ck:Int) (items:List qbh) (o:Int) (nm:List UInt8) (v1:Int) (v2:Bool) (v3:Int) (v4:List UInt8) (v5:List Val) (v6 ns:List (List UInt8)) (ar:List qab) (s:List UInt8) (u:Bool)
theorem zp4 {k:Nat} (hk:k<L.length) (b:Bool) (sorts:List qar) :
  ∃ c k' b',qjy n L ck [] [] 0 [] 0 false 0 [] [] [] [] [] [] items o nm v1 v2 v3 v4 v5 v6 ns ar s u [] [] false ((k:Int),b,sorts)=some (c,((k':Nat):Int),b')/\k<=k'/\k'<L.length /\
   qdp c+Wt L k<=Wt L k'+9+((items++[qbh.mk ⟨o,nm,⟨v1,v2,v3,v4,v5,v6⟩,ns,ar⟩ s]).map qqj).sum+(sorts.map qg1).sum:=by
 obtain⟨l1,k1,b1,h1,h2,h3,h4⟩:=q4n hL hn hk [83,75,73,80] b
 obtain⟨l2,k2,b2,g1,g2,g3,g4⟩:=q4n hL hn h3 [76,73,77,73,84] b1
 simp only[qjy,h1,g1,qac]
 refine⟨_,k2,b2,rfl,by omega,g3,?_⟩
 have e:qex ⟨0,[],⟨0,false,0,[],[],[]⟩,[],[]⟩=4:=rfl
 have e2:qc6 []=1:=rfl
 simp only[qdp,qud,qo6,List.map_nil,List.sum_nil,List.length_nil,e,e2]
 omega
theorem zq7 {k0:Nat}:∀ (m k:Nat) (b:Bool) (sorts:List qar),k0<=k->k<L.length->sorts.length<=k->(sorts.map qg1).sum+Wt L k0<=Wt L k->L.length - k<m ->
  ∃ c k' b',qap (qj0 n L ck [] [] 0 [] 0 false 0 [] [] [] [] [] [] items o nm v1 v2 v3 v4 v5 v6 ns ar s u [] [] false) m ((k:Int),b,sorts)=some (c,((k':Nat):Int),b')/\k0<=k'/\k'<L.length /\
   qdp c+Wt L k0<=Wt L k'+20+((items++[qbh.mk ⟨o,nm,⟨v1,v2,v3,v4,v5,v6⟩,ns,ar⟩ s]).map qqj).sum:=by
 have hlen:=hL.len
 intro m
 induction m with
 | zero=>intro k b sorts _ _ _ _ h; omega
 | succ m ih=>
  intro k b sorts hk0 hk hso hsz hm
  rw[qa0]
  generalize qap (qj0 n L ck [] [] 0 [] 0 false 0 [] [] [] [] [] [] items o nm v1 v2 v3 v4 v5 v6 ns ar s u [] [] false) m=nx at ih ⊢
  obtain⟨e,k1,b1,q1,q2,q3,q4⟩:=zb9 hL hk hn b
  obtain⟨o',nm',⟨w1,w2,w3,w4,w5,w6⟩,ns',ar'⟩:=e
  have k10:∀ (k2:Nat) (d:Bool),k1<=k2->k2<L.length->∃ c k' b',qh9 n sorts o' nm' w1 w2 w3 w4 w5 w6 ns' ar' L b1 ck [] [] 0 [] 0 false 0 [] [] [] [] [] [] items o nm v1 v2 v3 v4 v5 v6 ns ar s u [] [] false nx ((k2:Int),d)=some (c,((k':Nat):Int),b')/\k0<=k'/\k'<L.length /\
    qdp c+Wt L k0<=Wt L k'+20+((items++[qbh.mk ⟨o,nm,⟨v1,v2,v3,v4,v5,v6⟩,ns,ar⟩ s]).map qqj).sum:=by
   intro k2 d hk2 hk2l
   have hw:=qpc (L:=L) hk2
   have hs:((sorts++[qar.mk ⟨o',nm',⟨w1,w2,w3,w4,w5,w6⟩,ns',ar'⟩ d]).map qg1).sum=(sorts.map qg1).sum+(1+qex ⟨o',nm',⟨w1,w2,w3,w4,w5,w6⟩,ns',ar'⟩):=by simp[qg1]
   simp only[qh9]
   rw[qc9 (decide_eq_true (by simp only[qar.rows]; rw[List.length_map,List.length_append]; simp only[List.length_cons,List.length_nil]; omega))]
   rcases qbd hL hk2l n [44] b1 with h|⟨h,p1,p2,p3⟩
   ·rw[h]
    simp only[qac,Bool.not_false,cond_true]
    obtain⟨c,k',b',g1,g2,g3,g4⟩:=zp4 hL hn ck items o nm v1 v2 v3 v4 v5 v6 ns ar s u hk2l b1 (sorts++[qar.mk ⟨o',nm',⟨w1,w2,w3,w4,w5,w6⟩,ns',ar'⟩ d])
    exact⟨c,k',b',g1,by omega,g3,by omega⟩
   ·rw[h]
    simp only[qac,Bool.not_true,cond_false]
    simp only[List.length_cons,List.length_nil]at p3
    exact ih (k2+1) b1 _ (by omega) p1 (by rw[List.length_append]; simp only[List.length_cons,List.length_nil]; omega) (by omega) (by omega)
  simp only[qj0,q1,qac]
  rcases qbd hL q3 n [65,83,67] b1 with h|⟨h,p1,p2,p3⟩
  ·rw[h]
   simp only[qac,Bool.not_false,cond_true]
   rcases qbd hL q3 n [68,69,83,67] b1 with h'|⟨h',p1,p2,p3⟩
   ·rw[h']
    exact k10 k1 false (Nat.le_refl _) q3
   ·rw[h']
    exact k10 (k1+1) true (by omega) p1
  ·rw[h]
   simp only[qac,Bool.not_true,cond_false]
   exact k10 (k1+1) false (by omega) p1
end
theorem znd (ck:Int) {k:Nat} (hk:k<L.length) (b:Bool):COk L k 60 (qpl n ck [] [] 0 [] 0 false 0 [] [] [] [] [] [] false [] [] [] [] false L (k:Int) b):=by
 have hlen:=hL.len
 simp only[qpl]
 obtain⟨u,k0,h1,h2,h3,_,_⟩:=zpf (n:=n) hL hk [68,73,83,84,73,78,67,84] b
 rw[h1]
 simp only[qac]
 have hw0:=qpc (L:=L) h2
 have loop:∀ (m k1:Nat) (b1:Bool) (items:List qbh),k0<=k1->k1<L.length->items.length<=k1->(items.map qqj).sum+2 * Wt L k0<=2 * Wt L k1->L.length - k1<m->COk L k 60 (qap (qjz n L ck [] [] 0 [] 0 false 0 [] [] [] [] [] [] u [] [] false) m ((k1:Int),b1,items)):=by
  intro m
  induction m with
  | zero=>intro k1 b1 items _ _ _ _ h; omega
  | succ m ih=>
   intro k1 b1 items hk0 hk1 hit hsz hm
   rw[qa0]
   generalize qap (qjz n L ck [] [] 0 [] 0 false 0 [] [] [] [] [] [] u [] [] false) m=nx at ih ⊢
   obtain⟨e,k2,b2,q1,q2,q3,q4⟩:=zb9 hL hk1 hn b1
   obtain⟨o,nm,⟨v1,v2,v3,v4,v5,v6⟩,ns,ar⟩:=e
   have hnm:nm.length<=qex ⟨o,nm,⟨v1,v2,v3,v4,v5,v6⟩,ns,ar⟩:=by simp only[qex]; omega
   have k3:∀ (k4:Nat) (b4:Bool) (s:List UInt8),k2<=k4->k4<L.length->s.length+Wt L k1<=Wt L k4+4->COk L k 60 (qgc n items o nm v1 v2 v3 v4 v5 v6 ns ar L ck [] [] 0 [] 0 false 0 [] [] [] [] [] [] u [] [] false nx ((k4:Int),b4,s)):=by
    intro k4 b4 s hk4 hk4l hs
    have hw:=qpc (L:=L) hk4
    have hsum:((items++[qbh.mk ⟨o,nm,⟨v1,v2,v3,v4,v5,v6⟩,ns,ar⟩ s]).map qqj).sum=(items.map qqj).sum+(1+s.length+qex ⟨o,nm,⟨v1,v2,v3,v4,v5,v6⟩,ns,ar⟩):=by simp[qqj]
    simp only[qgc]
    rw[qc9 (decide_eq_true (by simp only[qbh.rows]; rw[List.length_map,List.length_append]; simp only[List.length_cons,List.length_nil]; omega))]
    rcases qbd hL hk4l n [44] b4 with h|⟨h,p1,p2,p3⟩
    ·rw[h]
     simp only[qac,Bool.not_false,cond_true]
     rcases qbd hL hk4l n [79,82,68,69,82] b4 with h'|⟨h',p1,p2,p3⟩
     ·rw[h']
      simp only[qac,cond_false]
      obtain⟨c,k',b',g1,g2,g3,g4⟩:=zp4 hL hn ck items o nm v1 v2 v3 v4 v5 v6 ns ar s u hk4l b4 []
      simp only[List.map_nil,List.sum_nil]at g4
      exact⟨c,k',b',g1,by omega,g3,by have:=qpc (L:=L) g2; omega⟩
     ·rw[h']
      simp only[qac,cond_true]
      obtain⟨k5,b5,f1,f2,f3,f4⟩:=qxa (n:=n) hL p1 [66,89] b4
      rw[f1]
      simp only[qac]
      obtain⟨c,k',b',g1,g2,g3,g4⟩:=zq7 hL hn ck items o nm v1 v2 v3 v4 v5 v6 ns ar s u (k0:=k5) n k5 b5 [] (Nat.le_refl _) f3 (by simp) (by simp) (by omega)
      exact⟨c,k',b',g1,by omega,g3,by have:=qpc (L:=L) g2; omega⟩
    ·rw[h]
     simp only[qac,Bool.not_true,cond_false]
     simp only[List.length_cons,List.length_nil]at p3
     exact ih (k4+1) b4 _ (by omega) p1 (by rw[List.length_append]; simp only[List.length_cons,List.length_nil]; omega) (by omega) (by omega)
   obtain⟨c,i1,j1⟩:=qk3 hL q3 n [65,83] b2
   obtain⟨k5,b5,f1,f2,f3,f4⟩:=qxa (n:=n) hL q3 [65,83] b2
   obtain⟨s,k6,b6,y1,y2,y3,y4,_⟩:=zfx (n:=n) hL f3 b5
   have named:=k3 k6 b6 s (by omega) y3 (by omega)
   have plain:=k3 k2 b2 nm (Nat.le_refl _) q3 (by omega)
   simp only[qjz,q1,qac,i1,f1,y1]
   cases ho:(o != 2)with
   | true=>
    simp only[Bool.not_true,cond_false,cond_true]
    exact named
   | false=>
    simp only[Bool.not_false,cond_true,cond_false]
    cases c with
    | true=>exact named
    | false=>exact plain
 exact loop n k0 b [] (Nat.le_refl _) h3 (by simp) (by simp) (by omega)
theorem zne (ck:Int) {k:Nat} (hk:k<L.length) (b:Bool):COk L k 60 (qpm n ck [] [] 0 [] 0 false 0 [] [] [] [] [] [] [] false [] [] [] [] false L (k:Int) b):=by
 have hlen:=hL.len
 simp only[qpm]
 have e4:qex ⟨0,[],⟨0,false,0,[],[],[]⟩,[],[]⟩=4:=rfl
 have e2:qc6 []=1:=rfl
 have loop:∀ (m k1:Nat) (b1:Bool) (acc:List qag),k<=k1->k1<L.length->acc.length<=k1->(acc.map qg2).sum+Wt L k<=Wt L k1->L.length - k1<m->COk L k 60 (qap (qj2 n L ck [] [] 0 [] 0 false 0 [] [] [] [] [] [] [] false [] [] [] [] false) m ((k1:Int),b1,acc)):=by
  intro m
  induction m with
  | zero=>intro k1 b1 acc _ _ _ _ h; omega
  | succ m ih=>
   intro k1 b1 acc hk0 hk1 hit hsz hm
   rw[qa0]
   generalize qap (qj2 n L ck [] [] 0 [] 0 false 0 [] [] [] [] [] [] [] false [] [] [] [] false) m=nx at ih ⊢
   obtain⟨v,k2,b2,y1,y2,y3,y4,_⟩:=zfx (n:=n) hL hk1 b1
   have k3:∀ (k4:Nat) (b4:Bool) (key lab:List UInt8) (o:Int) (nm:List UInt8) (v1:Int) (v2:Bool) (v3:Int) (v4:List UInt8) (v5:List Val) (v6 ns:List (List UInt8)) (ar:List qab),k2<=k4->k4<L.length->key.length+lab.length+qex ⟨o,nm,⟨v1,v2,v3,v4,v5,v6⟩,ns,ar⟩+Wt L k2<=Wt L k4+8 ->
     COk L k 60 (qhx n acc v L ck [] [] 0 [] 0 false 0 [] [] [] [] [] [] [] false [] [] [] [] false nx ((k4:Int),b4,key,lab,o,nm,v1,v2,v3,v4,v5,v6,ns,ar)):=by
    intro k4 b4 key lab o nm v1 v2 v3 v4 v5 v6 ns ar hk4 hk4l hs
    have hsum:((acc++[qag.mk v key lab ⟨o,nm,⟨v1,v2,v3,v4,v5,v6⟩,ns,ar⟩]).map qg2).sum=(acc.map qg2).sum+(1+v.length+key.length+lab.length+qex ⟨o,nm,⟨v1,v2,v3,v4,v5,v6⟩,ns,ar⟩):=by simp[qg2]
    simp only[qhx]
    rw[qc9 (decide_eq_true (by simp only[qag.rows]; rw[List.length_map,List.length_append]; simp only[List.length_cons,List.length_nil]; omega))]
    rcases qbd hL hk4l n [44] b4 with h|⟨h,p1,p2,p3⟩
    ·rw[h]
     simp only[qac,Bool.not_false,cond_true]
     refine⟨_,k4,b4,rfl,by omega,hk4l,?_⟩
     have hw:=qpc (L:=L) (show k<=k4 by omega)
     simp only[qdp,qud,qo6,List.map_nil,List.sum_nil,List.length_nil,e4,e2]
     omega
    ·rw[h]
     simp only[qac,Bool.not_true,cond_false]
     simp only[List.length_cons,List.length_nil]at p3
     exact ih (k4+1) b4 _ (by omega) p1 (by rw[List.length_append]; simp only[List.length_cons,List.length_nil]; omega) (by omega) (by omega)
   simp only[qj2,y1,qac]
   rcases qbd hL y3 n [58] b2 with h|⟨h,p1,p2,p3⟩
   ·rw[h]
    simp only[qac,cond_false]
    obtain⟨k5,b5,f1,f2,f3,f4⟩:=qxa (n:=n) hL y3 [46] b2
    rw[f1]
    simp only[qac]
    obtain⟨ky,k6,b6,z1,z2,z3,z4⟩:=zlq (n:=n) hL f3 b5
    rw[z1]
    simp only[qac]
    cases hc:(ck==6)with
    | false=>
     simp only[cond_false]
     exact k3 k6 b6 ky [] 0 [] 0 false 0 [] [] [] [] [] (by omega) z3 (by rw[e4]; simp only[List.length_nil]; omega)
    | true=>
     simp only[cond_true]
     obtain⟨k7,b7,g1,g2,g3,g4⟩:=qxa (n:=n) hL z3 [61] b6
     rw[g1]
     simp only[qac]
     obtain⟨e,k8,b8,q1,q2,q3,q4⟩:=zb9 hL g3 hn b7
     obtain⟨o,nm,⟨v1,v2,v3,v4,v5,v6⟩,ns,ar⟩:=e
     rw[q1]
     exact k3 k8 b8 ky [] o nm v1 v2 v3 v4 v5 v6 ns ar (by omega) q3 (by simp only[List.length_nil]; omega)
   ·rw[h]
    simp only[qac,cond_true]
    obtain⟨ky,k6,b6,z1,z2,z3,z4⟩:=zlq (n:=n) hL p1 b2
    rw[z1]
    exact k3 k6 b6 [] ky 0 [] 0 false 0 [] [] [] [] [] (by omega) z3 (by rw[e4]; simp only[List.length_nil]; omega)
 exact loop n k b [] (Nat.le_refl _) hk (by simp) (by simp) (by omega)
theorem znf (d:Bool) {k:Nat} (hk:k<L.length):∀ (m k1:Nat) (b1:Bool) (acc:List (List UInt8)),k<=k1->k1<L.length->acc.length<=k1->qo6 acc+Wt L k<=Wt L k1->L.length - k1<m ->
  COk L k 60 (qap (qf3 n L d) m ((k1:Int),b1,acc)):=by
 have hlen:=hL.len
 have e4:qex ⟨0,[],⟨0,false,0,[],[],[]⟩,[],[]⟩=4:=rfl
 have e2:qc6 []=1:=rfl
 intro m
 induction m with
 | zero=>intro k1 b1 acc _ _ _ _ h; omega
 | succ m ih=>
  intro k1 b1 acc hk0 hk1 hit hsz hm
  rw[qa0]
  generalize qap (qf3 n L d) m=nx at ih ⊢
  obtain⟨v,k2,b2,y1,y2,y3,y4,_⟩:=zfx (n:=n) hL hk1 b1
  have hns:=q6m acc v
  simp only[qf3,y1,qac]
  rw[qc9 (decide_eq_true (by rw[qay,List.length_append]; simp only[List.length_cons,List.length_nil]; omega))]
  rcases qbd hL y3 n [44] b2 with h|⟨h,p1,p2,p3⟩
  ·rw[h]
   simp only[qac,Bool.not_false,cond_true]
   refine⟨_,k2,b2,rfl,by omega,y3,?_⟩
   have hw:=qpc (L:=L) (show k<=k2 by omega)
   simp only[qdp,qud,List.map_nil,List.sum_nil,List.length_nil,e4,e2]
   omega
  ·rw[h]
   simp only[qac,Bool.not_true,cond_false]
   simp only[List.length_cons,List.length_nil]at p3
   exact ih (k2+1) b2 _ (by omega) p1 (by rw[List.length_append]; simp only[List.length_cons,List.length_nil]; omega) (by omega) (by omega)
end
end W
end
section
open Go Ax
namespace W
theorem zpd:@qno = @qf3:=rfl
section
variable {L:List qaj} (hL:LOk L) {n:Nat} (hn:60000<n)
include hL
theorem zo9 {k:Nat} (hk:k<L.length) (b:Bool) (s t:List UInt8) (h:qcx n t L (k:Int) b=some true\/qcx n s L (k:Int) b=some true) :
  ∃ c k1 k2 b2,qan n s L (k:Int) b=some (c,((k1:Nat):Int))/\qax n t L (k1:Int) b=some (((k2:Nat):Int),b2)/\k<k2/\k2<L.length/\Wt L k+100<=Wt L k2:=by
 rcases qbd hL hk n s b with f|⟨f,p1,p2,p3⟩
 ·rcases h with h|h
  ·obtain⟨c,i1,j1⟩:=qk3 hL hk n t b
   rw[h]at i1
   cases i1
   obtain⟨u1,u2,u3⟩:=j1 rfl
   rcases qie hL hk n t b with m|⟨m,m1,m2,m3⟩
   ·exfalso
    simp only[qax,qan,h,qac,Bool.not_true,cond_false,Option.some.injEq,Prod.mk.injEq]at m
    rw[u2]at m
    exact absurd m.2 (by decide)
   ·exact⟨false,k,k+1,b,f,m,by omega,m1,by omega⟩
  ·exfalso
   simp only[qan,h,qac,Bool.not_true,cond_false,Option.some.injEq,Prod.mk.injEq]at f
   exact absurd f.1 (by decide)
 ·obtain⟨k2,b2,m,m1,m2,m3⟩:=qxa (n:=n) hL p1 t b
  exact⟨true,k+1,k2,b2,f,m,by omega,m2,by omega⟩
include hn
def zo1 (L:List qaj) (k:Nat) (o:Option (qad×Int×Bool)):Prop:=∃ c k' b',o=some (c,((k':Nat):Int),b')/\k<=k'/\k'<L.length/\(b'=true\/(k<k'/\qdp c+2 * Wt L k<=2 * Wt L k'))
omit hL hn in
theorem zo1.of {k k1 c0:Nat} {o:Option (qad×Int×Bool)} (h:COk L k1 c0 o) (h1:k<k1) (h2:Wt L k+100<=Wt L k1) (h3:c0<=200):zo1 L k o:=by
 obtain⟨c,k',b',g1,g2,g3,g4⟩:=h
 exact⟨c,k',b',g1,by omega,g3,.inr ⟨by omega,by omega⟩⟩
theorem zle {k:Nat} (hk:k<L.length) (b:Bool):zo1 L k (qlt n L (k:Int) b):=by
 have hlen:=hL.len
 have e4:qex ⟨0,[],⟨0,false,0,[],[],[]⟩,[],[]⟩=4:=rfl
 have e2:qc6 []=1:=rfl
 simp only[qlt,zpd]
 rcases qbd hL hk n [77,65,84,67,72] b with h1|⟨h1,p1,p2,p3⟩
 rotate_left
 ·rw[h1]
  simp only[qac,cond_true]
  obtain⟨l,k2,b2,q1,q2,q3,q4,_⟩:=zkc hL hn p1 b
  obtain⟨w,k3,b3,r1,r2,r3,r4⟩:=q4n hL hn q3 [87,72,69,82,69] b2
  simp only[q1,r1,qac,qbq]
  refine⟨_,k3,b3,rfl,by omega,r3,.inr ⟨by omega,?_⟩⟩
  have:=qpc (L:=L) r2
  simp only[List.length_cons,List.length_nil]at p3
  simp only[qdp,qud,qo6,List.map_nil,List.sum_nil,List.length_nil,e4,e2]; omega
 rw[h1]; simp only[qac,cond_false]; clear h1
 rcases qbd hL hk n [85,78,87,73,78,68] b with h1|⟨h1,p1,p2,p3⟩
 rotate_left
 ·rw[h1]
  simp only[qac,cond_true]
  obtain⟨e,k2,b2,q1,q2,q3,q4⟩:=zb9 hL p1 hn b
  obtain⟨o,nm,⟨v1,v2,v3,v4,v5,v6⟩,ns,ar⟩:=e
  obtain⟨k3,b3,r1,r2,r3,r4⟩:=qxa (n:=n) hL q3 [65,83] b2
  obtain⟨s,k4,b4,y1,y2,y3,y4,_⟩:=zfx (n:=n) hL r3 b3
  simp only[q1,r1,y1,qac,qbq]
  refine⟨_,k4,b4,rfl,by omega,y3,.inr ⟨by omega,?_⟩⟩
  have:=qpc (L:=L) (show k+1<=k4 by omega)
  simp only[List.length_cons,List.length_nil]at p3
  simp only[qdp,qud,qo6,List.map_nil,List.sum_nil,e2]; omega
 rw[h1]; simp only[qac,cond_false]; clear h1
 rcases qbd hL hk n [87,73,84,72] b with h1|⟨h1,p1,p2,p3⟩
 rotate_left
 ·rw[h1]
  simp only[qac,cond_true]
  obtain⟨c,k2,b2,q1,q2,q3,q4⟩:=znd hL hn 3 p1 b
  obtain⟨w,k3,b3,r1,r2,r3,r4⟩:=q4n hL hn q3 [87,72,69,82,69] b2
  have:=qpc (L:=L) r2
  simp only[List.length_cons,List.length_nil]at p3
  obtain⟨x1,x2,x3,⟨x4,x5,⟨x6,x7,x8,x9,x10,x11⟩,x12,x13⟩,x14,x15,x16,x17,x18,x19,x20,x21,x22⟩:=c
  simp only[q1,r1,qac,qbq]
  refine⟨_,k3,b3,rfl,by omega,r3,.inr ⟨by omega,?_⟩⟩
  simp only[qdp]at q4 ⊢; omega
 rw[h1]; simp only[qac,cond_false]; clear h1
 rcases qbd hL hk n [82,69,84,85,82,78] b with h1|⟨h1,p1,p2,p3⟩
 rotate_left
 ·rw[h1]
  simp only[qac,cond_true]
  obtain⟨c,k2,b2,q1,q2,q3,q4⟩:=znd hL hn 9 p1 b
  simp only[List.length_cons,List.length_nil]at p3
  refine⟨c,k2,b2,?_,by omega,q3,.inr ⟨by omega,by omega⟩⟩
  obtain⟨x1,x2,x3,⟨x4,x5,⟨x6,x7,x8,x9,x10,x11⟩,x12,x13⟩,x14,x15,x16,x17,x18,x19,x20,x21,x22⟩:=c
  simp only[q1,qac,qbq]
 rw[h1]; simp only[qac,cond_false]; clear h1
 rcases qbd hL hk n [67,82,69,65,84,69] b with h1|⟨h1,p1,p2,p3⟩
 rotate_left
 ·rw[h1]
  simp only[qac,cond_true]
  obtain⟨l,k2,b2,q1,q2,q3,q4,_⟩:=zkc hL hn p1 b
  simp only[q1,qac,qbq]
  refine⟨_,k2,b2,rfl,by omega,q3,.inr ⟨by omega,?_⟩⟩
  simp only[List.length_cons,List.length_nil]at p3
  have:=qpc (L:=L) q2
  simp only[qdp,qud,qo6,List.map_nil,List.sum_nil,List.length_nil,e4,e2]; omega
 rw[h1]; simp only[qac,cond_false]; clear h1
 rcases qbd hL hk n [77,69,82,71,69] b with h1|⟨h1,p1,p2,p3⟩
 rotate_left
 ·rw[h1]
  simp only[qac,cond_true]
  obtain⟨d,k2,b2,q1,q2,q3,q4⟩:=zj2 hL p1 hn b
  obtain⟨d1,d2,d3,d4⟩:=d
  simp only[q1,qac,qbq]
  refine⟨_,k2,b2,rfl,by omega,q3,.inr ⟨by omega,?_⟩⟩
  simp only[List.length_cons,List.length_nil]at p3
  have:=qpc (L:=L) q2
  simp only[qdp,qud,qi3,qo6,List.map_nil,List.map_cons,List.sum_cons,List.sum_nil,List.length_nil,e4,e2]; omega
 rw[h1]; simp only[qac,cond_false]; clear h1
 rcases qbd hL hk n [83,69,84] b with h1|⟨h1,p1,p2,p3⟩
 rotate_left
 ·rw[h1]
  simp only[qac,cond_true]
  obtain⟨c,k2,b2,q1,q2,q3,q4⟩:=zne hL hn 6 p1 b
  simp only[List.length_cons,List.length_nil]at p3
  refine⟨c,k2,b2,?_,by omega,q3,.inr ⟨by omega,by omega⟩⟩
  obtain⟨x1,x2,x3,⟨x4,x5,⟨x6,x7,x8,x9,x10,x11⟩,x12,x13⟩,x14,x15,x16,x17,x18,x19,x20,x21,x22⟩:=c
  simp only[q1,qac]
 rw[h1]; simp only[qac,cond_false]; clear h1
 rcases qbd hL hk n [82,69,77,79,86,69] b with h1|⟨h1,p1,p2,p3⟩
 rotate_left
 ·rw[h1]
  simp only[qac,cond_true]
  obtain⟨c,k2,b2,q1,q2,q3,q4⟩:=zne hL hn 7 p1 b
  simp only[List.length_cons,List.length_nil]at p3
  refine⟨c,k2,b2,?_,by omega,q3,.inr ⟨by omega,by omega⟩⟩
  obtain⟨x1,x2,x3,⟨x4,x5,⟨x6,x7,x8,x9,x10,x11⟩,x12,x13⟩,x14,x15,x16,x17,x18,x19,x20,x21,x22⟩:=c
  simp only[q1,qac]
 rw[h1]; simp only[qac,cond_false]; clear h1
 obtain⟨c1,i1,j1⟩:=qk3 hL hk n [68,69,84,65,67,72] b
 obtain⟨c2,i2,j2⟩:=qk3 hL hk n [68,69,76,69,84,69] b
 have go:(c1=true\/c2=true)->∃ c k1 k2 b2,qan n [68,69,84,65,67,72] L (k:Int) b=some (c,((k1:Nat):Int))/\qax n [68,69,76,69,84,69] L (k1:Int) b=some (((k2:Nat):Int),b2)/\k<k2/\k2<L.length/\Wt L k+100<=Wt L k2:=
  fun hc=>zo9 hL hk b _ _ (by rcases hc with rfl|rfl; exact .inr i1; exact .inl i2)
 rw[i1,i2]
 simp only[qac]
 cases c1 with
 | true=>
  obtain⟨c,k1,k2,b2,f1,f2,f3,f4,f5⟩:=go (.inl rfl)
  simp only[Bool.not_true,cond_false,cond_true,f1,f2,qac]
  exact zo1.of (znf hL hn c f4 n k2 b2 [] (Nat.le_refl _) f4 (by simp) (by simp[qo6]) (by omega)) f3 f5 (by omega)
 | false=>
  cases c2 with
  | true=>
   obtain⟨c,k1,k2,b2,f1,f2,f3,f4,f5⟩:=go (.inr rfl)
   simp only[Bool.not_false,cond_false,cond_true,f1,f2,qac]
   exact zo1.of (znf hL hn c f4 n k2 b2 [] (Nat.le_refl _) f4 (by simp) (by simp[qo6]) (by omega)) f3 f5 (by omega)
  | false=>
   simp only[Bool.not_false,cond_false,cond_true,qbq]
   exact⟨_,k,true,rfl,Nat.le_refl _,hk,.inl rfl⟩
def zff (o:Option (qg3×Int×Int)):Prop:=∃ cl a e,o=some (⟨cl⟩,a,e)/\qck cl<=1000000/\∀ c∈cl,LenOk c
omit hL hn in
theorem q2q {cl:List qad} (h:qck cl<=1000000):∀ c∈cl,LenOk c:=fun c hc=>qxo (by have:=qbz qdp hc; unfold qck at h; omega)
theorem q6v (hb:n<=1073741824) (hn2:10000000<n) {k:Nat} (hk:k<L.length) (bad:Bool) (acc:List qad) (h:bad=false->qck acc<=1000000):zff (qf9 n L ((k:Int),bad,acc)):=by
 have nil:qck []<=1000000:=by decide
 cases bad with
 | true=>
  have hx:=List.getElem?_eq_getElem hk
  generalize L[k]=t at hx
  obtain⟨t1,t2,t3,t4⟩:=t
  simp only[qf9,cond_true,qal hx,qac]
  exact⟨[],_,_,rfl,nil,q2q nil⟩
 | false=>
  have h:=h rfl
  have hm:=q8v hb (cl:=acc) (by omega) (q2q h)
  simp only[qf9,cond_false,hm,qac]
  cases qy5 n acc with
  | true=>exact⟨acc,_,_,rfl,h,q2q h⟩
  | false=>exact⟨[],_,_,rfl,nil,q2q nil⟩
theorem zgt (hb:n<=1073741824) (hn2:10000000<n) (hW:∀ k,Wt L k<=500000):∀ (m:Nat) (last:Int) (k:Nat) (bad:Bool) (acc:List qad),k<L.length->(bad=false->qck acc<=2 * Wt L k/\acc.length<=k)->(bad=true->0<m)->(bad=false->L.length - k+2<=m) ->
  zff (qap (qja n L) m (last,(k:Int),bad,acc)):=by
 have hlen:=hL.len
 intro m
 induction m with
 | zero=>
  intro last k bad acc hk _ h1 h2
  cases bad with
  | true=>have:=h1 rfl; omega
  | false=>have:=h2 rfl; omega
 | succ m ih=>
  intro last k bad acc hk hi h1 h2
  rw[qa0]
  generalize qap (qja n L) m=nx at ih ⊢
  cases bad with
  | true=>
   simp only[qja,Bool.not_true,qq7,qac,Bool.false_and,cond_false]
   exact q6v hL hn hb hn2 hk true acc (fun h=>by cases h)
  | false=>
   obtain⟨i1,i2⟩:=hi rfl
   have h2:=h2 rfl
   have hx:=List.getElem?_eq_getElem hk
   generalize L[k]=t at hx
   obtain⟨t1,t2,t3,t4⟩:=t
   simp only[qja,Bool.not_false,qdw,qal hx,qac,Bool.true_and,cond_true,q81]
   have fini:zff (qf9 n L ((k:Int),false,acc)):=q6v hL hn hb hn2 hk false acc (fun _=>by have:=hW k; omega)
   have next:zff (bif(last==(9:Int))then(qf9 n L ((k:Int),true,acc))else(bnd (qlt n L (k:Int) false) fun⟨⟨x22,x23,x24,⟨x25,x26,⟨x27,x28,x29,x30,x31,x32⟩,x33,x34⟩,x35,x36,x37,x38,x39,x40,x41,x42,x43⟩,x44,x45⟩=>
     chk (decide ((qad.rows (acc++[qad.mk x22 x23 x24 (qab.mk x25 x26 (Val.mk x27 x28 x29 x30 x31 x32) x33 x34) x35 x36 x37 x38 x39 x40 x41 x42 x43])).length * 392<=140737488355328)) (
     nx (x22,x44,x45,(acc++[qad.mk x22 x23 x24 (qab.mk x25 x26 (Val.mk x27 x28 x29 x30 x31 x32) x33 x34) x35 x36 x37 x38 x39 x40 x41 x42 x43]))))):=by
    cases last==9 with
    | true=>exact q6v hL hn hb hn2 hk true acc (fun h=>by cases h)
    | false=>
     simp only[cond_false]
     obtain⟨c,k',b',q1,q2,q3,q4⟩:=zle hL hn hk false
     have hs:qck (acc++[c])=qck acc+qdp c:=by unfold qck; simp
     obtain⟨x1,x2,x3,⟨x4,x5,⟨x6,x7,x8,x9,x10,x11⟩,x12,x13⟩,x14,x15,x16,x17,x18,x19,x20,x21,x22⟩:=c
     rw[q1]
     simp only[qac]
     rw[qc9 (decide_eq_true (by rw[qcf,List.length_append]; simp only[List.length_cons,List.length_nil]; omega))]
     refine ih _ k' b' _ q3 (fun hbf=>?_) (fun _=>by omega) (fun hbf=>?_)
     ·rcases q4 with q4|⟨q4,q5⟩
      ·rw[hbf]at q4; cases q4
      ·exact⟨by omega,by rw[List.length_append]; simp only[List.length_cons,List.length_nil]; omega⟩
     ·rcases q4 with q4|⟨q4,q5⟩
      ·rw[hbf]at q4; cases q4
      ·omega
   by_cases h6:t1=6
   ·subst h6
    simp only[show((6:Int) != 6)=false from rfl,Bool.not_false,qdw,qac,cond_false]
    cases wr last with
    | true=>exact fini
    | false=>
     simp only[Bool.not_false,cond_true]
     cases last != 9 with
     | true=>exact next
     | false=>exact fini
   ·rw[show(t1 != 6)=true from by simpa using h6]
    simp only[Bool.not_true,qq7,qac,cond_true]
    exact next
end
end W
end
section
open Go Ax
namespace W
theorem qq8 {A:Type} [Inhabited A] (g:Bool) (a:A):qa5 g (some a)=some (if g=true then a else default):=by cases g<;>rfl
theorem qs9 {A:Type} {c:Bool} {a b:Option A} {P:A->Prop} (h1:c=true->∃ r,a=some r/\P r) (h2:c=false->∃ r,b=some r/\P r):∃ r,(bif c then a else b)=some r/\P r:=by
 cases c with
 | true=>exact h1 rfl
 | false=>exact h2 rfl
section
variable {s:List UInt8} (hs:s.length<=16384) (n:Nat)
include hs
theorem zks (i:Nat):∃ b,qqy n s (i:Int)=some b/\(b=true->i<s.length):=by
 simp only[qqy]
 by_cases h:i<s.length
 ·have hx:=List.getElem?_eq_getElem h
  simp only[qal hx,qq8,qac]
  exact⟨_,rfl,fun _=>h⟩
 ·rw[show decide ((i:Int)<((s.length:Nat):Int))=false from decide_eq_false (by omega)]
  simp only[qq7,cond_false,qac]
  exact⟨_,rfl,fun h=>by cases h⟩
theorem zp8 {k:Nat} (hk:k<s.length):∃ j:Int,quh n s (k:Int)=some j/\∃ i:Nat,j=(i:Int)/\k+i<=s.length/\i<=4:=by
 have hx:=List.getElem?_eq_getElem hk
 generalize s[k]=x at hx
 obtain⟨t1,e1,f1⟩:=zks hs n (k+1)
 obtain⟨t2,e2,f2⟩:=zks hs n (k+2)
 obtain⟨t3,e3,f3⟩:=zks hs n (k+3)
 have w1:IntKind.i64.wrap ((k:Int)+1)=((k+1:Nat):Int):=qb8 (by omega)
 have w2:IntKind.i64.wrap ((k:Int)+2)=((k+2:Nat):Int):=by rw[qvx (by omega) (by omega)]; omega
 have w3:IntKind.i64.wrap ((k:Int)+3)=((k+3:Nat):Int):=by rw[qvx (by omega) (by omega)]; omega
 simp only[quh,qal hx,w1,w2,w3,e1,e2,e3,qac]
 rw[show decide ((k:Int)≥((s.length:Nat):Int))=false from decide_eq_false (by omega),cond_false]
 refine qs9 (fun _=>⟨1,rfl,1,rfl,by omega,by omega⟩) (fun _=>?_)
 rw[qq8]
 simp only[qac]
 cases hb:(bif decide (((x.toNat:Nat):Int)<194)then true else decide (((x.toNat:Nat):Int)>244))with
 | true=>exact⟨0,rfl,0,rfl,by omega,by omega⟩
 | false=>
  simp only[Bool.not_false,if_true,cond_false]
  cases t1 with
  | false=>exact⟨0,rfl,0,rfl,by omega,by omega⟩
  | true=>
   have hk1:=f1 rfl
   simp only[Bool.not_true,cond_false]
   refine qs9 (fun _=>⟨2,rfl,2,rfl,by omega,by omega⟩) (fun _=>?_)
   have hy:=List.getElem?_eq_getElem hk1
   rw[qal hy]
   simp only[qac]
   cases t2 with
   | false=>exact⟨0,rfl,0,rfl,by omega,by omega⟩
   | true=>
    have hk2:=f2 rfl
    simp only[Bool.not_true,cond_false]
    refine qs9 (fun _=>⟨0,rfl,0,rfl,by omega,by omega⟩) (fun _=>?_)
    refine qs9 (fun _=>⟨3,rfl,3,rfl,by omega,by omega⟩) (fun _=>?_)
    cases t3 with
    | false=>exact⟨0,rfl,0,rfl,by omega,by omega⟩
    | true=>
     have hk3:=f3 rfl
     simp only[Bool.not_true,cond_false]
     exact qs9 (fun _=>⟨0,rfl,0,rfl,by omega,by omega⟩) (fun _=>⟨4,rfl,4,rfl,by omega,by omega⟩)
omit hs in
theorem zpg (x:Int):∃ r,qrp n x=some r:=by
 simp only[qrp,qf1,qac]
 obtain⟨r,h,_⟩:=qs9 (P:=fun _:Int=>True) (c:=(bif decide (x≥48)then decide (x<=57)else false)) (a:=some (IntKind.i64.wrap (IntKind.u8.wrap (x - 48)))) (fun _=>⟨_,rfl,trivial⟩) (fun _=>qs9 (P:=fun _:Int=>True) (c:=(bif decide (x≥97)then decide (x<=102)else false)) (a:=some (IntKind.i64.wrap (IntKind.i64.wrap (IntKind.u8.wrap (x - 97))+10))) (fun _=>⟨_,rfl,trivial⟩) (fun _=>qs9 (P:=fun _:Int=>True) (c:=(bif decide (x≥65)then decide (x<=70)else false)) (a:=some (IntKind.i64.wrap (IntKind.i64.wrap (IntKind.u8.wrap (x - 65))+10))) (b:=some (-1)) (fun _=>⟨_,rfl,trivial⟩) (fun _=>⟨_,rfl,trivial⟩)))
 exact⟨r,h⟩
omit hs in
theorem zr1 (z:Int):∃ b,u8I (IntKind.u8.wrap z)=some b:=by
 have h0:0<=IntKind.u8.wrap z/\IntKind.u8.wrap z<256:=by
  unfold IntKind.wrap
  simp[IntKind.signed,IntKind.bits]
  omega
 unfold u8I
 first
  | rw[if_pos h0]; exact⟨_,rfl⟩
  | (split; exact⟨_,rfl⟩; rename_i h; exact absurd h0 h)
def QOk (s:List UInt8) (a:Nat) (o:Option (List UInt8×Int×Bool)):Prop:=o=some ([],0,false)\/∃ x p,o=some (x,((p:Nat):Int),true)/\a<p/\p<=s.length/\x.length<=p - a
theorem zqy {a p:Nat} {acc:List UInt8} {nx:List UInt8×Int->Option (List UInt8×Int×Bool)} (ha:acc.length+a+1<=p) (hp:p+1<s.length) (x10:UInt8) (c:Bool)
  (ih:∀ (acc':List UInt8) (p':Nat),p<p'->p'<=s.length->acc'.length+a+1<=p'->QOk s a (nx (acc',(p':Int)))):QOk s a (qjo n acc x10 nx (p:Int) s c):=by
 have w2:IntKind.i64.wrap ((p:Int)+2)=((p+2:Nat):Int):=by rw[qvx (by omega) (by omega)]; omega
 have w3:IntKind.i64.wrap (((p+2:Nat):Int)+1)=((p+3:Nat):Int):=by rw[qvx (by omega) (by omega)]; omega
 have w4:IntKind.i64.wrap (((p+2:Nat):Int)+2)=((p+4:Nat):Int):=by rw[qvx (by omega) (by omega)]; omega
 have one:∀ (y:UInt8) (p':Nat),p<p'->p+2<=p'->p'<=s.length->QOk s a (chk (decide ((qea (acc++[y])).length * 1<=140737488355328)) (nx (acc++[y],(p':Int)))):=by
  intro y p' h1 h2 h3
  rw[qc9 (decide_eq_true (by rw[q53,List.length_append]; simp only[List.length_cons,List.length_nil]; omega))]
  exact ih _ p' h1 h3 (by rw[List.length_append]; simp only[List.length_cons,List.length_nil]; omega)
 have bad:QOk s a (some (([]:List UInt8),(0:Int),false)):=.inl rfl
 simp only[qjo,w2,w3,w4]
 cases c with
 | true=>exact one _ _ (by omega) (by omega) (by omega)
 | false=>
  simp only[cond_false]
  cases(((x10.toNat:Nat):Int)==110)with
  | true=>exact one _ _ (by omega) (by omega) (by omega)
  | false=>
   simp only[cond_false]
   cases(((x10.toNat:Nat):Int)==116)with
   | true=>exact one _ _ (by omega) (by omega) (by omega)
   | false=>
    simp only[cond_false]
    cases(((x10.toNat:Nat):Int)==114)with
    | true=>exact one _ _ (by omega) (by omega) (by omega)
    | false=>
     simp only[cond_false]
     cases(((x10.toNat:Nat):Int)==120)with
     | false=>exact bad
     | true=>
      simp only[cond_true]
      by_cases h3:p+3<s.length
      ·have y2:=List.getElem?_eq_getElem (show p+2<s.length by omega)
       have y3:=List.getElem?_eq_getElem h3
       rw[show decide (((p+3:Nat):Int)≥((s.length:Nat):Int))=false from decide_eq_false (by omega)]
       obtain⟨r1,g1⟩:=zpg n ((s[p+2].toNat:Nat):Int)
       obtain⟨r2,g2⟩:=zpg n ((s[p+3].toNat:Nat):Int)
       simp only[Bool.not_false,qdw,qal y2,qal y3,qac,g1,cond_false]
       cases decide (r1<0)with
       | true=>
        simp only[Bool.not_true,qq7,qac]
        exact bad
       | false=>
        simp only[Bool.not_false,qdw,qac,g2,cond_false]
        cases decide (r2<0)with
        | true=>exact bad
        | false=>
         simp only[cond_false]
         obtain⟨b,hb⟩:=zr1 (IntKind.i64.wrap (IntKind.i64.wrap (r1 * 16)+r2))
         rw[hb]
         exact one _ _ (by omega) (by omega) (by omega)
      ·rw[show decide (((p+3:Nat):Int)≥((s.length:Nat):Int))=true from decide_eq_true (by omega)]
       simp only[Bool.not_true,qq7,qac,cond_true]
       exact bad
theorem zl7 {a:Nat} (ha:a<s.length) (hn:20000<n):QOk s a (qrq n s (a:Int)):=by
 have bad:QOk s a (some (([]:List UInt8),(0:Int),false)):=.inl rfl
 have loop:∀ (m p:Nat) (acc:List UInt8),a+1<=p->p<=s.length->acc.length+a+1<=p->s.length - p<m->QOk s a (qap (qjp n s) m (acc,(p:Int))):=by
  intro m
  induction m with
  | zero=>intro p acc _ _ _ h; omega
  | succ m ih=>
   intro p acc h1 h2 h3 hm
   rw[qa0]
   generalize qap (qjp n s) m=nx at ih ⊢
   simp only[qjp]
   by_cases hp:p<s.length
   ·have hx:=List.getElem?_eq_getElem hp
    generalize s[p]=x at hx
    obtain⟨j,g1,i,rfl,g2,g3⟩:=zp8 hs n hp
    rw[qbf hp,cond_true,qal hx,qac,g1,qac]
    cases(((x.toNat:Nat):Int)==39)with
    | true=>
     simp only[cond_true]
     rw[qb8 (by omega)]
     exact .inr ⟨acc,p+1,rfl,by omega,by omega,by omega⟩
    | false=>
     simp only[cond_false]
     by_cases hi:i=0
     ·subst hi
      exact bad
     ·rw[show(((i:Nat):Int)==0)=false from by rw[beq_eq_false_iff_ne]; omega,cond_false]
      cases(bif decide (((x.toNat:Nat):Int)<32)then true else(((x.toNat:Nat):Int)==127))with
      | true=>exact bad
      | false=>
       simp only[cond_false]
       have w:IntKind.i64.wrap ((p:Int)+(i:Int))=((p+i:Nat):Int):=by rw[qvx (by omega) (by omega)]; omega
       cases(((x.toNat:Nat):Int) != 92)with
       | true=>
        simp only[cond_true,w,qqn,qac]
        have hl:((s.take (p+i)).drop p).length=i:=by rw[List.length_drop,List.length_take]; omega
        rw[qc9 (decide_eq_true ⟨by omega,g2⟩),qc9 (decide_eq_true (by rw[q53,List.length_append,hl]; omega))]
        exact ih (p+i) _ (by omega) g2 (by rw[List.length_append,hl]; omega) (by omega)
       | false=>
        simp only[cond_false]
        rw[qb8 (k:=p) (by omega)]
        by_cases hp1:p+1<s.length
        ·have hy:=List.getElem?_eq_getElem hp1
         rw[show decide (((p+1:Nat):Int)≥((s.length:Nat):Int))=false from decide_eq_false (by omega),cond_false,qal hy,qac]
         have k3:=fun c=>zqy hs n (nx:=nx) h3 hp1 s[p+1] c (fun acc' p' q1 q2 q3=>ih p' acc' (by omega) q2 q3 (by omega))
         cases(((s[p+1].toNat:Nat):Int)==92)with
         | true=>exact k3 true
         | false=>exact k3 _
        ·rw[show decide (((p+1:Nat):Int)≥((s.length:Nat):Int))=true from decide_eq_true (by omega)]
         exact bad
   ·rw[show decide ((p:Int)<((s.length:Nat):Int))=false from decide_eq_false (by omega)]
    exact bad
 have hx:=List.getElem?_eq_getElem ha
 simp only[qrq]
 rw[show decide ((a:Int)≥((s.length:Nat):Int))=false from decide_eq_false (by omega)]
 simp only[Bool.not_false,qdw,qal hx,qac,cond_false]
 cases(((s[a].toNat:Nat):Int) != 39)with
 | true=>exact bad
 | false=>
  simp only[cond_false]
  rw[qb8 (by omega)]
  exact loop n (a+1) [] (by omega) (by omega) (by simp) (by omega)
end
end W
end
section
open Go Ax
namespace W
theorem zlf {n:Nat} {x:List UInt8} (hx:x.length<=20000) (hn:30000<n):∃ b,qtl n x=some b/\(b=true->0<x.length):=by
 have loop:∀ m k:Nat,k<=x.length->x.length - k<m->∃ b,qap (qjk n x) m (k:Int)=some b/\(b=true->0<x.length):=by
  intro m
  induction m with
  | zero=>intro k _ h; omega
  | succ m ih=>
   intro k hk hm
   rw[qa0]
   generalize qap (qjk n x) m=nx at ih ⊢
   simp only[qjk]
   by_cases h:k<x.length
   ·have hy:=List.getElem?_eq_getElem h
    rw[qbf h,cond_true]
    simp only[qal hy,qq8,qac]
    rw[qb8 (by omega)]
    exact qs9 (fun _=>⟨false,rfl,fun h=>by cases h⟩) (fun _=>ih (k+1) (by omega) (by omega))
   ·rw[show decide ((k:Int)<((x.length:Nat):Int))=false from decide_eq_false (by omega),cond_false]
    refine⟨_,rfl,fun h=>?_⟩
    have:=of_decide_eq_true h
    omega
 exact loop n 0 (by omega) (by omega)
theorem zq2 (n:Nat) (x:Int):∃ r,qwf n x 10=some r:=by
 simp only[qwf]
 rw[show decide ((10:Int)≠0)=true from by decide,zqw]
 obtain⟨r,h,_⟩:=qs9 (P:=fun _:Int×Int=>True) (c:=(bif(x==0)then true else((10:Int)==0))) (a:=some ((0:Int),(0:Int)))
  (b:=bif(bif(bif(x==(-1:Int))then((10:Int)==(-9223372036854775808:Int))else false)then true else(bif((10:Int)==(-1:Int))then(x==(-9223372036854775808:Int))else false))then(some ((0:Int),(4:Int)))else(bif((IntKind.i64.wrap (Int.tdiv (IntKind.i64.wrap (x * 10)) 10)) != x)then(some ((0:Int),(4:Int)))else(some ((IntKind.i64.wrap (x * 10)),(0:Int)))))
  (fun _=>⟨_,rfl,trivial⟩) (fun _=>qs9 (fun _=>⟨_,rfl,trivial⟩) (fun _=>qs9 (fun _=>⟨_,rfl,trivial⟩) (fun _=>⟨_,rfl,trivial⟩)))
 exact⟨r,h⟩
theorem zqt (n:Nat) (x y:Int):∃ r,qwe n x y=some r:=by
 simp only[qwe]
 obtain⟨r,h,_⟩:=qs9 (P:=fun _:Int×Int=>True) (c:=(bif(bif(decide (y>(0:Int)))then(decide (x>(IntKind.i64.wrap ((9223372036854775807:Int) - y))))else false)then true else(bif(decide (y<(0:Int)))then(decide (x<(IntKind.i64.wrap ((-9223372036854775808:Int) - y))))else false))) (a:=some ((0:Int),(4:Int))) (b:=some ((IntKind.i64.wrap (x+y)),(0:Int))) (fun _=>⟨_,rfl,trivial⟩) (fun _=>⟨_,rfl,trivial⟩)
 exact⟨r,h⟩
theorem zq3 {n:Nat} {x:List UInt8} (hx:x.length<=20000) (hn:30000<n):∃ r,qqx n x=some r:=by
 have k1:∀ y:List UInt8,y.length<=20000->∃ r,qlg n x y=some r:=by
  intro y hy
  obtain⟨b,h1,h2⟩:=zlf hy hn
  have loop:∀ (m k:Nat) (acc:Int),k<=y.length->y.length - k<m->∃ r,qap (qli n y x) m (acc,(k:Int))=some r:=by
   intro m
   induction m with
   | zero=>intro k _ _ h; omega
   | succ m ih=>
    intro k acc hk hm
    rw[qa0]
    generalize qap (qli n y x) m=nx at ih ⊢
    simp only[qli]
    by_cases h:k<y.length
    ·have hz:=List.getElem?_eq_getElem h
     obtain⟨⟨r1,r2⟩,hr⟩:=zq2 n acc
     rw[qbf h,cond_true,hr,qac]
     have k4:∀ z:Int,∃ r,qlh n r1 nx (k:Int) z=some r:=by
      intro z
      obtain⟨⟨a1,a2⟩,ha⟩:=zqt n r1 z
      simp only[qlh,ha,qac]
      rw[qb8 (by omega)]
      cases a2 != 0 with
      | true=>exact⟨_,rfl⟩
      | false=>exact ih (k+1) a1 (by omega) (by omega)
     cases r2 != 0 with
     | true=>exact⟨_,rfl⟩
     | false=>
      simp only[cond_false,qal hz,qac]
      cases decide (((y.length:Nat):Int)<((x.length:Nat):Int))with
      | true=>exact k4 _
      | false=>exact k4 _
    ·rw[show decide ((k:Int)<((y.length:Nat):Int))=false from decide_eq_false (by omega)]
     exact⟨_,rfl⟩
  simp only[qlg,h1,qac]
  cases b with
  | false=>exact⟨_,rfl⟩
  | true=>
   obtain⟨z,hz⟩:∃ z,y[0]? =some z:=⟨_,List.getElem?_eq_getElem (h2 rfl)⟩
   have:idx y (0:Int)=some z:=qal hz
   simp only[Bool.not_true,Bool.not_false,qdw,this,qac,cond_false]
   cases(bif((z.toNat:Int)==48)then(!(x==([48]:List UInt8)))else false)with
   | true=>exact⟨_,rfl⟩
   | false=>exact loop n 0 0 (by omega) (by omega)
 simp only[qqx]
 by_cases h0:0<x.length
 ·have hz:=List.getElem?_eq_getElem h0
  have hi:idx x (0:Int)=some x[0]:=qal hz
  rw[show decide (((x.length:Nat):Int)>0)=true from decide_eq_true (by omega),qdw,hi,qac,cond_true]
  cases(((x[0]).toNat:Int)==45)with
  | true=>
   rw[cond_true,qc9 (decide_eq_true (show 1<=x.length from h0))]
   exact k1 _ (by rw[List.length_drop]; omega)
  | false=>exact k1 _ hx
 ·rw[show decide (((x.length:Nat):Int)>0)=false from decide_eq_false (by omega),qq7,qac,cond_false]
  exact k1 _ hx
section
variable {s:List UInt8} (hs:s.length<=16384) {n:Nat} (hn:30000<n) (hb:n<=1073741824)
include hs hn
theorem zom {k:Nat} (hk:k<s.length):∃ x,qui n s (k:Int)=some x/\k+x.length<=s.length:=by
 have w1:IntKind.i64.wrap ((k:Int)+1)=((k+1:Nat):Int):=qb8 (by omega)
 have w2:IntKind.i64.wrap ((k:Int)+2)=((k+2:Nat):Int):=by rw[qvx (by omega) (by omega)]; omega
 have hl1:((s.take (k+1)).drop k).length=1:=by rw[List.length_drop,List.length_take]; omega
 have loop:∀ m i:Nat,i<=18->18 - i<m->∃ x,qap (qnh n s (k+1) k) m (i:Int)=some x/\k+x.length<=s.length:=by
  obtain⟨al,hal,hl⟩:∃ al:List UInt8,al=[40,41,91,93,123,125,44,58,46,43,45,42,47,37,61,60,62,36]/\al.length=18:=⟨_,rfl,rfl⟩
  intro m
  induction m with
  | zero=>intro i _ h; omega
  | succ m ih=>
   intro i hi hm
   rw[qa0]
   generalize qap (qnh n s (k+1) k) m=nx at ih ⊢
   simp only[qnh,← hal]
   by_cases h:i<al.length
   ·rw[qbf h,cond_true,qb8 (by omega),qqn,qac,qqn,qac,qc9 (decide_eq_true ⟨by omega,by omega⟩)]
    exact qs9 (fun _=>⟨_,rfl,by omega⟩) (fun _=>ih (i+1) (by omega) (by omega))
   ·rw[show decide ((i:Int)<((al.length:Nat):Int))=false from decide_eq_false (by omega)]
    exact⟨[],rfl,by simp only[List.length_nil]; omega⟩
 have k1:∀ two:List UInt8,k+two.length<=s.length->∃ x,qng n (k:Int) s two=some x/\k+x.length<=s.length:=by
  intro two h2
  simp only[qng,w1,qqn,qac]
  refine qs9 (fun _=>⟨two,rfl,h2⟩) (fun _=>?_)
  rw[qc9 (decide_eq_true ⟨by omega,by omega⟩)]
  exact loop n 0 (by omega) (by omega)
 simp only[qui,w1,w2,qqn,qac]
 by_cases h:k+1<s.length
 ·rw[qbf h,cond_true,qc9 (decide_eq_true ⟨by omega,by omega⟩)]
  exact k1 _ (by rw[List.length_drop,List.length_take]; omega)
 ·rw[show decide (((k+1:Nat):Int)<((s.length:Nat):Int))=false from decide_eq_false (by omega)]
  exact k1 [] (by simp only[List.length_nil]; omega)
def zbl (s:List UInt8) (k:Nat) (o:Option (qaj×Int×Int)):Prop:=∃ t e er,o=some (t,e,er)/\(er=0->∃ j:Nat,e=(j:Int)/\k<j/\j<=s.length/\t.text.length<=j - k)
omit hs hn in
theorem q6t {k:Nat} {c:Bool} {A B:Option (qaj×Int×Int)} (h1:zbl s k A) (h2:zbl s k B):zbl s k (bif c then A else B):=by
 cases c with
 | true=>exact h1
 | false=>exact h2
include hb
theorem zq4 {k:Nat} (hk:k<s.length):zbl s k (qwg n s (k:Int)):=by
 have slice:∀ p,k<=p->p<=s.length->((s.take p).drop k).length=p - k:=fun p h1 h2=>by rw[List.length_drop,List.length_take]; omega
 have loop1:∀ m p:Nat,k+1<=p->p<=s.length->s.length - p<m->zbl s k (qap (qmo n s (k:Int)) m (p:Int)):=by
  intro m
  induction m with
  | zero=>intro p _ _ h; omega
  | succ m ih=>
   intro p h1 h2 hm
   rw[qa0]
   generalize qap (qmo n s (k:Int)) m=nx at ih ⊢
   have fini:zbl s k (bif(decide ((IntKind.i64.wrap ((p:Int) - (k:Int)))>(64:Int)))then(
     some (qaj.mk (0:Int) ([]:List UInt8) (0:Int) (k:Int),(0:Int),(1:Int)))
     else(
     bnd (qz9 (p:Int)) fun x14=>
     bnd (qz9 (k:Int)) fun x15=>
     chk (decide (x15<=x14/\x14<=s.length)) (
     bnd (qqz n ((s.take x14).drop x15)) fun⟨x16,x17⟩=>
     bnd (qz9 (p:Int)) fun x18=>
     bnd (qz9 (k:Int)) fun x19=>
     chk (decide (x19<=x18/\x18<=s.length)) (
     bif x17 then(
     qe3 n (k:Int) ((p:Int),(2:Int),x16,(0:Int)))
     else(
     qe3 n (k:Int) ((p:Int),(1:Int),((s.take x18).drop x19),(0:Int))))))):=by
    cases decide ((IntKind.i64.wrap ((p:Int) - (k:Int)))>(64:Int))with
    | true=>exact⟨_,_,_,rfl,fun h=>absurd h (by decide)⟩
    | false=>
     have hsl:=slice p (by omega) h2
     simp only[cond_false,qqn,qac]
     rw[qc9 (decide_eq_true ⟨by omega,h2⟩),q0j (s:=(s.take p).drop k) (by omega) (by omega) hb]
     simp only[qc9 (decide_eq_true (show k<=p/\p<=s.length from⟨by omega,h2⟩)),qe3]
     split
     ·exact⟨_,_,_,rfl,fun _=>⟨p,rfl,by omega,h2,by show(qle ((s.take p).drop k)).length<=p - k; unfold qle; rw[List.length_map,hsl]; omega⟩⟩
     ·exact⟨_,_,_,rfl,fun _=>⟨p,rfl,by omega,h2,by show((s.take p).drop k).length<=p - k; omega⟩⟩
   by_cases hp:p<s.length
   ·have hx:=List.getElem?_eq_getElem hp
    simp only[qmo,qbf hp,qdw,qal hx,qac,qga,qf1,qq8,cond_true]
    rw[qb8 (k:=p) (by omega)]
    exact q6t (ih (p+1) (by omega) (by omega) (by omega)) fini
   ·simp only[qmo,show decide ((p:Int)<((s.length:Nat):Int))=false from decide_eq_false (by omega),qq7,qac,Bool.false_and,cond_false]
    exact fini
 have loop2:∀ m p:Nat,k+1<=p->p<=s.length->s.length - p<m->zbl s k (qap (qmp n s (k:Int)) m (p:Int)):=by
  intro m
  induction m with
  | zero=>intro p _ _ h; omega
  | succ m ih=>
   intro p h1 h2 hm
   rw[qa0]
   generalize qap (qmp n s (k:Int)) m=nx at ih ⊢
   have fini:zbl s k (bnd (qz9 (p:Int)) fun x24=>
     bnd (qz9 (k:Int)) fun x25=>
     chk (decide (x25<=x24/\x24<=s.length)) (
     bnd (qqx n ((s.take x24).drop x25)) fun⟨x26,x27⟩=>
     bif(x27 != (0:Int))then(
     some (qaj.mk (0:Int) ([]:List UInt8) (0:Int) (k:Int),(0:Int),x27))
     else(
     qe3 n (k:Int) ((p:Int),(3:Int),([]:List UInt8),x26)))):=by
    have hsl:=slice p (by omega) h2
    obtain⟨⟨r1,r2⟩,hr⟩:=zq3 (n:=n) (x:=(s.take p).drop k) (by omega) hn
    simp only[qqn,qac]
    rw[qc9 (decide_eq_true ⟨by omega,h2⟩),hr]
    simp only[qac,qe3]
    cases h0:(r2 != 0)with
    | true=>exact⟨_,_,_,rfl,fun h=>by rw[h]at h0; cases h0⟩
    | false=>exact⟨_,_,_,rfl,fun _=>⟨p,rfl,by omega,h2,by simp only[List.length_nil]; omega⟩⟩
   by_cases hp:p<s.length
   ·have hx:=List.getElem?_eq_getElem hp
    simp only[qmp,qbf hp,qdw,qal hx,qac,qf1,qq8,cond_true]
    rw[qb8 (k:=p) (by omega)]
    exact q6t (ih (p+1) (by omega) (by omega) (by omega)) fini
   ·simp only[qmp,show decide ((p:Int)<((s.length:Nat):Int))=false from decide_eq_false (by omega),qq7,qac,Bool.false_and,cond_false]
    exact fini
 have hx:=List.getElem?_eq_getElem hk
 simp only[qwg,qal hx,qac,qga,qf1]
 rw[qb8 (k:=k) (by omega)]
 refine q6t (loop1 n (k+1) (by omega) (by omega) (by omega)) (q6t (loop2 n (k+1) (by omega) (by omega) (by omega)) (q6t ?_ ?_))
 ·rcases zl7 hs n hk (by omega)with h|⟨x,p,h,h1,h2,h3⟩
  ·rw[h]
   exact⟨_,_,_,rfl,fun h=>absurd h (by decide)⟩
  ·rw[h]
   exact⟨_,_,_,rfl,fun _=>⟨p,rfl,h1,h2,h3⟩⟩
 ·obtain⟨x,h,h1⟩:=zom hs hn hk
  rw[h]
  simp only[qac,qe3]
  cases x with
  | nil=>exact⟨_,_,_,rfl,fun h=>absurd h (by decide)⟩
  | cons a l=>
   have w:IntKind.i64.wrap ((k:Int)+(((a::l).length:Nat):Int))=((k+(a::l).length:Nat):Int):=by rw[qvx (by omega) (by omega)]; omega
   rw[w]
   exact⟨_,_,_,rfl,fun _=>⟨k+(a::l).length,rfl,by simp only[List.length_cons]; omega,h1,by show(a::l).length<=_; omega⟩⟩
def q23 (o:Option (List qaj×Int×Int)):Prop:=∃ L a e,o=some (L,a,e)/\(e=0->LOk L/\0<L.length/\∀ k,Wt L k<=500000)
omit hs hn hb in
theorem zmk {c:Bool} {A B:Option (List qaj×Int×Int)} (h1:q23 A) (h2:q23 B):q23 (bif c then A else B):=by
 cases c with
 | true=>exact h1
 | false=>exact h2
omit hs hn hb in
theorem zpm {k:Nat} {out:List qaj} (hout:(out.map fun t=>t.text.length).sum<=k) (hk:k<=16384) (nx:List qaj×Int->Option (List qaj×Int×Int)) (e:Int) (t:qaj) {k':Nat} (hk':k'<=16384) (ht:t.text.length+k<=k') (ih:t.kind≠6->q23 (nx (out++[t],e))) :
  q23 (qnd n out (k:Int) nx (e,t.kind,t.text,t.int,t.at_)):=by
 have hsum:((out++[t]).map fun t=>t.text.length).sum=(out.map fun t=>t.text.length).sum+t.text.length:=by simp
 obtain⟨t1,t2,t3,t4⟩:=t
 have tl:(qaj.rows out).length=out.length:=by simp[qaj.rows]
 have tl2:∀ o:List qaj,(qaj.rows o).length=o.length:=fun o=>by simp[qaj.rows]
 simp only[qnd,tl]
 by_cases h4:((out.length:Nat):Int)≥4096
 ·rw[decide_eq_true h4]
  exact⟨_,_,_,rfl,fun h=>absurd h (by decide)⟩
 ·rw[decide_eq_false h4,cond_false,qc9 (decide_eq_true (by rw[tl2,List.length_append]; simp only[List.length_cons,List.length_nil]; omega))]
  by_cases h6:t1=6
  ·subst h6
   rw[beq_self_eq_true,cond_true]
   have hlen:(out++[qaj.mk 6 t2 t3 t4]).length=out.length+1:=by simp
   refine⟨_,_,_,rfl,fun _=>⟨⟨by omega,fun t h=>?_⟩,by omega,fun j=>?_⟩⟩
   ·rw[hlen]at h
    simp at h
    rw[← h]
   ·have h1:Wt (out++[qaj.mk 6 t2 t3 t4]) j<=Wt (out++[qaj.mk 6 t2 t3 t4]) (j+(out++[qaj.mk 6 t2 t3 t4]).length):=qpc (by omega)
    have h2:Wt (out++[qaj.mk 6 t2 t3 t4]) (j+(out++[qaj.mk 6 t2 t3 t4]).length)=((out++[qaj.mk 6 t2 t3 t4]).map wt).sum:=by
     unfold Wt
     rw[List.take_of_length_le (by omega)]
    have h3:∀ l:List qaj,(l.map wt).sum=(l.map fun t=>t.text.length).sum+100 * l.length:=by
     intro l
     induction l with
     | nil=>rfl
     | cons a l ih=>simp only[List.map_cons,List.sum_cons,List.length_cons,wt,ih]; omega
    rw[h2,h3,hsum,hlen]at h1
    simp only at ht h1
    omega
  ·rw[beq_eq_false_iff_ne.2 h6,cond_false]
   exact ih h6
theorem zp7:q23 (qsp n s):=by
 have outer:∀ (m p:Nat) (out:List qaj),p<=s.length->(out.map fun t=>t.text.length).sum<=p->s.length - p<m->q23 (qap (qne n s) m (out,(p:Int))):=by
  intro m
  induction m with
  | zero=>intro p _ _ _ h; omega
  | succ m ih=>
   intro p0 out hp0 hout hm
   rw[qa0]
   generalize qap (qne n s) m=nx at ih ⊢
   simp only[qne]
   have inner:∀ (m2 p:Nat),p0<=p->p<=s.length->s.length - p<m2->q23 (qap (qkr n s out nx) m2 (p:Int)):=by
    intro m2
    induction m2 with
    | zero=>intro p _ _ h; omega
    | succ m2 ih2=>
     intro p h0 h2 hm2
     rw[qa0]
     generalize qap (qkr n s out nx) m2=nx2 at ih2 ⊢
     by_cases hp:p<s.length
     ·have hx:=List.getElem?_eq_getElem hp
      simp only[qkr,qbf hp,qdw,qal hx,qac,qq8,cond_true]
      rw[qb8 (k:=p) (by omega)]
      refine zmk (ih2 (p+1) (by omega) (by omega) (by omega)) ?_
      obtain⟨t,e,er,g1,g2⟩:=zq4 hs hn hb hp
      obtain⟨t1,t2,t3,t4⟩:=t
      rw[g1]
      simp only[qac]
      by_cases he:er=0
      ·subst he
       obtain⟨j,rfl,j1,j2,j3⟩:=g2 rfl
       clear g2 g1
       have j3:t2.length<=j - p:=j3
       have hsl:(((out++[qaj.mk t1 t2 t3 t4]).map fun t=>t.text.length).sum)=(out.map fun t=>t.text.length).sum+t2.length:=by simp
       rw[show((0:Int) != 0)=false from rfl,cond_false]
       exact zpm (k:=p) (by omega) (by omega) nx (j:Int) ⟨t1,t2,t3,t4⟩ (k':=j) (by omega) (by show t2.length+p<=j; omega) (fun _=>ih j _ j2 (by omega) (by omega))
      ·rw[show(er != 0)=true from by simpa using he]
       exact⟨_,_,_,rfl,fun h=>absurd h he⟩
     ·simp only[qkr,show decide ((p:Int)<((s.length:Nat):Int))=false from decide_eq_false (by omega),qq7,qac,Bool.false_and,cond_false]
      exact zpm (k:=p) (by omega) (by omega) nx (p:Int) ⟨6,[],0,(p:Int)⟩ (k':=p) (by omega) (by simp) (fun h=>absurd rfl h)
   exact inner n p0 (Nat.le_refl _) hp0 (by omega)
 simp only[qsp]
 rw[show decide (((s.length:Nat):Int)>16384)=false from decide_eq_false (by omega)]
 exact outer n 0 [] (by omega) (by simp) (by omega)
end
theorem zof {s:List UInt8} {n:Nat} (hb:n<=1073741824) (hn:10000000<n):∃ cl a e,qmu n s=some (⟨cl⟩,a,e)/\qck cl<=1000000/\∀ c∈cl,LenOk c:=by
 have nil:qck []<=1000000:=by decide
 simp only[qmu]
 by_cases h:s.length<=16384
 ·obtain⟨L,a,e,h1,h2⟩:=zp7 h (n:=n) (by omega) hb
  rw[h1]
  simp only[qac]
  by_cases he:e=0
  ·subst he
   obtain⟨hL,h0,hW⟩:=h2 rfl
   rw[show((0:Int) != 0)=false from rfl,cond_false]
   exact zgt hL (by omega) hb hn hW n 0 0 false [] h0 (fun _=>⟨by have:qck []=0:=rfl; omega,by simp⟩) (fun h=>by cases h) (fun _=>by have:=hL.len; omega)
  ·rw[show(e != 0)=true from by simpa using he]
   exact⟨[],_,_,rfl,nil,q2q nil⟩
 ·simp only[qsp]
  rw[show decide (((s.length:Nat):Int)>16384)=true from decide_eq_true (by omega)]
  exact⟨[],_,_,rfl,nil,q2q nil⟩
theorem zjq {s:List UInt8} {n:Nat} (hb:n<=1073741824) (hn:10000000<n):qov n s=some true:=by
 obtain⟨cl,a,e,h1,h2,h3⟩:=zof (s:=s) hb hn
 obtain⟨c1,c2⟩:=qpt hb (cl:=cl) (by omega) h3
 have hs:=qqq (x:=(qkm (qy5 n cl) cl).1) (n:=n) (by have:=q03 hb (cl:=cl) (by omega) h3; omega) hb
 simp only[qov,h1,qac,c1,c2,hs,qvw (n:=n) (by omega)]
 cases e != 0 with
 | true=>rfl
 | false=>simp
end W
end
