/- A part of the proof: the plain law. -/
import Derived.Test.YtgbnebnnphdenaaGreatRows
import Derived.Deep.DeepHandedRow
import Derived.ChangeMaps5
import Derived.OpenShut
import Derived.Sort.WalkA
import Derived.Test.YtgbnebnnphdenaaGreatH
import Derived.Test.YtgbnebnnphdenaaGreatI
set_option linter.unusedVariables false
set_option linter.unusedSimpArgs false
set_option linter.unnecessarySimpa false
set_option linter.deprecated false
set_option linter.unusedSectionVars false
set_option linter.constructorNameAsVariable false
open Go.IntKind renaming wrap->kwr,bits->kbt
open Nat renaming exists_eq_succ_of_ne_zero->jj,le_refl->jw
section
open Go Ax Go.Proofs
namespace W
def Res (N:Nat) (p:xa) (x:qa) (r:Val×Int):Prop:=VR r/\∀ n,N<=n->n<=1099511627776->qu n p x=some r
theorem Res.up {N M:Nat} {p:xa} {x:qa} {r:Val×Int} (h:Res N p x r) (c:N<=M):Res M p x r:=⟨h.1,fun n h1 h2=>h.2 n (by omega) h2⟩
theorem tk {p:xa} (hp:PlOk p) {x:qa} (c:EvOk x) (d:cQ x<=1048576):∃ r,Res 34361835520 p x r:=by
 obtain⟨r,h1,h2⟩:=(eD hp 1048576 (jw _)).1 x c d;exact⟨r,h1,fun n h3 h4=>h2 n (by omega) h4⟩
abbrev SM (m:Nat) (p:xa) (l:List qa):=xA m l (qu m) p.env.names p.env.vals p.g.nodes p.g.edges p.params.1 p.params.2 p.params.3 p.params.4 p.params.5 p.params.6
theorem Lk {m:Nat} {p:xa} {l:List qa} {x:qa} {i:Nat} (h:l[i]? =some x) (hl:l.length<=1000) {r:Val×Int} (n:qu m p x=some r) {acc:List Val} (ha:acc.length<=1000) (k:Nat) :
  qA (SM m p l) (k+1) (acc,((i:Nat):Int))=bif r.2 != 0 then some ([],r.2)else qA (SM m p l) k (acc++[r.1],((i+1:Nat):Int)):=by
 have f:=py h;obtain⟨⟨names,vals⟩,⟨nodes,edges⟩,⟨v,A,B,C,D,E⟩⟩:=p;rw[zJ];generalize qA (SM m _ l) k=nx;obtain⟨c,j,⟨o,q,s,t,u,w⟩,z,d⟩:=x;obtain⟨⟨F,z2,z3,z4,z5,G⟩,e⟩:=r;simp only[SM,xA,zM,gg f,zm,zG h,zl];have g:qu m (xa.mk (Env.mk names vals) (Graph.mk nodes edges) (Val.mk v A B C D E)) (qa.mk c j (Val.mk o q s t u w) z d)=some (Val.mk F z2 z3 z4 z5 G,e):=n;rw[g,zl]
 dsimp only
 rw[qo,vH (kdt (by simp; omega)),xW (by omega)]
theorem TZ {m:Nat} {p:xa} {l:List qa} (acc:List Val) (k:Nat):qA (SM m p l) (k+1) (acc,((l.length:Nat):Int))=some (acc,0):=by
 rw[zJ];simp only[SM,xA,zM,xZ,qw]
theorem Ll (m:Nat) (p:xa) (l:List qa):qW (m+1) p l=qA (SM m p l) m ([],0):=by
 obtain⟨⟨names,vals⟩,⟨nodes,edges⟩,⟨c,d,e,f,g,h⟩⟩:=p;rfl
def qa9 (a:Val×Int):List Val×Int:=bif a.2 != 0 then([],a.2)else([a.1],0)
def qbb (a b:Val×Int):List Val×Int:=bif a.2 != 0 then([],a.2)else bif b.2 != 0 then([],b.2)else([a.1,b.1],0)
theorem qba {N:Nat} {p:xa} {x:qa} {a:Val×Int} (c:Res N p x a) {n:Nat} (h1:N+10<=n) (h2:n<=1099511627776):qW n p [x]=some (qa9 a):=by
 obtain⟨k,rfl⟩:∃ k,n=k+3+1:=⟨n - 4,by omega⟩;rw[Ll];refine(Lk (i:=0) (x:=x) rfl (by simp) (c.2 _ (by omega) (by omega)) (by simp) (k+2)).trans ?_;unfold qa9;cases a.2 != 0 with
 | true=>rfl
 | false=>exact TZ (m:=k+3) (p:=p) (l:=[x]) [a.1] (k+1)
theorem qbc {N:Nat} {p:xa} {x y:qa} {a b:Val×Int} (c:Res N p x a) (d:Res N p y b) {n:Nat} (h1:N+10<=n) (h2:n<=1099511627776):qW n p [x,y]=some (qbb a b):=by
 obtain⟨k,rfl⟩:∃ k,n=k+3+1:=⟨n - 4,by omega⟩;rw[Ll];refine(Lk (i:=0) (x:=x) rfl (by simp) (c.2 _ (by omega) (by omega)) (by simp) (k+2)).trans ?_;unfold qbb;cases a.2 != 0 with
 | true=>rfl
 | false=>
  refine(Lk (m:=k+3) (p:=p) (l:=[x,y]) (acc:=[a.1]) (i:=1) (x:=y) rfl (by simp) (d.2 _ (by omega) (by omega)) (by simp) (k+1)).trans ?_;cases b.2 != 0 with
  | true=>rfl
  | false=>exact TZ (m:=k+3) (p:=p) (l:=[x,y]) [a.1,b.1] k
theorem Ci (m:Nat) (p:xa) {op:Int} (h:op≠1/\op≠2/\op≠3/\op≠14) (name:List UInt8) (val:Val) (nms:List (List UInt8)) (args:List qa) :
  qu (m+1) p (.mk op name val nms args)=bnd (qW m p args) fun r=>bif r.2 != 0 then some (Eu,r.2)else qY m op r.1 nms p.env.names p.env.vals p.g.nodes p.g.edges p.params.1 p.params.2 p.params.3 p.params.4 p.params.5 p.params.6 name ():=by
 obtain⟨⟨names,vals⟩,⟨nodes,edges⟩,⟨c,d,e,f,i,j⟩⟩:=p;obtain⟨k,l,n,o,q,s⟩:=val;show zK m (qu m) (qW m) _ _=_;unfold zK
 dsimp only
 rw[kbf.2 h.1,kbf.2 h.2.1,kbf.2 h.2.2.1,kbf.2 h.2.2.2];rfl
def To (a:Val×Int) (f:Val->Val×Int):Val×Int:=bif a.2 != 0 then(Eu,a.2)else f a.1
def Co (a b:Val×Int) (f:Val->Val->Val×Int):Val×Int:=bif a.2 != 0 then(Eu,a.2)else bif b.2 != 0 then(Eu,b.2)else f a.1 b.1
theorem qgj {N:Nat} {p:xa} {x:qa} {a:Val×Int} (i:Res N p x a) {op:Int} (h:op≠1/\op≠2/\op≠3/\op≠14) {name:List UInt8} {val:Val} {nms:List (List UInt8)} {f:Val->Val×Int} (hN:34359738368<=N)
  (c:a.2=0->Tot (N+10) (fun n=>qY n op [a.1] nms p.env.names p.env.vals p.g.nodes p.g.edges p.params.1 p.params.2 p.params.3 p.params.4 p.params.5 p.params.6 name ()) (fun r=>r=f a.1/\VR r)):Res (N+11) p (.mk op name val nms [x]) (To a f):=by
 refine⟨?_,fun n h1 h2=>?_⟩
 ·unfold To
  cases ha:a.2 != 0 with
  | true=>intro e; have:a.2=0:=e; rw[this]at ha; cases ha
  | false=>obtain⟨r,⟨rfl,d⟩,_⟩:=c (by simpa using ha); exact d
 ·obtain⟨m,rfl⟩:∃ m,n=m+1:=⟨n - 1,by omega⟩
  rw[Ci m p h,qba i (by omega) (by omega),zl];unfold qa9 To;cases ha:a.2 != 0 with
  | true=>simp only[zm,ha]
  | false=>obtain⟨r,⟨rfl,d⟩,j⟩:=c (by simpa using ha); exact j m (by omega) (by omega)
theorem qfy {N:Nat} {p:xa} {x y:qa} {a b:Val×Int} (j:Res N p x a) (k:Res N p y b) {op:Int} (h:op≠1/\op≠2/\op≠3/\op≠14) {name:List UInt8} {val:Val} {nms:List (List UInt8)} {f:Val->Val->Val×Int} (hN:34359738368<=N)
  (d:a.2=0->b.2=0->Tot (N+10) (fun n=>qY n op [a.1,b.1] nms p.env.names p.env.vals p.g.nodes p.g.edges p.params.1 p.params.2 p.params.3 p.params.4 p.params.5 p.params.6 name ()) (fun r=>r=f a.1 b.1/\VR r)):Res (N+11) p (.mk op name val nms [x,y]) (Co a b f):=by
 refine⟨?_,fun n h1 h2=>?_⟩
 ·unfold Co
  cases ha:a.2 != 0 with
  | true=>intro e; have:a.2=0:=e; rw[this]at ha; cases ha
  | false=>
   cases c:b.2 != 0 with
   | true=>intro e; have:b.2=0:=e; rw[this]at c; cases c
   | false=>obtain⟨r,⟨rfl,i⟩,_⟩:=d (by simpa using ha) (by simpa using c); exact i
 ·obtain⟨m,rfl⟩:∃ m,n=m+1:=⟨n - 1,by omega⟩
  rw[Ci m p h,qbc j k (by omega) (by omega),zl];unfold qbb Co;cases ha:a.2 != 0 with
  | true=>simp only[zm,ha]
  | false=>
   cases c:b.2 != 0 with
   | true=>simp only[zm,qw,c]
   | false=>obtain⟨r,⟨rfl,i⟩,l⟩:=d (by simpa using ha) (by simpa using c); exact l m (by omega) (by omega)
section
variable {N:Nat} {p:xa} {x y:qa} {a b:Val×Int} (hN:34359738368<=N)
include hN
end
def Pb (r:Val×Int):Val×Int:=bif r.2 != 0 then(Eu,r.2)else(r.1,0)
theorem Uw {N:Nat} {a:vK} {x:qa} {r:Val×Int} (i:Res N ⟨a.v,a.g,a.params⟩ x r) (hN:34359738368<=N) {n:Nat} (h1:N<=n) (h2:n<=1099511627776):zA n x a=some (Pb r):=by
 have h:=i.2 n h1 h2;have m:=i.1;obtain⟨⟨names,vals⟩,⟨nodes,edges⟩,⟨A,B,C,D,E,F⟩⟩:=a;obtain⟨c,j,⟨o,q,s,t,u,w⟩,z,d⟩:=x;obtain⟨⟨k,z2,z3,z4,z5,l⟩,e⟩:=r;have h:qu n (xa.mk (Env.mk names vals) (Graph.mk nodes edges) (Val.mk A B C D E F)) (qa.mk c j (Val.mk o q s t u w) z d)=some (Val.mk k z2 z3 z4 z5 l,e):=h;unfold zA cE Pb
 dsimp only
 rw[h,zl]
 dsimp only
 cases he:e != 0 with
 | true=>rfl
 | false=>
  have f:VF (Val.mk k z2 z3 z4 z5 l):=m (by simpa using he);rw[qw,Bt n h2 _ (by have:=f.big; omega)];rfl
end W
end
section
open Go Ax
namespace W
set_option maxRecDepth 100000 in
theorem oX (m:Nat):xY (m+400)=some true:=by kernel_rfl
theorem oW {n:Nat} (h:400<=n):xY n=some true:=by
 obtain⟨m,rfl⟩:=Nat.exists_eq_add_of_le' h;exact oX m
end W
end
section
open Go Ax Go.Proofs
namespace W
theorem tj (a:vK):3<=XB a:=by
 have h1:=xP a.v.vals;have h2:=Vg a.params;unfold XB;omega
theorem XN {n:Nat} {v:Val} (a:VF v) (h1:34359738368<=n) (h2:n<=1099511627776):xp n v v=some true:=by
 obtain⟨q,h3,h4⟩:=(LW n h2).1 v v (by have:=a.big; omega);rw[h3,h4.2 rfl]
theorem Ux (r:Val×Int):(Pb r).2=r.2/\(r.2=0->(Pb r).1=r.1):=by
 unfold Pb;cases h:r.2 != 0 with
 | true=>exact⟨rfl,fun e=>by rw[e]at h; cases h⟩
 | false=>
  have this:r.2=0:=by simpa using h
  exact⟨this.symm,fun _=>rfl⟩
abbrev mP:Val:=Val.mk (0:Int) false (0:Int) ([]:List UInt8) ([]:List Val) ([]:List (List UInt8))
theorem qar (n:Nat) (op:Int) (x:qa):nG n op x=some (qa.mk op [] mP [] [x]):=by
 obtain⟨b,a2,⟨a3,a4,a5,c,d,e⟩,a9,a⟩:=x;rfl
abbrev n0:Nat:=68719476736
theorem Ct:xY 68719476736=some true:=oW (by decide)
end W
end
section
namespace W
open Go Go.Proofs Go.RowKit Go.ChangeShapes Go.WideShapes Go.ChangeAt
open Go.Proofs.YtgbnebnnphdenaaGreat Go.ChangeMaps
theorem qfh {a b:Bool} (ha:a=true) (c:b=true):(a&&b)=true:=by rw[ha,c]; rfl
set_option maxHeartbeats 4000000 in
theorem qd0:joinedFacts Tryz.pinned.checked.prog 4 Tryz.f4 (Rows.OpenSpec.upto Rows.evalPartsSpec).bare Rows.evalPartsUptoRow=true:=by
 unfold joinedFacts
 repeat' with_reducible refine qfh ?_ ?_
 all_goals (as_aux_lemma=>kernel_rfl)
end W
end
section
open Go Ax Go.Proofs
namespace W
end W
end
section
open Go Ax Go.Proofs
namespace W
theorem zo.loop {R S T:Type} {N:Nat} {Q:R->Prop} {f:S->Prop} {B:Nat->(S->Option R)->(T->Option R)->T->Option R} (I:Nat->T->Prop)
  (h:∀ m t,I m t->zo N (fun n (a:T ⊕ S->Option R)=>B n (fun s=>a (.inr s)) (fun t=>a (.inl t)) t) (fun o=>match o with|.inl t'=>∃ d,d<m/\I d t'|.inr s=>f s) Q) {m0:Nat} {t0:T} (l:I m0 t0) (q:m0<N) :
  zo N (fun n a=>qA (B n a) n t0) f Q:=by
 have key:∀ (M m:Nat),m<=M->∀ t,I m t->(∃ s,f s/\∀ n a k,N<=n->n<=1099511627776->m<k->qA (B n a) k t=a s)\/∃ r,Q r/\∀ n a k,N<=n->n<=1099511627776->m<k->qA (B n a) k t=some r:=by
  intro M
  induction M with
  | zero=>
   intro m hm t g;rcases h m t g with ⟨o,e,b⟩|⟨r,qr,b⟩
   ·cases o with
    | inl t'=>obtain⟨d,i,_⟩:=e; omega
    | inr s=>
     refine .inl ⟨s,e,fun n a k h1 h2 h3=>?_⟩;obtain⟨k,rfl⟩:=jj (by omega:k≠0);exact b n (Sum.elim (qA (B n a) k) a) h1 h2
   refine .inr ⟨r,qr,fun n a k h1 h2 h3=>?_⟩;obtain⟨k,rfl⟩:=jj (by omega:k≠0);exact b n (Sum.elim (qA (B n a) k) a) h1 h2
  | succ M ih=>
   intro m hm t g;rcases h m t g with ⟨o,e,b⟩|⟨r,qr,b⟩
   ·cases o with
    | inl t'=>
     obtain⟨d,i,p⟩:=e;rcases ih d (by omega) t' p with ⟨s,j,c⟩|⟨r,qr,c⟩
     ·refine .inl ⟨s,j,fun n a k h1 h2 h3=>?_⟩
      obtain⟨k,rfl⟩:=jj (by omega:k≠0);exact(b n (Sum.elim (qA (B n a) k) a) h1 h2).trans (c n a k h1 h2 (by omega))
     refine .inr ⟨r,qr,fun n a k h1 h2 h3=>?_⟩;obtain⟨k,rfl⟩:=jj (by omega:k≠0);exact(b n (Sum.elim (qA (B n a) k) a) h1 h2).trans (c n a k h1 h2 (by omega))
    | inr s=>
     refine .inl ⟨s,e,fun n a k h1 h2 h3=>?_⟩;obtain⟨k,rfl⟩:=jj (by omega:k≠0);exact b n (Sum.elim (qA (B n a) k) a) h1 h2
   refine .inr ⟨r,qr,fun n a k h1 h2 h3=>?_⟩;obtain⟨k,rfl⟩:=jj (by omega:k≠0);exact b n (Sum.elim (qA (B n a) k) a) h1 h2
 rcases key m0 m0 (jw _) t0 l with ⟨s,j,b⟩|⟨r,qr,b⟩
 ·exact .inl ⟨s,j,fun n a h1 h2=>b n a n h1 h2 (by omega)⟩
 exact .inr ⟨r,qr,fun n a h1 h2=>b n a n h1 h2 (by omega)⟩
end W
end
section
open Go Ax Go.Proofs
namespace W
inductive Ren:qa->qa->Prop where
 | mk {op:Int} {name:List UInt8} {val:Val} {nms:List (List UInt8)} {args args':List qa} (hl:args.length=args'.length) (ha:∀ (i:Nat) (a a':qa),args[i]? =some a->args'[i]? =some a'->Ren a a') :
   Ren (.mk op name val nms args) (.mk (if op=2 then 3 else op) name val nms args')
end W
end
section
open Go Ax Go.Proofs
namespace W
abbrev lsV (v w:Val):Val:=.mk 4 false 0 [] [v,w] []
abbrev mpV (v w:Val):Val:=.mk 5 false 0 [] [w,v] [[97,32,98],[107]]
abbrev inV (i:Int):Val:=.mk 2 false i [] [] []
theorem st2 (lt:Fin 2->Fin 2->Bool) (h:lt 1 0=true):stP lt #[0,1] = #[1,0]:=by
 unfold stP;have a:(#[0,1]:Array (Fin 2)).size=2:=rfl;rw[a,MQ (by decide),ML (by decide)];unfold Sort.insertionSort
 dsimp only
 rw[insOuter_go lt 0 2 1 _ (by decide),insInner_go lt 0 1 _ (by decide) h,insInner_stop lt 0 (1 - 1) _ (.inl (by decide)),insOuter_stop lt 0 2 2 _ (by decide)]
 decide
theorem qf1:Rv [[107],[97,32,98]] (sG 2)=some [1,0]:=by
 have e:sG 2=[0,1]:=by decide
 rw[e];unfold Rv stI;have h:=st2 (ltN [[107],[97,32,98]] 1) (by decide);have e2:(([0,1]:List Int).map fun i=>Fin.ofNat (1+1) i.toNat).toArray=(#[0,1]:Array (Fin 2)):=by decide
 rw[vH (by decide),vH (by decide)];show some (stI [[107],[97,32,98]] 1 [0,1])=_;unfold stI;rw[e2,h]
 decide
theorem qb4 {v w:Val} (h:ZV (lsV v w)=true):ZV (mpV v w)=true:=by
 have a:Me 5 false 0 [] [w,v] [[97,32,98],[107]]=true:=by
  have b:Rn [[97,32,98],[107]]=true:=by decide
  unfold Me;rw[VY,qo,b];rfl
 simp only[ZV,wfV,wfL,zi,vJ,Bool.and_eq_true,kde,Bool.and_true]at h ⊢;have h2:=kod h.2;exact⟨⟨⟨by decide,a⟩,h.1.2.2,h.1.2.1⟩,kdt (by omega)⟩
theorem qb3 {v w:Val} (h:ZV (lsV v w)=true):eV [[107],[97,32,98]] [v,w]=(mpV v w,0):=by
 unfold eV;rw[if_neg (by simp)];have e:([[107],[97,32,98]]:List (List UInt8)).length=2:=rfl;rw[e,qf1];have e2:Nw [[107],[97,32,98]] [v,w] [1,0]=mpV v w:=rfl;show(bif ZV (Nw [[107],[97,32,98]] [v,w] [1,0])then _ else _)=_;rw[e2,qb4 h];rfl
section
variable {N:Nat} {p:xa} {x y:qa} {v w:Val} {r:Val×Int} {name:List UInt8} {val:Val} {nms:List (List UInt8)}
theorem qcc (a:34359738368<=N) (b:Res N p x (v,0)) {op:Int} (h:op≠1/\op≠2/\op≠3/\op≠14) (c:VR r)
  (d:∀ n,34359738368<=n->n<=1099511627776->qY n op [v] nms p.env.names p.env.vals p.g.nodes p.g.edges p.params.1 p.params.2 p.params.3 p.params.4 p.params.5 p.params.6 name ()=some r):Res (N+11) p (.mk op name val nms [x]) r:=
 qgj b h a (f:=fun _=>r) fun _=>⟨r,⟨rfl,c⟩,fun n h1 h2=>d n (by omega) h2⟩
theorem qcd (a:34359738368<=N) (b:Res N p x (v,0)) (c:Res N p y (w,0)) {op:Int} (h:op≠1/\op≠2/\op≠3/\op≠14) (d:VR r)
  (e:∀ n,34359738368<=n->n<=1099511627776->qY n op [v,w] nms p.env.names p.env.vals p.g.nodes p.g.edges p.params.1 p.params.2 p.params.3 p.params.4 p.params.5 p.params.6 name ()=some r):Res (N+11) p (.mk op name val nms [x,y]) r:=
 qfy b c h a (f:=fun _ _=>r) fun _ _=>⟨r,⟨rfl,d⟩,fun n h1 h2=>e n (by omega) h2⟩
theorem oz (e:34359738368<=N) {a b:Val×Int} (c:Res N p x a) (d:Res N p y b):Res (N+11) p (.mk 5 name val nms [x,y]) (Co a b fun v w=>UR (lsV v w)):=by
 refine qfy c d (by decide) e fun f g=>?_;have h:=BS (l:=[a.1,b.1]) (fun z hz=>by
  rcases List.mem_cons.1 hz with rfl|hz
  ·exact c.1 f
  rw[List.mem_singleton.1 hz]; exact d.1 g) (by simp)
 unfold qY uU;exact((zh h).imp fun r i=>i).up (by omega)
theorem qce (f:34359738368<=N) (c:Res N p x (v,0)) (d:Res N p y (w,0)) (hm:ZV (lsV v w)=true):Res (N+11) p (.mk 6 name val [[107],[97,32,98]] [x,y]) (mpV v w,0):=by
 have g:∀ z∈[v,w],VF z:=fun z hz=>by
  rcases List.mem_cons.1 hz with rfl|hz
  ·exact c.1 rfl
  rw[List.mem_singleton.1 hz]; exact d.1 rfl
 have h2:=qb3 hm;obtain⟨r,⟨a,b⟩,e⟩:=lN (names:=[[107],[97,32,98]]) (vals:=[v,w]) (by simp) g;rw[h2]at a;subst a;refine qcd f c d (by decide) b fun n h1 h2=>?_;unfold qY
 dsimp only at e
 rw[e n h1 h2];rfl
theorem ai (i:Int) (a:okI i=true):Res 34359738368 p (.mk 1 name (inV i) nms []) (inV i,0):=by
 refine⟨fun _=>Qx a,fun n h1 h2=>?_⟩
 obtain⟨m,rfl⟩:∃ m,n=m+1:=⟨n - 1,by omega⟩;obtain⟨⟨names,vals⟩,⟨nodes,edges⟩,⟨b,c,d,e,f,g⟩⟩:=p;rfl
theorem qcf (s:List UInt8) (a:s.length<=1048576):Res 34359738368 p (.mk 1 name (.mk 3 false 0 s [] []) nms []) (.mk 3 false 0 s [] [],0):=by
 refine⟨fun _=>SI a,fun n h1 h2=>?_⟩
 obtain⟨m,rfl⟩:∃ m,n=m+1:=⟨n - 1,by omega⟩;obtain⟨⟨names,vals⟩,⟨nodes,edges⟩,⟨b,c,d,e,f,g⟩⟩:=p;rfl
theorem oA:Res 34359738379 p (.mk 8 name val nms [.mk 1 name (inV 2) nms []]) (inV (-2),0):=by
 refine qcc (by decide) (ai 2 (by decide)) (by decide) (fun _=>Qx (by decide)) fun n h1 h2=>?_
 rfl
theorem qdm (n:Nat):mb n (lsV v w) (inV 0)=some (v,0):=by cases v; rfl
theorem qdn (n:Nat):mb n (lsV v w) (inV (-2))=some (v,0):=by cases v; rfl
theorem qas {i:Int} (a:34359738368<=N) (b:Res N p x (lsV v w,0)) (c:Res N p y (inV i,0)) (d:VF v) (h:∀ n,mb n (lsV v w) (inV i)=some (v,0)):Res (N+11) p (.mk 7 name val nms [x,y]) (v,0):=by
 refine qcd a b c (by decide) (fun _=>d) fun n h1 h2=>?_
 show bnd (mb n (lsV v w) (inV i)) _=_;rw[h];obtain⟨e,z2,z3,z4,z5,f⟩:=v;rfl
theorem qd4 (a:VF (mpV v w)) {n:Nat} (h1:34359738368<=n) (h2:n<=1099511627776):ur n (mpV v w) [97,32,98]=some (w,true):=by
 rw[EI h2 a rfl (by omega)];unfold PS;rw[if_pos ⟨rfl,by decide⟩];have:List.idxOf ([97,32,98]:List UInt8) [[97,32,98],[107]]=0:=by decide
 rw[this];rfl
theorem qfo (a:VF (mpV v w)) {n:Nat} (h1:34359738368<=n) (h2:n<=1099511627776):ur n (mpV v w) [107]=some (v,true):=by
 rw[EI h2 a rfl (by omega)];unfold PS;rw[if_pos ⟨rfl,by decide⟩];have:List.idxOf ([107]:List UInt8) [[97,32,98],[107]]=1:=by decide
 rw[this];rfl
theorem ov (b:34359738368<=N) (a:Res N p x (mpV v w,0)) (c:Res N p y (.mk 3 false 0 [97,32,98] [] [],0)) (hw:VF w):Res (N+11) p (.mk 7 name val nms [x,y]) (w,0):=by
 refine qcd b a c (by decide) (fun _=>hw) fun n h1 h2=>?_
 show bnd (bnd (ur n (mpV v w) [97,32,98]) _) _=_;rw[qd4 (a.1 rfl) h1 h2];obtain⟨d,z2,z3,z4,z5,e⟩:=w;rfl
theorem aj (b:34359738368<=N) (a:Res N p x (mpV v w,0)) (c:VF v):Res (N+11) p (.mk 4 [107] val nms [x]) (v,0):=by
 refine qcc b a (by decide) (fun _=>c) fun n h1 h2=>?_
 obtain⟨⟨names,vals⟩,⟨nodes,edges⟩,⟨d,e,f,g,h,i⟩⟩:=p;show bnd (bnd (ur n (mpV v w) [107]) _) _=_;rw[qfo (a.1 rfl) h1 h2];obtain⟨j,z2,z3,z4,z5,k⟩:=v;rfl
theorem qee {m:Val} (d:kd m≠0) {n:Nat} (h1:34359738368<=n):qn n [m]=some false:=by
 obtain⟨k,rfl⟩:∃ k,n=k+2:=⟨n - 2,by omega⟩;obtain⟨a,z2,z3,z4,z5,b⟩:=m;have hz:(a==0)=false:=kbf.2 d;have e:qp (k+2) [Val.mk a z2 z3 z4 z5 b]=some (-1):=by
  unfold qp;rw[zJ];show(bnd (some (a==0)) fun c=>bif c then some 0 else qA (qB (k+2) [Val.mk a z2 z3 z4 z5 b]) (k+1) (kwr .i64 (0+1)))=_
  rw[zl,hz,qw,zJ];rfl
 unfold qn;rw[e];rfl
theorem LX {m:Val} {G:Nat->Val->Option (Val×Int)} (a:34359738368<=N) (b:Res N p x (m,0)) (c:kd m≠0) (d:VR r) (f:∀ n,G n m=some r)
  (g:∀ n,qn n [m]=some false->xh n p name [m]=bnd (G n m) fun r=>some r):Res (N+11) p (.mk 13 name val nms [x]) r:=by
 refine qcc a b (by decide) d fun n h1 h2=>?_;have h:=g n (qee c h1);rw[f,zl]at h;obtain⟨⟨names,vals⟩,⟨nodes,edges⟩,⟨i,j,k,l,o,q⟩⟩:=p;show bnd (xh n _ name [m]) _=_;rw[h];obtain⟨⟨s,z2,z3,z4,z5,t⟩,e⟩:=r;rfl
theorem ow (a:34359738368<=N) (b:Res N p x (lsV v w,0)) (c:VF v):Res (N+11) p (.mk 13 [104,101,97,100] val nms [x]) (v,0):=by
 refine LX (G:=uw) a b (show(4:Int)≠0 by decide) (fun _=>c) (fun n=>by cases v; rfl) fun n h=>?_
 obtain⟨⟨names,vals⟩,⟨nodes,edges⟩,⟨d,e,f,g,i,j⟩⟩:=p;unfold xh
 dsimp only
 rw[h];cases v;rfl
theorem oy (a:34359738368<=N) (b:Res N p x (lsV v w,0)) (hw:VF w):Res (N+11) p (.mk 13 [108,97,115,116] val nms [x]) (w,0):=by
 refine LX (G:=ux) a b (show(4:Int)≠0 by decide) (fun _=>hw) (fun n=>by cases w; rfl) fun n h=>?_
 obtain⟨⟨names,vals⟩,⟨nodes,edges⟩,⟨c,d,e,f,g,i⟩⟩:=p;unfold xh
 dsimp only
 rw[h];cases w;rfl
theorem oB (a:34359738368<=N) (b:Res N p x (mpV v w,0)):Res (N+11) p (.mk 13 [115,105,122,101] val nms [x]) (inV 2,0):=by
 refine LX (G:=mK) a b (show(5:Int)≠0 by decide) (fun _=>Qx (by decide)) (fun n=>rfl) fun n h=>?_
 obtain⟨⟨names,vals⟩,⟨nodes,edges⟩,⟨c,d,e,f,g,i⟩⟩:=p;unfold xh
 dsimp only
 rw[h];rfl
end
theorem oD {v w:Val} (h:(UR (lsV v w)).2=0):ZV (lsV v w)=true/\UR (lsV v w)=(lsV v w,0):=by
 unfold UR at h ⊢
 dsimp only at h ⊢
 cases hm:ZV (lsV v w)with
 | true=>exact⟨rfl,rfl⟩
 | false=>
  rw[hm]at h;exact absurd (show(8:Int)=0 from h) (by decide)
set_option maxRecDepth 100000 in
theorem lF {x y:qa} {a:vK} (hb:cQ x+cQ y+XB a<=1048570):bF 68719476736 x y a=some true:=by
 obtain⟨bl,hl⟩:=XY (n:=68719476736) (by decide) (by decide) (l:=[x,y]) (by have:=tj a; simp only[cM]; omega);obtain⟨T,I,F⟩:=XV 1048576 (by decide) x 29 (by omega);obtain⟨t,J,G⟩:=XV 1048576 (by decide) y 29 (by omega);obtain⟨U,u,hm⟩:=Uz (a:=a) (by omega);have F:=F 68719476736 (by decide) (by decide);have G:=G 68719476736 (by decide) (by decide);have hm:=hm 68719476736 (by decide) (by decide);have hw:=Ct;have A:T=true->t=true->U=true->∃ r r' s:Val×Int,zA 68719476736 x a=some r/\zA 68719476736 y a=some r'/\zA 68719476736 (.mk 5 [] mP [] [x,y]) a=some s/\(r.2≠0->s.2≠0)/\(r'.2≠0->s.2≠0) /\
   (r.2=0->r'.2=0->s.2=0->VF r.1/\VF r'.1/\(∀ e∈[qa.mk 7 [] mP [] [.mk 5 [] mP [] [x,y],.mk 1 [] (inV 0) [] []],.mk 13 [104,101,97,100] mP [] [.mk 5 [] mP [] [x,y]],.mk 7 [] mP [] [.mk 5 [] mP [] [x,y],.mk 8 [] mP [] [.mk 1 [] (inV 2) [] []]],.mk 4 [107] mP [] [.mk 6 [] mP [[107],[97,32,98]] [x,y]]],zA 68719476736 e a=some (r.1,0)) /\
    zA 68719476736 (.mk 13 [108,97,115,116] mP [] [.mk 5 [] mP [] [x,y]]) a=some (r'.1,0)/\zA 68719476736 (.mk 13 [115,105,122,101] mP [] [.mk 6 [] mP [[107],[97,32,98]] [x,y]]) a=some (inV 2,0) /\
    zA 68719476736 (.mk 7 [] mP [] [.mk 6 [] mP [[107],[97,32,98]] [x,y],.mk 1 [] (.mk 3 false 0 [97,32,98] [] []) [] []]) a=some (r'.1,0)):=by
  intro V e2 K;obtain⟨r,H⟩:=tk (u K) (I V) (by omega);obtain⟨r',f⟩:=tk (u K) (J e2) (by omega);have b:=oz (name:=[]) (val:=mP) (nms:=[]) (by decide) H f;obtain⟨O,a2⟩:=Ux r;obtain⟨X,b2⟩:=Ux r';obtain⟨P,c2⟩:=Ux (Co r r' fun v w=>UR (lsV v w))
  refine⟨Pb r,Pb r',Pb (Co r r' fun v w=>UR (lsV v w)),Uw H (by decide) (by decide) (by decide),Uw f (by decide) (by decide) (by decide),Uw b (by decide) (by decide) (by decide),?_,?_,?_⟩
  ·rw[O,P]
   intro h;unfold Co;have:(r.2 != 0)=true:=by simpa using h
   rw[this];exact h
  ·rw[X,P]
   intro h;unfold Co;have:(r'.2 != 0)=true:=by simpa using h
   rw[this];cases hz:r.2 != 0 with
   | true=>
    have h2:r.2≠0:=by simpa using hz
    exact h2
   | false=>exact h
  ·rw[O,X,P]
   intro h1 h2 h3;rw[a2 h1,b2 h2];obtain⟨v,ev⟩:=r;obtain⟨w,ew⟩:=r'
   dsimp only at h1 h2 h3 ⊢
   subst h1 h2;obtain⟨B,j⟩:=oD h3;have Y:Co (v,0) (w,0) (fun v w=>UR (lsV v w))=(lsV v w,0):=j
   rw[Y]at b;have m:=H.1 rfl;have d:=f.1 rfl;have o:=qce (name:=[]) (val:=mP) (by decide) H f B;have fin:=fun{M:Nat} {e:qa} {q:Val} (h:Res M ⟨a.v,a.g,a.params⟩ e (q,0)) (hM:M<=68719476736) (Q:34359738368<=M)=>Uw h Q hM (by decide);refine⟨m,d,fun e he=>?_,?_,?_,?_⟩
   ·simp only[List.mem_cons,List.not_mem_nil,or_false]at he
    rcases he with rfl|rfl|rfl|rfl
    ·exact fin (qas (by decide) b ((ai 0 (by decide)).up (by decide)) m fun n=>qdm n) (by decide) (by decide)
    ·exact fin (ow (by decide) b m) (by decide) (by decide)
    ·exact fin (qas (by decide) b (oA.up (by decide)) m fun n=>qdn n) (by decide) (by decide)
    exact fin (aj (by decide) o m) (by decide) (by decide)
   ·exact fin (oy (by decide) b d) (by decide) (by decide)
   ·exact fin (oB (by decide) o) (by decide) (by decide)
   exact fin (ov (by decide) o ((qcf _ (by decide)).up (by decide)) d) (by decide) (by decide)
 obtain⟨x1,x2,⟨x3,x4,x5,x6,x7,x8⟩,x9,x10⟩:=x;obtain⟨y1,y2,⟨y3,y4,y5,y6,y7,y8⟩,y9,y10⟩:=y;obtain⟨⟨O,a2⟩,⟨a3,a4⟩,⟨a5,a6,a7,a8,a9,a10⟩⟩:=a;unfold bF
 dsimp only
 rw[hl,zl]
 dsimp only at F G hm
 rw[F,G,hm,hw];cases bl with
 | true=>rfl
 | false=>
  cases T with
  | false=>rfl
  | true=>
   cases t with
   | false=>rfl
   | true=>
    cases U with
    | false=>rfl
    | true=>
     obtain⟨r,r',s,q1,q2,q3,Z,q5,q6⟩:=A rfl rfl rfl;simp only[Bool.not_true,Bool.not_false,gL,zl,qw];rw[q1,zl];obtain⟨⟨z1,z2,z3,z4,z5,z6⟩,e⟩:=r
     dsimp only
     rw[q2,zl];obtain⟨⟨w1,w2,w3,w4,w5,w6⟩,e'⟩:=r'
     dsimp only
     rw[q3,zl];obtain⟨⟨u1,u2,u3,u4,u5,u6⟩,C⟩:=s
     dsimp only at Z q5 q6 ⊢
     cases h3:C != 0 with
     | true=>
      have ht:∀ c:Bool,(bif c then true else true)=true:=fun c=>by cases c<;>rfl
      rw[ht,zm,gL];rfl
     | false=>
      have i:C=0:=by simpa using h3
      have D:e=0:=by
       by_cases h:e=0
       ·exact h
       exact absurd i (Z h)
      have E:e'=0:=by
       by_cases h:e'=0
       ·exact h
       exact absurd i (q5 h)
      obtain⟨m,d,R,s1,s2,s3⟩:=q6 D E i;subst D E i;have z:((0:Int) != 0)=false:=rfl;rw[z];simp only[qw,Xb,qar,zl];unfold cc
      revert R
      generalize hLe:[qa.mk 7 [] mP [] [_,qa.mk 1 [] (inV 0) [] []],qa.mk 13 _ _ _ _,qa.mk 7 _ _ _ _,qa.mk 4 _ _ _ _]=L;intro R;have hlen:L.length=4:=by rw[← hLe]; rfl
      clear hLe;refine(sE (st:=fun k:Nat=>((k:Nat):Int)) L.length (fun k S nx=>?_) (fun nx=>?_) (by omega:L.length<68719476736):_)
      ·rw[zM,gg S,zm,zG (xG S),zl]
       have hp:=R L[k] (List.getElem_mem S);generalize L[k]=e at hp ⊢;obtain⟨V,e2,⟨K,Y,e5,e6,e7,e8⟩,e9,e10⟩:=e
       dsimp only at hp ⊢
       rw[hp,zl]
       dsimp only
       rw[xW (by omega),XN m (by decide) (by decide)];rfl
      rw[zM,xZ,qw,s1,zl]
      dsimp only
      rw[s2,zl]
      dsimp only
      rw[s3,zl]
      dsimp only
      rw[XN d (by decide) (by decide)];rfl
end W
end
